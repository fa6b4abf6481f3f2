import Derived.Test.YtoadgikbbigdlaaMsBPD
import Derived.Test.YtoadgikbbigdlaaMsBPQ
namespace Go.Proofs.Ytoadgikbbigdlaa.B
open Go.RowKit Go.Proofs.YtoadgikbbigdlaaW.PrintWords Go.Proofs.YtoadgikbbigdlaaW.PrintLast Go.Proofs.YtoadgikbbigdlaaW.PrintMore
set_option linter.unusedVariables false
theorem stored_j0 {l : List Int} (hD : DC l) {a s : Int} (h0 : 0 ≤ a) (h1 : a ≤ 3000) (x5 : List S50) (x6 : Int) (x7 : List S62) (hp : 0 < x7.length) (hx : ∀ x ∈ x7,(x.f1.length : Int) ≤ 12) :
  ∃ r,Ev (fun k => spec_l1Cur_stored.j0 k x5 x6 x7 l a s) r ∧ r.1 = x5 ∧ r.2.1.length = x7.length ∧ (∀ x ∈ r.2.1,(x.f1.length : Int) ≤ 13) ∧ 0 ≤ r.2.2.2.1 ∧ r.2.2.2.1 ≤ a + 2 := by
 obtain ⟨r,e,p1,p2,p3,p4⟩ := pick_ok hD (s := s) (n := 20) h0 (by omega) (by omega);have hc : 0 < (x7.length : Int) := by omega
 have hm : x7.getD 0 z62 ∈ x7 := getD_mem z62 hp;have h12 := hx _ hm;have hr : rd_T62 x7 0 = x7.getD 0 z62 := rfl;have hset : ∀ (y : S62),(y.f1.length : Int) ≤ 13 → ∀ x ∈ x7.set (0 : Int).toNat y,(x.f1.length : Int) ≤ 13 := by
  intro y hy x h
  rcases List.mem_or_eq_of_mem_set h with h | h
  ·have := hx x h;omega
  ·rw [h];exact hy
 by_cases c0 : r.1 = 0
 ·obtain ⟨q,eq,q1,q2⟩ := among_ok hD (s := r.2.2) p3 (by omega) [1,5000,2] (by decide) (by decide);refine ⟨(x5,x7.set (0 : Int).toNat (⟨(x7.getD 0 z62).f0,(x7.getD 0 z62).f1 ++ [q.1]⟩ : S62),x6,q.2.1,q.2.2),Ev.succ ?_,rfl,by simp,hset _ (by show (((x7.getD 0 z62).f1 ++ [q.1]).length : Int) ≤ 13; rw [List.length_append,List.length_singleton]; omega),q1,by show q.2.1 ≤ _; omega⟩;simp only [spec_l1Cur_stored.j0,if_pos hc,e,Option.bind_some,if_pos c0,hr,own_eq _ (show (x7.getD 0 z62).f1.length < 17592186044416 by omega),eq,if_pos (show (x7.getD 0 z62).f1.length < 17592186044416 by omega)];exact Ev.now _
 by_cases c1 : r.1 = 1
 ·obtain ⟨q,eq,q1,q2⟩ := among_ok hD (s := r.2.2) p3 (by omega) [0,1,10000] (by decide) (by decide);refine ⟨(x5,x7.set (0 : Int).toNat (⟨q.1,(x7.getD 0 z62).f1⟩ : S62),x6,q.2.1,q.2.2),Ev.succ ?_,rfl,by simp,hset _ (by show ((x7.getD 0 z62).f1.length : Int) ≤ 13; omega),q1,by show q.2.1 ≤ _; omega⟩;simp only [spec_l1Cur_stored.j0,if_pos hc,e,Option.bind_some,if_neg c0,if_pos c1,hr,eq];exact Ev.now _
 have same : Ev (fun _ => some (x5,(x7.set (0 : Int).toNat (⟨(x7.getD 0 z62).f0,(x7.getD 0 z62).f1⟩ : S62)),x6,r.2.1,r.2.2)) (x5,(x7.set (0 : Int).toNat (⟨(x7.getD 0 z62).f0,(x7.getD 0 z62).f1⟩ : S62)),x6,r.2.1,r.2.2) := Ev.now _;by_cases c2 : r.1 = 2
 ·by_cases c3 : ((x7.getD 0 z62).f1.length : Int) > 0
  ·refine ⟨(x5,x7.set (0 : Int).toNat (⟨(x7.getD 0 z62).f0,(x7.getD 0 z62).f1.drop 1⟩ : S62),x6,r.2.1,r.2.2),Ev.succ ?_,rfl,by simp,hset _ (by show (((x7.getD 0 z62).f1.drop 1).length : Int) ≤ 13; rw [List.length_drop]; omega),p3,by show r.2.1 ≤ _; omega⟩;simp only [spec_l1Cur_stored.j0,if_pos hc,e,Option.bind_some,if_neg c0,if_neg c1,if_pos c2,hr,if_pos c3,if_pos (show 1 ≤ ((x7.getD 0 z62).f1.length : Int) by omega),own_eq _ (show ((x7.getD 0 z62).f1.drop 1).length < 17592186044416 by rw [List.length_drop]; omega)];exact Ev.now _
  ·refine ⟨(x5,(x7.set (0 : Int).toNat (⟨(x7.getD 0 z62).f0,(x7.getD 0 z62).f1⟩ : S62)),x6,r.2.1,r.2.2),Ev.succ ?_,rfl,by simp,hset _ (by show ((x7.getD 0 z62).f1.length : Int) ≤ 13; omega),p3,by show r.2.1 ≤ _; omega⟩;simp only [spec_l1Cur_stored.j0,if_pos hc,e,Option.bind_some,if_neg c0,if_neg c1,if_pos c2,hr,if_neg c3];exact same
 ·refine ⟨(x5,(x7.set (0 : Int).toNat (⟨(x7.getD 0 z62).f0,(x7.getD 0 z62).f1⟩ : S62)),x6,r.2.1,r.2.2),Ev.succ ?_,rfl,by simp,hset _ (by show ((x7.getD 0 z62).f1.length : Int) ≤ 13; omega),p3,by show r.2.1 ≤ _; omega⟩;simp only [spec_l1Cur_stored.j0,if_pos hc,e,Option.bind_some,if_neg c0,if_neg c1,if_neg c2,hr];exact same
theorem stored_draw {l : List Int} (hD : DC l) {a s : Int} (h0 : 0 ≤ a) (h1 : a ≤ 1000) :
  ∃ r,Ev (fun k => spec_l1Cur_stored.f k l a s) r ∧ r.1.length ≤ 13 ∧ (0 < r.2.1.length ∧ r.2.1.length ≤ 13) ∧ (∀ x ∈ r.2.1,(x.f1.length : Int) ≤ 13) ∧ 0 ≤ r.2.2.2.1 ∧ r.2.2.2.1 ≤ a + 100 := by
 obtain ⟨t,et,t1,t2,t3⟩ := items_draw hD (s := s) h0 h1;obtain ⟨c,ec,c1,c2⟩ := capacity_draw hD (s := t.2.2) t2 (by omega);obtain ⟨r,b,r1,r2,er⟩ := pack_spec (l0 := t.1) (by omega) c.1;cases b with
 | false =>
  refine ⟨(t.1,[(⟨1,[1]⟩ : S62)],c.1,c.2.1,c.2.2),?_,t1,by simp,by simp,c1,by show c.2.1 ≤ _; omega⟩;unfold spec_l1Cur_stored.f;refine Ev.bind et ?_;simp only [ec,Option.bind_some];refine Ev.bind er ?_;simp only [Bool.false_eq_true,if_false];exact Ev.now _
 | true =>
  by_cases hq : (r.length : Int) < 11
  ·obtain ⟨q,eq,q1,q2,q3,q4⟩ := pick_ok hD (s := c.2.2) (n := 5) c1 (by omega) (by omega);obtain ⟨u,eu,u1,u2,u3,u4,u5⟩ := stored_j0 hD (s := q.2.2) q3 (by omega) t.1 c.1 (r ++ [(⟨wrap64 ((wrap64 ((r.length : Int) + 1)) + q.1),(([] : List Int))⟩ : S62)]) (by simp) (by
    intro x hx
    rcases List.mem_append.1 hx with h | h
    ·exact r2 x h
    ·rw [List.mem_singleton.1 h];simp)
   refine ⟨u,?_,by rw [u1]; exact t1,by rw [u2]; simp; omega,u3,u4,by omega⟩;unfold spec_l1Cur_stored.f;refine Ev.bind et ?_;simp only [ec,Option.bind_some];refine Ev.bind er ?_;simp only [if_true,if_pos hq,eq,Option.bind_some,if_pos (show r.length < 4398046511104 by omega)];exact eu
  ·obtain ⟨u,eu,u1,u2,u3,u4,u5⟩ := stored_j0 hD (s := c.2.2) c1 (by omega) t.1 c.1 r (by omega) r2;refine ⟨u,?_,by rw [u1]; exact t1,by rw [u2]; omega,u3,u4,by omega⟩;unfold spec_l1Cur_stored.f;refine Ev.bind et ?_;simp only [ec,Option.bind_some];refine Ev.bind er ?_;simp only [if_true,if_neg hq];exact eu
theorem one_ok {l : List Int} (hD : DC l) {a s n : Int} (h0 : 0 ≤ a) (h1 : a ≤ 100000) (hn : n ≤ 200) : ∃ r,spec_l1Cur_one.f l a s n = some r ∧ 0 ≤ r.2.1 ∧ r.2.1 ≤ a + 1 := by
 obtain ⟨r,e,p1,p2,p3,p4⟩ := pick_ok hD (s := s) (n := n) h0 h1 hn;unfold spec_l1Cur_one.f;simp only [e,Option.bind_some];exact ⟨_,rfl,p3,p4⟩
theorem draw_j1 {l : List Int} (hD : DC l) {a s : Int} (h0 : 0 ≤ a) (h1 : a ≤ 3000) (x8 : List S50) (x9 : List S62) (hp : 0 < x9.length) (hl : x9.length ≤ 13) (x10 x11 : Int) :
  ∃ r,Ev (fun k => spec_DrawMoveItem.j1 k x8 x9 x10 x11 l a s) r ∧ r.1 = x8 ∧ r.2.1 = x9 := by
 obtain ⟨r,e,p1,p2,p3,p4⟩ := pick_ok hD (s := s) (n := 9) h0 (by omega) (by omega);obtain ⟨q,eq,q1,q2⟩ := one_ok hD (s := r.2.2) (n := 12) p3 (by omega) (by omega);by_cases c : q.1 = true
 ·refine ⟨(x8,x9,x10,x11,r.1),Ev.succ ?_,rfl,rfl⟩;simp only [spec_DrawMoveItem.j1,e,eq,Option.bind_some,if_pos c];exact Ev.now _
 ·obtain ⟨u,eu,u1,u2,u3,u4⟩ := pick_ok hD (s := q.2.2) (n := (x9.length : Int)) q1 (by omega) (by omega);refine ⟨(x8,x9,x10,x11,(rd_T62 x9 u.1).f0),Ev.succ ?_,rfl,rfl⟩;simp only [spec_DrawMoveItem.j1,e,eq,Option.bind_some,if_neg c,eu,if_pos u1,if_pos (show u.1 < (x9.length : Int) by omega)];exact Ev.now _
theorem move_draw {l : List Int} (hD : DC l) :
  ∃ r,Ev (fun k => spec_DrawMoveItem.f k l) r ∧ r.1.length ≤ 13 ∧ r.2.1.length ≤ 13 ∧ (∀ x ∈ r.2.1,(x.f1.length : Int) ≤ 13) := by
 obtain ⟨t,et,t1,⟨t2,t3⟩,t4,t5,t6⟩ := stored_draw hD (a := 0) (s := 0) (by omega) (by omega);obtain ⟨r,e,p1,p2,p3,p4⟩ := pick_ok hD (s := t.2.2.2.2) (n := 10) t5 (by omega) (by omega);have fin : ∀ (x11 a s : Int) (c : Bool),0 ≤ a → a ≤ 2000 → (c = true → 0 < t.1.length) → ∃ r,Ev (fun k => spec_DrawMoveItem.j0 k t.1 t.2.1 t.2.2.1 x11 c l a s) r ∧ r.1 = t.1 ∧ r.2.1 = t.2.1 := by
  intro x11 a s c h0 h1 hc;cases c with
  | false =>
   obtain ⟨u,eu,u1,u2⟩ := draw_j1 hD (s := s) h0 (by omega) t.1 t.2.1 t2 t3 t.2.2.1 x11;refine ⟨u,Ev.succ ?_,u1,u2⟩;simp only [spec_DrawMoveItem.j0,Bool.false_eq_true,if_false];exact eu
  | true =>
   have hp := hc rfl;obtain ⟨q,eq,q1,q2,q3,q4⟩ := pick_ok hD (s := s) (n := (t.1.length : Int)) h0 (by omega) (by omega);obtain ⟨u,eu,u1,u2⟩ := draw_j1 hD (s := q.2.2) q3 (by omega) t.1 t.2.1 t2 t3 t.2.2.1 (rd_T50 t.1 q.1).f0;refine ⟨u,Ev.succ ?_,u1,u2⟩;simp only [spec_DrawMoveItem.j0,if_true,eq,Option.bind_some,if_pos q1,if_pos (show q.1 < (t.1.length : Int) by omega)];exact eu
 by_cases c : (t.1.length : Int) > 0
 ·obtain ⟨q,eq,q1,q2⟩ := one_ok hD (s := r.2.2) (n := 12) p3 (by omega) (by omega);obtain ⟨u,eu,u1,u2⟩ := fin r.1 q.2.1 q.2.2 (!q.1) q1 (by omega) (fun _ => by omega);refine ⟨u,?_,by rw [u1]; exact t1,by rw [u2]; exact t3,by rw [u2]; exact t4⟩;unfold spec_DrawMoveItem.f;refine Ev.bind et ?_;simp only [e,Option.bind_some,if_pos c,eq];exact eu
 ·obtain ⟨u,eu,u1,u2⟩ := fin r.1 r.2.1 r.2.2 false p3 (by omega) (fun h => by cases h);refine ⟨u,?_,by rw [u1]; exact t1,by rw [u2]; exact t3,by rw [u2]; exact t4⟩;unfold spec_DrawMoveItem.f;refine Ev.bind et ?_;simp only [e,Option.bind_some,if_neg c];exact eu
theorem share_draw {l : List Int} (hD : DC l) : ∃ r,spec_DrawMayShare.f l = some r := by
 obtain ⟨r,e,p1,p2,p3,p4⟩ := pick_ok hD (a := 0) (s := 0) (n := 6) (by omega) (by omega) (by omega);obtain ⟨q,eq,q1,q2,q3,q4⟩ := pick_ok hD (s := r.2.2) (n := 4) p3 (by omega) (by omega);unfold spec_DrawMayShare.f;simp only [e,eq,Option.bind_some];exact ⟨_,rfl⟩
end Go.Proofs.Ytoadgikbbigdlaa.B
