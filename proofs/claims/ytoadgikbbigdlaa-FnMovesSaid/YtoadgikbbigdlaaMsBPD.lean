import Derived.Test.YtoadgikbbigdlaaMsBPK
namespace Go.Proofs.Ytoadgikbbigdlaa.B
open Go.RowKit Go.Proofs.YtoadgikbbigdlaaW.PrintWords Go.Proofs.YtoadgikbbigdlaaW.PrintLast Go.Proofs.YtoadgikbbigdlaaW.PrintMore
set_option linter.unusedVariables false
def DC (l : List Int) : Prop := (∀ x ∈ l,0 ≤ x ∧ x ≤ 255) ∧ l.length ≤ 65536
theorem and255 (x : Int) : 0 ≤ Go.bits .and .u64 x 255 ∧ Go.bits .and .u64 x 255 ≤ 255 := by
 have h : (BitVec.ofInt 64 x &&& BitVec.ofInt 64 255).toNat ≤ 255 := by
  rw [BitVec.toNat_and];exact Nat.le_trans Nat.and_le_right (by decide)
 have e : Go.bits .and .u64 x 255 = IntKind.u64.wrap ((BitVec.ofInt 64 x &&& BitVec.ofInt 64 255).toNat : Int) := rfl;rw [e,IntKind.wrap_u64];omega
theorem next_ok {l : List Int} (hD : DC l) {a s : Int} (h0 : 0 ≤ a) (h1 : a ≤ 100000) : ∃ r,spec_l1Cur_next.f l a s = some r ∧ 0 ≤ r.1 ∧ r.1 ≤ 255 ∧ 0 ≤ r.2.1 ∧ r.2.1 ≤ a + 1 := by
 have hl := hD.2;have hw : wrap64 (a + 1) = a + 1 := by unfold wrap64; omega
 unfold spec_l1Cur_next.f;by_cases c : a < (l.length : Int)
 ·have hm : rd l a ∈ l := by
   unfold rd;exact getD_mem 0 (by omega)
  have hb := hD.1 _ hm;have hr : wrap64 (rd l a) = rd l a := by unfold wrap64; omega
  simp only [if_pos c,if_pos h0,hw,hr,if_pos (show a + 1 ≤ (l.length : Int) by omega)];exact ⟨_,rfl,hb.1,hb.2,by show 0 ≤ a + 1; omega,by show a + 1 ≤ a + 1; omega⟩
 ·simp only [if_neg c,hw,if_neg (show ¬ a + 1 ≤ (l.length : Int) by omega)];refine ⟨_,rfl,?_,?_,?_,?_⟩
  ·show 0 ≤ wrap64 (Go.bits .and .u64 _ 255)
   obtain ⟨q1,q2⟩ := and255 (IntKind.u64.wrap ((IntKind.u64.wrap ((IntKind.u64.wrap (s * 6364136223846793005)))) + 876876) / 1099511627776);generalize Go.bits .and .u64 _ 255 = z at *;unfold wrap64; omega
  ·show wrap64 (Go.bits .and .u64 _ 255) ≤ 255
   obtain ⟨q1,q2⟩ := and255 (IntKind.u64.wrap ((IntKind.u64.wrap ((IntKind.u64.wrap (s * 6364136223846793005)))) + 876876) / 1099511627776);generalize Go.bits .and .u64 _ 255 = z at *;unfold wrap64; omega
  ·show 0 ≤ a + 1; omega
  ·show a + 1 ≤ a + 1; omega
theorem pick_ok {l : List Int} (hD : DC l) {a s n : Int} (h0 : 0 ≤ a) (h1 : a ≤ 100000) (hn : n ≤ 200) : ∃ r,spec_l1Cur_pick.f l a s n = some r ∧ 0 ≤ r.1 ∧ (r.1 < n ∨ r.1 = 0) ∧ 0 ≤ r.2.1 ∧ r.2.1 ≤ a + 1 := by
 unfold spec_l1Cur_pick.f;by_cases c : n ≤ 1
 ·simp only [if_pos c];exact ⟨_,rfl,Int.le_refl _,.inr rfl,h0,by show a ≤ a + 1; omega⟩
 ·obtain ⟨r,e,p1,p2,p3,p4⟩ := next_ok hD (s := s) h0 h1;simp only [if_neg c,e,Option.bind_some,if_neg (show ¬ n > 200 by omega),if_neg (show ¬ n = 0 by omega)];exact ⟨_,rfl,Int.tmod_nonneg n p1,.inl (Int.tmod_lt_of_pos r.1 (by omega)),p3,p4⟩
theorem among_ok {l : List Int} (hD : DC l) {a s : Int} (h0 : 0 ≤ a) (h1 : a ≤ 100000) (l1 : List Int) (hp : 0 < l1.length) (hn : l1.length ≤ 200) : ∃ r,spec_l1Cur_among.f l a s l1 = some r ∧ 0 ≤ r.2.1 ∧ r.2.1 ≤ a + 1 := by
 obtain ⟨r,e,p1,p2,p3,p4⟩ := pick_ok hD (s := s) (n := (l1.length : Int)) h0 h1 (by omega);unfold spec_l1Cur_among.f;simp only [e,Option.bind_some,if_pos p1,if_pos (show r.1 < (l1.length : Int) by omega)];exact ⟨_,rfl,p3,p4⟩
theorem draw_l1 {l : List Int} (hD : DC l) : ∀ (n : Nat) (x3 : List S50) (a s : Int),x3.length + n = 13 → 0 ≤ a → a + n ≤ 90000 → ∃ r,Ev (fun k => spec_l1Cur_items.l1 k x3 l a s) r ∧ r.1.length ≤ 13 ∧ 0 ≤ r.2.1 ∧ r.2.1 ≤ a + n + 1
 | 0,x3,a,s,h,h0,h1 => by
  obtain ⟨r,e,p1,p2,p3,p4⟩ := pick_ok hD (s := s) (n := 2) h0 (by omega) (by omega);have hw : wrap64 (12 + r.1) = 12 + r.1 := by unfold wrap64; omega
  refine ⟨(x3,r.2.1,r.2.2),Ev.succ ?_,by show x3.length ≤ 13; omega,p3,by show r.2.1 ≤ _; omega⟩;simp only [spec_l1Cur_items.l1,e,Option.bind_some,hw,if_neg (show ¬ (x3.length : Int) < 12 + r.1 by omega)];exact Ev.now _
 | n + 1,x3,a,s,h,h0,h1 => by
  obtain ⟨r,e,p1,p2,p3,p4⟩ := pick_ok hD (s := s) (n := 2) h0 (by omega) (by omega);have hw : wrap64 (12 + r.1) = 12 + r.1 := by unfold wrap64; omega
  by_cases c : (x3.length : Int) < 12 + r.1
  ·obtain ⟨q,eq,q1,q2,q3⟩ := draw_l1 hD n (x3 ++ [(⟨wrap64 (100 + (x3.length : Int)),1,1⟩ : S50)]) r.2.1 r.2.2 (by simp; omega) p3 (by omega);refine ⟨q,Ev.succ ?_,q1,q2,by omega⟩;simp only [spec_l1Cur_items.l1,e,Option.bind_some,hw,if_pos c,if_pos (show x3.length < 5864062014805 by omega)];exact eq
  ·refine ⟨(x3,r.2.1,r.2.2),Ev.succ ?_,by show x3.length ≤ 13; omega,p3,by show r.2.1 ≤ _; omega⟩;simp only [spec_l1Cur_items.l1,e,Option.bind_some,hw,if_neg c];exact Ev.now _
theorem draw_l0 {l : List Int} (hD : DC l) : ∀ (n : Nat) (x3 : List S50) (x4 a s : Int),x3.length + n ≤ 8 → 0 ≤ a → a + 3 * n ≤ 80000 → ∃ r,Ev (fun k => spec_l1Cur_items.l0 k x3 x4 (n : Int) l a s) r ∧ r.1.length ≤ 13 ∧ 0 ≤ r.2.1 ∧ r.2.1 ≤ a + 3 * n + 20
 | 0,x3,x4,a,s,h,h0,h1 => by
  obtain ⟨r,e,p1,p2,p3,p4⟩ := pick_ok hD (s := s) (n := 40) h0 (by omega) (by omega);have hc : ¬ ((0 : Nat) : Int) > 0 := by omega
  have hs : x3.length < 5864062014805 := by omega
  by_cases c0 : r.1 = 0
  ·obtain ⟨q,eq,q1,q2⟩ := among_ok hD (s := r.2.2) p3 (by omega) [0,1,9999,10000] (by decide) (by decide);refine ⟨(x3 ++ [(⟨q.1,1,5⟩ : S50)],q.2.1,q.2.2),Ev.succ ?_,by simp; omega,q1,by show q.2.1 ≤ _; omega⟩;simp only [spec_l1Cur_items.l0,if_neg hc,e,Option.bind_some,if_pos c0,eq,if_pos hs];exact Ev.now _
  by_cases c1 : r.1 = 1
  ·obtain ⟨q,eq,q1,q2⟩ := among_ok hD (s := r.2.2) p3 (by omega) [0,5] (by decide) (by decide);refine ⟨(x3 ++ [(⟨9000,q.1,5⟩ : S50)],q.2.1,q.2.2),Ev.succ ?_,by simp; omega,q1,by show q.2.1 ≤ _; omega⟩;simp only [spec_l1Cur_items.l0,if_neg hc,e,Option.bind_some,if_neg c0,if_pos c1,eq,if_pos hs];exact Ev.now _
  by_cases c2 : r.1 = 2
  ·obtain ⟨q,eq,q1,q2⟩ := among_ok hD (s := r.2.2) p3 (by omega) [0,1000,1001] (by decide) (by decide);refine ⟨(x3 ++ [(⟨9000,1,q.1⟩ : S50)],q.2.1,q.2.2),Ev.succ ?_,by simp; omega,q1,by show q.2.1 ≤ _; omega⟩;simp only [spec_l1Cur_items.l0,if_neg hc,e,Option.bind_some,if_neg c0,if_neg c1,if_pos c2,eq,if_pos hs];exact Ev.now _
  by_cases c3 : r.1 = 3
  ·obtain ⟨q,eq,q0,q1,q2⟩ := draw_l1 hD (13 - x3.length) x3 r.2.1 r.2.2 (by omega) p3 (by omega);refine ⟨q,Ev.succ ?_,q0,q1,by omega⟩;simp only [spec_l1Cur_items.l0,if_neg hc,e,Option.bind_some,if_neg c0,if_neg c1,if_neg c2,if_pos c3];exact eq
  ·refine ⟨(x3,r.2.1,r.2.2),Ev.succ ?_,by show x3.length ≤ 13; omega,p3,by show r.2.1 ≤ _; omega⟩;simp only [spec_l1Cur_items.l0,if_neg hc,e,Option.bind_some,if_neg c0,if_neg c1,if_neg c2,if_neg c3];exact Ev.now _
 | n + 1,x3,x4,a,s,h,h0,h1 => by
  obtain ⟨r,e,p1,p2,p3,p4⟩ := pick_ok hD (s := s) (n := 5) h0 (by omega) (by omega);obtain ⟨q,eq,q1,q2⟩ := among_ok hD (s := r.2.2) p3 (by omega) [1,1,1,2,3,4] (by decide) (by decide);obtain ⟨u,eu,u1,u2⟩ := among_ok hD (s := q.2.2) q1 (by omega) [1,10,30,50,60,100] (by decide) (by decide);have hc : ((n + 1 : Nat) : Int) > 0 := by omega
  have hw : wrap64 (((n + 1 : Nat) : Int) - 1) = (n : Int) := by unfold wrap64; omega
  obtain ⟨v,ev,v0,v1,v2⟩ := draw_l0 hD n (x3 ++ [(⟨wrap64 ((wrap64 (x4 + 1)) + r.1),q.1,u.1⟩ : S50)]) (wrap64 ((wrap64 (x4 + 1)) + r.1)) u.2.1 u.2.2 (by simp; omega) u1 (by omega);refine ⟨v,Ev.succ ?_,v0,v1,by omega⟩;simp only [spec_l1Cur_items.l0,if_pos hc,e,Option.bind_some,eq,eu,if_pos (show x3.length < 5864062014805 by omega),hw];exact ev
theorem items_draw {l : List Int} (hD : DC l) {a s : Int} (h0 : 0 ≤ a) (h1 : a ≤ 1000) : ∃ r,Ev (fun k => spec_l1Cur_items.f k l a s) r ∧ r.1.length ≤ 13 ∧ 0 ≤ r.2.1 ∧ r.2.1 ≤ a + 50 := by
 obtain ⟨r,e,p1,p2,p3,p4⟩ := pick_ok hD (s := s) (n := 3) h0 (by omega) (by omega);obtain ⟨q,eq,q1,q2,q3,q4⟩ := pick_ok hD (s := r.2.2) (n := 8) p3 (by omega) (by omega);obtain ⟨v,ev,v0,v1,v2⟩ := draw_l0 hD q.1.toNat [] r.1 q.2.1 q.2.2 (by simp; omega) q3 (by omega);rw [Int.toNat_of_nonneg q1] at ev;refine ⟨v,?_,v0,v1,by omega⟩;unfold spec_l1Cur_items.f;simp only [e,eq,Option.bind_some];exact ev
theorem capacity_draw {l : List Int} (hD : DC l) {a s : Int} (h0 : 0 ≤ a) (h1 : a ≤ 2000) : ∃ r,spec_l1Cur_capacity.f l a s = some r ∧ 0 ≤ r.2.1 ∧ r.2.1 ≤ a + 2 := by
 obtain ⟨r,e,p1,p2,p3,p4⟩ := pick_ok hD (s := s) (n := 40) h0 (by omega) (by omega);have hq : wrap64 (6 + wrap64 (Int.tdiv r.1 20)) = 6 ∨ wrap64 (6 + wrap64 (Int.tdiv r.1 20)) = 7 := by
  rw [Int.tdiv_eq_ediv_of_nonneg p1];unfold wrap64;omega
 unfold spec_l1Cur_capacity.f;simp only [Option.bind_some,e]
 rcases hq with hq | hq
 ·obtain ⟨q,eq,q1,q2⟩ := among_ok hD (s := r.2.2) p3 (by omega) (([100,100,110,150,1000,60,0,10001] : List Int).take (6 : Int).toNat) (by decide) (by decide);simp only [hq,eq,Option.bind_some,if_pos (show (0 : Int) ≤ 6 by decide),if_pos (show (6 : Int) ≤ (([100,100,110,150,1000,60,0,10001] : List Int).length : Int) by decide)];exact ⟨_,rfl,q1,by show q.2.1 ≤ _; omega⟩
 ·obtain ⟨q,eq,q1,q2⟩ := among_ok hD (s := r.2.2) p3 (by omega) (([100,100,110,150,1000,60,0,10001] : List Int).take (7 : Int).toNat) (by decide) (by decide);simp only [hq,eq,Option.bind_some,if_pos (show (0 : Int) ≤ 7 by decide),if_pos (show (7 : Int) ≤ (([100,100,110,150,1000,60,0,10001] : List Int).length : Int) by decide)];exact ⟨_,rfl,q1,by show q.2.1 ≤ _; omega⟩
end Go.Proofs.Ytoadgikbbigdlaa.B
