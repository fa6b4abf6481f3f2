import Derived.Test.YtoadgikbbigdlaaMsBPE
import Derived.Test.YtoadgikbbigdlaaMsBPM
import Derived.Test.YtoadgikbbigdlaaMsBx18
namespace Go.Proofs.Ytoadgikbbigdlaa.B
open Go.RowKit Go.Proofs.YtoadgikbbigdlaaW.PrintWords Go.Proofs.YtoadgikbbigdlaaW.PrintLast Go.Proofs.YtoadgikbbigdlaaW.PrintMore
set_option linter.unusedVariables false
theorem move_sides2 {l0 : List S50} {l1 : List S62} (h0 : (l0.length : Int) ≤ 1048576) (h1 : (l1.length : Int) ≤ 1048576) (hx : ∀ x ∈ l1,(x.f1.length : Int) ≤ 1048576) (cap n m : Int) :
  ∃ r b,(r.length : Int) ≤ 1048576 ∧ (∀ x ∈ r,(x.f1.length : Int) ≤ 4194304) ∧ Ev (fun k => spec_MoveItem.f k l0 l1 cap n m) (r,b) ∧ Ev (fun k => impl_MoveItem.f k l0 l1 cap n m) (r,b) ∧ (b = false → r = []) ∧ (b = true → r = l1.map (movedS n m) ∧ ALL l0 cap [] none l1 ∧ ALL l0 cap [] none r ∧ (l1.any fun x => x.f0 == m) = true ∧ ItemsOK l0 ∧ Ev (fun k => impl_IsValidArchive.f k l0 r cap) true) := by
 obtain ⟨t,e1,e2,e3⟩ := valid_sides h0 h1 (fun x hx' => by have := hx x hx'; omega) cap;have hF := l26Find_ev (l := l0) n (by omega);have jT : Ev (fun k => spec_MoveItem.j0 k l0 l1 cap n m [] true) ([],false) := by
  refine Ev.succ ?_;simp only [spec_MoveItem.j0,if_true];exact Ev.now _
 cases t with
 | false =>
  refine ⟨[],false,by simp,by simp,?_,?_,fun _ => rfl,fun h => by cases h⟩
  ·unfold spec_MoveItem.f;simp only [Option.bind_some];refine Ev.bind e2 ?_;simp only [Bool.false_eq_true,if_false];exact jT
  ·unfold impl_MoveItem.f;refine Ev.bind e1 ?_;simp only [Bool.false_eq_true,false_and,if_false];exact Ev.now _
 | true =>
  obtain ⟨hI,hl12,hA⟩ := e3 rfl;have hmap : l1.map (moved1 n m) = l1.map (movedS n m) := List.map_congr_left fun x hx' => moved_eq n m x (ALL_rising l1 [] none hA x hx')
  by_cases hk : findI (fun x : S50 => x.f0 == n) l0 0 < 0
  ·refine ⟨[],false,by simp,by simp,?_,?_,fun _ => rfl,fun h => by cases h⟩
   ·unfold spec_MoveItem.f;simp only [Option.bind_some];refine Ev.bind e2 ?_;simp only [if_true];refine Ev.bind hF ?_;simp only [decide_eq_true hk];exact jT
   ·unfold impl_MoveItem.f;refine Ev.bind e1 ?_;simp only [if_neg (show ¬ (True ∧ 0 ≤ findI (fun x : S50 => x.f0 == n) l0 0 ∧ 0 ≤ findI (fun x : S62 => x.f0 == m) l1 0) from fun h => by have := h.2.1; omega)];exact Ev.now _
  ·have hlen : ∀ x ∈ l1.map (movedS n m),(x.f1.length : Int) ≤ 4194304 := fun x hx' => by
    obtain ⟨y,hy,rfl⟩ := List.mem_map.1 hx';have := movedS_len n m y;have := hx y hy;omega
   obtain ⟨u,u1,u2,u3⟩ := valid_sides (l1 := l1.map (movedS n m)) h0 (by simpa using h1) hlen cap;have hS := spec_move_ev h1 hx cap n m u u2 0 (by omega);simp only [List.take_zero,List.map_nil,List.any_nil] at hS;have hS2 : Ev (fun k => spec_MoveItem.f k l0 l1 cap n m) (if (l1.any fun x => x.f0 == m) = true then (if u = true then (l1.map (movedS n m),true) else ([],false)) else ([],false)) := by
    unfold spec_MoveItem.f;simp only [Option.bind_some];refine Ev.bind e2 ?_;simp only [if_true];refine Ev.bind hF ?_;simp only [decide_eq_false hk];refine Ev.succ ?_;simp only [spec_MoveItem.j0,Bool.false_eq_true,if_false];exact hS
   have hb := findI_ge (fun x : S62 => x.f0 == m) l1 0 (by omega);by_cases hf : (l1.any fun x => x.f0 == m) = true
   ·rw [if_pos hf] at hS2;refine ⟨if u = true then l1.map (movedS n m) else [],u,?_,?_,?_,?_,fun h => by rw [h]; rfl,fun h => by rw [h,if_pos rfl]; exact ⟨rfl,hA,(u3 h).2.2,hf,hI,h ▸ u1⟩⟩
    ·cases u <;> simp <;> omega
    ·cases u
     ·simp
     ·simpa using hlen
    ·cases u <;> exact hS2
    ·unfold impl_MoveItem.f;refine Ev.bind e1 ?_;simp only [if_pos (show True ∧ 0 ≤ findI (fun x : S50 => x.f0 == n) l0 0 ∧ 0 ≤ findI (fun x : S62 => x.f0 == m) l1 0 from ⟨trivial,by omega,hb.2 hf⟩)];refine Ev.pos ⟨by omega,fun x hx' => by have := hx x hx'; omega⟩ ?_;rw [hmap];exact Ev.bind u1 (Ev.now _)
   ·rw [if_neg hf] at hS2;refine ⟨[],false,by simp,by simp,hS2,?_,fun _ => rfl,fun h => by cases h⟩;unfold impl_MoveItem.f;refine Ev.bind e1 ?_;simp only [if_neg (show ¬ (True ∧ 0 ≤ findI (fun x : S50 => x.f0 == n) l0 0 ∧ 0 ≤ findI (fun x : S62 => x.f0 == m) l1 0) from fun h => hf (hb.1 h.2.2))];exact Ev.now _
def bv : List S62 → Int → Int × Bool
 | [],_ => (0,false)
 | x :: t,n => if (x.f1.any (· == n)) = true then (x.f0,true) else bv t n
theorem bv_ev {l : List S62} (n : Int) (hl : l.length ≤ 9223372036854775807) (hx : ∀ x ∈ l,x.f1.length ≤ 9223372036854775807) : Ev (fun k => impl_BoxOf.f k l n) (bv l n) := by
 have key : ∀ i,i ≤ l.length → Ev (fun k => impl_BoxOf.l0 k n l l.length i) (bv (l.drop i) n) := by
  refine down ?_ ?_
  ·refine Ev.succ ?_;simp only [impl_BoxOf.l0,Int.lt_irrefl,if_false,List.drop_length,bv];exact Ev.now _
  ·intro i hi ih;have hi' : (i : Int) < (l.length : Int) := by omega
   refine Ev.succ ?_;simp only [impl_BoxOf.l0,if_pos hi',if_pos (Int.natCast_nonneg i),rd_T62,Int.toNat_natCast,w1 hi hl];rw [drop_cons z62 hi];by_cases h : (l.getD i z62).f1.any (· == n) = true
   ·refine Ev.bind (Contains_ev n (hx _ (getD_mem z62 hi))) ?_;simp only [bv,h,if_true];exact Ev.now _
   ·refine Ev.bind (Contains_ev n (hx _ (getD_mem z62 hi))) ?_;simp only [Bool.not_eq_true] at h;simp only [bv,h,Bool.false_eq_true,if_false];exact ih
 have h := key 0 (by omega);rw [List.drop_zero] at h;exact h
theorem bv_snd (n : Int) : ∀ l : List S62,(bv l n).2 = l.any fun x => x.f1.any (· == n)
 | [] => rfl
 | x :: t => by
  unfold bv;rw [List.any_cons];by_cases h : x.f1.any (· == n) = true
  ·rw [if_pos h,h];rfl
  ·rw [if_neg h,bv_snd n t];simp only [Bool.not_eq_true] at h;rw [h,Bool.false_or]
theorem bv_fst (n m : Int) : ∀ l : List S62,(∀ x ∈ l,n ∈ x.f1 → x.f0 = m) → (∃ x ∈ l,n ∈ x.f1) → bv l n = (m,true)
 | [],_,h => by
  obtain ⟨x,hx,_⟩ := h;simp at hx
 | x :: t,h,he => by
  unfold bv;by_cases hc : x.f1.any (· == n) = true
  ·rw [if_pos hc,h x (by simp) (by simpa using hc)]
  ·rw [if_neg hc];obtain ⟨y,hy,hn⟩ := he
   rcases List.mem_cons.1 hy with rfl | hy
   ·exact absurd (by simpa using hn) hc
   ·exact bv_fst n m t (fun z hz => h z (by simp [hz])) ⟨y,hy,hn⟩
theorem movedS_mem (n m a : Int) (x : S62) (h : a ≠ n) : a ∈ (movedS n m x).f1 ↔ a ∈ x.f1 := by
 unfold movedS;by_cases e : x.f0 = m
 ·simp only [if_pos e,mem_put,List.mem_filter];simp [h]
 ·simp only [if_neg e,List.mem_filter];simp [h]
theorem movedS_self (n m : Int) (x : S62) : n ∈ (movedS n m x).f1 ↔ x.f0 = m := by
 unfold movedS;by_cases e : x.f0 = m
 ·simp only [if_pos e,mem_put];simp [e]
 ·simp only [if_neg e,List.mem_filter];simp [e]
theorem bv_moved (n m a : Int) (h : a ≠ n) : ∀ l : List S62,bv (l.map (movedS n m)) a = bv l a
 | [] => rfl
 | x :: t => by
  have e : ((movedS n m x).f1.any (· == a)) = x.f1.any (· == a) := by
   rw [Bool.eq_iff_iff]
   simpa using movedS_mem n m a x h
  rw [List.map_cons];unfold bv;rw [e,bv_moved n m a h t];rfl
theorem bv_self (n m : Int) (l : List S62) (h : (l.any fun x => x.f0 == m) = true) : bv (l.map (movedS n m)) n = (m,true) := by
 refine bv_fst n m _ (fun x hx hn => ?_) ?_
 ·obtain ⟨y,hy,rfl⟩ := List.mem_map.1 hx;exact (movedS_self n m y).1 hn
 ·rw [List.any_eq_true] at h;obtain ⟨x,hx,he⟩ := h;exact ⟨_,List.mem_map.2 ⟨x,hx,rfl⟩,(movedS_self n m x).2 (by simpa using he)⟩
theorem few : ∀ s t : List Int,s.Nodup → (∀ x ∈ s,x ∈ t) → s.length ≤ t.length
 | [],_,_,_ => by simp
 | x :: s,t,hn,h => by
  rw [List.nodup_cons] at hn;have hx := h x (by simp);have := few s (t.erase x) hn.2 fun z hz => (List.mem_erase_of_ne (fun e : z = x => hn.1 (e ▸ hz))).2 (h z (by simp [hz]))
  have e := List.length_erase_of_mem hx;have := List.length_pos_of_mem hx;rw [List.length_cons];omega
theorem all_there {s t : List Int} (hn : s.Nodup) (h : ∀ x ∈ s,x ∈ t) (hl : s.length = t.length) : ∀ y ∈ t,y ∈ s := by
 intro y hy;refine Classical.byContradiction fun hs => ?_
 have := few s (t.erase y) hn fun z hz => (List.mem_erase_of_ne (fun e : z = y => hs (e ▸ hz))).2 (h z hz)
 have e := List.length_erase_of_mem hy;have := List.length_pos_of_mem hy;omega
theorem ALL_flat {l0 : List S50} {cap : Int} : ∀ (l : List S62) (seen : List Int) (p : Option Int),ALL l0 cap seen p l → seen.Nodup → (∀ x ∈ seen,0 ≤ ix l0 x) → (seen ++ l.flatMap (·.f1)).Nodup ∧ (∀ x ∈ seen ++ l.flatMap (·.f1),0 ≤ ix l0 x) ∧ ((seen ++ l.flatMap (·.f1)).length : Int) = l0.length
 | [],seen,_,h,hn,hk => by
  have h : (seen.length : Int) = l0.length := h
  simpa using ⟨hn,hk,h⟩
 | b :: t,seen,p,h,hn,hk => by
  obtain ⟨_,_,hB,hA⟩ := h;have h1 : (seen ++ b.f1).Nodup := by
   refine List.nodup_append.2 ⟨hn,hB.1.imp (fun h => Int.ne_of_lt h),fun x hx y hy e => ?_⟩;exact (hB.2.1 y hy).2 (e ▸ hx)
  have h2 := ALL_flat t (seen ++ b.f1) _ hA h1 fun x hx => (List.mem_append.1 hx).elim (hk x) fun hx => (hB.2.1 x hx).1
  rw [List.flatMap_cons,← List.append_assoc];exact h2
theorem ALL_there {l0 : List S50} {cap : Int} {l : List S62} (h : ALL l0 cap [] none l) : ∀ x ∈ l0,(bv l x.f0).2 = true := by
 obtain ⟨h1,h2,h3⟩ := ALL_flat l [] none h List.nodup_nil (by simp);rw [List.nil_append] at h1 h2 h3;intro x hx;have h4 := all_there (t := l0.map (·.f0)) h1 (fun y hy => by
  obtain ⟨j,hj,_,e⟩ := ix_known (h2 y hy);exact List.mem_map.2 ⟨_,getD_mem z50 hj,e⟩) (by rw [List.length_map]; omega) x.f0 (List.mem_map.2 ⟨x,hx,rfl⟩)
 rw [bv_snd,List.any_eq_true];obtain ⟨b,hb,hm⟩ := List.mem_flatMap.1 h4;exact ⟨b,hb,by simpa using hm⟩
def ms (a b : Int) : Bool × Bool := if (decide (1 ≤ a) && decide (a ≤ 4)) = true then (if (decide (1 ≤ b) && decide (b ≤ 4)) = true then (shareB a b,true) else (false,false)) else (false,false)
theorem impl_ms (a b : Int) : impl_MayShare.f a b = some (ms a b) := by
 unfold impl_MayShare.f impl_isMaterial.f ms;simp only [within_eq,Option.bind_some,mayShare_eq]
 split
 ·split <;> rfl
 ·rfl
theorem spec_ms (a b : Int) : spec_MayShare.f a b = some (ms a b) := by
 unfold spec_MayShare.f ms;simp only [l1In_eq,Option.bind_some,l26Share_eq]
 split
 ·split <;> rfl
 ·rfl
theorem ms_symm (a b : Int) : ms a b = ms b a := by
 unfold ms;by_cases h1 : (decide (1 ≤ a) && decide (a ≤ 4)) = true
 ·by_cases h2 : (decide (1 ≤ b) && decide (b ≤ 4)) = true
  ·rw [if_pos h1,if_pos h2,if_pos h2,if_pos h1,share_symm]
  ·rw [if_pos h1,if_neg h2,if_neg h2]
 ·by_cases h2 : (decide (1 ≤ b) && decide (b ≤ 4)) = true
  ·rw [if_neg h1,if_pos h2,if_neg h1]
  ·rw [if_neg h1,if_neg h2]
theorem moves_l0 {l : List Int} (hD : DC l) {I : List S50} {B : List S62} {n m : Int} (hi : I.length ≤ 9223372036854775807) (hb : B.length ≤ 9223372036854775807) (hx : ∀ x ∈ B,(x.f1.length : Int) ≤ 1048576)
  (h1 : ∀ x ∈ I,(bv B x.f0).2 = true) (h2 : ∀ x ∈ I,(bv (B.map (movedS n m)) x.f0).2 = true) : ∀ i,i ≤ I.length → Ev (fun k => laws_FnMoves.l0 k l I B n (B.map (movedS n m)) i) true := by
 have hx' : ∀ x ∈ B.map (movedS n m),x.f1.length ≤ 9223372036854775807 := fun x h => by
  obtain ⟨y,hy,rfl⟩ := List.mem_map.1 h;have := movedS_len n m y;have := hx y hy;omega
 refine down ?_ ?_
 ·refine Ev.succ ?_;obtain ⟨r,er⟩ := share_draw hD;simp only [laws_FnMoves.l0,Int.lt_irrefl,if_false,er,Option.bind_some,impl_ms,spec_ms];rw [ms_symm r.2 r.1];simp only [beq_self_eq_true,if_true];exact Ev.now _
 ·intro i hil ih;have hi' : (i : Int) < (I.length : Int) := by omega
  have hm := getD_mem z50 hil;refine Ev.succ ?_;simp only [laws_FnMoves.l0,if_pos hi',if_pos (Int.natCast_nonneg i),rd_T50,Int.toNat_natCast,w1 hil hi];refine Ev.bind (bv_ev _ hb fun x h => by have := hx x h; omega) ?_;refine Ev.bind (bv_ev _ (by rw [List.length_map]; exact hb) hx') ?_;simp only [h1 _ hm,h2 _ hm,if_true];by_cases c : (I.getD i z50).f0 = n
  ·simp only [if_pos c];exact ih
  ·simp only [if_neg c,bv_moved n m _ c,if_true];exact ih
theorem FnMoves_law : laws_FnMoves.Pure := by
 intro l0 hm hb hw
 suffices h : Ev (fun k => laws_FnMoves.f k l0) true from by
  obtain ⟨K,h⟩ := h;exact ⟨K,h K (Nat.le_refl _)⟩
 unfold laws_FnMoves.f laws_rBig.f;by_cases c : (l0.length : Int) > 65536
 ·simp only [decide_eq_true c,Option.bind_some,if_true];exact Ev.now _
 ·simp only [decide_eq_false c,Option.bind_some,Bool.false_eq_true,if_false];have hD : DC l0 := ⟨fun x hx => by
   have h := hw x hx;simp only [Lit.wf,Bool.and_eq_true,decide_eq_true_eq] at h;exact h,by omega⟩
  obtain ⟨⟨I,B,cap,n,m⟩,er,i1,i2,i3⟩ := move_draw hD;refine Ev.bind er ?_;have i1 : I.length ≤ 13 := i1;have i2 : B.length ≤ 13 := i2;have i3 : ∀ x ∈ B,(x.f1.length : Int) ≤ 13 := i3
  obtain ⟨r,b,q1,q2,es,ei,qf,qt⟩ := move_sides2 (l0 := I) (l1 := B) (by omega) (by omega) (fun x hx => by have := i3 x hx; omega) cap n m;refine Ev.bind ei ?_;refine Ev.bind es ?_;cases b with
  | false =>
   rw [qf rfl];simp only [bne_self_eq_false,Bool.false_eq_true,if_false,Bool.not_false];refine Ev.succ ?_;simp only [laws_FnMoves.j0,if_true,beq_self_eq_true];exact Ev.now _
  | true =>
   obtain ⟨rfl,a1,a2,a3,a4,a5⟩ := qt rfl;simp only [bne_self_eq_false,Bool.false_eq_true,if_false,Bool.not_true];refine Ev.succ ?_;simp only [laws_FnMoves.j0,Bool.false_eq_true,if_false];refine Ev.bind (bv_ev n (by rw [List.length_map]; omega) fun x h => by have := q2 x h; omega) ?_;simp only [bv_self n m B a3,if_true];refine Ev.bind a5 ?_;simp only [if_true,List.length_map,bne_self_eq_false];refine Ev.succ ?_;simp only [laws_FnMoves.j1,Bool.false_eq_true,if_false];exact moves_l0 hD (by omega) (by omega) (fun x hx => by have := i3 x hx; omega) (ALL_there a1) (ALL_there a2) 0 (by omega)
end Go.Proofs.Ytoadgikbbigdlaa.B
