import Derived.Test.YtoadgikbbigdlaaPaAPG
import Derived.Test.YtoadgikbbigdlaaPaAx8
import Derived.Test.YtoadgikbbigdlaaPaAx19
namespace Go.Proofs.Ytoadgikbbigdlaa.A
open Go.RowKit Go.Proofs.YtoadgikbbigdlaaW.PrintWords Go.Proofs.YtoadgikbbigdlaaW.PrintLast Go.Proofs.YtoadgikbbigdlaaW.PrintMore
set_option linter.unusedVariables false
def insr {α : Type} (p : α → Bool) (x : α) : List α → List α → List α
 | [], B => x :: B
 | y :: R, B => if p y = true then insr p x R (y :: B) else (y :: R).reverse ++ x :: B
theorem insr_append {α : Type} (p : α → Bool) (x : α) : ∀ (R B C : List α), insr p x R (B ++ C) = insr p x R B ++ C
 | [], B, C => by simp [insr]
 | y :: R, B, C => by
  unfold insr
  split
  ·rw [← insr_append p x R (y :: B) C]
   rfl
  ·simp
theorem insr_perm {α : Type} (p : α → Bool) (x : α) : ∀ (R B : List α), (insr p x R B).Perm (x :: (R ++ B))
 | [], B => List.Perm.refl _
 | y :: R, B => by
  unfold insr
  split
  ·refine (insr_perm p x R (y :: B)).trans ?_
   refine List.Perm.cons x ?_
   exact List.perm_middle
  ·refine List.perm_middle.trans (List.Perm.cons x ?_)
   exact List.Perm.append_right B (List.reverse_perm _)
theorem insr_map {α β : Type} (f : α → β) (p : α → Bool) (q : β → Bool) (x : α) : ∀ (R B : List α), (∀ y ∈ R, q (f y) = p y) → (insr p x R B).map f = insr q (f x) (R.map f) (B.map f)
 | [], B, _ => by simp [insr]
 | y :: R, B, h => by
  simp only [insr, List.map_cons, h y (by simp)]
  split
  ·rw [insr_map f p q x R (y :: B) (fun z hz => h z (by simp [hz]))]
   rfl
  ·simp
def ordN (l0 : List S50) : Nat → List Nat
 | 0 => []
 | i + 1 => insr (fun a => decide ((l0.getD a z50).f2 < (l0.getD i z50).f2)) i (ordN l0 i).reverse []
theorem ordN_perm (l0 : List S50) : ∀ i, (ordN l0 i).Perm (List.range i)
 | 0 => List.Perm.refl _
 | i + 1 => by
  refine (insr_perm _ i _ []).trans ?_
  rw [List.append_nil, List.range_succ]
  refine List.Perm.trans (List.Perm.cons i ((List.reverse_perm _).trans (ordN_perm l0 i))) ?_
  exact (List.perm_append_singleton i _).symm
theorem ordN_lt (l0 : List S50) {i a : Nat} (h : a ∈ ordN l0 i) : a < i := by
 have := (ordN_perm l0 i).mem_iff.1 h
 simpa using this
theorem ordN_len (l0 : List S50) (i : Nat) : (ordN l0 i).length = i := by
 rw [(ordN_perm l0 i).length_eq, List.length_range]
def nm (l0 : List S50) (j : Nat) : Int := (l0.getD j z50).f0
theorem spec_back {l0 : List S50} (hI : ItemsOK l0) (i : Nat) (hi : i < l0.length) (r : List Int) : ∀ (R B : List Nat), (∀ a ∈ R, a < l0.length) → R.length + B.length ≤ 12 →
  Ev (fun k => spec_l26Order.l0 k l0 ((insr (fun a => decide ((l0.getD a z50).f2 < (l0.getD i z50).f2)) i R B).map (nm l0)) ((i + 1 : Nat) : Int)) r →
  Ev (fun k => spec_l26Order.l1 k l0 ((R.reverse ++ B).map (nm l0)) i (R.length : Int)) r
 | R, B, hR, hlen, h => by
  have hL := hI.1
  have hi' : (i : Int) < (l0.length : Int) := by omega
  have hw1 : wrap64 ((i : Int) + 1) = ((i + 1 : Nat) : Int) := w1 hi (by omega)
  have stop : ∀ (R B : List Nat), R.length + B.length ≤ 12 → Ev (fun k => spec_l26Order.l0 k l0 ((R.reverse ++ i :: B).map (nm l0)) ((i + 1 : Nat) : Int)) r → Ev (fun k => (some (([] : List Int) : List Int)).bind fun y202 => (if 0 ≤ (R.length : Int) then (if (R.length : Int) ≤ (((R.reverse ++ B).map (nm l0)).length : Int) then ((some (((R.reverse ++ B).map (nm l0)).take ((R.length : Int) : Int).toNat : List Int)).bind fun y205 => (if y202.length + y205.length < 17592186044416 then ((some (y202 ++ y205 : List Int)).bind fun y210 => ((some (([(rd_T50 l0 i).f0] : List Int) : List Int)).bind fun y214 => (if y210.length + y214.length < 17592186044416 then ((some (y210 ++ y214 : List Int)).bind fun y217 => ((some (((R.reverse ++ B).map (nm l0)).drop ((R.length : Int) : Int).toNat : List Int)).bind fun y220 => (if y217.length + y220.length < 17592186044416 then (spec_l26Order.l0 k l0 (y217 ++ y220) (wrap64 ((i : Int) + 1))) else (none)))) else (none)))) else (none))) else (none)) else (none))) r := by
   intro R B hlen h
   have e1 : ((R.reverse ++ B).map (nm l0)).take R.length = R.reverse.map (nm l0) := by rw [List.map_append, List.take_left' (by simp)]
   have e2 : ((R.reverse ++ B).map (nm l0)).drop R.length = B.map (nm l0) := by rw [List.map_append, List.drop_left' (by simp)]
   simp only [Option.bind_some, if_pos (Int.natCast_nonneg R.length), Int.toNat_natCast, e1, e2, hw1, List.nil_append, List.length_nil, Nat.zero_add, List.length_map, List.length_append, List.length_reverse, List.length_singleton]
   simp only [if_pos (show (R.length : Int) ≤ ((R.length + B.length : Nat) : Int) by omega), if_pos (show R.length < 17592186044416 by omega), if_pos (show R.length + 1 < 17592186044416 by omega), if_pos (show R.length + 1 + B.length < 17592186044416 by omega)]
   rw [List.map_append, List.map_cons] at h
   simpa [rd_T50, nm] using h
  cases R with
  | nil =>
   refine Ev.succ ?_
   simp only [spec_l26Order.l1, List.length_nil]
   rw [show ((0 : Nat) : Int) = 0 from rfl]
   simp only [Int.lt_irrefl, gt_iff_lt, if_false]
   have h2 := stop [] B hlen (by simpa [insr] using h)
   simp only [List.length_nil, Int.natCast_nonneg, if_true, hi', if_pos] at h2 ⊢
   exact h2
  | cons y R =>
   have hy := hR y (by simp)
   have e3 : wrap64 (((y :: R).length : Int) - 1) = (R.length : Int) := by simp only [List.length_cons]; simp only [List.length_cons] at hlen; unfold wrap64; omega
   have e4 : rd (((y :: R).reverse ++ B).map (nm l0)) (R.length : Int) = nm l0 y := by
    simp only [rd, Int.toNat_natCast, List.reverse_cons, List.map_append, List.append_assoc]
    rw [List.getD_eq_getElem?_getD, List.getElem?_append_right (by simp)]
    simp
   have hF := l26Find_ix hI (nm l0 y)
   rw [show ix l0 (nm l0 y) = (y : Int) from ix_of hI hy] at hF
   refine Ev.succ ?_
   simp only [spec_l26Order.l1, gt_iff_lt, if_pos (show (0 : Int) < ((y :: R).length : Int) by simp only [List.length_cons]; omega), e3, if_pos (Int.natCast_nonneg R.length), e4]
   refine Ev.pos (show (R.length : Int) < ((((y :: R).reverse ++ B).map (nm l0)).length : Int) by simp; omega) ?_
   refine Ev.bind hF ?_
   simp only [if_pos (Int.natCast_nonneg y), if_pos (show (y : Int) < (l0.length : Int) by omega), if_pos (Int.natCast_nonneg i), if_pos hi', rd_T50, Int.toNat_natCast]
   by_cases hp : (l0.getD y z50).f2 < (l0.getD i z50).f2
   ·refine Ev.pos hp ?_
    have h2 : Ev (fun k => spec_l26Order.l0 k l0 ((insr (fun a => decide ((l0.getD a z50).f2 < (l0.getD i z50).f2)) i R (y :: B)).map (nm l0)) ((i + 1 : Nat) : Int)) r := by
     simpa only [insr, decide_eq_true hp, if_true] using h
    have := spec_back hI i hi r R (y :: B) (fun a ha => hR a (by simp [ha])) (by simp only [List.length_cons] at hlen ⊢; omega) h2
    simpa using this
   ·refine Ev.neg hp ?_
    have h2 := stop (y :: R) B hlen (by simpa only [insr, decide_eq_false hp, Bool.false_eq_true, if_false] using h)
    simpa only [rd_T50, Int.toNat_natCast] using h2
termination_by R => R.length
theorem spec_order_ev {l0 : List S50} (hI : ItemsOK l0) : Ev (fun k => spec_l26Order.f k l0) ((ordN l0 l0.length).map (nm l0)) := by
 have hL := hI.1
 have key : ∀ i, i ≤ l0.length → Ev (fun k => spec_l26Order.l0 k l0 ((ordN l0 i).map (nm l0)) i) ((ordN l0 l0.length).map (nm l0)) := by
  refine down ?_ ?_
  ·refine Ev.succ ?_
   simp only [spec_l26Order.l0, Int.lt_irrefl, if_false]
   exact Ev.now _
  ·intro i hi ih
   have hi' : (i : Int) < (l0.length : Int) := by omega
   refine Ev.succ ?_
   simp only [spec_l26Order.l0, if_pos hi']
   have h := spec_back hI i hi _ (ordN l0 i).reverse [] (fun a ha => by have := ordN_lt l0 (List.mem_reverse.1 ha); omega) (by simp [ordN_len]; omega) ih
   simpa [ordN_len] using h
 exact key 0 (by omega)
section
open Go.Sort
theorem insInner_list {α : Type} [Inhabited α] (lt : α → α → Bool) (x : α) : ∀ (R B : List α), (insInner lt 0 R.length (R.reverse ++ x :: B).toArray).toList = insr (fun y => lt x y) x R B
 | [], B => by simp [insInner, insr]
 | y :: R, B => by
  have e : ((y :: R).reverse ++ x :: B) = R.reverse ++ y :: x :: B := by simp
  have g1 : (R.reverse ++ y :: x :: B).toArray[R.length + 1]! = x := by
   rw [getElem!_pos _ _ (by simp)]
   simp [List.getElem_append_right]
  have g0 : (R.reverse ++ y :: x :: B).toArray[R.length]! = y := by
   rw [getElem!_pos _ _ (by simp)]
   simp [List.getElem_append_right]
  have hs : swp (R.reverse ++ y :: x :: B).toArray (R.length + 1) R.length = (R.reverse ++ x :: y :: B).toArray := by
   unfold swp
   rw [g1, g0]
   apply Array.toList_inj.1
   simp only [Array.toList_setIfInBounds]
   rw [List.set_append_right _ _ (by simp), List.set_append_right _ _ (by simp)]
   simp
  rw [e]
  simp only [List.length_cons, insInner, insr]
  rw [g1, g0]
  by_cases h : lt x y = true
  ·simp only [h, gt_iff_lt, Nat.zero_lt_succ, decide_true, Bool.and_self, if_true]
   rw [hs]
   exact insInner_list lt x R (y :: B)
  ·simp only [Bool.not_eq_true] at h
   simp [h]
theorem impl_order {l0 : List S50} : (Sort.insertionSort (fun x y : Int => decide (wtAt l0 x > wtAt l0 y)) ((List.range l0.length).map fun j : Nat => (j : Int)).toArray 0 l0.length).toList = (ordN l0 l0.length).map fun j : Nat => (j : Int) := by
 have step : ∀ i, i < l0.length → (insInner (fun x y : Int => decide (wtAt l0 x > wtAt l0 y)) 0 i (((ordN l0 i).map fun j : Nat => (j : Int)) ++ ((List.range' i (l0.length - i)).map fun j : Nat => (j : Int))).toArray) = (((ordN l0 (i + 1)).map fun j : Nat => (j : Int)) ++ ((List.range' (i + 1) (l0.length - (i + 1))).map fun j : Nat => (j : Int))).toArray := by
  intro i hi
  apply Array.toList_inj.1
  have h := insInner_list (fun x y : Int => decide (wtAt l0 x > wtAt l0 y)) (i : Int) (((ordN l0 i).map fun j : Nat => (j : Int)).reverse) ((List.range' (i + 1) (l0.length - (i + 1))).map fun j : Nat => (j : Int))
  rw [List.length_reverse, List.length_map, ordN_len, List.reverse_reverse] at h
  rw [show List.range' i (l0.length - i) = i :: List.range' (i + 1) (l0.length - (i + 1)) from by
   rw [show l0.length - i = (l0.length - (i + 1)) + 1 from by omega, List.range'_succ]]
  rw [List.map_cons, h]
  have h2 := insr_append (fun y : Int => decide (wtAt l0 (i : Int) > wtAt l0 y)) (i : Int) (((ordN l0 i).map fun j : Nat => (j : Int)).reverse) [] ((List.range' (i + 1) (l0.length - (i + 1))).map fun j : Nat => (j : Int))
  rw [List.nil_append] at h2
  rw [h2]
  simp only [List.toList_toArray]
  congr 1
  show _ = (insr _ i _ []).map _
  rw [insr_map (fun j : Nat => (j : Int)) _ (fun y : Int => decide (wtAt l0 (i : Int) > wtAt l0 y)) i _ [] (fun y _ => by simp [wtAt, rd_T50])]
  simp
 have outer : ∀ m i, l0.length - i = m → i ≤ l0.length → insOuter (fun x y : Int => decide (wtAt l0 x > wtAt l0 y)) 0 l0.length i (((ordN l0 i).map fun j : Nat => (j : Int)) ++ ((List.range' i (l0.length - i)).map fun j : Nat => (j : Int))).toArray = ((ordN l0 l0.length).map fun j : Nat => (j : Int)).toArray := by
  intro m
  induction m with
  | zero =>
   intro i hm hi
   obtain rfl : i = l0.length := by omega
   rw [insOuter_stop _ _ _ _ _ (by omega)]
   simp
  | succ m ih =>
   intro i hm hi
   rw [insOuter_go _ _ _ _ _ (by omega), step i (by omega), ih (i + 1) (by omega) (by omega)]
 rcases Nat.eq_zero_or_pos l0.length with h0 | h0
 ·have : l0 = [] := List.eq_nil_of_length_eq_zero h0
  subst this
  simp [Sort.insertionSort, insOuter, ordN]
 ·unfold Sort.insertionSort
  have h1 := step 0 h0
  have h2 := outer (l0.length - 1) 1 rfl (by omega)
  have e0 : (((ordN l0 0).map fun j : Nat => (j : Int)) ++ ((List.range' 0 (l0.length - 0)).map fun j : Nat => (j : Int))) = (List.range l0.length).map fun j : Nat => (j : Int) := by
   simp [ordN, List.range_eq_range']
  rw [e0] at h1
  rw [show (insInner (fun x y : Int => decide (wtAt l0 x > wtAt l0 y)) 0 0 ((List.range l0.length).map fun j : Nat => (j : Int)).toArray) = ((List.range l0.length).map fun j : Nat => (j : Int)).toArray from by simp [insInner]] at h1
  rw [h1, h2]
theorem stable_ev {l0 : List S50} (hI : ItemsOK l0) : stable_Pack1.f ((List.range l0.length).map fun j : Nat => (j : Int)) l0 = some ((ordN l0 l0.length).map fun j : Nat => (j : Int)) := by
 have hL := hI.1
 have hg : ((List.range l0.length).map fun j : Nat => (j : Int)).length < 20 ∧ ∀ x ∈ ((List.range l0.length).map fun j : Nat => (j : Int)), 0 ≤ x ∧ x < (l0.length : Int) := by
  refine ⟨by simp; omega, fun x hx => ?_⟩
  obtain ⟨j, hj, rfl⟩ := List.mem_map.1 hx
  have := List.mem_range.1 hj
  omega
 unfold stable_Pack1.f
 rw [if_pos hg, List.length_map, List.length_range, impl_order]
end
end Go.Proofs.Ytoadgikbbigdlaa.A
