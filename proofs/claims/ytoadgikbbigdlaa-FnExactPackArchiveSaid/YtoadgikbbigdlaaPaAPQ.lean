import Derived.Test.YtoadgikbbigdlaaPaAPP
import Derived.Test.YtoadgikbbigdlaaPaAx10
import Derived.Test.YtoadgikbbigdlaaPaAx22
import Derived.Test.YtoadgikbbigdlaaPaAx24
namespace Go.Proofs.Ytoadgikbbigdlaa.A
open Go.RowKit Go.Proofs.YtoadgikbbigdlaaW.PrintWords Go.Proofs.YtoadgikbbigdlaaW.PrintLast Go.Proofs.YtoadgikbbigdlaaW.PrintMore
set_option linter.unusedVariables false
theorem own_eq (l : List Int) (h : l.length < 17592186044416) : spec_l1Own.f l = some l := by
 unfold spec_l1Own.f
 simp only [Option.bind_some, List.length_nil, Nat.zero_add, if_pos h, List.nil_append]
theorem spec_put_ev {l0 : List S50} {cap n : Int} {Ts : List (List Int)} {left : List Int} (hP : PK l0 cap Ts (n :: left)) {T : List Int} (hT : T ∈ Ts) : (sortedOf T).length < 17592186044415 ∧ T.length ≤ 12 := by
 have h1 := len_flat Ts T hT
 have h2 := hP.few
 have h3 := (sortedOf_perm (hP.nodupAll hT)).length_eq
 simp only [List.length_cons] at h2
 omega
theorem L15 : 17592186044415 ≤ 17592186044416 := by omega
theorem Z16 : ([] : List Int).length < 17592186044416 := by rw [List.length_nil]; omega
theorem Z15 : ([] : List Int).length < 17592186044415 := by rw [List.length_nil]; omega
set_option maxHeartbeats 1000000 in
theorem spec_place {l0 : List S50} (hI : ItemsOK l0) {cap n : Int} {Ts : List (List Int)} {left : List Int} (hP : PK l0 cap Ts (n :: left)) (N : List Int) (i : Nat) (hi : i < N.length) (hN : N.length ≤ 12) (hn : N.getD i 0 = n) (r : List S62 × Bool)
  (h : Ev (fun k => spec_PackArchive.l0 k l0 cap (boxesOf (place l0 cap n Ts) 0) N ((i + 1 : Nat) : Int)) r) : Ev (fun k => spec_PackArchive.l0 k l0 cap (boxesOf Ts 0) N (i : Int)) r := by
 have hi' : (i : Int) < (N.length : Int) := by omega
 have hw : wrap64 ((i : Int) + 1) = ((i + 1 : Nat) : Int) := w1 hi (by omega)
 have hB := hP.boxes
 have hL : (boxesOf Ts 0).length = Ts.length := boxesOf_length Ts 0
 simp only [List.length_cons] at hB
 have hrd : rd N (i : Int) = n := by simpa [rd] using hn
 have full : ∀ j, j < Ts.length → place l0 cap n Ts = Ts.set j (Ts.getD j [] ++ [n]) → Ev (fun k => spec_PackArchive.j2 k l0 cap (boxesOf Ts 0) N (i : Int) (j : Int)) r := by
  intro j hj he
  have hm := getD_mem ([] : List Int) hj
  obtain ⟨hl, _⟩ := spec_put_ev hP hm
  have hat := boxesOf_at Ts 0 j hj
  rw [Nat.zero_add] at hat
  have hj1 : wrap64 ((j : Int) + 1) = (j : Int) + 1 := by unfold wrap64; omega
  refine Ev.succ ?_
  simp only [spec_PackArchive.j2, hL, if_neg (Int.ne_of_lt (Int.ofNat_lt.2 hj)), if_pos (Int.natCast_nonneg j), if_pos (Int.ofNat_lt.2 hj), rd_T62, Int.toNat_natCast, hat, own_eq _ (Nat.lt_of_lt_of_le hl L15), Option.bind_some, if_pos (Int.natCast_nonneg i), if_pos hi', hrd]
  refine Ev.bind (l1Put_ev n hl) ?_
  simp only [hw, hj1]
  rw [he, ← boxesOf_set, Nat.zero_add, sortedOf_snoc] at h
  exact h
 have fresh : place l0 cap n Ts = Ts ++ [[n]] → Ev (fun k => spec_PackArchive.j2 k l0 cap (boxesOf Ts 0) N (i : Int) (Ts.length : Int)) r := by
  intro he
  have hj1 : wrap64 ((Ts.length : Int) + 1) = (Ts.length : Int) + 1 := by unfold wrap64; omega
  have hat : (boxesOf Ts 0 ++ [(⟨(Ts.length : Int) + 1, ([] : List Int)⟩ : S62)]).getD Ts.length z62 = ⟨(Ts.length : Int) + 1, []⟩ := by
   rw [List.getD_eq_getElem?_getD, List.getElem?_append_right (by omega)]
   simp [hL]
  refine Ev.succ ?_
  simp only [spec_PackArchive.j2, hL, if_true, if_pos (show Ts.length < 4398046511104 by omega), Option.bind_some, if_pos (Int.natCast_nonneg Ts.length), List.length_append, List.length_singleton, if_pos (show (Ts.length : Int) < ((Ts.length + 1 : Nat) : Int) by omega), hj1, rd_T62, Int.toNat_natCast, hat, own_eq [] Z16, if_pos (Int.natCast_nonneg i), if_pos hi', hrd]
  refine Ev.bind (l1Put_ev n Z15) ?_
  simp only [hw, put]
  rw [he, boxesOf_snoc, Nat.zero_add] at h
  rw [List.set_append_right _ _ (by omega)]
  simpa [hL, sortedOf, put] using h
 have step : ∀ j, j < Ts.length → fitB l0 cap n (Ts.getD j []) = false → Ev (fun k => spec_PackArchive.l1 k l0 cap (boxesOf Ts 0) N (i : Int) ((j + 1 : Nat) : Int)) r → Ev (fun k => spec_PackArchive.l1 k l0 cap (boxesOf Ts 0) N (i : Int) (j : Int)) r := by
  intro j hj hf hr
  have hm := getD_mem ([] : List Int) hj
  obtain ⟨hl, h12⟩ := spec_put_ev hP hm
  have hat := boxesOf_at Ts 0 j hj
  refine Ev.succ ?_
  simp only [spec_PackArchive.l1, hL, if_pos (Int.ofNat_lt.2 hj), if_pos (Int.natCast_nonneg j), rd_T62, Int.toNat_natCast, hat, own_eq _ (Nat.lt_of_lt_of_le hl L15), Option.bind_some, if_pos (Int.natCast_nonneg i), if_pos hi', hrd]
  refine Ev.bind (l1Put_ev n hl) ?_
  refine Ev.bind (fit_spec hI cap (hP.each _ hm).2 (hP.known n (by simp)) h12 (hP.each _ hm).1 (hP.nodupT hm)) ?_
  simp only [hf, Bool.false_eq_true, if_false, w1 hj (show Ts.length ≤ 9223372036854775807 by omega)]
  exact hr
 have hit : ∀ j, j < Ts.length → fitB l0 cap n (Ts.getD j []) = true → place l0 cap n Ts = Ts.set j (Ts.getD j [] ++ [n]) → Ev (fun k => spec_PackArchive.l1 k l0 cap (boxesOf Ts 0) N (i : Int) (j : Int)) r := by
  intro j hj hf he
  have hm := getD_mem ([] : List Int) hj
  obtain ⟨hl, h12⟩ := spec_put_ev hP hm
  have hat := boxesOf_at Ts 0 j hj
  refine Ev.succ ?_
  simp only [spec_PackArchive.l1, hL, if_pos (Int.ofNat_lt.2 hj), if_pos (Int.natCast_nonneg j), rd_T62, Int.toNat_natCast, hat, own_eq _ (Nat.lt_of_lt_of_le hl L15), Option.bind_some, if_pos (Int.natCast_nonneg i), if_pos hi', hrd]
  refine Ev.bind (l1Put_ev n hl) ?_
  refine Ev.bind (fit_spec hI cap (hP.each _ hm).2 (hP.known n (by simp)) h12 (hP.each _ hm).1 (hP.nodupT hm)) ?_
  simp only [hf, if_true]
  exact full j hj he
 have fin : place l0 cap n Ts = Ts ++ [[n]] → Ev (fun k => spec_PackArchive.l1 k l0 cap (boxesOf Ts 0) N (i : Int) (Ts.length : Int)) r := by
  intro he
  refine Ev.succ ?_
  simp only [spec_PackArchive.l1, hL, Int.lt_irrefl, if_false]
  exact fresh he
 refine Ev.succ ?_
 simp only [spec_PackArchive.l0, if_pos hi']
 rcases place_find l0 cap n Ts 0 (by omega) with ⟨_, h2, h3⟩ | ⟨j, h1, _, h3, h4, h5⟩
 ·have := down (p := fun j => Ev (fun k => spec_PackArchive.l1 k l0 cap (boxesOf Ts 0) N (i : Int) (j : Int)) r) (fin h2) (fun j hj ih => step j hj (h3 j hj) ih) 0 (by omega)
  exact this
 ·have := down (p := fun j => Ev (fun k => spec_PackArchive.l1 k l0 cap (boxesOf Ts 0) N (i : Int) (j : Int)) r) (hit j h1 h4 h3) (fun m hm ih => step m (by omega) (h5 m hm) ih) 0 (by omega)
  exact this
theorem spec_pack_ev {l0 : List S50} (hI : ItemsOK l0) (cap : Int) (N : List Int) (hN : N.length ≤ 12) : ∀ (left : List Int) (i : Nat) (Ts : List (List Int)), N.drop i = left → i ≤ N.length → PK l0 cap Ts left →
  Ev (fun k => spec_PackArchive.l0 k l0 cap (boxesOf Ts 0) N (i : Int)) (boxesOf (placeAll l0 cap Ts left) 0, true)
 | [], i, Ts, hd, hi, hP => by
  have : i = N.length := by
   have := congrArg List.length hd
   rw [List.length_drop] at this
   simp at this
   omega
  subst this
  refine Ev.succ ?_
  simp only [spec_PackArchive.l0, Int.lt_irrefl, if_false, placeAll]
  exact Ev.now _
 | n :: left, i, Ts, hd, hi, hP => by
  have hi2 : i < N.length := by
   rcases Nat.lt_or_ge i N.length with h | h
   ·exact h
   ·rw [List.drop_of_length_le h] at hd
    cases hd
  rw [drop_cons 0 hi2] at hd
  injection hd with h1 h2
  exact spec_place hI hP N i hi2 hN h1 _ (spec_pack_ev hI cap N hN left (i + 1) (place l0 cap n Ts) h2 (by omega) hP.next)
def enc (l0 : List S50) (Ts : List (List Int)) : List (List Int) := Ts.map fun T => T.map (ix l0)
theorem findI_map {α β : Type} (f : α → β) (p : α → Bool) (q : β → Bool) : ∀ (l : List α) (i : Int), (∀ x ∈ l, q (f x) = p x) → findI q (l.map f) i = findI p l i
 | [], _, _ => rfl
 | x :: t, i, h => by
  simp only [List.map_cons, findI, h x (by simp)]
  rw [findI_map f p q t (i + 1) (fun y hy => h y (by simp [hy]))]
theorem idx_ev {l0 : List S50} (hI : ItemsOK l0) (cap : Int) {n : Int} (hn : 0 ≤ ix l0 n) (Ts : List (List Int)) (hT : ∀ T ∈ Ts, T.length ≤ 12 ∧ ∀ m ∈ T, 0 ≤ ix l0 m) :
  Ev (fun k => idx_Pack2.f k (enc l0 Ts) l0 (ix l0 n) cap) (findI (fitB l0 cap n) Ts 0) := by
 have hK : ∃ K, ∀ k, K ≤ k → ∀ T ∈ Ts, impl_fits.f k l0 (T.map (ix l0)) (ix l0 n) cap = some (fitB l0 cap n T) := by
  induction Ts with
  | nil => exact ⟨0, fun _ _ T h => by simp at h⟩
  | cons T r ih =>
   obtain ⟨K1, h1⟩ := ih (fun U hU => hT U (by simp [hU]))
   obtain ⟨K2, h2⟩ := fit_impl hI cap (hT T (by simp)).2 hn (hT T (by simp)).1
   refine ⟨K1 + K2, fun k hk U hU => ?_⟩
   rcases List.mem_cons.1 hU with rfl | hU
   ·exact h2 k (by omega)
   ·exact h1 k (by omega) U hU
 obtain ⟨K, h⟩ := hK
 refine ⟨K, fun k hk => ?_⟩
 have hg : ∀ x ∈ enc l0 Ts, (impl_fits.f k l0 x (ix l0 n) cap).isSome = true := fun x hx => by
  obtain ⟨T, hT, rfl⟩ := List.mem_map.1 hx
  rw [h k hk T hT]
  rfl
 show idx_Pack2.f k (enc l0 Ts) l0 (ix l0 n) cap = _
 unfold idx_Pack2.f
 rw [if_pos hg]
 congr 1
 unfold enc
 exact findI_map _ (fitB l0 cap n) _ Ts 0 (fun T hT => by rw [h k hk T hT]; cases fitB l0 cap n T <;> rfl)
theorem enc_length (l0 : List S50) (Ts : List (List Int)) : (enc l0 Ts).length = Ts.length := by simp [enc]
theorem enc_at (l0 : List S50) (Ts : List (List Int)) (j : Nat) (h : j < Ts.length) : (enc l0 Ts).getD j [] = (Ts.getD j []).map (ix l0) := by
 simp [enc, List.getD_eq_getElem?_getD, List.getElem?_eq_getElem h]
theorem impl_place {l0 : List S50} (hI : ItemsOK l0) {cap n : Int} {Ts : List (List Int)} {left : List Int} (hP : PK l0 cap Ts (n :: left)) (M : List Int) (i : Nat) (hi : i < M.length) (hM : M.length ≤ 12) (hm : M.getD i 0 = ix l0 n) (r : List S62 × Bool)
  (h : Ev (fun k => impl_PackArchive.l1 k (enc l0 (place l0 cap n Ts)) M M.length ((i + 1 : Nat) : Int) l0 cap) r) : Ev (fun k => impl_PackArchive.l1 k (enc l0 Ts) M M.length (i : Int) l0 cap) r := by
 have hi' : (i : Int) < (M.length : Int) := by omega
 have hw : wrap64 ((i : Int) + 1) = ((i + 1 : Nat) : Int) := w1 hi (by omega)
 have hB := hP.boxes
 have hF := hP.few
 simp only [List.length_cons] at hB hF
 have hrd : rd M (i : Int) = ix l0 n := by simpa [rd] using hm
 have hT : ∀ T ∈ Ts, T.length ≤ 12 ∧ ∀ m ∈ T, 0 ≤ ix l0 m := fun T hT => ⟨by have := len_flat Ts T hT; omega, (hP.each T hT).2⟩
 refine Ev.succ ?_
 simp only [impl_PackArchive.l1, if_pos hi', if_pos (Int.natCast_nonneg i), hrd]
 refine Ev.bind (idx_ev hI cap (hP.known n (by simp)) Ts hT) ?_
 rcases place_find l0 cap n Ts 0 (by omega) with ⟨h1, h2, _⟩ | ⟨j, h1, h2, h3, _, _⟩
 ·have hat : rd_L3 (enc l0 Ts ++ [[]]) ((enc l0 Ts).length : Int) = [] := by
   simp only [rd_L3, Int.toNat_natCast]
   rw [List.getD_eq_getElem?_getD, List.getElem?_append_right (by omega)]
   simp
  have hset : (enc l0 Ts ++ [[]]).set (enc l0 Ts).length ([] ++ [ix l0 n]) = enc l0 (Ts ++ [[n]]) := by
   rw [List.set_append_right _ _ (by omega)]
   simp [enc]
  rw [h1]
  simp only [show (-1 : Int) < 0 from by decide, if_true, if_pos (show (enc l0 Ts).length < 5864062014805 by rw [enc_length]; omega), Option.bind_some, if_pos (Int.natCast_nonneg (enc l0 Ts).length), List.length_append, List.length_singleton, if_pos (show ((enc l0 Ts).length : Int) < (((enc l0 Ts).length + 1 : Nat) : Int) by omega), hat, List.length_nil, if_pos (show 0 < 17592186044416 by omega), hw, Int.toNat_natCast, hset]
  rw [h2] at h
  exact h
 ·have hat := enc_at l0 Ts j h1
  have hjl := (hT _ (getD_mem ([] : List Int) h1)).1
  have hset : (enc l0 Ts).set j ((Ts.getD j []).map (ix l0) ++ [ix l0 n]) = enc l0 (Ts.set j (Ts.getD j [] ++ [n])) := by
   simp [enc, List.map_set]
  rw [h2, Int.zero_add]
  simp only [if_neg (show ¬ (j : Int) < 0 by omega), if_pos (Int.natCast_nonneg j), if_pos (show (j : Int) < ((enc l0 Ts).length : Int) by rw [enc_length]; omega), rd_L3, Int.toNat_natCast, hat, List.length_map, if_pos (show (Ts.getD j []).length < 17592186044416 by omega), hw, hset]
  rw [h3] at h
  exact h
end Go.Proofs.Ytoadgikbbigdlaa.A
