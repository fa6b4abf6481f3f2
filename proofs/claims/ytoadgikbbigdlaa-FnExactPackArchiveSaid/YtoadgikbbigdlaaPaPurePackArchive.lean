import Derived.Test.YtoadgikbbigdlaaPaAPQ
import Derived.Test.YtoadgikbbigdlaaPaAPF
import Derived.Test.YtoadgikbbigdlaaPaRPackArchive
namespace Go.Proofs.Ytoadgikbbigdlaa.A
open Go.RowKit Go.Proofs.YtoadgikbbigdlaaW.PrintWords Go.Proofs.YtoadgikbbigdlaaW.PrintLast Go.Proofs.YtoadgikbbigdlaaW.PrintMore
set_option linter.unusedVariables false
theorem sortI_strict (l : List Int) (h : l.Nodup) : (sortI l).Pairwise (· < ·) ∧ ∀ x, x ∈ sortI l ↔ x ∈ l := by
 have hs : (sortI l).Pairwise (fun a b => a ≤ b) := by
  have := List.pairwise_mergeSort (le := fun a b : Int => decide (a ≤ b)) (fun a b c h1 h2 => by simp at *; omega) (fun a b => by simp; omega) l
  exact this.imp (fun h => by simpa using h)
 have hp : (sortI l).Perm l := List.mergeSort_perm l _
 refine ⟨?_, fun x => hp.mem_iff⟩
 have hn : (sortI l).Nodup := hp.nodup_iff.2 h
 exact (hs.and hn).imp (fun h => by omega)
theorem ix_mono {l0 : List S50} (hI : ItemsOK l0) {a b : Int} (ha : 0 ≤ ix l0 a) (hb : 0 ≤ ix l0 b) (h : a < b) : ix l0 a < ix l0 b := by
 obtain ⟨i, hi, ei, ni⟩ := ix_known ha
 obtain ⟨j, hj, ej, nj⟩ := ix_known hb
 rw [ei, ej]
 rcases Nat.lt_trichotomy i j with h1 | h1 | h1
 ·omega
 ·subst h1; omega
 ·have := List.pairwise_iff_getElem.1 hI.2.2 j i hj hi h1
  simp only [List.getD_eq_getElem?_getD, List.getElem?_eq_getElem hi, List.getElem?_eq_getElem hj, Option.getD_some] at ni nj
  omega
theorem sort_ix {l0 : List S50} (hI : ItemsOK l0) {T : List Int} (hT : ∀ m ∈ T, 0 ≤ ix l0 m) (hd : T.Nodup) : sortI (T.map (ix l0)) = (sortedOf T).map (ix l0) := by
 have hp := sortedOf_perm hd
 have hs : ((sortedOf T).map (ix l0)).Pairwise (· < ·) := by
  rw [List.pairwise_map]
  have h2 : ∀ m ∈ sortedOf T, 0 ≤ ix l0 m := fun m hm => hT m (hp.mem_iff.1 hm)
  exact List.Pairwise.imp_of_mem (fun ha hb h => ix_mono hI (h2 _ ha) (h2 _ hb) h) (sortedOf_sorted T)
 have hn : (T.map (ix l0)).Nodup := by
  have h3 : ((sortedOf T).map (ix l0)).Nodup := hs.imp (fun h => by omega)
  exact (hp.map (ix l0)).nodup_iff.1 h3
 obtain ⟨h1, h2⟩ := sortI_strict _ hn
 exact sorted_ext _ _ h1 hs (fun x => by rw [h2, (hp.map (ix l0)).mem_iff])
theorem ix_back {l0 : List S50} {m : Int} (h : 0 ≤ ix l0 m) : (rd_T50 l0 (ix l0 m)).f0 = m := by
 obtain ⟨j, _, e, hn⟩ := ix_known h
 rw [e]
 simpa [rd_T50] using hn
theorem impl_l3_ev {l0 : List S50} (hI : ItemsOK l0) (x12 : List S62) (x74 : List (List Int)) (n x76 v : Int) (S : List Int) (hS : ∀ m ∈ S, 0 ≤ ix l0 m) (hl : S.length ≤ 12) (hx : x12.length ≤ 12) (r : List S62 × Bool)
  (h : Ev (fun k => impl_PackArchive.l2 k (x12 ++ [(⟨v, S⟩ : S62)]) x74 n (wrap64 (x76 + 1)) l0) r) : Ev (fun k => impl_PackArchive.l3 k x12 x74 n x76 (S.map (ix l0)) ((S.map (ix l0)).length : Int) 0 l0 v []) r := by
 have key : ∀ j, j ≤ S.length → Ev (fun k => impl_PackArchive.l3 k x12 x74 n x76 (S.map (ix l0)) (S.length : Int) (j : Int) l0 v (S.take j)) r := by
  refine down ?_ ?_
  ·refine Ev.succ ?_
   simp only [impl_PackArchive.l3, Int.lt_irrefl, if_false, if_pos (show x12.length < 4398046511104 by omega), List.take_length]
   exact h
  ·intro j hj ih
   have hji := Int.ofNat_lt.2 hj
   have hm := hS _ (getD_mem 0 hj)
   obtain ⟨q, hq, e, _⟩ := ix_known hm
   have hrd : rd (S.map (ix l0)) (j : Int) = ix l0 (S.getD j 0) := by
    simp [rd, List.getD_eq_getElem?_getD, List.getElem?_eq_getElem hj]
   have ht : (S.take j).length < 17592186044416 := by rw [List.length_take]; omega
   have hlt : ix l0 (S.getD j 0) < (l0.length : Int) := by rw [e]; omega
   refine Ev.succ ?_
   simp only [impl_PackArchive.l3, if_pos hji, if_pos (Int.natCast_nonneg j), List.length_map, hrd, if_pos hm, if_pos hlt, if_pos ht, ix_back hm, w1 hj (show S.length ≤ 9223372036854775807 by omega)]
   rw [take_snoc 0 hj] at ih
   exact ih
 simpa using key 0 (by omega)
theorem impl_l2_ev {l0 : List S50} (hI : ItemsOK l0) (Ts : List (List Int)) (hl : Ts.length ≤ 12) (hT : ∀ T ∈ Ts, T.length ≤ 12 ∧ (∀ m ∈ T, 0 ≤ ix l0 m) ∧ T.Nodup) :
  Ev (fun k => impl_PackArchive.l2 k [] (enc l0 Ts) (enc l0 Ts).length 0 l0) (boxesOf Ts 0, true) := by
 have bt : ∀ (Ts : List (List Int)) (b j : Nat), j < Ts.length → (boxesOf Ts b).take (j + 1) = (boxesOf Ts b).take j ++ [⟨((b + j : Nat) : Int) + 1, sortedOf (Ts.getD j [])⟩] := by
  intro Ts b j hj
  rw [take_snoc z62 (by rw [boxesOf_length]; exact hj), boxesOf_at Ts b j hj]
 have key : ∀ j, j ≤ Ts.length → ∀ x74 : List (List Int), x74.length = Ts.length → (∀ m, j ≤ m → m < Ts.length → x74.getD m [] = (Ts.getD m []).map (ix l0)) → Ev (fun k => impl_PackArchive.l2 k ((boxesOf Ts 0).take j) x74 (Ts.length : Int) (j : Int) l0) (boxesOf Ts 0, true) := by
  refine down ?_ ?_
  ·intro x74 h1 h2
   refine Ev.succ ?_
   simp only [impl_PackArchive.l2, Int.lt_irrefl, if_false]
   rw [List.take_of_length_le (by rw [boxesOf_length]; omega)]
   exact Ev.now _
  ·intro j hj ih x74 h1 h2
   have hji := Int.ofNat_lt.2 hj
   have hm := getD_mem ([] : List Int) hj
   obtain ⟨h3, h4, h5⟩ := hT _ hm
   have hat : rd_L3 x74 (j : Int) = (Ts.getD j []).map (ix l0) := by simpa [rd_L3] using h2 j (Nat.le_refl _) hj
   have hso := sort_ix hI h4 h5
   have hle : ((Ts.getD j []).map (ix l0)).length < 4611686018427387904 := by rw [List.length_map]; omega
   have hjx : (j : Int) < (x74.length : Int) := by rw [h1]; exact hji
   have hj1 : wrap64 ((j : Int) + 1) = (j : Int) + 1 := by unfold wrap64; omega
   have hp := sortedOf_perm h5
   have ht : ((boxesOf Ts 0).take j).length ≤ 12 := by rw [List.length_take, boxesOf_length]; omega
   refine Ev.succ ?_
   simp only [impl_PackArchive.l2, if_pos hji, if_pos (Int.natCast_nonneg j), if_pos hjx, hat, if_pos hle, hso, hj1]
   refine impl_l3_ev hI _ _ _ _ _ (sortedOf (Ts.getD j [])) (fun m hm => h4 m (hp.mem_iff.1 hm)) (by rw [hp.length_eq]; exact h3) ht _ ?_
   rw [hj1]
   have h6 := ih (x74.set ((j : Int)).toNat ((sortedOf (Ts.getD j [])).map (ix l0))) (by rw [List.length_set]; exact h1) (fun m hm1 hm2 => by
    rw [Int.toNat_natCast, List.getD_eq_getElem?_getD, List.getElem?_set_ne (by omega), ← List.getD_eq_getElem?_getD]
    exact h2 m (by omega) hm2)
   rw [bt Ts 0 j hj, Nat.zero_add] at h6
   exact h6
 have := key 0 (by omega) (enc l0 Ts) (enc_length l0 Ts) (fun m _ hm => enc_at l0 Ts m hm)
 rw [enc_length]
 simpa using this
theorem impl_pack_ev {l0 : List S50} (hI : ItemsOK l0) (cap : Int) (N : List Int) (hN : N.length ≤ 12) : ∀ (left : List Int) (i : Nat) (Ts : List (List Int)), N.drop i = left → i ≤ N.length → PK l0 cap Ts left →
  Ev (fun k => impl_PackArchive.l1 k (enc l0 Ts) (N.map (ix l0)) ((N.map (ix l0)).length : Int) (i : Int) l0 cap) (boxesOf (placeAll l0 cap Ts left) 0, true)
 | [], i, Ts, hd, hi, hP => by
  have : i = N.length := by
   have := congrArg List.length hd
   rw [List.length_drop] at this
   simp at this
   omega
  subst this
  have hB := hP.boxes
  have hF := hP.few
  simp only [List.length_nil] at hB hF
  refine Ev.succ ?_
  simp only [impl_PackArchive.l1, List.length_map, Int.lt_irrefl, if_false, placeAll]
  exact impl_l2_ev hI Ts (by omega) (fun T hT => ⟨by have := len_flat Ts T hT; omega, (hP.each T hT).2, hP.nodupAll hT⟩)
 | n :: left, i, Ts, hd, hi, hP => by
  have hi2 : i < N.length := by
   rcases Nat.lt_or_ge i N.length with h | h
   ·exact h
   ·rw [List.drop_of_length_le h] at hd
    cases hd
  rw [drop_cons 0 hi2] at hd
  injection hd with h1 h2
  refine impl_place hI hP (N.map (ix l0)) i (by rw [List.length_map]; exact hi2) (by rw [List.length_map]; exact hN) ?_ _ (impl_pack_ev hI cap N hN left (i + 1) (place l0 cap n Ts) h2 (by omega) hP.next)
  rw [← h1]
  simp [List.getD_eq_getElem?_getD, List.getElem?_eq_getElem hi2]
theorem range_ev {l0 : List S50} (hl : l0.length ≤ 12) (cap : Int) (r : List S62 × Bool) (h : Ev (fun k => impl_PackArchive.l0 k ((List.range l0.length).map fun j : Nat => (j : Int)) (l0.length : Int) (l0.length : Int) l0 cap) r) : Ev (fun k => impl_PackArchive.l0 k [] (l0.length : Int) 0 l0 cap) r := by
 have key : ∀ i, i ≤ l0.length → Ev (fun k => impl_PackArchive.l0 k ((List.range i).map fun j : Nat => (j : Int)) (l0.length : Int) (i : Int) l0 cap) r := by
  refine down h ?_
  intro i hi ih
  have hji := Int.ofNat_lt.2 hi
  have ht : ((List.range i).map fun j : Nat => (j : Int)).length < 17592186044416 := by simp; omega
  refine Ev.succ ?_
  simp only [impl_PackArchive.l0, if_pos hji, if_pos ht, w1 hi (show l0.length ≤ 9223372036854775807 by omega)]
  rw [List.range_succ, List.map_append] at ih
  exact ih
 exact key 0 (by omega)
theorem heavy_eq (l0 : List S50) (cap : Int) : any_isTooHeavy1.f l0 cap = some (l0.any fun x => decide (cap < x.f2)) := by
 unfold any_isTooHeavy1.f
 congr 1
 rw [Bool.eq_iff_iff, decide_eq_true_iff]
 exact findI_ge _ l0 0 (by omega)
theorem ready_ev {l0 : List S50} (hl : l0.length ≤ 9223372036854775807) (cap : Int) (b : Bool) (hb : Ev (fun k => spec_l26Items.f k l0) b) :
  Ev (fun k => spec_l26Ready.f k l0 cap) (if (l0.any fun x => decide (cap < x.f2)) = true then false else if b = true then (decide (1 ≤ cap) && decide (cap ≤ 10000)) else false) := by
 have key : ∀ i, i ≤ l0.length → Ev (fun k => spec_l26Ready.l0 k l0 cap i) (if ((l0.drop i).any fun x => decide (cap < x.f2)) = true then false else if b = true then (decide (1 ≤ cap) && decide (cap ≤ 10000)) else false) := by
  refine down ?_ ?_
  ·refine Ev.succ ?_
   simp only [spec_l26Ready.l0, Int.lt_irrefl, if_false, List.drop_length, List.any_nil, Bool.false_eq_true]
   refine Ev.bind hb ?_
   cases b with
   | true => simp only [if_true, l1In_eq, Option.bind_some]; exact Ev.now _
   | false => simp only [Bool.false_eq_true, if_false]; exact Ev.now _
  ·intro i hi ih
   refine Ev.succ ?_
   rw [drop_cons z50 hi, List.any_cons]
   simp only [spec_l26Ready.l0, if_pos (Int.ofNat_lt.2 hi), if_pos (Int.natCast_nonneg i), rd_T50, Int.toNat_natCast, w1 hi hl]
   by_cases h : (l0.getD i z50).f2 > cap
   ·have h' : decide (cap < (l0.getD i z50).f2) = true := decide_eq_true h
    simp only [if_pos h, h', Bool.true_or, if_true]
    exact Ev.now _
   ·have h' : decide (cap < (l0.getD i z50).f2) = false := decide_eq_false h
    simp only [if_neg h, h', Bool.false_or]
    exact ih
 have h := key 0 (by omega)
 rw [List.drop_zero] at h
 exact h
theorem pack_sides {l0 : List S50} (h0 : (l0.length : Int) ≤ 1048576) (cap : Int) : ∃ (r : List S62) (b : Bool), r.length ≤ 12 ∧ (∀ x ∈ r, (x.f1.length : Int) ≤ 12) ∧ Ev (fun k => spec_PackArchive.f k l0 cap) (r, b) ∧ Ev (fun k => impl_PackArchive.f k l0 cap) (r, b) := by
 obtain ⟨b, hb, hOK⟩ := items_true (l := l0) (by omega)
 have hR := ready_ev (by omega) cap b hb
 have hA : Ev (fun k => impl_areItems.f k l0) b := by
  obtain ⟨K, hK⟩ := hb
  refine ⟨K, fun k hk => ?_⟩
  have := hK k hk
  show impl_areItems.l0 k l0 l0 l0.length 0 = _
  rw [areItems_eq l0 (by omega) k 0 (by omega)]
  exact this
 have no : (if (l0.any fun x => decide (cap < x.f2)) = true then false else if b = true then (decide (1 ≤ cap) && decide (cap ≤ 10000)) else false) = false → ∃ (r : List S62) (b : Bool), r.length ≤ 12 ∧ (∀ x ∈ r, (x.f1.length : Int) ≤ 12) ∧ Ev (fun k => spec_PackArchive.f k l0 cap) (r, b) ∧ Ev (fun k => impl_PackArchive.f k l0 cap) (r, b) := by
  intro hn
  refine ⟨[], false, by simp, by simp, ?_, ?_⟩
  ·rw [hn] at hR
   unfold spec_PackArchive.f
   simp only [Option.bind_some]
   refine Ev.bind hR ?_
   simp only [Bool.false_eq_true, if_false]
   exact Ev.now _
  ·have hj : Ev (fun k => impl_PackArchive.j0 k true l0 cap) (([] : List S62), false) := by
    refine Ev.succ ?_
    simp only [impl_PackArchive.j0, if_true]
    exact Ev.now _
   unfold impl_PackArchive.f
   refine Ev.bind hA ?_
   cases b with
   | false =>
    simp only [Bool.false_eq_true, if_false]
    exact hj
   | true =>
    simp only [if_true, impl_isCapacity.f, within_eq, Option.bind_some, impl_isTooHeavy.f, heavy_eq]
    by_cases hc : (decide (1 ≤ cap) && decide (cap ≤ 10000)) = true
    ·simp only [if_pos hc]
     have : (l0.any fun x => decide (cap < x.f2)) = true := by
      by_cases hh : (l0.any fun x => decide (cap < x.f2)) = true
      ·exact hh
      ·rw [if_neg hh, if_pos rfl, hc] at hn
       cases hn
     rw [this]
     exact hj
    ·simp only [if_neg hc]
     exact hj
 by_cases hh : (l0.any fun x => decide (cap < x.f2)) = true
 ·exact no (by rw [if_pos hh])
 cases b with
 | false => exact no (by rw [if_neg hh]; rfl)
 | true =>
  by_cases hc : (decide (1 ≤ cap) && decide (cap ≤ 10000)) = true
  ·have hI := hOK rfl
   have hL := hI.1
   have hk : ∀ m ∈ (ordN l0 l0.length).map (nm l0), 0 ≤ ix l0 m := fun m hm => by
    obtain ⟨j, hj, rfl⟩ := List.mem_map.1 hm
    unfold nm
    rw [ix_of hI (ordN_lt l0 hj)]
    omega
   have hnd : ((ordN l0 l0.length).map (nm l0)).Nodup := by
    have h1 : (ordN l0 l0.length).Nodup := (ordN_perm l0 l0.length).nodup_iff.2 List.nodup_range
    unfold List.Nodup
    rw [List.pairwise_map]
    refine List.Pairwise.imp_of_mem (fun ha hb hne e => hne ?_) h1
    have e1 := ix_of hI (ordN_lt l0 ha)
    have e2 := ix_of hI (ordN_lt l0 hb)
    unfold nm at e
    rw [e] at e1
    omega
   have hP : PK l0 cap [] ((ordN l0 l0.length).map (nm l0)) := ⟨fun T h => by simp at h, by simpa using hnd, hk, by simp [ordN_len]; omega, by simp [ordN_len]; omega⟩
   have hlen : ((ordN l0 l0.length).map (nm l0)).length ≤ 12 := by simp [ordN_len]; omega
   have hS := spec_pack_ev hI cap _ hlen _ 0 [] rfl (by omega) hP
   have hM := impl_pack_ev hI cap _ hlen _ 0 [] rfl (by omega) hP
   have hPall : ∀ (left : List Int) (Ts : List (List Int)), PK l0 cap Ts left → PK l0 cap (placeAll l0 cap Ts left) [] := by
    intro left
    induction left with
    | nil => intro Ts h; exact h
    | cons n t ih => intro Ts h; exact ih _ h.next
   have hQ := hPall _ _ hP
   have hq1 := hQ.boxes
   have hq2 := hQ.few
   simp only [List.length_nil] at hq1 hq2
   refine ⟨boxesOf (placeAll l0 cap [] ((ordN l0 l0.length).map (nm l0))) 0, true, by rw [boxesOf_length]; omega, fun x hx => ?_, ?_, ?_⟩
   ·obtain ⟨j, hj⟩ := List.getElem?_of_mem hx
    have hjl := (List.getElem?_eq_some_iff.1 hj).1
    rw [boxesOf_length] at hjl
    have he := boxesOf_at _ 0 j hjl
    rw [List.getD_eq_getElem?_getD, hj] at he
    simp only [Option.getD_some] at he
    have hm := getD_mem ([] : List Int) hjl
    have := len_flat _ _ hm
    have := (sortedOf_perm (hQ.nodupAll hm)).length_eq
    rw [he]
    show ((sortedOf _).length : Int) ≤ 12
    omega
   ·rw [if_neg hh, if_pos rfl, hc] at hR
    unfold spec_PackArchive.f
    simp only [Option.bind_some]
    refine Ev.bind hR ?_
    simp only [if_true]
    refine Ev.bind (spec_order_ev hI) ?_
    exact hS
   ·simp only [Bool.not_eq_true] at hh
    unfold impl_PackArchive.f
    refine Ev.bind hA ?_
    simp only [if_true, impl_isCapacity.f, within_eq, Option.bind_some, impl_isTooHeavy.f, heavy_eq, if_pos hc, hh]
    refine Ev.succ ?_
    simp only [impl_PackArchive.j0, Bool.false_eq_true, if_false]
    refine range_ev hL cap _ ?_
    refine Ev.succ ?_
    simp only [impl_PackArchive.l0, Int.lt_irrefl, if_false, stable_ev hI, Option.bind_some]
    have e : (ordN l0 l0.length).map (fun j : Nat => (j : Int)) = ((ordN l0 l0.length).map (nm l0)).map (ix l0) := by
     rw [List.map_map]
     refine List.map_congr_left fun j hj => ?_
     exact (ix_of hI (ordN_lt l0 hj)).symm
    have e2 : (((List.range l0.length).map fun j : Nat => (j : Int)).length : Int) = ((((ordN l0 l0.length).map (nm l0)).map (ix l0)).length : Int) := by simp [ordN_len]
    rw [e, e2]
    exact hM
  ·exact no (by rw [if_neg hh, if_pos rfl]; simpa using hc)
theorem FnExactPackArchive.pure (l0 : List S65) (a1 : Int) (w0 : (fun l => l.length ≤ 9223372036854775807 ∧ ∀ x ∈ l, Q65 x) l0) (_ : (fun n : Int => (Lit.int .i64 n).wf = true) a1) : ∃ K, FnExactPackArchive.Goal K l0 a1 := by
 obtain ⟨L0, _⟩ := w0
 rcases szItemS_le (l := l0) (a := 1048576) (by omega) (by omega) L0 with e1 | ⟨s1, e1, p1, b1, c1⟩
 ·exact ⟨0, .inl ⟨_, e1, by omega⟩⟩
 have hx0 : ((l0.map cv65).length : Int) ≤ 1048576 := by simpa using c1
 obtain ⟨r, b, hr, hrx, E1, E2⟩ := pack_sides hx0 a1
 obtain ⟨t51, E3⟩ := markItemS_ev (l := l0.map cv65) (a := 1) (by omega) (by omega)
 obtain ⟨K1, q1⟩ := toItemS_ev (l := l0) (by omega)
 obtain ⟨K3, q3⟩ := E1
 obtain ⟨K4, q4⟩ := E2
 obtain ⟨K5, q5⟩ := eqArchiveBoxS_ev (l := r) (by omega) (fun x hx => by have := hrx x hx; omega)
 obtain ⟨K7, q7⟩ := eqItemS_ev (l := l0.map cv65) (by omega)
 obtain ⟨K9, q9⟩ := E3
 obtain ⟨K10, q10⟩ := heldArchiveBoxS_ev (l := r) (a := 1) (by omega) (fun x hx => by have := hrx x hx; omega) (by omega)
 have M2 := markB_sndL r 1 (by omega) (fun x hx => by have := hrx x hx; omega) (by omega)
 obtain ⟨K, hK⟩ : ∃ K, K1 ≤ K ∧ K3 ≤ K ∧ K4 ≤ K ∧ K5 ≤ K ∧ K7 ≤ K ∧ K9 ≤ K ∧ K10 ≤ K := ⟨K1 + K3 + K4 + K5 + K7 + K9 + K10, by omega⟩
 exact ⟨K, .inr ⟨s1, _, r, b, _, t51, _, _, e1, q1 K (by omega), q3 K (by omega), q4 K (by omega), q5 K (by omega), q7 K (by omega), q9 K (by omega), rfl, q10 K (by omega), p1, by omega, by omega⟩⟩
end Go.Proofs.Ytoadgikbbigdlaa.A
