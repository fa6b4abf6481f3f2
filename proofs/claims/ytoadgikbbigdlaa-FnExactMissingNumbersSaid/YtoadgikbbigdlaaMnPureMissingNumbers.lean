import Derived.Test.YtoadgikbbigdlaaMnPC
import Derived.Test.YtoadgikbbigdlaaMnPF
import Derived.Test.YtoadgikbbigdlaaMnRMissingNumbers
namespace Go.Proofs.Ytoadgikbbigdlaa.P
open Go.RowKit Go.Proofs.YtoadgikbbigdlaaW.PrintWords Go.Proofs.YtoadgikbbigdlaaW.PrintLast Go.Proofs.YtoadgikbbigdlaaW.PrintMore
set_option linter.unusedVariables false
def miss (l0 : List S50) (l1 : List S62) : List Int := (l0.filter fun x => !(l1.any fun b => b.f1.any (· == x.f0))).map (·.f0)
def odd (l0 : List S50) (t : List Int) : List Int := t.filter fun n => !(l0.any fun x => x.f0 == n)
theorem odd_cons (l0 : List S50) (n : Int) (t : List Int) : odd l0 (n :: t) = if l0.any (fun x => x.f0 == n) = true then odd l0 t else n :: odd l0 t := by
  unfold odd
  rw [List.filter_cons]
  by_cases h : l0.any (fun x => x.f0 == n) = true <;> simp [h]
theorem miss_cons (x : S50) (l0 : List S50) (l1 : List S62) : miss (x :: l0) l1 = if (l1.any fun b => b.f1.any (· == x.f0)) = true then miss l0 l1 else x.f0 :: miss l0 l1 := by
  unfold miss
  rw [List.filter_cons]
  by_cases h : (l1.any fun b => b.f1.any (· == x.f0)) = true <;> simp [h]
theorem find_neg (l : List S50) (n : Int) : (findI (fun x => x.f0 == n) l 0 < 0) ↔ ¬ l.any (fun x => x.f0 == n) = true := by
  have := findI_ge (fun x : S50 => x.f0 == n) l 0 (by omega)
  rw [← this]
  omega
theorem box_neg (l : List S62) (n : Int) : (findI (fun x => x.f1.any (· == n)) l 0 < 0) ↔ ¬ (l.any fun x => x.f1.any (· == n)) = true := by
  have := findI_ge (fun x : S62 => x.f1.any (· == n)) l 0 (by omega)
  rw [← this]
  omega
theorem spec2_ev {l0 : List S50} {l1 : List S62} (h0 : (l0.length : Int) ≤ 1048576) (h1 : (l1.length : Int) ≤ 1048576) (hx : ∀ x ∈ l1, (x.f1.length : Int) ≤ 1048576) (str : List Int) : ∀ i, i ≤ l0.length → ∀ m : List Int, m.length ≤ i → Ev (fun k => spec_MissingNumbers.l2 k l0 l1 m str i) (m ++ miss (l0.drop i) l1, str, true) := by
  refine down ?_ ?_
  · intro m _
    refine Ev.succ ?_
    simp only [spec_MissingNumbers.l2, Int.lt_irrefl, if_false, List.drop_length]
    exact Ev.some (by simp [miss])
  · intro i hi ih m hm
    have hi' : (i : Int) < (l0.length : Int) := by omega
    refine Ev.succ ?_
    simp only [spec_MissingNumbers.l2, if_pos hi', if_pos (Int.natCast_nonneg i), rd_T50, Int.toNat_natCast, w1 hi (show l0.length ≤ 9223372036854775807 by omega)]
    refine Ev.bind (l26Box_ev _ (by omega) (fun x hx' => by have := hx x hx'; omega)) ?_
    rw [drop_cons z50 hi, miss_cons]
    by_cases h : (l1.any fun b => b.f1.any (· == (l0.getD i z50).f0)) = true
    · simp only [if_neg (show ¬ _ from fun e => (box_neg l1 _).1 e h), if_pos h]
      exact ih m (by omega)
    · simp only [if_pos ((box_neg l1 _).2 h), if_neg h, if_pos (show m.length < 17592186044416 by omega)]
      have := ih (m ++ [(l0.getD i z50).f0]) (by simp; omega)
      simpa using this
theorem spec1_ev {l0 : List S50} {l1 : List S62} (h0 : (l0.length : Int) ≤ 1048576) (h1 : (l1.length : Int) ≤ 1048576) (hx : ∀ x ∈ l1, (x.f1.length : Int) ≤ 1048576) (b : Nat) (hb : b < l1.length) (r : List Int × List Int × Bool) (m : List Int) :
    ∀ i, i ≤ (l1.getD b z62).f1.length → ∀ str : List Int, str.length ≤ b * 1048576 + i →
      (∀ str', str'.length ≤ (b + 1) * 1048576 → str' = (odd l0 ((l1.getD b z62).f1.drop i)).foldl put str → Ev (fun k => spec_MissingNumbers.l0 k l0 l1 m str' ((b + 1 : Nat) : Int)) r) →
      Ev (fun k => spec_MissingNumbers.l1 k l0 l1 m str b i) r := by
  have hb' : (b : Int) < (l1.length : Int) := by omega
  have hlen := hx _ (getD_mem z62 hb)
  refine down ?_ ?_
  · intro str hs hr
    refine Ev.succ ?_
    simp only [spec_MissingNumbers.l1, if_pos hb', if_pos (Int.natCast_nonneg b), rd_T62, Int.toNat_natCast, Int.lt_irrefl, if_false, w1 hb (show l1.length ≤ 9223372036854775807 by omega)]
    refine hr str (by omega) ?_
    simp [odd]
  · intro i hi ih str hs hr
    have hi' : (i : Int) < ((l1.getD b z62).f1.length : Int) := by omega
    refine Ev.succ ?_
    simp only [spec_MissingNumbers.l1, if_pos hb', if_pos (Int.natCast_nonneg b), rd_T62, rd, Int.toNat_natCast, if_pos hi', if_pos (Int.natCast_nonneg i), w1 hi (show (l1.getD b z62).f1.length ≤ 9223372036854775807 by omega)]
    refine Ev.bind (l26Find_ev _ (by omega)) ?_
    rw [drop_cons 0 hi, odd_cons] at hr
    by_cases h : l0.any (fun x => x.f0 == (l1.getD b z62).f1.getD i 0) = true
    · simp only [if_neg (show ¬ _ from fun e => (find_neg l0 _).1 e h)]
      rw [if_pos h] at hr
      exact ih str (by omega) hr
    · simp only [if_pos ((find_neg l0 _).2 h)]
      rw [if_neg h] at hr
      refine Ev.bind (l1Put_ev _ (by omega)) ?_
      exact ih _ (by have := put_length str ((l1.getD b z62).f1.getD i 0); omega) hr
theorem spec0_ev {l0 : List S50} {l1 : List S62} (h0 : (l0.length : Int) ≤ 1048576) (h1 : (l1.length : Int) ≤ 1048576) (hx : ∀ x ∈ l1, (x.f1.length : Int) ≤ 1048576) : ∀ i, i ≤ l1.length → ∀ str : List Int, str.length ≤ i * 1048576 → Ev (fun k => spec_MissingNumbers.l0 k l0 l1 [] str i)
    (if (l1.drop i).any (fun x => decide ((x.f1.length : Int) > 12)) = true then ([], [], false) else (miss l0 l1, (odd l0 ((l1.drop i).flatMap (·.f1))).foldl put str, true)) := by
  refine down ?_ ?_
  · intro str hs
    refine Ev.succ ?_
    simp only [spec_MissingNumbers.l0, Int.lt_irrefl, if_false, List.drop_length, List.any_nil, Bool.false_eq_true]
    have := spec2_ev h0 h1 hx str 0 (by omega) [] (by simp)
    simpa [odd] using this
  · intro i hi ih str hs
    have hi' : (i : Int) < (l1.length : Int) := by omega
    refine Ev.succ ?_
    simp only [spec_MissingNumbers.l0, if_pos hi', if_pos (Int.natCast_nonneg i), rd_T62, Int.toNat_natCast]
    rw [drop_cons z62 hi, List.any_cons, List.flatMap_cons]
    by_cases h : ((l1.getD i z62).f1.length : Int) > 12
    · simp only [decide_eq_true h, Bool.true_or, if_true]
      exact Ev.pos h (Ev.now _)
    · simp only [decide_eq_false h, Bool.false_or]
      refine Ev.neg h ?_
      refine spec1_ev h0 h1 hx i hi _ [] 0 (Nat.zero_le _) str (Nat.le_trans hs (Nat.le_add_right _ _)) fun str' hs' e => ?_
      have := ih str' hs'
      rw [e, List.drop_zero] at this
      rw [e, List.drop_zero]
      rw [show odd l0 ((l1.getD i z62).f1 ++ (l1.drop (i + 1)).flatMap (·.f1)) = odd l0 (l1.getD i z62).f1 ++ odd l0 ((l1.drop (i + 1)).flatMap (·.f1)) from by simp [odd], List.foldl_append]
      exact this
theorem impl2_ev {l0 : List S50} {l1 : List S62} (h0 : (l0.length : Int) ≤ 1048576) (h1 : (l1.length : Int) ≤ 1048576) (hx : ∀ x ∈ l1, (x.f1.length : Int) ≤ 1048576) (b : Nat) (hb : b < l1.length) (r : List Int × List Int × Bool) (m : List Int) :
    ∀ i, i ≤ (l1.getD b z62).f1.length → ∀ str : List Int, str.length ≤ b * 1048576 + i →
      (∀ str', str'.length ≤ (b + 1) * 1048576 → str' = str ++ odd l0 ((l1.getD b z62).f1.drop i) → Ev (fun k => impl_MissingNumbers.l1 k l0 m str' l1 l1.length ((b + 1 : Nat) : Int)) r) →
      Ev (fun k => impl_MissingNumbers.l2 k l0 m str l1 l1.length b (l1.getD b z62).f1 (l1.getD b z62).f1.length i) r := by
  have hlen := hx _ (getD_mem z62 hb)
  refine down ?_ ?_
  · intro str hs hr
    refine Ev.succ ?_
    simp only [impl_MissingNumbers.l2, Int.lt_irrefl, if_false, w1 hb (show l1.length ≤ 9223372036854775807 by omega)]
    refine hr str (by omega) ?_
    simp [odd]
  · intro i hi ih str hs hr
    have hi' : (i : Int) < ((l1.getD b z62).f1.length : Int) := by omega
    refine Ev.succ ?_
    simp only [impl_MissingNumbers.l2, rd, Int.toNat_natCast, if_pos hi', if_pos (Int.natCast_nonneg i), w1 hi (show (l1.getD b z62).f1.length ≤ 9223372036854775807 by omega), impl_itemOf.f, Option.bind_some]
    rw [drop_cons 0 hi, odd_cons] at hr
    by_cases h : l0.any (fun x => x.f0 == (l1.getD b z62).f1.getD i 0) = true
    · simp only [if_neg (show ¬ _ from fun e => (find_neg l0 _).1 e h)]
      rw [if_pos h] at hr
      exact ih str (by omega) hr
    · simp only [if_pos ((find_neg l0 _).2 h), if_pos (show str.length < 17592186044416 by omega)]
      rw [if_neg h] at hr
      refine ih _ (by simp; omega) fun str' hs' e => hr str' hs' ?_
      rw [e]
      simp
theorem impl1_ev {l0 : List S50} {l1 : List S62} (h0 : (l0.length : Int) ≤ 1048576) (h1 : (l1.length : Int) ≤ 1048576) (hx : ∀ x ∈ l1, (x.f1.length : Int) ≤ 1048576) (m : List Int) : ∀ i, i ≤ l1.length → ∀ str : List Int, str.length ≤ i * 1048576 → Ev (fun k => impl_MissingNumbers.l1 k l0 m str l1 l1.length i) (m, (str ++ odd l0 ((l1.drop i).flatMap (·.f1))).foldl put [], true) := by
  refine down ?_ ?_
  · intro str hs
    refine Ev.succ ?_
    simp only [impl_MissingNumbers.l1, Int.lt_irrefl, if_false, slices_Sort_int.f, slices_Compact_int.f, if_pos (show str.length < 4611686018427387904 by omega), Option.bind_some, put_sort]
    exact Ev.some (by simp [odd])
  · intro i hi ih str hs
    have hi' : (i : Int) < (l1.length : Int) := by omega
    refine Ev.succ ?_
    simp only [impl_MissingNumbers.l1, if_pos hi', if_pos (Int.natCast_nonneg i), rd_T62, Int.toNat_natCast]
    refine impl2_ev h0 h1 hx i hi _ m 0 (Nat.zero_le _) str (Nat.le_trans hs (Nat.le_add_right _ _)) fun str' hs' e => ?_
    have := ih str' hs'
    rw [drop_cons z62 hi, List.flatMap_cons, show odd l0 ((l1.getD i z62).f1 ++ (l1.drop (i + 1)).flatMap (·.f1)) = odd l0 (l1.getD i z62).f1 ++ odd l0 ((l1.drop (i + 1)).flatMap (·.f1)) from by simp [odd], ← List.append_assoc]
    rw [e, List.drop_zero] at this
    rw [e, List.drop_zero]
    exact this
theorem impl0_ev {l0 : List S50} {l1 : List S62} (h0 : (l0.length : Int) ≤ 1048576) (h1 : (l1.length : Int) ≤ 1048576) (hx : ∀ x ∈ l1, (x.f1.length : Int) ≤ 1048576) : ∀ i, i ≤ l0.length → ∀ m : List Int, m.length ≤ i → Ev (fun k => impl_MissingNumbers.l0 k l0 l1 m [] l0 l0.length i) (m ++ miss (l0.drop i) l1, (odd l0 (l1.flatMap (·.f1))).foldl put [], true) := by
  refine down ?_ ?_
  · intro m _
    refine Ev.succ ?_
    simp only [impl_MissingNumbers.l0, Int.lt_irrefl, if_false, List.drop_length]
    have := impl1_ev h0 h1 hx m 0 (by omega) [] (by simp)
    simpa [miss] using this
  · intro i hi ih m hm
    have hi' : (i : Int) < (l0.length : Int) := by omega
    refine Ev.succ ?_
    simp only [impl_MissingNumbers.l0, if_pos hi', if_pos (Int.natCast_nonneg i), rd_T50, Int.toNat_natCast, w1 hi (show l0.length ≤ 9223372036854775807 by omega)]
    obtain ⟨b, hb⟩ := BoxOf_ev (l := l1) (l0.getD i z50).f0 (by omega) (fun x hx' => by have := hx x hx'; omega)
    refine Ev.bind hb ?_
    rw [drop_cons z50 hi, miss_cons]
    by_cases h : (l1.any fun b => b.f1.any (· == (l0.getD i z50).f0)) = true
    · simp only [if_pos h]
      exact ih m (by omega)
    · simp only [if_neg h, if_pos (show m.length < 17592186044416 by omega)]
      have := ih (m ++ [(l0.getD i z50).f0]) (by simp; omega)
      simpa using this
theorem sides {l0 : List S50} {l1 : List S62} (h0 : (l0.length : Int) ≤ 1048576) (h1 : (l1.length : Int) ≤ 1048576) (hx : ∀ x ∈ l1, (x.f1.length : Int) ≤ 1048576) : ∃ m s b, m.length ≤ l0.length ∧ s.length ≤ l1.length * 1048576 ∧ Ev (fun k => spec_MissingNumbers.f k l0 l1) (m, s, b) ∧ Ev (fun k => impl_MissingNumbers.f k l0 l1) (m, s, b) := by
  obtain ⟨b, hb⟩ := l26Items_ev (l := l0) (by omega)
  have hb' : Ev (fun k => impl_areItems.f k l0) b := Ev.congr (fun k => areItems_eq l0 (by omega) k 0 (by omega)) hb
  by_cases hq : b = true ∧ ¬ (l1.length : Int) > 12 ∧ ¬ l1.any (fun x => decide ((x.f1.length : Int) > 12)) = true
  · obtain ⟨q1, q2, q3⟩ := hq
    subst q1
    have e1 := spec0_ev h0 h1 hx 0 (by omega) [] (by simp)
    have e2 := impl0_ev h0 h1 hx 0 (by omega) [] (by simp)
    simp only [List.drop_zero, if_neg q3, List.nil_append] at e1 e2
    have hs : ∀ (t : List Int) (l : List Int), (t.foldl put l).length ≤ l.length + t.length := by
      intro t
      induction t with
      | nil => intro l; simp
      | cons a t ih =>
        intro l
        have h1 := ih (put l a)
        have h2 := put_length l a
        simp only [List.foldl_cons, List.length_cons]
        omega
    have hf : ∀ l : List S62, (∀ x ∈ l, (x.f1.length : Int) ≤ 1048576) → (l.flatMap (·.f1)).length ≤ l.length * 1048576 := by
      intro l
      induction l with
      | nil => intro _; simp
      | cons a t ih =>
        intro h
        have h1 := ih (fun x hx => h x (by simp [hx]))
        have h2 := h a (by simp)
        simp only [List.flatMap_cons, List.length_append, List.length_cons]
        omega
    refine ⟨miss l0 l1, (odd l0 (l1.flatMap (·.f1))).foldl put [], true, ?_, ?_, ?_, ?_⟩
    · unfold miss
      rw [List.length_map]
      exact List.length_filter_le _ _
    · have a1 := hs (odd l0 (l1.flatMap (·.f1))) []
      have a2 : (odd l0 (l1.flatMap (·.f1))).length ≤ (l1.flatMap (·.f1)).length := List.length_filter_le _ _
      have a3 := hf l1 hx
      simp only [List.length_nil] at a1
      omega
    · unfold spec_MissingNumbers.f
      simp only [Option.bind_some]
      refine Ev.bind hb ?_
      simp only [if_true, decide_eq_false q2]
      refine Ev.succ ?_
      simp only [spec_MissingNumbers.j0, Bool.false_eq_true, if_false]
      exact e1
    · unfold impl_MissingNumbers.f
      refine Ev.bind hb' ?_
      have q4 : ¬ 0 ≤ findI (fun x : S62 => decide ((x.f1.length : Int) > 12)) l1 0 := fun e => q3 ((findI_ge _ l1 0 (by omega)).1 e)
      simp only [if_true, if_neg q2, any_MissingNumbers1.f, Option.bind_some, decide_eq_false q4]
      refine Ev.succ ?_
      simp only [impl_MissingNumbers.j0, Bool.false_eq_true, if_false]
      exact e2
  · refine ⟨[], [], false, by simp, by simp, ?_, ?_⟩
    · unfold spec_MissingNumbers.f
      simp only [Option.bind_some]
      refine Ev.bind hb ?_
      by_cases q1 : b = true
      · by_cases q2 : (l1.length : Int) > 12
        · simp only [q1, if_true, decide_eq_true q2]
          refine Ev.succ ?_
          simp only [spec_MissingNumbers.j0, if_true]
          exact Ev.now _
        · have q3 : l1.any (fun x => decide ((x.f1.length : Int) > 12)) = true := Classical.byContradiction fun e => hq ⟨q1, q2, e⟩
          simp only [q1, if_true, decide_eq_false q2]
          refine Ev.succ ?_
          simp only [spec_MissingNumbers.j0, Bool.false_eq_true, if_false]
          have e1 := spec0_ev h0 h1 hx 0 (by omega) [] (by simp)
          simp only [List.drop_zero, if_pos q3] at e1
          exact e1
      · simp only [if_neg q1]
        refine Ev.succ ?_
        simp only [spec_MissingNumbers.j0, if_true]
        exact Ev.now _
    · unfold impl_MissingNumbers.f
      refine Ev.bind hb' ?_
      have fin : Ev (fun k => impl_MissingNumbers.j0 k l0 l1 true) ([], [], false) := by
        refine Ev.succ ?_
        simp only [impl_MissingNumbers.j0, if_true]
        exact Ev.now _
      by_cases q1 : b = true
      · simp only [if_pos q1]
        by_cases q2 : (l1.length : Int) > 12
        · simp only [if_pos q2]
          exact fin
        · have q3 : l1.any (fun x => decide ((x.f1.length : Int) > 12)) = true := Classical.byContradiction fun e => hq ⟨q1, q2, e⟩
          have q4 := (findI_ge (fun x : S62 => decide ((x.f1.length : Int) > 12)) l1 0 (by omega)).2 q3
          simp only [if_neg q2, any_MissingNumbers1.f, Option.bind_some, decide_eq_true q4]
          exact fin
      · simp only [if_neg q1]
        exact fin
theorem markB_snd : ∀ (l : List S62) (a : Int), 0 ≤ a → (∀ x ∈ l, (x.f1.length : Int) ≤ 1048576) → a + (l.length : Int) * 1048577 ≤ 4611686018427387904 → a ≤ (markB l a).2 ∧ (markB l a).2 ≤ a + (l.length : Int) * 1048577
  | [], a, _, _, _ => by simp [markB]
  | x :: t, a, h0, hx, h => by
    simp only [List.length_cons] at h ⊢
    have hl := hx x (by simp)
    have e : wrap64 (a + 1) = a + 1 := by unfold wrap64; omega
    have e2 := markI_snd x.f1 (a + 1) (by omega) (by omega)
    have := markB_snd t (a + 1 + x.f1.length) (by omega) (fun y hy => hx y (by simp [hy])) (by omega)
    simp only [markB, e, e2]
    omega
theorem FnExactMissingNumbers.pure (l0 : List S65) (l1 : List S60) (w0 : (fun l => l.length ≤ 9223372036854775807 ∧ ∀ x ∈ l, Q65 x) l0) (w1 : (fun l => l.length ≤ 9223372036854775807 ∧ ∀ x ∈ l, Q60 x) l1) : ∃ K, FnExactMissingNumbers.Goal K l0 l1 := by
  obtain ⟨L0, _⟩ := w0
  obtain ⟨L1, X1⟩ := w1
  rcases szItemS_le (l := l0) (a := 1048576) (by omega) (by omega) L0 with e1 | ⟨s1, e1, p1, b1, c1⟩
  · exact ⟨0, .inl ⟨_, e1, by omega⟩⟩
  rcases szArchiveBoxS_le (l := l1) (a := s1) (by omega) p1 L1 (fun x hx => (X1 x hx).2.1) with ⟨K, e2⟩ | ⟨s3, e2, p2, b2, c2, d2⟩
  · exact ⟨K, .inr (.inl ⟨s1, _, e1, e2 K (Nat.le_refl _), p1, by omega⟩)⟩
  have hx0 : ((l0.map cv65).length : Int) ≤ 1048576 := by simpa using c1
  have hx1 : ((l1.map cv60).length : Int) ≤ 1048576 := by simp; omega
  have hx2 : ∀ x ∈ l1.map cv60, (x.f1.length : Int) ≤ 1048576 := by
    intro x hx
    obtain ⟨y, hy, rfl⟩ := List.mem_map.1 hx
    have := d2 y hy
    simp only [cv60]
    omega
  obtain ⟨m, s, b, hm, hs, E1, E2⟩ := sides hx0 hx1 hx2
  obtain ⟨t51, E3⟩ := markItemS_ev (l := l0.map cv65) (a := 1) (by omega) (by omega)
  obtain ⟨K0, a0⟩ := e2
  obtain ⟨K1, a1⟩ := toItemS_ev (l := l0) (by omega)
  obtain ⟨K2, a2⟩ := toArchiveBoxS_ev (l := l1) (by omega) (fun x hx => by have := d2 x hx; omega)
  obtain ⟨K3, a3⟩ := E1
  obtain ⟨K4, a4⟩ := E2
  obtain ⟨K5, a5⟩ := eqIntS_ev (l := m) (by omega)
  obtain ⟨K6, a6⟩ := eqIntS_ev (l := s) (by omega)
  obtain ⟨K7, a7⟩ := eqItemS_ev (l := l0.map cv65) (by omega)
  obtain ⟨K8, a8⟩ := eqArchiveBoxS_ev (l := l1.map cv60) (by omega) (fun x hx => by have := hx2 x hx; omega)
  obtain ⟨K9, a9⟩ := E3
  obtain ⟨K10, a10⟩ := markIntS_ev (l := m) (a := 1) (by omega) (by omega)
  obtain ⟨K11, a11⟩ := markIntS_ev (l := s) (a := 1 + m.length) (by omega) (by omega)
  obtain ⟨K12, a12⟩ := heldIntS_ev (l := m) (a := 1) (by omega) (by omega)
  obtain ⟨K13, a13⟩ := heldIntS_ev (l := s) (a := 1 + m.length) (by omega) (by omega)
  have M := markB_snd (l1.map cv60) (1 + 3 * (l0.map cv65).length) (by omega) hx2 (by omega)
  obtain ⟨K, hK⟩ : ∃ K, K0 ≤ K ∧ K1 ≤ K ∧ K2 ≤ K ∧ K3 ≤ K ∧ K4 ≤ K ∧ K5 ≤ K ∧ K6 ≤ K ∧ K7 ≤ K ∧ K8 ≤ K ∧ K9 ≤ K ∧ K10 ≤ K ∧ K11 ≤ K ∧ K12 ≤ K ∧ K13 ≤ K := ⟨K0 + K1 + K2 + K3 + K4 + K5 + K6 + K7 + K8 + K9 + K10 + K11 + K12 + K13, by omega⟩
  refine ⟨K, .inr (.inr ⟨s1, s3, _, _, m, s, b, _, t51, _, _, _, _, _, _, e1, a0 K (by omega), a1 K (by omega), a2 K (by omega), a3 K (by omega), a4 K (by omega), a5 K (by omega), a6 K (by omega), a7 K (by omega), a8 K (by omega), a9 K (by omega), rfl, a10 K (by omega), a11 K (by omega), a12 K (by omega), a13 K (by omega), p1, p2, by omega, by omega, by omega, by omega⟩)⟩
end Go.Proofs.Ytoadgikbbigdlaa.P
