import Derived.Test.YtoadgikbbigdlaaMnPK
import Derived.Test.YtoadgikbbigdlaaMnPx14
namespace Go.Proofs.Ytoadgikbbigdlaa.P
open Go.RowKit Go.Proofs.YtoadgikbbigdlaaW.PrintWords Go.Proofs.YtoadgikbbigdlaaW.PrintLast Go.Proofs.YtoadgikbbigdlaaW.PrintMore
set_option linter.unusedVariables false
theorem sorted_ext : ∀ (l l' : List Int), l.Pairwise (· < ·) → l'.Pairwise (· < ·) → (∀ x, x ∈ l ↔ x ∈ l') → l = l'
  | [], [], _, _, _ => rfl
  | [], y :: t, _, _, h => absurd ((h y).2 (by simp)) (by simp)
  | x :: t, [], _, _, h => absurd ((h x).1 (by simp)) (by simp)
  | x :: t, y :: u, h1, h2, h => by
    obtain ⟨a1, a2⟩ := List.pairwise_cons.1 h1
    obtain ⟨b1, b2⟩ := List.pairwise_cons.1 h2
    have hxy : x = y := by
      rcases List.mem_cons.1 ((h x).1 (by simp)) with e | e
      · exact e
      · rcases List.mem_cons.1 ((h y).2 (by simp)) with e' | e'
        · exact e'.symm
        · have := b1 x e
          have := a1 y e'
          omega
    subst hxy
    rw [sorted_ext t u a2 b2 fun z => ⟨fun hz => ?_, fun hz => ?_⟩]
    · rcases List.mem_cons.1 ((h z).1 (by simp [hz])) with e | e
      · exact absurd (a1 z hz) (by omega)
      · exact e
    · rcases List.mem_cons.1 ((h z).2 (by simp [hz])) with e | e
      · exact absurd (b1 z hz) (by omega)
      · exact e
def put : List Int → Int → List Int
  | [], a => [a]
  | x :: t, a => if x < a then x :: put t a else if x = a then x :: t else a :: x :: t
theorem mem_put : ∀ (l : List Int) (a x : Int), x ∈ put l a ↔ x = a ∨ x ∈ l
  | [], a, x => by simp [put]
  | y :: t, a, x => by
    unfold put
    split
    · simp only [List.mem_cons, mem_put t a x]
      constructor
      · rintro (h | h | h) <;> simp [h]
      · rintro (h | h | h) <;> simp [h]
    · split
      · rename_i h
        simp only [List.mem_cons, ← h]
        constructor
        · rintro (h | h) <;> simp [h]
        · rintro (h | h | h) <;> simp [h]
      · simp
theorem put_sorted : ∀ (l : List Int) (a : Int), l.Pairwise (· < ·) → (put l a).Pairwise (· < ·)
  | [], a, _ => by simp [put]
  | y :: t, a, h => by
    obtain ⟨h1, h2⟩ := List.pairwise_cons.1 h
    unfold put
    split
    · rename_i hl
      refine List.pairwise_cons.2 ⟨fun z hz => ?_, put_sorted t a h2⟩
      rcases (mem_put t a z).1 hz with rfl | hz
      · exact hl
      · exact h1 z hz
    · split
      · exact h
      · rename_i h3 h4
        refine List.pairwise_cons.2 ⟨fun z hz => ?_, h⟩
        rcases List.mem_cons.1 hz with rfl | hz
        · omega
        · have := h1 z hz
          omega
theorem puts_sorted : ∀ (s l : List Int), l.Pairwise (· < ·) → (s.foldl put l).Pairwise (· < ·)
  | [], l, h => h
  | a :: s, l, h => puts_sorted s _ (put_sorted l a h)
theorem mem_puts : ∀ (s l : List Int) (x : Int), x ∈ s.foldl put l ↔ x ∈ l ∨ x ∈ s
  | [], l, x => by simp
  | a :: s, l, x => by
    rw [List.foldl_cons, mem_puts s _ x, mem_put]
    simp only [List.mem_cons]
    constructor
    · rintro ((h | h) | h) <;> simp [h]
    · rintro (h | h | h) <;> simp [h]
theorem put_length : ∀ (l : List Int) (a : Int), (put l a).length ≤ l.length + 1
  | [], a => by simp [put]
  | x :: t, a => by
    unfold put
    split
    · simp only [List.length_cons]
      have := put_length t a
      omega
    · split <;> simp
theorem compact_law (d : Array Int) (hs : ∀ i j, i < j → j < d.size → d[i]! ≤ d[j]!) : ∀ m, m ≤ d.size → (Lib.compactUpTo d m).Pairwise (· < ·) ∧ ∀ x, x ∈ Lib.compactUpTo d m ↔ ∃ j, j < m ∧ d[j]! = x := by
  intro m
  induction m with
  | zero => intro _; simp [Lib.compactUpTo]
  | succ m ih =>
    intro hm
    obtain ⟨h1, h2⟩ := ih (by omega)
    rw [Lib.compactUpTo_succ]
    by_cases hk : Lib.keeps d m = true
    · rw [if_pos hk]
      have hgt : ∀ j, j < m → d[j]! < d[m]! := by
        intro j hj
        have h3 : d[m]! ≠ d[m - 1]! := by
          unfold Lib.keeps at hk
          rcases of_decide_eq_true hk with h | h
          · omega
          · exact h
        have h4 := hs (m - 1) m (by omega) (by omega)
        by_cases e : j = m - 1
        · subst e; omega
        · have := hs j (m - 1) (by omega) (by omega)
          omega
      refine ⟨List.pairwise_append.2 ⟨h1, by simp, fun a ha b hb => ?_⟩, fun x => ?_⟩
      · obtain ⟨j, hj, rfl⟩ := (h2 a).1 ha
        rw [List.mem_singleton.1 hb]
        exact hgt j hj
      · simp only [List.mem_append, List.mem_singleton, h2]
        constructor
        · rintro (⟨j, hj, e⟩ | e)
          · exact ⟨j, by omega, e⟩
          · exact ⟨m, by omega, e.symm⟩
        · rintro ⟨j, hj, e⟩
          by_cases e' : j = m
          · subst e'; exact .inr e.symm
          · exact .inl ⟨j, by omega, e⟩
    · rw [if_neg hk, List.append_nil]
      refine ⟨h1, fun x => ?_⟩
      have h3 : m ≠ 0 ∧ d[m]! = d[m - 1]! := by
        unfold Lib.keeps at hk
        simpa using hk
      rw [h2]
      constructor
      · rintro ⟨j, hj, e⟩
        exact ⟨j, by omega, e⟩
      · rintro ⟨j, hj, e⟩
        by_cases e' : j = m
        · subst e'; exact ⟨j - 1, by omega, by rw [← h3.2]; exact e⟩
        · exact ⟨j, by omega, e⟩
theorem put_sort (s : List Int) : Lib.compact (s.mergeSort fun x y => decide (x ≤ y)) = s.foldl put [] := by
  have hp : (s.mergeSort fun x y => decide (x ≤ y)).Pairwise (· ≤ ·) := by
    have := List.pairwise_mergeSort (le := fun x y : Int => decide (x ≤ y)) (fun a b c h1 h2 => by simp only [decide_eq_true_eq] at *; omega) (fun a b => by simp only [Bool.or_eq_true, decide_eq_true_eq]; omega) s
    exact this.imp (by simp)
  have hm : ∀ x, x ∈ s.mergeSort (fun x y => decide (x ≤ y)) ↔ x ∈ s := fun x => (List.mergeSort_perm s _).mem_iff
  generalize s.mergeSort (fun x y => decide (x ≤ y)) = t at hp hm
  obtain ⟨h1, h2⟩ := compact_law t.toArray (fun i j hij hj => by
    have hj' : j < t.length := by simpa using hj
    have := List.pairwise_iff_getElem.1 hp i j (by omega) hj' hij
    simpa [getElem!_pos, hj', show i < t.length from by omega] using this) t.length (by simp)
  refine sorted_ext _ _ h1 (puts_sorted s [] List.Pairwise.nil) fun x => ?_
  rw [mem_puts]
  refine (h2 x).trans ?_
  rw [← hm x]
  simp only [List.not_mem_nil, false_or]
  constructor
  · rintro ⟨j, hj, rfl⟩
    simp [getElem!_pos, hj]
  · intro h
    obtain ⟨j, hj, e⟩ := List.getElem_of_mem h
    exact ⟨j, hj, by simp [getElem!_pos, hj, e]⟩
end Go.Proofs.Ytoadgikbbigdlaa.P
