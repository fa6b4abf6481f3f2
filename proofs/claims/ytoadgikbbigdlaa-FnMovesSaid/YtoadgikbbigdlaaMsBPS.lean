import Derived.Test.YtoadgikbbigdlaaMsBPK
namespace Go.Proofs.Ytoadgikbbigdlaa.B
open Go.RowKit Go.Proofs.YtoadgikbbigdlaaW.PrintWords Go.Proofs.YtoadgikbbigdlaaW.PrintLast Go.Proofs.YtoadgikbbigdlaaW.PrintMore
set_option linter.unusedVariables false
theorem sorted_ext : ∀ (l l' : List Int),l.Pairwise (· < ·) → l'.Pairwise (· < ·) → (∀ x,x ∈ l ↔ x ∈ l') → l = l'
 | [],[],_,_,_ => rfl
 | [],y :: t,_,_,h => absurd ((h y).2 (by simp)) (by simp)
 | x :: t,[],_,_,h => absurd ((h x).1 (by simp)) (by simp)
 | x :: t,y :: u,h1,h2,h => by
  obtain ⟨a1,a2⟩ := List.pairwise_cons.1 h1;obtain ⟨b1,b2⟩ := List.pairwise_cons.1 h2;have hxy : x = y := by
   rcases List.mem_cons.1 ((h x).1 (by simp)) with e | e
   ·exact e
   ·rcases List.mem_cons.1 ((h y).2 (by simp)) with e' | e'
    ·exact e'.symm
    ·have := b1 x e;have := a1 y e';omega
  subst hxy;rw [sorted_ext t u a2 b2 fun z => ⟨fun hz => ?_,fun hz => ?_⟩]
  ·rcases List.mem_cons.1 ((h z).1 (by simp [hz])) with e | e
   ·exact absurd (a1 z hz) (by omega)
   ·exact e
  ·rcases List.mem_cons.1 ((h z).2 (by simp [hz])) with e | e
   ·exact absurd (b1 z hz) (by omega)
   ·exact e
def put : List Int → Int → List Int
 | [],a => [a]
 | x :: t,a => if x < a then x :: put t a else if x = a then x :: t else a :: x :: t
theorem mem_put : ∀ (l : List Int) (a x : Int),x ∈ put l a ↔ x = a ∨ x ∈ l
 | [],a,x => by simp [put]
 | y :: t,a,x => by
  unfold put
  split
  ·simp only [List.mem_cons,mem_put t a x]
   constructor
   ·rintro (h | h | h) <;> simp [h]
   ·rintro (h | h | h) <;> simp [h]
  ·split
   ·rename_i h;simp only [List.mem_cons,← h]
    constructor
    ·rintro (h | h) <;> simp [h]
    ·rintro (h | h | h) <;> simp [h]
   ·simp
theorem put_sorted : ∀ (l : List Int) (a : Int),l.Pairwise (· < ·) → (put l a).Pairwise (· < ·)
 | [],a,_ => by simp [put]
 | y :: t,a,h => by
  obtain ⟨h1,h2⟩ := List.pairwise_cons.1 h;unfold put
  split
  ·rename_i hl;refine List.pairwise_cons.2 ⟨fun z hz => ?_,put_sorted t a h2⟩
   rcases (mem_put t a z).1 hz with rfl | hz
   ·exact hl
   ·exact h1 z hz
  ·split
   ·exact h
   ·rename_i h3 h4;refine List.pairwise_cons.2 ⟨fun z hz => ?_,h⟩
    rcases List.mem_cons.1 hz with rfl | hz
    ·omega
    ·have := h1 z hz;omega
theorem put_length : ∀ (l : List Int) (a : Int),(put l a).length ≤ l.length + 1
 | [],a => by simp [put]
 | x :: t,a => by
  unfold put
  split
  ·simp only [List.length_cons];have := put_length t a;omega
  ·split <;> simp
end Go.Proofs.Ytoadgikbbigdlaa.B
