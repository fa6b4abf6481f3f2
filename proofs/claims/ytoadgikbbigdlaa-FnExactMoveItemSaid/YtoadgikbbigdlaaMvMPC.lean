import Derived.Test.YtoadgikbbigdlaaMvPKM
import Derived.Test.YtoadgikbbigdlaaMvMx0
import Derived.Test.YtoadgikbbigdlaaMvMx1
import Derived.Test.YtoadgikbbigdlaaMvMx10
import Derived.Test.YtoadgikbbigdlaaMvMx11
import Derived.Test.YtoadgikbbigdlaaMvMx12
import Derived.Test.YtoadgikbbigdlaaMvMx13
import Derived.Test.YtoadgikbbigdlaaMvMx14
import Derived.Test.YtoadgikbbigdlaaMvMx15
import Derived.Test.YtoadgikbbigdlaaMvMx2
import Derived.Test.YtoadgikbbigdlaaMvMx3
import Derived.Test.YtoadgikbbigdlaaMvMx4
import Derived.Test.YtoadgikbbigdlaaMvMx5
import Derived.Test.YtoadgikbbigdlaaMvMx6
import Derived.Test.YtoadgikbbigdlaaMvMx7
import Derived.Test.YtoadgikbbigdlaaMvMx8
import Derived.Test.YtoadgikbbigdlaaMvMx9
namespace Go.Proofs.Ytoadgikbbigdlaa.M
open Go.RowKit Go.Proofs.YtoadgikbbigdlaaW.PrintWords Go.Proofs.YtoadgikbbigdlaaW.PrintLast Go.Proofs.YtoadgikbbigdlaaW.PrintMore
set_option linter.unusedVariables false
theorem sorted_ext : ∀ (l l' : List Int), l.Pairwise (· < ·) → l'.Pairwise (· < ·) → (∀ x, x ∈ l ↔ x ∈ l') → l = l'
 | [], [], _, _, _ => rfl
 | [], y :: t, _, _, h => absurd ((h y).2 (by simp)) (by simp)
 | x :: t, [], _, _, h => absurd ((h x).1 (by simp)) (by simp)
 | x :: t, y :: u, h1, h2, h => by
  obtain ⟨a1, a2⟩ := List.pairwise_cons.1 h1
  obtain ⟨b1, b2⟩ := List.pairwise_cons.1 h2
  have hxy : x = y := by
   rcases List.mem_cons.1 ((h x).1 (by simp)) with e | e
   ·exact e
   ·rcases List.mem_cons.1 ((h y).2 (by simp)) with e' | e'
    ·exact e'.symm
    ·have := b1 x e
     have := a1 y e'
     omega
  subst hxy
  rw [sorted_ext t u a2 b2 fun z => ⟨fun hz => ?_, fun hz => ?_⟩]
  ·rcases List.mem_cons.1 ((h z).1 (by simp [hz])) with e | e
   ·exact absurd (a1 z hz) (by omega)
   ·exact e
  ·rcases List.mem_cons.1 ((h z).2 (by simp [hz])) with e | e
   ·exact absurd (b1 z hz) (by omega)
   ·exact e
def put : List Int → Int → List Int
 | [], a => [a]
 | x :: t, a => if x < a then x :: put t a else if x = a then x :: t else a :: x :: t
theorem mem_put : ∀ (l : List Int) (a x : Int), x ∈ put l a ↔ x = a ∨ x ∈ l
 | [], a, x => by simp [put]
 | y :: t, a, x => by
  unfold put
  split
  ·simp only [List.mem_cons, mem_put t a x]
   constructor
   ·rintro (h | h | h) <;> simp [h]
   ·rintro (h | h | h) <;> simp [h]
  ·split
   ·rename_i h
    simp only [List.mem_cons, ← h]
    constructor
    ·rintro (h | h) <;> simp [h]
    ·rintro (h | h | h) <;> simp [h]
   ·simp
theorem put_sorted : ∀ (l : List Int) (a : Int), l.Pairwise (· < ·) → (put l a).Pairwise (· < ·)
 | [], a, _ => by simp [put]
 | y :: t, a, h => by
  obtain ⟨h1, h2⟩ := List.pairwise_cons.1 h
  unfold put
  split
  ·rename_i hl
   refine List.pairwise_cons.2 ⟨fun z hz => ?_, put_sorted t a h2⟩
   rcases (mem_put t a z).1 hz with rfl | hz
   ·exact hl
   ·exact h1 z hz
  ·split
   ·exact h
   ·rename_i h3 h4
    refine List.pairwise_cons.2 ⟨fun z hz => ?_, h⟩
    rcases List.mem_cons.1 hz with rfl | hz
    ·omega
    ·have := h1 z hz
     omega
theorem put_length : ∀ (l : List Int) (a : Int), (put l a).length ≤ l.length + 1
 | [], a => by simp [put]
 | x :: t, a => by
  unfold put
  split
  ·simp only [List.length_cons]
   have := put_length t a
   omega
  ·split <;> simp
theorem findI_ge {α : Type} (p : α → Bool) : ∀ (l : List α) (i : Int), 0 ≤ i → (0 ≤ findI p l i ↔ l.any p = true)
 | [], i, _ => by simp [findI]
 | x :: t, i, h => by
  unfold findI
  by_cases hp : p x = true
  ·simp [hp, h]
  ·simp [hp, findI_ge p t (i + 1) (by omega)]
theorem l26Find_ev {l : List S50} (n : Int) (hl : l.length ≤ 9223372036854775807) : Ev (fun k => spec_l26Find.f k l n) (findI (fun x => x.f0 == n) l 0) := by
 have key : ∀ i, i ≤ l.length → Ev (fun k => spec_l26Find.l0 k l n i) (findI (fun x => x.f0 == n) (l.drop i) i) := by
  refine down ?_ ?_
  ·refine Ev.succ ?_
   simp only [spec_l26Find.l0, Int.lt_irrefl, if_false, findI_end]
   exact Ev.now _
  ·intro i hi ih
   have hi' : (i : Int) < (l.length : Int) := by omega
   refine Ev.succ ?_
   simp only [spec_l26Find.l0, if_pos hi', if_pos (Int.natCast_nonneg i), rd_T50, Int.toNat_natCast, w1 hi hl]
   rw [findI_drop _ l z50 i hi]
   by_cases h : (l.getD i z50).f0 = n
   ·simp only [h, if_true, beq_self_eq_true]
    exact Ev.now _
   ·simp only [if_neg h, beq_iff_eq]
    exact ih
 exact key 0 (by omega)
theorem l1Has_ev {l : List Int} (n : Int) (hl : l.length ≤ 9223372036854775807) : Ev (fun k => spec_l1Has.f k l n) (l.any (· == n)) := by
 have key : ∀ i, i ≤ l.length → Ev (fun k => spec_l1Has.l0 k l n i) ((l.drop i).any (· == n)) := by
  refine down ?_ ?_
  ·refine Ev.succ ?_
   simp only [spec_l1Has.l0, Int.lt_irrefl, if_false, List.drop_length, List.any_nil]
   exact Ev.now _
  ·intro i hi ih
   have hi' : (i : Int) < (l.length : Int) := by omega
   refine Ev.succ ?_
   simp only [spec_l1Has.l0, if_pos hi', if_pos (Int.natCast_nonneg i), rd, Int.toNat_natCast, w1 hi hl]
   rw [drop_cons 0 hi, List.any_cons]
   by_cases h : l.getD i 0 = n
   ·simp only [h, if_true, beq_self_eq_true, Bool.true_or]
    exact Ev.now _
   ·simp only [if_neg h, beq_eq_false_iff_ne.2 h, Bool.false_or]
    exact ih
 exact key 0 (by omega)
theorem l26Box_ev {l : List S62} (n : Int) (hl : l.length ≤ 9223372036854775807) (hx : ∀ x ∈ l, x.f1.length ≤ 9223372036854775807) : Ev (fun k => spec_l26Box.f k l n) (findI (fun x => x.f1.any (· == n)) l 0) := by
 have key : ∀ i, i ≤ l.length → Ev (fun k => spec_l26Box.l0 k l n i) (findI (fun x => x.f1.any (· == n)) (l.drop i) i) := by
  refine down ?_ ?_
  ·refine Ev.succ ?_
   simp only [spec_l26Box.l0, Int.lt_irrefl, if_false, findI_end]
   exact Ev.now _
  ·intro i hi ih
   have hi' : (i : Int) < (l.length : Int) := by omega
   refine Ev.succ ?_
   simp only [spec_l26Box.l0, if_pos hi', if_pos (Int.natCast_nonneg i), rd_T62, Int.toNat_natCast, w1 hi hl]
   rw [findI_drop _ l z62 i hi]
   refine Ev.bind (l1Has_ev n (hx _ (getD_mem z62 hi))) ?_
   by_cases h : (l.getD i z62).f1.any (· == n) = true
   ·simp only [if_pos h]
    exact Ev.now _
   ·simp only [if_neg h]
    exact ih
 exact key 0 (by omega)
theorem within_eq (a b c : Int) : impl_within.f a b c = some (decide (b ≤ a) && decide (a ≤ c)) := by
 unfold impl_within.f
 by_cases h : b ≤ a <;> simp [h]
theorem l1In_eq (a b c : Int) : spec_l1In.f a b c = some (decide (b ≤ a) && decide (a ≤ c)) := by
 unfold spec_l1In.f
 by_cases h : b ≤ a <;> simp [h]
theorem areItems_eq (l : List S50) (hl : l.length ≤ 9223372036854775807) : ∀ (k : Nat) (i : Int), 0 ≤ i → impl_areItems.l0 k l l l.length i = spec_l26Items.l0 k l i := by
 intro k
 induction k with
 | zero => intro i _; rfl
 | succ k ih =>
  intro i h0
  by_cases h1 : i < (l.length : Int)
  ·have hw : wrap64 (i + 1) = i + 1 := by unfold wrap64; omega
   have hn := ih (i + 1) (by omega)
   simp only [impl_areItems.l0, spec_l26Items.l0, impl_isBoxNumber.f, impl_isMaterial.f, within_eq, l1In_eq, Option.bind_some, if_pos h1, if_pos h0, hw, hn, ge_iff_le]
  ·simp only [impl_areItems.l0, spec_l26Items.l0, if_neg h1]
theorem l1Put_ev {l : List Int} (a : Int) (hl : l.length < 17592186044415) : Ev (fun k => spec_l1Put.f k l a) (put l a) := by
 have key : ∀ i, i ≤ l.length → Ev (fun k => spec_l1Put.l0 k l a i) (l.take i ++ put (l.drop i) a) := by
  refine down ?_ ?_
  ·refine Ev.succ ?_
   simp only [spec_l1Put.l0, Int.lt_irrefl, if_false, Option.bind_some, if_pos (Int.natCast_nonneg l.length), if_pos (Int.le_refl (l.length : Int)), Int.toNat_natCast, List.take_length, List.drop_length, List.nil_append, List.append_nil, List.length_nil, List.length_append, List.length_singleton, Nat.zero_add, Nat.add_zero, put]
   simp only [if_pos (show l.length < 17592186044416 by omega), if_pos (show l.length + 1 < 17592186044416 by omega)]
   exact Ev.now _
  ·intro i hi ih
   have hi' : (i : Int) < (l.length : Int) := by omega
   refine Ev.succ ?_
   simp only [spec_l1Put.l0, if_pos hi', if_pos (Int.natCast_nonneg i), rd, Int.toNat_natCast, w1 hi (show l.length ≤ 9223372036854775807 by omega)]
   rw [drop_cons 0 hi]
   unfold put
   by_cases h1 : l.getD i 0 < a
   ·simp only [if_pos h1]
    rw [take_snoc 0 hi, List.append_assoc] at ih
    exact ih
   ·simp only [if_neg h1]
    by_cases h2 : l.getD i 0 = a
    ·simp only [if_pos h2]
     rw [← drop_cons 0 hi, List.take_append_drop]
     exact Ev.now _
    ·have e1 : (l.take i).length = i := by simp; omega
     rw [← drop_cons 0 hi]
     simp only [if_neg h2, Option.bind_some, if_pos (show (i : Int) ≤ (l.length : Int) by omega), List.nil_append, List.length_nil, List.length_append, List.length_singleton, Nat.zero_add, e1]
     simp only [if_pos (show i < 17592186044416 by omega), if_pos (show i + 1 < 17592186044416 by omega), if_pos (show i + 1 + (l.drop i).length < 17592186044416 by rw [List.length_drop]; omega)]
     exact Ev.some (by simp)
 have h := key 0 (by omega)
 simpa [spec_l1Put.f] using h
end Go.Proofs.Ytoadgikbbigdlaa.M
