import Derived.Test.YtoadgikbbigdlaaPaAx0
namespace Go.Proofs.Ytoadgikbbigdlaa.A
open Go.RowKit Go.Proofs.YtoadgikbbigdlaaW.PrintWords Go.Proofs.YtoadgikbbigdlaaW.PrintLast Go.Proofs.YtoadgikbbigdlaaW.PrintMore
attribute [local go_sem] max2_int min2_int max_two min_two max_three min_three max_four min_four   -- for this text's walks alone
set_option linter.unusedVariables false
set_option linter.unusedSimpArgs false
def findI {α : Type} (p : α → Bool) : List α → Int → Int
 | [], _ => -1
 | x :: t, i => if p x = true then i else findI p t (i + 1)
theorem findI_drop {α : Type} (p : α → Bool) (l : List α) (z : α) (i : Nat) (h : i < l.length) (j : Int) :
  findI p (l.drop i) j = if p (l.getD i z) = true then j else findI p (l.drop (i + 1)) (j + 1) := by
 rw [List.drop_eq_getElem_cons h, List.getD_eq_getElem?_getD, List.getElem?_eq_getElem h]
 rfl
theorem findI_end {α : Type} (p : α → Bool) (l : List α) (j : Int) : findI p (l.drop l.length) j = -1 := by
 rw [List.drop_length]
 rfl
theorem mem_at {α : Type} (z : α) {l : List α} {i : Nat} (h : i < l.length) : l.getD ((i : Int)).toNat z ∈ l := by
 rw [Int.toNat_natCast, List.getD_eq_getElem?_getD, List.getElem?_eq_getElem h]
 exact List.getElem_mem h
end Go.Proofs.Ytoadgikbbigdlaa.A
