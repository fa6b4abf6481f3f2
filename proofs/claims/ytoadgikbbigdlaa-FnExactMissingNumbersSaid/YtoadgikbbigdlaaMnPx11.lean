import Derived.Test.YtoadgikbbigdlaaMnPx0
import Derived.Test.YtoadgikbbigdlaaMnPx8
import Derived.Test.YtoadgikbbigdlaaMnPx9
import Derived.Test.YtoadgikbbigdlaaMnPx10
namespace Go.Proofs.Ytoadgikbbigdlaa.P
open Go.RowKit Go.Proofs.YtoadgikbbigdlaaW.PrintWords Go.Proofs.YtoadgikbbigdlaaW.PrintLast Go.Proofs.YtoadgikbbigdlaaW.PrintMore
attribute [local go_sem] max2_int min2_int max_two min_two max_three min_three max_four min_four   -- for this text's walks alone
set_option linter.unusedVariables false
set_option linter.unusedSimpArgs false
def any_MissingNumbers1.f (l0 : List S62) : Option Bool := some (decide (0 ≤ findI (fun x => decide ((x.f1.length : Int) > 12)) l0 0))
theorem any_MissingNumbers1.calls (A0 : Option Addr) (c0 : Nat) (l0 : List S62) (r : Bool) (w : World) (hr0 : Kd.C k62 w A0 l0.length l0) (hc0 : l0.length ≤ c0) (h : any_MissingNumbers1.f l0 = some r) :
    Calls Try.prog 40 #[.slice A0 l0.length c0, .func (.func 41) #[] #[]] w fun e w' => e = .returned (.bool r) ∧ Below w.heap.size w w' := by
  obtain rfl := Option.some.inj h
  exact any_ArchiveBox A0 c0 l0 41 #[] (fun x => decide ((x.f1.length : Int) > 12)) w hr0 (enters_of Try.func41 (by kernel_rfl) rfl)
    (fun W x A1 c1 l1 g1 _ => impl_MissingNumbers_1.calls x.f0 A1 c1 x.f1 _ W g1 l1 rfl)
end Go.Proofs.Ytoadgikbbigdlaa.P
