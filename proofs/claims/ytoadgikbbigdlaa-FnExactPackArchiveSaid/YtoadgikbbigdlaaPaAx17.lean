import Derived.Test.YtoadgikbbigdlaaPaAx0
import Derived.Test.YtoadgikbbigdlaaPaAx15
import Derived.Test.YtoadgikbbigdlaaPaAx16
namespace Go.Proofs.Ytoadgikbbigdlaa.A
open Go.RowKit Go.Proofs.YtoadgikbbigdlaaW.PrintWords Go.Proofs.YtoadgikbbigdlaaW.PrintLast Go.Proofs.YtoadgikbbigdlaaW.PrintMore
attribute [local go_sem] max2_int min2_int max_two min_two max_three min_three max_four min_four   -- for this text's walks alone
set_option linter.unusedVariables false
set_option linter.unusedSimpArgs false
theorem tooHeavy_pred (x : S50) (b : Nat) (n : Int) (W : World) (hb : W.cell? ⟨b, 0, none⟩ = some (.int .i64 n)) :
  Calls Try.prog 91 (#[.agg #[.int .i64 x.f0, .int .i64 x.f1, .int .i64 x.f2]] ++ #[.pointer (some ⟨b, 0, none⟩)]) W fun e w' => e = .returned (.bool (decide (n < x.f2))) ∧ Below W.heap.size W w' := by
 have hlt : b < W.heap.size := World.block_lt_of_cell? W ⟨b, 0, none⟩ hb
 show Calls _ _ #[.agg #[.int .i64 x.f0, .int .i64 x.f1, .int .i64 x.f2], .pointer (some ⟨b, 0, none⟩)] _ _
 go_enter Try.func91, Try.ntmps91
 go_wp2
 go_ret
 exact ⟨rfl, (Below.refl _ _).alloc (Nat.le_refl _) _⟩
def any_isTooHeavy1.f (l0 : List S50) (a1 : Int) : Option Bool := some (decide (0 ≤ findI (fun x => decide (a1 < x.f2)) l0 0))
theorem any_isTooHeavy1.calls (A0 : Option Addr) (c0 : Nat) (l0 : List S50) (a1 : Int) (B : Nat) (r : Bool) (w : World) (hr0 : Kd.C k50 w A0 l0.length l0) (hc0 : l0.length ≤ c0) (hb : w.heap[B]? = some (.cells #[.int .i64 a1] 3 (0, 0))) (h : any_isTooHeavy1.f l0 a1 = some r) :
  Calls Try.prog 90 #[.slice A0 l0.length c0, .func (.func 91) #[] #[.pointer (some ⟨B, 0, none⟩)]] w fun e w' => e = .returned (.bool r) ∧ Below w.heap.size w w' := by
 obtain rfl := Option.some.inj h
 exact any_Item A0 c0 l0 91 #[.pointer (some ⟨B, 0, none⟩)] (fun x => decide (a1 < x.f2)) w hr0 (enters_of Try.func91 (by kernel_rfl) rfl)
  (fun W x hW => tooHeavy_pred x _ a1 W ((hW.cell (p := ⟨B, 0, none⟩) (blk_lt hb)).trans ((blk_cell hb 0).trans rfl)))
end Go.Proofs.Ytoadgikbbigdlaa.A
