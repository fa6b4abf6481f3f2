import Derived.Test.YtoadgikbbigdlaaPaAx0
import Derived.Test.YtoadgikbbigdlaaPaAx15
import Derived.Test.YtoadgikbbigdlaaPaAx20
import Derived.Test.YtoadgikbbigdlaaPaAx21
namespace Go.Proofs.Ytoadgikbbigdlaa.A
open Go.RowKit Go.Proofs.YtoadgikbbigdlaaW.PrintWords Go.Proofs.YtoadgikbbigdlaaW.PrintLast Go.Proofs.YtoadgikbbigdlaaW.PrintMore
attribute [local go_sem] max2_int min2_int max_two min_two max_three min_three max_four min_four   -- for this text's walks alone
set_option linter.unusedVariables false
set_option linter.unusedSimpArgs false
theorem pack2_gives (k : Nat) (A1 : Option Addr) (c1 : Nat) (l1 : List S50) (a2 a3 : Int) (B1 B2 B3 : Nat) (AX : Option Addr) (cX : Nat) (x : List Int) (b : Bool) (W : World) (hC : Kd.C k50 W A1 l1.length l1) (hc1 : l1.length ≤ c1)
  (hb1 : W.cell? ⟨B1, 0, none⟩ = some (.slice A1 l1.length c1)) (hb2 : W.cell? ⟨B2, 0, none⟩ = some (.int .i64 a2)) (hb3 : W.cell? ⟨B3, 0, none⟩ = some (.int .i64 a3)) (hX : Kd.C (Kd.int .i64) W AX x.length x) (hlX : x.length ≤ cX) (h : impl_fits.f k l1 x a2 a3 = some b) :
  Calls Try.prog 73 (#[.slice AX x.length cX] ++ #[.pointer (some ⟨B1, 0, none⟩), .pointer (some ⟨B2, 0, none⟩), .pointer (some ⟨B3, 0, none⟩)]) W fun e w' => e = .returned (.bool b) ∧ Below W.heap.size W w' := by
 show Calls _ _ #[.slice AX x.length cX, .pointer (some ⟨B1, 0, none⟩), .pointer (some ⟨B2, 0, none⟩), .pointer (some ⟨B3, 0, none⟩)] _ _
 have hx := Aside0.mk (impl_fits.calls k _ _ l1 _ _ x a2 a3 b W hC hc1 hX hlX h)
 clear hC hc1 hX hlX h
 go_enter Try.func73, Try.ntmps73
 go_wp2_with (go_at_call 59; refine hx.out.mono ?_; rintro e w' ⟨rfl, hd⟩; have HD := Aside0.mk hd; clear hd)
 go_ret
 exact ⟨rfl, HD.out.below⟩
def idx_Pack2.f (k : Nat) (l0 : List (List Int)) (l1 : List S50) (a2 a3 : Int) : Option Int := if ∀ x ∈ l0, (impl_fits.f k l1 x a2 a3).isSome = true then some (findI (fun x => impl_fits.f k l1 x a2 a3 == some true) l0 0) else none
theorem idx_Pack2.mono : ∀ a0 a1 a2 a3 k, LeO (idx_Pack2.f k a0 a1 a2 a3) (idx_Pack2.f (k + 1) a0 a1 a2 a3) := by
 intro a0 a1 a2 a3 k r h
 unfold idx_Pack2.f at h ⊢
 split at h
 ·rename_i hs
  obtain rfl := Option.some.inj h
  have hup : ∀ x ∈ a0, impl_fits.f (k + 1) a1 x a2 a3 = impl_fits.f k a1 x a2 a3 := fun x hx => by
   obtain ⟨b, hb⟩ := Option.isSome_iff_exists.1 (hs x hx)
   rw [hb]
   exact impl_fits.mono a1 x a2 a3 k b hb
  rw [if_pos (fun x hx => by rw [hup x hx]; exact hs x hx)]
  congr 1
  have key : ∀ (l : List (List Int)) (i : Int), (∀ x ∈ l, impl_fits.f (k + 1) a1 x a2 a3 = impl_fits.f k a1 x a2 a3) → findI (fun x => impl_fits.f (k + 1) a1 x a2 a3 == some true) l i = findI (fun x => impl_fits.f k a1 x a2 a3 == some true) l i := by
   intro l
   induction l with
   | nil => intro i _; rfl
   | cons x t ih =>
    intro i hx
    unfold findI
    rw [hx x (by simp), ih (i + 1) (fun y hy => hx y (by simp [hy]))]
  exact key a0 0 hup
 ·cases h
theorem idx_Pack2.calls (k : Nat) (A0 : Option Addr) (c0 : Nat) (l0 : List (List Int)) (A1 : Option Addr) (c1 : Nat) (l1 : List S50) (B1 : Nat) (a2 : Int) (B2 : Nat) (a3 : Int) (B3 : Nat) (r : Int) (w : World)
  (hr0 : Kd.C (Kd.slice 3 (Kd.int .i64)) w A0 l0.length l0) (hc0 : l0.length ≤ c0) (hr1 : Kd.C k50 w A1 l1.length l1) (hc1 : l1.length ≤ c1) (hb1 : w.heap[B1]? = some (.cells #[.slice A1 l1.length c1] 29 (0, 0))) (hb2 : w.heap[B2]? = some (.cells #[.int .i64 a2] 3 (0, 0))) (hb3 : w.heap[B3]? = some (.cells #[.int .i64 a3] 3 (0, 0))) (h : idx_Pack2.f k l0 l1 a2 a3 = some r) :
  Calls Try.prog 72 #[.slice A0 l0.length c0, .func (.func 73) #[] #[.pointer (some ⟨B1, 0, none⟩), .pointer (some ⟨B2, 0, none⟩), .pointer (some ⟨B3, 0, none⟩)]] w fun e w' => e = .returned (.int .i64 r) ∧ Below w.heap.size w w' := by
 unfold idx_Pack2.f at h
 split at h
 ·rename_i hs
  obtain rfl := Option.some.inj h
  refine idx_sint A0 c0 l0 73 #[.pointer (some ⟨B1, 0, none⟩), .pointer (some ⟨B2, 0, none⟩), .pointer (some ⟨B3, 0, none⟩)] _ w hr0 (enters_of Try.func73 (by kernel_rfl) rfl) (fun W x AX cX hx hlX hX hW => ?_)
  obtain ⟨b, hb⟩ := Option.isSome_iff_exists.1 (hs x hx)
  have e : (impl_fits.f k l1 x a2 a3 == some true) = b := by rw [hb]; cases b <;> rfl
  rw [e]
  exact pack2_gives k A1 c1 l1 a2 a3 B1 B2 B3 AX cX x b W (Kd.C_below hr1 hW) hc1 ((hW.cell (p := ⟨B1, 0, none⟩) (blk_lt hb1)).trans ((blk_cell hb1 0).trans rfl)) ((hW.cell (p := ⟨B2, 0, none⟩) (blk_lt hb2)).trans ((blk_cell hb2 0).trans rfl)) ((hW.cell (p := ⟨B3, 0, none⟩) (blk_lt hb3)).trans ((blk_cell hb3 0).trans rfl)) hX hlX hb
 ·cases h
end Go.Proofs.Ytoadgikbbigdlaa.A
