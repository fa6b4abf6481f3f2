import Derived.Test.YtoadgikbbigdlaaPaAx0
import Derived.Test.YtoadgikbbigdlaaPaAx15
namespace Go.Proofs.Ytoadgikbbigdlaa.A
open Go.RowKit Go.Proofs.YtoadgikbbigdlaaW.PrintWords Go.Proofs.YtoadgikbbigdlaaW.PrintLast Go.Proofs.YtoadgikbbigdlaaW.PrintMore
attribute [local go_sem] max2_int min2_int max_two min_two max_three min_three max_four min_four   -- for this text's walks alone
set_option linter.unusedVariables false
set_option linter.unusedSimpArgs false
set_option maxHeartbeats 8000000 in
set_option maxRecDepth 100000 in
theorem idx_sint (A0 : Option Addr) (c0 : Nat) (l0 : List (List Int)) (g : Nat) (lb : Array Value) (p : List Int → Bool) (w : World) (hr0 : Kd.C (Kd.slice 3 (Kd.int .i64)) w A0 l0.length l0)
  (eg : ∀ args w, (callFunc g args).run Try.prog w = .ok (.enter g args) w)
  (hp : ∀ (W : World) (x : List Int) (A0 : Option Addr) (c0 : Nat), x ∈ l0 → x.length ≤ c0 → Kd.C (Kd.int .i64) W A0 x.length x → Below w.heap.size w W → Calls Try.prog g (#[.slice A0 x.length c0] ++ lb) W fun e w' => e = .returned (.bool (p x)) ∧ Below W.heap.size W w') :
  Calls Try.prog 72 #[.slice A0 l0.length c0, .func (.func g) #[] lb] w fun e w' => e = .returned (.int .i64 (findI p l0 0)) ∧ Below w.heap.size w w' := by
 have HM := Aside0.mk (Kd.C_max hr0)
 have HR0 := Aside0.mk hr0
 have HP := Aside0.mk hp
 clear hr0 hp
 go_enter Try.func72, Try.ntmps72
 go_wp2
 go_loopg [5, 8] l0.length (fun gg _ s8 wr => ∃ kk : Nat, kk ≤ l0.length ∧ l0.length - kk ≤ gg ∧ s8 = .int .i64 kk ∧ Aside0 (Below w.heap.size w wr) ∧ Aside0 (findI p (l0.drop kk) kk = findI p l0 0))
 case atStart => exact ⟨0, Nat.zero_le _, by omega, rfl, ⟨Below.refl _ _⟩, ⟨rfl⟩⟩
 case round =>
  obtain ⟨kk, hkk, hg, rfl, BW, A⟩ := hrel
  by_cases hlt : kk < l0.length
  ·have hltz : (kk : Int) < (l0.length : Int) := by omega
   obtain ⟨ad, A0, c0, ead, h0, ll0, g0⟩ := at_L3 HR0.out (kk : Int) (by omega) (by omega)
   have D : Aside0 (findI p (l0.drop kk) (kk : Int) = if p (rd_L3 l0 (kk : Int)) = true then (kk : Int) else findI p (l0.drop (kk + 1)) ((kk : Int) + 1)) := ⟨findI_drop p l0 [] kk hlt kk⟩
   have hx := Aside0.mk (HP.out wr (rd_L3 l0 (kk : Int)) A0 c0 (mem_at _ hlt) ll0 (Kd.C_below g0 BW.out) BW.out)
   clear ll0 g0
   cases ead
   simp only [Int.toNat_natCast] at h0
   replace h0 := (BW.out.cell (World.block_lt_of_cell? w _ h0)).trans h0
   have hM := HM.out
   cases hq : p (rd_L3 l0 (kk : Int)) with
   | true =>
    rw [hq] at hx
    have HQ := Aside0.mk hq
    clear hq
    go_wp2_with (go_at_fn g; refine hx.out.mono ?_; rintro e w' ⟨rfl, hb'⟩)
    go_ret
    refine ⟨?_, BW.out.trans (hb'.mono BW.out.size)⟩
    rw [← A.out, D.out, if_pos HQ.out]
    rfl
   | false =>
    rw [hq] at hx
    have HQ := Aside0.mk hq
    clear hq
    go_wp2_with (go_at_fn g; refine hx.out.mono ?_; rintro e w' ⟨rfl, hb'⟩)
    go_roundg (l0.length - (kk + 1))
    case measure => omega
    case rel =>
     refine ⟨kk + 1, by omega, by omega, by go_num, ⟨BW.out.trans (hb'.mono BW.out.size)⟩, ⟨?_⟩⟩
     rw [← A.out, D.out, if_neg (by rw [HQ.out]; simp)]
     rfl
  ·have hltz : ¬ (kk : Int) < (l0.length : Int) := by omega
   have hk : kk = l0.length := by omega
   subst hk
   have hM := HM.out
   go_wp2
   go_ret
   refine ⟨?_, BW.out⟩
   rw [← A.out, findI_end]
   rfl
end Go.Proofs.Ytoadgikbbigdlaa.A
