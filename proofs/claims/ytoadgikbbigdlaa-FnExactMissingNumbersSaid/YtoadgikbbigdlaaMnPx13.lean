import Derived.Test.YtoadgikbbigdlaaMnPx0
import Derived.Test.YtoadgikbbigdlaaMnPx9
namespace Go.Proofs.Ytoadgikbbigdlaa.P
open Go.RowKit Go.Proofs.YtoadgikbbigdlaaW.PrintWords Go.Proofs.YtoadgikbbigdlaaW.PrintLast Go.Proofs.YtoadgikbbigdlaaW.PrintMore
attribute [local go_sem] max2_int min2_int max_two min_two max_three min_three max_four min_four   -- for this text's walks alone
set_option linter.unusedVariables false
set_option linter.unusedSimpArgs false
set_option maxHeartbeats 8000000 in
set_option maxRecDepth 100000 in
theorem idx_Item (A0 : Option Addr) (c0 : Nat) (l0 : List S50) (g : Nat) (lb : Array Value) (p : S50 → Bool) (w : World) (hr0 : Kd.C k50 w A0 l0.length l0)
    (eg : ∀ args w, (callFunc g args).run Try.prog w = .ok (.enter g args) w)
    (hp : ∀ (W : World) (x : S50), Below w.heap.size w W → Calls Try.prog g (#[.agg #[.int .i64 x.f0, .int .i64 x.f1, .int .i64 x.f2]] ++ lb) W fun e w' => e = .returned (.bool (p x)) ∧ Below W.heap.size W w') :
    Calls Try.prog 79 #[.slice A0 l0.length c0, .func (.func g) #[] lb] w fun e w' => e = .returned (.int .i64 (findI p l0 0)) ∧ Below w.heap.size w w' := by
  have HM := Aside0.mk (Kd.C_max hr0)
  have HR0 := Aside0.mk hr0
  have HP := Aside0.mk hp
  clear hr0 hp
  go_enter Try.func79, Try.ntmps79
  go_wp2
  go_loopg [5, 8] l0.length (fun gg _ s8 wr => ∃ kk : Nat, kk ≤ l0.length ∧ l0.length - kk ≤ gg ∧ s8 = .int .i64 kk ∧ Aside0 (Below w.heap.size w wr) ∧ Aside0 (findI p (l0.drop kk) kk = findI p l0 0))
  case atStart => exact ⟨0, Nat.zero_le _, by omega, rfl, ⟨Below.refl _ _⟩, ⟨rfl⟩⟩
  case round =>
    obtain ⟨kk, hkk, hg, rfl, BW, A⟩ := hrel
    by_cases hlt : kk < l0.length
    · have hltz : (kk : Int) < (l0.length : Int) := by omega
      obtain ⟨ad, ead, h0, h1, h2⟩ := at_T50 HR0.out (kk : Int) (by omega) (by omega)
      have D : Aside0 (findI p (l0.drop kk) (kk : Int) = if p (rd_T50 l0 (kk : Int)) = true then (kk : Int) else findI p (l0.drop (kk + 1)) ((kk : Int) + 1)) := ⟨findI_drop p l0 z50 kk hlt kk⟩
      have hx := Aside0.mk (HP.out wr (rd_T50 l0 (kk : Int)) BW.out)
      cases ead
      simp only [Int.toNat_natCast] at h0 h1 h2
      replace h0 := (BW.out.cell (World.block_lt_of_cell? w _ h0)).trans h0
      replace h1 := (BW.out.cell (World.block_lt_of_cell? w _ h1)).trans h1
      replace h2 := (BW.out.cell (World.block_lt_of_cell? w _ h2)).trans h2
      have hM := HM.out
      cases hq : p (rd_T50 l0 (kk : Int)) with
      | true =>
        rw [hq] at hx
        have HQ := Aside0.mk hq
        clear hq
        go_wp2_with (go_at_fn g; refine hx.out.mono ?_; rintro e w' ⟨rfl, hb'⟩)
        go_ret
        refine ⟨?_, BW.out.trans (hb'.mono BW.out.size)⟩
        rw [← A.out, D.out, if_pos HQ.out]
        rfl
      | false =>
        rw [hq] at hx
        have HQ := Aside0.mk hq
        clear hq
        go_wp2_with (go_at_fn g; refine hx.out.mono ?_; rintro e w' ⟨rfl, hb'⟩)
        go_roundg (l0.length - (kk + 1))
        case measure => omega
        case rel =>
          refine ⟨kk + 1, by omega, by omega, by go_num, ⟨BW.out.trans (hb'.mono BW.out.size)⟩, ⟨?_⟩⟩
          rw [← A.out, D.out, if_neg (by rw [HQ.out]; simp)]
          rfl
    · have hltz : ¬ (kk : Int) < (l0.length : Int) := by omega
      have hk : kk = l0.length := by omega
      subst hk
      have hM := HM.out
      go_wp2
      go_ret
      refine ⟨?_, BW.out⟩
      rw [← A.out, findI_end]
      rfl
set_option maxHeartbeats 1000000 in
theorem itemOf_pred (x : S50) (b : Nat) (n : Int) (W : World) (hb : W.cell? ⟨b, 0, none⟩ = some (.int .i64 n)) :
    Calls Try.prog 80 (#[.agg #[.int .i64 x.f0, .int .i64 x.f1, .int .i64 x.f2]] ++ #[.pointer (some ⟨b, 0, none⟩)]) W fun e w' => e = .returned (.bool (x.f0 == n)) ∧ Below W.heap.size W w' := by
  have hlt : b < W.heap.size := World.block_lt_of_cell? W ⟨b, 0, none⟩ hb
  show Calls _ _ #[.agg #[.int .i64 x.f0, .int .i64 x.f1, .int .i64 x.f2], .pointer (some ⟨b, 0, none⟩)] _ _
  go_enter Try.func80, Try.ntmps80
  go_wp2
  go_ret
  exact ⟨rfl, (Below.refl _ _).alloc (Nat.le_refl _) _⟩
def impl_itemOf.f (l0 : List S50) (a1 : Int) : Option Int := some (findI (fun x => x.f0 == a1) l0 0)
set_option maxHeartbeats 1000000 in
theorem impl_itemOf.calls (A0 : Option Addr) (c0 : Nat) (l0 : List S50) (a1 : Int) (r : Int) (w : World) (hr0 : Kd.C k50 w A0 l0.length l0) (hc0 : l0.length ≤ c0) (h : impl_itemOf.f l0 a1 = some r) :
    Calls Try.prog 42 #[.slice A0 l0.length c0, .int .i64 a1] w fun e w' => e = .returned (.int .i64 r) ∧ Below w.heap.size w w' := by
  obtain rfl := Option.some.inj h
  clear h
  have HR0 := Aside0.mk hr0
  clear hr0
  have HB : Below w.heap.size w (w.alloc (.cells #[.int .i64 a1] 3)) := (Below.refl _ _).alloc (Nat.le_refl _) _
  have hx := Aside0.mk (idx_Item A0 c0 l0 80 #[.pointer (some ⟨w.heap.size, 0, none⟩)] (fun x => x.f0 == a1) (w.alloc (.cells #[.int .i64 a1] 3)) (Kd.C_below HR0.out HB) (enters_of Try.func80 (by kernel_rfl) rfl)
    (fun W x hW => itemOf_pred x _ a1 W ((hW.cell (p := ⟨w.heap.size, 0, none⟩) (by simp)).trans (cell_one_new _ _ _ 0 _ rfl))))
  clear hc0
  have HB' := Aside0.mk HB
  clear HB
  go_enter Try.func42, Try.ntmps42
  go_wp2_with (go_at_call 79; refine hx.out.mono ?_; rintro e w' ⟨rfl, hb'⟩)
  go_ret
  exact ⟨rfl, HB'.out.trans (hb'.mono HB'.out.size)⟩
end Go.Proofs.Ytoadgikbbigdlaa.P
