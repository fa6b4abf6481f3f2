import Derived.Test.YtoadgikbbigdlaaPaWAb
import Derived.Test.YtoadgikbbigdlaaPaAx0
import Derived.Test.YtoadgikbbigdlaaPaAx11
namespace Go.Proofs.Ytoadgikbbigdlaa.A
open Go.RowKit Go.Proofs.YtoadgikbbigdlaaW.PrintWords Go.Proofs.YtoadgikbbigdlaaW.PrintLast Go.Proofs.YtoadgikbbigdlaaW.PrintMore
attribute [local go_sem] max2_int min2_int max_two min_two max_three min_three max_four min_four   -- for this text's walks alone
set_option linter.unusedVariables false
set_option linter.unusedSimpArgs false
def impl_areItems.l0 : Nat → List (S50) → List (S50) → Int → Int → Option (Bool)
 | 0, _, _, _, _ => none
 | k + 1, x0, x5, x6, x7 => if x7 < x6 then (if 0 ≤ x7 then (if x7 < (x5.length : Int) then ((impl_isBoxNumber.f ((rd_T50 x5 x7).f0)).bind fun t309 => (if t309 = true then ((impl_isMaterial.f ((rd_T50 x5 x7).f1)).bind fun t310 => (if t310 = true then ((impl_within.f ((rd_T50 x5 x7).f2) 1 1000).bind fun t311 => (if t311 = true then (if x7 > 0 then (if 0 ≤ (wrap64 (x7 - 1)) then (if (wrap64 (x7 - 1)) < (x0.length : Int) then (if ((rd_T50 x5 x7).f0) ≤ ((rd_T50 x0 (wrap64 (x7 - 1))).f0) then (some false) else (impl_areItems.l0 k x0 x5 x6 (wrap64 (x7 + 1)))) else (none)) else (none)) else (impl_areItems.l0 k x0 x5 x6 (wrap64 (x7 + 1)))) else (some false))) else (some false))) else (some false))) else (none)) else (none)) else (some (decide ((x0.length : Int) ≤ 12)))
def impl_areItems.f (k : Nat) (l0 : List (S50)) : Option (Bool) := impl_areItems.l0 k l0 l0 (l0.length : Int) 0
theorem impl_areItems.mono_l : ∀ k, (∀ y0 y1 y2 y3, LeO (impl_areItems.l0 k y0 y1 y2 y3) (impl_areItems.l0 (k + 1) y0 y1 y2 y3))
 | 0 => fun _ _ _ _ r h => by simp [impl_areItems.l0] at h
 | k + 1 => by
  have ih0 := impl_areItems.mono_l k
  ·intro y0 y1 y2 y3
   unfold impl_areItems.l0
   repeat' first
   | (with_reducible exact ih0 _ _ _ _)
   | (with_reducible exact LeO.refl _)
   | (with_reducible exact LeO.none _)
   | (with_reducible refine LeO.ite ?_ ?_)
   | (with_reducible refine LeO.bind ?_ (fun _ => ?_))
   | exact ih0 _ _ _ _
   | exact LeO.none _
   | refine LeO.ite ?_ ?_
   | refine LeO.bind ?_ (fun _ => ?_)
theorem impl_areItems.mono : ∀ a0 k, LeO (impl_areItems.f k a0) (impl_areItems.f (k + 1) a0) := by
 intro a0 k
 have ih0 := impl_areItems.mono_l k
 unfold impl_areItems.f
 repeat' first
   | (with_reducible exact ih0 _ _ _ _)
   | (with_reducible exact LeO.refl _)
   | (with_reducible exact LeO.none _)
   | (with_reducible refine LeO.ite ?_ ?_)
   | (with_reducible refine LeO.bind ?_ (fun _ => ?_))
   | exact ih0 _ _ _ _
   | exact LeO.none _
   | refine LeO.ite ?_ ?_
   | refine LeO.bind ?_ (fun _ => ?_)
def impl_areItems.T4 : Bool × List (List Nat × List Nat) := (true, [([], []), ([0], [0]), ([1], [1]), ([2], [2]), ([3, 2], [3]), ([4], [4]), ([5, 4], [4, 5]), ([6, 4, 4], [4, 6]), ([7, 4], [4, 7]), ([4, 8], [4, 8]), ([9, 7], [9]), ([10], [10]), ([11, 10], [10, 11]), ([12, 10, 10], [10, 12]), ([13, 10], [10, 13]), ([10, 14], [10, 14]), ([15, 13], [15]), ([16], [16]), ([17, 16], [16, 17]), ([18, 16, 16], [16, 18]), ([19], [19]), ([20, 19], [19, 20]), ([19], [19]), ([19], [19]), ([23, 19], [19, 23]), ([22, 24, 19], [19, 22, 24]), ([25, 19], [19, 25]), ([26, 19], [19, 26]), ([21, 27, 19], [19, 21, 27]), ([19, 28, 16], [16, 19, 28]), ([16, 29], [16, 29])])
def impl_areItems.B4 : List Nat := [0, 1, 3, 7, 15, 31, 63, 127, 255, 511, 1023, 2047, 4095, 8191, 16383, 32767, 65535, 131071, 262143, 524287, 1048575, 2097151, 1048575, 1048575, 9437183, 30408703, 63963135, 131071999, 268435455, 536870911, 1073741823]
theorem impl_areItems.tab4 : rtab .any (opsOf Try.f39 4) = impl_areItems.T4 := by kernel_rfl
theorem impl_areItems.bits4 : waitsOk impl_areItems.T4.2 impl_areItems.B4 = true := by kernel_rfl
def bYtoadgikbbigdlaaPaAx12_0 : Array Bool := #[false, false, false, false, false, false, false, false, false, false, false, false, false, false, false, false, false, false, false, false, false, false, false, false, false, false, false, false, false, false, false]
def bYtoadgikbbigdlaaPaAx12_1 : Array Bool := #[true, false, false, false, false, false, false, false, false, false, false, false, false, false, false, false, false, false, false, false, false, false, false, false, false, false, false, false, false, false, false]
def bYtoadgikbbigdlaaPaAx12_2 : Array Bool := #[true, true, false, false, false, false, false, false, false, false, false, false, false, false, false, false, false, false, false, false, false, false, false, false, false, false, false, false, false, false, false]
def bYtoadgikbbigdlaaPaAx12_3 : Array Bool := #[true, true, true, false, false, false, false, false, false, false, false, false, false, false, false, false, false, false, false, false, false, false, false, false, false, false, false, false, false, false, false]
def bYtoadgikbbigdlaaPaAx12_4 : Array Bool := #[true, true, true, true, false, false, false, false, false, false, false, false, false, false, false, false, false, false, false, false, false, false, false, false, false, false, false, false, false, false, false]
def bYtoadgikbbigdlaaPaAx12_5 : Array Bool := #[true, true, true, true, true, false, false, false, false, false, false, false, false, false, false, false, false, false, false, false, false, false, false, false, false, false, false, false, false, false, false]
def bYtoadgikbbigdlaaPaAx12_6 : Array Bool := #[true, true, true, true, true, true, false, false, false, false, false, false, false, false, false, false, false, false, false, false, false, false, false, false, false, false, false, false, false, false, false]
def bYtoadgikbbigdlaaPaAx12_7 : Array Bool := #[true, true, true, true, true, true, true, false, false, false, false, false, false, false, false, false, false, false, false, false, false, false, false, false, false, false, false, false, false, false, false]
def bYtoadgikbbigdlaaPaAx12_8 : Array Bool := #[true, true, true, true, true, true, true, true, false, false, false, false, false, false, false, false, false, false, false, false, false, false, false, false, false, false, false, false, false, false, false]
def bYtoadgikbbigdlaaPaAx12_9 : Array Bool := #[true, true, true, true, true, true, true, true, true, false, false, false, false, false, false, false, false, false, false, false, false, false, false, false, false, false, false, false, false, false, false]
def bYtoadgikbbigdlaaPaAx12_10 : Array Bool := #[true, true, true, true, true, true, true, true, true, true, false, false, false, false, false, false, false, false, false, false, false, false, false, false, false, false, false, false, false, false, false]
def bYtoadgikbbigdlaaPaAx12_11 : Array Bool := #[true, true, true, true, true, true, true, true, true, true, true, false, false, false, false, false, false, false, false, false, false, false, false, false, false, false, false, false, false, false, false]
def bYtoadgikbbigdlaaPaAx12_12 : Array Bool := #[true, true, true, true, true, true, true, true, true, true, true, true, false, false, false, false, false, false, false, false, false, false, false, false, false, false, false, false, false, false, false]
def bYtoadgikbbigdlaaPaAx12_13 : Array Bool := #[true, true, true, true, true, true, true, true, true, true, true, true, true, false, false, false, false, false, false, false, false, false, false, false, false, false, false, false, false, false, false]
def bYtoadgikbbigdlaaPaAx12_14 : Array Bool := #[true, true, true, true, true, true, true, true, true, true, true, true, true, true, false, false, false, false, false, false, false, false, false, false, false, false, false, false, false, false, false]
def bYtoadgikbbigdlaaPaAx12_15 : Array Bool := #[true, true, true, true, true, true, true, true, true, true, true, true, true, true, true, false, false, false, false, false, false, false, false, false, false, false, false, false, false, false, false]
def bYtoadgikbbigdlaaPaAx12_16 : Array Bool := #[true, true, true, true, true, true, true, true, true, true, true, true, true, true, true, true, false, false, false, false, false, false, false, false, false, false, false, false, false, false, false]
def bYtoadgikbbigdlaaPaAx12_17 : Array Bool := #[true, true, true, true, true, true, true, true, true, true, true, true, true, true, true, true, true, false, false, false, false, false, false, false, false, false, false, false, false, false, false]
def bYtoadgikbbigdlaaPaAx12_18 : Array Bool := #[true, true, true, true, true, true, true, true, true, true, true, true, true, true, true, true, true, true, false, false, false, false, false, false, false, false, false, false, false, false, false]
def bYtoadgikbbigdlaaPaAx12_19 : Array Bool := #[true, true, true, true, true, true, true, true, true, true, true, true, true, true, true, true, true, true, true, false, false, false, false, false, false, false, false, false, false, false, false]
def bYtoadgikbbigdlaaPaAx12_20 : Array Bool := #[true, true, true, true, true, true, true, true, true, true, true, true, true, true, true, true, true, true, true, true, false, false, false, false, false, false, false, false, false, false, false]
def bYtoadgikbbigdlaaPaAx12_21 : Array Bool := #[true, true, true, true, true, true, true, true, true, true, true, true, true, true, true, true, true, true, true, true, true, false, false, false, false, false, false, false, false, false, false]
def bYtoadgikbbigdlaaPaAx12_22 : Array Bool := #[true, true, true, true, true, true, true, true, true, true, true, true, true, true, true, true, true, true, true, true, true, false, true, false, false, false, false, false, false, false, false]
def bYtoadgikbbigdlaaPaAx12_23 : Array Bool := #[true, true, true, true, true, true, true, true, true, true, true, true, true, true, true, true, true, true, true, true, true, false, true, true, false, false, false, false, false, false, false]
def bYtoadgikbbigdlaaPaAx12_24 : Array Bool := #[true, true, true, true, true, true, true, true, true, true, true, true, true, true, true, true, true, true, true, true, true, false, true, true, true, false, false, false, false, false, false]
def bYtoadgikbbigdlaaPaAx12_25 : Array Bool := #[true, true, true, true, true, true, true, true, true, true, true, true, true, true, true, true, true, true, true, true, true, false, true, true, true, true, false, false, false, false, false]
def bYtoadgikbbigdlaaPaAx12_26 : Array Bool := #[true, true, true, true, true, true, true, true, true, true, true, true, true, true, true, true, true, true, true, true, true, false, true, true, true, true, true, false, false, false, false]
def bYtoadgikbbigdlaaPaAx12_27 : Array Bool := #[true, true, true, true, true, true, true, true, true, true, true, true, true, true, true, true, true, true, true, true, true, true, true, true, true, true, true, false, false, false, false]
def bYtoadgikbbigdlaaPaAx12_28 : Array Bool := #[true, true, true, true, true, true, true, true, true, true, true, true, true, true, true, true, true, true, true, true, true, true, true, true, true, true, true, true, false, false, false]
def bYtoadgikbbigdlaaPaAx12_29 : Array Bool := #[true, true, true, true, true, true, true, true, true, true, true, true, true, true, true, true, true, true, true, true, true, true, true, true, true, true, true, true, true, false, false]
def bYtoadgikbbigdlaaPaAx12_30 : Array Bool := #[true, true, true, true, true, true, true, true, true, true, true, true, true, true, true, true, true, true, true, true, true, true, true, true, true, true, true, true, true, true, false]
def bYtoadgikbbigdlaaPaAx12_31 : Array Bool := #[true, true, true, true, true, true, true, true, true, true, true, true, true, true, true, true, true, true, true, true, true, true, true, true, true, true, true, true, true, true, true]
def bYtoadgikbbigdlaaPaAx12_32 : Array Bool := #[true, true, true, true, true, true, true, true, true, true, true, true, true, true, true, true, true, true, true, true, true, true, false, false, false, false, false, false, false, false, false]
def bYtoadgikbbigdlaaPaAx12_33 : Array Bool := #[true, true, true, true, true, true, true, true, true, true, true, true, true, true, true, true, true, true, true, true, true, true, true, false, false, false, false, false, false, false, false]
def bYtoadgikbbigdlaaPaAx12_34 : Array Bool := #[true, true, true, true, true, true, true, true, true, true, true, true, true, true, true, true, true, true, true, true, true, true, true, true, false, false, false, false, false, false, false]
def bYtoadgikbbigdlaaPaAx12_35 : Array Bool := #[true, true, true, true, true, true, true, true, true, true, true, true, true, true, true, true, true, true, true, true, true, true, true, true, true, false, false, false, false, false, false]
def bYtoadgikbbigdlaaPaAx12_36 : Array Bool := #[true, true, true, true, true, true, true, true, true, true, true, true, true, true, true, true, true, true, true, true, true, true, true, true, true, true, false, false, false, false, false]
set_option maxHeartbeats 8000000 in
set_option maxRecDepth 100000 in
theorem impl_areItems.calls (k : Nat) (A0 : Option Addr) (c0 : Nat) (l0 : List (S50)) (r : Bool) (w : World) (hr0 : Kd.C k50 w A0 l0.length l0) (hc0 : l0.length ≤ c0) (h : impl_areItems.f k l0 = some r) :
  Calls Try.prog 39 #[.slice A0 l0.length c0] w fun e w' => e = .returned (.bool r) ∧ Below w.heap.size w w' := by
 have hu50 := Try.underlying50
 have HR0 := Aside0.mk hr0
 have HC0 := Aside0.mk hc0
 clear hr0 hc0
 have HB := Aside0.mk (Below.refl w.heap.size w)
 have H : (impl_areItems.l0 k l0 l0 (l0.length : Int) 0) = some r := h
 clear h
 have H' := Aside0.mk H
 clear H
 go_enter Try.func39, Try.ntmps39
 go_wp2
 go_loopg [7] k (fun kq v7 w' => ∃ (x7_1 : Int), v7 = .int .i64 x7_1 ∧ Aside0 (impl_areItems.l0 kq l0 l0 (l0.length : Int) x7_1 = some r) ∧ Aside0 (kq ≤ k) ∧ Aside0 (Below w.heap.size w w'))
 case atStart => exact ⟨(0), yy11, H', ⟨Nat.le_refl _⟩, ⟨by repeat (first | (with_reducible first | exact HB.out | apply below_alloc | apply pw_below_drewN | apply below_drew1) | exact HB.out)⟩⟩
 case round =>
  clear H'
  obtain ⟨x7_1, rfl, HA, HK1, HB⟩ := hrel
  cases gk with
  | zero => exact absurd HA.out (by simp [impl_areItems.l0])
  | succ k1 =>
   have H := HA.out
   clear HA
   simp only [impl_areItems.l0] at H
   by_cases c2 : x7_1 < (l0.length : Int)
   ·rw [if_pos c2] at H
    have c2b0 : decide (x7_1 < (l0.length : Int)) = true := decide_eq_true c2
    clear c2
    by_cases c3 : 0 ≤ x7_1
    ·rw [if_pos c3] at H
     have c3b0 : decide (0 ≤ x7_1) = true := decide_eq_true c3
     clear c3
     by_cases c4 : x7_1 < (l0.length : Int)
     ·rw [if_pos c4] at H
      have c4b0 : decide (x7_1 < (l0.length : Int)) = true := decide_eq_true c4
      clear c4
      replace H := Option.bind_eq_some_iff.mp H
      obtain ⟨t309, A50, H⟩ := H
      replace H : (if t309 = true then ((impl_isMaterial.f ((rd_T50 l0 x7_1).f1)).bind fun t310 => (if t310 = true then ((impl_within.f ((rd_T50 l0 x7_1).f2) 1 1000).bind fun t311 => (if t311 = true then (if x7_1 > 0 then (if 0 ≤ (wrap64 (x7_1 - 1)) then (if (wrap64 (x7_1 - 1)) < (l0.length : Int) then (if ((rd_T50 l0 x7_1).f0) ≤ ((rd_T50 l0 (wrap64 (x7_1 - 1))).f0) then (some false) else (impl_areItems.l0 k1 l0 l0 (l0.length : Int) (wrap64 (x7_1 + 1)))) else (none)) else (none)) else (impl_areItems.l0 k1 l0 l0 (l0.length : Int) (wrap64 (x7_1 + 1)))) else (some false))) else (some false))) else (some false)) = some r := H
      have A5 := Aside0.mk A50
      clear A50
      by_cases c6 : t309 = true
      ·subst c6
       have H1 : ((impl_isMaterial.f ((rd_T50 l0 x7_1).f1)).bind fun t310 => (if t310 = true then ((impl_within.f ((rd_T50 l0 x7_1).f2) 1 1000).bind fun t311 => (if t311 = true then (if x7_1 > 0 then (if 0 ≤ (wrap64 (x7_1 - 1)) then (if (wrap64 (x7_1 - 1)) < (l0.length : Int) then (if ((rd_T50 l0 x7_1).f0) ≤ ((rd_T50 l0 (wrap64 (x7_1 - 1))).f0) then (some false) else (impl_areItems.l0 k1 l0 l0 (l0.length : Int) (wrap64 (x7_1 + 1)))) else (none)) else (none)) else (impl_areItems.l0 k1 l0 l0 (l0.length : Int) (wrap64 (x7_1 + 1)))) else (some false))) else (some false))) = some r := by rw [if_pos rfl] at H; exact H
       clear H
       have H := H1
       clear H1
       replace H := Option.bind_eq_some_iff.mp H
       obtain ⟨t310, A70, H⟩ := H
       replace H : (if t310 = true then ((impl_within.f ((rd_T50 l0 x7_1).f2) 1 1000).bind fun t311 => (if t311 = true then (if x7_1 > 0 then (if 0 ≤ (wrap64 (x7_1 - 1)) then (if (wrap64 (x7_1 - 1)) < (l0.length : Int) then (if ((rd_T50 l0 x7_1).f0) ≤ ((rd_T50 l0 (wrap64 (x7_1 - 1))).f0) then (some false) else (impl_areItems.l0 k1 l0 l0 (l0.length : Int) (wrap64 (x7_1 + 1)))) else (none)) else (none)) else (impl_areItems.l0 k1 l0 l0 (l0.length : Int) (wrap64 (x7_1 + 1)))) else (some false))) else (some false)) = some r := H
       have A7 := Aside0.mk A70
       clear A70
       by_cases c8 : t310 = true
       ·subst c8
        have H1 : ((impl_within.f ((rd_T50 l0 x7_1).f2) 1 1000).bind fun t311 => (if t311 = true then (if x7_1 > 0 then (if 0 ≤ (wrap64 (x7_1 - 1)) then (if (wrap64 (x7_1 - 1)) < (l0.length : Int) then (if ((rd_T50 l0 x7_1).f0) ≤ ((rd_T50 l0 (wrap64 (x7_1 - 1))).f0) then (some false) else (impl_areItems.l0 k1 l0 l0 (l0.length : Int) (wrap64 (x7_1 + 1)))) else (none)) else (none)) else (impl_areItems.l0 k1 l0 l0 (l0.length : Int) (wrap64 (x7_1 + 1)))) else (some false))) = some r := by rw [if_pos rfl] at H; exact H
        clear H
        have H := H1
        clear H1
        replace H := Option.bind_eq_some_iff.mp H
        obtain ⟨t311, A90, H⟩ := H
        replace H : (if t311 = true then (if x7_1 > 0 then (if 0 ≤ (wrap64 (x7_1 - 1)) then (if (wrap64 (x7_1 - 1)) < (l0.length : Int) then (if ((rd_T50 l0 x7_1).f0) ≤ ((rd_T50 l0 (wrap64 (x7_1 - 1))).f0) then (some false) else (impl_areItems.l0 k1 l0 l0 (l0.length : Int) (wrap64 (x7_1 + 1)))) else (none)) else (none)) else (impl_areItems.l0 k1 l0 l0 (l0.length : Int) (wrap64 (x7_1 + 1)))) else (some false)) = some r := H
        have A9 := Aside0.mk A90
        clear A90
        by_cases c10 : t311 = true
        ·subst c10
         have H1 : (if x7_1 > 0 then (if 0 ≤ (wrap64 (x7_1 - 1)) then (if (wrap64 (x7_1 - 1)) < (l0.length : Int) then (if ((rd_T50 l0 x7_1).f0) ≤ ((rd_T50 l0 (wrap64 (x7_1 - 1))).f0) then (some false) else (impl_areItems.l0 k1 l0 l0 (l0.length : Int) (wrap64 (x7_1 + 1)))) else (none)) else (none)) else (impl_areItems.l0 k1 l0 l0 (l0.length : Int) (wrap64 (x7_1 + 1)))) = some r := by rw [if_pos rfl] at H; exact H
         clear H
         have H := H1
         clear H1
         by_cases c11 : x7_1 > 0
         ·rw [if_pos c11] at H
          have c11b0 : decide (0 < x7_1) = true := decide_eq_true c11
          clear c11
          obtain ⟨ji12, hji12⟩ : ∃ j_ : Int, (wrap64 (x7_1 - 1)) = j_ := ⟨_, rfl⟩
          replace H : (if 0 ≤ (ji12) then (if (ji12) < (l0.length : Int) then (if ((rd_T50 l0 x7_1).f0) ≤ ((rd_T50 l0 (ji12)).f0) then (some false) else (impl_areItems.l0 k1 l0 l0 (l0.length : Int) (wrap64 (x7_1 + 1)))) else (none)) else (none)) = some r := by first | (rw [hji12] at H; exact H) | (simp only [hji12] at H ⊢; exact H)
          (try rw [hji12] at A5)
          (try rw [hji12] at A7)
          (try rw [hji12] at A9)
          have hji12w : (IntKind.i64.wrap (x7_1 - 1)) = ji12 := (i64_w _).trans hji12
          by_cases c13 : 0 ≤ (ji12)
          ·rw [if_pos c13] at H
           have c13b0 : decide (0 ≤ (ji12)) = true := decide_eq_true c13
           clear c13
           by_cases c14 : (ji12) < (l0.length : Int)
           ·rw [if_pos c14] at H
            have c14b0 : decide ((ji12) < (l0.length : Int)) = true := decide_eq_true c14
            clear c14
            by_cases c15 : ((rd_T50 l0 x7_1).f0) ≤ ((rd_T50 l0 (ji12)).f0)
            ·rw [if_pos c15] at H
             have c15b0 : decide (((rd_T50 l0 x7_1).f0) ≤ ((rd_T50 l0 (ji12)).f0)) = true := decide_eq_true c15
             clear c15
             obtain rfl := Option.some.inj H
             have p307 : 0 ≤ (x7_1 : Int) := of_decide_eq_true yy2
             have q307 : x7_1 < (l0.length : Int) := of_decide_eq_true yy2
             obtain ⟨ad307, e307, hx307_0, hx307_1, hx307_2⟩ := at_T50 HR0.out x7_1 p307 q307
             cases e307
             replace hx307_0 := (HB.out.cell (World.block_lt_of_cell? w _ hx307_0)).trans hx307_0
             replace hx307_1 := (HB.out.cell (World.block_lt_of_cell? w _ hx307_1)).trans hx307_1
             replace hx307_2 := (HB.out.cell (World.block_lt_of_cell? w _ hx307_2)).trans hx307_2
             replace p307 := eq_true p307
             replace q307 := eq_true q307
             try go_wp2_with (first | ((with_reducible refine gate_dst (N := 4) rfl ?_); refine box_event ?hg (N := 4) ?hd (cs := #[.int .i64 0, .int .i64 0, .int .i64 0]) (t := 50) ?hr ?_; (case hd => rfl); (case hg => rfl); (case hr => first | (go_simp; done) | (go_simp; rfl)); intro gb308 hg w16 hbox hb; have n0_ := Aside0.mk (below_step yy1 hb); have n1_ := Aside0.mk (hbox); have n2_ := Aside0.mk ((by rw [hg]; exact (below_size yy1) : w.heap.size ≤ gb308)); have n3_ := Aside0.mk ((by rw [hg]; exact (below_size yy1) : w.heap.size ≤ gb308)); clear HB; have HB := n0_; have BK308 := n1_; have GW308 := n2_; have GE308 := n3_; clear n0_ n1_ n2_ n3_; clear hb hbox hg; have hcz17_0 : w16.cell? ⟨gb308, 0, none⟩ = some (.int .i64 0) := (blk_cell BK308.out 0).trans rfl; have hcz17_1 : w16.cell? ⟨gb308, 1, none⟩ = some (.int .i64 0) := (blk_cell BK308.out 1).trans rfl; have hcz17_2 : w16.cell? ⟨gb308, 2, none⟩ = some (.int .i64 0) := (blk_cell BK308.out 2).trans rfl; have hfz17_0 := blk_frozen BK308.out 0; have hfz17_1 := blk_frozen BK308.out 1; have hfz17_2 := blk_frozen BK308.out 2))
             have n0_ : Aside0 ((((w16.setCell ⟨gb308, 0, none⟩ (.int .i64 ((rd_T50 l0 x7_1).f0))).setCell ⟨gb308, 1, none⟩ (.int .i64 ((rd_T50 l0 x7_1).f1))).setCell ⟨gb308, 2, none⟩ (.int .i64 ((rd_T50 l0 x7_1).f2))).heap[gb308]? = some (.cells #[.int .i64 ((rd_T50 l0 x7_1).f0), .int .i64 ((rd_T50 l0 x7_1).f1), .int .i64 ((rd_T50 l0 x7_1).f2)] 50 (0, 0))) := ⟨by (with_reducible repeat (first | refine blk_drewN ?_ _ | refine blk_drew ?_ | refine blk_alloc ?_ _)); refine blk_put (cs := #[.int .i64 ((rd_T50 l0 x7_1).f0), .int .i64 ((rd_T50 l0 x7_1).f1), .int .i64 0]) ?_ 2 _ rfl; (with_reducible repeat (first | refine blk_drewN ?_ _ | refine blk_drew ?_ | refine blk_alloc ?_ _)); refine blk_put (cs := #[.int .i64 ((rd_T50 l0 x7_1).f0), .int .i64 0, .int .i64 0]) ?_ 1 _ rfl; (with_reducible repeat (first | refine blk_drewN ?_ _ | refine blk_drew ?_ | refine blk_alloc ?_ _)); refine blk_put (cs := #[.int .i64 0, .int .i64 0, .int .i64 0]) ?_ 0 _ rfl; (with_reducible repeat (first | refine blk_drewN ?_ _ | refine blk_drew ?_ | refine blk_alloc ?_ _)); exact BK308.out⟩
             have n1_ : Aside0 (Below w.heap.size w (((w16.setCell ⟨gb308, 0, none⟩ (.int .i64 ((rd_T50 l0 x7_1).f0))).setCell ⟨gb308, 1, none⟩ (.int .i64 ((rd_T50 l0 x7_1).f1))).setCell ⟨gb308, 2, none⟩ (.int .i64 ((rd_T50 l0 x7_1).f2)))) := ⟨by repeat (first | (with_reducible first | exact HB.out | apply below_alloc | apply pw_below_drewN | apply below_drew1 | refine below_set ?_ GE308.out) | exact HB.out)⟩
             (try clear BK308)
             (try clear HB)
             generalize (((w16.setCell ⟨gb308, 0, none⟩ (.int .i64 ((rd_T50 l0 x7_1).f0))).setCell ⟨gb308, 1, none⟩ (.int .i64 ((rd_T50 l0 x7_1).f1))).setCell ⟨gb308, 2, none⟩ (.int .i64 ((rd_T50 l0 x7_1).f2))) = w18 at n0_ n1_ ⊢
             have BK308 := n0_
             have HB := n1_
             clear n0_ n1_
             have n0_ := Aside0.mk (blk_drew BK308.out)
             have n1_ := Aside0.mk (below_drew1 HB.out)
             clear BK308 HB
             have BK308 := n0_
             have HB := n1_
             clear n0_ n1_
             have p312 : 0 ≤ ((ji12) : Int) := of_decide_eq_true yy2
             have q312 : (ji12) < (l0.length : Int) := of_decide_eq_true yy2
             obtain ⟨ad312, e312, hx312_0, hx312_1, hx312_2⟩ := at_T50 HR0.out (ji12) p312 q312
             have hw312_2 := hx312_2
             have hw312_1 := hx312_1
             have hw312_0 := hx312_0
             obtain rfl : ad307 = ad312 := (by injection e312)
             replace hx312_0 := (HB.out.cell (World.block_lt_of_cell? w _ hx312_0)).trans hx312_0
             replace hx312_1 := (HB.out.cell (World.block_lt_of_cell? w _ hx312_1)).trans hx312_1
             replace hx312_2 := (HB.out.cell (World.block_lt_of_cell? w _ hx312_2)).trans hx312_2
             replace p312 := eq_true p312
             replace q312 := eq_true q312
             refine start_ (n := 31) (S := fun w' => w'.cell? ⟨gb308, 0, none⟩ = some (.int .i64 ((rd_T50 l0 x7_1).f0)) ∧ w'.cell? ⟨gb308, 1, none⟩ = some (.int .i64 ((rd_T50 l0 x7_1).f1)) ∧ w'.cell? ⟨gb308, 2, none⟩ = some (.int .i64 ((rd_T50 l0 x7_1).f2)) ∧ w'.cell? (ad307.add (((ji12)).toNat * 3)) = some (.int .i64 ((rd_T50 l0 (ji12)).f0)) ∧ w'.cell? ⟨(ad307.add (((ji12)).toNat * 3)).block, (ad307.add (((ji12)).toNat * 3)).off + 1, none⟩ = some (.int .i64 ((rd_T50 l0 (ji12)).f1)) ∧ w'.cell? ⟨(ad307.add (((ji12)).toNat * 3)).block, (ad307.add (((ji12)).toNat * 3)).off + 2, none⟩ = some (.int .i64 ((rd_T50 l0 (ji12)).f2))) (ds := []) bYtoadgikbbigdlaaPaAx12_0 (by kernel_rfl) rfl rfl ⟨(blk_cell BK308.out 0).trans rfl, (blk_cell BK308.out 1).trans rfl, (blk_cell BK308.out 2).trans rfl, ((HB.out.cell (World.block_lt_of_cell? w _ hw312_0)).trans hw312_0), ((HB.out.cell (World.block_lt_of_cell? w _ hw312_1)).trans hw312_1), ((HB.out.cell (World.block_lt_of_cell? w _ hw312_2)).trans hw312_2)⟩ (fun hHeld => ?_); refine with_tabW impl_areItems.tab4 impl_areItems.bits4 (fun HT_ HW_ => ?_)
             generalize w18.drew = w19 at BK308 HB hx312_0 hx312_1 hx312_2 hHeld ⊢
             refine pu_ 0 12 bYtoadgikbbigdlaaPaAx12_1 ?_
             refine t6_ 1 13 bYtoadgikbbigdlaaPaAx12_2 hHeld ?_
             refine one_ (i := 2) (N := some 14) bYtoadgikbbigdlaaPaAx12_3 rfl rfl (one_of HT_.out (by kernel_rfl)) (by decide) (fun K hK => ?_)
             refine goes_ Try.func58 (by kernel_rfl) rfl #[.int .i64 ((rd_T50 l0 x7_1).f0)] (by rfl) rfl rfl yy3 ?_
             with_reducible refine (impl_isBoxNumber.calls ((rd_T50 l0 x7_1).f0) true _ A5.out).mono ?_
             rintro e w' ⟨rfl, ⟨nd, rfl⟩⟩
             refine ⟨_, rfl, ?_⟩
             refine hK.out _ _ ⟨(blk_cell BK308.out 0).trans rfl, (blk_cell BK308.out 1).trans rfl, (blk_cell BK308.out 2).trans rfl, ((HB.out.cell (World.block_lt_of_cell? w _ hw312_0)).trans hw312_0), ((HB.out.cell (World.block_lt_of_cell? w _ hw312_1)).trans hw312_1), ((HB.out.cell (World.block_lt_of_cell? w _ hw312_2)).trans hw312_2)⟩ (fun hHeld => ?_)
             clear hK K
             refine no_ 14 ?_
             refine pu_ 3 15 bYtoadgikbbigdlaaPaAx12_4 ?_
             refine pu_ 4 16 bYtoadgikbbigdlaaPaAx12_5 ?_
             refine pu_ 5 17 bYtoadgikbbigdlaaPaAx12_6 ?_
             refine t6_ 6 18 bYtoadgikbbigdlaaPaAx12_7 hHeld ?_
             refine one_ (i := 7) (N := some 19) bYtoadgikbbigdlaaPaAx12_8 rfl rfl (one_of HT_.out (by kernel_rfl)) (by decide) (fun K hK => ?_)
             refine goes_ Try.func60 (by kernel_rfl) rfl #[.int .i64 ((rd_T50 l0 x7_1).f1)] (by rfl) rfl rfl yy3 ?_
             with_reducible refine (impl_isMaterial.calls ((rd_T50 l0 x7_1).f1) true _ A7.out).mono ?_
             rintro e w' ⟨rfl, ⟨nd, rfl⟩⟩
             refine ⟨_, rfl, ?_⟩
             refine hK.out _ _ ⟨(blk_cell BK308.out 0).trans rfl, (blk_cell BK308.out 1).trans rfl, (blk_cell BK308.out 2).trans rfl, ((HB.out.cell (World.block_lt_of_cell? w _ hw312_0)).trans hw312_0), ((HB.out.cell (World.block_lt_of_cell? w _ hw312_1)).trans hw312_1), ((HB.out.cell (World.block_lt_of_cell? w _ hw312_2)).trans hw312_2)⟩ (fun hHeld => ?_)
             clear hK K
             refine no_ 19 ?_
             refine pu_ 8 20 bYtoadgikbbigdlaaPaAx12_9 ?_
             refine pu_ 9 21 bYtoadgikbbigdlaaPaAx12_10 ?_
             refine pu_ 10 22 bYtoadgikbbigdlaaPaAx12_11 ?_
             refine pu_ 11 23 bYtoadgikbbigdlaaPaAx12_12 ?_
             refine t6_ 12 24 bYtoadgikbbigdlaaPaAx12_13 hHeld ?_
             refine one_ (i := 13) (N := some 25) bYtoadgikbbigdlaaPaAx12_14 rfl rfl (one_of HT_.out (by kernel_rfl)) (by decide) (fun K hK => ?_)
             refine goes_ Try.func77 (by kernel_rfl) rfl #[.int .i64 ((rd_T50 l0 x7_1).f2), .int .i64 1, .int .i64 1000] (by rfl) rfl rfl yy3 ?_
             with_reducible refine (impl_within.calls ((rd_T50 l0 x7_1).f2) 1 1000 true _ A9.out).mono ?_
             rintro e w' ⟨rfl, ⟨nd, rfl⟩⟩
             refine ⟨_, rfl, ?_⟩
             refine hK.out _ _ ⟨(blk_cell BK308.out 0).trans rfl, (blk_cell BK308.out 1).trans rfl, (blk_cell BK308.out 2).trans rfl, ((HB.out.cell (World.block_lt_of_cell? w _ hw312_0)).trans hw312_0), ((HB.out.cell (World.block_lt_of_cell? w _ hw312_1)).trans hw312_1), ((HB.out.cell (World.block_lt_of_cell? w _ hw312_2)).trans hw312_2)⟩ (fun hHeld => ?_)
             clear hK K
             refine no_ 25 ?_
             refine pu_ 14 26 bYtoadgikbbigdlaaPaAx12_15 ?_
             refine pu_ 15 27 bYtoadgikbbigdlaaPaAx12_16 ?_
             refine pu_ 16 28 bYtoadgikbbigdlaaPaAx12_17 ?_
             refine pu_ 17 29 bYtoadgikbbigdlaaPaAx12_18 ?_
             refine pu_ 18 30 bYtoadgikbbigdlaaPaAx12_19 ?_
             refine pu_ 19 31 bYtoadgikbbigdlaaPaAx12_20 ?_
             refine pu_ 20 32 bYtoadgikbbigdlaaPaAx12_21 ?_
             refine pu_ 22 34 bYtoadgikbbigdlaaPaAx12_22 ?_
             refine pu_ 23 35 bYtoadgikbbigdlaaPaAx12_23 ?_
             refine pu_ 24 36 bYtoadgikbbigdlaaPaAx12_24 ?_
             refine pu_ 25 37 bYtoadgikbbigdlaaPaAx12_25 ?_
             refine pu_ 26 38 bYtoadgikbbigdlaaPaAx12_26 ?_
             refine t6_ 21 33 bYtoadgikbbigdlaaPaAx12_27 hHeld ?_
             refine t6_ 27 39 bYtoadgikbbigdlaaPaAx12_28 hHeld ?_
             refine pu_ 28 40 bYtoadgikbbigdlaaPaAx12_29 ?_
             refine pu_ 29 41 bYtoadgikbbigdlaaPaAx12_30 ?_
             refine pu_ 30 42 bYtoadgikbbigdlaaPaAx12_31 ?_
             refine done_ (done_of HT_.out (by kernel_rfl)) ?_
             try go_wp2
             go_ret
             exact ⟨by first | rfl | (simp [errW_none, errW_some] <;> rfl) | (simp only [← hji12]; first | rfl | (simp [errW_none, errW_some] <;> rfl)) | (simp [*, errW_none, errW_some] <;> rfl), by repeat (first | (with_reducible first | exact HB.out | apply below_alloc | apply pw_below_drewN | apply below_drew1 | refine below_set ?_ GE308.out) | exact HB.out)⟩
            ·rw [if_neg c15] at H
             have c15b0 : decide (((rd_T50 l0 x7_1).f0) ≤ ((rd_T50 l0 (ji12)).f0)) = false := decide_eq_false c15
             clear c15
             have H' := Aside0.mk H
             clear H
             have p307 : 0 ≤ (x7_1 : Int) := of_decide_eq_true yy2
             have q307 : x7_1 < (l0.length : Int) := of_decide_eq_true yy2
             obtain ⟨ad307, e307, hx307_0, hx307_1, hx307_2⟩ := at_T50 HR0.out x7_1 p307 q307
             cases e307
             replace hx307_0 := (HB.out.cell (World.block_lt_of_cell? w _ hx307_0)).trans hx307_0
             replace hx307_1 := (HB.out.cell (World.block_lt_of_cell? w _ hx307_1)).trans hx307_1
             replace hx307_2 := (HB.out.cell (World.block_lt_of_cell? w _ hx307_2)).trans hx307_2
             replace p307 := eq_true p307
             replace q307 := eq_true q307
             try go_wp2_with (first | ((with_reducible refine gate_dst (N := 4) rfl ?_); refine box_event ?hg (N := 4) ?hd (cs := #[.int .i64 0, .int .i64 0, .int .i64 0]) (t := 50) ?hr ?_; (case hd => rfl); (case hg => rfl); (case hr => first | (go_simp; done) | (go_simp; rfl)); intro gb308 hg w20 hbox hb; have n0_ := Aside0.mk (below_step yy1 hb); have n1_ := Aside0.mk (hbox); have n2_ := Aside0.mk ((by rw [hg]; exact (below_size yy1) : w.heap.size ≤ gb308)); have n3_ := Aside0.mk ((by rw [hg]; exact (below_size yy1) : w.heap.size ≤ gb308)); clear HB; have HB := n0_; have BK308 := n1_; have GW308 := n2_; have GE308 := n3_; clear n0_ n1_ n2_ n3_; clear hb hbox hg; have hcz21_0 : w20.cell? ⟨gb308, 0, none⟩ = some (.int .i64 0) := (blk_cell BK308.out 0).trans rfl; have hcz21_1 : w20.cell? ⟨gb308, 1, none⟩ = some (.int .i64 0) := (blk_cell BK308.out 1).trans rfl; have hcz21_2 : w20.cell? ⟨gb308, 2, none⟩ = some (.int .i64 0) := (blk_cell BK308.out 2).trans rfl; have hfz21_0 := blk_frozen BK308.out 0; have hfz21_1 := blk_frozen BK308.out 1; have hfz21_2 := blk_frozen BK308.out 2))
             have n0_ : Aside0 ((((w20.setCell ⟨gb308, 0, none⟩ (.int .i64 ((rd_T50 l0 x7_1).f0))).setCell ⟨gb308, 1, none⟩ (.int .i64 ((rd_T50 l0 x7_1).f1))).setCell ⟨gb308, 2, none⟩ (.int .i64 ((rd_T50 l0 x7_1).f2))).heap[gb308]? = some (.cells #[.int .i64 ((rd_T50 l0 x7_1).f0), .int .i64 ((rd_T50 l0 x7_1).f1), .int .i64 ((rd_T50 l0 x7_1).f2)] 50 (0, 0))) := ⟨by (with_reducible repeat (first | refine blk_drewN ?_ _ | refine blk_drew ?_ | refine blk_alloc ?_ _)); refine blk_put (cs := #[.int .i64 ((rd_T50 l0 x7_1).f0), .int .i64 ((rd_T50 l0 x7_1).f1), .int .i64 0]) ?_ 2 _ rfl; (with_reducible repeat (first | refine blk_drewN ?_ _ | refine blk_drew ?_ | refine blk_alloc ?_ _)); refine blk_put (cs := #[.int .i64 ((rd_T50 l0 x7_1).f0), .int .i64 0, .int .i64 0]) ?_ 1 _ rfl; (with_reducible repeat (first | refine blk_drewN ?_ _ | refine blk_drew ?_ | refine blk_alloc ?_ _)); refine blk_put (cs := #[.int .i64 0, .int .i64 0, .int .i64 0]) ?_ 0 _ rfl; (with_reducible repeat (first | refine blk_drewN ?_ _ | refine blk_drew ?_ | refine blk_alloc ?_ _)); exact BK308.out⟩
             have n1_ : Aside0 (Below w.heap.size w (((w20.setCell ⟨gb308, 0, none⟩ (.int .i64 ((rd_T50 l0 x7_1).f0))).setCell ⟨gb308, 1, none⟩ (.int .i64 ((rd_T50 l0 x7_1).f1))).setCell ⟨gb308, 2, none⟩ (.int .i64 ((rd_T50 l0 x7_1).f2)))) := ⟨by repeat (first | (with_reducible first | exact HB.out | apply below_alloc | apply pw_below_drewN | apply below_drew1 | refine below_set ?_ GE308.out) | exact HB.out)⟩
             (try clear BK308)
             (try clear HB)
             generalize (((w20.setCell ⟨gb308, 0, none⟩ (.int .i64 ((rd_T50 l0 x7_1).f0))).setCell ⟨gb308, 1, none⟩ (.int .i64 ((rd_T50 l0 x7_1).f1))).setCell ⟨gb308, 2, none⟩ (.int .i64 ((rd_T50 l0 x7_1).f2))) = w22 at n0_ n1_ ⊢
             have BK308 := n0_
             have HB := n1_
             clear n0_ n1_
             have n0_ := Aside0.mk (blk_drew BK308.out)
             have n1_ := Aside0.mk (below_drew1 HB.out)
             clear BK308 HB
             have BK308 := n0_
             have HB := n1_
             clear n0_ n1_
             have p312 : 0 ≤ ((ji12) : Int) := of_decide_eq_true yy2
             have q312 : (ji12) < (l0.length : Int) := of_decide_eq_true yy2
             obtain ⟨ad312, e312, hx312_0, hx312_1, hx312_2⟩ := at_T50 HR0.out (ji12) p312 q312
             have hw312_2 := hx312_2
             have hw312_1 := hx312_1
             have hw312_0 := hx312_0
             obtain rfl : ad307 = ad312 := (by injection e312)
             replace hx312_0 := (HB.out.cell (World.block_lt_of_cell? w _ hx312_0)).trans hx312_0
             replace hx312_1 := (HB.out.cell (World.block_lt_of_cell? w _ hx312_1)).trans hx312_1
             replace hx312_2 := (HB.out.cell (World.block_lt_of_cell? w _ hx312_2)).trans hx312_2
             replace p312 := eq_true p312
             replace q312 := eq_true q312
             refine start_ (n := 31) (S := fun w' => w'.cell? ⟨gb308, 0, none⟩ = some (.int .i64 ((rd_T50 l0 x7_1).f0)) ∧ w'.cell? ⟨gb308, 1, none⟩ = some (.int .i64 ((rd_T50 l0 x7_1).f1)) ∧ w'.cell? ⟨gb308, 2, none⟩ = some (.int .i64 ((rd_T50 l0 x7_1).f2)) ∧ w'.cell? (ad307.add (((ji12)).toNat * 3)) = some (.int .i64 ((rd_T50 l0 (ji12)).f0)) ∧ w'.cell? ⟨(ad307.add (((ji12)).toNat * 3)).block, (ad307.add (((ji12)).toNat * 3)).off + 1, none⟩ = some (.int .i64 ((rd_T50 l0 (ji12)).f1)) ∧ w'.cell? ⟨(ad307.add (((ji12)).toNat * 3)).block, (ad307.add (((ji12)).toNat * 3)).off + 2, none⟩ = some (.int .i64 ((rd_T50 l0 (ji12)).f2))) (ds := []) bYtoadgikbbigdlaaPaAx12_0 (by kernel_rfl) rfl rfl ⟨(blk_cell BK308.out 0).trans rfl, (blk_cell BK308.out 1).trans rfl, (blk_cell BK308.out 2).trans rfl, ((HB.out.cell (World.block_lt_of_cell? w _ hw312_0)).trans hw312_0), ((HB.out.cell (World.block_lt_of_cell? w _ hw312_1)).trans hw312_1), ((HB.out.cell (World.block_lt_of_cell? w _ hw312_2)).trans hw312_2)⟩ (fun hHeld => ?_); refine with_tabW impl_areItems.tab4 impl_areItems.bits4 (fun HT_ HW_ => ?_)
             generalize w22.drew = w23 at BK308 HB hx312_0 hx312_1 hx312_2 hHeld ⊢
             refine pu_ 0 12 bYtoadgikbbigdlaaPaAx12_1 ?_
             refine t6_ 1 13 bYtoadgikbbigdlaaPaAx12_2 hHeld ?_
             refine one_ (i := 2) (N := some 14) bYtoadgikbbigdlaaPaAx12_3 rfl rfl (one_of HT_.out (by kernel_rfl)) (by decide) (fun K hK => ?_)
             refine goes_ Try.func58 (by kernel_rfl) rfl #[.int .i64 ((rd_T50 l0 x7_1).f0)] (by rfl) rfl rfl yy3 ?_
             with_reducible refine (impl_isBoxNumber.calls ((rd_T50 l0 x7_1).f0) true _ A5.out).mono ?_
             rintro e w' ⟨rfl, ⟨nd, rfl⟩⟩
             refine ⟨_, rfl, ?_⟩
             refine hK.out _ _ ⟨(blk_cell BK308.out 0).trans rfl, (blk_cell BK308.out 1).trans rfl, (blk_cell BK308.out 2).trans rfl, ((HB.out.cell (World.block_lt_of_cell? w _ hw312_0)).trans hw312_0), ((HB.out.cell (World.block_lt_of_cell? w _ hw312_1)).trans hw312_1), ((HB.out.cell (World.block_lt_of_cell? w _ hw312_2)).trans hw312_2)⟩ (fun hHeld => ?_)
             clear hK K
             refine no_ 14 ?_
             refine pu_ 3 15 bYtoadgikbbigdlaaPaAx12_4 ?_
             refine pu_ 4 16 bYtoadgikbbigdlaaPaAx12_5 ?_
             refine pu_ 5 17 bYtoadgikbbigdlaaPaAx12_6 ?_
             refine t6_ 6 18 bYtoadgikbbigdlaaPaAx12_7 hHeld ?_
             refine one_ (i := 7) (N := some 19) bYtoadgikbbigdlaaPaAx12_8 rfl rfl (one_of HT_.out (by kernel_rfl)) (by decide) (fun K hK => ?_)
             refine goes_ Try.func60 (by kernel_rfl) rfl #[.int .i64 ((rd_T50 l0 x7_1).f1)] (by rfl) rfl rfl yy3 ?_
             with_reducible refine (impl_isMaterial.calls ((rd_T50 l0 x7_1).f1) true _ A7.out).mono ?_
             rintro e w' ⟨rfl, ⟨nd, rfl⟩⟩
             refine ⟨_, rfl, ?_⟩
             refine hK.out _ _ ⟨(blk_cell BK308.out 0).trans rfl, (blk_cell BK308.out 1).trans rfl, (blk_cell BK308.out 2).trans rfl, ((HB.out.cell (World.block_lt_of_cell? w _ hw312_0)).trans hw312_0), ((HB.out.cell (World.block_lt_of_cell? w _ hw312_1)).trans hw312_1), ((HB.out.cell (World.block_lt_of_cell? w _ hw312_2)).trans hw312_2)⟩ (fun hHeld => ?_)
             clear hK K
             refine no_ 19 ?_
             refine pu_ 8 20 bYtoadgikbbigdlaaPaAx12_9 ?_
             refine pu_ 9 21 bYtoadgikbbigdlaaPaAx12_10 ?_
             refine pu_ 10 22 bYtoadgikbbigdlaaPaAx12_11 ?_
             refine pu_ 11 23 bYtoadgikbbigdlaaPaAx12_12 ?_
             refine t6_ 12 24 bYtoadgikbbigdlaaPaAx12_13 hHeld ?_
             refine one_ (i := 13) (N := some 25) bYtoadgikbbigdlaaPaAx12_14 rfl rfl (one_of HT_.out (by kernel_rfl)) (by decide) (fun K hK => ?_)
             refine goes_ Try.func77 (by kernel_rfl) rfl #[.int .i64 ((rd_T50 l0 x7_1).f2), .int .i64 1, .int .i64 1000] (by rfl) rfl rfl yy3 ?_
             with_reducible refine (impl_within.calls ((rd_T50 l0 x7_1).f2) 1 1000 true _ A9.out).mono ?_
             rintro e w' ⟨rfl, ⟨nd, rfl⟩⟩
             refine ⟨_, rfl, ?_⟩
             refine hK.out _ _ ⟨(blk_cell BK308.out 0).trans rfl, (blk_cell BK308.out 1).trans rfl, (blk_cell BK308.out 2).trans rfl, ((HB.out.cell (World.block_lt_of_cell? w _ hw312_0)).trans hw312_0), ((HB.out.cell (World.block_lt_of_cell? w _ hw312_1)).trans hw312_1), ((HB.out.cell (World.block_lt_of_cell? w _ hw312_2)).trans hw312_2)⟩ (fun hHeld => ?_)
             clear hK K
             refine no_ 25 ?_
             refine pu_ 14 26 bYtoadgikbbigdlaaPaAx12_15 ?_
             refine pu_ 15 27 bYtoadgikbbigdlaaPaAx12_16 ?_
             refine pu_ 16 28 bYtoadgikbbigdlaaPaAx12_17 ?_
             refine pu_ 17 29 bYtoadgikbbigdlaaPaAx12_18 ?_
             refine pu_ 18 30 bYtoadgikbbigdlaaPaAx12_19 ?_
             refine pu_ 19 31 bYtoadgikbbigdlaaPaAx12_20 ?_
             refine pu_ 20 32 bYtoadgikbbigdlaaPaAx12_21 ?_
             refine pu_ 22 34 bYtoadgikbbigdlaaPaAx12_22 ?_
             refine pu_ 23 35 bYtoadgikbbigdlaaPaAx12_23 ?_
             refine pu_ 24 36 bYtoadgikbbigdlaaPaAx12_24 ?_
             refine pu_ 25 37 bYtoadgikbbigdlaaPaAx12_25 ?_
             refine pu_ 26 38 bYtoadgikbbigdlaaPaAx12_26 ?_
             refine t6_ 21 33 bYtoadgikbbigdlaaPaAx12_27 hHeld ?_
             refine t6_ 27 39 bYtoadgikbbigdlaaPaAx12_28 hHeld ?_
             refine pu_ 28 40 bYtoadgikbbigdlaaPaAx12_29 ?_
             refine pu_ 29 41 bYtoadgikbbigdlaaPaAx12_30 ?_
             refine pu_ 30 42 bYtoadgikbbigdlaaPaAx12_31 ?_
             refine done_ (done_of HT_.out (by kernel_rfl)) ?_
             try go_wp2
             go_roundg k1
             case measure => have := HK1.out; omega
             case rel => exact ⟨(wrap64 (x7_1 + 1)), yy11, H', ⟨by have := HK1.out; omega⟩, ⟨by repeat (first | (with_reducible first | exact HB.out | apply below_alloc | apply pw_below_drewN | apply below_drew1 | refine below_set ?_ GE308.out) | exact HB.out)⟩⟩
           ·rw [if_neg c14] at H
            exact absurd H (by simp)
          ·rw [if_neg c13] at H
           exact absurd H (by simp)
         ·rw [if_neg c11] at H
          have c11b0 : decide (0 < x7_1) = false := decide_eq_false c11
          clear c11
          have H' := Aside0.mk H
          clear H
          have p307 : 0 ≤ (x7_1 : Int) := of_decide_eq_true yy2
          have q307 : x7_1 < (l0.length : Int) := of_decide_eq_true yy2
          obtain ⟨ad307, e307, hx307_0, hx307_1, hx307_2⟩ := at_T50 HR0.out x7_1 p307 q307
          cases e307
          replace hx307_0 := (HB.out.cell (World.block_lt_of_cell? w _ hx307_0)).trans hx307_0
          replace hx307_1 := (HB.out.cell (World.block_lt_of_cell? w _ hx307_1)).trans hx307_1
          replace hx307_2 := (HB.out.cell (World.block_lt_of_cell? w _ hx307_2)).trans hx307_2
          replace p307 := eq_true p307
          replace q307 := eq_true q307
          try go_wp2_with (first | ((with_reducible refine gate_dst (N := 4) rfl ?_); refine box_event ?hg (N := 4) ?hd (cs := #[.int .i64 0, .int .i64 0, .int .i64 0]) (t := 50) ?hr ?_; (case hd => rfl); (case hg => rfl); (case hr => first | (go_simp; done) | (go_simp; rfl)); intro gb308 hg w24 hbox hb; have n0_ := Aside0.mk (below_step yy1 hb); have n1_ := Aside0.mk (hbox); have n2_ := Aside0.mk ((by rw [hg]; exact (below_size yy1) : w.heap.size ≤ gb308)); have n3_ := Aside0.mk ((by rw [hg]; exact (below_size yy1) : w.heap.size ≤ gb308)); clear HB; have HB := n0_; have BK308 := n1_; have GW308 := n2_; have GE308 := n3_; clear n0_ n1_ n2_ n3_; clear hb hbox hg; have hcz25_0 : w24.cell? ⟨gb308, 0, none⟩ = some (.int .i64 0) := (blk_cell BK308.out 0).trans rfl; have hcz25_1 : w24.cell? ⟨gb308, 1, none⟩ = some (.int .i64 0) := (blk_cell BK308.out 1).trans rfl; have hcz25_2 : w24.cell? ⟨gb308, 2, none⟩ = some (.int .i64 0) := (blk_cell BK308.out 2).trans rfl; have hfz25_0 := blk_frozen BK308.out 0; have hfz25_1 := blk_frozen BK308.out 1; have hfz25_2 := blk_frozen BK308.out 2))
          have n0_ : Aside0 ((((w24.setCell ⟨gb308, 0, none⟩ (.int .i64 ((rd_T50 l0 x7_1).f0))).setCell ⟨gb308, 1, none⟩ (.int .i64 ((rd_T50 l0 x7_1).f1))).setCell ⟨gb308, 2, none⟩ (.int .i64 ((rd_T50 l0 x7_1).f2))).heap[gb308]? = some (.cells #[.int .i64 ((rd_T50 l0 x7_1).f0), .int .i64 ((rd_T50 l0 x7_1).f1), .int .i64 ((rd_T50 l0 x7_1).f2)] 50 (0, 0))) := ⟨by (with_reducible repeat (first | refine blk_drewN ?_ _ | refine blk_drew ?_ | refine blk_alloc ?_ _)); refine blk_put (cs := #[.int .i64 ((rd_T50 l0 x7_1).f0), .int .i64 ((rd_T50 l0 x7_1).f1), .int .i64 0]) ?_ 2 _ rfl; (with_reducible repeat (first | refine blk_drewN ?_ _ | refine blk_drew ?_ | refine blk_alloc ?_ _)); refine blk_put (cs := #[.int .i64 ((rd_T50 l0 x7_1).f0), .int .i64 0, .int .i64 0]) ?_ 1 _ rfl; (with_reducible repeat (first | refine blk_drewN ?_ _ | refine blk_drew ?_ | refine blk_alloc ?_ _)); refine blk_put (cs := #[.int .i64 0, .int .i64 0, .int .i64 0]) ?_ 0 _ rfl; (with_reducible repeat (first | refine blk_drewN ?_ _ | refine blk_drew ?_ | refine blk_alloc ?_ _)); exact BK308.out⟩
          have n1_ : Aside0 (Below w.heap.size w (((w24.setCell ⟨gb308, 0, none⟩ (.int .i64 ((rd_T50 l0 x7_1).f0))).setCell ⟨gb308, 1, none⟩ (.int .i64 ((rd_T50 l0 x7_1).f1))).setCell ⟨gb308, 2, none⟩ (.int .i64 ((rd_T50 l0 x7_1).f2)))) := ⟨by repeat (first | (with_reducible first | exact HB.out | apply below_alloc | apply pw_below_drewN | apply below_drew1 | refine below_set ?_ GE308.out) | exact HB.out)⟩
          (try clear BK308)
          (try clear HB)
          generalize (((w24.setCell ⟨gb308, 0, none⟩ (.int .i64 ((rd_T50 l0 x7_1).f0))).setCell ⟨gb308, 1, none⟩ (.int .i64 ((rd_T50 l0 x7_1).f1))).setCell ⟨gb308, 2, none⟩ (.int .i64 ((rd_T50 l0 x7_1).f2))) = w26 at n0_ n1_ ⊢
          have BK308 := n0_
          have HB := n1_
          clear n0_ n1_
          have n0_ := Aside0.mk (blk_drew BK308.out)
          have n1_ := Aside0.mk (below_drew1 HB.out)
          clear BK308 HB
          have BK308 := n0_
          have HB := n1_
          clear n0_ n1_
          refine start_ (n := 31) (S := fun w' => w'.cell? ⟨gb308, 0, none⟩ = some (.int .i64 ((rd_T50 l0 x7_1).f0)) ∧ w'.cell? ⟨gb308, 1, none⟩ = some (.int .i64 ((rd_T50 l0 x7_1).f1)) ∧ w'.cell? ⟨gb308, 2, none⟩ = some (.int .i64 ((rd_T50 l0 x7_1).f2))) (ds := []) bYtoadgikbbigdlaaPaAx12_0 (by kernel_rfl) rfl rfl ⟨(blk_cell BK308.out 0).trans rfl, (blk_cell BK308.out 1).trans rfl, (blk_cell BK308.out 2).trans rfl⟩ (fun hHeld => ?_); refine with_tabW impl_areItems.tab4 impl_areItems.bits4 (fun HT_ HW_ => ?_)
          generalize w26.drew = w27 at BK308 HB hHeld ⊢
          refine pu_ 0 12 bYtoadgikbbigdlaaPaAx12_1 ?_
          refine t3_ 1 13 bYtoadgikbbigdlaaPaAx12_2 hHeld ?_
          refine one_ (i := 2) (N := some 14) bYtoadgikbbigdlaaPaAx12_3 rfl rfl (one_of HT_.out (by kernel_rfl)) (by decide) (fun K hK => ?_)
          refine goes_ Try.func58 (by kernel_rfl) rfl #[.int .i64 ((rd_T50 l0 x7_1).f0)] (by rfl) rfl rfl yy3 ?_
          with_reducible refine (impl_isBoxNumber.calls ((rd_T50 l0 x7_1).f0) true _ A5.out).mono ?_
          rintro e w' ⟨rfl, ⟨nd, rfl⟩⟩
          refine ⟨_, rfl, ?_⟩
          refine hK.out _ _ ⟨(blk_cell BK308.out 0).trans rfl, (blk_cell BK308.out 1).trans rfl, (blk_cell BK308.out 2).trans rfl⟩ (fun hHeld => ?_)
          clear hK K
          refine no_ 14 ?_
          refine pu_ 3 15 bYtoadgikbbigdlaaPaAx12_4 ?_
          refine pu_ 4 16 bYtoadgikbbigdlaaPaAx12_5 ?_
          refine pu_ 5 17 bYtoadgikbbigdlaaPaAx12_6 ?_
          refine t3_ 6 18 bYtoadgikbbigdlaaPaAx12_7 hHeld ?_
          refine one_ (i := 7) (N := some 19) bYtoadgikbbigdlaaPaAx12_8 rfl rfl (one_of HT_.out (by kernel_rfl)) (by decide) (fun K hK => ?_)
          refine goes_ Try.func60 (by kernel_rfl) rfl #[.int .i64 ((rd_T50 l0 x7_1).f1)] (by rfl) rfl rfl yy3 ?_
          with_reducible refine (impl_isMaterial.calls ((rd_T50 l0 x7_1).f1) true _ A7.out).mono ?_
          rintro e w' ⟨rfl, ⟨nd, rfl⟩⟩
          refine ⟨_, rfl, ?_⟩
          refine hK.out _ _ ⟨(blk_cell BK308.out 0).trans rfl, (blk_cell BK308.out 1).trans rfl, (blk_cell BK308.out 2).trans rfl⟩ (fun hHeld => ?_)
          clear hK K
          refine no_ 19 ?_
          refine pu_ 8 20 bYtoadgikbbigdlaaPaAx12_9 ?_
          refine pu_ 9 21 bYtoadgikbbigdlaaPaAx12_10 ?_
          refine pu_ 10 22 bYtoadgikbbigdlaaPaAx12_11 ?_
          refine pu_ 11 23 bYtoadgikbbigdlaaPaAx12_12 ?_
          refine t3_ 12 24 bYtoadgikbbigdlaaPaAx12_13 hHeld ?_
          refine one_ (i := 13) (N := some 25) bYtoadgikbbigdlaaPaAx12_14 rfl rfl (one_of HT_.out (by kernel_rfl)) (by decide) (fun K hK => ?_)
          refine goes_ Try.func77 (by kernel_rfl) rfl #[.int .i64 ((rd_T50 l0 x7_1).f2), .int .i64 1, .int .i64 1000] (by rfl) rfl rfl yy3 ?_
          with_reducible refine (impl_within.calls ((rd_T50 l0 x7_1).f2) 1 1000 true _ A9.out).mono ?_
          rintro e w' ⟨rfl, ⟨nd, rfl⟩⟩
          refine ⟨_, rfl, ?_⟩
          refine hK.out _ _ ⟨(blk_cell BK308.out 0).trans rfl, (blk_cell BK308.out 1).trans rfl, (blk_cell BK308.out 2).trans rfl⟩ (fun hHeld => ?_)
          clear hK K
          refine no_ 25 ?_
          refine pu_ 14 26 bYtoadgikbbigdlaaPaAx12_15 ?_
          refine pu_ 15 27 bYtoadgikbbigdlaaPaAx12_16 ?_
          refine pu_ 16 28 bYtoadgikbbigdlaaPaAx12_17 ?_
          refine pu_ 17 29 bYtoadgikbbigdlaaPaAx12_18 ?_
          refine pu_ 18 30 bYtoadgikbbigdlaaPaAx12_19 ?_
          refine pu_ 19 31 bYtoadgikbbigdlaaPaAx12_20 ?_
          refine pn_ 20 32 bYtoadgikbbigdlaaPaAx12_21 ?_
          refine pn_ 21 33 bYtoadgikbbigdlaaPaAx12_32 ?_
          refine pn_ 22 34 bYtoadgikbbigdlaaPaAx12_33 ?_
          refine pn_ 23 35 bYtoadgikbbigdlaaPaAx12_34 ?_
          refine pn_ 24 36 bYtoadgikbbigdlaaPaAx12_35 ?_
          refine pn_ 25 37 bYtoadgikbbigdlaaPaAx12_36 ?_
          refine pn_ 26 38 bYtoadgikbbigdlaaPaAx12_27 ?_
          refine pn_ 27 39 bYtoadgikbbigdlaaPaAx12_28 ?_
          refine pn_ 28 40 bYtoadgikbbigdlaaPaAx12_29 ?_
          refine pu_ 29 41 bYtoadgikbbigdlaaPaAx12_30 ?_
          refine pu_ 30 42 bYtoadgikbbigdlaaPaAx12_31 ?_
          refine done_ (done_of HT_.out (by kernel_rfl)) ?_
          try go_wp2
          go_roundg k1
          case measure => have := HK1.out; omega
          case rel => exact ⟨(wrap64 (x7_1 + 1)), yy11, H', ⟨by have := HK1.out; omega⟩, ⟨by repeat (first | (with_reducible first | exact HB.out | apply below_alloc | apply pw_below_drewN | apply below_drew1 | refine below_set ?_ GE308.out) | exact HB.out)⟩⟩
        ·replace c10 := Bool.eq_false_iff.mpr c10
         subst c10
         have H1 : (some false) = some r := by rw [if_neg (show ¬ (false = true) by decide)] at H; exact H
         clear H
         have H := H1
         clear H1
         obtain rfl := Option.some.inj H
         have p307 : 0 ≤ (x7_1 : Int) := of_decide_eq_true yy2
         have q307 : x7_1 < (l0.length : Int) := of_decide_eq_true yy2
         obtain ⟨ad307, e307, hx307_0, hx307_1, hx307_2⟩ := at_T50 HR0.out x7_1 p307 q307
         cases e307
         replace hx307_0 := (HB.out.cell (World.block_lt_of_cell? w _ hx307_0)).trans hx307_0
         replace hx307_1 := (HB.out.cell (World.block_lt_of_cell? w _ hx307_1)).trans hx307_1
         replace hx307_2 := (HB.out.cell (World.block_lt_of_cell? w _ hx307_2)).trans hx307_2
         replace p307 := eq_true p307
         replace q307 := eq_true q307
         try go_wp2_with (first | ((with_reducible refine gate_dst (N := 4) rfl ?_); refine box_event ?hg (N := 4) ?hd (cs := #[.int .i64 0, .int .i64 0, .int .i64 0]) (t := 50) ?hr ?_; (case hd => rfl); (case hg => rfl); (case hr => first | (go_simp; done) | (go_simp; rfl)); intro gb308 hg w28 hbox hb; have n0_ := Aside0.mk (below_step yy1 hb); have n1_ := Aside0.mk (hbox); have n2_ := Aside0.mk ((by rw [hg]; exact (below_size yy1) : w.heap.size ≤ gb308)); have n3_ := Aside0.mk ((by rw [hg]; exact (below_size yy1) : w.heap.size ≤ gb308)); clear HB; have HB := n0_; have BK308 := n1_; have GW308 := n2_; have GE308 := n3_; clear n0_ n1_ n2_ n3_; clear hb hbox hg; have hcz29_0 : w28.cell? ⟨gb308, 0, none⟩ = some (.int .i64 0) := (blk_cell BK308.out 0).trans rfl; have hcz29_1 : w28.cell? ⟨gb308, 1, none⟩ = some (.int .i64 0) := (blk_cell BK308.out 1).trans rfl; have hcz29_2 : w28.cell? ⟨gb308, 2, none⟩ = some (.int .i64 0) := (blk_cell BK308.out 2).trans rfl; have hfz29_0 := blk_frozen BK308.out 0; have hfz29_1 := blk_frozen BK308.out 1; have hfz29_2 := blk_frozen BK308.out 2))
         have n0_ : Aside0 ((((w28.setCell ⟨gb308, 0, none⟩ (.int .i64 ((rd_T50 l0 x7_1).f0))).setCell ⟨gb308, 1, none⟩ (.int .i64 ((rd_T50 l0 x7_1).f1))).setCell ⟨gb308, 2, none⟩ (.int .i64 ((rd_T50 l0 x7_1).f2))).heap[gb308]? = some (.cells #[.int .i64 ((rd_T50 l0 x7_1).f0), .int .i64 ((rd_T50 l0 x7_1).f1), .int .i64 ((rd_T50 l0 x7_1).f2)] 50 (0, 0))) := ⟨by (with_reducible repeat (first | refine blk_drewN ?_ _ | refine blk_drew ?_ | refine blk_alloc ?_ _)); refine blk_put (cs := #[.int .i64 ((rd_T50 l0 x7_1).f0), .int .i64 ((rd_T50 l0 x7_1).f1), .int .i64 0]) ?_ 2 _ rfl; (with_reducible repeat (first | refine blk_drewN ?_ _ | refine blk_drew ?_ | refine blk_alloc ?_ _)); refine blk_put (cs := #[.int .i64 ((rd_T50 l0 x7_1).f0), .int .i64 0, .int .i64 0]) ?_ 1 _ rfl; (with_reducible repeat (first | refine blk_drewN ?_ _ | refine blk_drew ?_ | refine blk_alloc ?_ _)); refine blk_put (cs := #[.int .i64 0, .int .i64 0, .int .i64 0]) ?_ 0 _ rfl; (with_reducible repeat (first | refine blk_drewN ?_ _ | refine blk_drew ?_ | refine blk_alloc ?_ _)); exact BK308.out⟩
         have n1_ : Aside0 (Below w.heap.size w (((w28.setCell ⟨gb308, 0, none⟩ (.int .i64 ((rd_T50 l0 x7_1).f0))).setCell ⟨gb308, 1, none⟩ (.int .i64 ((rd_T50 l0 x7_1).f1))).setCell ⟨gb308, 2, none⟩ (.int .i64 ((rd_T50 l0 x7_1).f2)))) := ⟨by repeat (first | (with_reducible first | exact HB.out | apply below_alloc | apply pw_below_drewN | apply below_drew1 | refine below_set ?_ GE308.out) | exact HB.out)⟩
         (try clear BK308)
         (try clear HB)
         generalize (((w28.setCell ⟨gb308, 0, none⟩ (.int .i64 ((rd_T50 l0 x7_1).f0))).setCell ⟨gb308, 1, none⟩ (.int .i64 ((rd_T50 l0 x7_1).f1))).setCell ⟨gb308, 2, none⟩ (.int .i64 ((rd_T50 l0 x7_1).f2))) = w30 at n0_ n1_ ⊢
         have BK308 := n0_
         have HB := n1_
         clear n0_ n1_
         have n0_ := Aside0.mk (blk_drew BK308.out)
         have n1_ := Aside0.mk (below_drew1 HB.out)
         clear BK308 HB
         have BK308 := n0_
         have HB := n1_
         clear n0_ n1_
         refine start_ (n := 31) (S := fun w' => w'.cell? ⟨gb308, 0, none⟩ = some (.int .i64 ((rd_T50 l0 x7_1).f0)) ∧ w'.cell? ⟨gb308, 1, none⟩ = some (.int .i64 ((rd_T50 l0 x7_1).f1)) ∧ w'.cell? ⟨gb308, 2, none⟩ = some (.int .i64 ((rd_T50 l0 x7_1).f2))) (ds := []) bYtoadgikbbigdlaaPaAx12_0 (by kernel_rfl) rfl rfl ⟨(blk_cell BK308.out 0).trans rfl, (blk_cell BK308.out 1).trans rfl, (blk_cell BK308.out 2).trans rfl⟩ (fun hHeld => ?_); refine with_tabW impl_areItems.tab4 impl_areItems.bits4 (fun HT_ HW_ => ?_)
         generalize w30.drew = w31 at BK308 HB hHeld ⊢
         refine pu_ 0 12 bYtoadgikbbigdlaaPaAx12_1 ?_
         refine t3_ 1 13 bYtoadgikbbigdlaaPaAx12_2 hHeld ?_
         refine one_ (i := 2) (N := some 14) bYtoadgikbbigdlaaPaAx12_3 rfl rfl (one_of HT_.out (by kernel_rfl)) (by decide) (fun K hK => ?_)
         refine goes_ Try.func58 (by kernel_rfl) rfl #[.int .i64 ((rd_T50 l0 x7_1).f0)] (by rfl) rfl rfl yy3 ?_
         with_reducible refine (impl_isBoxNumber.calls ((rd_T50 l0 x7_1).f0) true _ A5.out).mono ?_
         rintro e w' ⟨rfl, ⟨nd, rfl⟩⟩
         refine ⟨_, rfl, ?_⟩
         refine hK.out _ _ ⟨(blk_cell BK308.out 0).trans rfl, (blk_cell BK308.out 1).trans rfl, (blk_cell BK308.out 2).trans rfl⟩ (fun hHeld => ?_)
         clear hK K
         refine no_ 14 ?_
         refine pu_ 3 15 bYtoadgikbbigdlaaPaAx12_4 ?_
         refine pu_ 4 16 bYtoadgikbbigdlaaPaAx12_5 ?_
         refine pu_ 5 17 bYtoadgikbbigdlaaPaAx12_6 ?_
         refine t3_ 6 18 bYtoadgikbbigdlaaPaAx12_7 hHeld ?_
         refine one_ (i := 7) (N := some 19) bYtoadgikbbigdlaaPaAx12_8 rfl rfl (one_of HT_.out (by kernel_rfl)) (by decide) (fun K hK => ?_)
         refine goes_ Try.func60 (by kernel_rfl) rfl #[.int .i64 ((rd_T50 l0 x7_1).f1)] (by rfl) rfl rfl yy3 ?_
         with_reducible refine (impl_isMaterial.calls ((rd_T50 l0 x7_1).f1) true _ A7.out).mono ?_
         rintro e w' ⟨rfl, ⟨nd, rfl⟩⟩
         refine ⟨_, rfl, ?_⟩
         refine hK.out _ _ ⟨(blk_cell BK308.out 0).trans rfl, (blk_cell BK308.out 1).trans rfl, (blk_cell BK308.out 2).trans rfl⟩ (fun hHeld => ?_)
         clear hK K
         refine no_ 19 ?_
         refine pu_ 8 20 bYtoadgikbbigdlaaPaAx12_9 ?_
         refine pu_ 9 21 bYtoadgikbbigdlaaPaAx12_10 ?_
         refine pu_ 10 22 bYtoadgikbbigdlaaPaAx12_11 ?_
         refine pu_ 11 23 bYtoadgikbbigdlaaPaAx12_12 ?_
         refine t3_ 12 24 bYtoadgikbbigdlaaPaAx12_13 hHeld ?_
         refine one_ (i := 13) (N := some 25) bYtoadgikbbigdlaaPaAx12_14 rfl rfl (one_of HT_.out (by kernel_rfl)) (by decide) (fun K hK => ?_)
         refine goes_ Try.func77 (by kernel_rfl) rfl #[.int .i64 ((rd_T50 l0 x7_1).f2), .int .i64 1, .int .i64 1000] (by rfl) rfl rfl yy3 ?_
         with_reducible refine (impl_within.calls ((rd_T50 l0 x7_1).f2) 1 1000 false _ A9.out).mono ?_
         rintro e w' ⟨rfl, ⟨nd, rfl⟩⟩
         refine ⟨_, rfl, ?_⟩
         refine hK.out _ _ ⟨(blk_cell BK308.out 0).trans rfl, (blk_cell BK308.out 1).trans rfl, (blk_cell BK308.out 2).trans rfl⟩ (fun hHeld => ?_)
         clear hK K
         refine no_ 25 ?_
         refine pu_ 14 26 bYtoadgikbbigdlaaPaAx12_15 ?_
         refine pu_ 15 27 bYtoadgikbbigdlaaPaAx12_16 ?_
         refine pu_ 16 28 bYtoadgikbbigdlaaPaAx12_17 ?_
         refine pn_ 17 29 bYtoadgikbbigdlaaPaAx12_18 ?_
         refine pn_ 18 30 bYtoadgikbbigdlaaPaAx12_19 ?_
         refine pn_ 19 31 bYtoadgikbbigdlaaPaAx12_20 ?_
         refine pn_ 20 32 bYtoadgikbbigdlaaPaAx12_21 ?_
         refine pn_ 21 33 bYtoadgikbbigdlaaPaAx12_32 ?_
         refine pn_ 22 34 bYtoadgikbbigdlaaPaAx12_33 ?_
         refine pn_ 23 35 bYtoadgikbbigdlaaPaAx12_34 ?_
         refine pn_ 24 36 bYtoadgikbbigdlaaPaAx12_35 ?_
         refine pn_ 25 37 bYtoadgikbbigdlaaPaAx12_36 ?_
         refine pn_ 26 38 bYtoadgikbbigdlaaPaAx12_27 ?_
         refine pn_ 27 39 bYtoadgikbbigdlaaPaAx12_28 ?_
         refine pn_ 28 40 bYtoadgikbbigdlaaPaAx12_29 ?_
         refine pn_ 29 41 bYtoadgikbbigdlaaPaAx12_30 ?_
         refine pu_ 30 42 bYtoadgikbbigdlaaPaAx12_31 ?_
         refine done_ (done_of HT_.out (by kernel_rfl)) ?_
         try go_wp2
         go_ret
         exact ⟨by first | rfl | (simp [errW_none, errW_some] <;> rfl) | (simp [*, errW_none, errW_some] <;> rfl), by repeat (first | (with_reducible first | exact HB.out | apply below_alloc | apply pw_below_drewN | apply below_drew1 | refine below_set ?_ GE308.out) | exact HB.out)⟩
       ·replace c8 := Bool.eq_false_iff.mpr c8
        subst c8
        have H1 : (some false) = some r := by rw [if_neg (show ¬ (false = true) by decide)] at H; exact H
        clear H
        have H := H1
        clear H1
        obtain rfl := Option.some.inj H
        have p307 : 0 ≤ (x7_1 : Int) := of_decide_eq_true yy2
        have q307 : x7_1 < (l0.length : Int) := of_decide_eq_true yy2
        obtain ⟨ad307, e307, hx307_0, hx307_1, hx307_2⟩ := at_T50 HR0.out x7_1 p307 q307
        cases e307
        replace hx307_0 := (HB.out.cell (World.block_lt_of_cell? w _ hx307_0)).trans hx307_0
        replace hx307_1 := (HB.out.cell (World.block_lt_of_cell? w _ hx307_1)).trans hx307_1
        replace hx307_2 := (HB.out.cell (World.block_lt_of_cell? w _ hx307_2)).trans hx307_2
        replace p307 := eq_true p307
        replace q307 := eq_true q307
        try go_wp2_with (first | ((with_reducible refine gate_dst (N := 4) rfl ?_); refine box_event ?hg (N := 4) ?hd (cs := #[.int .i64 0, .int .i64 0, .int .i64 0]) (t := 50) ?hr ?_; (case hd => rfl); (case hg => rfl); (case hr => first | (go_simp; done) | (go_simp; rfl)); intro gb308 hg w32 hbox hb; have n0_ := Aside0.mk (below_step yy1 hb); have n1_ := Aside0.mk (hbox); have n2_ := Aside0.mk ((by rw [hg]; exact (below_size yy1) : w.heap.size ≤ gb308)); have n3_ := Aside0.mk ((by rw [hg]; exact (below_size yy1) : w.heap.size ≤ gb308)); clear HB; have HB := n0_; have BK308 := n1_; have GW308 := n2_; have GE308 := n3_; clear n0_ n1_ n2_ n3_; clear hb hbox hg; have hcz33_0 : w32.cell? ⟨gb308, 0, none⟩ = some (.int .i64 0) := (blk_cell BK308.out 0).trans rfl; have hcz33_1 : w32.cell? ⟨gb308, 1, none⟩ = some (.int .i64 0) := (blk_cell BK308.out 1).trans rfl; have hcz33_2 : w32.cell? ⟨gb308, 2, none⟩ = some (.int .i64 0) := (blk_cell BK308.out 2).trans rfl; have hfz33_0 := blk_frozen BK308.out 0; have hfz33_1 := blk_frozen BK308.out 1; have hfz33_2 := blk_frozen BK308.out 2))
        have n0_ : Aside0 ((((w32.setCell ⟨gb308, 0, none⟩ (.int .i64 ((rd_T50 l0 x7_1).f0))).setCell ⟨gb308, 1, none⟩ (.int .i64 ((rd_T50 l0 x7_1).f1))).setCell ⟨gb308, 2, none⟩ (.int .i64 ((rd_T50 l0 x7_1).f2))).heap[gb308]? = some (.cells #[.int .i64 ((rd_T50 l0 x7_1).f0), .int .i64 ((rd_T50 l0 x7_1).f1), .int .i64 ((rd_T50 l0 x7_1).f2)] 50 (0, 0))) := ⟨by (with_reducible repeat (first | refine blk_drewN ?_ _ | refine blk_drew ?_ | refine blk_alloc ?_ _)); refine blk_put (cs := #[.int .i64 ((rd_T50 l0 x7_1).f0), .int .i64 ((rd_T50 l0 x7_1).f1), .int .i64 0]) ?_ 2 _ rfl; (with_reducible repeat (first | refine blk_drewN ?_ _ | refine blk_drew ?_ | refine blk_alloc ?_ _)); refine blk_put (cs := #[.int .i64 ((rd_T50 l0 x7_1).f0), .int .i64 0, .int .i64 0]) ?_ 1 _ rfl; (with_reducible repeat (first | refine blk_drewN ?_ _ | refine blk_drew ?_ | refine blk_alloc ?_ _)); refine blk_put (cs := #[.int .i64 0, .int .i64 0, .int .i64 0]) ?_ 0 _ rfl; (with_reducible repeat (first | refine blk_drewN ?_ _ | refine blk_drew ?_ | refine blk_alloc ?_ _)); exact BK308.out⟩
        have n1_ : Aside0 (Below w.heap.size w (((w32.setCell ⟨gb308, 0, none⟩ (.int .i64 ((rd_T50 l0 x7_1).f0))).setCell ⟨gb308, 1, none⟩ (.int .i64 ((rd_T50 l0 x7_1).f1))).setCell ⟨gb308, 2, none⟩ (.int .i64 ((rd_T50 l0 x7_1).f2)))) := ⟨by repeat (first | (with_reducible first | exact HB.out | apply below_alloc | apply pw_below_drewN | apply below_drew1 | refine below_set ?_ GE308.out) | exact HB.out)⟩
        (try clear BK308)
        (try clear HB)
        generalize (((w32.setCell ⟨gb308, 0, none⟩ (.int .i64 ((rd_T50 l0 x7_1).f0))).setCell ⟨gb308, 1, none⟩ (.int .i64 ((rd_T50 l0 x7_1).f1))).setCell ⟨gb308, 2, none⟩ (.int .i64 ((rd_T50 l0 x7_1).f2))) = w34 at n0_ n1_ ⊢
        have BK308 := n0_
        have HB := n1_
        clear n0_ n1_
        have n0_ := Aside0.mk (blk_drew BK308.out)
        have n1_ := Aside0.mk (below_drew1 HB.out)
        clear BK308 HB
        have BK308 := n0_
        have HB := n1_
        clear n0_ n1_
        refine start_ (n := 31) (S := fun w' => w'.cell? ⟨gb308, 0, none⟩ = some (.int .i64 ((rd_T50 l0 x7_1).f0)) ∧ w'.cell? ⟨gb308, 1, none⟩ = some (.int .i64 ((rd_T50 l0 x7_1).f1)) ∧ w'.cell? ⟨gb308, 2, none⟩ = some (.int .i64 ((rd_T50 l0 x7_1).f2))) (ds := []) bYtoadgikbbigdlaaPaAx12_0 (by kernel_rfl) rfl rfl ⟨(blk_cell BK308.out 0).trans rfl, (blk_cell BK308.out 1).trans rfl, (blk_cell BK308.out 2).trans rfl⟩ (fun hHeld => ?_); refine with_tabW impl_areItems.tab4 impl_areItems.bits4 (fun HT_ HW_ => ?_)
        generalize w34.drew = w35 at BK308 HB hHeld ⊢
        refine pu_ 0 12 bYtoadgikbbigdlaaPaAx12_1 ?_
        refine t3_ 1 13 bYtoadgikbbigdlaaPaAx12_2 hHeld ?_
        refine one_ (i := 2) (N := some 14) bYtoadgikbbigdlaaPaAx12_3 rfl rfl (one_of HT_.out (by kernel_rfl)) (by decide) (fun K hK => ?_)
        refine goes_ Try.func58 (by kernel_rfl) rfl #[.int .i64 ((rd_T50 l0 x7_1).f0)] (by rfl) rfl rfl yy3 ?_
        with_reducible refine (impl_isBoxNumber.calls ((rd_T50 l0 x7_1).f0) true _ A5.out).mono ?_
        rintro e w' ⟨rfl, ⟨nd, rfl⟩⟩
        refine ⟨_, rfl, ?_⟩
        refine hK.out _ _ ⟨(blk_cell BK308.out 0).trans rfl, (blk_cell BK308.out 1).trans rfl, (blk_cell BK308.out 2).trans rfl⟩ (fun hHeld => ?_)
        clear hK K
        refine no_ 14 ?_
        refine pu_ 3 15 bYtoadgikbbigdlaaPaAx12_4 ?_
        refine pu_ 4 16 bYtoadgikbbigdlaaPaAx12_5 ?_
        refine pu_ 5 17 bYtoadgikbbigdlaaPaAx12_6 ?_
        refine t3_ 6 18 bYtoadgikbbigdlaaPaAx12_7 hHeld ?_
        refine one_ (i := 7) (N := some 19) bYtoadgikbbigdlaaPaAx12_8 rfl rfl (one_of HT_.out (by kernel_rfl)) (by decide) (fun K hK => ?_)
        refine goes_ Try.func60 (by kernel_rfl) rfl #[.int .i64 ((rd_T50 l0 x7_1).f1)] (by rfl) rfl rfl yy3 ?_
        with_reducible refine (impl_isMaterial.calls ((rd_T50 l0 x7_1).f1) false _ A7.out).mono ?_
        rintro e w' ⟨rfl, ⟨nd, rfl⟩⟩
        refine ⟨_, rfl, ?_⟩
        refine hK.out _ _ ⟨(blk_cell BK308.out 0).trans rfl, (blk_cell BK308.out 1).trans rfl, (blk_cell BK308.out 2).trans rfl⟩ (fun hHeld => ?_)
        clear hK K
        refine no_ 19 ?_
        refine pu_ 8 20 bYtoadgikbbigdlaaPaAx12_9 ?_
        refine pu_ 9 21 bYtoadgikbbigdlaaPaAx12_10 ?_
        refine pu_ 10 22 bYtoadgikbbigdlaaPaAx12_11 ?_
        refine pn_ 11 23 bYtoadgikbbigdlaaPaAx12_12 ?_
        refine pn_ 12 24 bYtoadgikbbigdlaaPaAx12_13 ?_
        refine pn_ 13 25 bYtoadgikbbigdlaaPaAx12_14 ?_
        refine pn_ 14 26 bYtoadgikbbigdlaaPaAx12_15 ?_
        refine pu_ 15 27 bYtoadgikbbigdlaaPaAx12_16 ?_
        refine pu_ 16 28 bYtoadgikbbigdlaaPaAx12_17 ?_
        refine pn_ 17 29 bYtoadgikbbigdlaaPaAx12_18 ?_
        refine pn_ 18 30 bYtoadgikbbigdlaaPaAx12_19 ?_
        refine pn_ 19 31 bYtoadgikbbigdlaaPaAx12_20 ?_
        refine pn_ 20 32 bYtoadgikbbigdlaaPaAx12_21 ?_
        refine pn_ 21 33 bYtoadgikbbigdlaaPaAx12_32 ?_
        refine pn_ 22 34 bYtoadgikbbigdlaaPaAx12_33 ?_
        refine pn_ 23 35 bYtoadgikbbigdlaaPaAx12_34 ?_
        refine pn_ 24 36 bYtoadgikbbigdlaaPaAx12_35 ?_
        refine pn_ 25 37 bYtoadgikbbigdlaaPaAx12_36 ?_
        refine pn_ 26 38 bYtoadgikbbigdlaaPaAx12_27 ?_
        refine pn_ 27 39 bYtoadgikbbigdlaaPaAx12_28 ?_
        refine pn_ 28 40 bYtoadgikbbigdlaaPaAx12_29 ?_
        refine pn_ 29 41 bYtoadgikbbigdlaaPaAx12_30 ?_
        refine pu_ 30 42 bYtoadgikbbigdlaaPaAx12_31 ?_
        refine done_ (done_of HT_.out (by kernel_rfl)) ?_
        try go_wp2
        go_ret
        exact ⟨by first | rfl | (simp [errW_none, errW_some] <;> rfl) | (simp [*, errW_none, errW_some] <;> rfl), by repeat (first | (with_reducible first | exact HB.out | apply below_alloc | apply pw_below_drewN | apply below_drew1 | refine below_set ?_ GE308.out) | exact HB.out)⟩
      ·replace c6 := Bool.eq_false_iff.mpr c6
       subst c6
       have H1 : (some false) = some r := by rw [if_neg (show ¬ (false = true) by decide)] at H; exact H
       clear H
       have H := H1
       clear H1
       obtain rfl := Option.some.inj H
       have p307 : 0 ≤ (x7_1 : Int) := of_decide_eq_true yy2
       have q307 : x7_1 < (l0.length : Int) := of_decide_eq_true yy2
       obtain ⟨ad307, e307, hx307_0, hx307_1, hx307_2⟩ := at_T50 HR0.out x7_1 p307 q307
       cases e307
       replace hx307_0 := (HB.out.cell (World.block_lt_of_cell? w _ hx307_0)).trans hx307_0
       replace hx307_1 := (HB.out.cell (World.block_lt_of_cell? w _ hx307_1)).trans hx307_1
       replace hx307_2 := (HB.out.cell (World.block_lt_of_cell? w _ hx307_2)).trans hx307_2
       replace p307 := eq_true p307
       replace q307 := eq_true q307
       try go_wp2_with (first | ((with_reducible refine gate_dst (N := 4) rfl ?_); refine box_event ?hg (N := 4) ?hd (cs := #[.int .i64 0, .int .i64 0, .int .i64 0]) (t := 50) ?hr ?_; (case hd => rfl); (case hg => rfl); (case hr => first | (go_simp; done) | (go_simp; rfl)); intro gb308 hg w36 hbox hb; have n0_ := Aside0.mk (below_step yy1 hb); have n1_ := Aside0.mk (hbox); have n2_ := Aside0.mk ((by rw [hg]; exact (below_size yy1) : w.heap.size ≤ gb308)); have n3_ := Aside0.mk ((by rw [hg]; exact (below_size yy1) : w.heap.size ≤ gb308)); clear HB; have HB := n0_; have BK308 := n1_; have GW308 := n2_; have GE308 := n3_; clear n0_ n1_ n2_ n3_; clear hb hbox hg; have hcz37_0 : w36.cell? ⟨gb308, 0, none⟩ = some (.int .i64 0) := (blk_cell BK308.out 0).trans rfl; have hcz37_1 : w36.cell? ⟨gb308, 1, none⟩ = some (.int .i64 0) := (blk_cell BK308.out 1).trans rfl; have hcz37_2 : w36.cell? ⟨gb308, 2, none⟩ = some (.int .i64 0) := (blk_cell BK308.out 2).trans rfl; have hfz37_0 := blk_frozen BK308.out 0; have hfz37_1 := blk_frozen BK308.out 1; have hfz37_2 := blk_frozen BK308.out 2))
       have n0_ : Aside0 ((((w36.setCell ⟨gb308, 0, none⟩ (.int .i64 ((rd_T50 l0 x7_1).f0))).setCell ⟨gb308, 1, none⟩ (.int .i64 ((rd_T50 l0 x7_1).f1))).setCell ⟨gb308, 2, none⟩ (.int .i64 ((rd_T50 l0 x7_1).f2))).heap[gb308]? = some (.cells #[.int .i64 ((rd_T50 l0 x7_1).f0), .int .i64 ((rd_T50 l0 x7_1).f1), .int .i64 ((rd_T50 l0 x7_1).f2)] 50 (0, 0))) := ⟨by (with_reducible repeat (first | refine blk_drewN ?_ _ | refine blk_drew ?_ | refine blk_alloc ?_ _)); refine blk_put (cs := #[.int .i64 ((rd_T50 l0 x7_1).f0), .int .i64 ((rd_T50 l0 x7_1).f1), .int .i64 0]) ?_ 2 _ rfl; (with_reducible repeat (first | refine blk_drewN ?_ _ | refine blk_drew ?_ | refine blk_alloc ?_ _)); refine blk_put (cs := #[.int .i64 ((rd_T50 l0 x7_1).f0), .int .i64 0, .int .i64 0]) ?_ 1 _ rfl; (with_reducible repeat (first | refine blk_drewN ?_ _ | refine blk_drew ?_ | refine blk_alloc ?_ _)); refine blk_put (cs := #[.int .i64 0, .int .i64 0, .int .i64 0]) ?_ 0 _ rfl; (with_reducible repeat (first | refine blk_drewN ?_ _ | refine blk_drew ?_ | refine blk_alloc ?_ _)); exact BK308.out⟩
       have n1_ : Aside0 (Below w.heap.size w (((w36.setCell ⟨gb308, 0, none⟩ (.int .i64 ((rd_T50 l0 x7_1).f0))).setCell ⟨gb308, 1, none⟩ (.int .i64 ((rd_T50 l0 x7_1).f1))).setCell ⟨gb308, 2, none⟩ (.int .i64 ((rd_T50 l0 x7_1).f2)))) := ⟨by repeat (first | (with_reducible first | exact HB.out | apply below_alloc | apply pw_below_drewN | apply below_drew1 | refine below_set ?_ GE308.out) | exact HB.out)⟩
       (try clear BK308)
       (try clear HB)
       generalize (((w36.setCell ⟨gb308, 0, none⟩ (.int .i64 ((rd_T50 l0 x7_1).f0))).setCell ⟨gb308, 1, none⟩ (.int .i64 ((rd_T50 l0 x7_1).f1))).setCell ⟨gb308, 2, none⟩ (.int .i64 ((rd_T50 l0 x7_1).f2))) = w38 at n0_ n1_ ⊢
       have BK308 := n0_
       have HB := n1_
       clear n0_ n1_
       have n0_ := Aside0.mk (blk_drew BK308.out)
       have n1_ := Aside0.mk (below_drew1 HB.out)
       clear BK308 HB
       have BK308 := n0_
       have HB := n1_
       clear n0_ n1_
       refine start_ (n := 31) (S := fun w' => w'.cell? ⟨gb308, 0, none⟩ = some (.int .i64 ((rd_T50 l0 x7_1).f0)) ∧ w'.cell? ⟨gb308, 1, none⟩ = some (.int .i64 ((rd_T50 l0 x7_1).f1)) ∧ w'.cell? ⟨gb308, 2, none⟩ = some (.int .i64 ((rd_T50 l0 x7_1).f2))) (ds := []) bYtoadgikbbigdlaaPaAx12_0 (by kernel_rfl) rfl rfl ⟨(blk_cell BK308.out 0).trans rfl, (blk_cell BK308.out 1).trans rfl, (blk_cell BK308.out 2).trans rfl⟩ (fun hHeld => ?_); refine with_tabW impl_areItems.tab4 impl_areItems.bits4 (fun HT_ HW_ => ?_)
       generalize w38.drew = w39 at BK308 HB hHeld ⊢
       refine pu_ 0 12 bYtoadgikbbigdlaaPaAx12_1 ?_
       refine t3_ 1 13 bYtoadgikbbigdlaaPaAx12_2 hHeld ?_
       refine one_ (i := 2) (N := some 14) bYtoadgikbbigdlaaPaAx12_3 rfl rfl (one_of HT_.out (by kernel_rfl)) (by decide) (fun K hK => ?_)
       refine goes_ Try.func58 (by kernel_rfl) rfl #[.int .i64 ((rd_T50 l0 x7_1).f0)] (by rfl) rfl rfl yy3 ?_
       with_reducible refine (impl_isBoxNumber.calls ((rd_T50 l0 x7_1).f0) false _ A5.out).mono ?_
       rintro e w' ⟨rfl, ⟨nd, rfl⟩⟩
       refine ⟨_, rfl, ?_⟩
       refine hK.out _ _ ⟨(blk_cell BK308.out 0).trans rfl, (blk_cell BK308.out 1).trans rfl, (blk_cell BK308.out 2).trans rfl⟩ (fun hHeld => ?_)
       clear hK K
       refine no_ 14 ?_
       refine pu_ 3 15 bYtoadgikbbigdlaaPaAx12_4 ?_
       refine pu_ 4 16 bYtoadgikbbigdlaaPaAx12_5 ?_
       refine pn_ 5 17 bYtoadgikbbigdlaaPaAx12_6 ?_
       refine pn_ 6 18 bYtoadgikbbigdlaaPaAx12_7 ?_
       refine pn_ 7 19 bYtoadgikbbigdlaaPaAx12_8 ?_
       refine pn_ 8 20 bYtoadgikbbigdlaaPaAx12_9 ?_
       refine pu_ 9 21 bYtoadgikbbigdlaaPaAx12_10 ?_
       refine pu_ 10 22 bYtoadgikbbigdlaaPaAx12_11 ?_
       refine pn_ 11 23 bYtoadgikbbigdlaaPaAx12_12 ?_
       refine pn_ 12 24 bYtoadgikbbigdlaaPaAx12_13 ?_
       refine pn_ 13 25 bYtoadgikbbigdlaaPaAx12_14 ?_
       refine pn_ 14 26 bYtoadgikbbigdlaaPaAx12_15 ?_
       refine pu_ 15 27 bYtoadgikbbigdlaaPaAx12_16 ?_
       refine pu_ 16 28 bYtoadgikbbigdlaaPaAx12_17 ?_
       refine pn_ 17 29 bYtoadgikbbigdlaaPaAx12_18 ?_
       refine pn_ 18 30 bYtoadgikbbigdlaaPaAx12_19 ?_
       refine pn_ 19 31 bYtoadgikbbigdlaaPaAx12_20 ?_
       refine pn_ 20 32 bYtoadgikbbigdlaaPaAx12_21 ?_
       refine pn_ 21 33 bYtoadgikbbigdlaaPaAx12_32 ?_
       refine pn_ 22 34 bYtoadgikbbigdlaaPaAx12_33 ?_
       refine pn_ 23 35 bYtoadgikbbigdlaaPaAx12_34 ?_
       refine pn_ 24 36 bYtoadgikbbigdlaaPaAx12_35 ?_
       refine pn_ 25 37 bYtoadgikbbigdlaaPaAx12_36 ?_
       refine pn_ 26 38 bYtoadgikbbigdlaaPaAx12_27 ?_
       refine pn_ 27 39 bYtoadgikbbigdlaaPaAx12_28 ?_
       refine pn_ 28 40 bYtoadgikbbigdlaaPaAx12_29 ?_
       refine pn_ 29 41 bYtoadgikbbigdlaaPaAx12_30 ?_
       refine pu_ 30 42 bYtoadgikbbigdlaaPaAx12_31 ?_
       refine done_ (done_of HT_.out (by kernel_rfl)) ?_
       try go_wp2
       go_ret
       exact ⟨by first | rfl | (simp [errW_none, errW_some] <;> rfl) | (simp [*, errW_none, errW_some] <;> rfl), by repeat (first | (with_reducible first | exact HB.out | apply below_alloc | apply pw_below_drewN | apply below_drew1 | refine below_set ?_ GE308.out) | exact HB.out)⟩
     ·rw [if_neg c4] at H
      exact absurd H (by simp)
    ·rw [if_neg c3] at H
     exact absurd H (by simp)
   ·rw [if_neg c2] at H
    have c2b0 : decide (x7_1 < (l0.length : Int)) = false := decide_eq_false c2
    clear c2
    obtain rfl := Option.some.inj H
    go_wp2
    go_ret
    exact ⟨by first | rfl | (simp [errW_none, errW_some] <;> rfl) | (simp [*, errW_none, errW_some] <;> rfl), by repeat (first | (with_reducible first | exact HB.out | apply below_alloc | apply pw_below_drewN | apply below_drew1) | exact HB.out)⟩
end Go.Proofs.Ytoadgikbbigdlaa.A
