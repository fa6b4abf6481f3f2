import Derived.Test.YtoadgikbbigdlaaPaWAb
import Derived.Test.YtoadgikbbigdlaaPaAx0
import Derived.Test.YtoadgikbbigdlaaPaAx5
namespace Go.Proofs.Ytoadgikbbigdlaa.A
open Go.RowKit Go.Proofs.YtoadgikbbigdlaaW.PrintWords Go.Proofs.YtoadgikbbigdlaaW.PrintLast Go.Proofs.YtoadgikbbigdlaaW.PrintMore
attribute [local go_sem] max2_int min2_int max_two min_two max_three min_three max_four min_four   -- for this text's walks alone
set_option linter.unusedVariables false
set_option linter.unusedSimpArgs false
def spec_l26Items.l0 : Nat → List (S50) → Int → Option (Bool)
 | 0, _, _ => none
 | k + 1, x0, x3 => if x3 < (x0.length : Int) then (if 0 ≤ x3 then ((spec_l1In.f ((rd_T50 x0 x3).f0) 1 9999).bind fun t187 => (if t187 = true then ((spec_l1In.f ((rd_T50 x0 x3).f1) 1 4).bind fun t188 => (if t188 = true then ((spec_l1In.f ((rd_T50 x0 x3).f2) 1 1000).bind fun t189 => (if t189 = true then (if x3 > 0 then (if 0 ≤ (wrap64 (x3 - 1)) then (if (wrap64 (x3 - 1)) < (x0.length : Int) then (if ((rd_T50 x0 (wrap64 (x3 - 1))).f0) ≥ ((rd_T50 x0 x3).f0) then (some false) else (spec_l26Items.l0 k x0 (wrap64 (x3 + 1)))) else (none)) else (none)) else (spec_l26Items.l0 k x0 (wrap64 (x3 + 1)))) else (some false))) else (some false))) else (some false))) else (none)) else (some (decide ((x0.length : Int) ≤ 12)))
def spec_l26Items.f (k : Nat) (l0 : List (S50)) : Option (Bool) := spec_l26Items.l0 k l0 0
theorem spec_l26Items.mono_l : ∀ k, (∀ y0 y1, LeO (spec_l26Items.l0 k y0 y1) (spec_l26Items.l0 (k + 1) y0 y1))
 | 0 => fun _ _ r h => by simp [spec_l26Items.l0] at h
 | k + 1 => by
  have ih0 := spec_l26Items.mono_l k
  ·intro y0 y1
   unfold spec_l26Items.l0
   repeat' first
   | (with_reducible exact ih0 _ _)
   | (with_reducible exact LeO.refl _)
   | (with_reducible exact LeO.none _)
   | (with_reducible refine LeO.ite ?_ ?_)
   | (with_reducible refine LeO.bind ?_ (fun _ => ?_))
   | exact ih0 _ _
   | exact LeO.none _
   | refine LeO.ite ?_ ?_
   | refine LeO.bind ?_ (fun _ => ?_)
theorem spec_l26Items.mono : ∀ a0 k, LeO (spec_l26Items.f k a0) (spec_l26Items.f (k + 1) a0) := by
 intro a0 k
 have ih0 := spec_l26Items.mono_l k
 unfold spec_l26Items.f
 repeat' first
   | (with_reducible exact ih0 _ _)
   | (with_reducible exact LeO.refl _)
   | (with_reducible exact LeO.none _)
   | (with_reducible refine LeO.ite ?_ ?_)
   | (with_reducible refine LeO.bind ?_ (fun _ => ?_))
   | exact ih0 _ _
   | exact LeO.none _
   | refine LeO.ite ?_ ?_
   | refine LeO.bind ?_ (fun _ => ?_)
def spec_l26Items.T5 : Bool × List (List Nat × List Nat) := (true, [([], []), ([0], [0]), ([1], [1]), ([2], [2]), ([3, 2], [3]), ([4], [4]), ([5, 4], [4, 5]), ([6, 4, 4], [4, 6]), ([7, 4], [4, 7]), ([4, 8], [4, 8]), ([9, 7], [9]), ([10], [10]), ([11, 10], [10, 11]), ([12, 10, 10], [10, 12]), ([13, 10], [10, 13]), ([10, 14], [10, 14]), ([15, 13], [15]), ([16], [16]), ([17, 16], [16, 17]), ([18, 16, 16], [16, 18]), ([19], [19]), ([19], [19]), ([21, 19], [19, 21]), ([20, 22, 19], [19, 20, 22]), ([23, 19], [19, 23]), ([24, 19], [19, 24]), ([19], [19]), ([26, 19], [19, 26]), ([25, 27, 19], [19, 25, 27]), ([19, 28, 16], [16, 19, 28]), ([16, 29], [16, 29])])
def spec_l26Items.B5 : List Nat := [0, 1, 3, 7, 15, 31, 63, 127, 255, 511, 1023, 2047, 4095, 8191, 16383, 32767, 65535, 131071, 262143, 524287, 1048575, 1048575, 3145727, 8388607, 16777215, 33554431, 1048575, 68157439, 268435455, 536870911, 1073741823]
theorem spec_l26Items.tab5 : rtab .any (opsOf Try.f33 5) = spec_l26Items.T5 := by kernel_rfl
theorem spec_l26Items.bits5 : waitsOk spec_l26Items.T5.2 spec_l26Items.B5 = true := by kernel_rfl
def bYtoadgikbbigdlaaPaAx6_0 : Array Bool := #[false, false, false, false, false, false, false, false, false, false, false, false, false, false, false, false, false, false, false, false, false, false, false, false, false, false, false, false, false, false, false]
def bYtoadgikbbigdlaaPaAx6_1 : Array Bool := #[true, false, false, false, false, false, false, false, false, false, false, false, false, false, false, false, false, false, false, false, false, false, false, false, false, false, false, false, false, false, false]
def bYtoadgikbbigdlaaPaAx6_2 : Array Bool := #[true, true, false, false, false, false, false, false, false, false, false, false, false, false, false, false, false, false, false, false, false, false, false, false, false, false, false, false, false, false, false]
def bYtoadgikbbigdlaaPaAx6_3 : Array Bool := #[true, true, true, false, false, false, false, false, false, false, false, false, false, false, false, false, false, false, false, false, false, false, false, false, false, false, false, false, false, false, false]
def bYtoadgikbbigdlaaPaAx6_4 : Array Bool := #[true, true, true, true, false, false, false, false, false, false, false, false, false, false, false, false, false, false, false, false, false, false, false, false, false, false, false, false, false, false, false]
def bYtoadgikbbigdlaaPaAx6_5 : Array Bool := #[true, true, true, true, true, false, false, false, false, false, false, false, false, false, false, false, false, false, false, false, false, false, false, false, false, false, false, false, false, false, false]
def bYtoadgikbbigdlaaPaAx6_6 : Array Bool := #[true, true, true, true, true, true, false, false, false, false, false, false, false, false, false, false, false, false, false, false, false, false, false, false, false, false, false, false, false, false, false]
def bYtoadgikbbigdlaaPaAx6_7 : Array Bool := #[true, true, true, true, true, true, true, false, false, false, false, false, false, false, false, false, false, false, false, false, false, false, false, false, false, false, false, false, false, false, false]
def bYtoadgikbbigdlaaPaAx6_8 : Array Bool := #[true, true, true, true, true, true, true, true, false, false, false, false, false, false, false, false, false, false, false, false, false, false, false, false, false, false, false, false, false, false, false]
def bYtoadgikbbigdlaaPaAx6_9 : Array Bool := #[true, true, true, true, true, true, true, true, true, false, false, false, false, false, false, false, false, false, false, false, false, false, false, false, false, false, false, false, false, false, false]
def bYtoadgikbbigdlaaPaAx6_10 : Array Bool := #[true, true, true, true, true, true, true, true, true, true, false, false, false, false, false, false, false, false, false, false, false, false, false, false, false, false, false, false, false, false, false]
def bYtoadgikbbigdlaaPaAx6_11 : Array Bool := #[true, true, true, true, true, true, true, true, true, true, true, false, false, false, false, false, false, false, false, false, false, false, false, false, false, false, false, false, false, false, false]
def bYtoadgikbbigdlaaPaAx6_12 : Array Bool := #[true, true, true, true, true, true, true, true, true, true, true, true, false, false, false, false, false, false, false, false, false, false, false, false, false, false, false, false, false, false, false]
def bYtoadgikbbigdlaaPaAx6_13 : Array Bool := #[true, true, true, true, true, true, true, true, true, true, true, true, true, false, false, false, false, false, false, false, false, false, false, false, false, false, false, false, false, false, false]
def bYtoadgikbbigdlaaPaAx6_14 : Array Bool := #[true, true, true, true, true, true, true, true, true, true, true, true, true, true, false, false, false, false, false, false, false, false, false, false, false, false, false, false, false, false, false]
def bYtoadgikbbigdlaaPaAx6_15 : Array Bool := #[true, true, true, true, true, true, true, true, true, true, true, true, true, true, true, false, false, false, false, false, false, false, false, false, false, false, false, false, false, false, false]
def bYtoadgikbbigdlaaPaAx6_16 : Array Bool := #[true, true, true, true, true, true, true, true, true, true, true, true, true, true, true, true, false, false, false, false, false, false, false, false, false, false, false, false, false, false, false]
def bYtoadgikbbigdlaaPaAx6_17 : Array Bool := #[true, true, true, true, true, true, true, true, true, true, true, true, true, true, true, true, true, false, false, false, false, false, false, false, false, false, false, false, false, false, false]
def bYtoadgikbbigdlaaPaAx6_18 : Array Bool := #[true, true, true, true, true, true, true, true, true, true, true, true, true, true, true, true, true, true, false, false, false, false, false, false, false, false, false, false, false, false, false]
def bYtoadgikbbigdlaaPaAx6_19 : Array Bool := #[true, true, true, true, true, true, true, true, true, true, true, true, true, true, true, true, true, true, true, false, false, false, false, false, false, false, false, false, false, false, false]
def bYtoadgikbbigdlaaPaAx6_20 : Array Bool := #[true, true, true, true, true, true, true, true, true, true, true, true, true, true, true, true, true, true, true, true, false, false, false, false, false, false, false, false, false, false, false]
def bYtoadgikbbigdlaaPaAx6_21 : Array Bool := #[true, true, true, true, true, true, true, true, true, true, true, true, true, true, true, true, true, true, true, true, true, false, false, false, false, false, false, false, false, false, false]
def bYtoadgikbbigdlaaPaAx6_22 : Array Bool := #[true, true, true, true, true, true, true, true, true, true, true, true, true, true, true, true, true, true, true, true, true, true, false, false, false, false, false, false, false, false, false]
def bYtoadgikbbigdlaaPaAx6_23 : Array Bool := #[true, true, true, true, true, true, true, true, true, true, true, true, true, true, true, true, true, true, true, true, true, true, true, false, false, false, false, false, false, false, false]
def bYtoadgikbbigdlaaPaAx6_24 : Array Bool := #[true, true, true, true, true, true, true, true, true, true, true, true, true, true, true, true, true, true, true, true, true, true, true, true, false, false, false, false, false, false, false]
def bYtoadgikbbigdlaaPaAx6_25 : Array Bool := #[true, true, true, true, true, true, true, true, true, true, true, true, true, true, true, true, true, true, true, true, true, true, true, true, true, false, false, false, false, false, false]
def bYtoadgikbbigdlaaPaAx6_26 : Array Bool := #[true, true, true, true, true, true, true, true, true, true, true, true, true, true, true, true, true, true, true, true, true, true, true, true, true, false, true, false, false, false, false]
def bYtoadgikbbigdlaaPaAx6_27 : Array Bool := #[true, true, true, true, true, true, true, true, true, true, true, true, true, true, true, true, true, true, true, true, true, true, true, true, true, true, true, false, false, false, false]
def bYtoadgikbbigdlaaPaAx6_28 : Array Bool := #[true, true, true, true, true, true, true, true, true, true, true, true, true, true, true, true, true, true, true, true, true, true, true, true, true, true, true, true, false, false, false]
def bYtoadgikbbigdlaaPaAx6_29 : Array Bool := #[true, true, true, true, true, true, true, true, true, true, true, true, true, true, true, true, true, true, true, true, true, true, true, true, true, true, true, true, true, false, false]
def bYtoadgikbbigdlaaPaAx6_30 : Array Bool := #[true, true, true, true, true, true, true, true, true, true, true, true, true, true, true, true, true, true, true, true, true, true, true, true, true, true, true, true, true, true, false]
def bYtoadgikbbigdlaaPaAx6_31 : Array Bool := #[true, true, true, true, true, true, true, true, true, true, true, true, true, true, true, true, true, true, true, true, true, true, true, true, true, true, true, true, true, true, true]
def bYtoadgikbbigdlaaPaAx6_32 : Array Bool := #[true, true, true, true, true, true, true, true, true, true, true, true, true, true, true, true, true, true, true, true, true, true, true, true, true, true, false, false, false, false, false]
set_option maxHeartbeats 8000000 in
set_option maxRecDepth 100000 in
theorem spec_l26Items.calls (k : Nat) (A0 : Option Addr) (c0 : Nat) (l0 : List (S50)) (r : Bool) (w : World) (hr0 : Kd.C k50 w A0 l0.length l0) (hc0 : l0.length ≤ c0) (h : spec_l26Items.f k l0 = some r) :
  Calls Try.prog 33 #[.slice A0 l0.length c0] w fun e w' => e = .returned (.bool r) ∧ Below w.heap.size w w' := by
 have hu50 := Try.underlying50
 have HR0 := Aside0.mk hr0
 have HC0 := Aside0.mk hc0
 clear hr0 hc0
 have HB := Aside0.mk (Below.refl w.heap.size w)
 have H : (spec_l26Items.l0 k l0 0) = some r := h
 clear h
 have H' := Aside0.mk H
 clear H
 go_enter Try.func33, Try.ntmps33
 go_wp2
 go_loopg [3] k (fun kq v3 w' => ∃ (x3_1 : Int), v3 = .int .i64 x3_1 ∧ Aside0 (spec_l26Items.l0 kq l0 x3_1 = some r) ∧ Aside0 (kq ≤ k) ∧ Aside0 (Below w.heap.size w w'))
 case atStart => exact ⟨(0), yy11, H', ⟨Nat.le_refl _⟩, ⟨by repeat (first | (with_reducible first | exact HB.out | apply below_alloc | apply pw_below_drewN | apply below_drew1) | exact HB.out)⟩⟩
 case round =>
  clear H'
  obtain ⟨x3_1, rfl, HA, HK1, HB⟩ := hrel
  cases gk with
  | zero => exact absurd HA.out (by simp [spec_l26Items.l0])
  | succ k1 =>
   have H := HA.out
   clear HA
   simp only [spec_l26Items.l0] at H
   by_cases c2 : x3_1 < (l0.length : Int)
   ·rw [if_pos c2] at H
    have c2b0 : decide (x3_1 < (l0.length : Int)) = true := decide_eq_true c2
    clear c2
    by_cases c3 : 0 ≤ x3_1
    ·rw [if_pos c3] at H
     have c3b0 : decide (0 ≤ x3_1) = true := decide_eq_true c3
     clear c3
     replace H := Option.bind_eq_some_iff.mp H
     obtain ⟨t187, A40, H⟩ := H
     replace H : (if t187 = true then ((spec_l1In.f ((rd_T50 l0 x3_1).f1) 1 4).bind fun t188 => (if t188 = true then ((spec_l1In.f ((rd_T50 l0 x3_1).f2) 1 1000).bind fun t189 => (if t189 = true then (if x3_1 > 0 then (if 0 ≤ (wrap64 (x3_1 - 1)) then (if (wrap64 (x3_1 - 1)) < (l0.length : Int) then (if ((rd_T50 l0 (wrap64 (x3_1 - 1))).f0) ≥ ((rd_T50 l0 x3_1).f0) then (some false) else (spec_l26Items.l0 k1 l0 (wrap64 (x3_1 + 1)))) else (none)) else (none)) else (spec_l26Items.l0 k1 l0 (wrap64 (x3_1 + 1)))) else (some false))) else (some false))) else (some false)) = some r := H
     have A4 := Aside0.mk A40
     clear A40
     by_cases c5 : t187 = true
     ·subst c5
      have H1 : ((spec_l1In.f ((rd_T50 l0 x3_1).f1) 1 4).bind fun t188 => (if t188 = true then ((spec_l1In.f ((rd_T50 l0 x3_1).f2) 1 1000).bind fun t189 => (if t189 = true then (if x3_1 > 0 then (if 0 ≤ (wrap64 (x3_1 - 1)) then (if (wrap64 (x3_1 - 1)) < (l0.length : Int) then (if ((rd_T50 l0 (wrap64 (x3_1 - 1))).f0) ≥ ((rd_T50 l0 x3_1).f0) then (some false) else (spec_l26Items.l0 k1 l0 (wrap64 (x3_1 + 1)))) else (none)) else (none)) else (spec_l26Items.l0 k1 l0 (wrap64 (x3_1 + 1)))) else (some false))) else (some false))) = some r := by rw [if_pos rfl] at H; exact H
      clear H
      have H := H1
      clear H1
      replace H := Option.bind_eq_some_iff.mp H
      obtain ⟨t188, A60, H⟩ := H
      replace H : (if t188 = true then ((spec_l1In.f ((rd_T50 l0 x3_1).f2) 1 1000).bind fun t189 => (if t189 = true then (if x3_1 > 0 then (if 0 ≤ (wrap64 (x3_1 - 1)) then (if (wrap64 (x3_1 - 1)) < (l0.length : Int) then (if ((rd_T50 l0 (wrap64 (x3_1 - 1))).f0) ≥ ((rd_T50 l0 x3_1).f0) then (some false) else (spec_l26Items.l0 k1 l0 (wrap64 (x3_1 + 1)))) else (none)) else (none)) else (spec_l26Items.l0 k1 l0 (wrap64 (x3_1 + 1)))) else (some false))) else (some false)) = some r := H
      have A6 := Aside0.mk A60
      clear A60
      by_cases c7 : t188 = true
      ·subst c7
       have H1 : ((spec_l1In.f ((rd_T50 l0 x3_1).f2) 1 1000).bind fun t189 => (if t189 = true then (if x3_1 > 0 then (if 0 ≤ (wrap64 (x3_1 - 1)) then (if (wrap64 (x3_1 - 1)) < (l0.length : Int) then (if ((rd_T50 l0 (wrap64 (x3_1 - 1))).f0) ≥ ((rd_T50 l0 x3_1).f0) then (some false) else (spec_l26Items.l0 k1 l0 (wrap64 (x3_1 + 1)))) else (none)) else (none)) else (spec_l26Items.l0 k1 l0 (wrap64 (x3_1 + 1)))) else (some false))) = some r := by rw [if_pos rfl] at H; exact H
       clear H
       have H := H1
       clear H1
       replace H := Option.bind_eq_some_iff.mp H
       obtain ⟨t189, A80, H⟩ := H
       replace H : (if t189 = true then (if x3_1 > 0 then (if 0 ≤ (wrap64 (x3_1 - 1)) then (if (wrap64 (x3_1 - 1)) < (l0.length : Int) then (if ((rd_T50 l0 (wrap64 (x3_1 - 1))).f0) ≥ ((rd_T50 l0 x3_1).f0) then (some false) else (spec_l26Items.l0 k1 l0 (wrap64 (x3_1 + 1)))) else (none)) else (none)) else (spec_l26Items.l0 k1 l0 (wrap64 (x3_1 + 1)))) else (some false)) = some r := H
       have A8 := Aside0.mk A80
       clear A80
       by_cases c9 : t189 = true
       ·subst c9
        have H1 : (if x3_1 > 0 then (if 0 ≤ (wrap64 (x3_1 - 1)) then (if (wrap64 (x3_1 - 1)) < (l0.length : Int) then (if ((rd_T50 l0 (wrap64 (x3_1 - 1))).f0) ≥ ((rd_T50 l0 x3_1).f0) then (some false) else (spec_l26Items.l0 k1 l0 (wrap64 (x3_1 + 1)))) else (none)) else (none)) else (spec_l26Items.l0 k1 l0 (wrap64 (x3_1 + 1)))) = some r := by rw [if_pos rfl] at H; exact H
        clear H
        have H := H1
        clear H1
        by_cases c10 : x3_1 > 0
        ·rw [if_pos c10] at H
         have c10b0 : decide (0 < x3_1) = true := decide_eq_true c10
         clear c10
         obtain ⟨ji11, hji11⟩ : ∃ j_ : Int, (wrap64 (x3_1 - 1)) = j_ := ⟨_, rfl⟩
         replace H : (if 0 ≤ (ji11) then (if (ji11) < (l0.length : Int) then (if ((rd_T50 l0 (ji11)).f0) ≥ ((rd_T50 l0 x3_1).f0) then (some false) else (spec_l26Items.l0 k1 l0 (wrap64 (x3_1 + 1)))) else (none)) else (none)) = some r := by first | (rw [hji11] at H; exact H) | (simp only [hji11] at H ⊢; exact H)
         (try rw [hji11] at A4)
         (try rw [hji11] at A6)
         (try rw [hji11] at A8)
         have hji11w : (IntKind.i64.wrap (x3_1 - 1)) = ji11 := (i64_w _).trans hji11
         by_cases c12 : 0 ≤ (ji11)
         ·rw [if_pos c12] at H
          have c12b0 : decide (0 ≤ (ji11)) = true := decide_eq_true c12
          clear c12
          by_cases c13 : (ji11) < (l0.length : Int)
          ·rw [if_pos c13] at H
           have c13b0 : decide ((ji11) < (l0.length : Int)) = true := decide_eq_true c13
           clear c13
           by_cases c14 : ((rd_T50 l0 (ji11)).f0) ≥ ((rd_T50 l0 x3_1).f0)
           ·rw [if_pos c14] at H
            have c14b0 : decide (((rd_T50 l0 x3_1).f0) ≤ ((rd_T50 l0 (ji11)).f0)) = true := decide_eq_true c14
            clear c14
            obtain rfl := Option.some.inj H
            have p185 : 0 ≤ (x3_1 : Int) := of_decide_eq_true yy2
            have q185 : x3_1 < (l0.length : Int) := of_decide_eq_true yy2
            obtain ⟨ad185, e185, hx185_0, hx185_1, hx185_2⟩ := at_T50 HR0.out x3_1 p185 q185
            cases e185
            replace hx185_0 := (HB.out.cell (World.block_lt_of_cell? w _ hx185_0)).trans hx185_0
            replace hx185_1 := (HB.out.cell (World.block_lt_of_cell? w _ hx185_1)).trans hx185_1
            replace hx185_2 := (HB.out.cell (World.block_lt_of_cell? w _ hx185_2)).trans hx185_2
            replace p185 := eq_true p185
            replace q185 := eq_true q185
            try go_wp2_with (first | ((with_reducible refine gate_dst (N := 4) rfl ?_); refine box_event ?hg (N := 4) ?hd (cs := #[.int .i64 0, .int .i64 0, .int .i64 0]) (t := 50) ?hr ?_; (case hd => rfl); (case hg => rfl); (case hr => first | (go_simp; done) | (go_simp; rfl)); intro gb186 hg w15 hbox hb; have n0_ := Aside0.mk (below_step yy1 hb); have n1_ := Aside0.mk (hbox); have n2_ := Aside0.mk ((by rw [hg]; exact (below_size yy1) : w.heap.size ≤ gb186)); have n3_ := Aside0.mk ((by rw [hg]; exact (below_size yy1) : w.heap.size ≤ gb186)); clear HB; have HB := n0_; have BK186 := n1_; have GW186 := n2_; have GE186 := n3_; clear n0_ n1_ n2_ n3_; clear hb hbox hg; have hcz16_0 : w15.cell? ⟨gb186, 0, none⟩ = some (.int .i64 0) := (blk_cell BK186.out 0).trans rfl; have hcz16_1 : w15.cell? ⟨gb186, 1, none⟩ = some (.int .i64 0) := (blk_cell BK186.out 1).trans rfl; have hcz16_2 : w15.cell? ⟨gb186, 2, none⟩ = some (.int .i64 0) := (blk_cell BK186.out 2).trans rfl; have hfz16_0 := blk_frozen BK186.out 0; have hfz16_1 := blk_frozen BK186.out 1; have hfz16_2 := blk_frozen BK186.out 2))
            have n0_ : Aside0 ((((w15.setCell ⟨gb186, 0, none⟩ (.int .i64 ((rd_T50 l0 x3_1).f0))).setCell ⟨gb186, 1, none⟩ (.int .i64 ((rd_T50 l0 x3_1).f1))).setCell ⟨gb186, 2, none⟩ (.int .i64 ((rd_T50 l0 x3_1).f2))).heap[gb186]? = some (.cells #[.int .i64 ((rd_T50 l0 x3_1).f0), .int .i64 ((rd_T50 l0 x3_1).f1), .int .i64 ((rd_T50 l0 x3_1).f2)] 50 (0, 0))) := ⟨by (with_reducible repeat (first | refine blk_drewN ?_ _ | refine blk_drew ?_ | refine blk_alloc ?_ _)); refine blk_put (cs := #[.int .i64 ((rd_T50 l0 x3_1).f0), .int .i64 ((rd_T50 l0 x3_1).f1), .int .i64 0]) ?_ 2 _ rfl; (with_reducible repeat (first | refine blk_drewN ?_ _ | refine blk_drew ?_ | refine blk_alloc ?_ _)); refine blk_put (cs := #[.int .i64 ((rd_T50 l0 x3_1).f0), .int .i64 0, .int .i64 0]) ?_ 1 _ rfl; (with_reducible repeat (first | refine blk_drewN ?_ _ | refine blk_drew ?_ | refine blk_alloc ?_ _)); refine blk_put (cs := #[.int .i64 0, .int .i64 0, .int .i64 0]) ?_ 0 _ rfl; (with_reducible repeat (first | refine blk_drewN ?_ _ | refine blk_drew ?_ | refine blk_alloc ?_ _)); exact BK186.out⟩
            have n1_ : Aside0 (Below w.heap.size w (((w15.setCell ⟨gb186, 0, none⟩ (.int .i64 ((rd_T50 l0 x3_1).f0))).setCell ⟨gb186, 1, none⟩ (.int .i64 ((rd_T50 l0 x3_1).f1))).setCell ⟨gb186, 2, none⟩ (.int .i64 ((rd_T50 l0 x3_1).f2)))) := ⟨by repeat (first | (with_reducible first | exact HB.out | apply below_alloc | apply pw_below_drewN | apply below_drew1 | refine below_set ?_ GE186.out) | exact HB.out)⟩
            (try clear BK186)
            (try clear HB)
            generalize (((w15.setCell ⟨gb186, 0, none⟩ (.int .i64 ((rd_T50 l0 x3_1).f0))).setCell ⟨gb186, 1, none⟩ (.int .i64 ((rd_T50 l0 x3_1).f1))).setCell ⟨gb186, 2, none⟩ (.int .i64 ((rd_T50 l0 x3_1).f2))) = w17 at n0_ n1_ ⊢
            have BK186 := n0_
            have HB := n1_
            clear n0_ n1_
            have n0_ := Aside0.mk (blk_drew BK186.out)
            have n1_ := Aside0.mk (below_drew1 HB.out)
            clear BK186 HB
            have BK186 := n0_
            have HB := n1_
            clear n0_ n1_
            have p190 : 0 ≤ ((ji11) : Int) := of_decide_eq_true yy2
            have q190 : (ji11) < (l0.length : Int) := of_decide_eq_true yy2
            obtain ⟨ad190, e190, hx190_0, hx190_1, hx190_2⟩ := at_T50 HR0.out (ji11) p190 q190
            have hw190_2 := hx190_2
            have hw190_1 := hx190_1
            have hw190_0 := hx190_0
            obtain rfl : ad185 = ad190 := (by injection e190)
            replace hx190_0 := (HB.out.cell (World.block_lt_of_cell? w _ hx190_0)).trans hx190_0
            replace hx190_1 := (HB.out.cell (World.block_lt_of_cell? w _ hx190_1)).trans hx190_1
            replace hx190_2 := (HB.out.cell (World.block_lt_of_cell? w _ hx190_2)).trans hx190_2
            replace p190 := eq_true p190
            replace q190 := eq_true q190
            refine start_ (n := 31) (S := fun w' => w'.cell? ⟨gb186, 0, none⟩ = some (.int .i64 ((rd_T50 l0 x3_1).f0)) ∧ w'.cell? ⟨gb186, 1, none⟩ = some (.int .i64 ((rd_T50 l0 x3_1).f1)) ∧ w'.cell? ⟨gb186, 2, none⟩ = some (.int .i64 ((rd_T50 l0 x3_1).f2)) ∧ w'.cell? (ad185.add (((ji11)).toNat * 3)) = some (.int .i64 ((rd_T50 l0 (ji11)).f0)) ∧ w'.cell? ⟨(ad185.add (((ji11)).toNat * 3)).block, (ad185.add (((ji11)).toNat * 3)).off + 1, none⟩ = some (.int .i64 ((rd_T50 l0 (ji11)).f1)) ∧ w'.cell? ⟨(ad185.add (((ji11)).toNat * 3)).block, (ad185.add (((ji11)).toNat * 3)).off + 2, none⟩ = some (.int .i64 ((rd_T50 l0 (ji11)).f2))) (ds := []) bYtoadgikbbigdlaaPaAx6_0 (by kernel_rfl) rfl rfl ⟨(blk_cell BK186.out 0).trans rfl, (blk_cell BK186.out 1).trans rfl, (blk_cell BK186.out 2).trans rfl, ((HB.out.cell (World.block_lt_of_cell? w _ hw190_0)).trans hw190_0), ((HB.out.cell (World.block_lt_of_cell? w _ hw190_1)).trans hw190_1), ((HB.out.cell (World.block_lt_of_cell? w _ hw190_2)).trans hw190_2)⟩ (fun hHeld => ?_); refine with_tabW spec_l26Items.tab5 spec_l26Items.bits5 (fun HT_ HW_ => ?_)
            generalize w17.drew = w18 at BK186 HB hx190_0 hx190_1 hx190_2 hHeld ⊢
            refine pu_ 0 15 bYtoadgikbbigdlaaPaAx6_1 ?_
            refine t6_ 1 16 bYtoadgikbbigdlaaPaAx6_2 hHeld ?_
            refine one_ (i := 2) (N := some 17) bYtoadgikbbigdlaaPaAx6_3 rfl rfl (one_of HT_.out (by kernel_rfl)) (by decide) (fun K hK => ?_)
            refine goes_ Try.func62 (by kernel_rfl) rfl #[.int .i64 ((rd_T50 l0 x3_1).f0), .int .i64 1, .int .i64 9999] (by rfl) rfl rfl yy3 ?_
            with_reducible refine (spec_l1In.calls ((rd_T50 l0 x3_1).f0) 1 9999 true _ A4.out).mono ?_
            rintro e w' ⟨rfl, ⟨nd, rfl⟩⟩
            refine ⟨_, rfl, ?_⟩
            refine hK.out _ _ ⟨(blk_cell BK186.out 0).trans rfl, (blk_cell BK186.out 1).trans rfl, (blk_cell BK186.out 2).trans rfl, ((HB.out.cell (World.block_lt_of_cell? w _ hw190_0)).trans hw190_0), ((HB.out.cell (World.block_lt_of_cell? w _ hw190_1)).trans hw190_1), ((HB.out.cell (World.block_lt_of_cell? w _ hw190_2)).trans hw190_2)⟩ (fun hHeld => ?_)
            clear hK K
            refine no_ 17 ?_
            refine pu_ 3 18 bYtoadgikbbigdlaaPaAx6_4 ?_
            refine pu_ 4 19 bYtoadgikbbigdlaaPaAx6_5 ?_
            refine pu_ 5 20 bYtoadgikbbigdlaaPaAx6_6 ?_
            refine t6_ 6 21 bYtoadgikbbigdlaaPaAx6_7 hHeld ?_
            refine one_ (i := 7) (N := some 22) bYtoadgikbbigdlaaPaAx6_8 rfl rfl (one_of HT_.out (by kernel_rfl)) (by decide) (fun K hK => ?_)
            refine goes_ Try.func62 (by kernel_rfl) rfl #[.int .i64 ((rd_T50 l0 x3_1).f1), .int .i64 1, .int .i64 4] (by rfl) rfl rfl yy3 ?_
            with_reducible refine (spec_l1In.calls ((rd_T50 l0 x3_1).f1) 1 4 true _ A6.out).mono ?_
            rintro e w' ⟨rfl, ⟨nd, rfl⟩⟩
            refine ⟨_, rfl, ?_⟩
            refine hK.out _ _ ⟨(blk_cell BK186.out 0).trans rfl, (blk_cell BK186.out 1).trans rfl, (blk_cell BK186.out 2).trans rfl, ((HB.out.cell (World.block_lt_of_cell? w _ hw190_0)).trans hw190_0), ((HB.out.cell (World.block_lt_of_cell? w _ hw190_1)).trans hw190_1), ((HB.out.cell (World.block_lt_of_cell? w _ hw190_2)).trans hw190_2)⟩ (fun hHeld => ?_)
            clear hK K
            refine no_ 22 ?_
            refine pu_ 8 23 bYtoadgikbbigdlaaPaAx6_9 ?_
            refine pu_ 9 24 bYtoadgikbbigdlaaPaAx6_10 ?_
            refine pu_ 10 25 bYtoadgikbbigdlaaPaAx6_11 ?_
            refine pu_ 11 26 bYtoadgikbbigdlaaPaAx6_12 ?_
            refine t6_ 12 27 bYtoadgikbbigdlaaPaAx6_13 hHeld ?_
            refine one_ (i := 13) (N := some 28) bYtoadgikbbigdlaaPaAx6_14 rfl rfl (one_of HT_.out (by kernel_rfl)) (by decide) (fun K hK => ?_)
            refine goes_ Try.func62 (by kernel_rfl) rfl #[.int .i64 ((rd_T50 l0 x3_1).f2), .int .i64 1, .int .i64 1000] (by rfl) rfl rfl yy3 ?_
            with_reducible refine (spec_l1In.calls ((rd_T50 l0 x3_1).f2) 1 1000 true _ A8.out).mono ?_
            rintro e w' ⟨rfl, ⟨nd, rfl⟩⟩
            refine ⟨_, rfl, ?_⟩
            refine hK.out _ _ ⟨(blk_cell BK186.out 0).trans rfl, (blk_cell BK186.out 1).trans rfl, (blk_cell BK186.out 2).trans rfl, ((HB.out.cell (World.block_lt_of_cell? w _ hw190_0)).trans hw190_0), ((HB.out.cell (World.block_lt_of_cell? w _ hw190_1)).trans hw190_1), ((HB.out.cell (World.block_lt_of_cell? w _ hw190_2)).trans hw190_2)⟩ (fun hHeld => ?_)
            clear hK K
            refine no_ 28 ?_
            refine pu_ 14 29 bYtoadgikbbigdlaaPaAx6_15 ?_
            refine pu_ 15 30 bYtoadgikbbigdlaaPaAx6_16 ?_
            refine pu_ 16 31 bYtoadgikbbigdlaaPaAx6_17 ?_
            refine pu_ 17 32 bYtoadgikbbigdlaaPaAx6_18 ?_
            refine pu_ 18 33 bYtoadgikbbigdlaaPaAx6_19 ?_
            refine pu_ 19 34 bYtoadgikbbigdlaaPaAx6_20 ?_
            refine pu_ 20 35 bYtoadgikbbigdlaaPaAx6_21 ?_
            refine pu_ 21 36 bYtoadgikbbigdlaaPaAx6_22 ?_
            refine pu_ 22 37 bYtoadgikbbigdlaaPaAx6_23 ?_
            refine pu_ 23 38 bYtoadgikbbigdlaaPaAx6_24 ?_
            refine pu_ 24 39 bYtoadgikbbigdlaaPaAx6_25 ?_
            refine pu_ 26 41 bYtoadgikbbigdlaaPaAx6_26 ?_
            refine t6_ 25 40 bYtoadgikbbigdlaaPaAx6_27 hHeld ?_
            refine t6_ 27 42 bYtoadgikbbigdlaaPaAx6_28 hHeld ?_
            refine pu_ 28 43 bYtoadgikbbigdlaaPaAx6_29 ?_
            refine pu_ 29 44 bYtoadgikbbigdlaaPaAx6_30 ?_
            refine pu_ 30 45 bYtoadgikbbigdlaaPaAx6_31 ?_
            refine done_ (done_of HT_.out (by kernel_rfl)) ?_
            try go_wp2
            go_ret
            exact ⟨by first | rfl | (simp [errW_none, errW_some] <;> rfl) | (simp only [← hji11]; first | rfl | (simp [errW_none, errW_some] <;> rfl)) | (simp [*, errW_none, errW_some] <;> rfl), by repeat (first | (with_reducible first | exact HB.out | apply below_alloc | apply pw_below_drewN | apply below_drew1 | refine below_set ?_ GE186.out) | exact HB.out)⟩
           ·rw [if_neg c14] at H
            have c14b0 : decide (((rd_T50 l0 x3_1).f0) ≤ ((rd_T50 l0 (ji11)).f0)) = false := decide_eq_false c14
            clear c14
            have H' := Aside0.mk H
            clear H
            have p185 : 0 ≤ (x3_1 : Int) := of_decide_eq_true yy2
            have q185 : x3_1 < (l0.length : Int) := of_decide_eq_true yy2
            obtain ⟨ad185, e185, hx185_0, hx185_1, hx185_2⟩ := at_T50 HR0.out x3_1 p185 q185
            cases e185
            replace hx185_0 := (HB.out.cell (World.block_lt_of_cell? w _ hx185_0)).trans hx185_0
            replace hx185_1 := (HB.out.cell (World.block_lt_of_cell? w _ hx185_1)).trans hx185_1
            replace hx185_2 := (HB.out.cell (World.block_lt_of_cell? w _ hx185_2)).trans hx185_2
            replace p185 := eq_true p185
            replace q185 := eq_true q185
            try go_wp2_with (first | ((with_reducible refine gate_dst (N := 4) rfl ?_); refine box_event ?hg (N := 4) ?hd (cs := #[.int .i64 0, .int .i64 0, .int .i64 0]) (t := 50) ?hr ?_; (case hd => rfl); (case hg => rfl); (case hr => first | (go_simp; done) | (go_simp; rfl)); intro gb186 hg w19 hbox hb; have n0_ := Aside0.mk (below_step yy1 hb); have n1_ := Aside0.mk (hbox); have n2_ := Aside0.mk ((by rw [hg]; exact (below_size yy1) : w.heap.size ≤ gb186)); have n3_ := Aside0.mk ((by rw [hg]; exact (below_size yy1) : w.heap.size ≤ gb186)); clear HB; have HB := n0_; have BK186 := n1_; have GW186 := n2_; have GE186 := n3_; clear n0_ n1_ n2_ n3_; clear hb hbox hg; have hcz20_0 : w19.cell? ⟨gb186, 0, none⟩ = some (.int .i64 0) := (blk_cell BK186.out 0).trans rfl; have hcz20_1 : w19.cell? ⟨gb186, 1, none⟩ = some (.int .i64 0) := (blk_cell BK186.out 1).trans rfl; have hcz20_2 : w19.cell? ⟨gb186, 2, none⟩ = some (.int .i64 0) := (blk_cell BK186.out 2).trans rfl; have hfz20_0 := blk_frozen BK186.out 0; have hfz20_1 := blk_frozen BK186.out 1; have hfz20_2 := blk_frozen BK186.out 2))
            have n0_ : Aside0 ((((w19.setCell ⟨gb186, 0, none⟩ (.int .i64 ((rd_T50 l0 x3_1).f0))).setCell ⟨gb186, 1, none⟩ (.int .i64 ((rd_T50 l0 x3_1).f1))).setCell ⟨gb186, 2, none⟩ (.int .i64 ((rd_T50 l0 x3_1).f2))).heap[gb186]? = some (.cells #[.int .i64 ((rd_T50 l0 x3_1).f0), .int .i64 ((rd_T50 l0 x3_1).f1), .int .i64 ((rd_T50 l0 x3_1).f2)] 50 (0, 0))) := ⟨by (with_reducible repeat (first | refine blk_drewN ?_ _ | refine blk_drew ?_ | refine blk_alloc ?_ _)); refine blk_put (cs := #[.int .i64 ((rd_T50 l0 x3_1).f0), .int .i64 ((rd_T50 l0 x3_1).f1), .int .i64 0]) ?_ 2 _ rfl; (with_reducible repeat (first | refine blk_drewN ?_ _ | refine blk_drew ?_ | refine blk_alloc ?_ _)); refine blk_put (cs := #[.int .i64 ((rd_T50 l0 x3_1).f0), .int .i64 0, .int .i64 0]) ?_ 1 _ rfl; (with_reducible repeat (first | refine blk_drewN ?_ _ | refine blk_drew ?_ | refine blk_alloc ?_ _)); refine blk_put (cs := #[.int .i64 0, .int .i64 0, .int .i64 0]) ?_ 0 _ rfl; (with_reducible repeat (first | refine blk_drewN ?_ _ | refine blk_drew ?_ | refine blk_alloc ?_ _)); exact BK186.out⟩
            have n1_ : Aside0 (Below w.heap.size w (((w19.setCell ⟨gb186, 0, none⟩ (.int .i64 ((rd_T50 l0 x3_1).f0))).setCell ⟨gb186, 1, none⟩ (.int .i64 ((rd_T50 l0 x3_1).f1))).setCell ⟨gb186, 2, none⟩ (.int .i64 ((rd_T50 l0 x3_1).f2)))) := ⟨by repeat (first | (with_reducible first | exact HB.out | apply below_alloc | apply pw_below_drewN | apply below_drew1 | refine below_set ?_ GE186.out) | exact HB.out)⟩
            (try clear BK186)
            (try clear HB)
            generalize (((w19.setCell ⟨gb186, 0, none⟩ (.int .i64 ((rd_T50 l0 x3_1).f0))).setCell ⟨gb186, 1, none⟩ (.int .i64 ((rd_T50 l0 x3_1).f1))).setCell ⟨gb186, 2, none⟩ (.int .i64 ((rd_T50 l0 x3_1).f2))) = w21 at n0_ n1_ ⊢
            have BK186 := n0_
            have HB := n1_
            clear n0_ n1_
            have n0_ := Aside0.mk (blk_drew BK186.out)
            have n1_ := Aside0.mk (below_drew1 HB.out)
            clear BK186 HB
            have BK186 := n0_
            have HB := n1_
            clear n0_ n1_
            have p190 : 0 ≤ ((ji11) : Int) := of_decide_eq_true yy2
            have q190 : (ji11) < (l0.length : Int) := of_decide_eq_true yy2
            obtain ⟨ad190, e190, hx190_0, hx190_1, hx190_2⟩ := at_T50 HR0.out (ji11) p190 q190
            have hw190_2 := hx190_2
            have hw190_1 := hx190_1
            have hw190_0 := hx190_0
            obtain rfl : ad185 = ad190 := (by injection e190)
            replace hx190_0 := (HB.out.cell (World.block_lt_of_cell? w _ hx190_0)).trans hx190_0
            replace hx190_1 := (HB.out.cell (World.block_lt_of_cell? w _ hx190_1)).trans hx190_1
            replace hx190_2 := (HB.out.cell (World.block_lt_of_cell? w _ hx190_2)).trans hx190_2
            replace p190 := eq_true p190
            replace q190 := eq_true q190
            refine start_ (n := 31) (S := fun w' => w'.cell? ⟨gb186, 0, none⟩ = some (.int .i64 ((rd_T50 l0 x3_1).f0)) ∧ w'.cell? ⟨gb186, 1, none⟩ = some (.int .i64 ((rd_T50 l0 x3_1).f1)) ∧ w'.cell? ⟨gb186, 2, none⟩ = some (.int .i64 ((rd_T50 l0 x3_1).f2)) ∧ w'.cell? (ad185.add (((ji11)).toNat * 3)) = some (.int .i64 ((rd_T50 l0 (ji11)).f0)) ∧ w'.cell? ⟨(ad185.add (((ji11)).toNat * 3)).block, (ad185.add (((ji11)).toNat * 3)).off + 1, none⟩ = some (.int .i64 ((rd_T50 l0 (ji11)).f1)) ∧ w'.cell? ⟨(ad185.add (((ji11)).toNat * 3)).block, (ad185.add (((ji11)).toNat * 3)).off + 2, none⟩ = some (.int .i64 ((rd_T50 l0 (ji11)).f2))) (ds := []) bYtoadgikbbigdlaaPaAx6_0 (by kernel_rfl) rfl rfl ⟨(blk_cell BK186.out 0).trans rfl, (blk_cell BK186.out 1).trans rfl, (blk_cell BK186.out 2).trans rfl, ((HB.out.cell (World.block_lt_of_cell? w _ hw190_0)).trans hw190_0), ((HB.out.cell (World.block_lt_of_cell? w _ hw190_1)).trans hw190_1), ((HB.out.cell (World.block_lt_of_cell? w _ hw190_2)).trans hw190_2)⟩ (fun hHeld => ?_); refine with_tabW spec_l26Items.tab5 spec_l26Items.bits5 (fun HT_ HW_ => ?_)
            generalize w21.drew = w22 at BK186 HB hx190_0 hx190_1 hx190_2 hHeld ⊢
            refine pu_ 0 15 bYtoadgikbbigdlaaPaAx6_1 ?_
            refine t6_ 1 16 bYtoadgikbbigdlaaPaAx6_2 hHeld ?_
            refine one_ (i := 2) (N := some 17) bYtoadgikbbigdlaaPaAx6_3 rfl rfl (one_of HT_.out (by kernel_rfl)) (by decide) (fun K hK => ?_)
            refine goes_ Try.func62 (by kernel_rfl) rfl #[.int .i64 ((rd_T50 l0 x3_1).f0), .int .i64 1, .int .i64 9999] (by rfl) rfl rfl yy3 ?_
            with_reducible refine (spec_l1In.calls ((rd_T50 l0 x3_1).f0) 1 9999 true _ A4.out).mono ?_
            rintro e w' ⟨rfl, ⟨nd, rfl⟩⟩
            refine ⟨_, rfl, ?_⟩
            refine hK.out _ _ ⟨(blk_cell BK186.out 0).trans rfl, (blk_cell BK186.out 1).trans rfl, (blk_cell BK186.out 2).trans rfl, ((HB.out.cell (World.block_lt_of_cell? w _ hw190_0)).trans hw190_0), ((HB.out.cell (World.block_lt_of_cell? w _ hw190_1)).trans hw190_1), ((HB.out.cell (World.block_lt_of_cell? w _ hw190_2)).trans hw190_2)⟩ (fun hHeld => ?_)
            clear hK K
            refine no_ 17 ?_
            refine pu_ 3 18 bYtoadgikbbigdlaaPaAx6_4 ?_
            refine pu_ 4 19 bYtoadgikbbigdlaaPaAx6_5 ?_
            refine pu_ 5 20 bYtoadgikbbigdlaaPaAx6_6 ?_
            refine t6_ 6 21 bYtoadgikbbigdlaaPaAx6_7 hHeld ?_
            refine one_ (i := 7) (N := some 22) bYtoadgikbbigdlaaPaAx6_8 rfl rfl (one_of HT_.out (by kernel_rfl)) (by decide) (fun K hK => ?_)
            refine goes_ Try.func62 (by kernel_rfl) rfl #[.int .i64 ((rd_T50 l0 x3_1).f1), .int .i64 1, .int .i64 4] (by rfl) rfl rfl yy3 ?_
            with_reducible refine (spec_l1In.calls ((rd_T50 l0 x3_1).f1) 1 4 true _ A6.out).mono ?_
            rintro e w' ⟨rfl, ⟨nd, rfl⟩⟩
            refine ⟨_, rfl, ?_⟩
            refine hK.out _ _ ⟨(blk_cell BK186.out 0).trans rfl, (blk_cell BK186.out 1).trans rfl, (blk_cell BK186.out 2).trans rfl, ((HB.out.cell (World.block_lt_of_cell? w _ hw190_0)).trans hw190_0), ((HB.out.cell (World.block_lt_of_cell? w _ hw190_1)).trans hw190_1), ((HB.out.cell (World.block_lt_of_cell? w _ hw190_2)).trans hw190_2)⟩ (fun hHeld => ?_)
            clear hK K
            refine no_ 22 ?_
            refine pu_ 8 23 bYtoadgikbbigdlaaPaAx6_9 ?_
            refine pu_ 9 24 bYtoadgikbbigdlaaPaAx6_10 ?_
            refine pu_ 10 25 bYtoadgikbbigdlaaPaAx6_11 ?_
            refine pu_ 11 26 bYtoadgikbbigdlaaPaAx6_12 ?_
            refine t6_ 12 27 bYtoadgikbbigdlaaPaAx6_13 hHeld ?_
            refine one_ (i := 13) (N := some 28) bYtoadgikbbigdlaaPaAx6_14 rfl rfl (one_of HT_.out (by kernel_rfl)) (by decide) (fun K hK => ?_)
            refine goes_ Try.func62 (by kernel_rfl) rfl #[.int .i64 ((rd_T50 l0 x3_1).f2), .int .i64 1, .int .i64 1000] (by rfl) rfl rfl yy3 ?_
            with_reducible refine (spec_l1In.calls ((rd_T50 l0 x3_1).f2) 1 1000 true _ A8.out).mono ?_
            rintro e w' ⟨rfl, ⟨nd, rfl⟩⟩
            refine ⟨_, rfl, ?_⟩
            refine hK.out _ _ ⟨(blk_cell BK186.out 0).trans rfl, (blk_cell BK186.out 1).trans rfl, (blk_cell BK186.out 2).trans rfl, ((HB.out.cell (World.block_lt_of_cell? w _ hw190_0)).trans hw190_0), ((HB.out.cell (World.block_lt_of_cell? w _ hw190_1)).trans hw190_1), ((HB.out.cell (World.block_lt_of_cell? w _ hw190_2)).trans hw190_2)⟩ (fun hHeld => ?_)
            clear hK K
            refine no_ 28 ?_
            refine pu_ 14 29 bYtoadgikbbigdlaaPaAx6_15 ?_
            refine pu_ 15 30 bYtoadgikbbigdlaaPaAx6_16 ?_
            refine pu_ 16 31 bYtoadgikbbigdlaaPaAx6_17 ?_
            refine pu_ 17 32 bYtoadgikbbigdlaaPaAx6_18 ?_
            refine pu_ 18 33 bYtoadgikbbigdlaaPaAx6_19 ?_
            refine pu_ 19 34 bYtoadgikbbigdlaaPaAx6_20 ?_
            refine pu_ 20 35 bYtoadgikbbigdlaaPaAx6_21 ?_
            refine pu_ 21 36 bYtoadgikbbigdlaaPaAx6_22 ?_
            refine pu_ 22 37 bYtoadgikbbigdlaaPaAx6_23 ?_
            refine pu_ 23 38 bYtoadgikbbigdlaaPaAx6_24 ?_
            refine pu_ 24 39 bYtoadgikbbigdlaaPaAx6_25 ?_
            refine pu_ 26 41 bYtoadgikbbigdlaaPaAx6_26 ?_
            refine t6_ 25 40 bYtoadgikbbigdlaaPaAx6_27 hHeld ?_
            refine t6_ 27 42 bYtoadgikbbigdlaaPaAx6_28 hHeld ?_
            refine pu_ 28 43 bYtoadgikbbigdlaaPaAx6_29 ?_
            refine pu_ 29 44 bYtoadgikbbigdlaaPaAx6_30 ?_
            refine pu_ 30 45 bYtoadgikbbigdlaaPaAx6_31 ?_
            refine done_ (done_of HT_.out (by kernel_rfl)) ?_
            try go_wp2
            go_roundg k1
            case measure => have := HK1.out; omega
            case rel => exact ⟨(wrap64 (x3_1 + 1)), yy11, H', ⟨by have := HK1.out; omega⟩, ⟨by repeat (first | (with_reducible first | exact HB.out | apply below_alloc | apply pw_below_drewN | apply below_drew1 | refine below_set ?_ GE186.out) | exact HB.out)⟩⟩
          ·rw [if_neg c13] at H
           exact absurd H (by simp)
         ·rw [if_neg c12] at H
          exact absurd H (by simp)
        ·rw [if_neg c10] at H
         have c10b0 : decide (0 < x3_1) = false := decide_eq_false c10
         clear c10
         have H' := Aside0.mk H
         clear H
         have p185 : 0 ≤ (x3_1 : Int) := of_decide_eq_true yy2
         have q185 : x3_1 < (l0.length : Int) := of_decide_eq_true yy2
         obtain ⟨ad185, e185, hx185_0, hx185_1, hx185_2⟩ := at_T50 HR0.out x3_1 p185 q185
         cases e185
         replace hx185_0 := (HB.out.cell (World.block_lt_of_cell? w _ hx185_0)).trans hx185_0
         replace hx185_1 := (HB.out.cell (World.block_lt_of_cell? w _ hx185_1)).trans hx185_1
         replace hx185_2 := (HB.out.cell (World.block_lt_of_cell? w _ hx185_2)).trans hx185_2
         replace p185 := eq_true p185
         replace q185 := eq_true q185
         try go_wp2_with (first | ((with_reducible refine gate_dst (N := 4) rfl ?_); refine box_event ?hg (N := 4) ?hd (cs := #[.int .i64 0, .int .i64 0, .int .i64 0]) (t := 50) ?hr ?_; (case hd => rfl); (case hg => rfl); (case hr => first | (go_simp; done) | (go_simp; rfl)); intro gb186 hg w23 hbox hb; have n0_ := Aside0.mk (below_step yy1 hb); have n1_ := Aside0.mk (hbox); have n2_ := Aside0.mk ((by rw [hg]; exact (below_size yy1) : w.heap.size ≤ gb186)); have n3_ := Aside0.mk ((by rw [hg]; exact (below_size yy1) : w.heap.size ≤ gb186)); clear HB; have HB := n0_; have BK186 := n1_; have GW186 := n2_; have GE186 := n3_; clear n0_ n1_ n2_ n3_; clear hb hbox hg; have hcz24_0 : w23.cell? ⟨gb186, 0, none⟩ = some (.int .i64 0) := (blk_cell BK186.out 0).trans rfl; have hcz24_1 : w23.cell? ⟨gb186, 1, none⟩ = some (.int .i64 0) := (blk_cell BK186.out 1).trans rfl; have hcz24_2 : w23.cell? ⟨gb186, 2, none⟩ = some (.int .i64 0) := (blk_cell BK186.out 2).trans rfl; have hfz24_0 := blk_frozen BK186.out 0; have hfz24_1 := blk_frozen BK186.out 1; have hfz24_2 := blk_frozen BK186.out 2))
         have n0_ : Aside0 ((((w23.setCell ⟨gb186, 0, none⟩ (.int .i64 ((rd_T50 l0 x3_1).f0))).setCell ⟨gb186, 1, none⟩ (.int .i64 ((rd_T50 l0 x3_1).f1))).setCell ⟨gb186, 2, none⟩ (.int .i64 ((rd_T50 l0 x3_1).f2))).heap[gb186]? = some (.cells #[.int .i64 ((rd_T50 l0 x3_1).f0), .int .i64 ((rd_T50 l0 x3_1).f1), .int .i64 ((rd_T50 l0 x3_1).f2)] 50 (0, 0))) := ⟨by (with_reducible repeat (first | refine blk_drewN ?_ _ | refine blk_drew ?_ | refine blk_alloc ?_ _)); refine blk_put (cs := #[.int .i64 ((rd_T50 l0 x3_1).f0), .int .i64 ((rd_T50 l0 x3_1).f1), .int .i64 0]) ?_ 2 _ rfl; (with_reducible repeat (first | refine blk_drewN ?_ _ | refine blk_drew ?_ | refine blk_alloc ?_ _)); refine blk_put (cs := #[.int .i64 ((rd_T50 l0 x3_1).f0), .int .i64 0, .int .i64 0]) ?_ 1 _ rfl; (with_reducible repeat (first | refine blk_drewN ?_ _ | refine blk_drew ?_ | refine blk_alloc ?_ _)); refine blk_put (cs := #[.int .i64 0, .int .i64 0, .int .i64 0]) ?_ 0 _ rfl; (with_reducible repeat (first | refine blk_drewN ?_ _ | refine blk_drew ?_ | refine blk_alloc ?_ _)); exact BK186.out⟩
         have n1_ : Aside0 (Below w.heap.size w (((w23.setCell ⟨gb186, 0, none⟩ (.int .i64 ((rd_T50 l0 x3_1).f0))).setCell ⟨gb186, 1, none⟩ (.int .i64 ((rd_T50 l0 x3_1).f1))).setCell ⟨gb186, 2, none⟩ (.int .i64 ((rd_T50 l0 x3_1).f2)))) := ⟨by repeat (first | (with_reducible first | exact HB.out | apply below_alloc | apply pw_below_drewN | apply below_drew1 | refine below_set ?_ GE186.out) | exact HB.out)⟩
         (try clear BK186)
         (try clear HB)
         generalize (((w23.setCell ⟨gb186, 0, none⟩ (.int .i64 ((rd_T50 l0 x3_1).f0))).setCell ⟨gb186, 1, none⟩ (.int .i64 ((rd_T50 l0 x3_1).f1))).setCell ⟨gb186, 2, none⟩ (.int .i64 ((rd_T50 l0 x3_1).f2))) = w25 at n0_ n1_ ⊢
         have BK186 := n0_
         have HB := n1_
         clear n0_ n1_
         have n0_ := Aside0.mk (blk_drew BK186.out)
         have n1_ := Aside0.mk (below_drew1 HB.out)
         clear BK186 HB
         have BK186 := n0_
         have HB := n1_
         clear n0_ n1_
         refine start_ (n := 31) (S := fun w' => w'.cell? ⟨gb186, 0, none⟩ = some (.int .i64 ((rd_T50 l0 x3_1).f0)) ∧ w'.cell? ⟨gb186, 1, none⟩ = some (.int .i64 ((rd_T50 l0 x3_1).f1)) ∧ w'.cell? ⟨gb186, 2, none⟩ = some (.int .i64 ((rd_T50 l0 x3_1).f2))) (ds := []) bYtoadgikbbigdlaaPaAx6_0 (by kernel_rfl) rfl rfl ⟨(blk_cell BK186.out 0).trans rfl, (blk_cell BK186.out 1).trans rfl, (blk_cell BK186.out 2).trans rfl⟩ (fun hHeld => ?_); refine with_tabW spec_l26Items.tab5 spec_l26Items.bits5 (fun HT_ HW_ => ?_)
         generalize w25.drew = w26 at BK186 HB hHeld ⊢
         refine pu_ 0 15 bYtoadgikbbigdlaaPaAx6_1 ?_
         refine t3_ 1 16 bYtoadgikbbigdlaaPaAx6_2 hHeld ?_
         refine one_ (i := 2) (N := some 17) bYtoadgikbbigdlaaPaAx6_3 rfl rfl (one_of HT_.out (by kernel_rfl)) (by decide) (fun K hK => ?_)
         refine goes_ Try.func62 (by kernel_rfl) rfl #[.int .i64 ((rd_T50 l0 x3_1).f0), .int .i64 1, .int .i64 9999] (by rfl) rfl rfl yy3 ?_
         with_reducible refine (spec_l1In.calls ((rd_T50 l0 x3_1).f0) 1 9999 true _ A4.out).mono ?_
         rintro e w' ⟨rfl, ⟨nd, rfl⟩⟩
         refine ⟨_, rfl, ?_⟩
         refine hK.out _ _ ⟨(blk_cell BK186.out 0).trans rfl, (blk_cell BK186.out 1).trans rfl, (blk_cell BK186.out 2).trans rfl⟩ (fun hHeld => ?_)
         clear hK K
         refine no_ 17 ?_
         refine pu_ 3 18 bYtoadgikbbigdlaaPaAx6_4 ?_
         refine pu_ 4 19 bYtoadgikbbigdlaaPaAx6_5 ?_
         refine pu_ 5 20 bYtoadgikbbigdlaaPaAx6_6 ?_
         refine t3_ 6 21 bYtoadgikbbigdlaaPaAx6_7 hHeld ?_
         refine one_ (i := 7) (N := some 22) bYtoadgikbbigdlaaPaAx6_8 rfl rfl (one_of HT_.out (by kernel_rfl)) (by decide) (fun K hK => ?_)
         refine goes_ Try.func62 (by kernel_rfl) rfl #[.int .i64 ((rd_T50 l0 x3_1).f1), .int .i64 1, .int .i64 4] (by rfl) rfl rfl yy3 ?_
         with_reducible refine (spec_l1In.calls ((rd_T50 l0 x3_1).f1) 1 4 true _ A6.out).mono ?_
         rintro e w' ⟨rfl, ⟨nd, rfl⟩⟩
         refine ⟨_, rfl, ?_⟩
         refine hK.out _ _ ⟨(blk_cell BK186.out 0).trans rfl, (blk_cell BK186.out 1).trans rfl, (blk_cell BK186.out 2).trans rfl⟩ (fun hHeld => ?_)
         clear hK K
         refine no_ 22 ?_
         refine pu_ 8 23 bYtoadgikbbigdlaaPaAx6_9 ?_
         refine pu_ 9 24 bYtoadgikbbigdlaaPaAx6_10 ?_
         refine pu_ 10 25 bYtoadgikbbigdlaaPaAx6_11 ?_
         refine pu_ 11 26 bYtoadgikbbigdlaaPaAx6_12 ?_
         refine t3_ 12 27 bYtoadgikbbigdlaaPaAx6_13 hHeld ?_
         refine one_ (i := 13) (N := some 28) bYtoadgikbbigdlaaPaAx6_14 rfl rfl (one_of HT_.out (by kernel_rfl)) (by decide) (fun K hK => ?_)
         refine goes_ Try.func62 (by kernel_rfl) rfl #[.int .i64 ((rd_T50 l0 x3_1).f2), .int .i64 1, .int .i64 1000] (by rfl) rfl rfl yy3 ?_
         with_reducible refine (spec_l1In.calls ((rd_T50 l0 x3_1).f2) 1 1000 true _ A8.out).mono ?_
         rintro e w' ⟨rfl, ⟨nd, rfl⟩⟩
         refine ⟨_, rfl, ?_⟩
         refine hK.out _ _ ⟨(blk_cell BK186.out 0).trans rfl, (blk_cell BK186.out 1).trans rfl, (blk_cell BK186.out 2).trans rfl⟩ (fun hHeld => ?_)
         clear hK K
         refine no_ 28 ?_
         refine pu_ 14 29 bYtoadgikbbigdlaaPaAx6_15 ?_
         refine pu_ 15 30 bYtoadgikbbigdlaaPaAx6_16 ?_
         refine pu_ 16 31 bYtoadgikbbigdlaaPaAx6_17 ?_
         refine pu_ 17 32 bYtoadgikbbigdlaaPaAx6_18 ?_
         refine pu_ 18 33 bYtoadgikbbigdlaaPaAx6_19 ?_
         refine pu_ 19 34 bYtoadgikbbigdlaaPaAx6_20 ?_
         refine pn_ 20 35 bYtoadgikbbigdlaaPaAx6_21 ?_
         refine pn_ 21 36 bYtoadgikbbigdlaaPaAx6_22 ?_
         refine pn_ 22 37 bYtoadgikbbigdlaaPaAx6_23 ?_
         refine pn_ 23 38 bYtoadgikbbigdlaaPaAx6_24 ?_
         refine pn_ 24 39 bYtoadgikbbigdlaaPaAx6_25 ?_
         refine pn_ 25 40 bYtoadgikbbigdlaaPaAx6_32 ?_
         refine pn_ 26 41 bYtoadgikbbigdlaaPaAx6_27 ?_
         refine pn_ 27 42 bYtoadgikbbigdlaaPaAx6_28 ?_
         refine pn_ 28 43 bYtoadgikbbigdlaaPaAx6_29 ?_
         refine pu_ 29 44 bYtoadgikbbigdlaaPaAx6_30 ?_
         refine pu_ 30 45 bYtoadgikbbigdlaaPaAx6_31 ?_
         refine done_ (done_of HT_.out (by kernel_rfl)) ?_
         try go_wp2
         go_roundg k1
         case measure => have := HK1.out; omega
         case rel => exact ⟨(wrap64 (x3_1 + 1)), yy11, H', ⟨by have := HK1.out; omega⟩, ⟨by repeat (first | (with_reducible first | exact HB.out | apply below_alloc | apply pw_below_drewN | apply below_drew1 | refine below_set ?_ GE186.out) | exact HB.out)⟩⟩
       ·replace c9 := Bool.eq_false_iff.mpr c9
        subst c9
        have H1 : (some false) = some r := by rw [if_neg (show ¬ (false = true) by decide)] at H; exact H
        clear H
        have H := H1
        clear H1
        obtain rfl := Option.some.inj H
        have p185 : 0 ≤ (x3_1 : Int) := of_decide_eq_true yy2
        have q185 : x3_1 < (l0.length : Int) := of_decide_eq_true yy2
        obtain ⟨ad185, e185, hx185_0, hx185_1, hx185_2⟩ := at_T50 HR0.out x3_1 p185 q185
        cases e185
        replace hx185_0 := (HB.out.cell (World.block_lt_of_cell? w _ hx185_0)).trans hx185_0
        replace hx185_1 := (HB.out.cell (World.block_lt_of_cell? w _ hx185_1)).trans hx185_1
        replace hx185_2 := (HB.out.cell (World.block_lt_of_cell? w _ hx185_2)).trans hx185_2
        replace p185 := eq_true p185
        replace q185 := eq_true q185
        try go_wp2_with (first | ((with_reducible refine gate_dst (N := 4) rfl ?_); refine box_event ?hg (N := 4) ?hd (cs := #[.int .i64 0, .int .i64 0, .int .i64 0]) (t := 50) ?hr ?_; (case hd => rfl); (case hg => rfl); (case hr => first | (go_simp; done) | (go_simp; rfl)); intro gb186 hg w27 hbox hb; have n0_ := Aside0.mk (below_step yy1 hb); have n1_ := Aside0.mk (hbox); have n2_ := Aside0.mk ((by rw [hg]; exact (below_size yy1) : w.heap.size ≤ gb186)); have n3_ := Aside0.mk ((by rw [hg]; exact (below_size yy1) : w.heap.size ≤ gb186)); clear HB; have HB := n0_; have BK186 := n1_; have GW186 := n2_; have GE186 := n3_; clear n0_ n1_ n2_ n3_; clear hb hbox hg; have hcz28_0 : w27.cell? ⟨gb186, 0, none⟩ = some (.int .i64 0) := (blk_cell BK186.out 0).trans rfl; have hcz28_1 : w27.cell? ⟨gb186, 1, none⟩ = some (.int .i64 0) := (blk_cell BK186.out 1).trans rfl; have hcz28_2 : w27.cell? ⟨gb186, 2, none⟩ = some (.int .i64 0) := (blk_cell BK186.out 2).trans rfl; have hfz28_0 := blk_frozen BK186.out 0; have hfz28_1 := blk_frozen BK186.out 1; have hfz28_2 := blk_frozen BK186.out 2))
        have n0_ : Aside0 ((((w27.setCell ⟨gb186, 0, none⟩ (.int .i64 ((rd_T50 l0 x3_1).f0))).setCell ⟨gb186, 1, none⟩ (.int .i64 ((rd_T50 l0 x3_1).f1))).setCell ⟨gb186, 2, none⟩ (.int .i64 ((rd_T50 l0 x3_1).f2))).heap[gb186]? = some (.cells #[.int .i64 ((rd_T50 l0 x3_1).f0), .int .i64 ((rd_T50 l0 x3_1).f1), .int .i64 ((rd_T50 l0 x3_1).f2)] 50 (0, 0))) := ⟨by (with_reducible repeat (first | refine blk_drewN ?_ _ | refine blk_drew ?_ | refine blk_alloc ?_ _)); refine blk_put (cs := #[.int .i64 ((rd_T50 l0 x3_1).f0), .int .i64 ((rd_T50 l0 x3_1).f1), .int .i64 0]) ?_ 2 _ rfl; (with_reducible repeat (first | refine blk_drewN ?_ _ | refine blk_drew ?_ | refine blk_alloc ?_ _)); refine blk_put (cs := #[.int .i64 ((rd_T50 l0 x3_1).f0), .int .i64 0, .int .i64 0]) ?_ 1 _ rfl; (with_reducible repeat (first | refine blk_drewN ?_ _ | refine blk_drew ?_ | refine blk_alloc ?_ _)); refine blk_put (cs := #[.int .i64 0, .int .i64 0, .int .i64 0]) ?_ 0 _ rfl; (with_reducible repeat (first | refine blk_drewN ?_ _ | refine blk_drew ?_ | refine blk_alloc ?_ _)); exact BK186.out⟩
        have n1_ : Aside0 (Below w.heap.size w (((w27.setCell ⟨gb186, 0, none⟩ (.int .i64 ((rd_T50 l0 x3_1).f0))).setCell ⟨gb186, 1, none⟩ (.int .i64 ((rd_T50 l0 x3_1).f1))).setCell ⟨gb186, 2, none⟩ (.int .i64 ((rd_T50 l0 x3_1).f2)))) := ⟨by repeat (first | (with_reducible first | exact HB.out | apply below_alloc | apply pw_below_drewN | apply below_drew1 | refine below_set ?_ GE186.out) | exact HB.out)⟩
        (try clear BK186)
        (try clear HB)
        generalize (((w27.setCell ⟨gb186, 0, none⟩ (.int .i64 ((rd_T50 l0 x3_1).f0))).setCell ⟨gb186, 1, none⟩ (.int .i64 ((rd_T50 l0 x3_1).f1))).setCell ⟨gb186, 2, none⟩ (.int .i64 ((rd_T50 l0 x3_1).f2))) = w29 at n0_ n1_ ⊢
        have BK186 := n0_
        have HB := n1_
        clear n0_ n1_
        have n0_ := Aside0.mk (blk_drew BK186.out)
        have n1_ := Aside0.mk (below_drew1 HB.out)
        clear BK186 HB
        have BK186 := n0_
        have HB := n1_
        clear n0_ n1_
        refine start_ (n := 31) (S := fun w' => w'.cell? ⟨gb186, 0, none⟩ = some (.int .i64 ((rd_T50 l0 x3_1).f0)) ∧ w'.cell? ⟨gb186, 1, none⟩ = some (.int .i64 ((rd_T50 l0 x3_1).f1)) ∧ w'.cell? ⟨gb186, 2, none⟩ = some (.int .i64 ((rd_T50 l0 x3_1).f2))) (ds := []) bYtoadgikbbigdlaaPaAx6_0 (by kernel_rfl) rfl rfl ⟨(blk_cell BK186.out 0).trans rfl, (blk_cell BK186.out 1).trans rfl, (blk_cell BK186.out 2).trans rfl⟩ (fun hHeld => ?_); refine with_tabW spec_l26Items.tab5 spec_l26Items.bits5 (fun HT_ HW_ => ?_)
        generalize w29.drew = w30 at BK186 HB hHeld ⊢
        refine pu_ 0 15 bYtoadgikbbigdlaaPaAx6_1 ?_
        refine t3_ 1 16 bYtoadgikbbigdlaaPaAx6_2 hHeld ?_
        refine one_ (i := 2) (N := some 17) bYtoadgikbbigdlaaPaAx6_3 rfl rfl (one_of HT_.out (by kernel_rfl)) (by decide) (fun K hK => ?_)
        refine goes_ Try.func62 (by kernel_rfl) rfl #[.int .i64 ((rd_T50 l0 x3_1).f0), .int .i64 1, .int .i64 9999] (by rfl) rfl rfl yy3 ?_
        with_reducible refine (spec_l1In.calls ((rd_T50 l0 x3_1).f0) 1 9999 true _ A4.out).mono ?_
        rintro e w' ⟨rfl, ⟨nd, rfl⟩⟩
        refine ⟨_, rfl, ?_⟩
        refine hK.out _ _ ⟨(blk_cell BK186.out 0).trans rfl, (blk_cell BK186.out 1).trans rfl, (blk_cell BK186.out 2).trans rfl⟩ (fun hHeld => ?_)
        clear hK K
        refine no_ 17 ?_
        refine pu_ 3 18 bYtoadgikbbigdlaaPaAx6_4 ?_
        refine pu_ 4 19 bYtoadgikbbigdlaaPaAx6_5 ?_
        refine pu_ 5 20 bYtoadgikbbigdlaaPaAx6_6 ?_
        refine t3_ 6 21 bYtoadgikbbigdlaaPaAx6_7 hHeld ?_
        refine one_ (i := 7) (N := some 22) bYtoadgikbbigdlaaPaAx6_8 rfl rfl (one_of HT_.out (by kernel_rfl)) (by decide) (fun K hK => ?_)
        refine goes_ Try.func62 (by kernel_rfl) rfl #[.int .i64 ((rd_T50 l0 x3_1).f1), .int .i64 1, .int .i64 4] (by rfl) rfl rfl yy3 ?_
        with_reducible refine (spec_l1In.calls ((rd_T50 l0 x3_1).f1) 1 4 true _ A6.out).mono ?_
        rintro e w' ⟨rfl, ⟨nd, rfl⟩⟩
        refine ⟨_, rfl, ?_⟩
        refine hK.out _ _ ⟨(blk_cell BK186.out 0).trans rfl, (blk_cell BK186.out 1).trans rfl, (blk_cell BK186.out 2).trans rfl⟩ (fun hHeld => ?_)
        clear hK K
        refine no_ 22 ?_
        refine pu_ 8 23 bYtoadgikbbigdlaaPaAx6_9 ?_
        refine pu_ 9 24 bYtoadgikbbigdlaaPaAx6_10 ?_
        refine pu_ 10 25 bYtoadgikbbigdlaaPaAx6_11 ?_
        refine pu_ 11 26 bYtoadgikbbigdlaaPaAx6_12 ?_
        refine t3_ 12 27 bYtoadgikbbigdlaaPaAx6_13 hHeld ?_
        refine one_ (i := 13) (N := some 28) bYtoadgikbbigdlaaPaAx6_14 rfl rfl (one_of HT_.out (by kernel_rfl)) (by decide) (fun K hK => ?_)
        refine goes_ Try.func62 (by kernel_rfl) rfl #[.int .i64 ((rd_T50 l0 x3_1).f2), .int .i64 1, .int .i64 1000] (by rfl) rfl rfl yy3 ?_
        with_reducible refine (spec_l1In.calls ((rd_T50 l0 x3_1).f2) 1 1000 false _ A8.out).mono ?_
        rintro e w' ⟨rfl, ⟨nd, rfl⟩⟩
        refine ⟨_, rfl, ?_⟩
        refine hK.out _ _ ⟨(blk_cell BK186.out 0).trans rfl, (blk_cell BK186.out 1).trans rfl, (blk_cell BK186.out 2).trans rfl⟩ (fun hHeld => ?_)
        clear hK K
        refine no_ 28 ?_
        refine pu_ 14 29 bYtoadgikbbigdlaaPaAx6_15 ?_
        refine pu_ 15 30 bYtoadgikbbigdlaaPaAx6_16 ?_
        refine pu_ 16 31 bYtoadgikbbigdlaaPaAx6_17 ?_
        refine pn_ 17 32 bYtoadgikbbigdlaaPaAx6_18 ?_
        refine pn_ 18 33 bYtoadgikbbigdlaaPaAx6_19 ?_
        refine pn_ 19 34 bYtoadgikbbigdlaaPaAx6_20 ?_
        refine pn_ 20 35 bYtoadgikbbigdlaaPaAx6_21 ?_
        refine pn_ 21 36 bYtoadgikbbigdlaaPaAx6_22 ?_
        refine pn_ 22 37 bYtoadgikbbigdlaaPaAx6_23 ?_
        refine pn_ 23 38 bYtoadgikbbigdlaaPaAx6_24 ?_
        refine pn_ 24 39 bYtoadgikbbigdlaaPaAx6_25 ?_
        refine pn_ 25 40 bYtoadgikbbigdlaaPaAx6_32 ?_
        refine pn_ 26 41 bYtoadgikbbigdlaaPaAx6_27 ?_
        refine pn_ 27 42 bYtoadgikbbigdlaaPaAx6_28 ?_
        refine pn_ 28 43 bYtoadgikbbigdlaaPaAx6_29 ?_
        refine pn_ 29 44 bYtoadgikbbigdlaaPaAx6_30 ?_
        refine pu_ 30 45 bYtoadgikbbigdlaaPaAx6_31 ?_
        refine done_ (done_of HT_.out (by kernel_rfl)) ?_
        try go_wp2
        go_ret
        exact ⟨by first | rfl | (simp [errW_none, errW_some] <;> rfl) | (simp [*, errW_none, errW_some] <;> rfl), by repeat (first | (with_reducible first | exact HB.out | apply below_alloc | apply pw_below_drewN | apply below_drew1 | refine below_set ?_ GE186.out) | exact HB.out)⟩
      ·replace c7 := Bool.eq_false_iff.mpr c7
       subst c7
       have H1 : (some false) = some r := by rw [if_neg (show ¬ (false = true) by decide)] at H; exact H
       clear H
       have H := H1
       clear H1
       obtain rfl := Option.some.inj H
       have p185 : 0 ≤ (x3_1 : Int) := of_decide_eq_true yy2
       have q185 : x3_1 < (l0.length : Int) := of_decide_eq_true yy2
       obtain ⟨ad185, e185, hx185_0, hx185_1, hx185_2⟩ := at_T50 HR0.out x3_1 p185 q185
       cases e185
       replace hx185_0 := (HB.out.cell (World.block_lt_of_cell? w _ hx185_0)).trans hx185_0
       replace hx185_1 := (HB.out.cell (World.block_lt_of_cell? w _ hx185_1)).trans hx185_1
       replace hx185_2 := (HB.out.cell (World.block_lt_of_cell? w _ hx185_2)).trans hx185_2
       replace p185 := eq_true p185
       replace q185 := eq_true q185
       try go_wp2_with (first | ((with_reducible refine gate_dst (N := 4) rfl ?_); refine box_event ?hg (N := 4) ?hd (cs := #[.int .i64 0, .int .i64 0, .int .i64 0]) (t := 50) ?hr ?_; (case hd => rfl); (case hg => rfl); (case hr => first | (go_simp; done) | (go_simp; rfl)); intro gb186 hg w31 hbox hb; have n0_ := Aside0.mk (below_step yy1 hb); have n1_ := Aside0.mk (hbox); have n2_ := Aside0.mk ((by rw [hg]; exact (below_size yy1) : w.heap.size ≤ gb186)); have n3_ := Aside0.mk ((by rw [hg]; exact (below_size yy1) : w.heap.size ≤ gb186)); clear HB; have HB := n0_; have BK186 := n1_; have GW186 := n2_; have GE186 := n3_; clear n0_ n1_ n2_ n3_; clear hb hbox hg; have hcz32_0 : w31.cell? ⟨gb186, 0, none⟩ = some (.int .i64 0) := (blk_cell BK186.out 0).trans rfl; have hcz32_1 : w31.cell? ⟨gb186, 1, none⟩ = some (.int .i64 0) := (blk_cell BK186.out 1).trans rfl; have hcz32_2 : w31.cell? ⟨gb186, 2, none⟩ = some (.int .i64 0) := (blk_cell BK186.out 2).trans rfl; have hfz32_0 := blk_frozen BK186.out 0; have hfz32_1 := blk_frozen BK186.out 1; have hfz32_2 := blk_frozen BK186.out 2))
       have n0_ : Aside0 ((((w31.setCell ⟨gb186, 0, none⟩ (.int .i64 ((rd_T50 l0 x3_1).f0))).setCell ⟨gb186, 1, none⟩ (.int .i64 ((rd_T50 l0 x3_1).f1))).setCell ⟨gb186, 2, none⟩ (.int .i64 ((rd_T50 l0 x3_1).f2))).heap[gb186]? = some (.cells #[.int .i64 ((rd_T50 l0 x3_1).f0), .int .i64 ((rd_T50 l0 x3_1).f1), .int .i64 ((rd_T50 l0 x3_1).f2)] 50 (0, 0))) := ⟨by (with_reducible repeat (first | refine blk_drewN ?_ _ | refine blk_drew ?_ | refine blk_alloc ?_ _)); refine blk_put (cs := #[.int .i64 ((rd_T50 l0 x3_1).f0), .int .i64 ((rd_T50 l0 x3_1).f1), .int .i64 0]) ?_ 2 _ rfl; (with_reducible repeat (first | refine blk_drewN ?_ _ | refine blk_drew ?_ | refine blk_alloc ?_ _)); refine blk_put (cs := #[.int .i64 ((rd_T50 l0 x3_1).f0), .int .i64 0, .int .i64 0]) ?_ 1 _ rfl; (with_reducible repeat (first | refine blk_drewN ?_ _ | refine blk_drew ?_ | refine blk_alloc ?_ _)); refine blk_put (cs := #[.int .i64 0, .int .i64 0, .int .i64 0]) ?_ 0 _ rfl; (with_reducible repeat (first | refine blk_drewN ?_ _ | refine blk_drew ?_ | refine blk_alloc ?_ _)); exact BK186.out⟩
       have n1_ : Aside0 (Below w.heap.size w (((w31.setCell ⟨gb186, 0, none⟩ (.int .i64 ((rd_T50 l0 x3_1).f0))).setCell ⟨gb186, 1, none⟩ (.int .i64 ((rd_T50 l0 x3_1).f1))).setCell ⟨gb186, 2, none⟩ (.int .i64 ((rd_T50 l0 x3_1).f2)))) := ⟨by repeat (first | (with_reducible first | exact HB.out | apply below_alloc | apply pw_below_drewN | apply below_drew1 | refine below_set ?_ GE186.out) | exact HB.out)⟩
       (try clear BK186)
       (try clear HB)
       generalize (((w31.setCell ⟨gb186, 0, none⟩ (.int .i64 ((rd_T50 l0 x3_1).f0))).setCell ⟨gb186, 1, none⟩ (.int .i64 ((rd_T50 l0 x3_1).f1))).setCell ⟨gb186, 2, none⟩ (.int .i64 ((rd_T50 l0 x3_1).f2))) = w33 at n0_ n1_ ⊢
       have BK186 := n0_
       have HB := n1_
       clear n0_ n1_
       have n0_ := Aside0.mk (blk_drew BK186.out)
       have n1_ := Aside0.mk (below_drew1 HB.out)
       clear BK186 HB
       have BK186 := n0_
       have HB := n1_
       clear n0_ n1_
       refine start_ (n := 31) (S := fun w' => w'.cell? ⟨gb186, 0, none⟩ = some (.int .i64 ((rd_T50 l0 x3_1).f0)) ∧ w'.cell? ⟨gb186, 1, none⟩ = some (.int .i64 ((rd_T50 l0 x3_1).f1)) ∧ w'.cell? ⟨gb186, 2, none⟩ = some (.int .i64 ((rd_T50 l0 x3_1).f2))) (ds := []) bYtoadgikbbigdlaaPaAx6_0 (by kernel_rfl) rfl rfl ⟨(blk_cell BK186.out 0).trans rfl, (blk_cell BK186.out 1).trans rfl, (blk_cell BK186.out 2).trans rfl⟩ (fun hHeld => ?_); refine with_tabW spec_l26Items.tab5 spec_l26Items.bits5 (fun HT_ HW_ => ?_)
       generalize w33.drew = w34 at BK186 HB hHeld ⊢
       refine pu_ 0 15 bYtoadgikbbigdlaaPaAx6_1 ?_
       refine t3_ 1 16 bYtoadgikbbigdlaaPaAx6_2 hHeld ?_
       refine one_ (i := 2) (N := some 17) bYtoadgikbbigdlaaPaAx6_3 rfl rfl (one_of HT_.out (by kernel_rfl)) (by decide) (fun K hK => ?_)
       refine goes_ Try.func62 (by kernel_rfl) rfl #[.int .i64 ((rd_T50 l0 x3_1).f0), .int .i64 1, .int .i64 9999] (by rfl) rfl rfl yy3 ?_
       with_reducible refine (spec_l1In.calls ((rd_T50 l0 x3_1).f0) 1 9999 true _ A4.out).mono ?_
       rintro e w' ⟨rfl, ⟨nd, rfl⟩⟩
       refine ⟨_, rfl, ?_⟩
       refine hK.out _ _ ⟨(blk_cell BK186.out 0).trans rfl, (blk_cell BK186.out 1).trans rfl, (blk_cell BK186.out 2).trans rfl⟩ (fun hHeld => ?_)
       clear hK K
       refine no_ 17 ?_
       refine pu_ 3 18 bYtoadgikbbigdlaaPaAx6_4 ?_
       refine pu_ 4 19 bYtoadgikbbigdlaaPaAx6_5 ?_
       refine pu_ 5 20 bYtoadgikbbigdlaaPaAx6_6 ?_
       refine t3_ 6 21 bYtoadgikbbigdlaaPaAx6_7 hHeld ?_
       refine one_ (i := 7) (N := some 22) bYtoadgikbbigdlaaPaAx6_8 rfl rfl (one_of HT_.out (by kernel_rfl)) (by decide) (fun K hK => ?_)
       refine goes_ Try.func62 (by kernel_rfl) rfl #[.int .i64 ((rd_T50 l0 x3_1).f1), .int .i64 1, .int .i64 4] (by rfl) rfl rfl yy3 ?_
       with_reducible refine (spec_l1In.calls ((rd_T50 l0 x3_1).f1) 1 4 false _ A6.out).mono ?_
       rintro e w' ⟨rfl, ⟨nd, rfl⟩⟩
       refine ⟨_, rfl, ?_⟩
       refine hK.out _ _ ⟨(blk_cell BK186.out 0).trans rfl, (blk_cell BK186.out 1).trans rfl, (blk_cell BK186.out 2).trans rfl⟩ (fun hHeld => ?_)
       clear hK K
       refine no_ 22 ?_
       refine pu_ 8 23 bYtoadgikbbigdlaaPaAx6_9 ?_
       refine pu_ 9 24 bYtoadgikbbigdlaaPaAx6_10 ?_
       refine pu_ 10 25 bYtoadgikbbigdlaaPaAx6_11 ?_
       refine pn_ 11 26 bYtoadgikbbigdlaaPaAx6_12 ?_
       refine pn_ 12 27 bYtoadgikbbigdlaaPaAx6_13 ?_
       refine pn_ 13 28 bYtoadgikbbigdlaaPaAx6_14 ?_
       refine pn_ 14 29 bYtoadgikbbigdlaaPaAx6_15 ?_
       refine pu_ 15 30 bYtoadgikbbigdlaaPaAx6_16 ?_
       refine pu_ 16 31 bYtoadgikbbigdlaaPaAx6_17 ?_
       refine pn_ 17 32 bYtoadgikbbigdlaaPaAx6_18 ?_
       refine pn_ 18 33 bYtoadgikbbigdlaaPaAx6_19 ?_
       refine pn_ 19 34 bYtoadgikbbigdlaaPaAx6_20 ?_
       refine pn_ 20 35 bYtoadgikbbigdlaaPaAx6_21 ?_
       refine pn_ 21 36 bYtoadgikbbigdlaaPaAx6_22 ?_
       refine pn_ 22 37 bYtoadgikbbigdlaaPaAx6_23 ?_
       refine pn_ 23 38 bYtoadgikbbigdlaaPaAx6_24 ?_
       refine pn_ 24 39 bYtoadgikbbigdlaaPaAx6_25 ?_
       refine pn_ 25 40 bYtoadgikbbigdlaaPaAx6_32 ?_
       refine pn_ 26 41 bYtoadgikbbigdlaaPaAx6_27 ?_
       refine pn_ 27 42 bYtoadgikbbigdlaaPaAx6_28 ?_
       refine pn_ 28 43 bYtoadgikbbigdlaaPaAx6_29 ?_
       refine pn_ 29 44 bYtoadgikbbigdlaaPaAx6_30 ?_
       refine pu_ 30 45 bYtoadgikbbigdlaaPaAx6_31 ?_
       refine done_ (done_of HT_.out (by kernel_rfl)) ?_
       try go_wp2
       go_ret
       exact ⟨by first | rfl | (simp [errW_none, errW_some] <;> rfl) | (simp [*, errW_none, errW_some] <;> rfl), by repeat (first | (with_reducible first | exact HB.out | apply below_alloc | apply pw_below_drewN | apply below_drew1 | refine below_set ?_ GE186.out) | exact HB.out)⟩
     ·replace c5 := Bool.eq_false_iff.mpr c5
      subst c5
      have H1 : (some false) = some r := by rw [if_neg (show ¬ (false = true) by decide)] at H; exact H
      clear H
      have H := H1
      clear H1
      obtain rfl := Option.some.inj H
      have p185 : 0 ≤ (x3_1 : Int) := of_decide_eq_true yy2
      have q185 : x3_1 < (l0.length : Int) := of_decide_eq_true yy2
      obtain ⟨ad185, e185, hx185_0, hx185_1, hx185_2⟩ := at_T50 HR0.out x3_1 p185 q185
      cases e185
      replace hx185_0 := (HB.out.cell (World.block_lt_of_cell? w _ hx185_0)).trans hx185_0
      replace hx185_1 := (HB.out.cell (World.block_lt_of_cell? w _ hx185_1)).trans hx185_1
      replace hx185_2 := (HB.out.cell (World.block_lt_of_cell? w _ hx185_2)).trans hx185_2
      replace p185 := eq_true p185
      replace q185 := eq_true q185
      try go_wp2_with (first | ((with_reducible refine gate_dst (N := 4) rfl ?_); refine box_event ?hg (N := 4) ?hd (cs := #[.int .i64 0, .int .i64 0, .int .i64 0]) (t := 50) ?hr ?_; (case hd => rfl); (case hg => rfl); (case hr => first | (go_simp; done) | (go_simp; rfl)); intro gb186 hg w35 hbox hb; have n0_ := Aside0.mk (below_step yy1 hb); have n1_ := Aside0.mk (hbox); have n2_ := Aside0.mk ((by rw [hg]; exact (below_size yy1) : w.heap.size ≤ gb186)); have n3_ := Aside0.mk ((by rw [hg]; exact (below_size yy1) : w.heap.size ≤ gb186)); clear HB; have HB := n0_; have BK186 := n1_; have GW186 := n2_; have GE186 := n3_; clear n0_ n1_ n2_ n3_; clear hb hbox hg; have hcz36_0 : w35.cell? ⟨gb186, 0, none⟩ = some (.int .i64 0) := (blk_cell BK186.out 0).trans rfl; have hcz36_1 : w35.cell? ⟨gb186, 1, none⟩ = some (.int .i64 0) := (blk_cell BK186.out 1).trans rfl; have hcz36_2 : w35.cell? ⟨gb186, 2, none⟩ = some (.int .i64 0) := (blk_cell BK186.out 2).trans rfl; have hfz36_0 := blk_frozen BK186.out 0; have hfz36_1 := blk_frozen BK186.out 1; have hfz36_2 := blk_frozen BK186.out 2))
      have n0_ : Aside0 ((((w35.setCell ⟨gb186, 0, none⟩ (.int .i64 ((rd_T50 l0 x3_1).f0))).setCell ⟨gb186, 1, none⟩ (.int .i64 ((rd_T50 l0 x3_1).f1))).setCell ⟨gb186, 2, none⟩ (.int .i64 ((rd_T50 l0 x3_1).f2))).heap[gb186]? = some (.cells #[.int .i64 ((rd_T50 l0 x3_1).f0), .int .i64 ((rd_T50 l0 x3_1).f1), .int .i64 ((rd_T50 l0 x3_1).f2)] 50 (0, 0))) := ⟨by (with_reducible repeat (first | refine blk_drewN ?_ _ | refine blk_drew ?_ | refine blk_alloc ?_ _)); refine blk_put (cs := #[.int .i64 ((rd_T50 l0 x3_1).f0), .int .i64 ((rd_T50 l0 x3_1).f1), .int .i64 0]) ?_ 2 _ rfl; (with_reducible repeat (first | refine blk_drewN ?_ _ | refine blk_drew ?_ | refine blk_alloc ?_ _)); refine blk_put (cs := #[.int .i64 ((rd_T50 l0 x3_1).f0), .int .i64 0, .int .i64 0]) ?_ 1 _ rfl; (with_reducible repeat (first | refine blk_drewN ?_ _ | refine blk_drew ?_ | refine blk_alloc ?_ _)); refine blk_put (cs := #[.int .i64 0, .int .i64 0, .int .i64 0]) ?_ 0 _ rfl; (with_reducible repeat (first | refine blk_drewN ?_ _ | refine blk_drew ?_ | refine blk_alloc ?_ _)); exact BK186.out⟩
      have n1_ : Aside0 (Below w.heap.size w (((w35.setCell ⟨gb186, 0, none⟩ (.int .i64 ((rd_T50 l0 x3_1).f0))).setCell ⟨gb186, 1, none⟩ (.int .i64 ((rd_T50 l0 x3_1).f1))).setCell ⟨gb186, 2, none⟩ (.int .i64 ((rd_T50 l0 x3_1).f2)))) := ⟨by repeat (first | (with_reducible first | exact HB.out | apply below_alloc | apply pw_below_drewN | apply below_drew1 | refine below_set ?_ GE186.out) | exact HB.out)⟩
      (try clear BK186)
      (try clear HB)
      generalize (((w35.setCell ⟨gb186, 0, none⟩ (.int .i64 ((rd_T50 l0 x3_1).f0))).setCell ⟨gb186, 1, none⟩ (.int .i64 ((rd_T50 l0 x3_1).f1))).setCell ⟨gb186, 2, none⟩ (.int .i64 ((rd_T50 l0 x3_1).f2))) = w37 at n0_ n1_ ⊢
      have BK186 := n0_
      have HB := n1_
      clear n0_ n1_
      have n0_ := Aside0.mk (blk_drew BK186.out)
      have n1_ := Aside0.mk (below_drew1 HB.out)
      clear BK186 HB
      have BK186 := n0_
      have HB := n1_
      clear n0_ n1_
      refine start_ (n := 31) (S := fun w' => w'.cell? ⟨gb186, 0, none⟩ = some (.int .i64 ((rd_T50 l0 x3_1).f0)) ∧ w'.cell? ⟨gb186, 1, none⟩ = some (.int .i64 ((rd_T50 l0 x3_1).f1)) ∧ w'.cell? ⟨gb186, 2, none⟩ = some (.int .i64 ((rd_T50 l0 x3_1).f2))) (ds := []) bYtoadgikbbigdlaaPaAx6_0 (by kernel_rfl) rfl rfl ⟨(blk_cell BK186.out 0).trans rfl, (blk_cell BK186.out 1).trans rfl, (blk_cell BK186.out 2).trans rfl⟩ (fun hHeld => ?_); refine with_tabW spec_l26Items.tab5 spec_l26Items.bits5 (fun HT_ HW_ => ?_)
      generalize w37.drew = w38 at BK186 HB hHeld ⊢
      refine pu_ 0 15 bYtoadgikbbigdlaaPaAx6_1 ?_
      refine t3_ 1 16 bYtoadgikbbigdlaaPaAx6_2 hHeld ?_
      refine one_ (i := 2) (N := some 17) bYtoadgikbbigdlaaPaAx6_3 rfl rfl (one_of HT_.out (by kernel_rfl)) (by decide) (fun K hK => ?_)
      refine goes_ Try.func62 (by kernel_rfl) rfl #[.int .i64 ((rd_T50 l0 x3_1).f0), .int .i64 1, .int .i64 9999] (by rfl) rfl rfl yy3 ?_
      with_reducible refine (spec_l1In.calls ((rd_T50 l0 x3_1).f0) 1 9999 false _ A4.out).mono ?_
      rintro e w' ⟨rfl, ⟨nd, rfl⟩⟩
      refine ⟨_, rfl, ?_⟩
      refine hK.out _ _ ⟨(blk_cell BK186.out 0).trans rfl, (blk_cell BK186.out 1).trans rfl, (blk_cell BK186.out 2).trans rfl⟩ (fun hHeld => ?_)
      clear hK K
      refine no_ 17 ?_
      refine pu_ 3 18 bYtoadgikbbigdlaaPaAx6_4 ?_
      refine pu_ 4 19 bYtoadgikbbigdlaaPaAx6_5 ?_
      refine pn_ 5 20 bYtoadgikbbigdlaaPaAx6_6 ?_
      refine pn_ 6 21 bYtoadgikbbigdlaaPaAx6_7 ?_
      refine pn_ 7 22 bYtoadgikbbigdlaaPaAx6_8 ?_
      refine pn_ 8 23 bYtoadgikbbigdlaaPaAx6_9 ?_
      refine pu_ 9 24 bYtoadgikbbigdlaaPaAx6_10 ?_
      refine pu_ 10 25 bYtoadgikbbigdlaaPaAx6_11 ?_
      refine pn_ 11 26 bYtoadgikbbigdlaaPaAx6_12 ?_
      refine pn_ 12 27 bYtoadgikbbigdlaaPaAx6_13 ?_
      refine pn_ 13 28 bYtoadgikbbigdlaaPaAx6_14 ?_
      refine pn_ 14 29 bYtoadgikbbigdlaaPaAx6_15 ?_
      refine pu_ 15 30 bYtoadgikbbigdlaaPaAx6_16 ?_
      refine pu_ 16 31 bYtoadgikbbigdlaaPaAx6_17 ?_
      refine pn_ 17 32 bYtoadgikbbigdlaaPaAx6_18 ?_
      refine pn_ 18 33 bYtoadgikbbigdlaaPaAx6_19 ?_
      refine pn_ 19 34 bYtoadgikbbigdlaaPaAx6_20 ?_
      refine pn_ 20 35 bYtoadgikbbigdlaaPaAx6_21 ?_
      refine pn_ 21 36 bYtoadgikbbigdlaaPaAx6_22 ?_
      refine pn_ 22 37 bYtoadgikbbigdlaaPaAx6_23 ?_
      refine pn_ 23 38 bYtoadgikbbigdlaaPaAx6_24 ?_
      refine pn_ 24 39 bYtoadgikbbigdlaaPaAx6_25 ?_
      refine pn_ 25 40 bYtoadgikbbigdlaaPaAx6_32 ?_
      refine pn_ 26 41 bYtoadgikbbigdlaaPaAx6_27 ?_
      refine pn_ 27 42 bYtoadgikbbigdlaaPaAx6_28 ?_
      refine pn_ 28 43 bYtoadgikbbigdlaaPaAx6_29 ?_
      refine pn_ 29 44 bYtoadgikbbigdlaaPaAx6_30 ?_
      refine pu_ 30 45 bYtoadgikbbigdlaaPaAx6_31 ?_
      refine done_ (done_of HT_.out (by kernel_rfl)) ?_
      try go_wp2
      go_ret
      exact ⟨by first | rfl | (simp [errW_none, errW_some] <;> rfl) | (simp [*, errW_none, errW_some] <;> rfl), by repeat (first | (with_reducible first | exact HB.out | apply below_alloc | apply pw_below_drewN | apply below_drew1 | refine below_set ?_ GE186.out) | exact HB.out)⟩
    ·rw [if_neg c3] at H
     exact absurd H (by simp)
   ·rw [if_neg c2] at H
    have c2b0 : decide (x3_1 < (l0.length : Int)) = false := decide_eq_false c2
    clear c2
    obtain rfl := Option.some.inj H
    go_wp2
    go_ret
    exact ⟨by first | rfl | (simp [errW_none, errW_some] <;> rfl) | (simp [*, errW_none, errW_some] <;> rfl), by repeat (first | (with_reducible first | exact HB.out | apply below_alloc | apply pw_below_drewN | apply below_drew1) | exact HB.out)⟩
end Go.Proofs.Ytoadgikbbigdlaa.A
