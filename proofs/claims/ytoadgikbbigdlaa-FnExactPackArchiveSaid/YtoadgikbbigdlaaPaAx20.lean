import Derived.Test.YtoadgikbbigdlaaPaWAb
import Derived.Test.YtoadgikbbigdlaaPaAx0
namespace Go.Proofs.Ytoadgikbbigdlaa.A
open Go.RowKit Go.Proofs.YtoadgikbbigdlaaW.PrintWords Go.Proofs.YtoadgikbbigdlaaW.PrintLast Go.Proofs.YtoadgikbbigdlaaW.PrintMore
attribute [local go_sem] max2_int min2_int max_two min_two max_three min_three max_four min_four   -- for this text's walks alone
set_option linter.unusedVariables false
set_option linter.unusedSimpArgs false
def impl_mayShare.f (a0 : Int) (a1 : Int) : Option (Bool) := if ((a0 == 2) != (a1 == 2)) = true then (some false) else (if a0 = 3 then (if a1 = 4 then (some (!true)) else (if a0 = 4 then (some (!(a1 == 3))) else (some (!false)))) else (if a0 = 4 then (some (!(a1 == 3))) else (some (!false))))
set_option maxHeartbeats 8000000 in
set_option maxRecDepth 100000 in
theorem impl_mayShare.calls (a0 : Int) (a1 : Int) (r : Bool) (w : World) (h : impl_mayShare.f a0 a1 = some r) :
  Calls Try.prog 61 #[.int .i64 a0, .int .i64 a1] w fun e w' => e = .returned (.bool r) ∧ Drawn0 w w' := by
 have H : (if ((a0 == 2) != (a1 == 2)) = true then (some false) else (if a0 = 3 then (if a1 = 4 then (some (!true)) else (if a0 = 4 then (some (!(a1 == 3))) else (some (!false)))) else (if a0 = 4 then (some (!(a1 == 3))) else (some (!false))))) = some r := h
 clear h
 by_cases c3 : ((a0 == 2) != (a1 == 2)) = true
 ·rw [if_pos c3] at H
  have c3b0 : ((a0 == 2) != (a1 == 2)) = true := c3
  (try (have c3b1 : decide ((a0 == 2) = (a1 == 2)) = false := by simpa using c3))
  (try (have c3b2 : ((a0 == 2) == (a1 == 2)) = false := by simpa using c3))
  (try (have c3b3 : ¬ ((a0 == 2) = (a1 == 2)) := by simpa using c3))
  clear c3
  obtain rfl := Option.some.inj H
  go_enter Try.func61, Try.ntmps61
  go_wp2
  go_ret
  exact ⟨by first | rfl | (simp; done) | (simp [*]; done), by repeat (first | exact Drawn0.refl _ | apply Drawn0.step)⟩
 ·rw [if_neg c3] at H
  have c3b0 : ((a0 == 2) != (a1 == 2)) = false := by simpa using c3
  (try (have c3b1 : decide ((a0 == 2) = (a1 == 2)) = true := by simpa using c3))
  (try (have c3b2 : ((a0 == 2) == (a1 == 2)) = true := by simpa using c3))
  clear c3
  by_cases c4 : a0 = 3
  ·rw [if_pos c4] at H
   have c4b0 : (a0 == 3) = true := beq_iff_eq.mpr c4
   have c4b1 : (a0 != 3) = false := bne_eq_false_iff_eq.mpr c4
   clear c4
   by_cases c5 : a1 = 4
   ·rw [if_pos c5] at H
    have c5b0 : (a1 == 4) = true := beq_iff_eq.mpr c5
    have c5b1 : (a1 != 4) = false := bne_eq_false_iff_eq.mpr c5
    clear c5
    obtain rfl := Option.some.inj H
    go_enter Try.func61, Try.ntmps61
    go_wp2
    go_ret
    exact ⟨by first | rfl | (simp; done) | (simp [*]; done), by repeat (first | exact Drawn0.refl _ | apply Drawn0.step)⟩
   ·rw [if_neg c5] at H
    have c5b0 : (a1 == 4) = false := beq_eq_false_iff_ne.mpr c5
    have c5b1 : (a1 != 4) = true := bne_iff_ne.mpr c5
    by_cases c6 : a0 = 4
    ·rw [if_pos c6] at H
     have c6b0 : (a0 == 4) = true := beq_iff_eq.mpr c6
     have c6b1 : (a0 != 4) = false := bne_eq_false_iff_eq.mpr c6
     clear c6
     obtain rfl := Option.some.inj H
     go_enter Try.func61, Try.ntmps61
     go_wp2
     go_ret
     exact ⟨by first | rfl | (simp; done) | (simp [*]; done), by repeat (first | exact Drawn0.refl _ | apply Drawn0.step)⟩
    ·rw [if_neg c6] at H
     have c6b0 : (a0 == 4) = false := beq_eq_false_iff_ne.mpr c6
     have c6b1 : (a0 != 4) = true := bne_iff_ne.mpr c6
     obtain rfl := Option.some.inj H
     go_enter Try.func61, Try.ntmps61
     go_wp2
     go_ret
     exact ⟨by first | rfl | (simp; done) | (simp [*]; done), by repeat (first | exact Drawn0.refl _ | apply Drawn0.step)⟩
  ·rw [if_neg c4] at H
   have c4b0 : (a0 == 3) = false := beq_eq_false_iff_ne.mpr c4
   have c4b1 : (a0 != 3) = true := bne_iff_ne.mpr c4
   by_cases c7 : a0 = 4
   ·rw [if_pos c7] at H
    have c7b0 : (a0 == 4) = true := beq_iff_eq.mpr c7
    have c7b1 : (a0 != 4) = false := bne_eq_false_iff_eq.mpr c7
    clear c7
    obtain rfl := Option.some.inj H
    go_enter Try.func61, Try.ntmps61
    go_wp2
    go_ret
    exact ⟨by first | rfl | (simp; done) | (simp [*]; done), by repeat (first | exact Drawn0.refl _ | apply Drawn0.step)⟩
   ·rw [if_neg c7] at H
    have c7b0 : (a0 == 4) = false := beq_eq_false_iff_ne.mpr c7
    have c7b1 : (a0 != 4) = true := bne_iff_ne.mpr c7
    obtain rfl := Option.some.inj H
    go_enter Try.func61, Try.ntmps61
    go_wp2
    go_ret
    exact ⟨by first | rfl | (simp; done) | (simp [*]; done), by repeat (first | exact Drawn0.refl _ | apply Drawn0.step)⟩
def impl_fits.l0 : Nat → List (S50) → Int → Int → Int → List Int → Int → Int → Option (Bool)
 | 0, _, _, _, _, _, _, _ => none
 | k + 1, x0, x2, x3, x9, x17, x18, x19 => if x19 < x18 then (if 0 ≤ x19 then (if x19 < (x17.length : Int) then (if 0 ≤ (rd x17 x19) then (if (rd x17 x19) < (x0.length : Int) then (if 0 ≤ x2 then (if x2 < (x0.length : Int) then ((impl_mayShare.f ((rd_T50 x0 (rd x17 x19)).f1) ((rd_T50 x0 x2).f1)).bind fun t323 => (if t323 = true then (impl_fits.l0 k x0 x2 x3 (wrap64 (x9 + ((rd_T50 x0 (rd x17 x19)).f2))) x17 x18 (wrap64 (x19 + 1))) else (some false))) else (none)) else (none)) else (none)) else (none)) else (none)) else (none)) else (some (decide (x9 ≤ x3)))
def impl_fits.f (k : Nat) (l0 : List (S50)) (l1 : List Int) (a2 : Int) (a3 : Int) : Option (Bool) := if 0 ≤ a2 then (if a2 < (l0.length : Int) then (impl_fits.l0 k l0 a2 a3 ((rd_T50 l0 a2).f2) l1 (l1.length : Int) 0) else (none)) else (none)
theorem impl_fits.mono_l : ∀ k, (∀ y0 y1 y2 y3 y4 y5 y6, LeO (impl_fits.l0 k y0 y1 y2 y3 y4 y5 y6) (impl_fits.l0 (k + 1) y0 y1 y2 y3 y4 y5 y6))
 | 0 => fun _ _ _ _ _ _ _ r h => by simp [impl_fits.l0] at h
 | k + 1 => by
  have ih0 := impl_fits.mono_l k
  ·intro y0 y1 y2 y3 y4 y5 y6
   unfold impl_fits.l0
   repeat' first
   | (with_reducible exact ih0 _ _ _ _ _ _ _)
   | (with_reducible exact LeO.refl _)
   | (with_reducible exact LeO.none _)
   | (with_reducible refine LeO.ite ?_ ?_)
   | (with_reducible refine LeO.bind ?_ (fun _ => ?_))
   | exact ih0 _ _ _ _ _ _ _
   | exact LeO.none _
   | refine LeO.ite ?_ ?_
   | refine LeO.bind ?_ (fun _ => ?_)
theorem impl_fits.mono : ∀ a0 a1 a2 a3 k, LeO (impl_fits.f k a0 a1 a2 a3) (impl_fits.f (k + 1) a0 a1 a2 a3) := by
 intro a0 a1 a2 a3 k
 have ih0 := impl_fits.mono_l k
 unfold impl_fits.f
 repeat' first
   | (with_reducible exact ih0 _ _ _ _ _ _ _)
   | (with_reducible exact LeO.refl _)
   | (with_reducible exact LeO.none _)
   | (with_reducible refine LeO.ite ?_ ?_)
   | (with_reducible refine LeO.bind ?_ (fun _ => ?_))
   | exact ih0 _ _ _ _ _ _ _
   | exact LeO.none _
   | refine LeO.ite ?_ ?_
   | refine LeO.bind ?_ (fun _ => ?_)
set_option maxHeartbeats 8000000 in
set_option maxRecDepth 100000 in
theorem impl_fits.calls (k : Nat) (A0 : Option Addr) (c0 : Nat) (l0 : List (S50)) (A1 : Option Addr) (c1 : Nat) (l1 : List Int) (a2 : Int) (a3 : Int) (r : Bool) (w : World) (hr0 : Kd.C k50 w A0 l0.length l0) (hc0 : l0.length ≤ c0) (hr1 : Kd.C (Kd.int .i64) w A1 l1.length l1) (hc1 : l1.length ≤ c1) (h : impl_fits.f k l0 l1 a2 a3 = some r) :
  Calls Try.prog 59 #[.slice A0 l0.length c0, .slice A1 l1.length c1, .int .i64 a2, .int .i64 a3] w fun e w' => e = .returned (.bool r) ∧ Drawn0 w w' := by
 have HR0 := Aside0.mk hr0
 have HC0 := Aside0.mk hc0
 clear hr0 hc0
 have HR1 := Aside0.mk hr1
 have HC1 := Aside0.mk hc1
 clear hr1 hc1
 have H : (if 0 ≤ a2 then (if a2 < (l0.length : Int) then (impl_fits.l0 k l0 a2 a3 ((rd_T50 l0 a2).f2) l1 (l1.length : Int) 0) else (none)) else (none)) = some r := h
 clear h
 by_cases c5 : 0 ≤ a2
 ·rw [if_pos c5] at H
  have c5b0 : decide (0 ≤ a2) = true := decide_eq_true c5
  clear c5
  by_cases c6 : a2 < (l0.length : Int)
  ·rw [if_pos c6] at H
   have c6b0 : decide (a2 < (l0.length : Int)) = true := decide_eq_true c6
   clear c6
   have H' := Aside0.mk H
   clear H
   have p319 : 0 ≤ (a2 : Int) := of_decide_eq_true yy2
   have q319 : a2 < (l0.length : Int) := of_decide_eq_true yy2
   obtain ⟨ad319, e319, hx319_0, hx319_1, hx319_2⟩ := at_T50 HR0.out a2 p319 q319
   cases e319
   replace p319 := eq_true p319
   replace q319 := eq_true q319
   go_enter Try.func59, Try.ntmps59
   go_wp2
   repeat (go_quiet (fail); try go_wp2)
   go_loopg [9, 19] k (fun kq v9 v19 w' => ∃ (x9_1 : Int) (x19_1 : Int), v9 = .int .i64 x9_1 ∧ v19 = .int .i64 x19_1 ∧ Aside0 (impl_fits.l0 kq l0 a2 a3 x9_1 l1 (l1.length : Int) x19_1 = some r) ∧ Aside0 (kq ≤ k) ∧ Drawn0 w w')
   case atStart => exact ⟨((rd_T50 l0 a2).f2), (0), yy11, yy11, H', ⟨Nat.le_refl _⟩, by repeat (first | exact Drawn0.refl _ | apply Drawn0.step)⟩
   case round =>
    clear H'
    try clear c1
    try clear p2
    try clear p3
    try clear q3
    try clear hx3
    try clear c5
    try clear c5b0
    try clear c6
    try clear c6b0
    try clear hx319_0
    try clear hx319_1
    try clear hx319_2
    try clear p319
    try clear q319
    obtain ⟨x9_1, x19_1, rfl, rfl, HA, HK1, ⟨m1, rfl⟩⟩ := hrel
    cases gk with
    | zero => exact absurd HA.out (by simp [impl_fits.l0])
    | succ k1 =>
     have H := HA.out
     clear HA
     simp only [impl_fits.l0] at H
     by_cases c7 : x19_1 < (l1.length : Int)
     ·rw [if_pos c7] at H
      have c7b0 : decide (x19_1 < (l1.length : Int)) = true := decide_eq_true c7
      clear c7
      by_cases c8 : 0 ≤ x19_1
      ·rw [if_pos c8] at H
       have c8b0 : decide (0 ≤ x19_1) = true := decide_eq_true c8
       clear c8
       by_cases c9 : x19_1 < (l1.length : Int)
       ·rw [if_pos c9] at H
        have c9b0 : decide (x19_1 < (l1.length : Int)) = true := decide_eq_true c9
        clear c9
        by_cases c10 : 0 ≤ (rd l1 x19_1)
        ·rw [if_pos c10] at H
         have c10b0 : decide (0 ≤ (rd l1 x19_1)) = true := decide_eq_true c10
         clear c10
         by_cases c11 : (rd l1 x19_1) < (l0.length : Int)
         ·rw [if_pos c11] at H
          have c11b0 : decide ((rd l1 x19_1) < (l0.length : Int)) = true := decide_eq_true c11
          clear c11
          by_cases c12 : 0 ≤ a2
          ·rw [if_pos c12] at H
           have c12b0 : decide (0 ≤ a2) = true := decide_eq_true c12
           clear c12
           by_cases c13 : a2 < (l0.length : Int)
           ·rw [if_pos c13] at H
            have c13b0 : decide (a2 < (l0.length : Int)) = true := decide_eq_true c13
            clear c13
            replace H := Option.bind_eq_some_iff.mp H
            obtain ⟨t323, A140, H⟩ := H
            replace H : (if t323 = true then (impl_fits.l0 k1 l0 a2 a3 (wrap64 (x9_1 + ((rd_T50 l0 (rd l1 x19_1)).f2))) l1 (l1.length : Int) (wrap64 (x19_1 + 1))) else (some false)) = some r := H
            have A14 := Aside0.mk A140
            clear A140
            by_cases c15 : t323 = true
            ·subst c15
             have H1 : (impl_fits.l0 k1 l0 a2 a3 (wrap64 (x9_1 + ((rd_T50 l0 (rd l1 x19_1)).f2))) l1 (l1.length : Int) (wrap64 (x19_1 + 1))) = some r := by rw [if_pos rfl] at H; exact H
             clear H
             have H := H1
             clear H1
             have H' := Aside0.mk H
             clear H
             have p320 : 0 ≤ (x19_1 : Int) := of_decide_eq_true yy2
             have q320 : x19_1 < (l1.length : Int) := of_decide_eq_true yy2
             obtain ⟨ad320, e320, hx320_0⟩ := Kd.at_int HR1.out x19_1 p320 q320
             cases e320
             replace p320 := eq_true p320
             replace q320 := eq_true q320
             have p321 : 0 ≤ ((rd l1 x19_1) : Int) := of_decide_eq_true yy2
             have q321 : (rd l1 x19_1) < (l0.length : Int) := of_decide_eq_true yy2
             obtain ⟨ad321, e321, hx321_0, hx321_1, hx321_2⟩ := at_T50 HR0.out (rd l1 x19_1) p321 q321
             obtain rfl : ad319 = ad321 := (by injection e321)
             replace p321 := eq_true p321
             replace q321 := eq_true q321
             have p322 : 0 ≤ (a2 : Int) := of_decide_eq_true yy2
             have q322 : a2 < (l0.length : Int) := of_decide_eq_true yy2
             obtain ⟨ad322, e322, hx322_0, hx322_1, hx322_2⟩ := at_T50 HR0.out a2 p322 q322
             obtain rfl : ad319 = ad322 := (by injection e322)
             replace p322 := eq_true p322
             replace q322 := eq_true q322
             go_wp2_with (first | (go_at_call 61; (with_reducible refine (impl_mayShare.calls ((rd_T50 l0 (rd l1 x19_1)).f1) ((rd_T50 l0 a2).f1) true _ A14.out).mono ?_); rintro e w' ⟨rfl, ⟨nd, rfl⟩⟩; (try first | exact ⟨rfl, _, World.drewN_drewN _ _ _⟩ | exact ⟨rfl, _, Eq.trans (World.drewN_drewN _ _ _) (congrArg (World.drewN _) (Nat.add_assoc _ _ _))⟩); have p324 : 0 ≤ ((rd l1 x19_1) : Int) := of_decide_eq_true yy2; have q324 : (rd l1 x19_1) < (l0.length : Int) := of_decide_eq_true yy2; obtain ⟨ad324, e324, hx324_0, hx324_1, hx324_2⟩ := at_T50 HR0.out (rd l1 x19_1) p324 q324; obtain rfl : ad319 = ad324 := (by injection e324); replace p324 := eq_true p324; replace q324 := eq_true q324))
             repeat (go_quiet (first | (go_at_call 61; (with_reducible refine (impl_mayShare.calls ((rd_T50 l0 (rd l1 x19_1)).f1) ((rd_T50 l0 a2).f1) true _ A14.out).mono ?_); rintro e w' ⟨rfl, ⟨nd, rfl⟩⟩; (try first | exact ⟨rfl, _, World.drewN_drewN _ _ _⟩ | exact ⟨rfl, _, Eq.trans (World.drewN_drewN _ _ _) (congrArg (World.drewN _) (Nat.add_assoc _ _ _))⟩); have p324 : 0 ≤ ((rd l1 x19_1) : Int) := of_decide_eq_true yy2; have q324 : (rd l1 x19_1) < (l0.length : Int) := of_decide_eq_true yy2; obtain ⟨ad324, e324, hx324_0, hx324_1, hx324_2⟩ := at_T50 HR0.out (rd l1 x19_1) p324 q324; obtain rfl : ad319 = ad324 := (by injection e324); replace p324 := eq_true p324; replace q324 := eq_true q324)); try go_wp2_with (first | (go_at_call 61; (with_reducible refine (impl_mayShare.calls ((rd_T50 l0 (rd l1 x19_1)).f1) ((rd_T50 l0 a2).f1) true _ A14.out).mono ?_); rintro e w' ⟨rfl, ⟨nd, rfl⟩⟩; (try first | exact ⟨rfl, _, World.drewN_drewN _ _ _⟩ | exact ⟨rfl, _, Eq.trans (World.drewN_drewN _ _ _) (congrArg (World.drewN _) (Nat.add_assoc _ _ _))⟩); have p324 : 0 ≤ ((rd l1 x19_1) : Int) := of_decide_eq_true yy2; have q324 : (rd l1 x19_1) < (l0.length : Int) := of_decide_eq_true yy2; obtain ⟨ad324, e324, hx324_0, hx324_1, hx324_2⟩ := at_T50 HR0.out (rd l1 x19_1) p324 q324; obtain rfl : ad319 = ad324 := (by injection e324); replace p324 := eq_true p324; replace q324 := eq_true q324)))
             go_roundg k1
             case measure => have := HK1.out; omega
             case rel => exact ⟨(wrap64 (x9_1 + ((rd_T50 l0 (rd l1 x19_1)).f2))), (wrap64 (x19_1 + 1)), yy11, yy11, H', ⟨by have := HK1.out; omega⟩, by repeat (first | exact Drawn0.refl _ | apply Drawn0.step)⟩
            ·replace c15 := Bool.eq_false_iff.mpr c15
             subst c15
             have H1 : (some false) = some r := by rw [if_neg (show ¬ (false = true) by decide)] at H; exact H
             clear H
             have H := H1
             clear H1
             obtain rfl := Option.some.inj H
             have p320 : 0 ≤ (x19_1 : Int) := of_decide_eq_true yy2
             have q320 : x19_1 < (l1.length : Int) := of_decide_eq_true yy2
             obtain ⟨ad320, e320, hx320_0⟩ := Kd.at_int HR1.out x19_1 p320 q320
             cases e320
             replace p320 := eq_true p320
             replace q320 := eq_true q320
             have p321 : 0 ≤ ((rd l1 x19_1) : Int) := of_decide_eq_true yy2
             have q321 : (rd l1 x19_1) < (l0.length : Int) := of_decide_eq_true yy2
             obtain ⟨ad321, e321, hx321_0, hx321_1, hx321_2⟩ := at_T50 HR0.out (rd l1 x19_1) p321 q321
             obtain rfl : ad319 = ad321 := (by injection e321)
             replace p321 := eq_true p321
             replace q321 := eq_true q321
             have p322 : 0 ≤ (a2 : Int) := of_decide_eq_true yy2
             have q322 : a2 < (l0.length : Int) := of_decide_eq_true yy2
             obtain ⟨ad322, e322, hx322_0, hx322_1, hx322_2⟩ := at_T50 HR0.out a2 p322 q322
             obtain rfl : ad319 = ad322 := (by injection e322)
             replace p322 := eq_true p322
             replace q322 := eq_true q322
             go_wp2_with (first | (go_at_call 61; (with_reducible refine (impl_mayShare.calls ((rd_T50 l0 (rd l1 x19_1)).f1) ((rd_T50 l0 a2).f1) false _ A14.out).mono ?_); rintro e w' ⟨rfl, ⟨nd, rfl⟩⟩; (try first | exact ⟨rfl, _, World.drewN_drewN _ _ _⟩ | exact ⟨rfl, _, Eq.trans (World.drewN_drewN _ _ _) (congrArg (World.drewN _) (Nat.add_assoc _ _ _))⟩)))
             repeat (go_quiet (first | (go_at_call 61; (with_reducible refine (impl_mayShare.calls ((rd_T50 l0 (rd l1 x19_1)).f1) ((rd_T50 l0 a2).f1) false _ A14.out).mono ?_); rintro e w' ⟨rfl, ⟨nd, rfl⟩⟩; (try first | exact ⟨rfl, _, World.drewN_drewN _ _ _⟩ | exact ⟨rfl, _, Eq.trans (World.drewN_drewN _ _ _) (congrArg (World.drewN _) (Nat.add_assoc _ _ _))⟩))); try go_wp2_with (first | (go_at_call 61; (with_reducible refine (impl_mayShare.calls ((rd_T50 l0 (rd l1 x19_1)).f1) ((rd_T50 l0 a2).f1) false _ A14.out).mono ?_); rintro e w' ⟨rfl, ⟨nd, rfl⟩⟩; (try first | exact ⟨rfl, _, World.drewN_drewN _ _ _⟩ | exact ⟨rfl, _, Eq.trans (World.drewN_drewN _ _ _) (congrArg (World.drewN _) (Nat.add_assoc _ _ _))⟩))))
             go_ret
             exact ⟨by first | rfl | (simp; done) | (simp [*]; done), by repeat (first | exact Drawn0.refl _ | apply Drawn0.step)⟩
           ·rw [if_neg c13] at H
            exact absurd H (by simp)
          ·rw [if_neg c12] at H
           exact absurd H (by simp)
         ·rw [if_neg c11] at H
          exact absurd H (by simp)
        ·rw [if_neg c10] at H
         exact absurd H (by simp)
       ·rw [if_neg c9] at H
        exact absurd H (by simp)
      ·rw [if_neg c8] at H
       exact absurd H (by simp)
     ·rw [if_neg c7] at H
      have c7b0 : decide (x19_1 < (l1.length : Int)) = false := decide_eq_false c7
      clear c7
      obtain rfl := Option.some.inj H
      go_wp2
      repeat (go_quiet (fail); try go_wp2)
      go_ret
      exact ⟨by first | rfl | (simp; done) | (simp [*]; done), by repeat (first | exact Drawn0.refl _ | apply Drawn0.step)⟩
  ·rw [if_neg c6] at H
   exact absurd H (by simp)
 ·rw [if_neg c5] at H
  exact absurd H (by simp)
end Go.Proofs.Ytoadgikbbigdlaa.A
