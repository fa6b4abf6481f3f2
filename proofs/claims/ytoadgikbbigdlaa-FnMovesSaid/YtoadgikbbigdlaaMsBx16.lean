import Derived.Test.YtoadgikbbigdlaaMsWAb
import Derived.Test.YtoadgikbbigdlaaMsBx0
import Derived.Test.YtoadgikbbigdlaaMsBx3
import Derived.Test.YtoadgikbbigdlaaMsBx4
import Derived.Test.YtoadgikbbigdlaaMsBx5
import Derived.Test.YtoadgikbbigdlaaMsBx7
import Derived.Test.YtoadgikbbigdlaaMsBx15
namespace Go.Proofs.Ytoadgikbbigdlaa.B
open Go.RowKit Go.Proofs.YtoadgikbbigdlaaW.PrintWords Go.Proofs.YtoadgikbbigdlaaW.PrintLast Go.Proofs.YtoadgikbbigdlaaW.PrintMore
attribute [local go_sem] max2_int min2_int max_two min_two max_three min_three max_four min_four   -- for this text's walks alone
set_option linter.unusedVariables false
set_option linter.unusedSimpArgs false
def spec_l1Rising.l0 : Nat → List Int → Int → Int → Int → Option (Bool)
 | 0,_,_,_,_ => none
 | k + 1,x0,x1,x2,x7 => if x7 < (x0.length : Int) then (if 0 ≤ x7 then ((spec_l1In.f (rd x0 x7) x1 x2).bind fun t501 => (if t501 = true then (if x7 > 0 then (if 0 ≤ (wrap64 (x7 - 1)) then (if (wrap64 (x7 - 1)) < (x0.length : Int) then (if (rd x0 (wrap64 (x7 - 1))) ≥ (rd x0 x7) then (some false) else (spec_l1Rising.l0 k x0 x1 x2 (wrap64 (x7 + 1)))) else (none)) else (none)) else (spec_l1Rising.l0 k x0 x1 x2 (wrap64 (x7 + 1)))) else (some false))) else (none)) else (some true)
def spec_l1Rising.f (k : Nat) (l0 : List Int) (a1 : Int) (a2 : Int) : Option (Bool) := spec_l1Rising.l0 k l0 a1 a2 0
theorem spec_l1Rising.mono_l : ∀ k,(∀ y0 y1 y2 y3,LeO (spec_l1Rising.l0 k y0 y1 y2 y3) (spec_l1Rising.l0 (k + 1) y0 y1 y2 y3))
 | 0 => fun _ _ _ _ r h => by simp [spec_l1Rising.l0] at h
 | k + 1 => by
  have ih0 := spec_l1Rising.mono_l k
  ·intro y0 y1 y2 y3;unfold spec_l1Rising.l0;repeat' first
   | (with_reducible exact ih0 _ _ _ _)
   | (with_reducible exact LeO.refl _)
   | (with_reducible exact LeO.none _)
   | (with_reducible refine LeO.ite ?_ ?_)
   | (with_reducible refine LeO.bind ?_ (fun _ => ?_))
   | exact ih0 _ _ _ _
   | exact LeO.none _
   | refine LeO.ite ?_ ?_
   | refine LeO.bind ?_ (fun _ => ?_)
theorem spec_l1Rising.mono : ∀ a0 a1 a2 k,LeO (spec_l1Rising.f k a0 a1 a2) (spec_l1Rising.f (k + 1) a0 a1 a2) := by
 intro a0 a1 a2 k;have ih0 := spec_l1Rising.mono_l k;unfold spec_l1Rising.f;repeat' first
   | (with_reducible exact ih0 _ _ _ _)
   | (with_reducible exact LeO.refl _)
   | (with_reducible exact LeO.none _)
   | (with_reducible refine LeO.ite ?_ ?_)
   | (with_reducible refine LeO.bind ?_ (fun _ => ?_))
   | exact ih0 _ _ _ _
   | exact LeO.none _
   | refine LeO.ite ?_ ?_
   | refine LeO.bind ?_ (fun _ => ?_)
set_option maxHeartbeats 8000000 in
set_option maxRecDepth 100000 in
theorem spec_l1Rising.calls (k : Nat) (A0 : Option Addr) (c0 : Nat) (l0 : List Int) (a1 : Int) (a2 : Int) (r : Bool) (w : World) (hr0 : Kd.C (Kd.int .i64) w A0 l0.length l0) (hc0 : l0.length ≤ c0) (h : spec_l1Rising.f k l0 a1 a2 = some r) :
  Calls Try.prog 88 #[.slice A0 l0.length c0,.int .i64 a1,.int .i64 a2] w fun e w' => e = .returned (.bool r) ∧ Drawn0 w w' := by
 have HR0 := Aside0.mk hr0;have HC0 := Aside0.mk hc0;clear hr0 hc0;have H : (spec_l1Rising.l0 k l0 a1 a2 0) = some r := h;clear h;have H' := Aside0.mk H;clear H;go_enter Try.func88,Try.ntmps88;go_wp2;repeat (go_quiet (fail); try go_wp2)
 go_loopg [7] k (fun kq v7 w' => ∃ (x7_1 : Int),v7 = .int .i64 x7_1 ∧ Aside0 (spec_l1Rising.l0 kq l0 a1 a2 x7_1 = some r) ∧ Aside0 (kq ≤ k) ∧ Drawn0 w w')
 case atStart => exact ⟨(0),yy12,H',⟨Nat.le_refl _⟩,yy26⟩
 case round =>
  clear H'
  try clear p2
  obtain ⟨x7_1,rfl,HA,HK1,⟨m1,rfl⟩⟩ := hrel;cases gk with
  | zero => exact absurd HA.out (by simp [spec_l1Rising.l0])
  | succ k1 =>
   have H := HA.out;clear HA;simp only [spec_l1Rising.l0] at H;by_cases c4 : x7_1 < (l0.length : Int)
   ·rw [if_pos c4] at H;have c4b0 : decide (x7_1 < (l0.length : Int)) = true := decide_eq_true c4;clear c4;by_cases c5 : 0 ≤ x7_1
    ·rw [if_pos c5] at H;have c5b0 : decide (0 ≤ x7_1) = true := decide_eq_true c5;clear c5;replace H := Option.bind_eq_some_iff.mp H;obtain ⟨t501,A60,H⟩ := H;replace H : (if t501 = true then (if x7_1 > 0 then (if 0 ≤ (wrap64 (x7_1 - 1)) then (if (wrap64 (x7_1 - 1)) < (l0.length : Int) then (if (rd l0 (wrap64 (x7_1 - 1))) ≥ (rd l0 x7_1) then (some false) else (spec_l1Rising.l0 k1 l0 a1 a2 (wrap64 (x7_1 + 1)))) else (none)) else (none)) else (spec_l1Rising.l0 k1 l0 a1 a2 (wrap64 (x7_1 + 1)))) else (some false)) = some r := H;have A6 := Aside0.mk A60;clear A60;by_cases c7 : t501 = true
     ·subst c7;have H1 : (if x7_1 > 0 then (if 0 ≤ (wrap64 (x7_1 - 1)) then (if (wrap64 (x7_1 - 1)) < (l0.length : Int) then (if (rd l0 (wrap64 (x7_1 - 1))) ≥ (rd l0 x7_1) then (some false) else (spec_l1Rising.l0 k1 l0 a1 a2 (wrap64 (x7_1 + 1)))) else (none)) else (none)) else (spec_l1Rising.l0 k1 l0 a1 a2 (wrap64 (x7_1 + 1)))) = some r := by rw [if_pos rfl] at H; exact H
      clear H;have H := H1;clear H1;by_cases c8 : x7_1 > 0
      ·rw [if_pos c8] at H;have c8b0 : decide (0 < x7_1) = true := decide_eq_true c8;clear c8;obtain ⟨ji9,hji9⟩ : ∃ j_ : Int,(wrap64 (x7_1 - 1)) = j_ := ⟨_,rfl⟩
       replace H : (if 0 ≤ (ji9) then (if (ji9) < (l0.length : Int) then (if (rd l0 (ji9)) ≥ (rd l0 x7_1) then (some false) else (spec_l1Rising.l0 k1 l0 a1 a2 (wrap64 (x7_1 + 1)))) else (none)) else (none)) = some r := by first | (rw [hji9] at H; exact H) | (simp only [hji9] at H ⊢; exact H)
       (try rw [hji9] at A6)
       have hji9w : (IntKind.i64.wrap (x7_1 - 1)) = ji9 := (i64_w _).trans hji9;by_cases c10 : 0 ≤ (ji9)
       ·rw [if_pos c10] at H;have c10b0 : decide (0 ≤ (ji9)) = true := decide_eq_true c10;clear c10;by_cases c11 : (ji9) < (l0.length : Int)
        ·rw [if_pos c11] at H;have c11b0 : decide ((ji9) < (l0.length : Int)) = true := decide_eq_true c11;clear c11;by_cases c12 : (rd l0 (ji9)) ≥ (rd l0 x7_1)
         ·rw [if_pos c12] at H;have c12b0 : decide ((rd l0 x7_1) ≤ (rd l0 (ji9))) = true := decide_eq_true c12;clear c12;obtain rfl := Option.some.inj H;have p500 : 0 ≤ (x7_1 : Int) := of_decide_eq_true yy2;have q500 : x7_1 < (l0.length : Int) := of_decide_eq_true yy2;obtain ⟨ad500,e500,hx500_0⟩ := Kd.at_int HR0.out x7_1 p500 q500;cases e500;replace p500 := eq_true p500;replace q500 := eq_true q500;go_wp2_with (first | (go_at_call 62; (with_reducible refine (spec_l1In.calls (rd l0 x7_1) a1 a2 true _ A6.out).mono ?_); rintro e w' ⟨rfl,⟨nd,rfl⟩⟩; (try exact yy6); have p502 : 0 ≤ ((ji9) : Int) := of_decide_eq_true yy2; have q502 : (ji9) < (l0.length : Int) := of_decide_eq_true yy2; obtain ⟨ad502,e502,hx502_0⟩ := Kd.at_int HR0.out (ji9) p502 q502; obtain rfl : ad500 = ad502 := (by injection e502); replace p502 := eq_true p502; replace q502 := eq_true q502; have p503 : 0 ≤ (x7_1 : Int) := of_decide_eq_true yy2; have q503 : x7_1 < (l0.length : Int) := of_decide_eq_true yy2; obtain ⟨ad503,e503,hx503_0⟩ := Kd.at_int HR0.out x7_1 p503 q503; obtain rfl : ad500 = ad503 := (by injection e503); replace p503 := eq_true p503; replace q503 := eq_true q503))
          repeat (go_quiet (first | (go_at_call 62; (with_reducible refine (spec_l1In.calls (rd l0 x7_1) a1 a2 true _ A6.out).mono ?_); rintro e w' ⟨rfl,⟨nd,rfl⟩⟩; (try exact yy6); have p502 : 0 ≤ ((ji9) : Int) := of_decide_eq_true yy2; have q502 : (ji9) < (l0.length : Int) := of_decide_eq_true yy2; obtain ⟨ad502,e502,hx502_0⟩ := Kd.at_int HR0.out (ji9) p502 q502; obtain rfl : ad500 = ad502 := (by injection e502); replace p502 := eq_true p502; replace q502 := eq_true q502; have p503 : 0 ≤ (x7_1 : Int) := of_decide_eq_true yy2; have q503 : x7_1 < (l0.length : Int) := of_decide_eq_true yy2; obtain ⟨ad503,e503,hx503_0⟩ := Kd.at_int HR0.out x7_1 p503 q503; obtain rfl : ad500 = ad503 := (by injection e503); replace p503 := eq_true p503; replace q503 := eq_true q503)); try go_wp2_with (first | (go_at_call 62; (with_reducible refine (spec_l1In.calls (rd l0 x7_1) a1 a2 true _ A6.out).mono ?_); rintro e w' ⟨rfl,⟨nd,rfl⟩⟩; (try exact yy6); have p502 : 0 ≤ ((ji9) : Int) := of_decide_eq_true yy2; have q502 : (ji9) < (l0.length : Int) := of_decide_eq_true yy2; obtain ⟨ad502,e502,hx502_0⟩ := Kd.at_int HR0.out (ji9) p502 q502; obtain rfl : ad500 = ad502 := (by injection e502); replace p502 := eq_true p502; replace q502 := eq_true q502; have p503 : 0 ≤ (x7_1 : Int) := of_decide_eq_true yy2; have q503 : x7_1 < (l0.length : Int) := of_decide_eq_true yy2; obtain ⟨ad503,e503,hx503_0⟩ := Kd.at_int HR0.out x7_1 p503 q503; obtain rfl : ad500 = ad503 := (by injection e503); replace p503 := eq_true p503; replace q503 := eq_true q503)))
          go_ret;exact ⟨(by first | rfl | (simp; done) | (simp only [← hji9] <;> (first | rfl | simp)) | (simp [*]; done)),yy26⟩
         ·rw [if_neg c12] at H;have c12b0 : decide ((rd l0 x7_1) ≤ (rd l0 (ji9))) = false := decide_eq_false c12;clear c12;have H' := Aside0.mk H;clear H;have p500 : 0 ≤ (x7_1 : Int) := of_decide_eq_true yy2;have q500 : x7_1 < (l0.length : Int) := of_decide_eq_true yy2;obtain ⟨ad500,e500,hx500_0⟩ := Kd.at_int HR0.out x7_1 p500 q500;cases e500;replace p500 := eq_true p500;replace q500 := eq_true q500;go_wp2_with (first | (go_at_call 62; (with_reducible refine (spec_l1In.calls (rd l0 x7_1) a1 a2 true _ A6.out).mono ?_); rintro e w' ⟨rfl,⟨nd,rfl⟩⟩; (try exact yy6); have p502 : 0 ≤ ((ji9) : Int) := of_decide_eq_true yy2; have q502 : (ji9) < (l0.length : Int) := of_decide_eq_true yy2; obtain ⟨ad502,e502,hx502_0⟩ := Kd.at_int HR0.out (ji9) p502 q502; obtain rfl : ad500 = ad502 := (by injection e502); replace p502 := eq_true p502; replace q502 := eq_true q502; have p503 : 0 ≤ (x7_1 : Int) := of_decide_eq_true yy2; have q503 : x7_1 < (l0.length : Int) := of_decide_eq_true yy2; obtain ⟨ad503,e503,hx503_0⟩ := Kd.at_int HR0.out x7_1 p503 q503; obtain rfl : ad500 = ad503 := (by injection e503); replace p503 := eq_true p503; replace q503 := eq_true q503))
          repeat (go_quiet (first | (go_at_call 62; (with_reducible refine (spec_l1In.calls (rd l0 x7_1) a1 a2 true _ A6.out).mono ?_); rintro e w' ⟨rfl,⟨nd,rfl⟩⟩; (try exact yy6); have p502 : 0 ≤ ((ji9) : Int) := of_decide_eq_true yy2; have q502 : (ji9) < (l0.length : Int) := of_decide_eq_true yy2; obtain ⟨ad502,e502,hx502_0⟩ := Kd.at_int HR0.out (ji9) p502 q502; obtain rfl : ad500 = ad502 := (by injection e502); replace p502 := eq_true p502; replace q502 := eq_true q502; have p503 : 0 ≤ (x7_1 : Int) := of_decide_eq_true yy2; have q503 : x7_1 < (l0.length : Int) := of_decide_eq_true yy2; obtain ⟨ad503,e503,hx503_0⟩ := Kd.at_int HR0.out x7_1 p503 q503; obtain rfl : ad500 = ad503 := (by injection e503); replace p503 := eq_true p503; replace q503 := eq_true q503)); try go_wp2_with (first | (go_at_call 62; (with_reducible refine (spec_l1In.calls (rd l0 x7_1) a1 a2 true _ A6.out).mono ?_); rintro e w' ⟨rfl,⟨nd,rfl⟩⟩; (try exact yy6); have p502 : 0 ≤ ((ji9) : Int) := of_decide_eq_true yy2; have q502 : (ji9) < (l0.length : Int) := of_decide_eq_true yy2; obtain ⟨ad502,e502,hx502_0⟩ := Kd.at_int HR0.out (ji9) p502 q502; obtain rfl : ad500 = ad502 := (by injection e502); replace p502 := eq_true p502; replace q502 := eq_true q502; have p503 : 0 ≤ (x7_1 : Int) := of_decide_eq_true yy2; have q503 : x7_1 < (l0.length : Int) := of_decide_eq_true yy2; obtain ⟨ad503,e503,hx503_0⟩ := Kd.at_int HR0.out x7_1 p503 q503; obtain rfl : ad500 = ad503 := (by injection e503); replace p503 := eq_true p503; replace q503 := eq_true q503)))
          go_roundg k1
          case measure => have := HK1.out; omega
          case rel => exact ⟨(wrap64 (x7_1 + 1)),yy12,H',⟨by have := HK1.out; omega⟩,yy26⟩
        ·rw [if_neg c11] at H;exact absurd H (by simp)
       ·rw [if_neg c10] at H;exact absurd H (by simp)
      ·rw [if_neg c8] at H;have c8b0 : decide (0 < x7_1) = false := decide_eq_false c8;clear c8;have H' := Aside0.mk H;clear H;have p500 : 0 ≤ (x7_1 : Int) := of_decide_eq_true yy2;have q500 : x7_1 < (l0.length : Int) := of_decide_eq_true yy2;obtain ⟨ad500,e500,hx500_0⟩ := Kd.at_int HR0.out x7_1 p500 q500;cases e500;replace p500 := eq_true p500;replace q500 := eq_true q500;go_wp2_with (first | (go_at_call 62; (with_reducible refine (spec_l1In.calls (rd l0 x7_1) a1 a2 true _ A6.out).mono ?_); rintro e w' ⟨rfl,⟨nd,rfl⟩⟩; (try exact yy6)))
       repeat (go_quiet (first | (go_at_call 62; (with_reducible refine (spec_l1In.calls (rd l0 x7_1) a1 a2 true _ A6.out).mono ?_); rintro e w' ⟨rfl,⟨nd,rfl⟩⟩; (try exact yy6))); try go_wp2_with (first | (go_at_call 62; (with_reducible refine (spec_l1In.calls (rd l0 x7_1) a1 a2 true _ A6.out).mono ?_); rintro e w' ⟨rfl,⟨nd,rfl⟩⟩; (try exact yy6))))
       go_roundg k1
       case measure => have := HK1.out; omega
       case rel => exact ⟨(wrap64 (x7_1 + 1)),yy12,H',⟨by have := HK1.out; omega⟩,yy26⟩
     ·replace c7 := Bool.eq_false_iff.mpr c7;subst c7;have H1 : (some false) = some r := by rw [if_neg (show ¬ (false = true) by decide)] at H; exact H
      clear H;have H := H1;clear H1;obtain rfl := Option.some.inj H;have p500 : 0 ≤ (x7_1 : Int) := of_decide_eq_true yy2;have q500 : x7_1 < (l0.length : Int) := of_decide_eq_true yy2;obtain ⟨ad500,e500,hx500_0⟩ := Kd.at_int HR0.out x7_1 p500 q500;cases e500;replace p500 := eq_true p500;replace q500 := eq_true q500;go_wp2_with (first | (go_at_call 62; (with_reducible refine (spec_l1In.calls (rd l0 x7_1) a1 a2 false _ A6.out).mono ?_); rintro e w' ⟨rfl,⟨nd,rfl⟩⟩; (try exact yy6)))
      repeat (go_quiet (first | (go_at_call 62; (with_reducible refine (spec_l1In.calls (rd l0 x7_1) a1 a2 false _ A6.out).mono ?_); rintro e w' ⟨rfl,⟨nd,rfl⟩⟩; (try exact yy6))); try go_wp2_with (first | (go_at_call 62; (with_reducible refine (spec_l1In.calls (rd l0 x7_1) a1 a2 false _ A6.out).mono ?_); rintro e w' ⟨rfl,⟨nd,rfl⟩⟩; (try exact yy6))))
      go_ret;exact ⟨yy12,yy26⟩
    ·rw [if_neg c5] at H;exact absurd H (by simp)
   ·rw [if_neg c4] at H;have c4b0 : decide (x7_1 < (l0.length : Int)) = false := decide_eq_false c4;clear c4;obtain rfl := Option.some.inj H;go_wp2;repeat (go_quiet (fail); try go_wp2)
    go_ret;exact ⟨yy12,yy26⟩
mutual
def spec_l26Good.j0 : Nat → List (S50) → List (S62) → Int → Bool → Option (Bool)
 | 0,_,_,_,_ => none
 | k + 1,x0,x1,x2,x23 => if x23 = true then (some false) else (spec_l26Good.l0 k x0 x1 x2 0 0)
def spec_l26Good.l0 : Nat → List (S50) → List (S62) → Int → Int → Int → Option (Bool)
 | 0,_,_,_,_,_ => none
 | k + 1,x0,x1,x2,x7,x8 => if x8 < (x1.length : Int) then (if 0 ≤ x8 then ((spec_l1In.f ((rd_T62 x1 x8).f0) 1 9999).bind fun t508 => (if t508 = true then (if x8 > 0 then (if 0 ≤ (wrap64 (x8 - 1)) then (if (wrap64 (x8 - 1)) < (x1.length : Int) then (if ((rd_T62 x1 (wrap64 (x8 - 1))).f0) ≥ ((rd_T62 x1 x8).f0) then (spec_l26Good.j2 k x0 x1 x2 x7 x8 true ((rd_T62 x1 x8).f0) ((rd_T62 x1 x8).f1)) else ((spec_l1Rising.f k ((rd_T62 x1 x8).f1) 1 9999).bind fun t510 => (spec_l26Good.j2 k x0 x1 x2 x7 x8 (!t510) ((rd_T62 x1 x8).f0) ((rd_T62 x1 x8).f1)))) else (none)) else (none)) else ((spec_l1Rising.f k ((rd_T62 x1 x8).f1) 1 9999).bind fun t511 => (spec_l26Good.j2 k x0 x1 x2 x7 x8 (!t511) ((rd_T62 x1 x8).f0) ((rd_T62 x1 x8).f1)))) else (spec_l26Good.j2 k x0 x1 x2 x7 x8 true ((rd_T62 x1 x8).f0) ((rd_T62 x1 x8).f1)))) else (none)) else (some (x7 == (x0.length : Int)))
def spec_l26Good.j2 : Nat → List (S50) → List (S62) → Int → Int → Int → Bool → Int → List Int → Option (Bool)
 | 0,_,_,_,_,_,_,_,_ => none
 | k + 1,x0,x1,x2,x7,x8,x58,x508000,x508001 => if x58 = true then (some false) else (spec_l26Good.l1 k x0 x1 x2 x7 x8 0 x508000 x508001)
def spec_l26Good.l1 : Nat → List (S50) → List (S62) → Int → Int → Int → Int → Int → List Int → Option (Bool)
 | 0,_,_,_,_,_,_,_,_ => none
 | k + 1,x0,x1,x2,x7,x8,x10,x508000,x508001 => if x10 < (x508001.length : Int) then (if 0 ≤ x10 then ((spec_l26Find.f k x0 (rd x508001 x10)).bind fun t514 => (if t514 < 0 then (some false) else ((spec_l26Box.f k x1 (rd x508001 x10)).bind fun t516 => (if t516 = x8 then (spec_l26Good.l1 k x0 x1 x2 x7 x8 (wrap64 (x10 + 1)) x508000 x508001) else (some false))))) else (none)) else ((spec_l26Fits.f k x0 x508001 x2).bind fun t512 => (if t512 = true then (spec_l26Good.l0 k x0 x1 x2 (wrap64 (x7 + (x508001.length : Int))) (wrap64 (x8 + 1))) else (some false)))
end
def spec_l26Good.f (k : Nat) (l0 : List (S50)) (l1 : List (S62)) (a2 : Int) : Option (Bool) := (spec_l26Items.f k l0).bind fun t504 => (if t504 = true then (if (l1.length : Int) > 12 then (spec_l26Good.j0 k l0 l1 a2 true) else ((spec_l1In.f a2 1 10000).bind fun t505 => (spec_l26Good.j0 k l0 l1 a2 (!t505)))) else (spec_l26Good.j0 k l0 l1 a2 true))
theorem spec_l26Good.mono_l : ∀ k,(∀ y0 y1 y2 y3,LeO (spec_l26Good.j0 k y0 y1 y2 y3) (spec_l26Good.j0 (k + 1) y0 y1 y2 y3)) ∧ (∀ y0 y1 y2 y3 y4,LeO (spec_l26Good.l0 k y0 y1 y2 y3 y4) (spec_l26Good.l0 (k + 1) y0 y1 y2 y3 y4)) ∧ (∀ y0 y1 y2 y3 y4 y5 y6 y7,LeO (spec_l26Good.j2 k y0 y1 y2 y3 y4 y5 y6 y7) (spec_l26Good.j2 (k + 1) y0 y1 y2 y3 y4 y5 y6 y7)) ∧ (∀ y0 y1 y2 y3 y4 y5 y6 y7,LeO (spec_l26Good.l1 k y0 y1 y2 y3 y4 y5 y6 y7) (spec_l26Good.l1 (k + 1) y0 y1 y2 y3 y4 y5 y6 y7))
 | 0 => ⟨fun _ _ _ _ r h => by simp [spec_l26Good.j0] at h,fun _ _ _ _ _ r h => by simp [spec_l26Good.l0] at h,fun _ _ _ _ _ _ _ _ r h => by simp [spec_l26Good.j2] at h,fun _ _ _ _ _ _ _ _ r h => by simp [spec_l26Good.l1] at h⟩
 | k + 1 => by
  obtain ⟨ih0,ih1,ih2,ih3⟩ := spec_l26Good.mono_l k;refine ⟨?_,?_,?_,?_⟩
  ·intro y0 y1 y2 y3;unfold spec_l26Good.j0;repeat' first
   | (with_reducible exact ih0 _ _ _ _)
   | (with_reducible exact ih1 _ _ _ _ _)
   | (with_reducible exact ih2 _ _ _ _ _ _ _ _)
   | (with_reducible exact ih3 _ _ _ _ _ _ _ _)
   | (with_reducible exact spec_l1Rising.mono _ _ _ _)
   | (with_reducible exact spec_l26Box.mono _ _ _)
   | (with_reducible exact spec_l26Find.mono _ _ _)
   | (with_reducible exact spec_l26Fits.mono _ _ _ _)
   | (with_reducible exact spec_l26Items.mono _ _)
   | (with_reducible exact LeO.refl _)
   | (with_reducible exact LeO.none _)
   | (with_reducible refine LeO.ite ?_ ?_)
   | (with_reducible refine LeO.bind ?_ (fun _ => ?_))
   | exact ih0 _ _ _ _
   | exact ih1 _ _ _ _ _
   | exact ih2 _ _ _ _ _ _ _ _
   | exact ih3 _ _ _ _ _ _ _ _
   | exact spec_l1Rising.mono _ _ _ _
   | exact spec_l26Box.mono _ _ _
   | exact spec_l26Find.mono _ _ _
   | exact spec_l26Fits.mono _ _ _ _
   | exact spec_l26Items.mono _ _
   | exact LeO.none _
   | refine LeO.ite ?_ ?_
   | refine LeO.bind ?_ (fun _ => ?_)
  ·intro y0 y1 y2 y3 y4;unfold spec_l26Good.l0;repeat' first
   | (with_reducible exact ih0 _ _ _ _)
   | (with_reducible exact ih1 _ _ _ _ _)
   | (with_reducible exact ih2 _ _ _ _ _ _ _ _)
   | (with_reducible exact ih3 _ _ _ _ _ _ _ _)
   | (with_reducible exact spec_l1Rising.mono _ _ _ _)
   | (with_reducible exact spec_l26Box.mono _ _ _)
   | (with_reducible exact spec_l26Find.mono _ _ _)
   | (with_reducible exact spec_l26Fits.mono _ _ _ _)
   | (with_reducible exact spec_l26Items.mono _ _)
   | (with_reducible exact LeO.refl _)
   | (with_reducible exact LeO.none _)
   | (with_reducible refine LeO.ite ?_ ?_)
   | (with_reducible refine LeO.bind ?_ (fun _ => ?_))
   | exact ih0 _ _ _ _
   | exact ih1 _ _ _ _ _
   | exact ih2 _ _ _ _ _ _ _ _
   | exact ih3 _ _ _ _ _ _ _ _
   | exact spec_l1Rising.mono _ _ _ _
   | exact spec_l26Box.mono _ _ _
   | exact spec_l26Find.mono _ _ _
   | exact spec_l26Fits.mono _ _ _ _
   | exact spec_l26Items.mono _ _
   | exact LeO.none _
   | refine LeO.ite ?_ ?_
   | refine LeO.bind ?_ (fun _ => ?_)
  ·intro y0 y1 y2 y3 y4 y5 y6 y7;unfold spec_l26Good.j2;repeat' first
   | (with_reducible exact ih0 _ _ _ _)
   | (with_reducible exact ih1 _ _ _ _ _)
   | (with_reducible exact ih2 _ _ _ _ _ _ _ _)
   | (with_reducible exact ih3 _ _ _ _ _ _ _ _)
   | (with_reducible exact spec_l1Rising.mono _ _ _ _)
   | (with_reducible exact spec_l26Box.mono _ _ _)
   | (with_reducible exact spec_l26Find.mono _ _ _)
   | (with_reducible exact spec_l26Fits.mono _ _ _ _)
   | (with_reducible exact spec_l26Items.mono _ _)
   | (with_reducible exact LeO.refl _)
   | (with_reducible exact LeO.none _)
   | (with_reducible refine LeO.ite ?_ ?_)
   | (with_reducible refine LeO.bind ?_ (fun _ => ?_))
   | exact ih0 _ _ _ _
   | exact ih1 _ _ _ _ _
   | exact ih2 _ _ _ _ _ _ _ _
   | exact ih3 _ _ _ _ _ _ _ _
   | exact spec_l1Rising.mono _ _ _ _
   | exact spec_l26Box.mono _ _ _
   | exact spec_l26Find.mono _ _ _
   | exact spec_l26Fits.mono _ _ _ _
   | exact spec_l26Items.mono _ _
   | exact LeO.none _
   | refine LeO.ite ?_ ?_
   | refine LeO.bind ?_ (fun _ => ?_)
  ·intro y0 y1 y2 y3 y4 y5 y6 y7;unfold spec_l26Good.l1;repeat' first
   | (with_reducible exact ih0 _ _ _ _)
   | (with_reducible exact ih1 _ _ _ _ _)
   | (with_reducible exact ih2 _ _ _ _ _ _ _ _)
   | (with_reducible exact ih3 _ _ _ _ _ _ _ _)
   | (with_reducible exact spec_l1Rising.mono _ _ _ _)
   | (with_reducible exact spec_l26Box.mono _ _ _)
   | (with_reducible exact spec_l26Find.mono _ _ _)
   | (with_reducible exact spec_l26Fits.mono _ _ _ _)
   | (with_reducible exact spec_l26Items.mono _ _)
   | (with_reducible exact LeO.refl _)
   | (with_reducible exact LeO.none _)
   | (with_reducible refine LeO.ite ?_ ?_)
   | (with_reducible refine LeO.bind ?_ (fun _ => ?_))
   | exact ih0 _ _ _ _
   | exact ih1 _ _ _ _ _
   | exact ih2 _ _ _ _ _ _ _ _
   | exact ih3 _ _ _ _ _ _ _ _
   | exact spec_l1Rising.mono _ _ _ _
   | exact spec_l26Box.mono _ _ _
   | exact spec_l26Find.mono _ _ _
   | exact spec_l26Fits.mono _ _ _ _
   | exact spec_l26Items.mono _ _
   | exact LeO.none _
   | refine LeO.ite ?_ ?_
   | refine LeO.bind ?_ (fun _ => ?_)
theorem spec_l26Good.mono : ∀ a0 a1 a2 k,LeO (spec_l26Good.f k a0 a1 a2) (spec_l26Good.f (k + 1) a0 a1 a2) := by
 intro a0 a1 a2 k;obtain ⟨ih0,ih1,ih2,ih3⟩ := spec_l26Good.mono_l k;unfold spec_l26Good.f;repeat' first
   | (with_reducible exact ih0 _ _ _ _)
   | (with_reducible exact ih1 _ _ _ _ _)
   | (with_reducible exact ih2 _ _ _ _ _ _ _ _)
   | (with_reducible exact ih3 _ _ _ _ _ _ _ _)
   | (with_reducible exact spec_l1Rising.mono _ _ _ _)
   | (with_reducible exact spec_l26Box.mono _ _ _)
   | (with_reducible exact spec_l26Find.mono _ _ _)
   | (with_reducible exact spec_l26Fits.mono _ _ _ _)
   | (with_reducible exact spec_l26Items.mono _ _)
   | (with_reducible exact LeO.refl _)
   | (with_reducible exact LeO.none _)
   | (with_reducible refine LeO.ite ?_ ?_)
   | (with_reducible refine LeO.bind ?_ (fun _ => ?_))
   | exact ih0 _ _ _ _
   | exact ih1 _ _ _ _ _
   | exact ih2 _ _ _ _ _ _ _ _
   | exact ih3 _ _ _ _ _ _ _ _
   | exact spec_l1Rising.mono _ _ _ _
   | exact spec_l26Box.mono _ _ _
   | exact spec_l26Find.mono _ _ _
   | exact spec_l26Fits.mono _ _ _ _
   | exact spec_l26Items.mono _ _
   | exact LeO.none _
   | refine LeO.ite ?_ ?_
   | refine LeO.bind ?_ (fun _ => ?_)
set_option maxHeartbeats 8000000 in
set_option maxRecDepth 100000 in
theorem spec_l26Good.calls (k : Nat) (A0 : Option Addr) (c0 : Nat) (l0 : List (S50)) (A1 : Option Addr) (c1 : Nat) (l1 : List (S62)) (a2 : Int) (r : Bool) (w : World) (hr0 : Kd.C k50 w A0 l0.length l0) (hc0 : l0.length ≤ c0) (hr1 : Kd.C k62 w A1 l1.length l1) (hc1 : l1.length ≤ c1) (h : spec_l26Good.f k l0 l1 a2 = some r) :
  Calls Try.prog 55 #[.slice A0 l0.length c0,.slice A1 l1.length c1,.int .i64 a2] w fun e w' => e = .returned (.bool r) ∧ Below w.heap.size w w' := by
 have hu62 := Try.underlying62;have HR0 := Aside0.mk hr0;have HC0 := Aside0.mk hc0;clear hr0 hc0;have HR1 := Aside0.mk hr1;have HC1 := Aside0.mk hc1;clear hr1 hc1;have HB := Aside0.mk (Below.refl w.heap.size w);have H : ((spec_l26Items.f k l0).bind fun t504 => (if t504 = true then (if (l1.length : Int) > 12 then (spec_l26Good.j0 k l0 l1 a2 true) else ((spec_l1In.f a2 1 10000).bind fun t505 => (spec_l26Good.j0 k l0 l1 a2 (!t505)))) else (spec_l26Good.j0 k l0 l1 a2 true))) = some r := h;clear h;have HC4 := Aside0.mk H;clear H;go_enter Try.func55,Try.ntmps55;go_upto_region 1 with (fail)
 repeat (go_quiet (fail); go_upto_region 1 with (fail))
 go_cut [23] (fun v23 wc => ∃ (kq : Nat) (x23_3 : Bool),v23 = .bool x23_3 ∧ Aside0 (spec_l26Good.j0 kq l0 l1 a2 x23_3 = some r) ∧ Aside0 (kq ≤ k) ∧ Aside0 (Below w.heap.size w wc))
 case first =>
  have H := HC4.out;clear HC4;replace H := Option.bind_eq_some_iff.mp H;obtain ⟨t504,A50,H⟩ := H;replace H : (if t504 = true then (if (l1.length : Int) > 12 then (spec_l26Good.j0 k l0 l1 a2 true) else ((spec_l1In.f a2 1 10000).bind fun t505 => (spec_l26Good.j0 k l0 l1 a2 (!t505)))) else (spec_l26Good.j0 k l0 l1 a2 true)) = some r := H;have A5 := Aside0.mk A50;clear A50;by_cases c6 : t504 = true
  ·subst c6;have H1 : (if (l1.length : Int) > 12 then (spec_l26Good.j0 k l0 l1 a2 true) else ((spec_l1In.f a2 1 10000).bind fun t505 => (spec_l26Good.j0 k l0 l1 a2 (!t505)))) = some r := by rw [if_pos rfl] at H; exact H
   clear H;have H := H1;clear H1;by_cases c7 : (l1.length : Int) > 12
   ·rw [if_pos c7] at H;have c7b0 : decide (12 < (l1.length : Int)) = true := decide_eq_true c7;have c7b1 : decide (12 < l1.length) = true := decide_eq_true (by omega);clear c7;(first | rw [c7b0] | (simp only [i64_w,i32_w]; rw [c7b0]) | skip)
    have H' := Aside0.mk H;clear H;go_wp2_with (first | (go_at_call 33; (with_reducible refine (spec_l26Items.calls k _ _ l0 true _ ?side1 ?side2 A5.out).mono ?_); (case side1 => exact yy4); (case side2 => exact HC0.out); rintro e w8 ⟨rfl,hb⟩; have n0_ := Aside0.mk (below_step yy1 hb); clear HB; have HB := n0_; clear n0_; (try clear hb); (try clear hb2); (try clear hk); (try clear hi)))
    repeat (go_quiet (first | (go_at_call 33; (with_reducible refine (spec_l26Items.calls k _ _ l0 true _ ?side1 ?side2 A5.out).mono ?_); (case side1 => exact yy4); (case side2 => exact HC0.out); rintro e w8 ⟨rfl,hb⟩; have n0_ := Aside0.mk (below_step yy1 hb); clear HB; have HB := n0_; clear n0_; (try clear hb); (try clear hb2); (try clear hk); (try clear hi))); try go_wp2_with (first | (go_at_call 33; (with_reducible refine (spec_l26Items.calls k _ _ l0 true _ ?side1 ?side2 A5.out).mono ?_); (case side1 => exact yy4); (case side2 => exact HC0.out); rintro e w8 ⟨rfl,hb⟩; have n0_ := Aside0.mk (below_step yy1 hb); clear HB; have HB := n0_; clear n0_; (try clear hb); (try clear hb2); (try clear hk); (try clear hi))))
    go_meet
    case rel => exact ⟨_,(true),yy12,H',⟨yy83⟩,⟨yy1⟩⟩
   ·rw [if_neg c7] at H;have c7b0 : decide (12 < (l1.length : Int)) = false := decide_eq_false c7;have c7b1 : decide (12 < l1.length) = false := decide_eq_false (by omega);clear c7;(first | rw [c7b0] | (simp only [i64_w,i32_w]; rw [c7b0]) | skip)
    replace H := Option.bind_eq_some_iff.mp H;obtain ⟨t505,A90,H⟩ := H;replace H : (spec_l26Good.j0 k l0 l1 a2 (!t505)) = some r := H;have A9 := Aside0.mk A90;clear A90;have H' := Aside0.mk H;clear H;go_wp2_with (first | (go_at_call 33; (with_reducible refine (spec_l26Items.calls k _ _ l0 true _ ?side1 ?side2 A5.out).mono ?_); (case side1 => exact yy4); (case side2 => exact HC0.out); rintro e w10 ⟨rfl,hb⟩; have n0_ := Aside0.mk (below_step yy1 hb); clear HB; have HB := n0_; clear n0_; (try clear hb); (try clear hb2); (try clear hk); (try clear hi)) | (go_at_call 62; (with_reducible refine (spec_l1In.calls a2 1 10000 t505 _ A9.out).mono ?_); rintro e w' ⟨rfl,⟨nd,rfl⟩⟩; (try exact yy6)))
    repeat (go_quiet (first | (go_at_call 33; (with_reducible refine (spec_l26Items.calls k _ _ l0 true _ ?side1 ?side2 A5.out).mono ?_); (case side1 => exact yy4); (case side2 => exact HC0.out); rintro e w10 ⟨rfl,hb⟩; have n0_ := Aside0.mk (below_step yy1 hb); clear HB; have HB := n0_; clear n0_; (try clear hb); (try clear hb2); (try clear hk); (try clear hi)) | (go_at_call 62; (with_reducible refine (spec_l1In.calls a2 1 10000 t505 _ A9.out).mono ?_); rintro e w' ⟨rfl,⟨nd,rfl⟩⟩; (try exact yy6))); try go_wp2_with (first | (go_at_call 33; (with_reducible refine (spec_l26Items.calls k _ _ l0 true _ ?side1 ?side2 A5.out).mono ?_); (case side1 => exact yy4); (case side2 => exact HC0.out); rintro e w10 ⟨rfl,hb⟩; have n0_ := Aside0.mk (below_step yy1 hb); clear HB; have HB := n0_; clear n0_; (try clear hb); (try clear hb2); (try clear hk); (try clear hi)) | (go_at_call 62; (with_reducible refine (spec_l1In.calls a2 1 10000 t505 _ A9.out).mono ?_); rintro e w' ⟨rfl,⟨nd,rfl⟩⟩; (try exact yy6))))
    go_meet
    case rel => exact ⟨_,(!t505),yy12,H',⟨yy83⟩,⟨yy1⟩⟩
  ·replace c6 := Bool.eq_false_iff.mpr c6;subst c6;have H1 : (spec_l26Good.j0 k l0 l1 a2 true) = some r := by rw [if_neg (show ¬ (false = true) by decide)] at H; exact H
   clear H;have H := H1;clear H1;have H' := Aside0.mk H;clear H;go_wp2_with (first | (go_at_call 33; (with_reducible refine (spec_l26Items.calls k _ _ l0 false _ ?side1 ?side2 A5.out).mono ?_); (case side1 => exact yy4); (case side2 => exact HC0.out); rintro e w11 ⟨rfl,hb⟩; have n0_ := Aside0.mk (below_step yy1 hb); clear HB; have HB := n0_; clear n0_; (try clear hb); (try clear hb2); (try clear hk); (try clear hi)))
   repeat (go_quiet (first | (go_at_call 33; (with_reducible refine (spec_l26Items.calls k _ _ l0 false _ ?side1 ?side2 A5.out).mono ?_); (case side1 => exact yy4); (case side2 => exact HC0.out); rintro e w11 ⟨rfl,hb⟩; have n0_ := Aside0.mk (below_step yy1 hb); clear HB; have HB := n0_; clear n0_; (try clear hb); (try clear hb2); (try clear hk); (try clear hi))); try go_wp2_with (first | (go_at_call 33; (with_reducible refine (spec_l26Items.calls k _ _ l0 false _ ?side1 ?side2 A5.out).mono ?_); (case side1 => exact yy4); (case side2 => exact HC0.out); rintro e w11 ⟨rfl,hb⟩; have n0_ := Aside0.mk (below_step yy1 hb); clear HB; have HB := n0_; clear n0_; (try clear hb); (try clear hb2); (try clear hk); (try clear hi))))
   go_meet
   case rel => exact ⟨_,(true),yy12,H',⟨yy83⟩,⟨yy1⟩⟩
 case rest =>
  clear HC4
  try clear c1
  try clear p2
  try clear c5
  try clear c6
  try clear c7
  try clear c7b0
  try clear c7b1
  obtain ⟨kq,x23_3,rfl,HA,HJ3,HB⟩ := hcut;cases kq with
  | zero => exact absurd HA.out (by simp [spec_l26Good.j0])
  | succ kj3 =>
   have H := HA.out;clear HA;simp only [spec_l26Good.j0] at H;by_cases c12 : x23_3 = true
   ·subst c12;have H1 : (some false) = some r := by rw [if_pos rfl] at H; exact H
    clear H;have H := H1;clear H1;obtain rfl := Option.some.inj H;go_wp2;repeat (go_quiet (fail); try go_wp2)
    go_ret;exact ⟨yy11,yy1⟩
   ·replace c12 := Bool.eq_false_iff.mpr c12;subst c12;have H1 : (spec_l26Good.l0 kj3 l0 l1 a2 0 0) = some r := by rw [if_neg (show ¬ (false = true) by decide)] at H; exact H
    clear H;have H := H1;clear H1;have H' := Aside0.mk H;clear H;go_wp2;repeat (go_quiet (fail); try go_wp2)
    go_loopg [7,8] kj3 (fun kq v7 v8 w' => ∃ (x7_2 : Int) (x8_2 : Int),v7 = .int .i64 x7_2 ∧ v8 = .int .i64 x8_2 ∧ Aside0 (spec_l26Good.l0 kq l0 l1 a2 x7_2 x8_2 = some r) ∧ Aside0 (kq ≤ kj3) ∧ Aside0 (Below w.heap.size w w'))
    case atStart => exact ⟨(0),(0),yy12,yy12,H',⟨Nat.le_refl _⟩,⟨yy1⟩⟩
    case round =>
     clear H'
     try clear c1
     try clear p2
     try clear c5
     try clear c6
     try clear c7
     try clear c7b0
     try clear c7b1
     try clear c12
     try clear p2
     obtain ⟨x7_2,x8_2,rfl,rfl,HA,HK2,HB⟩ := hrel;cases gk with
     | zero => exact absurd HA.out (by simp [spec_l26Good.l0])
     | succ k2 =>
      have H := HA.out;clear HA;simp only [spec_l26Good.l0] at H;by_cases c13 : x8_2 < (l1.length : Int)
      ·rw [if_pos c13] at H;have c13b0 : decide (x8_2 < (l1.length : Int)) = true := decide_eq_true c13;clear c13;by_cases c14 : 0 ≤ x8_2
       ·rw [if_pos c14] at H;have c14b0 : decide (0 ≤ x8_2) = true := decide_eq_true c14;clear c14;have HC15 := Aside0.mk H;clear H;have p506 : 0 ≤ (x8_2 : Int) := of_decide_eq_true yy2;have q506 : x8_2 < (l1.length : Int) := of_decide_eq_true yy2;obtain ⟨ad506,A506_1,c506_1,e506,hx506_0,hx506_1,hl506_1,hi506_1⟩ := at_T62 HR1.out x8_2 p506 q506;cases e506;replace hx506_0 := pw_cell_below HB.out hx506_0;replace hx506_1 := pw_cell_below HB.out hx506_1;have HR506_1 := Aside0.mk hi506_1;have HC506_1 := Aside0.mk hl506_1;clear hi506_1 hl506_1;replace p506 := eq_true p506;replace q506 := eq_true q506;go_upto_region 8 with (first | ((with_reducible refine gate_dst (N := 9) rfl ?_); (try (refine gate_guard (by rfl) ?_; dsimp only)); refine box_event ?hg (N := 9) ?hd (cs := #[.int .i64 0,.slice none 0 0]) (t := 62) ?hr ?_; (case hd => rfl); (case hg => rfl); (case hr => first | (go_simp; done) | (go_simp; rfl)); intro gb507 hg w16 hbox hb; have n0_ := Aside0.mk (below_step yy1 hb); have n1_ := Aside0.mk (hbox); have n2_ := Aside0.mk ((by rw [hg]; exact (below_size yy1) : w.heap.size ≤ gb507)); have n3_ := Aside0.mk ((by rw [hg]; exact (below_size yy1) : w.heap.size ≤ gb507)); clear HB; have HB := n0_; have BK507 := n1_; have GW507 := n2_; have GE507 := n3_; clear n0_ n1_ n2_ n3_; clear hb hbox hg; have hcz17_0 : w16.cell? ⟨gb507,0,none⟩ = some (.int .i64 0) := (blk_cell BK507.out 0).trans rfl; have hcz17_1 : w16.cell? ⟨gb507,1,none⟩ = some (.slice none 0 0) := (blk_cell BK507.out 1).trans rfl; have hfz17_0 := blk_frozen BK507.out 0; have hfz17_1 := blk_frozen BK507.out 1))
        repeat (go_quiet (first | ((with_reducible refine gate_dst (N := 9) rfl ?_); (try (refine gate_guard (by rfl) ?_; dsimp only)); refine box_event ?hg (N := 9) ?hd (cs := #[.int .i64 0,.slice none 0 0]) (t := 62) ?hr ?_; (case hd => rfl); (case hg => rfl); (case hr => first | (go_simp; done) | (go_simp; rfl)); intro gb507 hg w16 hbox hb; have n0_ := Aside0.mk (below_step yy1 hb); have n1_ := Aside0.mk (hbox); have n2_ := Aside0.mk ((by rw [hg]; exact (below_size yy1) : w.heap.size ≤ gb507)); have n3_ := Aside0.mk ((by rw [hg]; exact (below_size yy1) : w.heap.size ≤ gb507)); clear HB; have HB := n0_; have BK507 := n1_; have GW507 := n2_; have GE507 := n3_; clear n0_ n1_ n2_ n3_; clear hb hbox hg; have hcz17_0 : w16.cell? ⟨gb507,0,none⟩ = some (.int .i64 0) := (blk_cell BK507.out 0).trans rfl; have hcz17_1 : w16.cell? ⟨gb507,1,none⟩ = some (.slice none 0 0) := (blk_cell BK507.out 1).trans rfl; have hfz17_0 := blk_frozen BK507.out 0; have hfz17_1 := blk_frozen BK507.out 1)); go_upto_region 8 with (first | ((with_reducible refine gate_dst (N := 9) rfl ?_); (try (refine gate_guard (by rfl) ?_; dsimp only)); refine box_event ?hg (N := 9) ?hd (cs := #[.int .i64 0,.slice none 0 0]) (t := 62) ?hr ?_; (case hd => rfl); (case hg => rfl); (case hr => first | (go_simp; done) | (go_simp; rfl)); intro gb507 hg w16 hbox hb; have n0_ := Aside0.mk (below_step yy1 hb); have n1_ := Aside0.mk (hbox); have n2_ := Aside0.mk ((by rw [hg]; exact (below_size yy1) : w.heap.size ≤ gb507)); have n3_ := Aside0.mk ((by rw [hg]; exact (below_size yy1) : w.heap.size ≤ gb507)); clear HB; have HB := n0_; have BK507 := n1_; have GW507 := n2_; have GE507 := n3_; clear n0_ n1_ n2_ n3_; clear hb hbox hg; have hcz17_0 : w16.cell? ⟨gb507,0,none⟩ = some (.int .i64 0) := (blk_cell BK507.out 0).trans rfl; have hcz17_1 : w16.cell? ⟨gb507,1,none⟩ = some (.slice none 0 0) := (blk_cell BK507.out 1).trans rfl; have hfz17_0 := blk_frozen BK507.out 0; have hfz17_1 := blk_frozen BK507.out 1)))
        (try simp only [Act.put,List.setIfInBounds_toArray,List.set_cons_zero,List.set_cons_succ])
        go_cut [58] (fun v58 wc => ∃ (kq : Nat) (x58_14 : Bool),v58 = .bool x58_14 ∧ Aside0 (spec_l26Good.j2 kq l0 l1 a2 x7_2 x8_2 x58_14 ((rd_T62 l1 x8_2).f0) ((rd_T62 l1 x8_2).f1) = some r) ∧ Aside0 (kq ≤ k2) ∧ Aside0 (wc.heap[gb507]? = some (.cells #[.int .i64 ((rd_T62 l1 x8_2).f0),(.slice A506_1 ((rd_T62 l1 x8_2).f1).length c506_1)] 62 (0,0))) ∧ Aside0 (Below w.heap.size w wc))
        case first =>
         have H := HC15.out;clear HC15;replace H := Option.bind_eq_some_iff.mp H;obtain ⟨t508,A180,H⟩ := H;replace H : (if t508 = true then (if x8_2 > 0 then (if 0 ≤ (wrap64 (x8_2 - 1)) then (if (wrap64 (x8_2 - 1)) < (l1.length : Int) then (if ((rd_T62 l1 (wrap64 (x8_2 - 1))).f0) ≥ ((rd_T62 l1 x8_2).f0) then (spec_l26Good.j2 k2 l0 l1 a2 x7_2 x8_2 true ((rd_T62 l1 x8_2).f0) ((rd_T62 l1 x8_2).f1)) else ((spec_l1Rising.f k2 ((rd_T62 l1 x8_2).f1) 1 9999).bind fun t510 => (spec_l26Good.j2 k2 l0 l1 a2 x7_2 x8_2 (!t510) ((rd_T62 l1 x8_2).f0) ((rd_T62 l1 x8_2).f1)))) else (none)) else (none)) else ((spec_l1Rising.f k2 ((rd_T62 l1 x8_2).f1) 1 9999).bind fun t511 => (spec_l26Good.j2 k2 l0 l1 a2 x7_2 x8_2 (!t511) ((rd_T62 l1 x8_2).f0) ((rd_T62 l1 x8_2).f1)))) else (spec_l26Good.j2 k2 l0 l1 a2 x7_2 x8_2 true ((rd_T62 l1 x8_2).f0) ((rd_T62 l1 x8_2).f1))) = some r := H;have A18 := Aside0.mk A180;clear A180;by_cases c19 : t508 = true
         ·subst c19;have H1 : (if x8_2 > 0 then (if 0 ≤ (wrap64 (x8_2 - 1)) then (if (wrap64 (x8_2 - 1)) < (l1.length : Int) then (if ((rd_T62 l1 (wrap64 (x8_2 - 1))).f0) ≥ ((rd_T62 l1 x8_2).f0) then (spec_l26Good.j2 k2 l0 l1 a2 x7_2 x8_2 true ((rd_T62 l1 x8_2).f0) ((rd_T62 l1 x8_2).f1)) else ((spec_l1Rising.f k2 ((rd_T62 l1 x8_2).f1) 1 9999).bind fun t510 => (spec_l26Good.j2 k2 l0 l1 a2 x7_2 x8_2 (!t510) ((rd_T62 l1 x8_2).f0) ((rd_T62 l1 x8_2).f1)))) else (none)) else (none)) else ((spec_l1Rising.f k2 ((rd_T62 l1 x8_2).f1) 1 9999).bind fun t511 => (spec_l26Good.j2 k2 l0 l1 a2 x7_2 x8_2 (!t511) ((rd_T62 l1 x8_2).f0) ((rd_T62 l1 x8_2).f1)))) = some r := by rw [if_pos rfl] at H; exact H
          clear H;have H := H1;clear H1;by_cases c20 : x8_2 > 0
          ·rw [if_pos c20] at H;have c20b0 : decide (0 < x8_2) = true := decide_eq_true c20;clear c20;(first | rw [c20b0] | (simp only [i64_w,i32_w]; rw [c20b0]) | skip)
           obtain ⟨ji21,hji21⟩ : ∃ j_ : Int,(wrap64 (x8_2 - 1)) = j_ := ⟨_,rfl⟩
           replace H : (if 0 ≤ (ji21) then (if (ji21) < (l1.length : Int) then (if ((rd_T62 l1 (ji21)).f0) ≥ ((rd_T62 l1 x8_2).f0) then (spec_l26Good.j2 k2 l0 l1 a2 x7_2 x8_2 true ((rd_T62 l1 x8_2).f0) ((rd_T62 l1 x8_2).f1)) else ((spec_l1Rising.f k2 ((rd_T62 l1 x8_2).f1) 1 9999).bind fun t510 => (spec_l26Good.j2 k2 l0 l1 a2 x7_2 x8_2 (!t510) ((rd_T62 l1 x8_2).f0) ((rd_T62 l1 x8_2).f1)))) else (none)) else (none)) = some r := by first | (rw [hji21] at H; exact H) | (simp only [hji21] at H ⊢; exact H)
           (try rw [hji21] at A18)
           have hji21w : (IntKind.i64.wrap (x8_2 - 1)) = ji21 := (i64_w _).trans hji21;by_cases c22 : 0 ≤ (ji21)
           ·rw [if_pos c22] at H;have c22b0 : decide (0 ≤ (ji21)) = true := decide_eq_true c22;clear c22;by_cases c23 : (ji21) < (l1.length : Int)
            ·rw [if_pos c23] at H;have c23b0 : decide ((ji21) < (l1.length : Int)) = true := decide_eq_true c23;clear c23;by_cases c24 : ((rd_T62 l1 (ji21)).f0) ≥ ((rd_T62 l1 x8_2).f0)
             ·rw [if_pos c24] at H;have c24b0 : decide (((rd_T62 l1 x8_2).f0) ≤ ((rd_T62 l1 (ji21)).f0)) = true := decide_eq_true c24;clear c24;have H' := Aside0.mk H;clear H;have hcz25_0 : w16.cell? ⟨gb507,0,none⟩ = some (.int .i64 0) := (blk_cell BK507.out 0).trans rfl;have hcz25_1 : w16.cell? ⟨gb507,1,none⟩ = some (.slice none 0 0) := (blk_cell BK507.out 1).trans rfl;have hfz25_0 := blk_frozen BK507.out 0;have hfz25_1 := blk_frozen BK507.out 1;go_wp2_with (first | (go_at_call 62; (with_reducible refine (spec_l1In.calls ((rd_T62 l1 x8_2).f0) 1 9999 true _ A18.out).mono ?_); rintro e w' ⟨rfl,⟨nd,rfl⟩⟩; (try exact yy6); have p509 : 0 ≤ ((ji21) : Int) := of_decide_eq_true yy2; have q509 : (ji21) < (l1.length : Int) := of_decide_eq_true yy2; obtain ⟨ad509,A509_1,c509_1,e509,hx509_0,hx509_1,hl509_1,hi509_1⟩ := at_T62 HR1.out (ji21) p509 q509; obtain rfl : ad506 = ad509 := (by injection e509); have hn509_0 : ad506.block ≠ gb507 := Nat.ne_of_lt (Nat.lt_of_lt_of_le yy50 GW507.out); have hn509_1 : ad506.block ≠ gb507 := Nat.ne_of_lt (Nat.lt_of_lt_of_le yy50 GW507.out); replace hx509_0 := pw_cell_below HB.out hx509_0; replace hx509_1 := pw_cell_below HB.out hx509_1; have HR509_1 := Aside0.mk hi509_1; have HC509_1 := Aside0.mk hl509_1; clear hi509_1 hl509_1; replace hx509_0 := (cell_far (p := ⟨gb507,0,none⟩) yy40 (.int .i64 ((rd_T62 l1 x8_2).f0))).trans hx509_0; replace hx509_1 := (cell_far (p := ⟨gb507,0,none⟩) yy40 (.int .i64 ((rd_T62 l1 x8_2).f0))).trans hx509_1; replace hx509_0 := (cell_far (p := ⟨gb507,1,none⟩) yy41 (.slice A506_1 ((rd_T62 l1 x8_2).f1).length c506_1)).trans hx509_0; replace hx509_1 := (cell_far (p := ⟨gb507,1,none⟩) yy41 (.slice A506_1 ((rd_T62 l1 x8_2).f1).length c506_1)).trans hx509_1; (try have hy509_0 := fun (n_ : Nat) => (show ((((w16.drewN n_).setCell ⟨gb507,0,none⟩ (.int .i64 ((rd_T62 l1 x8_2).f0))).setCell ⟨gb507,1,none⟩ (.slice A506_1 ((rd_T62 l1 x8_2).f1).length c506_1))).cell? _ = some _ from hx509_0)); (try have hy509_1 := fun (n_ : Nat) => (show ((((w16.drewN n_).setCell ⟨gb507,0,none⟩ (.int .i64 ((rd_T62 l1 x8_2).f0))).setCell ⟨gb507,1,none⟩ (.slice A506_1 ((rd_T62 l1 x8_2).f1).length c506_1))).cell? _ = some _ from hx509_1)); clear hn509_0; clear hn509_1; replace p509 := eq_true p509; replace q509 := eq_true q509))
              repeat (go_quiet (first | (go_at_call 62; (with_reducible refine (spec_l1In.calls ((rd_T62 l1 x8_2).f0) 1 9999 true _ A18.out).mono ?_); rintro e w' ⟨rfl,⟨nd,rfl⟩⟩; (try exact yy6); have p509 : 0 ≤ ((ji21) : Int) := of_decide_eq_true yy2; have q509 : (ji21) < (l1.length : Int) := of_decide_eq_true yy2; obtain ⟨ad509,A509_1,c509_1,e509,hx509_0,hx509_1,hl509_1,hi509_1⟩ := at_T62 HR1.out (ji21) p509 q509; obtain rfl : ad506 = ad509 := (by injection e509); have hn509_0 : ad506.block ≠ gb507 := Nat.ne_of_lt (Nat.lt_of_lt_of_le yy50 GW507.out); have hn509_1 : ad506.block ≠ gb507 := Nat.ne_of_lt (Nat.lt_of_lt_of_le yy50 GW507.out); replace hx509_0 := pw_cell_below HB.out hx509_0; replace hx509_1 := pw_cell_below HB.out hx509_1; have HR509_1 := Aside0.mk hi509_1; have HC509_1 := Aside0.mk hl509_1; clear hi509_1 hl509_1; replace hx509_0 := (cell_far (p := ⟨gb507,0,none⟩) yy40 (.int .i64 ((rd_T62 l1 x8_2).f0))).trans hx509_0; replace hx509_1 := (cell_far (p := ⟨gb507,0,none⟩) yy40 (.int .i64 ((rd_T62 l1 x8_2).f0))).trans hx509_1; replace hx509_0 := (cell_far (p := ⟨gb507,1,none⟩) yy41 (.slice A506_1 ((rd_T62 l1 x8_2).f1).length c506_1)).trans hx509_0; replace hx509_1 := (cell_far (p := ⟨gb507,1,none⟩) yy41 (.slice A506_1 ((rd_T62 l1 x8_2).f1).length c506_1)).trans hx509_1; (try have hy509_0 := fun (n_ : Nat) => (show ((((w16.drewN n_).setCell ⟨gb507,0,none⟩ (.int .i64 ((rd_T62 l1 x8_2).f0))).setCell ⟨gb507,1,none⟩ (.slice A506_1 ((rd_T62 l1 x8_2).f1).length c506_1))).cell? _ = some _ from hx509_0)); (try have hy509_1 := fun (n_ : Nat) => (show ((((w16.drewN n_).setCell ⟨gb507,0,none⟩ (.int .i64 ((rd_T62 l1 x8_2).f0))).setCell ⟨gb507,1,none⟩ (.slice A506_1 ((rd_T62 l1 x8_2).f1).length c506_1))).cell? _ = some _ from hx509_1)); clear hn509_0; clear hn509_1; replace p509 := eq_true p509; replace q509 := eq_true q509)); try go_wp2_with (first | (go_at_call 62; (with_reducible refine (spec_l1In.calls ((rd_T62 l1 x8_2).f0) 1 9999 true _ A18.out).mono ?_); rintro e w' ⟨rfl,⟨nd,rfl⟩⟩; (try exact yy6); have p509 : 0 ≤ ((ji21) : Int) := of_decide_eq_true yy2; have q509 : (ji21) < (l1.length : Int) := of_decide_eq_true yy2; obtain ⟨ad509,A509_1,c509_1,e509,hx509_0,hx509_1,hl509_1,hi509_1⟩ := at_T62 HR1.out (ji21) p509 q509; obtain rfl : ad506 = ad509 := (by injection e509); have hn509_0 : ad506.block ≠ gb507 := Nat.ne_of_lt (Nat.lt_of_lt_of_le yy50 GW507.out); have hn509_1 : ad506.block ≠ gb507 := Nat.ne_of_lt (Nat.lt_of_lt_of_le yy50 GW507.out); replace hx509_0 := pw_cell_below HB.out hx509_0; replace hx509_1 := pw_cell_below HB.out hx509_1; have HR509_1 := Aside0.mk hi509_1; have HC509_1 := Aside0.mk hl509_1; clear hi509_1 hl509_1; replace hx509_0 := (cell_far (p := ⟨gb507,0,none⟩) yy40 (.int .i64 ((rd_T62 l1 x8_2).f0))).trans hx509_0; replace hx509_1 := (cell_far (p := ⟨gb507,0,none⟩) yy40 (.int .i64 ((rd_T62 l1 x8_2).f0))).trans hx509_1; replace hx509_0 := (cell_far (p := ⟨gb507,1,none⟩) yy41 (.slice A506_1 ((rd_T62 l1 x8_2).f1).length c506_1)).trans hx509_0; replace hx509_1 := (cell_far (p := ⟨gb507,1,none⟩) yy41 (.slice A506_1 ((rd_T62 l1 x8_2).f1).length c506_1)).trans hx509_1; (try have hy509_0 := fun (n_ : Nat) => (show ((((w16.drewN n_).setCell ⟨gb507,0,none⟩ (.int .i64 ((rd_T62 l1 x8_2).f0))).setCell ⟨gb507,1,none⟩ (.slice A506_1 ((rd_T62 l1 x8_2).f1).length c506_1))).cell? _ = some _ from hx509_0)); (try have hy509_1 := fun (n_ : Nat) => (show ((((w16.drewN n_).setCell ⟨gb507,0,none⟩ (.int .i64 ((rd_T62 l1 x8_2).f0))).setCell ⟨gb507,1,none⟩ (.slice A506_1 ((rd_T62 l1 x8_2).f1).length c506_1))).cell? _ = some _ from hx509_1)); clear hn509_0; clear hn509_1; replace p509 := eq_true p509; replace q509 := eq_true q509)))
              go_meet
              case rel => exact ⟨_,(true),yy12,H',⟨yy90⟩,⟨yy39⟩,⟨yy16⟩⟩
             ·rw [if_neg c24] at H;have c24b0 : decide (((rd_T62 l1 x8_2).f0) ≤ ((rd_T62 l1 (ji21)).f0)) = false := decide_eq_false c24;clear c24;replace H := Option.bind_eq_some_iff.mp H;obtain ⟨t510,A260,H⟩ := H;replace H : (spec_l26Good.j2 k2 l0 l1 a2 x7_2 x8_2 (!t510) ((rd_T62 l1 x8_2).f0) ((rd_T62 l1 x8_2).f1)) = some r := H;have A26 := Aside0.mk A260;clear A260;have H' := Aside0.mk H;clear H;have hcz27_0 : w16.cell? ⟨gb507,0,none⟩ = some (.int .i64 0) := (blk_cell BK507.out 0).trans rfl;have hcz27_1 : w16.cell? ⟨gb507,1,none⟩ = some (.slice none 0 0) := (blk_cell BK507.out 1).trans rfl;have hfz27_0 := blk_frozen BK507.out 0;have hfz27_1 := blk_frozen BK507.out 1;go_wp2_with (first | (go_at_call 62; (with_reducible refine (spec_l1In.calls ((rd_T62 l1 x8_2).f0) 1 9999 true _ A18.out).mono ?_); rintro e w' ⟨rfl,⟨nd,rfl⟩⟩; (try exact yy6); have p509 : 0 ≤ ((ji21) : Int) := of_decide_eq_true yy2; have q509 : (ji21) < (l1.length : Int) := of_decide_eq_true yy2; obtain ⟨ad509,A509_1,c509_1,e509,hx509_0,hx509_1,hl509_1,hi509_1⟩ := at_T62 HR1.out (ji21) p509 q509; obtain rfl : ad506 = ad509 := (by injection e509); have hn509_0 : ad506.block ≠ gb507 := Nat.ne_of_lt (Nat.lt_of_lt_of_le yy50 GW507.out); have hn509_1 : ad506.block ≠ gb507 := Nat.ne_of_lt (Nat.lt_of_lt_of_le yy50 GW507.out); replace hx509_0 := pw_cell_below HB.out hx509_0; replace hx509_1 := pw_cell_below HB.out hx509_1; have HR509_1 := Aside0.mk hi509_1; have HC509_1 := Aside0.mk hl509_1; clear hi509_1 hl509_1; replace hx509_0 := (cell_far (p := ⟨gb507,0,none⟩) yy40 (.int .i64 ((rd_T62 l1 x8_2).f0))).trans hx509_0; replace hx509_1 := (cell_far (p := ⟨gb507,0,none⟩) yy40 (.int .i64 ((rd_T62 l1 x8_2).f0))).trans hx509_1; replace hx509_0 := (cell_far (p := ⟨gb507,1,none⟩) yy41 (.slice A506_1 ((rd_T62 l1 x8_2).f1).length c506_1)).trans hx509_0; replace hx509_1 := (cell_far (p := ⟨gb507,1,none⟩) yy41 (.slice A506_1 ((rd_T62 l1 x8_2).f1).length c506_1)).trans hx509_1; (try have hy509_0 := fun (n_ : Nat) => (show ((((w16.drewN n_).setCell ⟨gb507,0,none⟩ (.int .i64 ((rd_T62 l1 x8_2).f0))).setCell ⟨gb507,1,none⟩ (.slice A506_1 ((rd_T62 l1 x8_2).f1).length c506_1))).cell? _ = some _ from hx509_0)); (try have hy509_1 := fun (n_ : Nat) => (show ((((w16.drewN n_).setCell ⟨gb507,0,none⟩ (.int .i64 ((rd_T62 l1 x8_2).f0))).setCell ⟨gb507,1,none⟩ (.slice A506_1 ((rd_T62 l1 x8_2).f1).length c506_1))).cell? _ = some _ from hx509_1)); clear hn509_0; clear hn509_1; replace p509 := eq_true p509; replace q509 := eq_true q509) | (go_at_call 88; (with_reducible refine (spec_l1Rising.calls k2 _ _ ((rd_T62 l1 x8_2).f1) 1 9999 t510 _ ?side1 ?side2 A26.out).mono ?_); (case side1 => exact Kd.C_below HR506_1.out yy16); (case side2 => exact HC506_1.out); rintro e w' ⟨rfl,⟨nd,rfl⟩⟩; (try exact yy6)))
              repeat (go_quiet (first | (go_at_call 62; (with_reducible refine (spec_l1In.calls ((rd_T62 l1 x8_2).f0) 1 9999 true _ A18.out).mono ?_); rintro e w' ⟨rfl,⟨nd,rfl⟩⟩; (try exact yy6); have p509 : 0 ≤ ((ji21) : Int) := of_decide_eq_true yy2; have q509 : (ji21) < (l1.length : Int) := of_decide_eq_true yy2; obtain ⟨ad509,A509_1,c509_1,e509,hx509_0,hx509_1,hl509_1,hi509_1⟩ := at_T62 HR1.out (ji21) p509 q509; obtain rfl : ad506 = ad509 := (by injection e509); have hn509_0 : ad506.block ≠ gb507 := Nat.ne_of_lt (Nat.lt_of_lt_of_le yy50 GW507.out); have hn509_1 : ad506.block ≠ gb507 := Nat.ne_of_lt (Nat.lt_of_lt_of_le yy50 GW507.out); replace hx509_0 := pw_cell_below HB.out hx509_0; replace hx509_1 := pw_cell_below HB.out hx509_1; have HR509_1 := Aside0.mk hi509_1; have HC509_1 := Aside0.mk hl509_1; clear hi509_1 hl509_1; replace hx509_0 := (cell_far (p := ⟨gb507,0,none⟩) yy40 (.int .i64 ((rd_T62 l1 x8_2).f0))).trans hx509_0; replace hx509_1 := (cell_far (p := ⟨gb507,0,none⟩) yy40 (.int .i64 ((rd_T62 l1 x8_2).f0))).trans hx509_1; replace hx509_0 := (cell_far (p := ⟨gb507,1,none⟩) yy41 (.slice A506_1 ((rd_T62 l1 x8_2).f1).length c506_1)).trans hx509_0; replace hx509_1 := (cell_far (p := ⟨gb507,1,none⟩) yy41 (.slice A506_1 ((rd_T62 l1 x8_2).f1).length c506_1)).trans hx509_1; (try have hy509_0 := fun (n_ : Nat) => (show ((((w16.drewN n_).setCell ⟨gb507,0,none⟩ (.int .i64 ((rd_T62 l1 x8_2).f0))).setCell ⟨gb507,1,none⟩ (.slice A506_1 ((rd_T62 l1 x8_2).f1).length c506_1))).cell? _ = some _ from hx509_0)); (try have hy509_1 := fun (n_ : Nat) => (show ((((w16.drewN n_).setCell ⟨gb507,0,none⟩ (.int .i64 ((rd_T62 l1 x8_2).f0))).setCell ⟨gb507,1,none⟩ (.slice A506_1 ((rd_T62 l1 x8_2).f1).length c506_1))).cell? _ = some _ from hx509_1)); clear hn509_0; clear hn509_1; replace p509 := eq_true p509; replace q509 := eq_true q509) | (go_at_call 88; (with_reducible refine (spec_l1Rising.calls k2 _ _ ((rd_T62 l1 x8_2).f1) 1 9999 t510 _ ?side1 ?side2 A26.out).mono ?_); (case side1 => exact Kd.C_below HR506_1.out yy16); (case side2 => exact HC506_1.out); rintro e w' ⟨rfl,⟨nd,rfl⟩⟩; (try exact yy6))); try go_wp2_with (first | (go_at_call 62; (with_reducible refine (spec_l1In.calls ((rd_T62 l1 x8_2).f0) 1 9999 true _ A18.out).mono ?_); rintro e w' ⟨rfl,⟨nd,rfl⟩⟩; (try exact yy6); have p509 : 0 ≤ ((ji21) : Int) := of_decide_eq_true yy2; have q509 : (ji21) < (l1.length : Int) := of_decide_eq_true yy2; obtain ⟨ad509,A509_1,c509_1,e509,hx509_0,hx509_1,hl509_1,hi509_1⟩ := at_T62 HR1.out (ji21) p509 q509; obtain rfl : ad506 = ad509 := (by injection e509); have hn509_0 : ad506.block ≠ gb507 := Nat.ne_of_lt (Nat.lt_of_lt_of_le yy50 GW507.out); have hn509_1 : ad506.block ≠ gb507 := Nat.ne_of_lt (Nat.lt_of_lt_of_le yy50 GW507.out); replace hx509_0 := pw_cell_below HB.out hx509_0; replace hx509_1 := pw_cell_below HB.out hx509_1; have HR509_1 := Aside0.mk hi509_1; have HC509_1 := Aside0.mk hl509_1; clear hi509_1 hl509_1; replace hx509_0 := (cell_far (p := ⟨gb507,0,none⟩) yy40 (.int .i64 ((rd_T62 l1 x8_2).f0))).trans hx509_0; replace hx509_1 := (cell_far (p := ⟨gb507,0,none⟩) yy40 (.int .i64 ((rd_T62 l1 x8_2).f0))).trans hx509_1; replace hx509_0 := (cell_far (p := ⟨gb507,1,none⟩) yy41 (.slice A506_1 ((rd_T62 l1 x8_2).f1).length c506_1)).trans hx509_0; replace hx509_1 := (cell_far (p := ⟨gb507,1,none⟩) yy41 (.slice A506_1 ((rd_T62 l1 x8_2).f1).length c506_1)).trans hx509_1; (try have hy509_0 := fun (n_ : Nat) => (show ((((w16.drewN n_).setCell ⟨gb507,0,none⟩ (.int .i64 ((rd_T62 l1 x8_2).f0))).setCell ⟨gb507,1,none⟩ (.slice A506_1 ((rd_T62 l1 x8_2).f1).length c506_1))).cell? _ = some _ from hx509_0)); (try have hy509_1 := fun (n_ : Nat) => (show ((((w16.drewN n_).setCell ⟨gb507,0,none⟩ (.int .i64 ((rd_T62 l1 x8_2).f0))).setCell ⟨gb507,1,none⟩ (.slice A506_1 ((rd_T62 l1 x8_2).f1).length c506_1))).cell? _ = some _ from hx509_1)); clear hn509_0; clear hn509_1; replace p509 := eq_true p509; replace q509 := eq_true q509) | (go_at_call 88; (with_reducible refine (spec_l1Rising.calls k2 _ _ ((rd_T62 l1 x8_2).f1) 1 9999 t510 _ ?side1 ?side2 A26.out).mono ?_); (case side1 => exact Kd.C_below HR506_1.out yy16); (case side2 => exact HC506_1.out); rintro e w' ⟨rfl,⟨nd,rfl⟩⟩; (try exact yy6))))
              go_meet
              case rel => exact ⟨_,(!t510),yy12,H',⟨yy90⟩,⟨yy39⟩,⟨yy16⟩⟩
            ·rw [if_neg c23] at H;exact absurd H (by simp)
           ·rw [if_neg c22] at H;exact absurd H (by simp)
          ·rw [if_neg c20] at H;have c20b0 : decide (0 < x8_2) = false := decide_eq_false c20;clear c20;(first | rw [c20b0] | (simp only [i64_w,i32_w]; rw [c20b0]) | skip)
           replace H := Option.bind_eq_some_iff.mp H;obtain ⟨t511,A280,H⟩ := H;replace H : (spec_l26Good.j2 k2 l0 l1 a2 x7_2 x8_2 (!t511) ((rd_T62 l1 x8_2).f0) ((rd_T62 l1 x8_2).f1)) = some r := H;have A28 := Aside0.mk A280;clear A280;have H' := Aside0.mk H;clear H;have hcz29_0 : w16.cell? ⟨gb507,0,none⟩ = some (.int .i64 0) := (blk_cell BK507.out 0).trans rfl;have hcz29_1 : w16.cell? ⟨gb507,1,none⟩ = some (.slice none 0 0) := (blk_cell BK507.out 1).trans rfl;have hfz29_0 := blk_frozen BK507.out 0;have hfz29_1 := blk_frozen BK507.out 1;go_wp2_with (first | (go_at_call 62; (with_reducible refine (spec_l1In.calls ((rd_T62 l1 x8_2).f0) 1 9999 true _ A18.out).mono ?_); rintro e w' ⟨rfl,⟨nd,rfl⟩⟩; (try exact yy6)) | (go_at_call 88; (with_reducible refine (spec_l1Rising.calls k2 _ _ ((rd_T62 l1 x8_2).f1) 1 9999 t511 _ ?side1 ?side2 A28.out).mono ?_); (case side1 => exact Kd.C_below HR506_1.out yy16); (case side2 => exact HC506_1.out); rintro e w' ⟨rfl,⟨nd,rfl⟩⟩; (try exact yy6)))
           repeat (go_quiet (first | (go_at_call 62; (with_reducible refine (spec_l1In.calls ((rd_T62 l1 x8_2).f0) 1 9999 true _ A18.out).mono ?_); rintro e w' ⟨rfl,⟨nd,rfl⟩⟩; (try exact yy6)) | (go_at_call 88; (with_reducible refine (spec_l1Rising.calls k2 _ _ ((rd_T62 l1 x8_2).f1) 1 9999 t511 _ ?side1 ?side2 A28.out).mono ?_); (case side1 => exact Kd.C_below HR506_1.out yy16); (case side2 => exact HC506_1.out); rintro e w' ⟨rfl,⟨nd,rfl⟩⟩; (try exact yy6))); try go_wp2_with (first | (go_at_call 62; (with_reducible refine (spec_l1In.calls ((rd_T62 l1 x8_2).f0) 1 9999 true _ A18.out).mono ?_); rintro e w' ⟨rfl,⟨nd,rfl⟩⟩; (try exact yy6)) | (go_at_call 88; (with_reducible refine (spec_l1Rising.calls k2 _ _ ((rd_T62 l1 x8_2).f1) 1 9999 t511 _ ?side1 ?side2 A28.out).mono ?_); (case side1 => exact Kd.C_below HR506_1.out yy16); (case side2 => exact HC506_1.out); rintro e w' ⟨rfl,⟨nd,rfl⟩⟩; (try exact yy6))))
           go_meet
           case rel => exact ⟨_,(!t511),yy12,H',⟨yy90⟩,⟨yy39⟩,⟨yy16⟩⟩
         ·replace c19 := Bool.eq_false_iff.mpr c19;subst c19;have H1 : (spec_l26Good.j2 k2 l0 l1 a2 x7_2 x8_2 true ((rd_T62 l1 x8_2).f0) ((rd_T62 l1 x8_2).f1)) = some r := by rw [if_neg (show ¬ (false = true) by decide)] at H; exact H
          clear H;have H := H1;clear H1;have H' := Aside0.mk H;clear H;have hcz30_0 : w16.cell? ⟨gb507,0,none⟩ = some (.int .i64 0) := (blk_cell BK507.out 0).trans rfl;have hcz30_1 : w16.cell? ⟨gb507,1,none⟩ = some (.slice none 0 0) := (blk_cell BK507.out 1).trans rfl;have hfz30_0 := blk_frozen BK507.out 0;have hfz30_1 := blk_frozen BK507.out 1;go_wp2_with (first | (go_at_call 62; (with_reducible refine (spec_l1In.calls ((rd_T62 l1 x8_2).f0) 1 9999 false _ A18.out).mono ?_); rintro e w' ⟨rfl,⟨nd,rfl⟩⟩; (try exact yy6)))
          repeat (go_quiet (first | (go_at_call 62; (with_reducible refine (spec_l1In.calls ((rd_T62 l1 x8_2).f0) 1 9999 false _ A18.out).mono ?_); rintro e w' ⟨rfl,⟨nd,rfl⟩⟩; (try exact yy6))); try go_wp2_with (first | (go_at_call 62; (with_reducible refine (spec_l1In.calls ((rd_T62 l1 x8_2).f0) 1 9999 false _ A18.out).mono ?_); rintro e w' ⟨rfl,⟨nd,rfl⟩⟩; (try exact yy6))))
          go_meet
          case rel => exact ⟨_,(true),yy12,H',⟨yy90⟩,⟨yy39⟩,⟨yy16⟩⟩
        case rest =>
         clear HC15
         try clear c1
         try clear c2
         try clear p2
         try clear c5
         try clear p5
         try clear q5
         try clear hx5
         try clear c6
         try clear p6
         try clear c7
         try clear c7b0
         try clear c7b1
         try clear c12
         try clear c13
         try clear c13b0
         try clear c14
         try clear c14b0
         try clear c19
         try clear c20
         try clear c20b0
         try clear c22
         try clear c22b0
         try clear c23
         try clear c23b0
         try clear c24
         try clear c24b0
         try clear hcz17_0
         try clear hcz17_1
         try clear hcz25_0
         try clear hcz25_1
         try clear hcz27_0
         try clear hcz27_1
         try clear hcz29_0
         try clear hcz29_1
         try clear hcz30_0
         try clear hcz30_1
         try clear hfz17_0
         try clear hfz17_1
         try clear hfz25_0
         try clear hfz25_1
         try clear hfz27_0
         try clear hfz27_1
         try clear hfz29_0
         try clear hfz29_1
         try clear hfz30_0
         try clear hfz30_1
         try clear hx506_0
         try clear hx506_1
         try clear hx509_0
         try clear hx509_1
         try clear p2
         try clear p506
         try clear p509
         try clear q506
         try clear q509
         obtain ⟨kq,x58_14,rfl,HA,HJ14,BK507,HB⟩ := hcut;cases kq with
         | zero => exact absurd HA.out (by simp [spec_l26Good.j2])
         | succ kj14 =>
          have H := HA.out;clear HA;simp only [spec_l26Good.j2] at H;by_cases c31 : x58_14 = true
          ·subst c31;have H1 : (some false) = some r := by rw [if_pos rfl] at H; exact H
           clear H;have H := H1;clear H1;obtain rfl := Option.some.inj H;go_wp2;repeat (go_quiet (fail); try go_wp2)
           go_ret;exact ⟨yy11,yy16⟩
          ·replace c31 := Bool.eq_false_iff.mpr c31;subst c31;have H1 : (spec_l26Good.l1 kj14 l0 l1 a2 x7_2 x8_2 0 ((rd_T62 l1 x8_2).f0) ((rd_T62 l1 x8_2).f1)) = some r := by rw [if_neg (show ¬ (false = true) by decide)] at H; exact H
           clear H;have H := H1;clear H1;have H' := Aside0.mk H;clear H;go_wp2;repeat (go_quiet (fail); try go_wp2)
           go_loopg [10] kj14 (fun kq v10 w' => ∃ (x10_4 : Int),v10 = .int .i64 x10_4 ∧ Aside0 (spec_l26Good.l1 kq l0 l1 a2 x7_2 x8_2 x10_4 ((rd_T62 l1 x8_2).f0) ((rd_T62 l1 x8_2).f1) = some r) ∧ Aside0 (kq ≤ kj14) ∧ Aside0 (w'.heap[gb507]? = some (.cells #[.int .i64 ((rd_T62 l1 x8_2).f0),(.slice A506_1 ((rd_T62 l1 x8_2).f1).length c506_1)] 62 (0,0))) ∧ Aside0 (Below w.heap.size w w'))
           case atStart => exact ⟨(0),yy12,H',⟨Nat.le_refl _⟩,⟨yy54⟩,⟨yy16⟩⟩
           case round =>
            clear H'
            try clear c1
            try clear c2
            try clear p2
            try clear c3
            try clear c5
            try clear p5
            try clear q5
            try clear hx5
            try clear c6
            try clear p6
            try clear c7
            try clear c7b0
            try clear c7b1
            try clear c12
            try clear c13
            try clear c13b0
            try clear c14
            try clear c14b0
            try clear c19
            try clear c20
            try clear c20b0
            try clear c22
            try clear c22b0
            try clear c23
            try clear c23b0
            try clear c24
            try clear c24b0
            try clear c31
            try clear hcz17_0
            try clear hcz17_1
            try clear hcz25_0
            try clear hcz25_1
            try clear hcz27_0
            try clear hcz27_1
            try clear hcz29_0
            try clear hcz29_1
            try clear hcz30_0
            try clear hcz30_1
            try clear hfz17_0
            try clear hfz17_1
            try clear hfz25_0
            try clear hfz25_1
            try clear hfz27_0
            try clear hfz27_1
            try clear hfz29_0
            try clear hfz29_1
            try clear hfz30_0
            try clear hfz30_1
            try clear hx506_0
            try clear hx506_1
            try clear hx509_0
            try clear hx509_1
            try clear p2
            try clear p5
            try clear p506
            try clear p509
            try clear p6
            try clear q5
            try clear q506
            try clear q509
            obtain ⟨x10_4,rfl,HA,HK4,BK507,HB⟩ := hrel;cases gk with
            | zero => exact absurd HA.out (by simp [spec_l26Good.l1])
            | succ k4 =>
             have H := HA.out;clear HA;simp only [spec_l26Good.l1] at H;by_cases c32 : x10_4 < (((rd_T62 l1 x8_2).f1).length : Int)
             ·rw [if_pos c32] at H;have c32b0 : decide (x10_4 < (((rd_T62 l1 x8_2).f1).length : Int)) = true := decide_eq_true c32;clear c32;by_cases c33 : 0 ≤ x10_4
              ·rw [if_pos c33] at H;have c33b0 : decide (0 ≤ x10_4) = true := decide_eq_true c33;clear c33;replace H := Option.bind_eq_some_iff.mp H;obtain ⟨t514,A340,H⟩ := H;replace H : (if t514 < 0 then (some false) else ((spec_l26Box.f k4 l1 (rd ((rd_T62 l1 x8_2).f1) x10_4)).bind fun t516 => (if t516 = x8_2 then (spec_l26Good.l1 k4 l0 l1 a2 x7_2 x8_2 (wrap64 (x10_4 + 1)) ((rd_T62 l1 x8_2).f0) ((rd_T62 l1 x8_2).f1)) else (some false)))) = some r := H;have A34 := Aside0.mk A340;clear A340;by_cases c35 : t514 < 0
               ·rw [if_pos c35] at H;have c35b0 : decide (t514 < 0) = true := decide_eq_true c35;clear c35;obtain rfl := Option.some.inj H;have hcz36_0 : wr.cell? ⟨gb507,0,none⟩ = some (.int .i64 ((rd_T62 l1 x8_2).f0)) := (blk_cell BK507.out 0).trans rfl;have hcz36_1 : wr.cell? ⟨gb507,1,none⟩ = some (.slice A506_1 ((rd_T62 l1 x8_2).f1).length c506_1) := (blk_cell BK507.out 1).trans rfl;have hfz36_0 := blk_frozen BK507.out 0;have hfz36_1 := blk_frozen BK507.out 1;have p513 : 0 ≤ (x10_4 : Int) := of_decide_eq_true yy2;have q513 : x10_4 < (((rd_T62 l1 x8_2).f1).length : Int) := of_decide_eq_true yy2;obtain ⟨ad513,e513,hx513_0⟩ := Kd.at_int HR506_1.out x10_4 p513 q513;cases e513;replace hx513_0 := pw_cell_below HB.out hx513_0;replace p513 := eq_true p513;replace q513 := eq_true q513;go_wp2_with (first | (go_at_call 34; (with_reducible refine (spec_l26Find.calls k4 _ _ l0 (rd ((rd_T62 l1 x8_2).f1) x10_4) t514 _ ?side1 ?side2 A34.out).mono ?_); (case side1 => exact yy4); (case side2 => exact HC0.out); rintro e w' ⟨rfl,⟨nd,rfl⟩⟩; (try exact yy6)))
                repeat (go_quiet (first | (go_at_call 34; (with_reducible refine (spec_l26Find.calls k4 _ _ l0 (rd ((rd_T62 l1 x8_2).f1) x10_4) t514 _ ?side1 ?side2 A34.out).mono ?_); (case side1 => exact yy4); (case side2 => exact HC0.out); rintro e w' ⟨rfl,⟨nd,rfl⟩⟩; (try exact yy6))); try go_wp2_with (first | (go_at_call 34; (with_reducible refine (spec_l26Find.calls k4 _ _ l0 (rd ((rd_T62 l1 x8_2).f1) x10_4) t514 _ ?side1 ?side2 A34.out).mono ?_); (case side1 => exact yy4); (case side2 => exact HC0.out); rintro e w' ⟨rfl,⟨nd,rfl⟩⟩; (try exact yy6))))
                go_ret;exact ⟨yy11,yy16⟩
               ·rw [if_neg c35] at H;have c35b0 : decide (t514 < 0) = false := decide_eq_false c35;clear c35;replace H := Option.bind_eq_some_iff.mp H;obtain ⟨t516,A370,H⟩ := H;replace H : (if t516 = x8_2 then (spec_l26Good.l1 k4 l0 l1 a2 x7_2 x8_2 (wrap64 (x10_4 + 1)) ((rd_T62 l1 x8_2).f0) ((rd_T62 l1 x8_2).f1)) else (some false)) = some r := H;have A37 := Aside0.mk A370;clear A370;by_cases c38 : t516 = x8_2
                ·rw [if_pos c38] at H;have c38b0 : (t516 == x8_2) = true := beq_iff_eq.mpr c38;have c38b1 : (t516 != x8_2) = false := bne_eq_false_iff_eq.mpr c38;clear c38;have H' := Aside0.mk H;clear H;have hcz39_0 : wr.cell? ⟨gb507,0,none⟩ = some (.int .i64 ((rd_T62 l1 x8_2).f0)) := (blk_cell BK507.out 0).trans rfl;have hcz39_1 : wr.cell? ⟨gb507,1,none⟩ = some (.slice A506_1 ((rd_T62 l1 x8_2).f1).length c506_1) := (blk_cell BK507.out 1).trans rfl;have hfz39_0 := blk_frozen BK507.out 0;have hfz39_1 := blk_frozen BK507.out 1;have p513 : 0 ≤ (x10_4 : Int) := of_decide_eq_true yy2;have q513 : x10_4 < (((rd_T62 l1 x8_2).f1).length : Int) := of_decide_eq_true yy2;obtain ⟨ad513,e513,hx513_0⟩ := Kd.at_int HR506_1.out x10_4 p513 q513;cases e513;replace hx513_0 := pw_cell_below HB.out hx513_0;replace p513 := eq_true p513;replace q513 := eq_true q513;go_wp2_with (first | (go_at_call 34; (with_reducible refine (spec_l26Find.calls k4 _ _ l0 (rd ((rd_T62 l1 x8_2).f1) x10_4) t514 _ ?side1 ?side2 A34.out).mono ?_); (case side1 => exact yy4); (case side2 => exact HC0.out); rintro e w' ⟨rfl,⟨nd,rfl⟩⟩; (try exact yy6); have p515 : 0 ≤ (x10_4 : Int) := of_decide_eq_true yy2; have q515 : x10_4 < (((rd_T62 l1 x8_2).f1).length : Int) := of_decide_eq_true yy2; obtain ⟨ad515,e515,hx515_0⟩ := Kd.at_int HR506_1.out x10_4 p515 q515; obtain rfl : ad513 = ad515 := (by injection e515); replace hx515_0 := pw_cell_below HB.out hx515_0; replace p515 := eq_true p515; replace q515 := eq_true q515) | (go_at_call 36; (with_reducible refine (spec_l26Box.calls k4 _ _ l1 (rd ((rd_T62 l1 x8_2).f1) x10_4) t516 _ ?side1 ?side2 A37.out).mono ?_); (case side1 => exact yy123); (case side2 => exact HC1.out); rintro e w' ⟨rfl,⟨nd,rfl⟩⟩; (try exact yy6)))
                 repeat (go_quiet (first | (go_at_call 34; (with_reducible refine (spec_l26Find.calls k4 _ _ l0 (rd ((rd_T62 l1 x8_2).f1) x10_4) t514 _ ?side1 ?side2 A34.out).mono ?_); (case side1 => exact yy4); (case side2 => exact HC0.out); rintro e w' ⟨rfl,⟨nd,rfl⟩⟩; (try exact yy6); have p515 : 0 ≤ (x10_4 : Int) := of_decide_eq_true yy2; have q515 : x10_4 < (((rd_T62 l1 x8_2).f1).length : Int) := of_decide_eq_true yy2; obtain ⟨ad515,e515,hx515_0⟩ := Kd.at_int HR506_1.out x10_4 p515 q515; obtain rfl : ad513 = ad515 := (by injection e515); replace hx515_0 := pw_cell_below HB.out hx515_0; replace p515 := eq_true p515; replace q515 := eq_true q515) | (go_at_call 36; (with_reducible refine (spec_l26Box.calls k4 _ _ l1 (rd ((rd_T62 l1 x8_2).f1) x10_4) t516 _ ?side1 ?side2 A37.out).mono ?_); (case side1 => exact yy123); (case side2 => exact HC1.out); rintro e w' ⟨rfl,⟨nd,rfl⟩⟩; (try exact yy6))); try go_wp2_with (first | (go_at_call 34; (with_reducible refine (spec_l26Find.calls k4 _ _ l0 (rd ((rd_T62 l1 x8_2).f1) x10_4) t514 _ ?side1 ?side2 A34.out).mono ?_); (case side1 => exact yy4); (case side2 => exact HC0.out); rintro e w' ⟨rfl,⟨nd,rfl⟩⟩; (try exact yy6); have p515 : 0 ≤ (x10_4 : Int) := of_decide_eq_true yy2; have q515 : x10_4 < (((rd_T62 l1 x8_2).f1).length : Int) := of_decide_eq_true yy2; obtain ⟨ad515,e515,hx515_0⟩ := Kd.at_int HR506_1.out x10_4 p515 q515; obtain rfl : ad513 = ad515 := (by injection e515); replace hx515_0 := pw_cell_below HB.out hx515_0; replace p515 := eq_true p515; replace q515 := eq_true q515) | (go_at_call 36; (with_reducible refine (spec_l26Box.calls k4 _ _ l1 (rd ((rd_T62 l1 x8_2).f1) x10_4) t516 _ ?side1 ?side2 A37.out).mono ?_); (case side1 => exact yy123); (case side2 => exact HC1.out); rintro e w' ⟨rfl,⟨nd,rfl⟩⟩; (try exact yy6))))
                 go_roundg k4
                 case measure => have := HJ3.out; have := HK2.out; have := HJ14.out; have := HK4.out; omega
                 case rel => exact ⟨(wrap64 (x10_4 + 1)),yy12,H',⟨(by have := HJ3.out; have := HK2.out; have := HJ14.out; have := HK4.out; omega)⟩,⟨yy54⟩,⟨yy16⟩⟩
                ·rw [if_neg c38] at H;have c38b0 : (t516 == x8_2) = false := beq_eq_false_iff_ne.mpr c38;have c38b1 : (t516 != x8_2) = true := bne_iff_ne.mpr c38;obtain rfl := Option.some.inj H;have hcz40_0 : wr.cell? ⟨gb507,0,none⟩ = some (.int .i64 ((rd_T62 l1 x8_2).f0)) := (blk_cell BK507.out 0).trans rfl;have hcz40_1 : wr.cell? ⟨gb507,1,none⟩ = some (.slice A506_1 ((rd_T62 l1 x8_2).f1).length c506_1) := (blk_cell BK507.out 1).trans rfl;have hfz40_0 := blk_frozen BK507.out 0;have hfz40_1 := blk_frozen BK507.out 1;have p513 : 0 ≤ (x10_4 : Int) := of_decide_eq_true yy2;have q513 : x10_4 < (((rd_T62 l1 x8_2).f1).length : Int) := of_decide_eq_true yy2;obtain ⟨ad513,e513,hx513_0⟩ := Kd.at_int HR506_1.out x10_4 p513 q513;cases e513;replace hx513_0 := pw_cell_below HB.out hx513_0;replace p513 := eq_true p513;replace q513 := eq_true q513;go_wp2_with (first | (go_at_call 34; (with_reducible refine (spec_l26Find.calls k4 _ _ l0 (rd ((rd_T62 l1 x8_2).f1) x10_4) t514 _ ?side1 ?side2 A34.out).mono ?_); (case side1 => exact yy4); (case side2 => exact HC0.out); rintro e w' ⟨rfl,⟨nd,rfl⟩⟩; (try exact yy6); have p515 : 0 ≤ (x10_4 : Int) := of_decide_eq_true yy2; have q515 : x10_4 < (((rd_T62 l1 x8_2).f1).length : Int) := of_decide_eq_true yy2; obtain ⟨ad515,e515,hx515_0⟩ := Kd.at_int HR506_1.out x10_4 p515 q515; obtain rfl : ad513 = ad515 := (by injection e515); replace hx515_0 := pw_cell_below HB.out hx515_0; replace p515 := eq_true p515; replace q515 := eq_true q515) | (go_at_call 36; (with_reducible refine (spec_l26Box.calls k4 _ _ l1 (rd ((rd_T62 l1 x8_2).f1) x10_4) t516 _ ?side1 ?side2 A37.out).mono ?_); (case side1 => exact yy123); (case side2 => exact HC1.out); rintro e w' ⟨rfl,⟨nd,rfl⟩⟩; (try exact yy6)))
                 repeat (go_quiet (first | (go_at_call 34; (with_reducible refine (spec_l26Find.calls k4 _ _ l0 (rd ((rd_T62 l1 x8_2).f1) x10_4) t514 _ ?side1 ?side2 A34.out).mono ?_); (case side1 => exact yy4); (case side2 => exact HC0.out); rintro e w' ⟨rfl,⟨nd,rfl⟩⟩; (try exact yy6); have p515 : 0 ≤ (x10_4 : Int) := of_decide_eq_true yy2; have q515 : x10_4 < (((rd_T62 l1 x8_2).f1).length : Int) := of_decide_eq_true yy2; obtain ⟨ad515,e515,hx515_0⟩ := Kd.at_int HR506_1.out x10_4 p515 q515; obtain rfl : ad513 = ad515 := (by injection e515); replace hx515_0 := pw_cell_below HB.out hx515_0; replace p515 := eq_true p515; replace q515 := eq_true q515) | (go_at_call 36; (with_reducible refine (spec_l26Box.calls k4 _ _ l1 (rd ((rd_T62 l1 x8_2).f1) x10_4) t516 _ ?side1 ?side2 A37.out).mono ?_); (case side1 => exact yy123); (case side2 => exact HC1.out); rintro e w' ⟨rfl,⟨nd,rfl⟩⟩; (try exact yy6))); try go_wp2_with (first | (go_at_call 34; (with_reducible refine (spec_l26Find.calls k4 _ _ l0 (rd ((rd_T62 l1 x8_2).f1) x10_4) t514 _ ?side1 ?side2 A34.out).mono ?_); (case side1 => exact yy4); (case side2 => exact HC0.out); rintro e w' ⟨rfl,⟨nd,rfl⟩⟩; (try exact yy6); have p515 : 0 ≤ (x10_4 : Int) := of_decide_eq_true yy2; have q515 : x10_4 < (((rd_T62 l1 x8_2).f1).length : Int) := of_decide_eq_true yy2; obtain ⟨ad515,e515,hx515_0⟩ := Kd.at_int HR506_1.out x10_4 p515 q515; obtain rfl : ad513 = ad515 := (by injection e515); replace hx515_0 := pw_cell_below HB.out hx515_0; replace p515 := eq_true p515; replace q515 := eq_true q515) | (go_at_call 36; (with_reducible refine (spec_l26Box.calls k4 _ _ l1 (rd ((rd_T62 l1 x8_2).f1) x10_4) t516 _ ?side1 ?side2 A37.out).mono ?_); (case side1 => exact yy123); (case side2 => exact HC1.out); rintro e w' ⟨rfl,⟨nd,rfl⟩⟩; (try exact yy6))))
                 go_ret;exact ⟨yy11,yy16⟩
              ·rw [if_neg c33] at H;exact absurd H (by simp)
             ·rw [if_neg c32] at H;have c32b0 : decide (x10_4 < (((rd_T62 l1 x8_2).f1).length : Int)) = false := decide_eq_false c32;clear c32;replace H := Option.bind_eq_some_iff.mp H;obtain ⟨t512,A410,H⟩ := H;replace H : (if t512 = true then (spec_l26Good.l0 k4 l0 l1 a2 (wrap64 (x7_2 + (((rd_T62 l1 x8_2).f1).length : Int))) (wrap64 (x8_2 + 1))) else (some false)) = some r := H;have A41 := Aside0.mk A410;clear A410;by_cases c42 : t512 = true
              ·subst c42;have H1 : (spec_l26Good.l0 k4 l0 l1 a2 (wrap64 (x7_2 + (((rd_T62 l1 x8_2).f1).length : Int))) (wrap64 (x8_2 + 1))) = some r := by rw [if_pos rfl] at H; exact H
               clear H;have H := H1;clear H1;have H' := Aside0.mk H;clear H;have hcz43_0 : wr.cell? ⟨gb507,0,none⟩ = some (.int .i64 ((rd_T62 l1 x8_2).f0)) := (blk_cell BK507.out 0).trans rfl;have hcz43_1 : wr.cell? ⟨gb507,1,none⟩ = some (.slice A506_1 ((rd_T62 l1 x8_2).f1).length c506_1) := (blk_cell BK507.out 1).trans rfl;have hfz43_0 := blk_frozen BK507.out 0;have hfz43_1 := blk_frozen BK507.out 1;go_wp2_with (first | (go_at_call 66; (with_reducible refine (spec_l26Fits.calls k4 _ _ l0 _ _ ((rd_T62 l1 x8_2).f1) a2 true _ ?side1 ?side2 ?side3 ?side4 A41.out).mono ?_); (case side1 => exact yy4); (case side2 => exact HC0.out); (case side3 => exact yy52); (case side4 => exact HC506_1.out); rintro e w44 ⟨rfl,hb⟩; have n0_ := Aside0.mk (blk_below (g := gb507) (o := .cells #[.int .i64 ((rd_T62 l1 x8_2).f0),.slice A506_1 ((rd_T62 l1 x8_2).f1).length c506_1] 62 (0,0)) yy54 hb); have n1_ := Aside0.mk (below_step yy16 hb); clear BK507; clear HB; have BK507 := n0_; have HB := n1_; clear n0_ n1_; (try clear hb); (try clear hb2); (try clear hk); (try clear hi); have hcz45_0 : w44.cell? ⟨gb507,0,none⟩ = some (.int .i64 ((rd_T62 l1 x8_2).f0)) := (blk_cell BK507.out 0).trans rfl; have hcz45_1 : w44.cell? ⟨gb507,1,none⟩ = some (.slice A506_1 ((rd_T62 l1 x8_2).f1).length c506_1) := (blk_cell BK507.out 1).trans rfl; have hfz45_0 := blk_frozen BK507.out 0; have hfz45_1 := blk_frozen BK507.out 1))
               repeat (go_quiet (first | (go_at_call 66; (with_reducible refine (spec_l26Fits.calls k4 _ _ l0 _ _ ((rd_T62 l1 x8_2).f1) a2 true _ ?side1 ?side2 ?side3 ?side4 A41.out).mono ?_); (case side1 => exact yy4); (case side2 => exact HC0.out); (case side3 => exact yy52); (case side4 => exact HC506_1.out); rintro e w44 ⟨rfl,hb⟩; have n0_ := Aside0.mk (blk_below (g := gb507) (o := .cells #[.int .i64 ((rd_T62 l1 x8_2).f0),.slice A506_1 ((rd_T62 l1 x8_2).f1).length c506_1] 62 (0,0)) yy54 hb); have n1_ := Aside0.mk (below_step yy16 hb); clear BK507; clear HB; have BK507 := n0_; have HB := n1_; clear n0_ n1_; (try clear hb); (try clear hb2); (try clear hk); (try clear hi); have hcz45_0 : w44.cell? ⟨gb507,0,none⟩ = some (.int .i64 ((rd_T62 l1 x8_2).f0)) := (blk_cell BK507.out 0).trans rfl; have hcz45_1 : w44.cell? ⟨gb507,1,none⟩ = some (.slice A506_1 ((rd_T62 l1 x8_2).f1).length c506_1) := (blk_cell BK507.out 1).trans rfl; have hfz45_0 := blk_frozen BK507.out 0; have hfz45_1 := blk_frozen BK507.out 1)); try go_wp2_with (first | (go_at_call 66; (with_reducible refine (spec_l26Fits.calls k4 _ _ l0 _ _ ((rd_T62 l1 x8_2).f1) a2 true _ ?side1 ?side2 ?side3 ?side4 A41.out).mono ?_); (case side1 => exact yy4); (case side2 => exact HC0.out); (case side3 => exact yy52); (case side4 => exact HC506_1.out); rintro e w44 ⟨rfl,hb⟩; have n0_ := Aside0.mk (blk_below (g := gb507) (o := .cells #[.int .i64 ((rd_T62 l1 x8_2).f0),.slice A506_1 ((rd_T62 l1 x8_2).f1).length c506_1] 62 (0,0)) yy54 hb); have n1_ := Aside0.mk (below_step yy16 hb); clear BK507; clear HB; have BK507 := n0_; have HB := n1_; clear n0_ n1_; (try clear hb); (try clear hb2); (try clear hk); (try clear hi); have hcz45_0 : w44.cell? ⟨gb507,0,none⟩ = some (.int .i64 ((rd_T62 l1 x8_2).f0)) := (blk_cell BK507.out 0).trans rfl; have hcz45_1 : w44.cell? ⟨gb507,1,none⟩ = some (.slice A506_1 ((rd_T62 l1 x8_2).f1).length c506_1) := (blk_cell BK507.out 1).trans rfl; have hfz45_0 := blk_frozen BK507.out 0; have hfz45_1 := blk_frozen BK507.out 1)))
               go_roundg k4
               case measure => have := HJ3.out; have := HK2.out; have := HJ14.out; have := HK4.out; omega
               case rel => exact ⟨(wrap64 (x7_2 + (((rd_T62 l1 x8_2).f1).length : Int))),(wrap64 (x8_2 + 1)),yy12,yy12,H',⟨(by have := HJ3.out; have := HK2.out; have := HJ14.out; have := HK4.out; omega)⟩,⟨yy16⟩⟩
              ·replace c42 := Bool.eq_false_iff.mpr c42;subst c42;have H1 : (some false) = some r := by rw [if_neg (show ¬ (false = true) by decide)] at H; exact H
               clear H;have H := H1;clear H1;obtain rfl := Option.some.inj H;have hcz46_0 : wr.cell? ⟨gb507,0,none⟩ = some (.int .i64 ((rd_T62 l1 x8_2).f0)) := (blk_cell BK507.out 0).trans rfl;have hcz46_1 : wr.cell? ⟨gb507,1,none⟩ = some (.slice A506_1 ((rd_T62 l1 x8_2).f1).length c506_1) := (blk_cell BK507.out 1).trans rfl;have hfz46_0 := blk_frozen BK507.out 0;have hfz46_1 := blk_frozen BK507.out 1;go_wp2_with (first | (go_at_call 66; (with_reducible refine (spec_l26Fits.calls k4 _ _ l0 _ _ ((rd_T62 l1 x8_2).f1) a2 false _ ?side1 ?side2 ?side3 ?side4 A41.out).mono ?_); (case side1 => exact yy4); (case side2 => exact HC0.out); (case side3 => exact yy52); (case side4 => exact HC506_1.out); rintro e w47 ⟨rfl,hb⟩; have n0_ := Aside0.mk (blk_below (g := gb507) (o := .cells #[.int .i64 ((rd_T62 l1 x8_2).f0),.slice A506_1 ((rd_T62 l1 x8_2).f1).length c506_1] 62 (0,0)) yy54 hb); have n1_ := Aside0.mk (below_step yy16 hb); clear BK507; clear HB; have BK507 := n0_; have HB := n1_; clear n0_ n1_; (try clear hb); (try clear hb2); (try clear hk); (try clear hi)))
               repeat (go_quiet (first | (go_at_call 66; (with_reducible refine (spec_l26Fits.calls k4 _ _ l0 _ _ ((rd_T62 l1 x8_2).f1) a2 false _ ?side1 ?side2 ?side3 ?side4 A41.out).mono ?_); (case side1 => exact yy4); (case side2 => exact HC0.out); (case side3 => exact yy52); (case side4 => exact HC506_1.out); rintro e w47 ⟨rfl,hb⟩; have n0_ := Aside0.mk (blk_below (g := gb507) (o := .cells #[.int .i64 ((rd_T62 l1 x8_2).f0),.slice A506_1 ((rd_T62 l1 x8_2).f1).length c506_1] 62 (0,0)) yy54 hb); have n1_ := Aside0.mk (below_step yy16 hb); clear BK507; clear HB; have BK507 := n0_; have HB := n1_; clear n0_ n1_; (try clear hb); (try clear hb2); (try clear hk); (try clear hi))); try go_wp2_with (first | (go_at_call 66; (with_reducible refine (spec_l26Fits.calls k4 _ _ l0 _ _ ((rd_T62 l1 x8_2).f1) a2 false _ ?side1 ?side2 ?side3 ?side4 A41.out).mono ?_); (case side1 => exact yy4); (case side2 => exact HC0.out); (case side3 => exact yy52); (case side4 => exact HC506_1.out); rintro e w47 ⟨rfl,hb⟩; have n0_ := Aside0.mk (blk_below (g := gb507) (o := .cells #[.int .i64 ((rd_T62 l1 x8_2).f0),.slice A506_1 ((rd_T62 l1 x8_2).f1).length c506_1] 62 (0,0)) yy54 hb); have n1_ := Aside0.mk (below_step yy16 hb); clear BK507; clear HB; have BK507 := n0_; have HB := n1_; clear n0_ n1_; (try clear hb); (try clear hb2); (try clear hk); (try clear hi))))
               go_ret;exact ⟨yy11,yy16⟩
       ·rw [if_neg c14] at H;exact absurd H (by simp)
      ·rw [if_neg c13] at H;have c13b0 : decide (x8_2 < (l1.length : Int)) = false := decide_eq_false c13;clear c13;obtain rfl := Option.some.inj H;go_wp2;repeat (go_quiet (fail); try go_wp2)
       go_ret;exact ⟨yy11,yy1⟩
end Go.Proofs.Ytoadgikbbigdlaa.B
