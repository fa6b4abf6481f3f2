import Derived.Test.YtoadgikbbigdlaaMsWAb
import Derived.Test.YtoadgikbbigdlaaMsBx0
import Derived.Test.YtoadgikbbigdlaaMsBx3
import Derived.Test.YtoadgikbbigdlaaMsBx4
namespace Go.Proofs.Ytoadgikbbigdlaa.B
open Go.RowKit Go.Proofs.YtoadgikbbigdlaaW.PrintWords Go.Proofs.YtoadgikbbigdlaaW.PrintLast Go.Proofs.YtoadgikbbigdlaaW.PrintMore
attribute [local go_sem] max2_int min2_int max_two min_two max_three min_three max_four min_four   -- for this text's walks alone
set_option linter.unusedVariables false
set_option linter.unusedSimpArgs false
def spec_l26Ready.l0 : Nat → List (S50) → Int → Int → Option (Bool)
 | 0,_,_,_ => none
 | k + 1,x0,x1,x5 => if x5 < (x0.length : Int) then (if 0 ≤ x5 then (if ((rd_T50 x0 x5).f2) > x1 then (some false) else (spec_l26Ready.l0 k x0 x1 (wrap64 (x5 + 1)))) else (none)) else ((spec_l26Items.f k x0).bind fun t160 => (if t160 = true then ((spec_l1In.f x1 1 10000).bind fun t161 => (some t161)) else (some false)))
def spec_l26Ready.f (k : Nat) (l0 : List (S50)) (a1 : Int) : Option (Bool) := spec_l26Ready.l0 k l0 a1 0
theorem spec_l26Ready.mono_l : ∀ k,(∀ y0 y1 y2,LeO (spec_l26Ready.l0 k y0 y1 y2) (spec_l26Ready.l0 (k + 1) y0 y1 y2))
 | 0 => fun _ _ _ r h => by simp [spec_l26Ready.l0] at h
 | k + 1 => by
  have ih0 := spec_l26Ready.mono_l k
  ·intro y0 y1 y2;unfold spec_l26Ready.l0;repeat' first
   | (with_reducible exact ih0 _ _ _)
   | (with_reducible exact spec_l26Items.mono _ _)
   | (with_reducible exact LeO.refl _)
   | (with_reducible exact LeO.none _)
   | (with_reducible refine LeO.ite ?_ ?_)
   | (with_reducible refine LeO.bind ?_ (fun _ => ?_))
   | exact ih0 _ _ _
   | exact spec_l26Items.mono _ _
   | exact LeO.none _
   | refine LeO.ite ?_ ?_
   | refine LeO.bind ?_ (fun _ => ?_)
theorem spec_l26Ready.mono : ∀ a0 a1 k,LeO (spec_l26Ready.f k a0 a1) (spec_l26Ready.f (k + 1) a0 a1) := by
 intro a0 a1 k;have ih0 := spec_l26Ready.mono_l k;unfold spec_l26Ready.f;repeat' first
   | (with_reducible exact ih0 _ _ _)
   | (with_reducible exact spec_l26Items.mono _ _)
   | (with_reducible exact LeO.refl _)
   | (with_reducible exact LeO.none _)
   | (with_reducible refine LeO.ite ?_ ?_)
   | (with_reducible refine LeO.bind ?_ (fun _ => ?_))
   | exact ih0 _ _ _
   | exact spec_l26Items.mono _ _
   | exact LeO.none _
   | refine LeO.ite ?_ ?_
   | refine LeO.bind ?_ (fun _ => ?_)
set_option maxHeartbeats 8000000 in
set_option maxRecDepth 100000 in
theorem spec_l26Ready.calls (k : Nat) (A0 : Option Addr) (c0 : Nat) (l0 : List (S50)) (a1 : Int) (r : Bool) (w : World) (hr0 : Kd.C k50 w A0 l0.length l0) (hc0 : l0.length ≤ c0) (h : spec_l26Ready.f k l0 a1 = some r) :
  Calls Try.prog 64 #[.slice A0 l0.length c0,.int .i64 a1] w fun e w' => e = .returned (.bool r) ∧ Below w.heap.size w w' := by
 have HR0 := Aside0.mk hr0;have HC0 := Aside0.mk hc0;clear hr0 hc0;have HB := Aside0.mk (Below.refl w.heap.size w);have H : (spec_l26Ready.l0 k l0 a1 0) = some r := h;clear h;have H' := Aside0.mk H;clear H;go_enter Try.func64,Try.ntmps64;go_wp2
 go_loopg [5] k (fun kq v5 w' => ∃ (x5_1 : Int),v5 = .int .i64 x5_1 ∧ Aside0 (spec_l26Ready.l0 kq l0 a1 x5_1 = some r) ∧ Aside0 (kq ≤ k) ∧ Aside0 (Below w.heap.size w w'))
 case atStart => exact ⟨(0),yy12,H',⟨Nat.le_refl _⟩,⟨yy1⟩⟩
 case round =>
  clear H'
  try clear p2
  obtain ⟨x5_1,rfl,HA,HK1,HB⟩ := hrel;cases gk with
  | zero => exact absurd HA.out (by simp [spec_l26Ready.l0])
  | succ k1 =>
   have H := HA.out;clear HA;simp only [spec_l26Ready.l0] at H;by_cases c3 : x5_1 < (l0.length : Int)
   ·rw [if_pos c3] at H;have c3b0 : decide (x5_1 < (l0.length : Int)) = true := decide_eq_true c3;clear c3;by_cases c4 : 0 ≤ x5_1
    ·rw [if_pos c4] at H;have c4b0 : decide (0 ≤ x5_1) = true := decide_eq_true c4;clear c4;by_cases c5 : ((rd_T50 l0 x5_1).f2) > a1
     ·rw [if_pos c5] at H;have c5b0 : decide (a1 < ((rd_T50 l0 x5_1).f2)) = true := decide_eq_true c5;clear c5;obtain rfl := Option.some.inj H;have p159 : 0 ≤ (x5_1 : Int) := of_decide_eq_true yy2;have q159 : x5_1 < (l0.length : Int) := of_decide_eq_true yy2;obtain ⟨ad159,e159,hx159_0,hx159_1,hx159_2⟩ := at_T50 HR0.out x5_1 p159 q159;cases e159;replace hx159_0 := pw_cell_below HB.out hx159_0;replace hx159_1 := pw_cell_below HB.out hx159_1;replace hx159_2 := pw_cell_below HB.out hx159_2;replace p159 := eq_true p159;replace q159 := eq_true q159;go_wp2;go_ret;exact ⟨yy11,yy1⟩
     ·rw [if_neg c5] at H;have c5b0 : decide (a1 < ((rd_T50 l0 x5_1).f2)) = false := decide_eq_false c5;clear c5;have H' := Aside0.mk H;clear H;have p159 : 0 ≤ (x5_1 : Int) := of_decide_eq_true yy2;have q159 : x5_1 < (l0.length : Int) := of_decide_eq_true yy2;obtain ⟨ad159,e159,hx159_0,hx159_1,hx159_2⟩ := at_T50 HR0.out x5_1 p159 q159;cases e159;replace hx159_0 := pw_cell_below HB.out hx159_0;replace hx159_1 := pw_cell_below HB.out hx159_1;replace hx159_2 := pw_cell_below HB.out hx159_2;replace p159 := eq_true p159;replace q159 := eq_true q159;go_wp2
      go_roundg k1
      case measure => have := HK1.out; omega
      case rel => exact ⟨(wrap64 (x5_1 + 1)),yy12,H',⟨by have := HK1.out; omega⟩,⟨yy1⟩⟩
    ·rw [if_neg c4] at H;exact absurd H (by simp)
   ·rw [if_neg c3] at H;have c3b0 : decide (x5_1 < (l0.length : Int)) = false := decide_eq_false c3;clear c3;replace H := Option.bind_eq_some_iff.mp H;obtain ⟨t160,A60,H⟩ := H;replace H : (if t160 = true then ((spec_l1In.f a1 1 10000).bind fun t161 => (some t161)) else (some false)) = some r := H;have A6 := Aside0.mk A60;clear A60;by_cases c7 : t160 = true
    ·subst c7;have H1 : ((spec_l1In.f a1 1 10000).bind fun t161 => (some t161)) = some r := by rw [if_pos rfl] at H; exact H
     clear H;have H := H1;clear H1;replace H := Option.bind_eq_some_iff.mp H;obtain ⟨t161,A80,H⟩ := H;replace H : (some t161) = some r := H;have A8 := Aside0.mk A80;clear A80;obtain rfl := Option.some.inj H;go_wp2_with (first | ((with_reducible refine gate_callee (f := 33) rfl ?_); refine goesL_ (some 20) rfl rfl Try.func33 (by kernel_rfl) rfl #[.slice A0 l0.length c0] rfl yy3 ?_; (with_reducible refine (spec_l26Items.calls k1 _ _ l0 true _ ?side1 ?side2 A6.out).mono ?_); (case side1 => exact yy4); (case side2 => exact HC0.out); rintro e w9 ⟨rfl,hb⟩; refine ⟨_,rfl,?_⟩; have n0_ := Aside0.mk (below_step yy1 hb); clear HB; have HB := n0_; clear n0_; (try clear hb); (try clear hb2); (try clear hk); (try clear hi)) | (go_at_call 62; (with_reducible refine (spec_l1In.calls a1 1 10000 t161 _ A8.out).mono ?_); rintro e w' ⟨rfl,⟨nd,rfl⟩⟩))
     go_ret;exact ⟨yy11,yy1⟩
    ·replace c7 := Bool.eq_false_iff.mpr c7;subst c7;have H1 : (some false) = some r := by rw [if_neg (show ¬ (false = true) by decide)] at H; exact H
     clear H;have H := H1;clear H1;obtain rfl := Option.some.inj H;go_wp2_with (first | ((with_reducible refine gate_callee (f := 33) rfl ?_); refine goesL_ (some 20) rfl rfl Try.func33 (by kernel_rfl) rfl #[.slice A0 l0.length c0] rfl yy3 ?_; (with_reducible refine (spec_l26Items.calls k1 _ _ l0 false _ ?side1 ?side2 A6.out).mono ?_); (case side1 => exact yy4); (case side2 => exact HC0.out); rintro e w10 ⟨rfl,hb⟩; refine ⟨_,rfl,?_⟩; have n0_ := Aside0.mk (below_step yy1 hb); clear HB; have HB := n0_; clear n0_; (try clear hb); (try clear hb2); (try clear hk); (try clear hi)))
     go_ret;exact ⟨yy11,yy1⟩
def spec_l26Find.l0 : Nat → List (S50) → Int → Int → Option (Int)
 | 0,_,_,_ => none
 | k + 1,x0,x1,x5 => if x5 < (x0.length : Int) then (if 0 ≤ x5 then (if ((rd_T50 x0 x5).f0) = x1 then (some x5) else (spec_l26Find.l0 k x0 x1 (wrap64 (x5 + 1)))) else (none)) else (some (-1))
def spec_l26Find.f (k : Nat) (l0 : List (S50)) (a1 : Int) : Option (Int) := spec_l26Find.l0 k l0 a1 0
theorem spec_l26Find.mono_l : ∀ k,(∀ y0 y1 y2,LeO (spec_l26Find.l0 k y0 y1 y2) (spec_l26Find.l0 (k + 1) y0 y1 y2))
 | 0 => fun _ _ _ r h => by simp [spec_l26Find.l0] at h
 | k + 1 => by
  have ih0 := spec_l26Find.mono_l k
  ·intro y0 y1 y2;unfold spec_l26Find.l0;repeat' first
   | (with_reducible exact ih0 _ _ _)
   | (with_reducible exact LeO.refl _)
   | (with_reducible exact LeO.none _)
   | (with_reducible refine LeO.ite ?_ ?_)
   | (with_reducible refine LeO.bind ?_ (fun _ => ?_))
   | exact ih0 _ _ _
   | exact LeO.none _
   | refine LeO.ite ?_ ?_
   | refine LeO.bind ?_ (fun _ => ?_)
theorem spec_l26Find.mono : ∀ a0 a1 k,LeO (spec_l26Find.f k a0 a1) (spec_l26Find.f (k + 1) a0 a1) := by
 intro a0 a1 k;have ih0 := spec_l26Find.mono_l k;unfold spec_l26Find.f;repeat' first
   | (with_reducible exact ih0 _ _ _)
   | (with_reducible exact LeO.refl _)
   | (with_reducible exact LeO.none _)
   | (with_reducible refine LeO.ite ?_ ?_)
   | (with_reducible refine LeO.bind ?_ (fun _ => ?_))
   | exact ih0 _ _ _
   | exact LeO.none _
   | refine LeO.ite ?_ ?_
   | refine LeO.bind ?_ (fun _ => ?_)
set_option maxHeartbeats 8000000 in
set_option maxRecDepth 100000 in
theorem spec_l26Find.calls (k : Nat) (A0 : Option Addr) (c0 : Nat) (l0 : List (S50)) (a1 : Int) (r : Int) (w : World) (hr0 : Kd.C k50 w A0 l0.length l0) (hc0 : l0.length ≤ c0) (h : spec_l26Find.f k l0 a1 = some r) :
  Calls Try.prog 34 #[.slice A0 l0.length c0,.int .i64 a1] w fun e w' => e = .returned (.int .i64 r) ∧ Drawn0 w w' := by
 have HR0 := Aside0.mk hr0;have HC0 := Aside0.mk hc0;clear hr0 hc0;have H : (spec_l26Find.l0 k l0 a1 0) = some r := h;clear h;have H' := Aside0.mk H;clear H;go_enter Try.func34,Try.ntmps34;go_wp2
 go_loopg [5] k (fun kq v5 w' => ∃ (x5_1 : Int),v5 = .int .i64 x5_1 ∧ Aside0 (spec_l26Find.l0 kq l0 a1 x5_1 = some r) ∧ Aside0 (kq ≤ k) ∧ Drawn0 w w')
 case atStart => exact ⟨(0),yy12,H',⟨Nat.le_refl _⟩,yy26⟩
 case round =>
  clear H'
  try clear p2
  obtain ⟨x5_1,rfl,HA,HK1,⟨m1,rfl⟩⟩ := hrel;cases gk with
  | zero => exact absurd HA.out (by simp [spec_l26Find.l0])
  | succ k1 =>
   have H := HA.out;clear HA;simp only [spec_l26Find.l0] at H;by_cases c3 : x5_1 < (l0.length : Int)
   ·rw [if_pos c3] at H;have c3b0 : decide (x5_1 < (l0.length : Int)) = true := decide_eq_true c3;clear c3;by_cases c4 : 0 ≤ x5_1
    ·rw [if_pos c4] at H;have c4b0 : decide (0 ≤ x5_1) = true := decide_eq_true c4;clear c4;by_cases c5 : ((rd_T50 l0 x5_1).f0) = a1
     ·rw [if_pos c5] at H;have c5b0 : (((rd_T50 l0 x5_1).f0) == a1) = true := beq_iff_eq.mpr c5;have c5b1 : (((rd_T50 l0 x5_1).f0) != a1) = false := bne_eq_false_iff_eq.mpr c5;clear c5;obtain rfl := Option.some.inj H;have p162 : 0 ≤ (x5_1 : Int) := of_decide_eq_true yy2;have q162 : x5_1 < (l0.length : Int) := of_decide_eq_true yy2;obtain ⟨ad162,e162,hx162_0,hx162_1,hx162_2⟩ := at_T50 HR0.out x5_1 p162 q162;cases e162;replace p162 := eq_true p162;replace q162 := eq_true q162;go_wp2;go_ret;exact ⟨yy12,yy26⟩
     ·rw [if_neg c5] at H;have c5b0 : (((rd_T50 l0 x5_1).f0) == a1) = false := beq_eq_false_iff_ne.mpr c5;have c5b1 : (((rd_T50 l0 x5_1).f0) != a1) = true := bne_iff_ne.mpr c5;have H' := Aside0.mk H;clear H;have p162 : 0 ≤ (x5_1 : Int) := of_decide_eq_true yy2;have q162 : x5_1 < (l0.length : Int) := of_decide_eq_true yy2;obtain ⟨ad162,e162,hx162_0,hx162_1,hx162_2⟩ := at_T50 HR0.out x5_1 p162 q162;cases e162;replace p162 := eq_true p162;replace q162 := eq_true q162;go_wp2
      go_roundg k1
      case measure => have := HK1.out; omega
      case rel => exact ⟨(wrap64 (x5_1 + 1)),yy12,H',⟨by have := HK1.out; omega⟩,yy26⟩
    ·rw [if_neg c4] at H;exact absurd H (by simp)
   ·rw [if_neg c3] at H;have c3b0 : decide (x5_1 < (l0.length : Int)) = false := decide_eq_false c3;clear c3;obtain rfl := Option.some.inj H;go_wp2;go_ret;exact ⟨yy12,yy26⟩
end Go.Proofs.Ytoadgikbbigdlaa.B
