import Derived.Test.YtoadgikbbigdlaaMsWAb
import Derived.Test.YtoadgikbbigdlaaMsBx0
import Derived.Test.YtoadgikbbigdlaaMsBx5
namespace Go.Proofs.Ytoadgikbbigdlaa.B
open Go.RowKit Go.Proofs.YtoadgikbbigdlaaW.PrintWords Go.Proofs.YtoadgikbbigdlaaW.PrintLast Go.Proofs.YtoadgikbbigdlaaW.PrintMore
attribute [local go_sem] max2_int min2_int max_two min_two max_three min_three max_four min_four   -- for this text's walks alone
set_option linter.unusedVariables false
set_option linter.unusedSimpArgs false
def spec_l26Share.f (a0 : Int) (a1 : Int) : Option (Bool) := if ((a0 == 2) != (a1 == 2)) = true then (some false) else (if a0 = 3 then (if a1 = 4 then (some (!true)) else (if a0 = 4 then (some (!(a1 == 3))) else (some (!false)))) else (if a0 = 4 then (some (!(a1 == 3))) else (some (!false))))
set_option maxHeartbeats 8000000 in
set_option maxRecDepth 100000 in
theorem spec_l26Share.calls (a0 : Int) (a1 : Int) (r : Bool) (w : World) (h : spec_l26Share.f a0 a1 = some r) :
  Calls Try.prog 63 #[.int .i64 a0,.int .i64 a1] w fun e w' => e = .returned (.bool r) ∧ Drawn0 w w' := by
 have H : (if ((a0 == 2) != (a1 == 2)) = true then (some false) else (if a0 = 3 then (if a1 = 4 then (some (!true)) else (if a0 = 4 then (some (!(a1 == 3))) else (some (!false)))) else (if a0 = 4 then (some (!(a1 == 3))) else (some (!false))))) = some r := h;clear h;by_cases c3 : ((a0 == 2) != (a1 == 2)) = true
 ·rw [if_pos c3] at H;have c3b0 : ((a0 == 2) != (a1 == 2)) = true := c3;(try (have c3b1 : decide ((a0 == 2) = (a1 == 2)) = false := by simpa using c3))
  (try (have c3b2 : ((a0 == 2) == (a1 == 2)) = false := by simpa using c3))
  (try (have c3b3 : ¬ ((a0 == 2) = (a1 == 2)) := by simpa using c3))
  clear c3;obtain rfl := Option.some.inj H;go_enter Try.func63,Try.ntmps63;go_wp2;go_ret;exact ⟨yy12,yy26⟩
 ·rw [if_neg c3] at H;have c3b0 : ((a0 == 2) != (a1 == 2)) = false := by simpa using c3
  (try (have c3b1 : decide ((a0 == 2) = (a1 == 2)) = true := by simpa using c3))
  (try (have c3b2 : ((a0 == 2) == (a1 == 2)) = true := by simpa using c3))
  clear c3;by_cases c4 : a0 = 3
  ·rw [if_pos c4] at H;have c4b0 : (a0 == 3) = true := beq_iff_eq.mpr c4;have c4b1 : (a0 != 3) = false := bne_eq_false_iff_eq.mpr c4;clear c4;by_cases c5 : a1 = 4
   ·rw [if_pos c5] at H;have c5b0 : (a1 == 4) = true := beq_iff_eq.mpr c5;have c5b1 : (a1 != 4) = false := bne_eq_false_iff_eq.mpr c5;clear c5;obtain rfl := Option.some.inj H;go_enter Try.func63,Try.ntmps63;go_wp2;go_ret;exact ⟨yy12,yy26⟩
   ·rw [if_neg c5] at H;have c5b0 : (a1 == 4) = false := beq_eq_false_iff_ne.mpr c5;have c5b1 : (a1 != 4) = true := bne_iff_ne.mpr c5;by_cases c6 : a0 = 4
    ·rw [if_pos c6] at H;have c6b0 : (a0 == 4) = true := beq_iff_eq.mpr c6;have c6b1 : (a0 != 4) = false := bne_eq_false_iff_eq.mpr c6;clear c6;obtain rfl := Option.some.inj H;go_enter Try.func63,Try.ntmps63;go_wp2;go_ret;exact ⟨yy12,yy26⟩
    ·rw [if_neg c6] at H;have c6b0 : (a0 == 4) = false := beq_eq_false_iff_ne.mpr c6;have c6b1 : (a0 != 4) = true := bne_iff_ne.mpr c6;obtain rfl := Option.some.inj H;go_enter Try.func63,Try.ntmps63;go_wp2;go_ret;exact ⟨yy12,yy26⟩
  ·rw [if_neg c4] at H;have c4b0 : (a0 == 3) = false := beq_eq_false_iff_ne.mpr c4;have c4b1 : (a0 != 3) = true := bne_iff_ne.mpr c4;by_cases c7 : a0 = 4
   ·rw [if_pos c7] at H;have c7b0 : (a0 == 4) = true := beq_iff_eq.mpr c7;have c7b1 : (a0 != 4) = false := bne_eq_false_iff_eq.mpr c7;clear c7;obtain rfl := Option.some.inj H;go_enter Try.func63,Try.ntmps63;go_wp2;go_ret;exact ⟨yy12,yy26⟩
   ·rw [if_neg c7] at H;have c7b0 : (a0 == 4) = false := beq_eq_false_iff_ne.mpr c7;have c7b1 : (a0 != 4) = true := bne_iff_ne.mpr c7;obtain rfl := Option.some.inj H;go_enter Try.func63,Try.ntmps63;go_wp2;go_ret;exact ⟨yy12,yy26⟩
mutual
def spec_l26Fits.l0 : Nat → List (S50) → List Int → Int → Int → Int → Option (Bool)
 | 0,_,_,_,_,_ => none
 | k + 1,x0,x1,x2,x7,x8 => if x8 < (x1.length : Int) then (if 0 ≤ x8 then ((spec_l26Find.f k x0 (rd x1 x8)).bind fun t223 => (if 0 ≤ t223 then (if t223 < (x0.length : Int) then (spec_l26Fits.l1 k x0 x1 x2 (wrap64 (x7 + ((rd_T50 x0 t223).f2))) x8 0 ((rd_T50 x0 t223).f0) ((rd_T50 x0 t223).f1) ((rd_T50 x0 t223).f2)) else (none)) else (none))) else (none)) else (some (decide (x7 ≤ x2)))
def spec_l26Fits.l1 : Nat → List (S50) → List Int → Int → Int → Int → Int → Int → Int → Int → Option (Bool)
 | 0,_,_,_,_,_,_,_,_,_ => none
 | k + 1,x0,x1,x2,x7,x8,x10,x226000,x226001,x226002 => if x10 < x8 then (if 0 ≤ x10 then (if x10 < (x1.length : Int) then ((spec_l26Find.f k x0 (rd x1 x10)).bind fun t227 => (if 0 ≤ t227 then (if t227 < (x0.length : Int) then ((spec_l26Share.f x226001 ((rd_T50 x0 t227).f1)).bind fun t229 => (if t229 = true then (spec_l26Fits.l1 k x0 x1 x2 x7 x8 (wrap64 (x10 + 1)) x226000 x226001 x226002) else (some false))) else (none)) else (none))) else (none)) else (none)) else (spec_l26Fits.l0 k x0 x1 x2 x7 (wrap64 (x8 + 1)))
end
def spec_l26Fits.f (k : Nat) (l0 : List (S50)) (l1 : List Int) (a2 : Int) : Option (Bool) := spec_l26Fits.l0 k l0 l1 a2 0 0
theorem spec_l26Fits.mono_l : ∀ k,(∀ y0 y1 y2 y3 y4,LeO (spec_l26Fits.l0 k y0 y1 y2 y3 y4) (spec_l26Fits.l0 (k + 1) y0 y1 y2 y3 y4)) ∧ (∀ y0 y1 y2 y3 y4 y5 y6 y7 y8,LeO (spec_l26Fits.l1 k y0 y1 y2 y3 y4 y5 y6 y7 y8) (spec_l26Fits.l1 (k + 1) y0 y1 y2 y3 y4 y5 y6 y7 y8))
 | 0 => ⟨fun _ _ _ _ _ r h => by simp [spec_l26Fits.l0] at h,fun _ _ _ _ _ _ _ _ _ r h => by simp [spec_l26Fits.l1] at h⟩
 | k + 1 => by
  obtain ⟨ih0,ih1⟩ := spec_l26Fits.mono_l k;refine ⟨?_,?_⟩
  ·intro y0 y1 y2 y3 y4;unfold spec_l26Fits.l0;repeat' first
   | (with_reducible exact ih0 _ _ _ _ _)
   | (with_reducible exact ih1 _ _ _ _ _ _ _ _ _)
   | (with_reducible exact spec_l26Find.mono _ _ _)
   | (with_reducible exact LeO.refl _)
   | (with_reducible exact LeO.none _)
   | (with_reducible refine LeO.ite ?_ ?_)
   | (with_reducible refine LeO.bind ?_ (fun _ => ?_))
   | exact ih0 _ _ _ _ _
   | exact ih1 _ _ _ _ _ _ _ _ _
   | exact spec_l26Find.mono _ _ _
   | exact LeO.none _
   | refine LeO.ite ?_ ?_
   | refine LeO.bind ?_ (fun _ => ?_)
  ·intro y0 y1 y2 y3 y4 y5 y6 y7 y8;unfold spec_l26Fits.l1;repeat' first
   | (with_reducible exact ih0 _ _ _ _ _)
   | (with_reducible exact ih1 _ _ _ _ _ _ _ _ _)
   | (with_reducible exact spec_l26Find.mono _ _ _)
   | (with_reducible exact LeO.refl _)
   | (with_reducible exact LeO.none _)
   | (with_reducible refine LeO.ite ?_ ?_)
   | (with_reducible refine LeO.bind ?_ (fun _ => ?_))
   | exact ih0 _ _ _ _ _
   | exact ih1 _ _ _ _ _ _ _ _ _
   | exact spec_l26Find.mono _ _ _
   | exact LeO.none _
   | refine LeO.ite ?_ ?_
   | refine LeO.bind ?_ (fun _ => ?_)
theorem spec_l26Fits.mono : ∀ a0 a1 a2 k,LeO (spec_l26Fits.f k a0 a1 a2) (spec_l26Fits.f (k + 1) a0 a1 a2) := by
 intro a0 a1 a2 k;obtain ⟨ih0,ih1⟩ := spec_l26Fits.mono_l k;unfold spec_l26Fits.f;repeat' first
   | (with_reducible exact ih0 _ _ _ _ _)
   | (with_reducible exact ih1 _ _ _ _ _ _ _ _ _)
   | (with_reducible exact spec_l26Find.mono _ _ _)
   | (with_reducible exact LeO.refl _)
   | (with_reducible exact LeO.none _)
   | (with_reducible refine LeO.ite ?_ ?_)
   | (with_reducible refine LeO.bind ?_ (fun _ => ?_))
   | exact ih0 _ _ _ _ _
   | exact ih1 _ _ _ _ _ _ _ _ _
   | exact spec_l26Find.mono _ _ _
   | exact LeO.none _
   | refine LeO.ite ?_ ?_
   | refine LeO.bind ?_ (fun _ => ?_)
set_option maxHeartbeats 8000000 in
set_option maxRecDepth 100000 in
theorem spec_l26Fits.calls (k : Nat) (A0 : Option Addr) (c0 : Nat) (l0 : List (S50)) (A1 : Option Addr) (c1 : Nat) (l1 : List Int) (a2 : Int) (r : Bool) (w : World) (hr0 : Kd.C k50 w A0 l0.length l0) (hc0 : l0.length ≤ c0) (hr1 : Kd.C (Kd.int .i64) w A1 l1.length l1) (hc1 : l1.length ≤ c1) (h : spec_l26Fits.f k l0 l1 a2 = some r) :
  Calls Try.prog 66 #[.slice A0 l0.length c0,.slice A1 l1.length c1,.int .i64 a2] w fun e w' => e = .returned (.bool r) ∧ Below w.heap.size w w' := by
 have hu50 := Try.underlying50;have HR0 := Aside0.mk hr0;have HC0 := Aside0.mk hc0;clear hr0 hc0;have HR1 := Aside0.mk hr1;have HC1 := Aside0.mk hc1;clear hr1 hc1;have HB := Aside0.mk (Below.refl w.heap.size w);have H : (spec_l26Fits.l0 k l0 l1 a2 0 0) = some r := h;clear h;have H' := Aside0.mk H;clear H;go_enter Try.func66,Try.ntmps66;go_wp2;repeat (go_quiet (fail); try go_wp2)
 go_loopg [7,8] k (fun kq v7 v8 w' => ∃ (x7_1 : Int) (x8_1 : Int),v7 = .int .i64 x7_1 ∧ v8 = .int .i64 x8_1 ∧ Aside0 (spec_l26Fits.l0 kq l0 l1 a2 x7_1 x8_1 = some r) ∧ Aside0 (kq ≤ k) ∧ Aside0 (Below w.heap.size w w'))
 case atStart => exact ⟨(0),(0),yy12,yy12,H',⟨Nat.le_refl _⟩,⟨yy1⟩⟩
 case round =>
  clear H'
  try clear c1
  try clear p2
  obtain ⟨x7_1,x8_1,rfl,rfl,HA,HK1,HB⟩ := hrel;cases gk with
  | zero => exact absurd HA.out (by simp [spec_l26Fits.l0])
  | succ k1 =>
   have H := HA.out;clear HA;simp only [spec_l26Fits.l0] at H;by_cases c4 : x8_1 < (l1.length : Int)
   ·rw [if_pos c4] at H;have c4b0 : decide (x8_1 < (l1.length : Int)) = true := decide_eq_true c4;clear c4;by_cases c5 : 0 ≤ x8_1
    ·rw [if_pos c5] at H;have c5b0 : decide (0 ≤ x8_1) = true := decide_eq_true c5;clear c5;replace H := Option.bind_eq_some_iff.mp H;obtain ⟨t223,A60,H⟩ := H;replace H : (if 0 ≤ t223 then (if t223 < (l0.length : Int) then (spec_l26Fits.l1 k1 l0 l1 a2 (wrap64 (x7_1 + ((rd_T50 l0 t223).f2))) x8_1 0 ((rd_T50 l0 t223).f0) ((rd_T50 l0 t223).f1) ((rd_T50 l0 t223).f2)) else (none)) else (none)) = some r := H;have A6 := Aside0.mk A60;clear A60;by_cases c7 : 0 ≤ t223
     ·rw [if_pos c7] at H;have c7b0 : decide (0 ≤ t223) = true := decide_eq_true c7;clear c7;by_cases c8 : t223 < (l0.length : Int)
      ·rw [if_pos c8] at H;have c8b0 : decide (t223 < (l0.length : Int)) = true := decide_eq_true c8;clear c8;have H' := Aside0.mk H;clear H;have p222 : 0 ≤ (x8_1 : Int) := of_decide_eq_true yy2;have q222 : x8_1 < (l1.length : Int) := of_decide_eq_true yy2;obtain ⟨ad222,e222,hx222_0⟩ := Kd.at_int HR1.out x8_1 p222 q222;cases e222;replace hx222_0 := pw_cell_below HB.out hx222_0;replace p222 := eq_true p222;replace q222 := eq_true q222;go_wp2_with (first | (go_at_call 34; (with_reducible refine (spec_l26Find.calls k1 _ _ l0 (rd l1 x8_1) t223 _ ?side1 ?side2 A6.out).mono ?_); (case side1 => exact yy4); (case side2 => exact HC0.out); rintro e w' ⟨rfl,⟨nd,rfl⟩⟩; (try exact yy6); have p224 : 0 ≤ (t223 : Int) := of_decide_eq_true yy2; have q224 : t223 < (l0.length : Int) := of_decide_eq_true yy2; obtain ⟨ad224,e224,hx224_0,hx224_1,hx224_2⟩ := at_T50 HR0.out t223 p224 q224; cases e224; replace hx224_0 := pw_cell_below HB.out hx224_0; replace hx224_1 := pw_cell_below HB.out hx224_1; replace hx224_2 := pw_cell_below HB.out hx224_2; replace p224 := eq_true p224; replace q224 := eq_true q224) | ((with_reducible refine gate_dst (N := 9) rfl ?_); refine box_event ?hg (N := 9) ?hd (cs := #[.int .i64 0,.int .i64 0,.int .i64 0]) (t := 50) ?hr ?_; (case hd => rfl); (case hg => rfl); (case hr => first | (go_simp; done) | (go_simp; rfl)); intro gb225 hg w9 hbox hb; have n0_ := Aside0.mk (below_step yy1 hb); have n1_ := Aside0.mk (hbox); have n2_ := Aside0.mk ((by rw [hg]; exact (below_size yy1) : w.heap.size ≤ gb225)); have n3_ := Aside0.mk ((by rw [hg]; exact (below_size yy1) : w.heap.size ≤ gb225)); clear HB; have HB := n0_; have BK225 := n1_; have GW225 := n2_; have GE225 := n3_; clear n0_ n1_ n2_ n3_; clear hb hbox hg; have hcz10_0 : w9.cell? ⟨gb225,0,none⟩ = some (.int .i64 0) := (blk_cell BK225.out 0).trans rfl; have hcz10_1 : w9.cell? ⟨gb225,1,none⟩ = some (.int .i64 0) := (blk_cell BK225.out 1).trans rfl; have hcz10_2 : w9.cell? ⟨gb225,2,none⟩ = some (.int .i64 0) := (blk_cell BK225.out 2).trans rfl; have hfz10_0 := blk_frozen BK225.out 0; have hfz10_1 := blk_frozen BK225.out 1; have hfz10_2 := blk_frozen BK225.out 2))
       repeat (go_quiet (first | (go_at_call 34; (with_reducible refine (spec_l26Find.calls k1 _ _ l0 (rd l1 x8_1) t223 _ ?side1 ?side2 A6.out).mono ?_); (case side1 => exact yy4); (case side2 => exact HC0.out); rintro e w' ⟨rfl,⟨nd,rfl⟩⟩; (try exact yy6); have p224 : 0 ≤ (t223 : Int) := of_decide_eq_true yy2; have q224 : t223 < (l0.length : Int) := of_decide_eq_true yy2; obtain ⟨ad224,e224,hx224_0,hx224_1,hx224_2⟩ := at_T50 HR0.out t223 p224 q224; cases e224; replace hx224_0 := pw_cell_below HB.out hx224_0; replace hx224_1 := pw_cell_below HB.out hx224_1; replace hx224_2 := pw_cell_below HB.out hx224_2; replace p224 := eq_true p224; replace q224 := eq_true q224) | ((with_reducible refine gate_dst (N := 9) rfl ?_); refine box_event ?hg (N := 9) ?hd (cs := #[.int .i64 0,.int .i64 0,.int .i64 0]) (t := 50) ?hr ?_; (case hd => rfl); (case hg => rfl); (case hr => first | (go_simp; done) | (go_simp; rfl)); intro gb225 hg w9 hbox hb; have n0_ := Aside0.mk (below_step yy1 hb); have n1_ := Aside0.mk (hbox); have n2_ := Aside0.mk ((by rw [hg]; exact (below_size yy1) : w.heap.size ≤ gb225)); have n3_ := Aside0.mk ((by rw [hg]; exact (below_size yy1) : w.heap.size ≤ gb225)); clear HB; have HB := n0_; have BK225 := n1_; have GW225 := n2_; have GE225 := n3_; clear n0_ n1_ n2_ n3_; clear hb hbox hg; have hcz10_0 : w9.cell? ⟨gb225,0,none⟩ = some (.int .i64 0) := (blk_cell BK225.out 0).trans rfl; have hcz10_1 : w9.cell? ⟨gb225,1,none⟩ = some (.int .i64 0) := (blk_cell BK225.out 1).trans rfl; have hcz10_2 : w9.cell? ⟨gb225,2,none⟩ = some (.int .i64 0) := (blk_cell BK225.out 2).trans rfl; have hfz10_0 := blk_frozen BK225.out 0; have hfz10_1 := blk_frozen BK225.out 1; have hfz10_2 := blk_frozen BK225.out 2)); try go_wp2_with (first | (go_at_call 34; (with_reducible refine (spec_l26Find.calls k1 _ _ l0 (rd l1 x8_1) t223 _ ?side1 ?side2 A6.out).mono ?_); (case side1 => exact yy4); (case side2 => exact HC0.out); rintro e w' ⟨rfl,⟨nd,rfl⟩⟩; (try exact yy6); have p224 : 0 ≤ (t223 : Int) := of_decide_eq_true yy2; have q224 : t223 < (l0.length : Int) := of_decide_eq_true yy2; obtain ⟨ad224,e224,hx224_0,hx224_1,hx224_2⟩ := at_T50 HR0.out t223 p224 q224; cases e224; replace hx224_0 := pw_cell_below HB.out hx224_0; replace hx224_1 := pw_cell_below HB.out hx224_1; replace hx224_2 := pw_cell_below HB.out hx224_2; replace p224 := eq_true p224; replace q224 := eq_true q224) | ((with_reducible refine gate_dst (N := 9) rfl ?_); refine box_event ?hg (N := 9) ?hd (cs := #[.int .i64 0,.int .i64 0,.int .i64 0]) (t := 50) ?hr ?_; (case hd => rfl); (case hg => rfl); (case hr => first | (go_simp; done) | (go_simp; rfl)); intro gb225 hg w9 hbox hb; have n0_ := Aside0.mk (below_step yy1 hb); have n1_ := Aside0.mk (hbox); have n2_ := Aside0.mk ((by rw [hg]; exact (below_size yy1) : w.heap.size ≤ gb225)); have n3_ := Aside0.mk ((by rw [hg]; exact (below_size yy1) : w.heap.size ≤ gb225)); clear HB; have HB := n0_; have BK225 := n1_; have GW225 := n2_; have GE225 := n3_; clear n0_ n1_ n2_ n3_; clear hb hbox hg; have hcz10_0 : w9.cell? ⟨gb225,0,none⟩ = some (.int .i64 0) := (blk_cell BK225.out 0).trans rfl; have hcz10_1 : w9.cell? ⟨gb225,1,none⟩ = some (.int .i64 0) := (blk_cell BK225.out 1).trans rfl; have hcz10_2 : w9.cell? ⟨gb225,2,none⟩ = some (.int .i64 0) := (blk_cell BK225.out 2).trans rfl; have hfz10_0 := blk_frozen BK225.out 0; have hfz10_1 := blk_frozen BK225.out 1; have hfz10_2 := blk_frozen BK225.out 2)))
       go_loopg [10] k1 (fun kq v10 w' => ∃ (x10_2 : Int),v10 = .int .i64 x10_2 ∧ Aside0 (spec_l26Fits.l1 kq l0 l1 a2 (wrap64 (x7_1 + ((rd_T50 l0 t223).f2))) x8_1 x10_2 ((rd_T50 l0 t223).f0) ((rd_T50 l0 t223).f1) ((rd_T50 l0 t223).f2) = some r) ∧ Aside0 (kq ≤ k1) ∧ Aside0 (w'.heap[gb225]? = some (.cells #[.int .i64 ((rd_T50 l0 t223).f0),.int .i64 ((rd_T50 l0 t223).f1),.int .i64 ((rd_T50 l0 t223).f2)] 50 (0,0))) ∧ Aside0 (Below w.heap.size w w'))
       case atStart => exact ⟨(0),yy12,H',⟨Nat.le_refl _⟩,⟨(by (with_reducible repeat (first | refine blk_drewN ?_ _ | refine blk_drew ?_ | refine blk_alloc ?_ _)); refine blk_put (cs := #[.int .i64 ((rd_T50 l0 t223).f0),.int .i64 ((rd_T50 l0 t223).f1),.int .i64 0]) ?_ 2 _ rfl; (with_reducible repeat (first | refine blk_drewN ?_ _ | refine blk_drew ?_ | refine blk_alloc ?_ _)); refine blk_put (cs := #[.int .i64 ((rd_T50 l0 t223).f0),.int .i64 0,.int .i64 0]) ?_ 1 _ rfl; (with_reducible repeat (first | refine blk_drewN ?_ _ | refine blk_drew ?_ | refine blk_alloc ?_ _)); refine blk_put (cs := #[.int .i64 0,.int .i64 0,.int .i64 0]) ?_ 0 _ rfl; (with_reducible repeat (first | refine blk_drewN ?_ _ | refine blk_drew ?_ | refine blk_alloc ?_ _)); exact BK225.out)⟩,⟨yy80⟩⟩
       case round =>
        clear H'
        try clear c1
        try clear p2
        try clear q2
        try clear hx2
        try clear c4
        try clear c4b0
        try clear c5
        try clear c5b0
        try clear c6
        try clear p6
        try clear c7
        try clear c7b0
        try clear c8
        try clear c8b0
        try clear hcz10_0
        try clear hcz10_1
        try clear hcz10_2
        try clear hfz10_0
        try clear hfz10_1
        try clear hfz10_2
        try clear hx222_0
        try clear hx224_0
        try clear hx224_1
        try clear hx224_2
        try clear p2
        try clear p222
        try clear p224
        try clear q222
        try clear q224
        obtain ⟨x10_2,rfl,HA,HK2,BK225,HB⟩ := hrel;cases gk with
        | zero => exact absurd HA.out (by simp [spec_l26Fits.l1])
        | succ k2 =>
         have H := HA.out;clear HA;simp only [spec_l26Fits.l1] at H;by_cases c11 : x10_2 < x8_1
         ·rw [if_pos c11] at H;have c11b0 : decide (x10_2 < x8_1) = true := decide_eq_true c11;clear c11;by_cases c12 : 0 ≤ x10_2
          ·rw [if_pos c12] at H;have c12b0 : decide (0 ≤ x10_2) = true := decide_eq_true c12;clear c12;by_cases c13 : x10_2 < (l1.length : Int)
           ·rw [if_pos c13] at H;have c13b0 : decide (x10_2 < (l1.length : Int)) = true := decide_eq_true c13;clear c13;replace H := Option.bind_eq_some_iff.mp H;obtain ⟨t227,A140,H⟩ := H;replace H : (if 0 ≤ t227 then (if t227 < (l0.length : Int) then ((spec_l26Share.f ((rd_T50 l0 t223).f1) ((rd_T50 l0 t227).f1)).bind fun t229 => (if t229 = true then (spec_l26Fits.l1 k2 l0 l1 a2 (wrap64 (x7_1 + ((rd_T50 l0 t223).f2))) x8_1 (wrap64 (x10_2 + 1)) ((rd_T50 l0 t223).f0) ((rd_T50 l0 t223).f1) ((rd_T50 l0 t223).f2)) else (some false))) else (none)) else (none)) = some r := H;have A14 := Aside0.mk A140;clear A140;by_cases c15 : 0 ≤ t227
            ·rw [if_pos c15] at H;have c15b0 : decide (0 ≤ t227) = true := decide_eq_true c15;clear c15;by_cases c16 : t227 < (l0.length : Int)
             ·rw [if_pos c16] at H;have c16b0 : decide (t227 < (l0.length : Int)) = true := decide_eq_true c16;clear c16;replace H := Option.bind_eq_some_iff.mp H;obtain ⟨t229,A170,H⟩ := H;replace H : (if t229 = true then (spec_l26Fits.l1 k2 l0 l1 a2 (wrap64 (x7_1 + ((rd_T50 l0 t223).f2))) x8_1 (wrap64 (x10_2 + 1)) ((rd_T50 l0 t223).f0) ((rd_T50 l0 t223).f1) ((rd_T50 l0 t223).f2)) else (some false)) = some r := H;have A17 := Aside0.mk A170;clear A170;by_cases c18 : t229 = true
              ·subst c18;have H1 : (spec_l26Fits.l1 k2 l0 l1 a2 (wrap64 (x7_1 + ((rd_T50 l0 t223).f2))) x8_1 (wrap64 (x10_2 + 1)) ((rd_T50 l0 t223).f0) ((rd_T50 l0 t223).f1) ((rd_T50 l0 t223).f2)) = some r := by rw [if_pos rfl] at H; exact H
               clear H;have H := H1;clear H1;have H' := Aside0.mk H;clear H;have hcz19_0 : wr.cell? ⟨gb225,0,none⟩ = some (.int .i64 ((rd_T50 l0 t223).f0)) := (blk_cell BK225.out 0).trans rfl;have hcz19_1 : wr.cell? ⟨gb225,1,none⟩ = some (.int .i64 ((rd_T50 l0 t223).f1)) := (blk_cell BK225.out 1).trans rfl;have hcz19_2 : wr.cell? ⟨gb225,2,none⟩ = some (.int .i64 ((rd_T50 l0 t223).f2)) := (blk_cell BK225.out 2).trans rfl;have hfz19_0 := blk_frozen BK225.out 0;have hfz19_1 := blk_frozen BK225.out 1;have hfz19_2 := blk_frozen BK225.out 2;have p226 : 0 ≤ (x10_2 : Int) := of_decide_eq_true yy2;have q226 : x10_2 < (l1.length : Int) := of_decide_eq_true yy2;obtain ⟨ad226,e226,hx226_0⟩ := Kd.at_int HR1.out x10_2 p226 q226;obtain rfl : ad222 = ad226 := (by injection e226);replace hx226_0 := pw_cell_below HB.out hx226_0;replace p226 := eq_true p226;replace q226 := eq_true q226;go_wp2_with (first | (go_at_call 34; (with_reducible refine (spec_l26Find.calls k2 _ _ l0 (rd l1 x10_2) t227 _ ?side1 ?side2 A14.out).mono ?_); (case side1 => exact yy4); (case side2 => exact HC0.out); rintro e w' ⟨rfl,⟨nd,rfl⟩⟩; (try exact yy6); have p228 : 0 ≤ (t227 : Int) := of_decide_eq_true yy2; have q228 : t227 < (l0.length : Int) := of_decide_eq_true yy2; obtain ⟨ad228,e228,hx228_0,hx228_1,hx228_2⟩ := at_T50 HR0.out t227 p228 q228; obtain rfl : ad224 = ad228 := (by injection e228); replace hx228_0 := pw_cell_below HB.out hx228_0; replace hx228_1 := pw_cell_below HB.out hx228_1; replace hx228_2 := pw_cell_below HB.out hx228_2; replace p228 := eq_true p228; replace q228 := eq_true q228) | (go_at_call 63; (with_reducible refine (spec_l26Share.calls ((rd_T50 l0 t223).f1) ((rd_T50 l0 t227).f1) true _ A17.out).mono ?_); rintro e w' ⟨rfl,⟨nd,rfl⟩⟩; (try exact yy6)))
               repeat (go_quiet (first | (go_at_call 34; (with_reducible refine (spec_l26Find.calls k2 _ _ l0 (rd l1 x10_2) t227 _ ?side1 ?side2 A14.out).mono ?_); (case side1 => exact yy4); (case side2 => exact HC0.out); rintro e w' ⟨rfl,⟨nd,rfl⟩⟩; (try exact yy6); have p228 : 0 ≤ (t227 : Int) := of_decide_eq_true yy2; have q228 : t227 < (l0.length : Int) := of_decide_eq_true yy2; obtain ⟨ad228,e228,hx228_0,hx228_1,hx228_2⟩ := at_T50 HR0.out t227 p228 q228; obtain rfl : ad224 = ad228 := (by injection e228); replace hx228_0 := pw_cell_below HB.out hx228_0; replace hx228_1 := pw_cell_below HB.out hx228_1; replace hx228_2 := pw_cell_below HB.out hx228_2; replace p228 := eq_true p228; replace q228 := eq_true q228) | (go_at_call 63; (with_reducible refine (spec_l26Share.calls ((rd_T50 l0 t223).f1) ((rd_T50 l0 t227).f1) true _ A17.out).mono ?_); rintro e w' ⟨rfl,⟨nd,rfl⟩⟩; (try exact yy6))); try go_wp2_with (first | (go_at_call 34; (with_reducible refine (spec_l26Find.calls k2 _ _ l0 (rd l1 x10_2) t227 _ ?side1 ?side2 A14.out).mono ?_); (case side1 => exact yy4); (case side2 => exact HC0.out); rintro e w' ⟨rfl,⟨nd,rfl⟩⟩; (try exact yy6); have p228 : 0 ≤ (t227 : Int) := of_decide_eq_true yy2; have q228 : t227 < (l0.length : Int) := of_decide_eq_true yy2; obtain ⟨ad228,e228,hx228_0,hx228_1,hx228_2⟩ := at_T50 HR0.out t227 p228 q228; obtain rfl : ad224 = ad228 := (by injection e228); replace hx228_0 := pw_cell_below HB.out hx228_0; replace hx228_1 := pw_cell_below HB.out hx228_1; replace hx228_2 := pw_cell_below HB.out hx228_2; replace p228 := eq_true p228; replace q228 := eq_true q228) | (go_at_call 63; (with_reducible refine (spec_l26Share.calls ((rd_T50 l0 t223).f1) ((rd_T50 l0 t227).f1) true _ A17.out).mono ?_); rintro e w' ⟨rfl,⟨nd,rfl⟩⟩; (try exact yy6))))
               go_roundg k2
               case measure => have := HK1.out; have := HK2.out; omega
               case rel => exact ⟨(wrap64 (x10_2 + 1)),yy12,H',⟨yy106⟩,⟨(by (with_reducible repeat (first | refine blk_drewN ?_ _ | refine blk_drew ?_ | refine blk_alloc ?_ _)); exact BK225.out)⟩,⟨yy80⟩⟩
              ·replace c18 := Bool.eq_false_iff.mpr c18;subst c18;have H1 : (some false) = some r := by rw [if_neg (show ¬ (false = true) by decide)] at H; exact H
               clear H;have H := H1;clear H1;obtain rfl := Option.some.inj H;have hcz20_0 : wr.cell? ⟨gb225,0,none⟩ = some (.int .i64 ((rd_T50 l0 t223).f0)) := (blk_cell BK225.out 0).trans rfl;have hcz20_1 : wr.cell? ⟨gb225,1,none⟩ = some (.int .i64 ((rd_T50 l0 t223).f1)) := (blk_cell BK225.out 1).trans rfl;have hcz20_2 : wr.cell? ⟨gb225,2,none⟩ = some (.int .i64 ((rd_T50 l0 t223).f2)) := (blk_cell BK225.out 2).trans rfl;have hfz20_0 := blk_frozen BK225.out 0;have hfz20_1 := blk_frozen BK225.out 1;have hfz20_2 := blk_frozen BK225.out 2;have p226 : 0 ≤ (x10_2 : Int) := of_decide_eq_true yy2;have q226 : x10_2 < (l1.length : Int) := of_decide_eq_true yy2;obtain ⟨ad226,e226,hx226_0⟩ := Kd.at_int HR1.out x10_2 p226 q226;obtain rfl : ad222 = ad226 := (by injection e226);replace hx226_0 := pw_cell_below HB.out hx226_0;replace p226 := eq_true p226;replace q226 := eq_true q226;go_wp2_with (first | (go_at_call 34; (with_reducible refine (spec_l26Find.calls k2 _ _ l0 (rd l1 x10_2) t227 _ ?side1 ?side2 A14.out).mono ?_); (case side1 => exact yy4); (case side2 => exact HC0.out); rintro e w' ⟨rfl,⟨nd,rfl⟩⟩; (try exact yy6); have p228 : 0 ≤ (t227 : Int) := of_decide_eq_true yy2; have q228 : t227 < (l0.length : Int) := of_decide_eq_true yy2; obtain ⟨ad228,e228,hx228_0,hx228_1,hx228_2⟩ := at_T50 HR0.out t227 p228 q228; obtain rfl : ad224 = ad228 := (by injection e228); replace hx228_0 := pw_cell_below HB.out hx228_0; replace hx228_1 := pw_cell_below HB.out hx228_1; replace hx228_2 := pw_cell_below HB.out hx228_2; replace p228 := eq_true p228; replace q228 := eq_true q228) | (go_at_call 63; (with_reducible refine (spec_l26Share.calls ((rd_T50 l0 t223).f1) ((rd_T50 l0 t227).f1) false _ A17.out).mono ?_); rintro e w' ⟨rfl,⟨nd,rfl⟩⟩; (try exact yy6)))
               repeat (go_quiet (first | (go_at_call 34; (with_reducible refine (spec_l26Find.calls k2 _ _ l0 (rd l1 x10_2) t227 _ ?side1 ?side2 A14.out).mono ?_); (case side1 => exact yy4); (case side2 => exact HC0.out); rintro e w' ⟨rfl,⟨nd,rfl⟩⟩; (try exact yy6); have p228 : 0 ≤ (t227 : Int) := of_decide_eq_true yy2; have q228 : t227 < (l0.length : Int) := of_decide_eq_true yy2; obtain ⟨ad228,e228,hx228_0,hx228_1,hx228_2⟩ := at_T50 HR0.out t227 p228 q228; obtain rfl : ad224 = ad228 := (by injection e228); replace hx228_0 := pw_cell_below HB.out hx228_0; replace hx228_1 := pw_cell_below HB.out hx228_1; replace hx228_2 := pw_cell_below HB.out hx228_2; replace p228 := eq_true p228; replace q228 := eq_true q228) | (go_at_call 63; (with_reducible refine (spec_l26Share.calls ((rd_T50 l0 t223).f1) ((rd_T50 l0 t227).f1) false _ A17.out).mono ?_); rintro e w' ⟨rfl,⟨nd,rfl⟩⟩; (try exact yy6))); try go_wp2_with (first | (go_at_call 34; (with_reducible refine (spec_l26Find.calls k2 _ _ l0 (rd l1 x10_2) t227 _ ?side1 ?side2 A14.out).mono ?_); (case side1 => exact yy4); (case side2 => exact HC0.out); rintro e w' ⟨rfl,⟨nd,rfl⟩⟩; (try exact yy6); have p228 : 0 ≤ (t227 : Int) := of_decide_eq_true yy2; have q228 : t227 < (l0.length : Int) := of_decide_eq_true yy2; obtain ⟨ad228,e228,hx228_0,hx228_1,hx228_2⟩ := at_T50 HR0.out t227 p228 q228; obtain rfl : ad224 = ad228 := (by injection e228); replace hx228_0 := pw_cell_below HB.out hx228_0; replace hx228_1 := pw_cell_below HB.out hx228_1; replace hx228_2 := pw_cell_below HB.out hx228_2; replace p228 := eq_true p228; replace q228 := eq_true q228) | (go_at_call 63; (with_reducible refine (spec_l26Share.calls ((rd_T50 l0 t223).f1) ((rd_T50 l0 t227).f1) false _ A17.out).mono ?_); rintro e w' ⟨rfl,⟨nd,rfl⟩⟩; (try exact yy6))))
               go_ret;exact ⟨yy11,yy80⟩
             ·rw [if_neg c16] at H;exact absurd H (by simp)
            ·rw [if_neg c15] at H;exact absurd H (by simp)
           ·rw [if_neg c13] at H;exact absurd H (by simp)
          ·rw [if_neg c12] at H;exact absurd H (by simp)
         ·rw [if_neg c11] at H;have c11b0 : decide (x10_2 < x8_1) = false := decide_eq_false c11;clear c11;have H' := Aside0.mk H;clear H;go_wp2;repeat (go_quiet (fail); try go_wp2)
          go_roundg k2
          case measure => have := HK1.out; have := HK2.out; omega
          case rel => exact ⟨((wrap64 (x7_1 + ((rd_T50 l0 t223).f2)))),(wrap64 (x8_1 + 1)),yy12,yy12,H',⟨yy106⟩,⟨yy80⟩⟩
      ·rw [if_neg c8] at H;exact absurd H (by simp)
     ·rw [if_neg c7] at H;exact absurd H (by simp)
    ·rw [if_neg c5] at H;exact absurd H (by simp)
   ·rw [if_neg c4] at H;have c4b0 : decide (x8_1 < (l1.length : Int)) = false := decide_eq_false c4;clear c4;obtain rfl := Option.some.inj H;go_wp2;repeat (go_quiet (fail); try go_wp2)
    go_ret;exact ⟨yy11,yy1⟩
def spec_l1Own.f (l0 : List Int) : Option (List Int) := (some (([] : List Int) : List Int)).bind fun y230 => (if y230.length + l0.length < 17592186044416 then (some (y230 ++ l0)) else (none))
set_option maxHeartbeats 8000000 in
set_option maxRecDepth 100000 in
theorem spec_l1Own.calls (A0 : Option Addr) (c0 : Nat) (l0 : List Int) (r : List Int) (w : World) (hr0 : Kd.C (Kd.int .i64) w A0 l0.length l0) (hc0 : l0.length ≤ c0) (h : spec_l1Own.f l0 = some r) :
  Calls Try.prog 67 #[.slice A0 l0.length c0] w fun e w' => ∃ v0_ : Value,e = .returned (v0_) ∧ Kd.R (Kd.int .i64) 3 w' w.heap.size (fun _ => True) v0_ r ∧ Below w.heap.size w w' := by
 have HR0 := Aside0.mk hr0;have HC0 := Aside0.mk hc0;clear hr0 hc0;have HB := Aside0.mk (Below.refl w.heap.size w);have H : ((some (([] : List Int) : List Int)).bind fun y230 => (if y230.length + l0.length < 17592186044416 then (some (y230 ++ l0)) else (none))) = some r := h;clear h;obtain ⟨y230,hy230⟩ : ∃ y_ : List Int,y_ = (([] : List Int)) := ⟨_,rfl⟩
 replace H : (if y230.length + l0.length < 17592186044416 then (some (y230 ++ l0)) else (none)) = some r := by first | (rw [hy230]; with_reducible exact H) | (have H2_ := (Option.bind_some _ _).symm.trans H; rw [hy230]; with_reducible exact H2_) | (have H2_ := (Option.bind_some _ _).symm.trans H; with_reducible exact H2_) | with_reducible exact H | (rw [hy230]; exact H) | exact H
 have Ny230 := Aside0.mk hy230;clear hy230;by_cases c2 : y230.length + l0.length < 17592186044416
 ·rw [if_pos c2] at H;have LMc2 := Aside0.mk c2;clear c2;obtain ⟨y233,hy233⟩ : ∃ y_ : List Int,y_ = (y230 ++ l0) := ⟨_,rfl⟩
  replace H : (some y233) = some r := by first | (rw [hy233]; with_reducible exact H) | (have H2_ := (Option.bind_some _ _).symm.trans H; rw [hy233]; with_reducible exact H2_) | (have H2_ := (Option.bind_some _ _).symm.trans H; with_reducible exact H2_) | with_reducible exact H | (rw [hy233]; exact H) | exact H
  have Ny233 := Aside0.mk hy233;clear hy233;obtain rfl := Option.some.inj H;go_enter Try.func67,Try.ntmps67;go_wp2_with (first | ((with_reducible refine gate_dst (N := 3) rfl ?_); refine Kd.R_lit (Kd.int .i64) _ 3 ?hg (N := 3) ?hd (xs := ([] : List Int)) (inner := []) (ok := fun _ => True) (okp := fun _ => True) ?hr ?hp (fun _ hk => hk) trivial (Below.refl _ _) (Nat.le_refl _) (by simp) ?_; (case hd => rfl); (case hg => rfl); (case hr => first | (go_simp; done) | (go_simp; rfl)); (case hp => exact (Reps.none _ _)); intro v231 w3 ho4 hb hg_ hnew_; clear hg_ hnew_; (first | rw [← Ny230.out] at ho4 | (simp only [Int.reduceToNat] at ho4; rw [← Ny230.out] at ho4)); have n0_ := Aside0.mk (Kd.R_lower ho4 (below_size yy1)); have n1_ := Aside0.mk (below_step yy1 hb); clear HB; have HO232 := n0_; have HB := n1_; clear n0_ n1_; clear hb ho4) | ((with_reducible refine gate_builtin (b := .append) (xs := #[.tmp 3,.tmp 4]) rfl ?_); at_builtin; refine Kd.R_append_rows (Kd.int .i64) (w0 := w) w.heap.size rfl (.tmp 3) (.tmp 4) 26 3 (.int .i64 0) 8 rfl Try.underlying26 info3 rfl (by decide) (by omega) v231 y230 l0 _ _ _ (fun _ => True) (fun _ => False) rfl rfl ?aO ?aR (fun _ _ h => h) (fun _ h => h.elim) ?aF ?aB ?aS ?aL ?_; (case aR => repeat (first | exact (Kd.C_below HR0.out HB.out) | (with_reducible refine Kd.C_alloc ?_ _) | (with_reducible refine Kd.C_drewN ?_ _) | (with_reducible refine Kd.C_drew ?_))); (case aB => exact yy1); (case aF => exact (fun _ _ => trivial)); (case aO => exact (by (with_reducible repeat (first | apply Kd.R_alloc | apply Kd.R_drewN | apply Kd.R_drew)); exact HO232.out)); (case aS => exact (below_size yy1)); (case aL => have := LMc2.out; omega); intro v234 w5 ho hb hg hat; rw [← Ny233.out] at ho; have n0_ := Aside0.mk (hb); have n1_ := Aside0.mk (ho); clear HB; clear HO232; have HB := n0_; have HO235 := n1_; clear n0_ n1_; clear ho hb hg hat))
  go_ret;exact ⟨_,yy11,(by (with_reducible repeat (first | apply Kd.R_alloc | apply Kd.R_drewN | apply Kd.R_drew)); exact HO235.out),yy1⟩
 ·rw [if_neg c2] at H;exact absurd H (by simp)
end Go.Proofs.Ytoadgikbbigdlaa.B
