import Derived.Test.YtoadgikbbigdlaaPaWAb
import Derived.Test.YtoadgikbbigdlaaPaAx0
import Derived.Test.YtoadgikbbigdlaaPaAx7
namespace Go.Proofs.Ytoadgikbbigdlaa.A
open Go.RowKit Go.Proofs.YtoadgikbbigdlaaW.PrintWords Go.Proofs.YtoadgikbbigdlaaW.PrintLast Go.Proofs.YtoadgikbbigdlaaW.PrintMore
attribute [local go_sem] max2_int min2_int max_two min_two max_three min_three max_four min_four   -- for this text's walks alone
set_option linter.unusedVariables false
set_option linter.unusedSimpArgs false
mutual
def spec_l26Order.l0 : Nat → List (S50) → List Int → Int → Option (List Int)
 | 0, _, _, _ => none
 | k + 1, x0, x3, x4 => if x4 < (x0.length : Int) then (spec_l26Order.l1 k x0 x3 x4 (x3.length : Int)) else (some x3)
def spec_l26Order.l1 : Nat → List (S50) → List Int → Int → Int → Option (List Int)
 | 0, _, _, _, _ => none
 | k + 1, x0, x3, x4, x5 => if x5 > 0 then (if 0 ≤ (wrap64 (x5 - 1)) then (if (wrap64 (x5 - 1)) < (x3.length : Int) then ((spec_l26Find.f k x0 (rd x3 (wrap64 (x5 - 1)))).bind fun t199 => (if 0 ≤ t199 then (if t199 < (x0.length : Int) then (if 0 ≤ x4 then (if x4 < (x0.length : Int) then (if ((rd_T50 x0 t199).f2) < ((rd_T50 x0 x4).f2) then (spec_l26Order.l1 k x0 x3 x4 (wrap64 (x5 - 1))) else ((some (([] : List Int) : List Int)).bind fun y202 => (if 0 ≤ x5 then (if x5 ≤ (x3.length : Int) then ((some (x3.take (x5 : Int).toNat : List Int)).bind fun y205 => (if y202.length + y205.length < 17592186044416 then ((some (y202 ++ y205 : List Int)).bind fun y210 => ((some (([(rd_T50 x0 x4).f0] : List Int) : List Int)).bind fun y214 => (if y210.length + y214.length < 17592186044416 then ((some (y210 ++ y214 : List Int)).bind fun y217 => ((some (x3.drop (x5 : Int).toNat : List Int)).bind fun y220 => (if y217.length + y220.length < 17592186044416 then (spec_l26Order.l0 k x0 (y217 ++ y220) (wrap64 (x4 + 1))) else (none)))) else (none)))) else (none))) else (none)) else (none)))) else (none)) else (none)) else (none)) else (none))) else (none)) else (none)) else ((some (([] : List Int) : List Int)).bind fun y228 => (if 0 ≤ x5 then (if x5 ≤ (x3.length : Int) then ((some (x3.take (x5 : Int).toNat : List Int)).bind fun y231 => (if y228.length + y231.length < 17592186044416 then ((some (y228 ++ y231 : List Int)).bind fun y236 => (if 0 ≤ x4 then (if x4 < (x0.length : Int) then ((some (([(rd_T50 x0 x4).f0] : List Int) : List Int)).bind fun y240 => (if y236.length + y240.length < 17592186044416 then ((some (y236 ++ y240 : List Int)).bind fun y243 => ((some (x3.drop (x5 : Int).toNat : List Int)).bind fun y246 => (if y243.length + y246.length < 17592186044416 then (spec_l26Order.l0 k x0 (y243 ++ y246) (wrap64 (x4 + 1))) else (none)))) else (none))) else (none)) else (none))) else (none))) else (none)) else (none)))
end
def spec_l26Order.f (k : Nat) (l0 : List (S50)) : Option (List Int) := spec_l26Order.l0 k l0 (([] : List Int)) 0
theorem spec_l26Order.mono_l : ∀ k, (∀ y0 y1 y2, LeO (spec_l26Order.l0 k y0 y1 y2) (spec_l26Order.l0 (k + 1) y0 y1 y2)) ∧ (∀ y0 y1 y2 y3, LeO (spec_l26Order.l1 k y0 y1 y2 y3) (spec_l26Order.l1 (k + 1) y0 y1 y2 y3))
 | 0 => ⟨fun _ _ _ r h => by simp [spec_l26Order.l0] at h, fun _ _ _ _ r h => by simp [spec_l26Order.l1] at h⟩
 | k + 1 => by
  obtain ⟨ih0, ih1⟩ := spec_l26Order.mono_l k
  refine ⟨?_, ?_⟩
  ·intro y0 y1 y2
   unfold spec_l26Order.l0
   repeat' first
   | (with_reducible exact ih0 _ _ _)
   | (with_reducible exact ih1 _ _ _ _)
   | (with_reducible exact spec_l26Find.mono _ _ _)
   | (with_reducible exact LeO.refl _)
   | (with_reducible exact LeO.none _)
   | (with_reducible refine LeO.ite ?_ ?_)
   | (with_reducible refine LeO.bind ?_ (fun _ => ?_))
   | exact ih0 _ _ _
   | exact ih1 _ _ _ _
   | exact spec_l26Find.mono _ _ _
   | exact LeO.none _
   | refine LeO.ite ?_ ?_
   | refine LeO.bind ?_ (fun _ => ?_)
  ·intro y0 y1 y2 y3
   unfold spec_l26Order.l1
   repeat' first
   | (with_reducible exact ih0 _ _ _)
   | (with_reducible exact ih1 _ _ _ _)
   | (with_reducible exact spec_l26Find.mono _ _ _)
   | (with_reducible exact LeO.refl _)
   | (with_reducible exact LeO.none _)
   | (with_reducible refine LeO.ite ?_ ?_)
   | (with_reducible refine LeO.bind ?_ (fun _ => ?_))
   | exact ih0 _ _ _
   | exact ih1 _ _ _ _
   | exact spec_l26Find.mono _ _ _
   | exact LeO.none _
   | refine LeO.ite ?_ ?_
   | refine LeO.bind ?_ (fun _ => ?_)
theorem spec_l26Order.mono : ∀ a0 k, LeO (spec_l26Order.f k a0) (spec_l26Order.f (k + 1) a0) := by
 intro a0 k
 obtain ⟨ih0, ih1⟩ := spec_l26Order.mono_l k
 unfold spec_l26Order.f
 repeat' first
   | (with_reducible exact ih0 _ _ _)
   | (with_reducible exact ih1 _ _ _ _)
   | (with_reducible exact spec_l26Find.mono _ _ _)
   | (with_reducible exact LeO.refl _)
   | (with_reducible exact LeO.none _)
   | (with_reducible refine LeO.ite ?_ ?_)
   | (with_reducible refine LeO.bind ?_ (fun _ => ?_))
   | exact ih0 _ _ _
   | exact ih1 _ _ _ _
   | exact spec_l26Find.mono _ _ _
   | exact LeO.none _
   | refine LeO.ite ?_ ?_
   | refine LeO.bind ?_ (fun _ => ?_)
def spec_l26Order.T6 : Bool × List (List Nat × List Nat) := (true, [([], []), ([0], [0]), ([1], [1]), ([2], [2]), ([2], [2]), ([2], [2]), ([2], [2]), ([6, 2], [2, 6]), ([5, 7, 2], [2, 5, 7]), ([8, 2], [2, 8]), ([4, 9, 2, 2], [2, 4, 9]), ([3, 10, 2], [2, 3, 10]), ([11, 2], [2, 11]), ([12, 2], [2, 12]), ([2], [2]), ([2], [2]), ([14, 15, 2], [2, 14, 15]), ([16, 2], [2, 16]), ([17, 2], [2, 17]), ([13, 18, 2], [2, 13, 18]), ([2, 19], [2, 19])])
def spec_l26Order.B6 : List Nat := [0, 1, 3, 7, 7, 7, 7, 71, 231, 487, 1015, 2047, 4095, 8191, 7, 7, 49159, 114695, 245767, 524287, 1048575]
theorem spec_l26Order.tab6 : rtab .any (opsOf Try.f65 6) = spec_l26Order.T6 := by kernel_rfl
theorem spec_l26Order.bits6 : waitsOk spec_l26Order.T6.2 spec_l26Order.B6 = true := by kernel_rfl
def spec_l26Order.T8 : Bool × List (List Nat × List Nat) := (true, [([], []), ([], []), ([], []), ([1, 2], [1, 2]), ([0, 3], [0, 3]), ([], []), ([], []), ([5, 6], [5, 6]), ([7], [7]), ([8], [8]), ([9], [9]), ([4, 10, 4], [4, 10]), ([], []), ([], []), ([12, 13], [12, 13]), ([11, 14, 11], [11, 14]), ([15, 15, 0, 1, 2, 3, 4, 5, 6, 7, 8, 9, 10, 11, 12, 13, 14, 15], [1, 12, 15])])
def spec_l26Order.B8 : List Nat := [0, 0, 0, 6, 15, 0, 0, 96, 224, 480, 992, 2047, 0, 0, 12288, 32767, 65535]
theorem spec_l26Order.tab8 : rtab .any (opsOf Try.f65 8) = spec_l26Order.T8 := by kernel_rfl
theorem spec_l26Order.bits8 : waitsOk spec_l26Order.T8.2 spec_l26Order.B8 = true := by kernel_rfl
def bYtoadgikbbigdlaaPaAx8_0 : Array Bool := #[false, false, false, false, false, false, false, false, false, false, false, false, false, false, false, false, false, false, false, false, false]
def bYtoadgikbbigdlaaPaAx8_1 : Array Bool := #[true, false, false, false, false, false, false, false, false, false, false, false, false, false, false, false, false, false, false, false, false]
def bYtoadgikbbigdlaaPaAx8_2 : Array Bool := #[true, true, false, false, false, false, false, false, false, false, false, false, false, false, false, false, false, false, false, false, false]
def bYtoadgikbbigdlaaPaAx8_3 : Array Bool := #[true, true, true, false, false, false, false, false, false, false, false, false, false, false, false, false, false, false, false, false, false]
def bYtoadgikbbigdlaaPaAx8_4 : Array Bool := #[true, true, true, true, false, false, false, false, false, false, false, false, false, false, false, false, false, false, false, false, false]
def bYtoadgikbbigdlaaPaAx8_5 : Array Bool := #[true, true, true, true, true, false, false, false, false, false, false, false, false, false, false, false, false, false, false, false, false]
def bYtoadgikbbigdlaaPaAx8_6 : Array Bool := #[true, true, true, true, true, true, false, false, false, false, false, false, false, false, false, false, false, false, false, false, false]
def bYtoadgikbbigdlaaPaAx8_7 : Array Bool := #[true, true, true, true, true, true, true, false, false, false, false, false, false, false, false, false, false, false, false, false, false]
def bYtoadgikbbigdlaaPaAx8_8 : Array Bool := #[true, true, true, true, true, true, true, true, false, false, false, false, false, false, false, false, false, false, false, false, false]
def bYtoadgikbbigdlaaPaAx8_9 : Array Bool := #[true, true, true, true, true, true, true, true, true, false, false, false, false, false, false, false, false, false, false, false, false]
def bYtoadgikbbigdlaaPaAx8_10 : Array Bool := #[true, true, true, true, true, true, true, true, true, false, false, false, false, false, true, false, false, false, false, false, false]
def bYtoadgikbbigdlaaPaAx8_11 : Array Bool := #[true, true, true, true, true, true, true, true, true, false, false, false, false, false, true, true, false, false, false, false, false]
def bYtoadgikbbigdlaaPaAx8_12 : Array Bool := #[true, true, true, true, true, true, true, true, true, false, false, false, false, false, true, true, true, false, false, false, false]
def bYtoadgikbbigdlaaPaAx8_13 : Array Bool := #[true, true, true, true, true, true, true, true, true, false, false, false, false, false, true, true, true, true, false, false, false]
def bYtoadgikbbigdlaaPaAx8_14 : Array Bool := #[true, true, true, true, true, true, true, true, true, true, false, false, false, false, true, true, true, true, false, false, false]
def bYtoadgikbbigdlaaPaAx8_15 : Array Bool := #[true, true, true, true, true, true, true, true, true, true, false, false, false, false, true, true, true, true, true, false, false]
def bYtoadgikbbigdlaaPaAx8_16 : Array Bool := #[true, true, true, true, true, true, true, true, true, true, true, false, false, false, true, true, true, true, true, false, false]
def bYtoadgikbbigdlaaPaAx8_17 : Array Bool := #[true, true, true, true, true, true, true, true, true, true, true, true, false, false, true, true, true, true, true, false, false]
def bYtoadgikbbigdlaaPaAx8_18 : Array Bool := #[true, true, true, true, true, true, true, true, true, true, true, true, true, false, true, true, true, true, true, false, false]
def bYtoadgikbbigdlaaPaAx8_19 : Array Bool := #[true, true, true, true, true, true, true, true, true, true, true, true, true, true, true, true, true, true, true, false, false]
def bYtoadgikbbigdlaaPaAx8_20 : Array Bool := #[true, true, true, true, true, true, true, true, true, true, true, true, true, true, true, true, true, true, true, true, false]
def bYtoadgikbbigdlaaPaAx8_21 : Array Bool := #[true, true, true, true, true, true, true, true, true, true, true, true, true, true, true, true, true, true, true, true, true]
def bYtoadgikbbigdlaaPaAx8_22 : Array Bool := #[false, false, false, false, false, false, false, false, false, false, false, false, false, false, false, false, false]
def bYtoadgikbbigdlaaPaAx8_23 : Array Bool := #[false, true, false, false, false, false, false, false, false, false, false, false, false, false, false, false, false]
def bYtoadgikbbigdlaaPaAx8_24 : Array Bool := #[false, true, true, false, false, false, false, false, false, false, false, false, false, false, false, false, false]
def bYtoadgikbbigdlaaPaAx8_25 : Array Bool := #[false, true, true, true, false, false, false, false, false, false, false, false, false, false, false, false, false]
def bYtoadgikbbigdlaaPaAx8_26 : Array Bool := #[false, true, true, true, false, true, false, false, false, false, false, false, false, false, false, false, false]
def bYtoadgikbbigdlaaPaAx8_27 : Array Bool := #[false, true, true, true, false, true, true, false, false, false, false, false, false, false, false, false, false]
def bYtoadgikbbigdlaaPaAx8_28 : Array Bool := #[false, true, true, true, false, true, true, true, false, false, false, false, false, false, false, false, false]
def bYtoadgikbbigdlaaPaAx8_29 : Array Bool := #[false, true, true, true, false, true, true, true, true, false, false, false, false, false, false, false, false]
def bYtoadgikbbigdlaaPaAx8_30 : Array Bool := #[false, true, true, true, false, true, true, true, true, false, false, false, true, false, false, false, false]
def bYtoadgikbbigdlaaPaAx8_31 : Array Bool := #[false, true, true, true, false, true, true, true, true, false, false, false, true, true, false, false, false]
def bYtoadgikbbigdlaaPaAx8_32 : Array Bool := #[false, true, true, true, false, true, true, true, true, false, false, false, true, true, true, false, false]
def bYtoadgikbbigdlaaPaAx8_33 : Array Bool := #[false, true, true, true, false, true, true, true, true, true, false, false, true, true, true, false, false]
def bYtoadgikbbigdlaaPaAx8_34 : Array Bool := #[true, true, true, true, true, true, true, true, true, true, true, false, true, true, true, false, false]
def bYtoadgikbbigdlaaPaAx8_35 : Array Bool := #[true, true, true, true, false, true, true, true, true, true, false, false, true, true, true, false, false]
def bYtoadgikbbigdlaaPaAx8_36 : Array Bool := #[false, true, true, true, false, true, true, true, true, true, true, false, true, true, true, false, false]
def bYtoadgikbbigdlaaPaAx8_37 : Array Bool := #[true, true, true, true, true, true, true, true, true, true, false, false, true, true, true, false, false]
def bYtoadgikbbigdlaaPaAx8_38 : Array Bool := #[true, true, true, true, false, true, true, true, true, true, true, false, true, true, true, false, false]
def bYtoadgikbbigdlaaPaAx8_39 : Array Bool := #[true, true, true, true, true, true, true, true, true, true, true, true, true, true, true, false, false]
def bYtoadgikbbigdlaaPaAx8_40 : Array Bool := #[true, true, true, true, true, true, true, true, true, true, true, true, true, true, true, true, false]
def bYtoadgikbbigdlaaPaAx8_41 : Array Bool := #[true, true, true, true, true, true, true, true, true, true, true, true, true, true, true, true, true]
set_option maxHeartbeats 8000000 in
set_option maxRecDepth 100000 in
theorem spec_l26Order.calls (k : Nat) (A0 : Option Addr) (c0 : Nat) (l0 : List (S50)) (r : List Int) (w : World) (hr0 : Kd.C k50 w A0 l0.length l0) (hc0 : l0.length ≤ c0) (h : spec_l26Order.f k l0 = some r) :
  Calls Try.prog 65 #[.slice A0 l0.length c0] w fun e w' => ∃ v0_ : Value, e = .returned (v0_) ∧ Kd.R (Kd.int .i64) 3 w' w.heap.size (fun _ => True) v0_ r ∧ Below w.heap.size w w' := by
 have HR0 := Aside0.mk hr0
 have HC0 := Aside0.mk hc0
 clear hr0 hc0
 have HB := Aside0.mk (Below.refl w.heap.size w)
 have H : (spec_l26Order.l0 k l0 (([] : List Int)) 0) = some r := h
 clear h
 obtain ⟨y195, hy195⟩ : ∃ y_ : List Int, y_ = (([] : List Int)) := ⟨_, rfl⟩
 replace H : (spec_l26Order.l0 k l0 y195 0) = some r := by first | (rw [hy195]; with_reducible exact H) | (have H2_ := (Option.bind_some _ _).symm.trans H; rw [hy195]; with_reducible exact H2_) | (have H2_ := (Option.bind_some _ _).symm.trans H; with_reducible exact H2_) | with_reducible exact H | (rw [hy195]; exact H) | exact H
 have Ny195 := Aside0.mk hy195
 clear hy195
 have H' := Aside0.mk H
 clear H
 go_enter Try.func65, Try.ntmps65
 go_wp2_with (first | ((with_reducible refine gate_dst (N := 6) rfl ?_); refine Kd.R_lit (Kd.int .i64) _ 3 ?hg (N := 6) ?hd (xs := ([] : List Int)) (inner := []) (ok := fun _ => True) (okp := fun _ => True) ?hr ?hp (fun _ hk => hk) trivial (Below.refl _ _) (Nat.le_refl _) (by simp) ?_; (case hd => rfl); (case hg => rfl); (case hr => first | (go_simp; done) | (go_simp; rfl)); (case hp => exact (Reps.none _ _)); intro v196 w2 ho3 hb hg_ hnew_; clear hg_ hnew_; (first | rw [← Ny195.out] at ho3 | (simp only [Int.reduceToNat] at ho3; rw [← Ny195.out] at ho3)); have n0_ := Aside0.mk (Kd.R_lower ho3 (below_size yy1)); have n1_ := Aside0.mk (below_step yy1 hb); clear HB; have HO197 := n0_; have HB := n1_; clear n0_ n1_; clear hb ho3))
 go_loopg [3, 4] k (fun kq v3 v4 w' => ∃ (x3_1 : List Int) (x4_1 : Int), v4 = .int .i64 x4_1 ∧ Aside0 (spec_l26Order.l0 kq l0 x3_1 x4_1 = some r) ∧ Aside0 (kq ≤ k) ∧ Aside0 (Kd.R (Kd.int .i64) 3 w' w.heap.size (fun _ => True) v3 x3_1) ∧ Aside0 (Below w.heap.size w w'))
 case atStart => exact ⟨(y195), (0), yy11, H', ⟨Nat.le_refl _⟩, ⟨by (with_reducible repeat (first | apply Kd.R_alloc | apply Kd.R_drewN | apply Kd.R_drew)); exact HO197.out⟩, ⟨by repeat (first | (with_reducible first | exact HB.out | apply below_alloc | apply pw_below_drewN | apply below_drew1) | exact HB.out)⟩⟩
 case round =>
  clear H'
  try clear p2
  obtain ⟨x3_1, x4_1, rfl, HA, HK1, HO_3, HB⟩ := hrel
  cases gk with
  | zero => exact absurd HA.out (by simp [spec_l26Order.l0])
  | succ k1 =>
   have H := HA.out
   clear HA
   simp only [spec_l26Order.l0] at H
   by_cases c4 : x4_1 < (l0.length : Int)
   ·rw [if_pos c4] at H
    have c4b0 : decide (x4_1 < (l0.length : Int)) = true := decide_eq_true c4
    clear c4
    have H' := Aside0.mk H
    clear H
    obtain ⟨Ao5, co5, eo5⟩ := Kd.R_slice HO_3.out
    subst eo5
    go_wp2
    go_loopg [5] k1 (fun kq v5 w' => ∃ (x5_2 : Int), v5 = .int .i64 x5_2 ∧ Aside0 (spec_l26Order.l1 kq l0 x3_1 x4_1 x5_2 = some r) ∧ Aside0 (kq ≤ k1) ∧ Aside0 (Kd.R (Kd.int .i64) 3 w' w.heap.size (fun _ => True) (.slice Ao5 x3_1.length co5) x3_1) ∧ Aside0 (Below w.heap.size w w'))
    case atStart => exact ⟨((x3_1.length : Int)), yy11, H', ⟨Nat.le_refl _⟩, ⟨by (with_reducible repeat (first | apply Kd.R_alloc | apply Kd.R_drewN | apply Kd.R_drew)); exact HO_3.out⟩, ⟨by repeat (first | (with_reducible first | exact HB.out | apply below_alloc | apply pw_below_drewN | apply below_drew1) | exact HB.out)⟩⟩
    case round =>
     clear H'
     try clear p2
     try clear c4
     try clear c4b0
     try clear p2
     obtain ⟨x5_2, rfl, HA, HK2, HO_3, HB⟩ := hrel
     cases gk with
     | zero => exact absurd HA.out (by simp [spec_l26Order.l1])
     | succ k2 =>
      have H := HA.out
      clear HA
      simp only [spec_l26Order.l1] at H
      by_cases c6 : x5_2 > 0
      ·rw [if_pos c6] at H
       have c6b0 : decide (0 < x5_2) = true := decide_eq_true c6
       clear c6
       obtain ⟨ji7, hji7⟩ : ∃ j_ : Int, (wrap64 (x5_2 - 1)) = j_ := ⟨_, rfl⟩
       replace H : (if 0 ≤ (ji7) then (if (ji7) < (x3_1.length : Int) then ((spec_l26Find.f k2 l0 (rd x3_1 (ji7))).bind fun t199 => (if 0 ≤ t199 then (if t199 < (l0.length : Int) then (if 0 ≤ x4_1 then (if x4_1 < (l0.length : Int) then (if ((rd_T50 l0 t199).f2) < ((rd_T50 l0 x4_1).f2) then (spec_l26Order.l1 k2 l0 x3_1 x4_1 ji7) else ((some (([] : List Int) : List Int)).bind fun y202 => (if 0 ≤ x5_2 then (if x5_2 ≤ (x3_1.length : Int) then ((some (x3_1.take (x5_2 : Int).toNat : List Int)).bind fun y205 => (if y202.length + y205.length < 17592186044416 then ((some (y202 ++ y205 : List Int)).bind fun y210 => ((some (([(rd_T50 l0 x4_1).f0] : List Int) : List Int)).bind fun y214 => (if y210.length + y214.length < 17592186044416 then ((some (y210 ++ y214 : List Int)).bind fun y217 => ((some (x3_1.drop (x5_2 : Int).toNat : List Int)).bind fun y220 => (if y217.length + y220.length < 17592186044416 then (spec_l26Order.l0 k2 l0 (y217 ++ y220) (wrap64 (x4_1 + 1))) else (none)))) else (none)))) else (none))) else (none)) else (none)))) else (none)) else (none)) else (none)) else (none))) else (none)) else (none)) = some r := by first | (rw [hji7] at H; exact H) | (simp only [hji7] at H ⊢; exact H)
       have hji7w : (IntKind.i64.wrap (x5_2 - 1)) = ji7 := (i64_w _).trans hji7
       by_cases c8 : 0 ≤ (ji7)
       ·rw [if_pos c8] at H
        have c8b0 : decide (0 ≤ (ji7)) = true := decide_eq_true c8
        clear c8
        by_cases c9 : (ji7) < (x3_1.length : Int)
        ·rw [if_pos c9] at H
         have c9b0 : decide ((ji7) < (x3_1.length : Int)) = true := decide_eq_true c9
         clear c9
         replace H := Option.bind_eq_some_iff.mp H
         obtain ⟨t199, A100, H⟩ := H
         replace H : (if 0 ≤ t199 then (if t199 < (l0.length : Int) then (if 0 ≤ x4_1 then (if x4_1 < (l0.length : Int) then (if ((rd_T50 l0 t199).f2) < ((rd_T50 l0 x4_1).f2) then (spec_l26Order.l1 k2 l0 x3_1 x4_1 ji7) else ((some (([] : List Int) : List Int)).bind fun y202 => (if 0 ≤ x5_2 then (if x5_2 ≤ (x3_1.length : Int) then ((some (x3_1.take (x5_2 : Int).toNat : List Int)).bind fun y205 => (if y202.length + y205.length < 17592186044416 then ((some (y202 ++ y205 : List Int)).bind fun y210 => ((some (([(rd_T50 l0 x4_1).f0] : List Int) : List Int)).bind fun y214 => (if y210.length + y214.length < 17592186044416 then ((some (y210 ++ y214 : List Int)).bind fun y217 => ((some (x3_1.drop (x5_2 : Int).toNat : List Int)).bind fun y220 => (if y217.length + y220.length < 17592186044416 then (spec_l26Order.l0 k2 l0 (y217 ++ y220) (wrap64 (x4_1 + 1))) else (none)))) else (none)))) else (none))) else (none)) else (none)))) else (none)) else (none)) else (none)) else (none)) = some r := H
         have A10 := Aside0.mk A100
         clear A100
         by_cases c11 : 0 ≤ t199
         ·rw [if_pos c11] at H
          have c11b0 : decide (0 ≤ t199) = true := decide_eq_true c11
          clear c11
          by_cases c12 : t199 < (l0.length : Int)
          ·rw [if_pos c12] at H
           have c12b0 : decide (t199 < (l0.length : Int)) = true := decide_eq_true c12
           clear c12
           by_cases c13 : 0 ≤ x4_1
           ·rw [if_pos c13] at H
            have c13b0 : decide (0 ≤ x4_1) = true := decide_eq_true c13
            clear c13
            by_cases c14 : x4_1 < (l0.length : Int)
            ·rw [if_pos c14] at H
             have c14b0 : decide (x4_1 < (l0.length : Int)) = true := decide_eq_true c14
             clear c14
             by_cases c15 : ((rd_T50 l0 t199).f2) < ((rd_T50 l0 x4_1).f2)
             ·rw [if_pos c15] at H
              have c15b0 : decide (((rd_T50 l0 t199).f2) < ((rd_T50 l0 x4_1).f2)) = true := decide_eq_true c15
              clear c15
              have H' := Aside0.mk H
              clear H
              try go_wp2
              have n0_ := Aside0.mk (Kd.R_drew HO_3.out)
              have n1_ := Aside0.mk (below_drew1 HB.out)
              clear HO_3 HB
              have HO_3 := n0_
              have HB := n1_
              clear n0_ n1_
              have p198 : 0 ≤ ((ji7) : Int) := of_decide_eq_true yy2
              have q198 : (ji7) < (x3_1.length : Int) := of_decide_eq_true yy2
              obtain ⟨ad198, e198, hx198_0⟩ := Kd.at_int (Kd.R_reads' HO_3.out).2.2 (ji7) p198 q198
              cases e198
              replace p198 := eq_true p198
              replace q198 := eq_true q198
              have p201 : 0 ≤ (x4_1 : Int) := of_decide_eq_true yy2
              have q201 : x4_1 < (l0.length : Int) := of_decide_eq_true yy2
              obtain ⟨ad201, e201, hx201_0, hx201_1, hx201_2⟩ := at_T50 HR0.out x4_1 p201 q201
              have hw201_2 := hx201_2
              have hw201_1 := hx201_1
              have hw201_0 := hx201_0
              cases e201
              replace hx201_0 := (HB.out.cell (World.block_lt_of_cell? w _ hx201_0)).trans hx201_0
              replace hx201_1 := (HB.out.cell (World.block_lt_of_cell? w _ hx201_1)).trans hx201_1
              replace hx201_2 := (HB.out.cell (World.block_lt_of_cell? w _ hx201_2)).trans hx201_2
              replace p201 := eq_true p201
              replace q201 := eq_true q201
              have p200 : 0 ≤ (t199 : Int) := of_decide_eq_true yy2
              have q200 : t199 < (l0.length : Int) := of_decide_eq_true yy2
              obtain ⟨ad200, e200, hx200_0, hx200_1, hx200_2⟩ := at_T50 HR0.out t199 p200 q200
              have hw200_2 := hx200_2
              have hw200_1 := hx200_1
              have hw200_0 := hx200_0
              obtain rfl : ad201 = ad200 := (by injection e200)
              replace hx200_0 := (HB.out.cell (World.block_lt_of_cell? w _ hx200_0)).trans hx200_0
              replace hx200_1 := (HB.out.cell (World.block_lt_of_cell? w _ hx200_1)).trans hx200_1
              replace hx200_2 := (HB.out.cell (World.block_lt_of_cell? w _ hx200_2)).trans hx200_2
              replace p200 := eq_true p200
              replace q200 := eq_true q200
              refine start_ (n := 21) (S := fun w' => w'.cell? (ad198.add ((ji7)).toNat) = some (.int .i64 (rd x3_1 (ji7))) ∧ w'.cell? (ad201.add ((x4_1).toNat * 3)) = some (.int .i64 ((rd_T50 l0 x4_1).f0)) ∧ w'.cell? ⟨(ad201.add ((x4_1).toNat * 3)).block, (ad201.add ((x4_1).toNat * 3)).off + 1, none⟩ = some (.int .i64 ((rd_T50 l0 x4_1).f1)) ∧ w'.cell? ⟨(ad201.add ((x4_1).toNat * 3)).block, (ad201.add ((x4_1).toNat * 3)).off + 2, none⟩ = some (.int .i64 ((rd_T50 l0 x4_1).f2)) ∧ w'.cell? (ad201.add ((t199).toNat * 3)) = some (.int .i64 ((rd_T50 l0 t199).f0)) ∧ w'.cell? ⟨(ad201.add ((t199).toNat * 3)).block, (ad201.add ((t199).toNat * 3)).off + 1, none⟩ = some (.int .i64 ((rd_T50 l0 t199).f1)) ∧ w'.cell? ⟨(ad201.add ((t199).toNat * 3)).block, (ad201.add ((t199).toNat * 3)).off + 2, none⟩ = some (.int .i64 ((rd_T50 l0 t199).f2))) (ds := []) bYtoadgikbbigdlaaPaAx8_0 (by kernel_rfl) rfl rfl ⟨hx198_0, ((HB.out.cell (World.block_lt_of_cell? w _ hw201_0)).trans hw201_0), ((HB.out.cell (World.block_lt_of_cell? w _ hw201_1)).trans hw201_1), ((HB.out.cell (World.block_lt_of_cell? w _ hw201_2)).trans hw201_2), ((HB.out.cell (World.block_lt_of_cell? w _ hw200_0)).trans hw200_0), ((HB.out.cell (World.block_lt_of_cell? w _ hw200_1)).trans hw200_1), ((HB.out.cell (World.block_lt_of_cell? w _ hw200_2)).trans hw200_2)⟩ (fun hHeld => ?_); refine with_tabW spec_l26Order.tab6 spec_l26Order.bits6 (fun HT_ HW_ => ?_)
              generalize wr.drew = w16 at HO_3 HB hx198_0 hx200_0 hx200_1 hx200_2 hx201_0 hx201_1 hx201_2 hHeld ⊢
              refine pu_ 0 15 bYtoadgikbbigdlaaPaAx8_1 ?_
              refine pu_ 1 16 bYtoadgikbbigdlaaPaAx8_2 ?_
              refine pu_ 2 17 bYtoadgikbbigdlaaPaAx8_3 ?_
              refine pu_ 3 18 bYtoadgikbbigdlaaPaAx8_4 ?_
              refine pu_ 4 19 bYtoadgikbbigdlaaPaAx8_5 ?_
              refine pu_ 5 20 bYtoadgikbbigdlaaPaAx8_6 ?_
              refine pu_ 6 21 bYtoadgikbbigdlaaPaAx8_7 ?_
              refine pu_ 7 22 bYtoadgikbbigdlaaPaAx8_8 ?_
              refine pu_ 8 23 bYtoadgikbbigdlaaPaAx8_9 ?_
              refine pu_ 14 29 bYtoadgikbbigdlaaPaAx8_10 ?_
              refine pu_ 15 30 bYtoadgikbbigdlaaPaAx8_11 ?_
              refine pu_ 16 31 bYtoadgikbbigdlaaPaAx8_12 ?_
              refine pu_ 17 32 bYtoadgikbbigdlaaPaAx8_13 ?_
              refine t7_ 9 24 bYtoadgikbbigdlaaPaAx8_14 hHeld ?_
              refine t7_ 18 33 bYtoadgikbbigdlaaPaAx8_15 hHeld ?_
              refine one_ (i := 10) (N := some 25) bYtoadgikbbigdlaaPaAx8_16 rfl rfl (one_of HT_.out (by kernel_rfl)) (by decide) (fun K hK => ?_)
              refine goes_ Try.func34 (by kernel_rfl) rfl #[.slice (some ad201) l0.length c0, .int .i64 (rd x3_1 (ji7))] (by rfl) rfl rfl (by (try simp only [List.map_toArray, List.map_cons, List.map_nil]); first | done | (simp only [hji7]; rfl) | rfl | (simp only [List.length_drop, List.length_take]; rfl)) ?_
              with_reducible refine (spec_l26Find.calls k2 _ _ l0 (rd x3_1 (ji7)) t199 _ ?side1 ?side2 A10.out).mono ?_
              (case side1 => repeat (first | exact (Kd.C_below HR0.out HB.out) | (with_reducible refine Kd.C_alloc ?_ _) | (with_reducible refine Kd.C_drewN ?_ _) | (with_reducible refine Kd.C_drew ?_)))
              (case side2 => exact HC0.out)
              rintro e w' ⟨rfl, ⟨nd, rfl⟩⟩
              refine ⟨_, rfl, ?_⟩
              refine hK.out _ _ ⟨hHeld.1, ((HB.out.cell (World.block_lt_of_cell? w _ hw201_0)).trans hw201_0), ((HB.out.cell (World.block_lt_of_cell? w _ hw201_1)).trans hw201_1), ((HB.out.cell (World.block_lt_of_cell? w _ hw201_2)).trans hw201_2), ((HB.out.cell (World.block_lt_of_cell? w _ hw200_0)).trans hw200_0), ((HB.out.cell (World.block_lt_of_cell? w _ hw200_1)).trans hw200_1), ((HB.out.cell (World.block_lt_of_cell? w _ hw200_2)).trans hw200_2)⟩ (fun hHeld => ?_)
              clear hK K
              refine no_ 25 ?_
              refine pu_ 11 26 bYtoadgikbbigdlaaPaAx8_17 ?_
              refine pu_ 12 27 bYtoadgikbbigdlaaPaAx8_18 ?_
              refine t7_ 13 28 bYtoadgikbbigdlaaPaAx8_19 hHeld ?_
              refine pu_ 19 34 bYtoadgikbbigdlaaPaAx8_20 ?_
              refine pu_ 20 35 bYtoadgikbbigdlaaPaAx8_21 ?_
              refine done_ (done_of HT_.out (by kernel_rfl)) ?_
              try go_wp2
              go_roundg k2
              case measure => have := HK1.out; have := HK2.out; omega
              case rel => exact ⟨(ji7), (by first | rfl | (simp; done) | (simp only [← hji7] <;> (first | rfl | simp)) | (simp [*]; done)), H', ⟨by have := HK1.out; have := HK2.out; omega⟩, ⟨by (with_reducible repeat (first | apply Kd.R_alloc | apply Kd.R_drewN | apply Kd.R_drew)); exact HO_3.out⟩, ⟨by repeat (first | (with_reducible first | exact HB.out | apply below_alloc | apply pw_below_drewN | apply below_drew1) | exact HB.out)⟩⟩
             ·rw [if_neg c15] at H
              have c15b0 : decide (((rd_T50 l0 t199).f2) < ((rd_T50 l0 x4_1).f2)) = false := decide_eq_false c15
              clear c15
              obtain ⟨y202, hy202⟩ : ∃ y_ : List Int, y_ = (([] : List Int)) := ⟨_, rfl⟩
              replace H : (if 0 ≤ x5_2 then (if x5_2 ≤ (x3_1.length : Int) then ((some (x3_1.take (x5_2 : Int).toNat : List Int)).bind fun y205 => (if y202.length + y205.length < 17592186044416 then ((some (y202 ++ y205 : List Int)).bind fun y210 => ((some (([(rd_T50 l0 x4_1).f0] : List Int) : List Int)).bind fun y214 => (if y210.length + y214.length < 17592186044416 then ((some (y210 ++ y214 : List Int)).bind fun y217 => ((some (x3_1.drop (x5_2 : Int).toNat : List Int)).bind fun y220 => (if y217.length + y220.length < 17592186044416 then (spec_l26Order.l0 k2 l0 (y217 ++ y220) (wrap64 (x4_1 + 1))) else (none)))) else (none)))) else (none))) else (none)) else (none)) = some r := by first | (rw [hy202]; with_reducible exact H) | (have H2_ := (Option.bind_some _ _).symm.trans H; rw [hy202]; with_reducible exact H2_) | (have H2_ := (Option.bind_some _ _).symm.trans H; with_reducible exact H2_) | with_reducible exact H | (rw [hy202]; exact H) | exact H
              have Ny202 := Aside0.mk hy202
              clear hy202
              by_cases c17 : 0 ≤ x5_2
              ·rw [if_pos c17] at H
               have c17b0 := eq_true c17
               have c17b1 : decide (0 ≤ x5_2) = true := decide_eq_true c17
               clear c17
               by_cases c18 : x5_2 ≤ (x3_1.length : Int)
               ·rw [if_pos c18] at H
                have c18b0 := eq_true c18
                have c18b1 : decide (x5_2 ≤ (x3_1.length : Int)) = true := decide_eq_true c18
                clear c18
                obtain ⟨y205, hy205⟩ : ∃ y_ : List Int, y_ = (x3_1.take (x5_2 : Int).toNat) := ⟨_, rfl⟩
                replace H : (if y202.length + y205.length < 17592186044416 then ((some (y202 ++ y205 : List Int)).bind fun y210 => ((some (([(rd_T50 l0 x4_1).f0] : List Int) : List Int)).bind fun y214 => (if y210.length + y214.length < 17592186044416 then ((some (y210 ++ y214 : List Int)).bind fun y217 => ((some (x3_1.drop (x5_2 : Int).toNat : List Int)).bind fun y220 => (if y217.length + y220.length < 17592186044416 then (spec_l26Order.l0 k2 l0 (y217 ++ y220) (wrap64 (x4_1 + 1))) else (none)))) else (none)))) else (none)) = some r := by first | (rw [hy205]; with_reducible exact H) | (have H2_ := (Option.bind_some _ _).symm.trans H; rw [hy205]; with_reducible exact H2_) | (have H2_ := (Option.bind_some _ _).symm.trans H; with_reducible exact H2_) | with_reducible exact H | (rw [hy205]; exact H) | exact H
                have Ny205 := Aside0.mk hy205
                clear hy205
                by_cases c19 : y202.length + y205.length < 17592186044416
                ·rw [if_pos c19] at H
                 have LMc19 := Aside0.mk c19
                 clear c19
                 obtain ⟨y210, hy210⟩ : ∃ y_ : List Int, y_ = (y202 ++ y205) := ⟨_, rfl⟩
                 replace H : ((some (([(rd_T50 l0 x4_1).f0] : List Int) : List Int)).bind fun y214 => (if y210.length + y214.length < 17592186044416 then ((some (y210 ++ y214 : List Int)).bind fun y217 => ((some (x3_1.drop (x5_2 : Int).toNat : List Int)).bind fun y220 => (if y217.length + y220.length < 17592186044416 then (spec_l26Order.l0 k2 l0 (y217 ++ y220) (wrap64 (x4_1 + 1))) else (none)))) else (none))) = some r := by first | (rw [hy210]; with_reducible exact H) | (have H2_ := (Option.bind_some _ _).symm.trans H; rw [hy210]; with_reducible exact H2_) | (have H2_ := (Option.bind_some _ _).symm.trans H; with_reducible exact H2_) | with_reducible exact H | (rw [hy210]; exact H) | exact H
                 have Ny210 := Aside0.mk hy210
                 clear hy210
                 obtain ⟨y214, hy214⟩ : ∃ y_ : List Int, y_ = (([(rd_T50 l0 x4_1).f0] : List Int)) := ⟨_, rfl⟩
                 replace H : (if y210.length + y214.length < 17592186044416 then ((some (y210 ++ y214 : List Int)).bind fun y217 => ((some (x3_1.drop (x5_2 : Int).toNat : List Int)).bind fun y220 => (if y217.length + y220.length < 17592186044416 then (spec_l26Order.l0 k2 l0 (y217 ++ y220) (wrap64 (x4_1 + 1))) else (none)))) else (none)) = some r := by first | (rw [hy214]; with_reducible exact H) | (have H2_ := (Option.bind_some _ _).symm.trans H; rw [hy214]; with_reducible exact H2_) | (have H2_ := (Option.bind_some _ _).symm.trans H; with_reducible exact H2_) | with_reducible exact H | (rw [hy214]; exact H) | exact H
                 have Ny214 := Aside0.mk hy214
                 clear hy214
                 by_cases c20 : y210.length + y214.length < 17592186044416
                 ·rw [if_pos c20] at H
                  have LMc20 := Aside0.mk c20
                  clear c20
                  obtain ⟨y217, hy217⟩ : ∃ y_ : List Int, y_ = (y210 ++ y214) := ⟨_, rfl⟩
                  replace H : ((some (x3_1.drop (x5_2 : Int).toNat : List Int)).bind fun y220 => (if y217.length + y220.length < 17592186044416 then (spec_l26Order.l0 k2 l0 (y217 ++ y220) (wrap64 (x4_1 + 1))) else (none))) = some r := by first | (rw [hy217]; with_reducible exact H) | (have H2_ := (Option.bind_some _ _).symm.trans H; rw [hy217]; with_reducible exact H2_) | (have H2_ := (Option.bind_some _ _).symm.trans H; with_reducible exact H2_) | with_reducible exact H | (rw [hy217]; exact H) | exact H
                  have Ny217 := Aside0.mk hy217
                  clear hy217
                  have c21b0 := eq_true (of_decide_eq_true yy2 : 0 ≤ x5_2)
                  have c22b0 := eq_true (of_decide_eq_true yy2 : x5_2 ≤ (x3_1.length : Int))
                  obtain ⟨y220, hy220⟩ : ∃ y_ : List Int, y_ = (x3_1.drop (x5_2 : Int).toNat) := ⟨_, rfl⟩
                  replace H : (if y217.length + y220.length < 17592186044416 then (spec_l26Order.l0 k2 l0 (y217 ++ y220) (wrap64 (x4_1 + 1))) else (none)) = some r := by first | (rw [hy220]; with_reducible exact H) | (have H2_ := (Option.bind_some _ _).symm.trans H; rw [hy220]; with_reducible exact H2_) | (have H2_ := (Option.bind_some _ _).symm.trans H; with_reducible exact H2_) | with_reducible exact H | (rw [hy220]; exact H) | exact H
                  have Ny220 := Aside0.mk hy220
                  clear hy220
                  by_cases c23 : y217.length + y220.length < 17592186044416
                  ·rw [if_pos c23] at H
                   have LMc23 := Aside0.mk c23
                   clear c23
                   obtain ⟨y225, hy225⟩ : ∃ y_ : List Int, y_ = (y217 ++ y220) := ⟨_, rfl⟩
                   replace H : (spec_l26Order.l0 k2 l0 y225 (wrap64 (x4_1 + 1))) = some r := by first | (rw [hy225]; with_reducible exact H) | (have H2_ := (Option.bind_some _ _).symm.trans H; rw [hy225]; with_reducible exact H2_) | (have H2_ := (Option.bind_some _ _).symm.trans H; with_reducible exact H2_) | with_reducible exact H | (rw [hy225]; exact H) | exact H
                   have Ny225 := Aside0.mk hy225
                   clear hy225
                   have H' := Aside0.mk H
                   clear H
                   try go_wp2
                   have n0_ := Aside0.mk (Kd.R_drew HO_3.out)
                   have n1_ := Aside0.mk (below_drew1 HB.out)
                   clear HO_3 HB
                   have HO_3 := n0_
                   have HB := n1_
                   clear n0_ n1_
                   have p198 : 0 ≤ ((ji7) : Int) := of_decide_eq_true yy2
                   have q198 : (ji7) < (x3_1.length : Int) := of_decide_eq_true yy2
                   obtain ⟨ad198, e198, hx198_0⟩ := Kd.at_int (Kd.R_reads' HO_3.out).2.2 (ji7) p198 q198
                   cases e198
                   replace p198 := eq_true p198
                   replace q198 := eq_true q198
                   have p201 : 0 ≤ (x4_1 : Int) := of_decide_eq_true yy2
                   have q201 : x4_1 < (l0.length : Int) := of_decide_eq_true yy2
                   obtain ⟨ad201, e201, hx201_0, hx201_1, hx201_2⟩ := at_T50 HR0.out x4_1 p201 q201
                   have hw201_2 := hx201_2
                   have hw201_1 := hx201_1
                   have hw201_0 := hx201_0
                   cases e201
                   replace hx201_0 := (HB.out.cell (World.block_lt_of_cell? w _ hx201_0)).trans hx201_0
                   replace hx201_1 := (HB.out.cell (World.block_lt_of_cell? w _ hx201_1)).trans hx201_1
                   replace hx201_2 := (HB.out.cell (World.block_lt_of_cell? w _ hx201_2)).trans hx201_2
                   replace p201 := eq_true p201
                   replace q201 := eq_true q201
                   have p200 : 0 ≤ (t199 : Int) := of_decide_eq_true yy2
                   have q200 : t199 < (l0.length : Int) := of_decide_eq_true yy2
                   obtain ⟨ad200, e200, hx200_0, hx200_1, hx200_2⟩ := at_T50 HR0.out t199 p200 q200
                   have hw200_2 := hx200_2
                   have hw200_1 := hx200_1
                   have hw200_0 := hx200_0
                   obtain rfl : ad201 = ad200 := (by injection e200)
                   replace hx200_0 := (HB.out.cell (World.block_lt_of_cell? w _ hx200_0)).trans hx200_0
                   replace hx200_1 := (HB.out.cell (World.block_lt_of_cell? w _ hx200_1)).trans hx200_1
                   replace hx200_2 := (HB.out.cell (World.block_lt_of_cell? w _ hx200_2)).trans hx200_2
                   replace p200 := eq_true p200
                   replace q200 := eq_true q200
                   refine start_ (n := 21) (S := fun w' => w'.cell? (ad198.add ((ji7)).toNat) = some (.int .i64 (rd x3_1 (ji7))) ∧ w'.cell? (ad201.add ((x4_1).toNat * 3)) = some (.int .i64 ((rd_T50 l0 x4_1).f0)) ∧ w'.cell? ⟨(ad201.add ((x4_1).toNat * 3)).block, (ad201.add ((x4_1).toNat * 3)).off + 1, none⟩ = some (.int .i64 ((rd_T50 l0 x4_1).f1)) ∧ w'.cell? ⟨(ad201.add ((x4_1).toNat * 3)).block, (ad201.add ((x4_1).toNat * 3)).off + 2, none⟩ = some (.int .i64 ((rd_T50 l0 x4_1).f2)) ∧ w'.cell? (ad201.add ((t199).toNat * 3)) = some (.int .i64 ((rd_T50 l0 t199).f0)) ∧ w'.cell? ⟨(ad201.add ((t199).toNat * 3)).block, (ad201.add ((t199).toNat * 3)).off + 1, none⟩ = some (.int .i64 ((rd_T50 l0 t199).f1)) ∧ w'.cell? ⟨(ad201.add ((t199).toNat * 3)).block, (ad201.add ((t199).toNat * 3)).off + 2, none⟩ = some (.int .i64 ((rd_T50 l0 t199).f2))) (ds := []) bYtoadgikbbigdlaaPaAx8_0 (by kernel_rfl) rfl rfl ⟨hx198_0, ((HB.out.cell (World.block_lt_of_cell? w _ hw201_0)).trans hw201_0), ((HB.out.cell (World.block_lt_of_cell? w _ hw201_1)).trans hw201_1), ((HB.out.cell (World.block_lt_of_cell? w _ hw201_2)).trans hw201_2), ((HB.out.cell (World.block_lt_of_cell? w _ hw200_0)).trans hw200_0), ((HB.out.cell (World.block_lt_of_cell? w _ hw200_1)).trans hw200_1), ((HB.out.cell (World.block_lt_of_cell? w _ hw200_2)).trans hw200_2)⟩ (fun hHeld => ?_); refine with_tabW spec_l26Order.tab6 spec_l26Order.bits6 (fun HT_ HW_ => ?_)
                   generalize wr.drew = w24 at HO_3 HB hx198_0 hx200_0 hx200_1 hx200_2 hx201_0 hx201_1 hx201_2 hHeld ⊢
                   refine pu_ 0 15 bYtoadgikbbigdlaaPaAx8_1 ?_
                   refine pu_ 1 16 bYtoadgikbbigdlaaPaAx8_2 ?_
                   refine pu_ 2 17 bYtoadgikbbigdlaaPaAx8_3 ?_
                   refine pu_ 3 18 bYtoadgikbbigdlaaPaAx8_4 ?_
                   refine pu_ 4 19 bYtoadgikbbigdlaaPaAx8_5 ?_
                   refine pu_ 5 20 bYtoadgikbbigdlaaPaAx8_6 ?_
                   refine pu_ 6 21 bYtoadgikbbigdlaaPaAx8_7 ?_
                   refine pu_ 7 22 bYtoadgikbbigdlaaPaAx8_8 ?_
                   refine pu_ 8 23 bYtoadgikbbigdlaaPaAx8_9 ?_
                   refine pu_ 14 29 bYtoadgikbbigdlaaPaAx8_10 ?_
                   refine pu_ 15 30 bYtoadgikbbigdlaaPaAx8_11 ?_
                   refine pu_ 16 31 bYtoadgikbbigdlaaPaAx8_12 ?_
                   refine pu_ 17 32 bYtoadgikbbigdlaaPaAx8_13 ?_
                   refine t7_ 9 24 bYtoadgikbbigdlaaPaAx8_14 hHeld ?_
                   refine t7_ 18 33 bYtoadgikbbigdlaaPaAx8_15 hHeld ?_
                   refine one_ (i := 10) (N := some 25) bYtoadgikbbigdlaaPaAx8_16 rfl rfl (one_of HT_.out (by kernel_rfl)) (by decide) (fun K hK => ?_)
                   refine goes_ Try.func34 (by kernel_rfl) rfl #[.slice (some ad201) l0.length c0, .int .i64 (rd x3_1 (ji7))] (by rfl) rfl rfl (by (try simp only [List.map_toArray, List.map_cons, List.map_nil]); first | done | (simp only [hji7]; rfl) | rfl | (simp only [List.length_drop, List.length_take]; rfl)) ?_
                   with_reducible refine (spec_l26Find.calls k2 _ _ l0 (rd x3_1 (ji7)) t199 _ ?side1 ?side2 A10.out).mono ?_
                   (case side1 => repeat (first | exact (Kd.C_below HR0.out HB.out) | (with_reducible refine Kd.C_alloc ?_ _) | (with_reducible refine Kd.C_drewN ?_ _) | (with_reducible refine Kd.C_drew ?_)))
                   (case side2 => exact HC0.out)
                   rintro e w' ⟨rfl, ⟨nd, rfl⟩⟩
                   refine ⟨_, rfl, ?_⟩
                   refine hK.out _ _ ⟨hHeld.1, ((HB.out.cell (World.block_lt_of_cell? w _ hw201_0)).trans hw201_0), ((HB.out.cell (World.block_lt_of_cell? w _ hw201_1)).trans hw201_1), ((HB.out.cell (World.block_lt_of_cell? w _ hw201_2)).trans hw201_2), ((HB.out.cell (World.block_lt_of_cell? w _ hw200_0)).trans hw200_0), ((HB.out.cell (World.block_lt_of_cell? w _ hw200_1)).trans hw200_1), ((HB.out.cell (World.block_lt_of_cell? w _ hw200_2)).trans hw200_2)⟩ (fun hHeld => ?_)
                   clear hK K
                   refine no_ 25 ?_
                   refine pu_ 11 26 bYtoadgikbbigdlaaPaAx8_17 ?_
                   refine pu_ 12 27 bYtoadgikbbigdlaaPaAx8_18 ?_
                   refine t7_ 13 28 bYtoadgikbbigdlaaPaAx8_19 hHeld ?_
                   refine pu_ 19 34 bYtoadgikbbigdlaaPaAx8_20 ?_
                   refine pu_ 20 35 bYtoadgikbbigdlaaPaAx8_21 ?_
                   refine done_ (done_of HT_.out (by kernel_rfl)) ?_
                   try go_wp2
                   (try (rw [drewN_self w24]; generalize hq_ : World.drewN w24 _ = w24; have n0_ : Aside0 (Kd.R (Kd.int .i64) 3 w24 w.heap.size (fun _ => True) (.slice (some ad198) x3_1.length co5) x3_1) := ⟨by rw [← hq_]; exact yy7⟩; have n1_ : Aside0 (Below w.heap.size w w24) := ⟨by rw [← hq_]; exact yy1⟩; clear HO_3 HB hq_; have HO_3 := n0_; have HB := n1_; clear n0_ n1_))
                   have n0_ := Aside0.mk (Kd.R_drew HO_3.out)
                   have n1_ := Aside0.mk (below_drew1 HB.out)
                   clear HO_3 HB
                   have HO_3 := n0_
                   have HB := n1_
                   clear n0_ n1_
                   have q26 : (x5_2 : Int) ≤ ((x3_1.length : Int) : Int) := of_decide_eq_true yy2
                   obtain ⟨i026, hi026, _, hsz26, _⟩ := info_parts info3
                   have hroom26 : x3_1.length ≤ co5 := (Kd.R_reads' HO_3.out).2.1
                   have hC26 : Kd.F (Kd.int .i64) _ _ (some ad198) x3_1.length x3_1 := (Kd.V_at (base := w.heap.size) (Kd.R_V HO_3.out)).2.2
                   have hcut26 := cut_to (P := Try.prog) 26 3 .i64 Try.underlying26 hi026 (some ad198) x3_1.length co5 x5_2 (of_decide_eq_true yy2) q26 hroom26
                   have hr26 := Kd.F_take (m := (x5_2 : Int).toNat) hC26 (by omega)
                   have hy26 : y205.length = (x5_2 : Int).toNat := (by rw [Ny205.out, List.length_take]; omega)
                   rw [← Ny205.out] at hr26
                   rw [← hy26] at hcut26
                   have HO209 := Aside0.mk (show Kd.V (Kd.int .i64) 3 _ w.heap.size _ (.slice (some ad198) y205.length co5) y205 from Kd.V_mk (by omega) hr26)
                   have HC209 := Aside0.mk (show y205.length ≤ co5 from by omega)
                   clear hr26 hC26 hroom26 hi026 hsz26
                   have KY26 := Aside0.mk hy26
                   clear hy26
                   replace q26 := eq_true q26
                   have p213 : 0 ≤ (x4_1 : Int) := of_decide_eq_true yy2
                   have q213 : x4_1 < (l0.length : Int) := of_decide_eq_true yy2
                   obtain ⟨ad213, e213, hx213_0, hx213_1, hx213_2⟩ := at_T50 HR0.out x4_1 p213 q213
                   have hw213_2 := hx213_2
                   have hw213_1 := hx213_1
                   have hw213_0 := hx213_0
                   obtain rfl : ad201 = ad213 := (by injection e213)
                   replace hx213_0 := (HB.out.cell (World.block_lt_of_cell? w _ hx213_0)).trans hx213_0
                   replace hx213_1 := (HB.out.cell (World.block_lt_of_cell? w _ hx213_1)).trans hx213_1
                   replace hx213_2 := (HB.out.cell (World.block_lt_of_cell? w _ hx213_2)).trans hx213_2
                   replace p213 := eq_true p213
                   replace q213 := eq_true q213
                   have q27 : (x5_2 : Int) ≤ ((x3_1.length : Int) : Int) := of_decide_eq_true yy2
                   obtain ⟨i027, hi027, _, hsz27, _⟩ := info_parts info3
                   have hroom27 : x3_1.length ≤ co5 := (Kd.R_reads' HO_3.out).2.1
                   have hC27 : Kd.F (Kd.int .i64) _ _ (some ad198) x3_1.length x3_1 := (Kd.V_at (base := w.heap.size) (Kd.R_V HO_3.out)).2.2
                   have q027 : (0 : Int) ≤ (x5_2 : Int) := of_decide_eq_true yy2
                   have hcut27 := cut_from (P := Try.prog) 26 3 .i64 Try.underlying26 hi027 1 hsz27 (some ad198) x3_1.length co5 x5_2 q027 q27
                   have hr27 := Kd.F_cut (m := (x5_2 : Int).toNat) (c := co5) hC27 (by omega) hroom27
                   obtain ⟨A27, hA27⟩ : ∃ A1, A1 = (if co5 = (x5_2 : Int).toNat then (some ad198) else ((some ad198) : Option Addr).map (·.add ((x5_2 : Int).toNat * 1))) := ⟨_, rfl⟩
                   obtain ⟨c27, hc27⟩ : ∃ c1, c1 = co5 - (x5_2 : Int).toNat := ⟨_, rfl⟩
                   have hy27 : y220.length = x3_1.length - (x5_2 : Int).toNat := (by rw [Ny220.out, List.length_drop] <;> omega)
                   rw [show (x3_1).drop (x5_2 : Int).toNat = y220 from Ny220.out.symm] at hr27
                   replace hr27 : Kd.F (Kd.int .i64) _ _ A27 y220.length y220 := (by rw [hA27]; exact hr27)
                   rw [← hy27, ← hA27, ← hc27] at hcut27
                   have HO224 := Aside0.mk (show Kd.V (Kd.int .i64) 3 _ w.heap.size _ (.slice A27 y220.length c27) y220 from Kd.V_mk (by rw [hy27, hc27]; exact Nat.sub_le_sub_right hroom27 _) hr27)
                   have HC224 := Aside0.mk (show y220.length ≤ c27 from by rw [hy27, hc27]; exact Nat.sub_le_sub_right hroom27 _)
                   clear hr27 hC27 hroom27 hi027 hsz27 hc27
                   have KY27 := Aside0.mk hy27
                   have KA27 := Aside0.mk hA27
                   clear hy27 hA27
                   replace q27 := eq_true q27
                   refine start_ (n := 17) (S := fun w' => w'.cell? (ad201.add ((x4_1).toNat * 3)) = some (.int .i64 ((rd_T50 l0 x4_1).f0)) ∧ w'.cell? ⟨(ad201.add ((x4_1).toNat * 3)).block, (ad201.add ((x4_1).toNat * 3)).off + 1, none⟩ = some (.int .i64 ((rd_T50 l0 x4_1).f1)) ∧ w'.cell? ⟨(ad201.add ((x4_1).toNat * 3)).block, (ad201.add ((x4_1).toNat * 3)).off + 2, none⟩ = some (.int .i64 ((rd_T50 l0 x4_1).f2))) (ds := []) bYtoadgikbbigdlaaPaAx8_22 (by kernel_rfl) rfl rfl ⟨((HB.out.cell (World.block_lt_of_cell? w _ hw213_0)).trans hw213_0), ((HB.out.cell (World.block_lt_of_cell? w _ hw213_1)).trans hw213_1), ((HB.out.cell (World.block_lt_of_cell? w _ hw213_2)).trans hw213_2)⟩ (fun hHeld => ?_); refine with_tabW spec_l26Order.tab8 spec_l26Order.bits8 (fun HT_ HW_ => ?_)
                   generalize w24.drew = w25 at HO_3 HB HO209 HO224 hx213_0 hx213_1 hx213_2 hHeld ⊢
                   refine pu_ 1 39 bYtoadgikbbigdlaaPaAx8_23 ?_
                   refine pu_ 2 40 bYtoadgikbbigdlaaPaAx8_24 ?_
                   refine pu_ 3 41 bYtoadgikbbigdlaaPaAx8_25 ?_
                   refine pu_ 5 43 bYtoadgikbbigdlaaPaAx8_26 ?_
                   refine pu_ 6 44 bYtoadgikbbigdlaaPaAx8_27 ?_
                   refine pu_ 7 45 bYtoadgikbbigdlaaPaAx8_28 ?_
                   refine pu_ 8 46 bYtoadgikbbigdlaaPaAx8_29 ?_
                   refine pu_ 12 50 bYtoadgikbbigdlaaPaAx8_30 ?_
                   refine pu_ 13 51 bYtoadgikbbigdlaaPaAx8_31 ?_
                   refine pu_ 14 52 bYtoadgikbbigdlaaPaAx8_32 ?_
                   refine t3_ 9 47 bYtoadgikbbigdlaaPaAx8_33 hHeld ?_
                   refine join_ (σ := Value × Value × Value) 3 bYtoadgikbbigdlaaPaAx8_34 (fun s_ => [(38, s_.1), (42, s_.2.1), (48, s_.2.2)]) (fun s_ w' => (w'.cell? (ad201.add ((x4_1).toNat * 3)) = some (.int .i64 ((rd_T50 l0 x4_1).f0)) ∧ w'.cell? ⟨(ad201.add ((x4_1).toNat * 3)).block, (ad201.add ((x4_1).toNat * 3)).off + 1, none⟩ = some (.int .i64 ((rd_T50 l0 x4_1).f1)) ∧ w'.cell? ⟨(ad201.add ((x4_1).toNat * 3)).block, (ad201.add ((x4_1).toNat * 3)).off + 2, none⟩ = some (.int .i64 ((rd_T50 l0 x4_1).f2))) ∧ (Kd.V (Kd.int .i64) 3 w' w.heap.size (fun k_ => some k_ ≠ (s_.2.1 : Value).ownBlock ∧ some k_ ≠ (s_.2.2 : Value).ownBlock) (.slice (some ad198) y205.length co5) y205) ∧ (Kd.R (Kd.int .i64) 3 w' w.heap.size (fun k_ => some k_ ≠ (s_.2.2 : Value).ownBlock ∧ some k_ ≠ (.slice (some ad198) x3_1.length co5 : Value).ownBlock) s_.2.1 y210) ∧ (Kd.R (Kd.int .i64) 3 w' w.heap.size (fun k_ => some k_ ≠ (s_.2.1 : Value).ownBlock ∧ some k_ ≠ (.slice (some ad198) x3_1.length co5 : Value).ownBlock) s_.2.2 y214) ∧ (Kd.V (Kd.int .i64) 3 w' w.heap.size (fun k_ => some k_ ≠ (s_.2.1 : Value).ownBlock ∧ some k_ ≠ (s_.2.2 : Value).ownBlock) (.slice A27 y220.length c27) y220) ∧ (Kd.R (Kd.int .i64) 3 w' w.heap.size (fun k_ => some k_ ≠ (s_.2.1 : Value).ownBlock ∧ some k_ ≠ (s_.2.2 : Value).ownBlock) (.slice (some ad198) x3_1.length co5) x3_1) ∧ (Below w.heap.size w w')) ?_ ?_
                   rotate_left
                   ·intro hCont
                    refine two_ (i := 0) (j := 10) (Ni := some 38) (Nj := some 48) bYtoadgikbbigdlaaPaAx8_35 bYtoadgikbbigdlaaPaAx8_36 rfl rfl rfl rfl (two_of HT_.out (by kernel_rfl)) (by decide) (by decide) (fun K hK => ?_) (fun K hK => ?_)
                    ·skip
                     refine Kd.R_lit_step (Kd.int .i64) _ 3 ?hg (N := 38) ?hd (xs := ([] : List Int)) (inner := []) (ok := fun _ => True) (okp := fun _ => True) ?hr ?hp (fun _ hk => hk) trivial (Below.refl _ _) (Nat.le_refl _) (by simp) ?_; (case hd => rfl); (case hg => rfl); (case hr => first | (go_simp; done) | (go_simp; rfl)); (case hp => exact (Reps.none _ _))
                     intro v203 w28 ho29 hb hg_ hnew_
                     clear hg_ hnew_
                     (first | rw [← Ny202.out] at ho29 | (simp only [Int.reduceToNat] at ho29; rw [← Ny202.out] at ho29))
                     have n0_ := Aside0.mk (Kd.R_elder' yy7 (Kd.R_base ho29) hb)
                     have n1_ := Aside0.mk (Kd.V_elder' yy34 (Kd.R_base ho29) hb)
                     have n2_ := Aside0.mk (Kd.V_elder' yy35 (Kd.R_base ho29) hb)
                     have n3_ := Aside0.mk (Kd.R_lower (Kd.R_new' ho29 (Kd.R_lt yy7)) (below_size yy1))
                     have n4_ := Aside0.mk (below_step yy1 hb)
                     clear HO_3 HO209 HO224 HB
                     have HO_3 := n0_
                     have HO209 := n1_
                     have HO224 := n2_
                     have HO204 := n3_
                     have HB := n4_
                     clear n0_ n1_ n2_ n3_ n4_ hb ho29
                     refine hK.out _ _ ⟨((HB.out.cell (World.block_lt_of_cell? w _ hw213_0)).trans hw213_0), ((HB.out.cell (World.block_lt_of_cell? w _ hw213_1)).trans hw213_1), ((HB.out.cell (World.block_lt_of_cell? w _ hw213_2)).trans hw213_2)⟩ (fun hHeld => ?_)
                     clear hK K
                     refine no_ 38 ?_
                     refine two_ (i := 4) (j := 10) (Ni := some 42) (Nj := some 48) bYtoadgikbbigdlaaPaAx8_37 bYtoadgikbbigdlaaPaAx8_38 rfl rfl rfl rfl (two_of HT_.out (by kernel_rfl)) (by decide) (by decide) (fun K hK => ?_) (fun K hK => ?_)
                     ·skip
                      refine Kd.R_append_rows_step (Kd.int .i64) (w0 := w) w.heap.size (by rfl) (.tmp 38) (.tmp 41) 26 3 (.int .i64 0) 8 rfl Try.underlying26 info3 rfl (by decide) (by omega) v203 y202 y205 _ _ _ (fun k_ => some k_ ≠ (.slice (some ad198) x3_1.length co5 : Value).ownBlock) (fun _ => False) rfl rfl ?aO ?aR (fun _ _ h => h) (fun _ h => h.elim) ?aF ?aB ?aS ?aL ?_
                      (case aR => repeat (first | exact (Kd.V_reads' HO209.out).2.2 | (with_reducible refine Kd.C_alloc ?_ _) | (with_reducible refine Kd.C_drewN ?_ _) | (with_reducible refine Kd.C_drew ?_)))
                      (case aB => exact yy1)
                      (case aF => exact (fun k_ hk => Kd.fresh' (Kd.R_lt yy7) k_ hk))
                      (case aO => exact (by (with_reducible repeat (first | apply Kd.R_alloc | apply Kd.R_drewN | apply Kd.R_drew)); exact Kd.R_mono HO204.out (fun _ hk => hk.2)))
                      (case aS => exact (below_size yy1))
                      (case aL => have := LMc19.out; omega)
                      intro v211 w30 ho hb hg hat
                      rw [← Ny210.out] at ho
                      have n0_ := Aside0.mk (Kd.R_after (ok := (fun _ => True)) yy7 hg hat)
                      have n1_ := Aside0.mk (Kd.V_afterv (ok := (fun _ => True)) yy34 hg hat)
                      have n2_ := Aside0.mk (Kd.V_afterv (ok := (fun _ => True)) yy35 hg hat)
                      have n3_ := Aside0.mk (hb)
                      have n4_ := Aside0.mk (ho)
                      clear HO_3 HO209 HO224 HB HO204
                      have HO_3 := n0_
                      have HO209 := n1_
                      have HO224 := n2_
                      have HB := n3_
                      have HO212 := n4_
                      clear n0_ n1_ n2_ n3_ n4_ ho hb hg hat
                      refine hK.out _ _ ⟨((HB.out.cell (World.block_lt_of_cell? w _ hw213_0)).trans hw213_0), ((HB.out.cell (World.block_lt_of_cell? w _ hw213_1)).trans hw213_1), ((HB.out.cell (World.block_lt_of_cell? w _ hw213_2)).trans hw213_2)⟩ (fun hHeld => ?_)
                      clear hK K
                      refine no_ 42 ?_
                      refine one_ (i := 10) (N := some 48) bYtoadgikbbigdlaaPaAx8_34 rfl rfl (one_of HT_.out (by kernel_rfl)) (by decide) (fun K hK => ?_)
                      refine Kd.R_lit_step (Kd.int .i64) _ 3 ?hg (N := 48) ?hd (xs := ([(rd_T50 l0 x4_1).f0] : List Int)) (inner := [.int .i64 ((rd_T50 l0 x4_1).f0)]) (ok := fun _ => True) (okp := fun _ => True) ?hr ?hp (fun _ hk => hk) trivial (Below.refl _ _) (Nat.le_refl _) (by simp) ?_; (case hd => rfl); (case hg => rfl); (case hr => first | (go_simp; done) | (go_simp; rfl)); (case hp => exact (Reps.one (show Kd.M (Kd.int .i64) _ _ _ ((rd_T50 l0 x4_1).f0) [.int .i64 ((rd_T50 l0 x4_1).f0)] from rfl) (Reps.none _ _)))
                      intro v215 w31 ho32 hb hg_ hnew_
                      clear hg_ hnew_
                      (first | rw [← Ny214.out] at ho32 | (simp only [Int.reduceToNat] at ho32; rw [← Ny214.out] at ho32))
                      have n0_ := Aside0.mk (Kd.R_elder' yy7 (Kd.R_base ho32) hb)
                      have n1_ := Aside0.mk (Kd.V_elder' yy34 (Kd.R_base ho32) hb)
                      have n2_ := Aside0.mk (Kd.V_elder' yy35 (Kd.R_base ho32) hb)
                      have n3_ := Aside0.mk (Kd.R_elder' (by (with_reducible repeat (first | apply Kd.R_alloc | apply Kd.R_drewN | apply Kd.R_drew)); exact HO212.out) (Kd.R_base ho32) hb)
                      have n4_ := Aside0.mk (Kd.R_lower (Kd.R_new' (Kd.R_new' ho32 (Kd.R_lt yy7)) (Kd.R_lt (by (with_reducible repeat (first | apply Kd.R_alloc | apply Kd.R_drewN | apply Kd.R_drew)); exact HO212.out))) (below_size yy1))
                      have n5_ := Aside0.mk (below_step yy1 hb)
                      clear HO_3 HO209 HO224 HO212 HB
                      have HO_3 := n0_
                      have HO209 := n1_
                      have HO224 := n2_
                      have HO212 := n3_
                      have HO216 := n4_
                      have HB := n5_
                      clear n0_ n1_ n2_ n3_ n4_ n5_ hb ho32
                      refine hK.out _ _ ⟨((HB.out.cell (World.block_lt_of_cell? w _ hw213_0)).trans hw213_0), ((HB.out.cell (World.block_lt_of_cell? w _ hw213_1)).trans hw213_1), ((HB.out.cell (World.block_lt_of_cell? w _ hw213_2)).trans hw213_2)⟩ (fun hHeld => ?_)
                      clear hK K
                      refine no_ 48 ?_
                      exact norm_ yy18 (hCont (v203, v211, v215) _ ⟨hHeld, (by (with_reducible repeat (first | apply Kd.V_alloc | apply Kd.V_drewN | apply Kd.V_drew)); exact Kd.V_mono HO209.out (fun _ hk => ⟨hk.1.2, hk.2⟩)), yy46, (by (with_reducible repeat (first | apply Kd.R_alloc | apply Kd.R_drewN | apply Kd.R_drew)); exact Kd.R_mono HO216.out (fun _ hk => ⟨hk.2, hk.1.2⟩)), (by (with_reducible repeat (first | apply Kd.V_alloc | apply Kd.V_drewN | apply Kd.V_drew)); exact Kd.V_mono HO224.out (fun _ hk => ⟨hk.1.2, hk.2⟩)), yy45, yy1⟩)
                     ·skip
                      refine Kd.R_lit_step (Kd.int .i64) _ 3 ?hg (N := 48) ?hd (xs := ([(rd_T50 l0 x4_1).f0] : List Int)) (inner := [.int .i64 ((rd_T50 l0 x4_1).f0)]) (ok := fun _ => True) (okp := fun _ => True) ?hr ?hp (fun _ hk => hk) trivial (Below.refl _ _) (Nat.le_refl _) (by simp) ?_; (case hd => rfl); (case hg => rfl); (case hr => first | (go_simp; done) | (go_simp; rfl)); (case hp => exact (Reps.one (show Kd.M (Kd.int .i64) _ _ _ ((rd_T50 l0 x4_1).f0) [.int .i64 ((rd_T50 l0 x4_1).f0)] from rfl) (Reps.none _ _)))
                      intro v215 w30 ho31 hb hg_ hnew_
                      clear hg_ hnew_
                      (first | rw [← Ny214.out] at ho31 | (simp only [Int.reduceToNat] at ho31; rw [← Ny214.out] at ho31))
                      have n0_ := Aside0.mk (Kd.R_elder' yy7 (Kd.R_base ho31) hb)
                      have n1_ := Aside0.mk (Kd.V_elder' yy34 (Kd.R_base ho31) hb)
                      have n2_ := Aside0.mk (Kd.V_elder' yy35 (Kd.R_base ho31) hb)
                      have n3_ := Aside0.mk (Kd.R_elder' (by (with_reducible repeat (first | apply Kd.R_alloc | apply Kd.R_drewN | apply Kd.R_drew)); exact HO204.out) (Kd.R_base ho31) hb)
                      have n4_ := Aside0.mk (Kd.R_lower (Kd.R_new' (Kd.R_new' ho31 (Kd.R_lt yy7)) (Kd.R_lt (by (with_reducible repeat (first | apply Kd.R_alloc | apply Kd.R_drewN | apply Kd.R_drew)); exact HO204.out))) (below_size yy1))
                      have n5_ := Aside0.mk (below_step yy1 hb)
                      clear HO_3 HO209 HO224 HO204 HB
                      have HO_3 := n0_
                      have HO209 := n1_
                      have HO224 := n2_
                      have HO204 := n3_
                      have HO216 := n4_
                      have HB := n5_
                      clear n0_ n1_ n2_ n3_ n4_ n5_ hb ho31
                      refine hK.out _ _ ⟨((HB.out.cell (World.block_lt_of_cell? w _ hw213_0)).trans hw213_0), ((HB.out.cell (World.block_lt_of_cell? w _ hw213_1)).trans hw213_1), ((HB.out.cell (World.block_lt_of_cell? w _ hw213_2)).trans hw213_2)⟩ (fun hHeld => ?_)
                      clear hK K
                      refine no_ 48 ?_
                      refine one_ (i := 4) (N := some 42) bYtoadgikbbigdlaaPaAx8_34 rfl rfl (one_of HT_.out (by kernel_rfl)) (by decide) (fun K hK => ?_)
                      refine Kd.R_append_rows_step (Kd.int .i64) (w0 := w) w.heap.size (by rfl) (.tmp 38) (.tmp 41) 26 3 (.int .i64 0) 8 rfl Try.underlying26 info3 rfl (by decide) (by omega) v203 y202 y205 _ _ _ (fun k_ => some k_ ≠ (.slice (some ad198) x3_1.length co5 : Value).ownBlock ∧ some k_ ≠ (v215 : Value).ownBlock) (fun _ => False) rfl rfl ?aO ?aR (fun _ _ h => h) (fun _ h => h.elim) ?aF ?aB ?aS ?aL ?_
                      (case aR => repeat (first | exact (Kd.V_reads' HO209.out).2.2 | (with_reducible refine Kd.C_alloc ?_ _) | (with_reducible refine Kd.C_drewN ?_ _) | (with_reducible refine Kd.C_drew ?_)))
                      (case aB => exact yy1)
                      (case aF => exact (fun k_ hk => ⟨Kd.fresh' (Kd.R_lt yy7) k_ hk, Kd.fresh' (Kd.R_lt yy36) k_ hk⟩))
                      (case aO => exact (by (with_reducible repeat (first | apply Kd.R_alloc | apply Kd.R_drewN | apply Kd.R_drew)); exact Kd.R_mono HO204.out (fun _ hk => ⟨hk.1.2, hk.2⟩)))
                      (case aS => exact (below_size yy1))
                      (case aL => have := LMc19.out; omega)
                      intro v211 w32 ho hb hg hat
                      rw [← Ny210.out] at ho
                      have n0_ := Aside0.mk (Kd.R_after (ok := (fun k_ => some k_ ≠ (v215 : Value).ownBlock)) (by (with_reducible repeat (first | apply Kd.R_alloc | apply Kd.R_drewN | apply Kd.R_drew)); exact Kd.R_mono HO_3.out (fun _ hk => ⟨hk.2, hk.1.2⟩)) hg hat)
                      have n1_ := Aside0.mk (Kd.V_afterv (ok := (fun k_ => some k_ ≠ (v215 : Value).ownBlock)) (by (with_reducible repeat (first | apply Kd.V_alloc | apply Kd.V_drewN | apply Kd.V_drew)); exact Kd.V_mono HO209.out (fun _ hk => ⟨hk.2, hk.1.2⟩)) hg hat)
                      have n2_ := Aside0.mk (Kd.V_afterv (ok := (fun k_ => some k_ ≠ (v215 : Value).ownBlock)) (by (with_reducible repeat (first | apply Kd.V_alloc | apply Kd.V_drewN | apply Kd.V_drew)); exact Kd.V_mono HO224.out (fun _ hk => ⟨hk.2, hk.1.2⟩)) hg hat)
                      have n3_ := Aside0.mk (Kd.R_after (ok := (fun k_ => some k_ ≠ (.slice (some ad198) x3_1.length co5 : Value).ownBlock)) (by (with_reducible repeat (first | apply Kd.R_alloc | apply Kd.R_drewN | apply Kd.R_drew)); exact Kd.R_mono HO216.out (fun _ hk => ⟨hk.1.2, hk.2⟩)) hg hat)
                      have n4_ := Aside0.mk (hb)
                      have n5_ := Aside0.mk (ho)
                      clear HO_3 HO209 HO224 HO216 HB HO204
                      have HO_3 := n0_
                      have HO209 := n1_
                      have HO224 := n2_
                      have HO216 := n3_
                      have HB := n4_
                      have HO212 := n5_
                      clear n0_ n1_ n2_ n3_ n4_ n5_ ho hb hg hat
                      refine hK.out _ _ ⟨((HB.out.cell (World.block_lt_of_cell? w _ hw213_0)).trans hw213_0), ((HB.out.cell (World.block_lt_of_cell? w _ hw213_1)).trans hw213_1), ((HB.out.cell (World.block_lt_of_cell? w _ hw213_2)).trans hw213_2)⟩ (fun hHeld => ?_)
                      clear hK K
                      refine no_ 42 ?_
                      exact norm_ yy18 (hCont (v203, v211, v215) _ ⟨hHeld, yy53, yy46, yy54, yy55, yy29, yy1⟩)
                    ·skip
                     refine Kd.R_lit_step (Kd.int .i64) _ 3 ?hg (N := 48) ?hd (xs := ([(rd_T50 l0 x4_1).f0] : List Int)) (inner := [.int .i64 ((rd_T50 l0 x4_1).f0)]) (ok := fun _ => True) (okp := fun _ => True) ?hr ?hp (fun _ hk => hk) trivial (Below.refl _ _) (Nat.le_refl _) (by simp) ?_; (case hd => rfl); (case hg => rfl); (case hr => first | (go_simp; done) | (go_simp; rfl)); (case hp => exact (Reps.one (show Kd.M (Kd.int .i64) _ _ _ ((rd_T50 l0 x4_1).f0) [.int .i64 ((rd_T50 l0 x4_1).f0)] from rfl) (Reps.none _ _)))
                     intro v215 w28 ho29 hb hg_ hnew_
                     clear hg_ hnew_
                     (first | rw [← Ny214.out] at ho29 | (simp only [Int.reduceToNat] at ho29; rw [← Ny214.out] at ho29))
                     have n0_ := Aside0.mk (Kd.R_elder' yy7 (Kd.R_base ho29) hb)
                     have n1_ := Aside0.mk (Kd.V_elder' yy34 (Kd.R_base ho29) hb)
                     have n2_ := Aside0.mk (Kd.V_elder' yy35 (Kd.R_base ho29) hb)
                     have n3_ := Aside0.mk (Kd.R_lower (Kd.R_new' ho29 (Kd.R_lt yy7)) (below_size yy1))
                     have n4_ := Aside0.mk (below_step yy1 hb)
                     clear HO_3 HO209 HO224 HB
                     have HO_3 := n0_
                     have HO209 := n1_
                     have HO224 := n2_
                     have HO216 := n3_
                     have HB := n4_
                     clear n0_ n1_ n2_ n3_ n4_ hb ho29
                     refine hK.out _ _ ⟨((HB.out.cell (World.block_lt_of_cell? w _ hw213_0)).trans hw213_0), ((HB.out.cell (World.block_lt_of_cell? w _ hw213_1)).trans hw213_1), ((HB.out.cell (World.block_lt_of_cell? w _ hw213_2)).trans hw213_2)⟩ (fun hHeld => ?_)
                     clear hK K
                     refine no_ 48 ?_
                     refine one_ (i := 0) (N := some 38) bYtoadgikbbigdlaaPaAx8_38 rfl rfl (one_of HT_.out (by kernel_rfl)) (by decide) (fun K hK => ?_)
                     refine Kd.R_lit_step (Kd.int .i64) _ 3 ?hg (N := 38) ?hd (xs := ([] : List Int)) (inner := []) (ok := fun _ => True) (okp := fun _ => True) ?hr ?hp (fun _ hk => hk) trivial (Below.refl _ _) (Nat.le_refl _) (by simp) ?_; (case hd => rfl); (case hg => rfl); (case hr => first | (go_simp; done) | (go_simp; rfl)); (case hp => exact (Reps.none _ _))
                     intro v203 w30 ho31 hb hg_ hnew_
                     clear hg_ hnew_
                     (first | rw [← Ny202.out] at ho31 | (simp only [Int.reduceToNat] at ho31; rw [← Ny202.out] at ho31))
                     have n0_ := Aside0.mk (Kd.R_elder' yy7 (Kd.R_base ho31) hb)
                     have n1_ := Aside0.mk (Kd.V_elder' yy34 (Kd.R_base ho31) hb)
                     have n2_ := Aside0.mk (Kd.V_elder' yy35 (Kd.R_base ho31) hb)
                     have n3_ := Aside0.mk (Kd.R_elder' yy36 (Kd.R_base ho31) hb)
                     have n4_ := Aside0.mk (Kd.R_lower (Kd.R_new' (Kd.R_new' ho31 (Kd.R_lt yy7)) (Kd.R_lt yy36)) (below_size yy1))
                     have n5_ := Aside0.mk (below_step yy1 hb)
                     clear HO_3 HO209 HO224 HO216 HB
                     have HO_3 := n0_
                     have HO209 := n1_
                     have HO224 := n2_
                     have HO216 := n3_
                     have HO204 := n4_
                     have HB := n5_
                     clear n0_ n1_ n2_ n3_ n4_ n5_ hb ho31
                     refine hK.out _ _ ⟨((HB.out.cell (World.block_lt_of_cell? w _ hw213_0)).trans hw213_0), ((HB.out.cell (World.block_lt_of_cell? w _ hw213_1)).trans hw213_1), ((HB.out.cell (World.block_lt_of_cell? w _ hw213_2)).trans hw213_2)⟩ (fun hHeld => ?_)
                     clear hK K
                     refine no_ 38 ?_
                     refine one_ (i := 4) (N := some 42) bYtoadgikbbigdlaaPaAx8_34 rfl rfl (one_of HT_.out (by kernel_rfl)) (by decide) (fun K hK => ?_)
                     refine Kd.R_append_rows_step (Kd.int .i64) (w0 := w) w.heap.size (by rfl) (.tmp 38) (.tmp 41) 26 3 (.int .i64 0) 8 rfl Try.underlying26 info3 rfl (by decide) (by omega) v203 y202 y205 _ _ _ (fun k_ => some k_ ≠ (.slice (some ad198) x3_1.length co5 : Value).ownBlock ∧ some k_ ≠ (v215 : Value).ownBlock) (fun _ => False) rfl rfl ?aO ?aR (fun _ _ h => h) (fun _ h => h.elim) ?aF ?aB ?aS ?aL ?_
                     (case aR => repeat (first | exact (Kd.V_reads' HO209.out).2.2 | (with_reducible refine Kd.C_alloc ?_ _) | (with_reducible refine Kd.C_drewN ?_ _) | (with_reducible refine Kd.C_drew ?_)))
                     (case aB => exact yy1)
                     (case aF => exact (fun k_ hk => ⟨Kd.fresh' (Kd.R_lt yy7) k_ hk, Kd.fresh' (Kd.R_lt yy36) k_ hk⟩))
                     (case aO => exact (by (with_reducible repeat (first | apply Kd.R_alloc | apply Kd.R_drewN | apply Kd.R_drew)); exact Kd.R_mono HO204.out (fun _ hk => ⟨hk.1.2, hk.2⟩)))
                     (case aS => exact (below_size yy1))
                     (case aL => have := LMc19.out; omega)
                     intro v211 w32 ho hb hg hat
                     rw [← Ny210.out] at ho
                     have n0_ := Aside0.mk (Kd.R_after (ok := (fun k_ => some k_ ≠ (v215 : Value).ownBlock)) yy45 hg hat)
                     have n1_ := Aside0.mk (Kd.V_afterv (ok := (fun k_ => some k_ ≠ (v215 : Value).ownBlock)) (by (with_reducible repeat (first | apply Kd.V_alloc | apply Kd.V_drewN | apply Kd.V_drew)); exact Kd.V_mono HO209.out (fun _ hk => ⟨hk.1.2, hk.2⟩)) hg hat)
                     have n2_ := Aside0.mk (Kd.V_afterv (ok := (fun k_ => some k_ ≠ (v215 : Value).ownBlock)) (by (with_reducible repeat (first | apply Kd.V_alloc | apply Kd.V_drewN | apply Kd.V_drew)); exact Kd.V_mono HO224.out (fun _ hk => ⟨hk.1.2, hk.2⟩)) hg hat)
                     have n3_ := Aside0.mk (Kd.R_after (ok := (fun k_ => some k_ ≠ (.slice (some ad198) x3_1.length co5 : Value).ownBlock)) (by (with_reducible repeat (first | apply Kd.R_alloc | apply Kd.R_drewN | apply Kd.R_drew)); exact Kd.R_mono HO216.out (fun _ hk => ⟨hk.1.2, hk.2⟩)) hg hat)
                     have n4_ := Aside0.mk (hb)
                     have n5_ := Aside0.mk (ho)
                     clear HO_3 HO209 HO224 HO216 HB HO204
                     have HO_3 := n0_
                     have HO209 := n1_
                     have HO224 := n2_
                     have HO216 := n3_
                     have HB := n4_
                     have HO212 := n5_
                     clear n0_ n1_ n2_ n3_ n4_ n5_ ho hb hg hat
                     refine hK.out _ _ ⟨((HB.out.cell (World.block_lt_of_cell? w _ hw213_0)).trans hw213_0), ((HB.out.cell (World.block_lt_of_cell? w _ hw213_1)).trans hw213_1), ((HB.out.cell (World.block_lt_of_cell? w _ hw213_2)).trans hw213_2)⟩ (fun hHeld => ?_)
                     clear hK K
                     refine no_ 42 ?_
                     exact norm_ yy18 (hCont (v203, v211, v215) _ ⟨hHeld, yy53, yy46, yy54, yy55, yy29, yy1⟩)
                   rintro ⟨v203, v211, v215⟩ w33 ⟨hS_, h0_, h1_, h2_, h3_, h4_, h5_⟩
                   have n0_ : Aside0 (Kd.V (Kd.int .i64) 3 w33 w.heap.size (fun k_ => some k_ ≠ (v211 : Value).ownBlock ∧ some k_ ≠ (v215 : Value).ownBlock) (.slice (some ad198) y205.length co5) y205) := ⟨h0_⟩
                   have n1_ : Aside0 (Kd.R (Kd.int .i64) 3 w33 w.heap.size (fun k_ => some k_ ≠ (v215 : Value).ownBlock ∧ some k_ ≠ (.slice (some ad198) x3_1.length co5 : Value).ownBlock) v211 y210) := ⟨h1_⟩
                   have n2_ : Aside0 (Kd.R (Kd.int .i64) 3 w33 w.heap.size (fun k_ => some k_ ≠ (v211 : Value).ownBlock ∧ some k_ ≠ (.slice (some ad198) x3_1.length co5 : Value).ownBlock) v215 y214) := ⟨h2_⟩
                   have n3_ : Aside0 (Kd.V (Kd.int .i64) 3 w33 w.heap.size (fun k_ => some k_ ≠ (v211 : Value).ownBlock ∧ some k_ ≠ (v215 : Value).ownBlock) (.slice A27 y220.length c27) y220) := ⟨h3_⟩
                   have n4_ : Aside0 (Kd.R (Kd.int .i64) 3 w33 w.heap.size (fun k_ => some k_ ≠ (v211 : Value).ownBlock ∧ some k_ ≠ (v215 : Value).ownBlock) (.slice (some ad198) x3_1.length co5) x3_1) := ⟨h4_⟩
                   have n5_ : Aside0 (Below w.heap.size w w33) := ⟨h5_⟩
                   clear HO_3 HB h0_ h1_ h2_ h3_ h4_ h5_
                   have HO209 := n0_
                   have HO212 := n1_
                   have HO216 := n2_
                   have HO224 := n3_
                   have HO_3 := n4_
                   have HB := n5_
                   clear n0_ n1_ n2_ n3_ n4_ n5_
                   have hHeld : w33.cell? (ad201.add ((x4_1).toNat * 3)) = some (.int .i64 ((rd_T50 l0 x4_1).f0)) ∧ w33.cell? ⟨(ad201.add ((x4_1).toNat * 3)).block, (ad201.add ((x4_1).toNat * 3)).off + 1, none⟩ = some (.int .i64 ((rd_T50 l0 x4_1).f1)) ∧ w33.cell? ⟨(ad201.add ((x4_1).toNat * 3)).block, (ad201.add ((x4_1).toNat * 3)).off + 2, none⟩ = some (.int .i64 ((rd_T50 l0 x4_1).f2)) := hS_
                   obtain ⟨Ao35, co35, eo35⟩ := Kd.R_slice HO216.out
                   (first | subst eo35 | (injection eo35 with f1_ f2_ f3_; have f4_ := f1_.symm; have f5_ := f3_.symm; clear f1_ f2_ f3_; subst f4_; subst f5_))
                   refine norm_ (a' := ?_) ?_ ?_
                   rotate_left
                   ·simp only [putAll, Act.put, List.setIfInBounds_toArray, List.set_cons_zero, List.set_cons_succ]
                    rfl
                   refine one_ (i := 11) (N := some 49) bYtoadgikbbigdlaaPaAx8_39 rfl rfl (one_of HT_.out (by kernel_rfl)) (by decide) (fun K hK => ?_)
                   refine Kd.R_append_rows_step (Kd.int .i64) (w0 := w) w.heap.size (by rfl) (.tmp 42) (.tmp 48) 26 3 (.int .i64 0) 8 rfl Try.underlying26 info3 rfl (by decide) (by omega) v211 y210 y214 _ _ _ (fun k_ => some k_ ≠ (.slice (some ad198) x3_1.length co5 : Value).ownBlock ∧ some k_ ≠ (.slice Ao35 y214.length co35 : Value).ownBlock) (fun _ => False) rfl rfl ?aO ?aR (fun _ _ h => h) (fun _ h => h.elim) ?aF ?aB ?aS ?aL ?_
                   (case aR => repeat (first | exact (Kd.R_reads' HO216.out).2.2 | (with_reducible refine Kd.C_alloc ?_ _) | (with_reducible refine Kd.C_drewN ?_ _) | (with_reducible refine Kd.C_drew ?_)))
                   (case aB => exact yy1)
                   (case aF => exact (fun k_ hk => ⟨Kd.fresh' (Kd.R_lt yy7) k_ hk, Kd.fresh' (Kd.R_lt yy36) k_ hk⟩))
                   (case aO => exact yy46)
                   (case aS => exact (below_size yy1))
                   (case aL => have := LMc20.out; omega)
                   intro v218 w34 ho hb hg hat
                   rw [← Ny217.out] at ho
                   have n0_ := Aside0.mk (Kd.R_after (ok := (fun k_ => some k_ ≠ (.slice Ao35 y214.length co35 : Value).ownBlock)) yy29 hg hat)
                   have n1_ := Aside0.mk (Kd.V_afterv (ok := (fun k_ => some k_ ≠ (.slice Ao35 y214.length co35 : Value).ownBlock)) yy53 hg hat)
                   have n2_ := Aside0.mk (Kd.V_afterv (ok := (fun k_ => some k_ ≠ (.slice Ao35 y214.length co35 : Value).ownBlock)) yy55 hg hat)
                   have n3_ := Aside0.mk (Kd.R_after (ok := (fun k_ => some k_ ≠ (.slice (some ad198) x3_1.length co5 : Value).ownBlock)) yy54 hg hat)
                   have n4_ := Aside0.mk (hb)
                   have n5_ := Aside0.mk (ho)
                   clear HO_3 HO209 HO224 HO216 HB HO212
                   have HO_3 := n0_
                   have HO209 := n1_
                   have HO224 := n2_
                   have HO216 := n3_
                   have HB := n4_
                   have HO219 := n5_
                   clear n0_ n1_ n2_ n3_ n4_ n5_ ho hb hg hat
                   refine hK.out _ _ ⟨((HB.out.cell (World.block_lt_of_cell? w _ hw213_0)).trans hw213_0), ((HB.out.cell (World.block_lt_of_cell? w _ hw213_1)).trans hw213_1), ((HB.out.cell (World.block_lt_of_cell? w _ hw213_2)).trans hw213_2)⟩ (fun hHeld => ?_)
                   clear hK K
                   refine no_ 49 ?_
                   refine one_ (i := 15) (N := some 53) bYtoadgikbbigdlaaPaAx8_40 rfl rfl (one_of HT_.out (by kernel_rfl)) (by decide) (fun K hK => ?_)
                   refine Kd.R_append_rows_step (Kd.int .i64) (w0 := w) w.heap.size (by rfl) (.tmp 49) (.tmp 52) 26 3 (.int .i64 0) 8 rfl Try.underlying26 info3 rfl (by decide) (by omega) v218 y217 y220 _ _ _ (fun k_ => some k_ ≠ (.slice (some ad198) x3_1.length co5 : Value).ownBlock ∧ some k_ ≠ (.slice Ao35 y214.length co35 : Value).ownBlock) (fun _ => False) rfl rfl ?aO ?aR (fun _ _ h => h) (fun _ h => h.elim) ?aF ?aB ?aS ?aL ?_
                   (case aR => repeat (first | exact (Kd.V_reads' HO224.out).2.2 | (with_reducible refine Kd.C_alloc ?_ _) | (with_reducible refine Kd.C_drewN ?_ _) | (with_reducible refine Kd.C_drew ?_)))
                   (case aB => exact yy1)
                   (case aF => exact (fun k_ hk => ⟨Kd.fresh' (Kd.R_lt yy7) k_ hk, Kd.fresh' (Kd.R_lt yy36) k_ hk⟩))
                   (case aO => exact (by (with_reducible repeat (first | apply Kd.R_alloc | apply Kd.R_drewN | apply Kd.R_drew)); exact HO219.out))
                   (case aS => exact (below_size yy1))
                   (case aL => have := LMc23.out; omega)
                   intro v226 w36 ho hb hg hat
                   rw [← Ny225.out] at ho
                   have n0_ := Aside0.mk (Kd.R_after (ok := (fun k_ => some k_ ≠ (.slice Ao35 y214.length co35 : Value).ownBlock)) yy7 hg hat)
                   have n1_ := Aside0.mk (Kd.V_afterv (ok := (fun k_ => some k_ ≠ (.slice Ao35 y214.length co35 : Value).ownBlock)) yy34 hg hat)
                   have n2_ := Aside0.mk (Kd.V_afterv (ok := (fun k_ => some k_ ≠ (.slice Ao35 y214.length co35 : Value).ownBlock)) yy35 hg hat)
                   have n3_ := Aside0.mk (Kd.R_after (ok := (fun k_ => some k_ ≠ (.slice (some ad198) x3_1.length co5 : Value).ownBlock)) yy36 hg hat)
                   have n4_ := Aside0.mk (hb)
                   have n5_ := Aside0.mk (ho)
                   clear HO_3 HO209 HO224 HO216 HB HO219
                   have HO_3 := n0_
                   have HO209 := n1_
                   have HO224 := n2_
                   have HO216 := n3_
                   have HB := n4_
                   have HO227 := n5_
                   clear n0_ n1_ n2_ n3_ n4_ n5_ ho hb hg hat
                   refine hK.out _ _ ⟨((HB.out.cell (World.block_lt_of_cell? w _ hw213_0)).trans hw213_0), ((HB.out.cell (World.block_lt_of_cell? w _ hw213_1)).trans hw213_1), ((HB.out.cell (World.block_lt_of_cell? w _ hw213_2)).trans hw213_2)⟩ (fun hHeld => ?_)
                   clear hK K
                   refine no_ 53 ?_
                   refine pu_ 16 3 bYtoadgikbbigdlaaPaAx8_41 ?_
                   refine done_ (done_of HT_.out (by kernel_rfl)) ?_
                   try go_wp2
                   go_roundg k2
                   case measure => have := HK1.out; have := HK2.out; omega
                   case rel => exact ⟨(y225), (wrap64 (x4_1 + 1)), yy11, H', ⟨by have := HK1.out; have := HK2.out; omega⟩, ⟨by (with_reducible repeat (first | apply Kd.R_alloc | apply Kd.R_drewN | apply Kd.R_drew)); exact Kd.R_mono HO227.out (fun _ hk => trivial)⟩, ⟨by repeat (first | (with_reducible first | exact HB.out | apply below_alloc | apply pw_below_drewN | apply below_drew1) | exact HB.out)⟩⟩
                  ·rw [if_neg c23] at H
                   exact absurd H (by simp)
                 ·rw [if_neg c20] at H
                  exact absurd H (by simp)
                ·rw [if_neg c19] at H
                 exact absurd H (by simp)
               ·rw [if_neg c18] at H
                exact absurd H (by simp)
              ·rw [if_neg c17] at H
               exact absurd H (by simp)
            ·rw [if_neg c14] at H
             exact absurd H (by simp)
           ·rw [if_neg c13] at H
            exact absurd H (by simp)
          ·rw [if_neg c12] at H
           exact absurd H (by simp)
         ·rw [if_neg c11] at H
          exact absurd H (by simp)
        ·rw [if_neg c9] at H
         exact absurd H (by simp)
       ·rw [if_neg c8] at H
        exact absurd H (by simp)
      ·rw [if_neg c6] at H
       have c6b0 : decide (0 < x5_2) = false := decide_eq_false c6
       clear c6
       obtain ⟨y228, hy228⟩ : ∃ y_ : List Int, y_ = (([] : List Int)) := ⟨_, rfl⟩
       replace H : (if 0 ≤ x5_2 then (if x5_2 ≤ (x3_1.length : Int) then ((some (x3_1.take (x5_2 : Int).toNat : List Int)).bind fun y231 => (if y228.length + y231.length < 17592186044416 then ((some (y228 ++ y231 : List Int)).bind fun y236 => (if 0 ≤ x4_1 then (if x4_1 < (l0.length : Int) then ((some (([(rd_T50 l0 x4_1).f0] : List Int) : List Int)).bind fun y240 => (if y236.length + y240.length < 17592186044416 then ((some (y236 ++ y240 : List Int)).bind fun y243 => ((some (x3_1.drop (x5_2 : Int).toNat : List Int)).bind fun y246 => (if y243.length + y246.length < 17592186044416 then (spec_l26Order.l0 k2 l0 (y243 ++ y246) (wrap64 (x4_1 + 1))) else (none)))) else (none))) else (none)) else (none))) else (none))) else (none)) else (none)) = some r := by first | (rw [hy228]; with_reducible exact H) | (have H2_ := (Option.bind_some _ _).symm.trans H; rw [hy228]; with_reducible exact H2_) | (have H2_ := (Option.bind_some _ _).symm.trans H; with_reducible exact H2_) | with_reducible exact H | (rw [hy228]; exact H) | exact H
       have Ny228 := Aside0.mk hy228
       clear hy228
       by_cases c37 : 0 ≤ x5_2
       ·rw [if_pos c37] at H
        have c37b0 := eq_true c37
        have c37b1 : decide (0 ≤ x5_2) = true := decide_eq_true c37
        clear c37
        by_cases c38 : x5_2 ≤ (x3_1.length : Int)
        ·rw [if_pos c38] at H
         have c38b0 := eq_true c38
         have c38b1 : decide (x5_2 ≤ (x3_1.length : Int)) = true := decide_eq_true c38
         clear c38
         obtain ⟨y231, hy231⟩ : ∃ y_ : List Int, y_ = (x3_1.take (x5_2 : Int).toNat) := ⟨_, rfl⟩
         replace H : (if y228.length + y231.length < 17592186044416 then ((some (y228 ++ y231 : List Int)).bind fun y236 => (if 0 ≤ x4_1 then (if x4_1 < (l0.length : Int) then ((some (([(rd_T50 l0 x4_1).f0] : List Int) : List Int)).bind fun y240 => (if y236.length + y240.length < 17592186044416 then ((some (y236 ++ y240 : List Int)).bind fun y243 => ((some (x3_1.drop (x5_2 : Int).toNat : List Int)).bind fun y246 => (if y243.length + y246.length < 17592186044416 then (spec_l26Order.l0 k2 l0 (y243 ++ y246) (wrap64 (x4_1 + 1))) else (none)))) else (none))) else (none)) else (none))) else (none)) = some r := by first | (rw [hy231]; with_reducible exact H) | (have H2_ := (Option.bind_some _ _).symm.trans H; rw [hy231]; with_reducible exact H2_) | (have H2_ := (Option.bind_some _ _).symm.trans H; with_reducible exact H2_) | with_reducible exact H | (rw [hy231]; exact H) | exact H
         have Ny231 := Aside0.mk hy231
         clear hy231
         by_cases c39 : y228.length + y231.length < 17592186044416
         ·rw [if_pos c39] at H
          have LMc39 := Aside0.mk c39
          clear c39
          obtain ⟨y236, hy236⟩ : ∃ y_ : List Int, y_ = (y228 ++ y231) := ⟨_, rfl⟩
          replace H : (if 0 ≤ x4_1 then (if x4_1 < (l0.length : Int) then ((some (([(rd_T50 l0 x4_1).f0] : List Int) : List Int)).bind fun y240 => (if y236.length + y240.length < 17592186044416 then ((some (y236 ++ y240 : List Int)).bind fun y243 => ((some (x3_1.drop (x5_2 : Int).toNat : List Int)).bind fun y246 => (if y243.length + y246.length < 17592186044416 then (spec_l26Order.l0 k2 l0 (y243 ++ y246) (wrap64 (x4_1 + 1))) else (none)))) else (none))) else (none)) else (none)) = some r := by first | (rw [hy236]; with_reducible exact H) | (have H2_ := (Option.bind_some _ _).symm.trans H; rw [hy236]; with_reducible exact H2_) | (have H2_ := (Option.bind_some _ _).symm.trans H; with_reducible exact H2_) | with_reducible exact H | (rw [hy236]; exact H) | exact H
          have Ny236 := Aside0.mk hy236
          clear hy236
          by_cases c40 : 0 ≤ x4_1
          ·rw [if_pos c40] at H
           have c40b0 : decide (0 ≤ x4_1) = true := decide_eq_true c40
           clear c40
           by_cases c41 : x4_1 < (l0.length : Int)
           ·rw [if_pos c41] at H
            have c41b0 : decide (x4_1 < (l0.length : Int)) = true := decide_eq_true c41
            clear c41
            obtain ⟨y240, hy240⟩ : ∃ y_ : List Int, y_ = (([(rd_T50 l0 x4_1).f0] : List Int)) := ⟨_, rfl⟩
            replace H : (if y236.length + y240.length < 17592186044416 then ((some (y236 ++ y240 : List Int)).bind fun y243 => ((some (x3_1.drop (x5_2 : Int).toNat : List Int)).bind fun y246 => (if y243.length + y246.length < 17592186044416 then (spec_l26Order.l0 k2 l0 (y243 ++ y246) (wrap64 (x4_1 + 1))) else (none)))) else (none)) = some r := by first | (rw [hy240]; with_reducible exact H) | (have H2_ := (Option.bind_some _ _).symm.trans H; rw [hy240]; with_reducible exact H2_) | (have H2_ := (Option.bind_some _ _).symm.trans H; with_reducible exact H2_) | with_reducible exact H | (rw [hy240]; exact H) | exact H
            have Ny240 := Aside0.mk hy240
            clear hy240
            by_cases c42 : y236.length + y240.length < 17592186044416
            ·rw [if_pos c42] at H
             have LMc42 := Aside0.mk c42
             clear c42
             obtain ⟨y243, hy243⟩ : ∃ y_ : List Int, y_ = (y236 ++ y240) := ⟨_, rfl⟩
             replace H : ((some (x3_1.drop (x5_2 : Int).toNat : List Int)).bind fun y246 => (if y243.length + y246.length < 17592186044416 then (spec_l26Order.l0 k2 l0 (y243 ++ y246) (wrap64 (x4_1 + 1))) else (none))) = some r := by first | (rw [hy243]; with_reducible exact H) | (have H2_ := (Option.bind_some _ _).symm.trans H; rw [hy243]; with_reducible exact H2_) | (have H2_ := (Option.bind_some _ _).symm.trans H; with_reducible exact H2_) | with_reducible exact H | (rw [hy243]; exact H) | exact H
             have Ny243 := Aside0.mk hy243
             clear hy243
             have c43b0 := eq_true (of_decide_eq_true yy2 : 0 ≤ x5_2)
             have c44b0 := eq_true (of_decide_eq_true yy2 : x5_2 ≤ (x3_1.length : Int))
             obtain ⟨y246, hy246⟩ : ∃ y_ : List Int, y_ = (x3_1.drop (x5_2 : Int).toNat) := ⟨_, rfl⟩
             replace H : (if y243.length + y246.length < 17592186044416 then (spec_l26Order.l0 k2 l0 (y243 ++ y246) (wrap64 (x4_1 + 1))) else (none)) = some r := by first | (rw [hy246]; with_reducible exact H) | (have H2_ := (Option.bind_some _ _).symm.trans H; rw [hy246]; with_reducible exact H2_) | (have H2_ := (Option.bind_some _ _).symm.trans H; with_reducible exact H2_) | with_reducible exact H | (rw [hy246]; exact H) | exact H
             have Ny246 := Aside0.mk hy246
             clear hy246
             by_cases c45 : y243.length + y246.length < 17592186044416
             ·rw [if_pos c45] at H
              have LMc45 := Aside0.mk c45
              clear c45
              obtain ⟨y251, hy251⟩ : ∃ y_ : List Int, y_ = (y243 ++ y246) := ⟨_, rfl⟩
              replace H : (spec_l26Order.l0 k2 l0 y251 (wrap64 (x4_1 + 1))) = some r := by first | (rw [hy251]; with_reducible exact H) | (have H2_ := (Option.bind_some _ _).symm.trans H; rw [hy251]; with_reducible exact H2_) | (have H2_ := (Option.bind_some _ _).symm.trans H; with_reducible exact H2_) | with_reducible exact H | (rw [hy251]; exact H) | exact H
              have Ny251 := Aside0.mk hy251
              clear hy251
              have H' := Aside0.mk H
              clear H
              try go_wp2
              have n0_ := Aside0.mk (Kd.R_drew HO_3.out)
              have n1_ := Aside0.mk (below_drew1 HB.out)
              clear HO_3 HB
              have HO_3 := n0_
              have HB := n1_
              clear n0_ n1_
              refine start_ (n := 21) (S := fun w' => True) (ds := []) bYtoadgikbbigdlaaPaAx8_0 (by kernel_rfl) rfl rfl trivial (fun hHeld => ?_); refine with_tabW spec_l26Order.tab6 spec_l26Order.bits6 (fun HT_ HW_ => ?_)
              generalize wr.drew = w46 at HO_3 HB hHeld ⊢
              refine pu_ 0 15 bYtoadgikbbigdlaaPaAx8_1 ?_
              refine pu_ 1 16 bYtoadgikbbigdlaaPaAx8_2 ?_
              refine pu_ 2 17 bYtoadgikbbigdlaaPaAx8_3 ?_
              refine pn_ 3 18 bYtoadgikbbigdlaaPaAx8_4 ?_
              refine pn_ 4 19 bYtoadgikbbigdlaaPaAx8_5 ?_
              refine pn_ 5 20 bYtoadgikbbigdlaaPaAx8_6 ?_
              refine pn_ 6 21 bYtoadgikbbigdlaaPaAx8_7 ?_
              refine pn_ 7 22 bYtoadgikbbigdlaaPaAx8_8 ?_
              refine pn_ 8 23 bYtoadgikbbigdlaaPaAx8_9 ?_
              refine pn_ 9 24 #[true, true, true, true, true, true, true, true, true, true, false, false, false, false, false, false, false, false, false, false, false] ?_
              refine pn_ 10 25 #[true, true, true, true, true, true, true, true, true, true, true, false, false, false, false, false, false, false, false, false, false] ?_
              refine pn_ 11 26 #[true, true, true, true, true, true, true, true, true, true, true, true, false, false, false, false, false, false, false, false, false] ?_
              refine pn_ 12 27 #[true, true, true, true, true, true, true, true, true, true, true, true, true, false, false, false, false, false, false, false, false] ?_
              refine pn_ 13 28 #[true, true, true, true, true, true, true, true, true, true, true, true, true, true, false, false, false, false, false, false, false] ?_
              refine pn_ 14 29 #[true, true, true, true, true, true, true, true, true, true, true, true, true, true, true, false, false, false, false, false, false] ?_
              refine pn_ 15 30 #[true, true, true, true, true, true, true, true, true, true, true, true, true, true, true, true, false, false, false, false, false] ?_
              refine pn_ 16 31 #[true, true, true, true, true, true, true, true, true, true, true, true, true, true, true, true, true, false, false, false, false] ?_
              refine pn_ 17 32 #[true, true, true, true, true, true, true, true, true, true, true, true, true, true, true, true, true, true, false, false, false] ?_
              refine pn_ 18 33 bYtoadgikbbigdlaaPaAx8_19 ?_
              refine pn_ 19 34 bYtoadgikbbigdlaaPaAx8_20 ?_
              refine pu_ 20 35 bYtoadgikbbigdlaaPaAx8_21 ?_
              refine done_ (done_of HT_.out (by kernel_rfl)) ?_
              try go_wp2
              have n0_ := Aside0.mk (Kd.R_drew HO_3.out)
              have n1_ := Aside0.mk (below_drew1 HB.out)
              clear HO_3 HB
              have HO_3 := n0_
              have HB := n1_
              clear n0_ n1_
              have q48 : (x5_2 : Int) ≤ ((x3_1.length : Int) : Int) := of_decide_eq_true yy2
              obtain ⟨i048, hi048, _, hsz48, _⟩ := info_parts info3
              have hroom48 : x3_1.length ≤ co5 := (Kd.R_reads' HO_3.out).2.1
              have hC48 : Kd.F (Kd.int .i64) _ _ Ao5 x3_1.length x3_1 := (Kd.V_at (base := w.heap.size) (Kd.R_V HO_3.out)).2.2
              have hcut48 := cut_to (P := Try.prog) 26 3 .i64 Try.underlying26 hi048 Ao5 x3_1.length co5 x5_2 (of_decide_eq_true yy2) q48 hroom48
              have hr48 := Kd.F_take (m := (x5_2 : Int).toNat) hC48 (by omega)
              have hy48 : y231.length = (x5_2 : Int).toNat := (by rw [Ny231.out, List.length_take]; omega)
              rw [← Ny231.out] at hr48
              rw [← hy48] at hcut48
              have HO235 := Aside0.mk (show Kd.V (Kd.int .i64) 3 _ w.heap.size _ (.slice Ao5 y231.length co5) y231 from Kd.V_mk (by omega) hr48)
              have HC235 := Aside0.mk (show y231.length ≤ co5 from by omega)
              clear hr48 hC48 hroom48 hi048 hsz48
              have KY48 := Aside0.mk hy48
              clear hy48
              replace q48 := eq_true q48
              have p239 : 0 ≤ (x4_1 : Int) := of_decide_eq_true yy2
              have q239 : x4_1 < (l0.length : Int) := of_decide_eq_true yy2
              obtain ⟨ad239, e239, hx239_0, hx239_1, hx239_2⟩ := at_T50 HR0.out x4_1 p239 q239
              have hw239_2 := hx239_2
              have hw239_1 := hx239_1
              have hw239_0 := hx239_0
              cases e239
              replace hx239_0 := (HB.out.cell (World.block_lt_of_cell? w _ hx239_0)).trans hx239_0
              replace hx239_1 := (HB.out.cell (World.block_lt_of_cell? w _ hx239_1)).trans hx239_1
              replace hx239_2 := (HB.out.cell (World.block_lt_of_cell? w _ hx239_2)).trans hx239_2
              replace p239 := eq_true p239
              replace q239 := eq_true q239
              have q49 : (x5_2 : Int) ≤ ((x3_1.length : Int) : Int) := of_decide_eq_true yy2
              obtain ⟨i049, hi049, _, hsz49, _⟩ := info_parts info3
              have hroom49 : x3_1.length ≤ co5 := (Kd.R_reads' HO_3.out).2.1
              have hC49 : Kd.F (Kd.int .i64) _ _ Ao5 x3_1.length x3_1 := (Kd.V_at (base := w.heap.size) (Kd.R_V HO_3.out)).2.2
              have q049 : (0 : Int) ≤ (x5_2 : Int) := of_decide_eq_true yy2
              have hcut49 := cut_from (P := Try.prog) 26 3 .i64 Try.underlying26 hi049 1 hsz49 Ao5 x3_1.length co5 x5_2 q049 q49
              have hr49 := Kd.F_cut (m := (x5_2 : Int).toNat) (c := co5) hC49 (by omega) hroom49
              obtain ⟨A49, hA49⟩ : ∃ A1, A1 = (if co5 = (x5_2 : Int).toNat then Ao5 else (Ao5 : Option Addr).map (·.add ((x5_2 : Int).toNat * 1))) := ⟨_, rfl⟩
              obtain ⟨c49, hc49⟩ : ∃ c1, c1 = co5 - (x5_2 : Int).toNat := ⟨_, rfl⟩
              have hy49 : y246.length = x3_1.length - (x5_2 : Int).toNat := (by rw [Ny246.out, List.length_drop] <;> omega)
              rw [show (x3_1).drop (x5_2 : Int).toNat = y246 from Ny246.out.symm] at hr49
              replace hr49 : Kd.F (Kd.int .i64) _ _ A49 y246.length y246 := (by rw [hA49]; exact hr49)
              rw [← hy49, ← hA49, ← hc49] at hcut49
              have HO250 := Aside0.mk (show Kd.V (Kd.int .i64) 3 _ w.heap.size _ (.slice A49 y246.length c49) y246 from Kd.V_mk (by rw [hy49, hc49]; exact Nat.sub_le_sub_right hroom49 _) hr49)
              have HC250 := Aside0.mk (show y246.length ≤ c49 from by rw [hy49, hc49]; exact Nat.sub_le_sub_right hroom49 _)
              clear hr49 hC49 hroom49 hi049 hsz49 hc49
              have KY49 := Aside0.mk hy49
              have KA49 := Aside0.mk hA49
              clear hy49 hA49
              replace q49 := eq_true q49
              refine start_ (n := 17) (S := fun w' => w'.cell? (ad239.add ((x4_1).toNat * 3)) = some (.int .i64 ((rd_T50 l0 x4_1).f0)) ∧ w'.cell? ⟨(ad239.add ((x4_1).toNat * 3)).block, (ad239.add ((x4_1).toNat * 3)).off + 1, none⟩ = some (.int .i64 ((rd_T50 l0 x4_1).f1)) ∧ w'.cell? ⟨(ad239.add ((x4_1).toNat * 3)).block, (ad239.add ((x4_1).toNat * 3)).off + 2, none⟩ = some (.int .i64 ((rd_T50 l0 x4_1).f2))) (ds := []) bYtoadgikbbigdlaaPaAx8_22 (by kernel_rfl) rfl rfl ⟨((HB.out.cell (World.block_lt_of_cell? w _ hw239_0)).trans hw239_0), ((HB.out.cell (World.block_lt_of_cell? w _ hw239_1)).trans hw239_1), ((HB.out.cell (World.block_lt_of_cell? w _ hw239_2)).trans hw239_2)⟩ (fun hHeld => ?_); refine with_tabW spec_l26Order.tab8 spec_l26Order.bits8 (fun HT_ HW_ => ?_)
              generalize w46.drew = w47 at HO_3 HB HO235 HO250 hx239_0 hx239_1 hx239_2 hHeld ⊢
              refine pu_ 1 39 bYtoadgikbbigdlaaPaAx8_23 ?_
              refine pu_ 2 40 bYtoadgikbbigdlaaPaAx8_24 ?_
              refine pu_ 3 41 bYtoadgikbbigdlaaPaAx8_25 ?_
              refine pu_ 5 43 bYtoadgikbbigdlaaPaAx8_26 ?_
              refine pu_ 6 44 bYtoadgikbbigdlaaPaAx8_27 ?_
              refine pu_ 7 45 bYtoadgikbbigdlaaPaAx8_28 ?_
              refine pu_ 8 46 bYtoadgikbbigdlaaPaAx8_29 ?_
              refine pu_ 12 50 bYtoadgikbbigdlaaPaAx8_30 ?_
              refine pu_ 13 51 bYtoadgikbbigdlaaPaAx8_31 ?_
              refine pu_ 14 52 bYtoadgikbbigdlaaPaAx8_32 ?_
              refine t3_ 9 47 bYtoadgikbbigdlaaPaAx8_33 hHeld ?_
              refine join_ (σ := Value × Value × Value) 3 bYtoadgikbbigdlaaPaAx8_34 (fun s_ => [(38, s_.1), (42, s_.2.1), (48, s_.2.2)]) (fun s_ w' => (w'.cell? (ad239.add ((x4_1).toNat * 3)) = some (.int .i64 ((rd_T50 l0 x4_1).f0)) ∧ w'.cell? ⟨(ad239.add ((x4_1).toNat * 3)).block, (ad239.add ((x4_1).toNat * 3)).off + 1, none⟩ = some (.int .i64 ((rd_T50 l0 x4_1).f1)) ∧ w'.cell? ⟨(ad239.add ((x4_1).toNat * 3)).block, (ad239.add ((x4_1).toNat * 3)).off + 2, none⟩ = some (.int .i64 ((rd_T50 l0 x4_1).f2))) ∧ (Kd.V (Kd.int .i64) 3 w' w.heap.size (fun k_ => some k_ ≠ (s_.2.1 : Value).ownBlock ∧ some k_ ≠ (s_.2.2 : Value).ownBlock) (.slice Ao5 y231.length co5) y231) ∧ (Kd.R (Kd.int .i64) 3 w' w.heap.size (fun k_ => some k_ ≠ (s_.2.2 : Value).ownBlock ∧ some k_ ≠ (.slice Ao5 x3_1.length co5 : Value).ownBlock) s_.2.1 y236) ∧ (Kd.R (Kd.int .i64) 3 w' w.heap.size (fun k_ => some k_ ≠ (s_.2.1 : Value).ownBlock ∧ some k_ ≠ (.slice Ao5 x3_1.length co5 : Value).ownBlock) s_.2.2 y240) ∧ (Kd.V (Kd.int .i64) 3 w' w.heap.size (fun k_ => some k_ ≠ (s_.2.1 : Value).ownBlock ∧ some k_ ≠ (s_.2.2 : Value).ownBlock) (.slice A49 y246.length c49) y246) ∧ (Kd.R (Kd.int .i64) 3 w' w.heap.size (fun k_ => some k_ ≠ (s_.2.1 : Value).ownBlock ∧ some k_ ≠ (s_.2.2 : Value).ownBlock) (.slice Ao5 x3_1.length co5) x3_1) ∧ (Below w.heap.size w w')) ?_ ?_
              rotate_left
              ·intro hCont
               refine two_ (i := 0) (j := 10) (Ni := some 38) (Nj := some 48) bYtoadgikbbigdlaaPaAx8_35 bYtoadgikbbigdlaaPaAx8_36 rfl rfl rfl rfl (two_of HT_.out (by kernel_rfl)) (by decide) (by decide) (fun K hK => ?_) (fun K hK => ?_)
               ·skip
                refine Kd.R_lit_step (Kd.int .i64) _ 3 ?hg (N := 38) ?hd (xs := ([] : List Int)) (inner := []) (ok := fun _ => True) (okp := fun _ => True) ?hr ?hp (fun _ hk => hk) trivial (Below.refl _ _) (Nat.le_refl _) (by simp) ?_; (case hd => rfl); (case hg => rfl); (case hr => first | (go_simp; done) | (go_simp; rfl)); (case hp => exact (Reps.none _ _))
                intro v229 w50 ho51 hb hg_ hnew_
                clear hg_ hnew_
                (first | rw [← Ny228.out] at ho51 | (simp only [Int.reduceToNat] at ho51; rw [← Ny228.out] at ho51))
                have n0_ := Aside0.mk (Kd.R_elder' yy7 (Kd.R_base ho51) hb)
                have n1_ := Aside0.mk (Kd.V_elder' yy37 (Kd.R_base ho51) hb)
                have n2_ := Aside0.mk (Kd.V_elder' yy38 (Kd.R_base ho51) hb)
                have n3_ := Aside0.mk (Kd.R_lower (Kd.R_new' ho51 (Kd.R_lt yy7)) (below_size yy1))
                have n4_ := Aside0.mk (below_step yy1 hb)
                clear HO_3 HO235 HO250 HB
                have HO_3 := n0_
                have HO235 := n1_
                have HO250 := n2_
                have HO230 := n3_
                have HB := n4_
                clear n0_ n1_ n2_ n3_ n4_ hb ho51
                refine hK.out _ _ ⟨((HB.out.cell (World.block_lt_of_cell? w _ hw239_0)).trans hw239_0), ((HB.out.cell (World.block_lt_of_cell? w _ hw239_1)).trans hw239_1), ((HB.out.cell (World.block_lt_of_cell? w _ hw239_2)).trans hw239_2)⟩ (fun hHeld => ?_)
                clear hK K
                refine no_ 38 ?_
                refine two_ (i := 4) (j := 10) (Ni := some 42) (Nj := some 48) bYtoadgikbbigdlaaPaAx8_37 bYtoadgikbbigdlaaPaAx8_38 rfl rfl rfl rfl (two_of HT_.out (by kernel_rfl)) (by decide) (by decide) (fun K hK => ?_) (fun K hK => ?_)
                ·skip
                 refine Kd.R_append_rows_step (Kd.int .i64) (w0 := w) w.heap.size (by rfl) (.tmp 38) (.tmp 41) 26 3 (.int .i64 0) 8 rfl Try.underlying26 info3 rfl (by decide) (by omega) v229 y228 y231 _ _ _ (fun k_ => some k_ ≠ (.slice Ao5 x3_1.length co5 : Value).ownBlock) (fun _ => False) rfl rfl ?aO ?aR (fun _ _ h => h) (fun _ h => h.elim) ?aF ?aB ?aS ?aL ?_
                 (case aR => repeat (first | exact (Kd.V_reads' HO235.out).2.2 | (with_reducible refine Kd.C_alloc ?_ _) | (with_reducible refine Kd.C_drewN ?_ _) | (with_reducible refine Kd.C_drew ?_)))
                 (case aB => exact yy1)
                 (case aF => exact (fun k_ hk => Kd.fresh' (Kd.R_lt yy7) k_ hk))
                 (case aO => exact (by (with_reducible repeat (first | apply Kd.R_alloc | apply Kd.R_drewN | apply Kd.R_drew)); exact Kd.R_mono HO230.out (fun _ hk => hk.2)))
                 (case aS => exact (below_size yy1))
                 (case aL => have := LMc39.out; omega)
                 intro v237 w52 ho hb hg hat
                 rw [← Ny236.out] at ho
                 have n0_ := Aside0.mk (Kd.R_after (ok := (fun _ => True)) yy7 hg hat)
                 have n1_ := Aside0.mk (Kd.V_afterv (ok := (fun _ => True)) yy37 hg hat)
                 have n2_ := Aside0.mk (Kd.V_afterv (ok := (fun _ => True)) yy38 hg hat)
                 have n3_ := Aside0.mk (hb)
                 have n4_ := Aside0.mk (ho)
                 clear HO_3 HO235 HO250 HB HO230
                 have HO_3 := n0_
                 have HO235 := n1_
                 have HO250 := n2_
                 have HB := n3_
                 have HO238 := n4_
                 clear n0_ n1_ n2_ n3_ n4_ ho hb hg hat
                 refine hK.out _ _ ⟨((HB.out.cell (World.block_lt_of_cell? w _ hw239_0)).trans hw239_0), ((HB.out.cell (World.block_lt_of_cell? w _ hw239_1)).trans hw239_1), ((HB.out.cell (World.block_lt_of_cell? w _ hw239_2)).trans hw239_2)⟩ (fun hHeld => ?_)
                 clear hK K
                 refine no_ 42 ?_
                 refine one_ (i := 10) (N := some 48) bYtoadgikbbigdlaaPaAx8_34 rfl rfl (one_of HT_.out (by kernel_rfl)) (by decide) (fun K hK => ?_)
                 refine Kd.R_lit_step (Kd.int .i64) _ 3 ?hg (N := 48) ?hd (xs := ([(rd_T50 l0 x4_1).f0] : List Int)) (inner := [.int .i64 ((rd_T50 l0 x4_1).f0)]) (ok := fun _ => True) (okp := fun _ => True) ?hr ?hp (fun _ hk => hk) trivial (Below.refl _ _) (Nat.le_refl _) (by simp) ?_; (case hd => rfl); (case hg => rfl); (case hr => first | (go_simp; done) | (go_simp; rfl)); (case hp => exact (Reps.one (show Kd.M (Kd.int .i64) _ _ _ ((rd_T50 l0 x4_1).f0) [.int .i64 ((rd_T50 l0 x4_1).f0)] from rfl) (Reps.none _ _)))
                 intro v241 w53 ho54 hb hg_ hnew_
                 clear hg_ hnew_
                 (first | rw [← Ny240.out] at ho54 | (simp only [Int.reduceToNat] at ho54; rw [← Ny240.out] at ho54))
                 have n0_ := Aside0.mk (Kd.R_elder' yy7 (Kd.R_base ho54) hb)
                 have n1_ := Aside0.mk (Kd.V_elder' yy37 (Kd.R_base ho54) hb)
                 have n2_ := Aside0.mk (Kd.V_elder' yy38 (Kd.R_base ho54) hb)
                 have n3_ := Aside0.mk (Kd.R_elder' (by (with_reducible repeat (first | apply Kd.R_alloc | apply Kd.R_drewN | apply Kd.R_drew)); exact HO238.out) (Kd.R_base ho54) hb)
                 have n4_ := Aside0.mk (Kd.R_lower (Kd.R_new' (Kd.R_new' ho54 (Kd.R_lt yy7)) (Kd.R_lt (by (with_reducible repeat (first | apply Kd.R_alloc | apply Kd.R_drewN | apply Kd.R_drew)); exact HO238.out))) (below_size yy1))
                 have n5_ := Aside0.mk (below_step yy1 hb)
                 clear HO_3 HO235 HO250 HO238 HB
                 have HO_3 := n0_
                 have HO235 := n1_
                 have HO250 := n2_
                 have HO238 := n3_
                 have HO242 := n4_
                 have HB := n5_
                 clear n0_ n1_ n2_ n3_ n4_ n5_ hb ho54
                 refine hK.out _ _ ⟨((HB.out.cell (World.block_lt_of_cell? w _ hw239_0)).trans hw239_0), ((HB.out.cell (World.block_lt_of_cell? w _ hw239_1)).trans hw239_1), ((HB.out.cell (World.block_lt_of_cell? w _ hw239_2)).trans hw239_2)⟩ (fun hHeld => ?_)
                 clear hK K
                 refine no_ 48 ?_
                 exact norm_ yy18 (hCont (v229, v237, v241) _ ⟨hHeld, (by (with_reducible repeat (first | apply Kd.V_alloc | apply Kd.V_drewN | apply Kd.V_drew)); exact Kd.V_mono HO235.out (fun _ hk => ⟨hk.1.2, hk.2⟩)), yy47, (by (with_reducible repeat (first | apply Kd.R_alloc | apply Kd.R_drewN | apply Kd.R_drew)); exact Kd.R_mono HO242.out (fun _ hk => ⟨hk.2, hk.1.2⟩)), (by (with_reducible repeat (first | apply Kd.V_alloc | apply Kd.V_drewN | apply Kd.V_drew)); exact Kd.V_mono HO250.out (fun _ hk => ⟨hk.1.2, hk.2⟩)), yy45, yy1⟩)
                ·skip
                 refine Kd.R_lit_step (Kd.int .i64) _ 3 ?hg (N := 48) ?hd (xs := ([(rd_T50 l0 x4_1).f0] : List Int)) (inner := [.int .i64 ((rd_T50 l0 x4_1).f0)]) (ok := fun _ => True) (okp := fun _ => True) ?hr ?hp (fun _ hk => hk) trivial (Below.refl _ _) (Nat.le_refl _) (by simp) ?_; (case hd => rfl); (case hg => rfl); (case hr => first | (go_simp; done) | (go_simp; rfl)); (case hp => exact (Reps.one (show Kd.M (Kd.int .i64) _ _ _ ((rd_T50 l0 x4_1).f0) [.int .i64 ((rd_T50 l0 x4_1).f0)] from rfl) (Reps.none _ _)))
                 intro v241 w52 ho53 hb hg_ hnew_
                 clear hg_ hnew_
                 (first | rw [← Ny240.out] at ho53 | (simp only [Int.reduceToNat] at ho53; rw [← Ny240.out] at ho53))
                 have n0_ := Aside0.mk (Kd.R_elder' yy7 (Kd.R_base ho53) hb)
                 have n1_ := Aside0.mk (Kd.V_elder' yy37 (Kd.R_base ho53) hb)
                 have n2_ := Aside0.mk (Kd.V_elder' yy38 (Kd.R_base ho53) hb)
                 have n3_ := Aside0.mk (Kd.R_elder' (by (with_reducible repeat (first | apply Kd.R_alloc | apply Kd.R_drewN | apply Kd.R_drew)); exact HO230.out) (Kd.R_base ho53) hb)
                 have n4_ := Aside0.mk (Kd.R_lower (Kd.R_new' (Kd.R_new' ho53 (Kd.R_lt yy7)) (Kd.R_lt (by (with_reducible repeat (first | apply Kd.R_alloc | apply Kd.R_drewN | apply Kd.R_drew)); exact HO230.out))) (below_size yy1))
                 have n5_ := Aside0.mk (below_step yy1 hb)
                 clear HO_3 HO235 HO250 HO230 HB
                 have HO_3 := n0_
                 have HO235 := n1_
                 have HO250 := n2_
                 have HO230 := n3_
                 have HO242 := n4_
                 have HB := n5_
                 clear n0_ n1_ n2_ n3_ n4_ n5_ hb ho53
                 refine hK.out _ _ ⟨((HB.out.cell (World.block_lt_of_cell? w _ hw239_0)).trans hw239_0), ((HB.out.cell (World.block_lt_of_cell? w _ hw239_1)).trans hw239_1), ((HB.out.cell (World.block_lt_of_cell? w _ hw239_2)).trans hw239_2)⟩ (fun hHeld => ?_)
                 clear hK K
                 refine no_ 48 ?_
                 refine one_ (i := 4) (N := some 42) bYtoadgikbbigdlaaPaAx8_34 rfl rfl (one_of HT_.out (by kernel_rfl)) (by decide) (fun K hK => ?_)
                 refine Kd.R_append_rows_step (Kd.int .i64) (w0 := w) w.heap.size (by rfl) (.tmp 38) (.tmp 41) 26 3 (.int .i64 0) 8 rfl Try.underlying26 info3 rfl (by decide) (by omega) v229 y228 y231 _ _ _ (fun k_ => some k_ ≠ (.slice Ao5 x3_1.length co5 : Value).ownBlock ∧ some k_ ≠ (v241 : Value).ownBlock) (fun _ => False) rfl rfl ?aO ?aR (fun _ _ h => h) (fun _ h => h.elim) ?aF ?aB ?aS ?aL ?_
                 (case aR => repeat (first | exact (Kd.V_reads' HO235.out).2.2 | (with_reducible refine Kd.C_alloc ?_ _) | (with_reducible refine Kd.C_drewN ?_ _) | (with_reducible refine Kd.C_drew ?_)))
                 (case aB => exact yy1)
                 (case aF => exact (fun k_ hk => ⟨Kd.fresh' (Kd.R_lt yy7) k_ hk, Kd.fresh' (Kd.R_lt yy39) k_ hk⟩))
                 (case aO => exact (by (with_reducible repeat (first | apply Kd.R_alloc | apply Kd.R_drewN | apply Kd.R_drew)); exact Kd.R_mono HO230.out (fun _ hk => ⟨hk.1.2, hk.2⟩)))
                 (case aS => exact (below_size yy1))
                 (case aL => have := LMc39.out; omega)
                 intro v237 w54 ho hb hg hat
                 rw [← Ny236.out] at ho
                 have n0_ := Aside0.mk (Kd.R_after (ok := (fun k_ => some k_ ≠ (v241 : Value).ownBlock)) (by (with_reducible repeat (first | apply Kd.R_alloc | apply Kd.R_drewN | apply Kd.R_drew)); exact Kd.R_mono HO_3.out (fun _ hk => ⟨hk.2, hk.1.2⟩)) hg hat)
                 have n1_ := Aside0.mk (Kd.V_afterv (ok := (fun k_ => some k_ ≠ (v241 : Value).ownBlock)) (by (with_reducible repeat (first | apply Kd.V_alloc | apply Kd.V_drewN | apply Kd.V_drew)); exact Kd.V_mono HO235.out (fun _ hk => ⟨hk.2, hk.1.2⟩)) hg hat)
                 have n2_ := Aside0.mk (Kd.V_afterv (ok := (fun k_ => some k_ ≠ (v241 : Value).ownBlock)) (by (with_reducible repeat (first | apply Kd.V_alloc | apply Kd.V_drewN | apply Kd.V_drew)); exact Kd.V_mono HO250.out (fun _ hk => ⟨hk.2, hk.1.2⟩)) hg hat)
                 have n3_ := Aside0.mk (Kd.R_after (ok := (fun k_ => some k_ ≠ (.slice Ao5 x3_1.length co5 : Value).ownBlock)) (by (with_reducible repeat (first | apply Kd.R_alloc | apply Kd.R_drewN | apply Kd.R_drew)); exact Kd.R_mono HO242.out (fun _ hk => ⟨hk.1.2, hk.2⟩)) hg hat)
                 have n4_ := Aside0.mk (hb)
                 have n5_ := Aside0.mk (ho)
                 clear HO_3 HO235 HO250 HO242 HB HO230
                 have HO_3 := n0_
                 have HO235 := n1_
                 have HO250 := n2_
                 have HO242 := n3_
                 have HB := n4_
                 have HO238 := n5_
                 clear n0_ n1_ n2_ n3_ n4_ n5_ ho hb hg hat
                 refine hK.out _ _ ⟨((HB.out.cell (World.block_lt_of_cell? w _ hw239_0)).trans hw239_0), ((HB.out.cell (World.block_lt_of_cell? w _ hw239_1)).trans hw239_1), ((HB.out.cell (World.block_lt_of_cell? w _ hw239_2)).trans hw239_2)⟩ (fun hHeld => ?_)
                 clear hK K
                 refine no_ 42 ?_
                 exact norm_ yy18 (hCont (v229, v237, v241) _ ⟨hHeld, yy56, yy47, yy57, yy58, yy29, yy1⟩)
               ·skip
                refine Kd.R_lit_step (Kd.int .i64) _ 3 ?hg (N := 48) ?hd (xs := ([(rd_T50 l0 x4_1).f0] : List Int)) (inner := [.int .i64 ((rd_T50 l0 x4_1).f0)]) (ok := fun _ => True) (okp := fun _ => True) ?hr ?hp (fun _ hk => hk) trivial (Below.refl _ _) (Nat.le_refl _) (by simp) ?_; (case hd => rfl); (case hg => rfl); (case hr => first | (go_simp; done) | (go_simp; rfl)); (case hp => exact (Reps.one (show Kd.M (Kd.int .i64) _ _ _ ((rd_T50 l0 x4_1).f0) [.int .i64 ((rd_T50 l0 x4_1).f0)] from rfl) (Reps.none _ _)))
                intro v241 w50 ho51 hb hg_ hnew_
                clear hg_ hnew_
                (first | rw [← Ny240.out] at ho51 | (simp only [Int.reduceToNat] at ho51; rw [← Ny240.out] at ho51))
                have n0_ := Aside0.mk (Kd.R_elder' yy7 (Kd.R_base ho51) hb)
                have n1_ := Aside0.mk (Kd.V_elder' yy37 (Kd.R_base ho51) hb)
                have n2_ := Aside0.mk (Kd.V_elder' yy38 (Kd.R_base ho51) hb)
                have n3_ := Aside0.mk (Kd.R_lower (Kd.R_new' ho51 (Kd.R_lt yy7)) (below_size yy1))
                have n4_ := Aside0.mk (below_step yy1 hb)
                clear HO_3 HO235 HO250 HB
                have HO_3 := n0_
                have HO235 := n1_
                have HO250 := n2_
                have HO242 := n3_
                have HB := n4_
                clear n0_ n1_ n2_ n3_ n4_ hb ho51
                refine hK.out _ _ ⟨((HB.out.cell (World.block_lt_of_cell? w _ hw239_0)).trans hw239_0), ((HB.out.cell (World.block_lt_of_cell? w _ hw239_1)).trans hw239_1), ((HB.out.cell (World.block_lt_of_cell? w _ hw239_2)).trans hw239_2)⟩ (fun hHeld => ?_)
                clear hK K
                refine no_ 48 ?_
                refine one_ (i := 0) (N := some 38) bYtoadgikbbigdlaaPaAx8_38 rfl rfl (one_of HT_.out (by kernel_rfl)) (by decide) (fun K hK => ?_)
                refine Kd.R_lit_step (Kd.int .i64) _ 3 ?hg (N := 38) ?hd (xs := ([] : List Int)) (inner := []) (ok := fun _ => True) (okp := fun _ => True) ?hr ?hp (fun _ hk => hk) trivial (Below.refl _ _) (Nat.le_refl _) (by simp) ?_; (case hd => rfl); (case hg => rfl); (case hr => first | (go_simp; done) | (go_simp; rfl)); (case hp => exact (Reps.none _ _))
                intro v229 w52 ho53 hb hg_ hnew_
                clear hg_ hnew_
                (first | rw [← Ny228.out] at ho53 | (simp only [Int.reduceToNat] at ho53; rw [← Ny228.out] at ho53))
                have n0_ := Aside0.mk (Kd.R_elder' yy7 (Kd.R_base ho53) hb)
                have n1_ := Aside0.mk (Kd.V_elder' yy37 (Kd.R_base ho53) hb)
                have n2_ := Aside0.mk (Kd.V_elder' yy38 (Kd.R_base ho53) hb)
                have n3_ := Aside0.mk (Kd.R_elder' yy39 (Kd.R_base ho53) hb)
                have n4_ := Aside0.mk (Kd.R_lower (Kd.R_new' (Kd.R_new' ho53 (Kd.R_lt yy7)) (Kd.R_lt yy39)) (below_size yy1))
                have n5_ := Aside0.mk (below_step yy1 hb)
                clear HO_3 HO235 HO250 HO242 HB
                have HO_3 := n0_
                have HO235 := n1_
                have HO250 := n2_
                have HO242 := n3_
                have HO230 := n4_
                have HB := n5_
                clear n0_ n1_ n2_ n3_ n4_ n5_ hb ho53
                refine hK.out _ _ ⟨((HB.out.cell (World.block_lt_of_cell? w _ hw239_0)).trans hw239_0), ((HB.out.cell (World.block_lt_of_cell? w _ hw239_1)).trans hw239_1), ((HB.out.cell (World.block_lt_of_cell? w _ hw239_2)).trans hw239_2)⟩ (fun hHeld => ?_)
                clear hK K
                refine no_ 38 ?_
                refine one_ (i := 4) (N := some 42) bYtoadgikbbigdlaaPaAx8_34 rfl rfl (one_of HT_.out (by kernel_rfl)) (by decide) (fun K hK => ?_)
                refine Kd.R_append_rows_step (Kd.int .i64) (w0 := w) w.heap.size (by rfl) (.tmp 38) (.tmp 41) 26 3 (.int .i64 0) 8 rfl Try.underlying26 info3 rfl (by decide) (by omega) v229 y228 y231 _ _ _ (fun k_ => some k_ ≠ (.slice Ao5 x3_1.length co5 : Value).ownBlock ∧ some k_ ≠ (v241 : Value).ownBlock) (fun _ => False) rfl rfl ?aO ?aR (fun _ _ h => h) (fun _ h => h.elim) ?aF ?aB ?aS ?aL ?_
                (case aR => repeat (first | exact (Kd.V_reads' HO235.out).2.2 | (with_reducible refine Kd.C_alloc ?_ _) | (with_reducible refine Kd.C_drewN ?_ _) | (with_reducible refine Kd.C_drew ?_)))
                (case aB => exact yy1)
                (case aF => exact (fun k_ hk => ⟨Kd.fresh' (Kd.R_lt yy7) k_ hk, Kd.fresh' (Kd.R_lt yy39) k_ hk⟩))
                (case aO => exact (by (with_reducible repeat (first | apply Kd.R_alloc | apply Kd.R_drewN | apply Kd.R_drew)); exact Kd.R_mono HO230.out (fun _ hk => ⟨hk.1.2, hk.2⟩)))
                (case aS => exact (below_size yy1))
                (case aL => have := LMc39.out; omega)
                intro v237 w54 ho hb hg hat
                rw [← Ny236.out] at ho
                have n0_ := Aside0.mk (Kd.R_after (ok := (fun k_ => some k_ ≠ (v241 : Value).ownBlock)) yy45 hg hat)
                have n1_ := Aside0.mk (Kd.V_afterv (ok := (fun k_ => some k_ ≠ (v241 : Value).ownBlock)) (by (with_reducible repeat (first | apply Kd.V_alloc | apply Kd.V_drewN | apply Kd.V_drew)); exact Kd.V_mono HO235.out (fun _ hk => ⟨hk.1.2, hk.2⟩)) hg hat)
                have n2_ := Aside0.mk (Kd.V_afterv (ok := (fun k_ => some k_ ≠ (v241 : Value).ownBlock)) (by (with_reducible repeat (first | apply Kd.V_alloc | apply Kd.V_drewN | apply Kd.V_drew)); exact Kd.V_mono HO250.out (fun _ hk => ⟨hk.1.2, hk.2⟩)) hg hat)
                have n3_ := Aside0.mk (Kd.R_after (ok := (fun k_ => some k_ ≠ (.slice Ao5 x3_1.length co5 : Value).ownBlock)) (by (with_reducible repeat (first | apply Kd.R_alloc | apply Kd.R_drewN | apply Kd.R_drew)); exact Kd.R_mono HO242.out (fun _ hk => ⟨hk.1.2, hk.2⟩)) hg hat)
                have n4_ := Aside0.mk (hb)
                have n5_ := Aside0.mk (ho)
                clear HO_3 HO235 HO250 HO242 HB HO230
                have HO_3 := n0_
                have HO235 := n1_
                have HO250 := n2_
                have HO242 := n3_
                have HB := n4_
                have HO238 := n5_
                clear n0_ n1_ n2_ n3_ n4_ n5_ ho hb hg hat
                refine hK.out _ _ ⟨((HB.out.cell (World.block_lt_of_cell? w _ hw239_0)).trans hw239_0), ((HB.out.cell (World.block_lt_of_cell? w _ hw239_1)).trans hw239_1), ((HB.out.cell (World.block_lt_of_cell? w _ hw239_2)).trans hw239_2)⟩ (fun hHeld => ?_)
                clear hK K
                refine no_ 42 ?_
                exact norm_ yy18 (hCont (v229, v237, v241) _ ⟨hHeld, yy56, yy47, yy57, yy58, yy29, yy1⟩)
              rintro ⟨v229, v237, v241⟩ w55 ⟨hS_, h0_, h1_, h2_, h3_, h4_, h5_⟩
              have n0_ : Aside0 (Kd.V (Kd.int .i64) 3 w55 w.heap.size (fun k_ => some k_ ≠ (v237 : Value).ownBlock ∧ some k_ ≠ (v241 : Value).ownBlock) (.slice Ao5 y231.length co5) y231) := ⟨h0_⟩
              have n1_ : Aside0 (Kd.R (Kd.int .i64) 3 w55 w.heap.size (fun k_ => some k_ ≠ (v241 : Value).ownBlock ∧ some k_ ≠ (.slice Ao5 x3_1.length co5 : Value).ownBlock) v237 y236) := ⟨h1_⟩
              have n2_ : Aside0 (Kd.R (Kd.int .i64) 3 w55 w.heap.size (fun k_ => some k_ ≠ (v237 : Value).ownBlock ∧ some k_ ≠ (.slice Ao5 x3_1.length co5 : Value).ownBlock) v241 y240) := ⟨h2_⟩
              have n3_ : Aside0 (Kd.V (Kd.int .i64) 3 w55 w.heap.size (fun k_ => some k_ ≠ (v237 : Value).ownBlock ∧ some k_ ≠ (v241 : Value).ownBlock) (.slice A49 y246.length c49) y246) := ⟨h3_⟩
              have n4_ : Aside0 (Kd.R (Kd.int .i64) 3 w55 w.heap.size (fun k_ => some k_ ≠ (v237 : Value).ownBlock ∧ some k_ ≠ (v241 : Value).ownBlock) (.slice Ao5 x3_1.length co5) x3_1) := ⟨h4_⟩
              have n5_ : Aside0 (Below w.heap.size w w55) := ⟨h5_⟩
              clear HO_3 HB h0_ h1_ h2_ h3_ h4_ h5_
              have HO235 := n0_
              have HO238 := n1_
              have HO242 := n2_
              have HO250 := n3_
              have HO_3 := n4_
              have HB := n5_
              clear n0_ n1_ n2_ n3_ n4_ n5_
              have hHeld : w55.cell? (ad239.add ((x4_1).toNat * 3)) = some (.int .i64 ((rd_T50 l0 x4_1).f0)) ∧ w55.cell? ⟨(ad239.add ((x4_1).toNat * 3)).block, (ad239.add ((x4_1).toNat * 3)).off + 1, none⟩ = some (.int .i64 ((rd_T50 l0 x4_1).f1)) ∧ w55.cell? ⟨(ad239.add ((x4_1).toNat * 3)).block, (ad239.add ((x4_1).toNat * 3)).off + 2, none⟩ = some (.int .i64 ((rd_T50 l0 x4_1).f2)) := hS_
              obtain ⟨Ao57, co57, eo57⟩ := Kd.R_slice HO242.out
              (first | subst eo57 | (injection eo57 with f1_ f2_ f3_; have f4_ := f1_.symm; have f5_ := f3_.symm; clear f1_ f2_ f3_; subst f4_; subst f5_))
              refine norm_ (a' := ?_) ?_ ?_
              rotate_left
              ·simp only [putAll, Act.put, List.setIfInBounds_toArray, List.set_cons_zero, List.set_cons_succ]
               rfl
              refine one_ (i := 11) (N := some 49) bYtoadgikbbigdlaaPaAx8_39 rfl rfl (one_of HT_.out (by kernel_rfl)) (by decide) (fun K hK => ?_)
              refine Kd.R_append_rows_step (Kd.int .i64) (w0 := w) w.heap.size (by rfl) (.tmp 42) (.tmp 48) 26 3 (.int .i64 0) 8 rfl Try.underlying26 info3 rfl (by decide) (by omega) v237 y236 y240 _ _ _ (fun k_ => some k_ ≠ (.slice Ao5 x3_1.length co5 : Value).ownBlock ∧ some k_ ≠ (.slice Ao57 y240.length co57 : Value).ownBlock) (fun _ => False) rfl rfl ?aO ?aR (fun _ _ h => h) (fun _ h => h.elim) ?aF ?aB ?aS ?aL ?_
              (case aR => repeat (first | exact (Kd.R_reads' HO242.out).2.2 | (with_reducible refine Kd.C_alloc ?_ _) | (with_reducible refine Kd.C_drewN ?_ _) | (with_reducible refine Kd.C_drew ?_)))
              (case aB => exact yy1)
              (case aF => exact (fun k_ hk => ⟨Kd.fresh' (Kd.R_lt yy7) k_ hk, Kd.fresh' (Kd.R_lt yy39) k_ hk⟩))
              (case aO => exact yy47)
              (case aS => exact (below_size yy1))
              (case aL => have := LMc42.out; omega)
              intro v244 w56 ho hb hg hat
              rw [← Ny243.out] at ho
              have n0_ := Aside0.mk (Kd.R_after (ok := (fun k_ => some k_ ≠ (.slice Ao57 y240.length co57 : Value).ownBlock)) yy29 hg hat)
              have n1_ := Aside0.mk (Kd.V_afterv (ok := (fun k_ => some k_ ≠ (.slice Ao57 y240.length co57 : Value).ownBlock)) yy56 hg hat)
              have n2_ := Aside0.mk (Kd.V_afterv (ok := (fun k_ => some k_ ≠ (.slice Ao57 y240.length co57 : Value).ownBlock)) yy58 hg hat)
              have n3_ := Aside0.mk (Kd.R_after (ok := (fun k_ => some k_ ≠ (.slice Ao5 x3_1.length co5 : Value).ownBlock)) yy57 hg hat)
              have n4_ := Aside0.mk (hb)
              have n5_ := Aside0.mk (ho)
              clear HO_3 HO235 HO250 HO242 HB HO238
              have HO_3 := n0_
              have HO235 := n1_
              have HO250 := n2_
              have HO242 := n3_
              have HB := n4_
              have HO245 := n5_
              clear n0_ n1_ n2_ n3_ n4_ n5_ ho hb hg hat
              refine hK.out _ _ ⟨((HB.out.cell (World.block_lt_of_cell? w _ hw239_0)).trans hw239_0), ((HB.out.cell (World.block_lt_of_cell? w _ hw239_1)).trans hw239_1), ((HB.out.cell (World.block_lt_of_cell? w _ hw239_2)).trans hw239_2)⟩ (fun hHeld => ?_)
              clear hK K
              refine no_ 49 ?_
              refine one_ (i := 15) (N := some 53) bYtoadgikbbigdlaaPaAx8_40 rfl rfl (one_of HT_.out (by kernel_rfl)) (by decide) (fun K hK => ?_)
              refine Kd.R_append_rows_step (Kd.int .i64) (w0 := w) w.heap.size (by rfl) (.tmp 49) (.tmp 52) 26 3 (.int .i64 0) 8 rfl Try.underlying26 info3 rfl (by decide) (by omega) v244 y243 y246 _ _ _ (fun k_ => some k_ ≠ (.slice Ao5 x3_1.length co5 : Value).ownBlock ∧ some k_ ≠ (.slice Ao57 y240.length co57 : Value).ownBlock) (fun _ => False) rfl rfl ?aO ?aR (fun _ _ h => h) (fun _ h => h.elim) ?aF ?aB ?aS ?aL ?_
              (case aR => repeat (first | exact (Kd.V_reads' HO250.out).2.2 | (with_reducible refine Kd.C_alloc ?_ _) | (with_reducible refine Kd.C_drewN ?_ _) | (with_reducible refine Kd.C_drew ?_)))
              (case aB => exact yy1)
              (case aF => exact (fun k_ hk => ⟨Kd.fresh' (Kd.R_lt yy7) k_ hk, Kd.fresh' (Kd.R_lt yy39) k_ hk⟩))
              (case aO => exact (by (with_reducible repeat (first | apply Kd.R_alloc | apply Kd.R_drewN | apply Kd.R_drew)); exact HO245.out))
              (case aS => exact (below_size yy1))
              (case aL => have := LMc45.out; omega)
              intro v252 w58 ho hb hg hat
              rw [← Ny251.out] at ho
              have n0_ := Aside0.mk (Kd.R_after (ok := (fun k_ => some k_ ≠ (.slice Ao57 y240.length co57 : Value).ownBlock)) yy7 hg hat)
              have n1_ := Aside0.mk (Kd.V_afterv (ok := (fun k_ => some k_ ≠ (.slice Ao57 y240.length co57 : Value).ownBlock)) yy37 hg hat)
              have n2_ := Aside0.mk (Kd.V_afterv (ok := (fun k_ => some k_ ≠ (.slice Ao57 y240.length co57 : Value).ownBlock)) yy38 hg hat)
              have n3_ := Aside0.mk (Kd.R_after (ok := (fun k_ => some k_ ≠ (.slice Ao5 x3_1.length co5 : Value).ownBlock)) yy39 hg hat)
              have n4_ := Aside0.mk (hb)
              have n5_ := Aside0.mk (ho)
              clear HO_3 HO235 HO250 HO242 HB HO245
              have HO_3 := n0_
              have HO235 := n1_
              have HO250 := n2_
              have HO242 := n3_
              have HB := n4_
              have HO253 := n5_
              clear n0_ n1_ n2_ n3_ n4_ n5_ ho hb hg hat
              refine hK.out _ _ ⟨((HB.out.cell (World.block_lt_of_cell? w _ hw239_0)).trans hw239_0), ((HB.out.cell (World.block_lt_of_cell? w _ hw239_1)).trans hw239_1), ((HB.out.cell (World.block_lt_of_cell? w _ hw239_2)).trans hw239_2)⟩ (fun hHeld => ?_)
              clear hK K
              refine no_ 53 ?_
              refine pu_ 16 3 bYtoadgikbbigdlaaPaAx8_41 ?_
              refine done_ (done_of HT_.out (by kernel_rfl)) ?_
              try go_wp2
              go_roundg k2
              case measure => have := HK1.out; have := HK2.out; omega
              case rel => exact ⟨(y251), (wrap64 (x4_1 + 1)), yy11, H', ⟨by have := HK1.out; have := HK2.out; omega⟩, ⟨by (with_reducible repeat (first | apply Kd.R_alloc | apply Kd.R_drewN | apply Kd.R_drew)); exact Kd.R_mono HO253.out (fun _ hk => trivial)⟩, ⟨by repeat (first | (with_reducible first | exact HB.out | apply below_alloc | apply pw_below_drewN | apply below_drew1) | exact HB.out)⟩⟩
             ·rw [if_neg c45] at H
              exact absurd H (by simp)
            ·rw [if_neg c42] at H
             exact absurd H (by simp)
           ·rw [if_neg c41] at H
            exact absurd H (by simp)
          ·rw [if_neg c40] at H
           exact absurd H (by simp)
         ·rw [if_neg c39] at H
          exact absurd H (by simp)
        ·rw [if_neg c38] at H
         exact absurd H (by simp)
       ·rw [if_neg c37] at H
        exact absurd H (by simp)
   ·rw [if_neg c4] at H
    have c4b0 : decide (x4_1 < (l0.length : Int)) = false := decide_eq_false c4
    clear c4
    obtain rfl := Option.some.inj H
    go_wp2
    go_ret
    exact ⟨_, by first | rfl | (simp [errW_none, errW_some] <;> rfl) | (simp [*, errW_none, errW_some] <;> rfl), by (with_reducible repeat (first | apply Kd.R_alloc | apply Kd.R_drewN | apply Kd.R_drew)); exact HO_3.out, by repeat (first | (with_reducible first | exact HB.out | apply below_alloc | apply pw_below_drewN | apply below_drew1) | exact HB.out)⟩
end Go.Proofs.Ytoadgikbbigdlaa.A
