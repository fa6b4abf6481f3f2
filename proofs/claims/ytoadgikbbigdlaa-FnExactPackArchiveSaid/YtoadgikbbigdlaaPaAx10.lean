import Derived.Test.YtoadgikbbigdlaaPaWAb
import Derived.Test.YtoadgikbbigdlaaPaAx0
import Derived.Test.YtoadgikbbigdlaaPaAx4
import Derived.Test.YtoadgikbbigdlaaPaAx7
import Derived.Test.YtoadgikbbigdlaaPaAx8
import Derived.Test.YtoadgikbbigdlaaPaAx9
namespace Go.Proofs.Ytoadgikbbigdlaa.A
open Go.RowKit Go.Proofs.YtoadgikbbigdlaaW.PrintWords Go.Proofs.YtoadgikbbigdlaaW.PrintLast Go.Proofs.YtoadgikbbigdlaaW.PrintMore
attribute [local go_sem] max2_int min2_int max_two min_two max_three min_three max_four min_four   -- for this text's walks alone
set_option linter.unusedVariables false
set_option linter.unusedSimpArgs false
mutual
def spec_PackArchive.l0 : Nat → List (S50) → Int → List (S62) → List Int → Int → Option ((List (S62)) × Bool)
 | 0, _, _, _, _, _ => none
 | k + 1, x0, x1, x6, x7, x8 => if x8 < (x7.length : Int) then (spec_PackArchive.l1 k x0 x1 x6 x7 x8 0) else (some (x6, true))
def spec_PackArchive.j2 : Nat → List (S50) → Int → List (S62) → List Int → Int → Int → Option ((List (S62)) × Bool)
 | 0, _, _, _, _, _, _ => none
 | k + 1, x0, x1, x6, x7, x8, x9 => if x9 = (x6.length : Int) then (if x6.length < 4398046511104 then ((some (x6 ++ [(⟨wrap64 (x9 + 1), ([] : List Int)⟩ : S62)] : List (S62))).bind fun y284 => (if 0 ≤ x9 then (if x9 < (y284.length : Int) then ((spec_l1Own.f ((rd_T62 y284 x9).f1)).bind fun t288 => (if 0 ≤ x8 then (if x8 < (x7.length : Int) then ((spec_l1Put.f k t288 (rd x7 x8)).bind fun t292 => (spec_PackArchive.l0 k x0 x1 (y284.set (x9 : Int).toNat (⟨wrap64 (x9 + 1), t292⟩ : S62)) x7 (wrap64 (x8 + 1)))) else (none)) else (none))) else (none)) else (none))) else (none)) else (if 0 ≤ x9 then (if x9 < (x6.length : Int) then ((spec_l1Own.f ((rd_T62 x6 x9).f1)).bind fun t297 => (if 0 ≤ x8 then (if x8 < (x7.length : Int) then ((spec_l1Put.f k t297 (rd x7 x8)).bind fun t301 => (spec_PackArchive.l0 k x0 x1 (x6.set (x9 : Int).toNat (⟨wrap64 (x9 + 1), t301⟩ : S62)) x7 (wrap64 (x8 + 1)))) else (none)) else (none))) else (none)) else (none))
def spec_PackArchive.l1 : Nat → List (S50) → Int → List (S62) → List Int → Int → Int → Option ((List (S62)) × Bool)
 | 0, _, _, _, _, _, _ => none
 | k + 1, x0, x1, x6, x7, x8, x9 => if x9 < (x6.length : Int) then (if 0 ≤ x9 then ((spec_l1Own.f ((rd_T62 x6 x9).f1)).bind fun t276 => (if 0 ≤ x8 then (if x8 < (x7.length : Int) then ((spec_l1Put.f k t276 (rd x7 x8)).bind fun t280 => ((spec_l26Fits.f k x0 t280 x1).bind fun t283 => (if t283 = true then (spec_PackArchive.j2 k x0 x1 x6 x7 x8 x9) else (spec_PackArchive.l1 k x0 x1 x6 x7 x8 (wrap64 (x9 + 1)))))) else (none)) else (none))) else (none)) else (spec_PackArchive.j2 k x0 x1 x6 x7 x8 x9)
end
def spec_PackArchive.f (k : Nat) (l0 : List (S50)) (a1 : Int) : Option ((List (S62)) × Bool) := (some (([] : List (S62)) : List (S62))).bind fun y268 => ((spec_l26Ready.f k l0 a1).bind fun t271 => (if t271 = true then ((spec_l26Order.f k l0).bind fun t272 => (spec_PackArchive.l0 k l0 a1 y268 t272 0)) else (some (y268, false))))
theorem spec_PackArchive.mono_l : ∀ k, (∀ y0 y1 y2 y3 y4, LeO (spec_PackArchive.l0 k y0 y1 y2 y3 y4) (spec_PackArchive.l0 (k + 1) y0 y1 y2 y3 y4)) ∧ (∀ y0 y1 y2 y3 y4 y5, LeO (spec_PackArchive.j2 k y0 y1 y2 y3 y4 y5) (spec_PackArchive.j2 (k + 1) y0 y1 y2 y3 y4 y5)) ∧ (∀ y0 y1 y2 y3 y4 y5, LeO (spec_PackArchive.l1 k y0 y1 y2 y3 y4 y5) (spec_PackArchive.l1 (k + 1) y0 y1 y2 y3 y4 y5))
 | 0 => ⟨fun _ _ _ _ _ r h => by simp [spec_PackArchive.l0] at h, fun _ _ _ _ _ _ r h => by simp [spec_PackArchive.j2] at h, fun _ _ _ _ _ _ r h => by simp [spec_PackArchive.l1] at h⟩
 | k + 1 => by
  obtain ⟨ih0, ih1, ih2⟩ := spec_PackArchive.mono_l k
  refine ⟨?_, ?_, ?_⟩
  ·intro y0 y1 y2 y3 y4
   unfold spec_PackArchive.l0
   repeat' first
   | (with_reducible exact ih0 _ _ _ _ _)
   | (with_reducible exact ih1 _ _ _ _ _ _)
   | (with_reducible exact ih2 _ _ _ _ _ _)
   | (with_reducible exact spec_l1Put.mono _ _ _)
   | (with_reducible exact spec_l26Fits.mono _ _ _ _)
   | (with_reducible exact spec_l26Order.mono _ _)
   | (with_reducible exact spec_l26Ready.mono _ _ _)
   | (with_reducible exact LeO.refl _)
   | (with_reducible exact LeO.none _)
   | (with_reducible refine LeO.ite ?_ ?_)
   | (with_reducible refine LeO.bind ?_ (fun _ => ?_))
   | exact ih0 _ _ _ _ _
   | exact ih1 _ _ _ _ _ _
   | exact ih2 _ _ _ _ _ _
   | exact spec_l1Put.mono _ _ _
   | exact spec_l26Fits.mono _ _ _ _
   | exact spec_l26Order.mono _ _
   | exact spec_l26Ready.mono _ _ _
   | exact LeO.none _
   | refine LeO.ite ?_ ?_
   | refine LeO.bind ?_ (fun _ => ?_)
  ·intro y0 y1 y2 y3 y4 y5
   unfold spec_PackArchive.j2
   repeat' first
   | (with_reducible exact ih0 _ _ _ _ _)
   | (with_reducible exact ih1 _ _ _ _ _ _)
   | (with_reducible exact ih2 _ _ _ _ _ _)
   | (with_reducible exact spec_l1Put.mono _ _ _)
   | (with_reducible exact spec_l26Fits.mono _ _ _ _)
   | (with_reducible exact spec_l26Order.mono _ _)
   | (with_reducible exact spec_l26Ready.mono _ _ _)
   | (with_reducible exact LeO.refl _)
   | (with_reducible exact LeO.none _)
   | (with_reducible refine LeO.ite ?_ ?_)
   | (with_reducible refine LeO.bind ?_ (fun _ => ?_))
   | exact ih0 _ _ _ _ _
   | exact ih1 _ _ _ _ _ _
   | exact ih2 _ _ _ _ _ _
   | exact spec_l1Put.mono _ _ _
   | exact spec_l26Fits.mono _ _ _ _
   | exact spec_l26Order.mono _ _
   | exact spec_l26Ready.mono _ _ _
   | exact LeO.none _
   | refine LeO.ite ?_ ?_
   | refine LeO.bind ?_ (fun _ => ?_)
  ·intro y0 y1 y2 y3 y4 y5
   unfold spec_PackArchive.l1
   repeat' first
   | (with_reducible exact ih0 _ _ _ _ _)
   | (with_reducible exact ih1 _ _ _ _ _ _)
   | (with_reducible exact ih2 _ _ _ _ _ _)
   | (with_reducible exact spec_l1Put.mono _ _ _)
   | (with_reducible exact spec_l26Fits.mono _ _ _ _)
   | (with_reducible exact spec_l26Order.mono _ _)
   | (with_reducible exact spec_l26Ready.mono _ _ _)
   | (with_reducible exact LeO.refl _)
   | (with_reducible exact LeO.none _)
   | (with_reducible refine LeO.ite ?_ ?_)
   | (with_reducible refine LeO.bind ?_ (fun _ => ?_))
   | exact ih0 _ _ _ _ _
   | exact ih1 _ _ _ _ _ _
   | exact ih2 _ _ _ _ _ _
   | exact spec_l1Put.mono _ _ _
   | exact spec_l26Fits.mono _ _ _ _
   | exact spec_l26Order.mono _ _
   | exact spec_l26Ready.mono _ _ _
   | exact LeO.none _
   | refine LeO.ite ?_ ?_
   | refine LeO.bind ?_ (fun _ => ?_)
theorem spec_PackArchive.mono : ∀ a0 a1 k, LeO (spec_PackArchive.f k a0 a1) (spec_PackArchive.f (k + 1) a0 a1) := by
 intro a0 a1 k
 obtain ⟨ih0, ih1, ih2⟩ := spec_PackArchive.mono_l k
 unfold spec_PackArchive.f
 repeat' first
   | (with_reducible exact ih0 _ _ _ _ _)
   | (with_reducible exact ih1 _ _ _ _ _ _)
   | (with_reducible exact ih2 _ _ _ _ _ _)
   | (with_reducible exact spec_l1Put.mono _ _ _)
   | (with_reducible exact spec_l26Fits.mono _ _ _ _)
   | (with_reducible exact spec_l26Order.mono _ _)
   | (with_reducible exact spec_l26Ready.mono _ _ _)
   | (with_reducible exact LeO.refl _)
   | (with_reducible exact LeO.none _)
   | (with_reducible refine LeO.ite ?_ ?_)
   | (with_reducible refine LeO.bind ?_ (fun _ => ?_))
   | exact ih0 _ _ _ _ _
   | exact ih1 _ _ _ _ _ _
   | exact ih2 _ _ _ _ _ _
   | exact spec_l1Put.mono _ _ _
   | exact spec_l26Fits.mono _ _ _ _
   | exact spec_l26Order.mono _ _
   | exact spec_l26Ready.mono _ _ _
   | exact LeO.none _
   | refine LeO.ite ?_ ?_
   | refine LeO.bind ?_ (fun _ => ?_)
def spec_PackArchive.T9 : Bool × List (List Nat × List Nat) := (true, [([], []), ([], []), ([1], [1]), ([0, 2], [0, 2]), ([3], [3]), ([4], [4]), ([4], [4]), ([4], [4]), ([6, 7, 4], [4, 6, 7]), ([8, 4], [4, 8]), ([9, 4], [4, 9]), ([10, 4, 4], [4, 10]), ([4], [4]), ([4], [4]), ([12, 13, 4], [4, 12, 13]), ([14, 4], [4, 14]), ([11, 15, 11, 4], [4, 11, 15]), ([4], [4]), ([5, 16, 17, 16, 4], [4, 5, 16, 17]), ([18, 4], [4, 18]), ([4, 19], [4, 19])])
def spec_PackArchive.B9 : List Nat := [0, 0, 2, 7, 15, 31, 31, 31, 223, 479, 991, 2015, 31, 31, 12319, 28703, 65503, 31, 262143, 524287, 1048575]
theorem spec_PackArchive.tab9 : rtab .any (opsOf Try.f30 9) = spec_PackArchive.T9 := by kernel_rfl
theorem spec_PackArchive.bits9 : waitsOk spec_PackArchive.T9.2 spec_PackArchive.B9 = true := by kernel_rfl
def spec_PackArchive.T13 : Bool × List (List Nat × List Nat) := (true, [([], []), ([], []), ([], []), ([2], [2]), ([], []), ([], []), ([4, 5], [4, 5]), ([6], [6]), ([7], [7]), ([8], [8]), ([], []), ([], []), ([10, 11], [10, 11]), ([12], [12]), ([9, 13, 9], [9, 13]), ([3, 14], [3, 14]), ([0, 1, 0, 1, 2, 3, 4, 5, 6, 7, 8, 9, 10, 11, 12, 13, 14, 15], [0, 1]), ([16, 15, 14, 0, 1, 2, 3, 4, 5, 6, 7, 8, 9, 10, 11, 12, 13, 14, 15], [15, 16])])
def spec_PackArchive.B13 : List Nat := [0, 0, 0, 4, 0, 0, 48, 112, 240, 496, 0, 0, 3072, 7168, 16368, 32764, 65535, 131071]
theorem spec_PackArchive.tab13 : rtab .any (opsOf Try.f30 13) = spec_PackArchive.T13 := by kernel_rfl
theorem spec_PackArchive.bits13 : waitsOk spec_PackArchive.T13.2 spec_PackArchive.B13 = true := by kernel_rfl
def bYtoadgikbbigdlaaPaAx10_0 : Array Bool := #[false, false, false, false, false, false, false, false, false, false, false, false, false, false, false, false, false, false, false, false, false]
def bYtoadgikbbigdlaaPaAx10_1 : Array Bool := #[true, false, false, false, false, false, false, false, false, false, false, false, false, false, false, false, false, false, false, false, false]
def bYtoadgikbbigdlaaPaAx10_2 : Array Bool := #[true, true, false, false, false, false, false, false, false, false, false, false, false, false, false, false, false, false, false, false, false]
def bYtoadgikbbigdlaaPaAx10_3 : Array Bool := #[true, true, true, false, false, false, false, false, false, false, false, false, false, false, false, false, false, false, false, false, false]
def bYtoadgikbbigdlaaPaAx10_4 : Array Bool := #[true, true, true, true, false, false, false, false, false, false, false, false, false, false, false, false, false, false, false, false, false]
def bYtoadgikbbigdlaaPaAx10_5 : Array Bool := #[true, true, true, true, true, false, false, false, false, false, false, false, false, false, false, false, false, false, false, false, false]
def bYtoadgikbbigdlaaPaAx10_6 : Array Bool := #[true, true, true, true, true, true, false, false, false, false, false, false, false, false, false, false, false, false, false, false, false]
def bYtoadgikbbigdlaaPaAx10_7 : Array Bool := #[true, true, true, true, true, true, true, false, false, false, false, false, false, false, false, false, false, false, false, false, false]
def bYtoadgikbbigdlaaPaAx10_8 : Array Bool := #[true, true, true, true, true, true, true, true, false, false, false, false, false, false, false, false, false, false, false, false, false]
def bYtoadgikbbigdlaaPaAx10_9 : Array Bool := #[true, true, true, true, true, true, true, true, true, false, false, false, false, false, false, false, false, false, false, false, false]
def bYtoadgikbbigdlaaPaAx10_10 : Array Bool := #[true, true, true, true, true, true, true, true, true, true, false, false, false, false, false, false, false, false, false, false, false]
def bYtoadgikbbigdlaaPaAx10_11 : Array Bool := #[true, true, true, true, true, true, true, true, true, true, false, false, true, false, false, false, false, false, false, false, false]
def bYtoadgikbbigdlaaPaAx10_12 : Array Bool := #[true, true, true, true, true, true, true, true, true, true, false, false, true, true, false, false, false, false, false, false, false]
def bYtoadgikbbigdlaaPaAx10_13 : Array Bool := #[true, true, true, true, true, true, true, true, true, true, false, false, true, true, true, false, false, false, false, false, false]
def bYtoadgikbbigdlaaPaAx10_14 : Array Bool := #[true, true, true, true, true, true, true, true, true, true, false, false, true, true, true, false, false, true, false, false, false]
def bYtoadgikbbigdlaaPaAx10_15 : Array Bool := #[true, true, true, true, true, true, true, true, true, true, true, false, true, true, true, false, false, true, false, false, false]
def bYtoadgikbbigdlaaPaAx10_16 : Array Bool := #[true, true, true, true, true, true, true, true, true, true, true, false, true, true, true, true, false, true, false, false, false]
def bYtoadgikbbigdlaaPaAx10_17 : Array Bool := #[true, true, true, true, true, true, true, true, true, true, true, true, true, true, true, true, false, true, false, false, false]
def bYtoadgikbbigdlaaPaAx10_18 : Array Bool := #[true, true, true, true, true, true, true, true, true, true, true, true, true, true, true, true, true, true, false, false, false]
def bYtoadgikbbigdlaaPaAx10_19 : Array Bool := #[true, true, true, true, true, true, true, true, true, true, true, true, true, true, true, true, true, true, true, false, false]
def bYtoadgikbbigdlaaPaAx10_20 : Array Bool := #[true, true, true, true, true, true, true, true, true, true, true, true, true, true, true, true, true, true, true, true, false]
def bYtoadgikbbigdlaaPaAx10_21 : Array Bool := #[true, true, true, true, true, true, true, true, true, true, true, true, true, true, true, true, true, true, true, true, true]
def bYtoadgikbbigdlaaPaAx10_22 : Array Bool := #[false, false, false, false, false, false, false, false, false, false, false, false, false, false, false, false, false, false]
def bYtoadgikbbigdlaaPaAx10_23 : Array Bool := #[true, false, false, false, false, false, false, false, false, false, false, false, false, false, false, false, false, false]
def bYtoadgikbbigdlaaPaAx10_24 : Array Bool := #[true, true, false, false, false, false, false, false, false, false, false, false, false, false, false, false, false, false]
def bYtoadgikbbigdlaaPaAx10_25 : Array Bool := #[true, true, true, false, false, false, false, false, false, false, false, false, false, false, false, false, false, false]
def bYtoadgikbbigdlaaPaAx10_26 : Array Bool := #[true, true, true, true, false, false, false, false, false, false, false, false, false, false, false, false, false, false]
def bYtoadgikbbigdlaaPaAx10_27 : Array Bool := #[true, true, true, true, true, false, false, false, false, false, false, false, false, false, false, false, false, false]
def bYtoadgikbbigdlaaPaAx10_28 : Array Bool := #[true, true, true, true, true, true, false, false, false, false, false, false, false, false, false, false, false, false]
def bYtoadgikbbigdlaaPaAx10_29 : Array Bool := #[true, true, true, true, true, true, true, false, false, false, false, false, false, false, false, false, false, false]
def bYtoadgikbbigdlaaPaAx10_30 : Array Bool := #[true, true, true, true, true, true, true, true, false, false, false, false, false, false, false, false, false, false]
def bYtoadgikbbigdlaaPaAx10_31 : Array Bool := #[true, true, true, true, true, true, true, true, false, false, true, false, false, false, false, false, false, false]
def bYtoadgikbbigdlaaPaAx10_32 : Array Bool := #[true, true, true, true, true, true, true, true, false, false, true, true, false, false, false, false, false, false]
def bYtoadgikbbigdlaaPaAx10_33 : Array Bool := #[true, true, true, true, true, true, true, true, false, false, true, true, true, false, false, false, false, false]
def bYtoadgikbbigdlaaPaAx10_34 : Array Bool := #[true, true, true, true, true, true, true, true, true, false, true, true, true, false, false, false, false, false]
def bYtoadgikbbigdlaaPaAx10_35 : Array Bool := #[true, true, true, true, true, true, true, true, true, false, true, true, true, true, false, false, false, false]
def bYtoadgikbbigdlaaPaAx10_36 : Array Bool := #[true, true, true, true, true, true, true, true, true, true, true, true, true, true, false, false, false, false]
def bYtoadgikbbigdlaaPaAx10_37 : Array Bool := #[true, true, true, true, true, true, true, true, true, true, true, true, true, true, true, false, false, false]
def bYtoadgikbbigdlaaPaAx10_38 : Array Bool := #[true, true, true, true, true, true, true, true, true, true, true, true, true, true, true, true, false, false]
def bYtoadgikbbigdlaaPaAx10_39 : Array Bool := #[true, true, true, true, true, true, true, true, true, true, true, true, true, true, true, true, true, false]
def bYtoadgikbbigdlaaPaAx10_40 : Array Bool := #[true, true, true, true, true, true, true, true, true, true, true, true, true, true, true, true, true, true]
set_option maxHeartbeats 8000000 in
set_option maxRecDepth 100000 in
theorem spec_PackArchive.calls (k : Nat) (A0 : Option Addr) (c0 : Nat) (l0 : List (S50)) (a1 : Int) (r1 : List (S62)) (r2 : Bool) (w : World) (hr0 : Kd.C k50 w A0 l0.length l0) (hc0 : l0.length ≤ c0) (h : spec_PackArchive.f k l0 a1 = some (r1, r2)) :
  Calls Try.prog 30 #[.slice A0 l0.length c0, .int .i64 a1] w fun e w' => ∃ v0_ : Value, e = .returned (.tuple #[v0_, .bool r2]) ∧ Kd.N k62 62 w' w.heap.size (fun k_ => (w.heap.size ≤ k_)) v0_ r1 ∧ Below w.heap.size w w' := by
 have hu62 := Try.underlying62
 have HR0 := Aside0.mk hr0
 have HC0 := Aside0.mk hc0
 clear hr0 hc0
 have HB := Aside0.mk (Below.refl w.heap.size w)
 have H : ((some (([] : List (S62)) : List (S62))).bind fun y268 => ((spec_l26Ready.f k l0 a1).bind fun t271 => (if t271 = true then ((spec_l26Order.f k l0).bind fun t272 => (spec_PackArchive.l0 k l0 a1 y268 t272 0)) else (some (y268, false))))) = some (r1, r2) := h
 clear h
 obtain ⟨y268, hy268⟩ : ∃ y_ : List (S62), y_ = (([] : List (S62))) := ⟨_, rfl⟩
 replace H : ((spec_l26Ready.f k l0 a1).bind fun t271 => (if t271 = true then ((spec_l26Order.f k l0).bind fun t272 => (spec_PackArchive.l0 k l0 a1 y268 t272 0)) else (some (y268, false)))) = some (r1, r2) := by first | (rw [hy268]; with_reducible exact H) | (have H2_ := (Option.bind_some _ _).symm.trans H; rw [hy268]; with_reducible exact H2_) | (have H2_ := (Option.bind_some _ _).symm.trans H; with_reducible exact H2_) | with_reducible exact H | (rw [hy268]; exact H) | exact H
 have Ny268 := Aside0.mk hy268
 clear hy268
 replace H := Option.bind_eq_some_iff.mp H
 obtain ⟨t271, A30, H⟩ := H
 replace H : (if t271 = true then ((spec_l26Order.f k l0).bind fun t272 => (spec_PackArchive.l0 k l0 a1 y268 t272 0)) else (some (y268, false))) = some (r1, r2) := H
 have A3 := Aside0.mk A30
 clear A30
 by_cases c4 : t271 = true
 ·subst c4
  have H1 : ((spec_l26Order.f k l0).bind fun t272 => (spec_PackArchive.l0 k l0 a1 y268 t272 0)) = some (r1, r2) := by rw [if_pos rfl] at H; exact H
  clear H
  have H := H1
  clear H1
  replace H := Option.bind_eq_some_iff.mp H
  obtain ⟨t272, A50, H⟩ := H
  replace H : (spec_PackArchive.l0 k l0 a1 y268 t272 0) = some (r1, r2) := H
  have A5 := Aside0.mk A50
  clear A50
  have H' := Aside0.mk H
  clear H
  go_enter Try.func30, Try.ntmps30
  go_wp2_with (first | ((with_reducible refine gate_dst (N := 10) rfl ?_); refine Kd.N_lit k62 _ 62 ?hg (N' := 10) ?hd (xs := ([] : List (S62))) (inner := []) (ok := (fun k_ => (w.heap.size ≤ k_))) (okp := (fun k_ => (w.heap.size ≤ k_))) ?hr ?hp (fun _ hk => hk) ((show ∀ k_, w.heap.size ≤ k_ → (fun k_ => (w.heap.size ≤ k_)) k_ from fun k_ hk => (Nat.le_trans (below_size yy1) hk)) _ (Nat.le_refl _)) (Below.refl _ _) (Nat.le_refl _) (by simp) ?_; (case hd => rfl); (case hg => rfl); (case hr => first | (go_simp; done) | (go_simp; rfl)); (case hp => exact (Reps.none _ _)); intro v269 w6 ho7 hb hg_ hnew_; clear hg_ hnew_; (first | rw [← Ny268.out] at ho7 | (simp only [Int.reduceToNat] at ho7; rw [← Ny268.out] at ho7)); have n0_ := Aside0.mk (Kd.N_lower ho7 (below_size yy1)); have n1_ := Aside0.mk (below_step yy1 hb); clear HB; have HO270 := n0_; have HB := n1_; clear n0_ n1_; clear hb ho7) | ((with_reducible refine gate_callee (f := 64) rfl ?_); refine goesL_ (some 13) rfl rfl Try.func64 (by kernel_rfl) rfl #[.slice A0 l0.length c0, .int .i64 a1] rfl yy3 ?_; (with_reducible refine (spec_l26Ready.calls k _ _ l0 a1 true _ ?side1 ?side2 A3.out).mono ?_); (case side1 => repeat (first | exact (Kd.C_below HR0.out HB.out) | (with_reducible refine Kd.C_alloc ?_ _) | (with_reducible refine Kd.C_drewN ?_ _) | (with_reducible refine Kd.C_drew ?_))); (case side2 => exact HC0.out); rintro e w8 ⟨rfl, hb⟩; refine ⟨_, rfl, ?_⟩; have n0_ := Aside0.mk (Kd.N_below yy65 hb); have n1_ := Aside0.mk (below_step yy1 hb); clear HO270; clear HB; have HO270 := n0_; have HB := n1_; clear n0_ n1_; (try clear hb); (try clear hb2); (try clear hk); (try clear hi)) | ((with_reducible refine gate_callee (f := 65) rfl ?_); refine goesL_ (some 17) rfl rfl Try.func65 (by kernel_rfl) rfl #[.slice A0 l0.length c0] rfl yy3 ?_; (with_reducible refine (spec_l26Order.calls k _ _ l0 t272 _ ?side1 ?side2 A5.out).mono ?_); (case side1 => repeat (first | exact (Kd.C_below HR0.out HB.out) | (with_reducible refine Kd.C_alloc ?_ _) | (with_reducible refine Kd.C_drewN ?_ _) | (with_reducible refine Kd.C_drew ?_))); (case side2 => exact HC0.out); rintro e w9 ⟨v273, rfl, ho0, hb⟩; refine ⟨_, rfl, ?_⟩; have n0_ := Aside0.mk (Kd.N_elder' yy65 (Kd.R_base ho0) hb); have n1_ := Aside0.mk (Kd.R_lower (Kd.R_newM (M := fun k_ => (w.heap.size ≤ k_)) ho0 (below_size yy1) (fun k_ h_ => h_)) (below_size yy1)); have n2_ := Aside0.mk (below_step yy1 hb); clear HO270; clear HB; have HO270 := n0_; have HO274 := n1_; have HB := n2_; clear n0_ n1_ n2_; (try clear hb); (try clear hb2); (try clear hk); (try clear hi); (try clear ho0)))
  go_loopg [6, 8] k (fun kq v6 v8 w' => ∃ (x6_1 : List (S62)) (x8_1 : Int), v8 = .int .i64 x8_1 ∧ Aside0 (spec_PackArchive.l0 kq l0 a1 x6_1 t272 x8_1 = some (r1, r2)) ∧ Aside0 (kq ≤ k) ∧ Aside0 (Kd.N k62 62 w' w.heap.size (fun k_ => (w.heap.size ≤ k_) ∧ some k_ ≠ (v273 : Value).ownBlock) v6 x6_1) ∧ Aside0 (Kd.R (Kd.int .i64) 3 w' w.heap.size (fun k_ => (w.heap.size ≤ k_)) v273 t272) ∧ Aside0 (Below w.heap.size w w'))
  case atStart => exact ⟨(y268), (0), yy11, H', ⟨Nat.le_refl _⟩, ⟨by (with_reducible repeat (first | apply Kd.N_alloc | apply Kd.N_drewN | apply Kd.N_drew)); exact HO270.out⟩, ⟨by (with_reducible repeat (first | apply Kd.R_alloc | apply Kd.R_drewN | apply Kd.R_drew)); exact Kd.R_mono HO274.out (fun _ hk => hk.1)⟩, ⟨by repeat (first | (with_reducible first | exact HB.out | apply below_alloc | apply pw_below_drewN | apply below_drew1) | exact HB.out)⟩⟩
  case round =>
   clear H'
   try clear p2
   try clear c3
   try clear c4
   try clear c6
   obtain ⟨x6_1, x8_1, rfl, HA, HK1, HO_6, HO_7, HB⟩ := hrel
   cases gk with
   | zero => exact absurd HA.out (by simp [spec_PackArchive.l0])
   | succ k1 =>
    have H := HA.out
    clear HA
    simp only [spec_PackArchive.l0] at H
    by_cases c10 : x8_1 < (t272.length : Int)
    ·rw [if_pos c10] at H
     have c10b0 : decide (x8_1 < (t272.length : Int)) = true := decide_eq_true c10
     clear c10
     have HC11 := Aside0.mk H
     clear H
     obtain ⟨Ao12, co12, eo12⟩ := Kd.R_slice HO_7.out
     subst eo12
     go_upto_block 2 with (fail)
     go_cut [9] (fun v9 wc => ∃ (kq : Nat) (x9_10 : Int), v9 = .int .i64 x9_10 ∧ Aside0 (spec_PackArchive.j2 kq l0 a1 x6_1 t272 x8_1 x9_10 = some (r1, r2)) ∧ Aside0 (kq ≤ k1) ∧ Aside0 (Kd.N k62 62 wc w.heap.size (fun k_ => (w.heap.size ≤ k_) ∧ some k_ ≠ ((.slice Ao12 t272.length co12) : Value).ownBlock) u6 x6_1) ∧ Aside0 (Kd.R (Kd.int .i64) 3 wc w.heap.size (fun k_ => (w.heap.size ≤ k_)) (.slice Ao12 t272.length co12) t272) ∧ Aside0 (Below w.heap.size w wc))
     case first =>
      have H := HC11.out
      clear HC11
      have H' := Aside0.mk H
      clear H
      go_wp2
      go_loopg [9] k1 (fun kq v9 w' => ∃ (x9_2 : Int), v9 = .int .i64 x9_2 ∧ Aside0 (spec_PackArchive.l1 kq l0 a1 x6_1 t272 x8_1 x9_2 = some (r1, r2)) ∧ Aside0 (kq ≤ k1) ∧ Aside0 (Kd.N k62 62 w' w.heap.size (fun k_ => (w.heap.size ≤ k_) ∧ some k_ ≠ ((.slice Ao12 t272.length co12) : Value).ownBlock) u6 x6_1) ∧ Aside0 (Kd.R (Kd.int .i64) 3 w' w.heap.size (fun k_ => (w.heap.size ≤ k_)) (.slice Ao12 t272.length co12) t272) ∧ Aside0 (Below w.heap.size w w'))
      case atStart => exact ⟨(0), yy11, H', ⟨Nat.le_refl _⟩, ⟨by (with_reducible repeat (first | apply Kd.N_alloc | apply Kd.N_drewN | apply Kd.N_drew)); exact HO_6.out⟩, ⟨by (with_reducible repeat (first | apply Kd.R_alloc | apply Kd.R_drewN | apply Kd.R_drew)); exact HO_7.out⟩, ⟨by repeat (first | (with_reducible first | exact HB.out | apply below_alloc | apply pw_below_drewN | apply below_drew1) | exact HB.out)⟩⟩
      case round =>
       clear H'
       try clear c1
       try clear p2
       try clear c3
       try clear c4
       try clear c6
       try clear c10
       try clear c10b0
       try clear p2
       obtain ⟨x9_2, rfl, HA, HK2, HO_6, HO_7, HB⟩ := hrel
       cases gk with
       | zero => exact absurd HA.out (by simp [spec_PackArchive.l1])
       | succ k2 =>
        have H := HA.out
        clear HA
        simp only [spec_PackArchive.l1] at H
        by_cases c13 : x9_2 < (x6_1.length : Int)
        ·rw [if_pos c13] at H
         have c13b0 : decide (x9_2 < (x6_1.length : Int)) = true := decide_eq_true c13
         clear c13
         (first | rw [c13b0] | (simp only [i64_w, i32_w]; rw [c13b0]) | skip)
         by_cases c14 : 0 ≤ x9_2
         ·rw [if_pos c14] at H
          have c14b0 : decide (0 ≤ x9_2) = true := decide_eq_true c14
          clear c14
          replace H := Option.bind_eq_some_iff.mp H
          obtain ⟨t276, A150, H⟩ := H
          replace H : (if 0 ≤ x8_1 then (if x8_1 < (t272.length : Int) then ((spec_l1Put.f k2 t276 (rd t272 x8_1)).bind fun t280 => ((spec_l26Fits.f k2 l0 t280 a1).bind fun t283 => (if t283 = true then (spec_PackArchive.j2 k2 l0 a1 x6_1 t272 x8_1 x9_2) else (spec_PackArchive.l1 k2 l0 a1 x6_1 t272 x8_1 (wrap64 (x9_2 + 1)))))) else (none)) else (none)) = some (r1, r2) := H
          have A15 := Aside0.mk A150
          clear A150
          by_cases c16 : 0 ≤ x8_1
          ·rw [if_pos c16] at H
           have c16b0 : decide (0 ≤ x8_1) = true := decide_eq_true c16
           clear c16
           by_cases c17 : x8_1 < (t272.length : Int)
           ·rw [if_pos c17] at H
            have c17b0 : decide (x8_1 < (t272.length : Int)) = true := decide_eq_true c17
            clear c17
            replace H := Option.bind_eq_some_iff.mp H
            obtain ⟨t280, A180, H⟩ := H
            replace H : ((spec_l26Fits.f k2 l0 t280 a1).bind fun t283 => (if t283 = true then (spec_PackArchive.j2 k2 l0 a1 x6_1 t272 x8_1 x9_2) else (spec_PackArchive.l1 k2 l0 a1 x6_1 t272 x8_1 (wrap64 (x9_2 + 1))))) = some (r1, r2) := H
            have A18 := Aside0.mk A180
            clear A180
            replace H := Option.bind_eq_some_iff.mp H
            obtain ⟨t283, A190, H⟩ := H
            replace H : (if t283 = true then (spec_PackArchive.j2 k2 l0 a1 x6_1 t272 x8_1 x9_2) else (spec_PackArchive.l1 k2 l0 a1 x6_1 t272 x8_1 (wrap64 (x9_2 + 1)))) = some (r1, r2) := H
            have A19 := Aside0.mk A190
            clear A190
            by_cases c20 : t283 = true
            ·subst c20
             have H1 : (spec_PackArchive.j2 k2 l0 a1 x6_1 t272 x8_1 x9_2) = some (r1, r2) := by rw [if_pos rfl] at H; exact H
             clear H
             have H := H1
             clear H1
             have H' := Aside0.mk H
             clear H
             try go_wp2
             have n0_ := Aside0.mk (Kd.N_drew HO_6.out)
             have n1_ := Aside0.mk (Kd.R_drew HO_7.out)
             have n2_ := Aside0.mk (below_drew1 HB.out)
             clear HO_6 HO_7 HB
             have HO_6 := n0_
             have HO_7 := n1_
             have HB := n2_
             clear n0_ n1_ n2_
             obtain ⟨Ao22, co22, eo22⟩ := Kd.N_slice HO_6.out
             (first | subst eo22 | (injection eo22 with f1_ f2_ f3_; have f4_ := f1_.symm; have f5_ := f3_.symm; clear f1_ f2_ f3_; subst f4_; subst f5_))
             have p275 : 0 ≤ (x9_2 : Int) := of_decide_eq_true yy2
             have q275 : x9_2 < (x6_1.length : Int) := of_decide_eq_true yy2
             obtain ⟨ad275, A275_1, c275_1, e275, hx275_0, hx275_1, hl275_1, hi275_1⟩ := at_T62 (Kd.N_reads' HO_6.out).2.2 x9_2 p275 q275
             cases e275
             obtain ⟨ce275, hce275, hMe275, hcc275⟩ := Kd.N_get HO_6.out z62 x9_2 p275 (by first | exact q275 | exact of_decide_eq_true yy2 | (have e_ := (Kd.N_reads' HO_6.out).1; omega))
             obtain ⟨ua275_1, uc275_1, rfl, ul275_1, ge275_1⟩ := k62_openF hMe275
             have hv275_1 := hcc275 1 _ rfl
             rw [add_field _ _ 1 (by omega)] at hv275_1
             replace hv275_1 := Option.some.inj (hv275_1.symm.trans hx275_1)
             injection hv275_1 with hva_ hvn_ hvc_
             rw [hva_] at ge275_1
             rw [hvc_] at ul275_1
             have HL275_1 := Aside0.mk (show Kd.V (Kd.int .i64) 3 _ w.heap.size _ _ ((rd_T62 x6_1 x9_2).f1) from Kd.V_mk ul275_1 ge275_1)
             clear hva_ hvn_ hvc_ ge275_1 ul275_1 hcc275 hce275
             have HR275_1 := Aside0.mk hi275_1
             have HC275_1 := Aside0.mk hl275_1
             clear hi275_1 hl275_1
             replace p275 := eq_true p275
             replace q275 := eq_true q275
             have p279 : 0 ≤ (x8_1 : Int) := of_decide_eq_true yy2
             have q279 : x8_1 < (t272.length : Int) := of_decide_eq_true yy2
             obtain ⟨ad279, e279, hx279_0⟩ := Kd.at_int (Kd.R_reads' HO_7.out).2.2 x8_1 p279 q279
             cases e279
             replace p279 := eq_true p279
             replace q279 := eq_true q279
             refine start_ (n := 21) (S := fun w' => w'.cell? (ad275.add ((x9_2).toNat * 2)) = some (.int .i64 ((rd_T62 x6_1 x9_2).f0)) ∧ w'.cell? ⟨(ad275.add ((x9_2).toNat * 2)).block, (ad275.add ((x9_2).toNat * 2)).off + 1, none⟩ = some (.slice A275_1 ((rd_T62 x6_1 x9_2).f1).length c275_1) ∧ w'.cell? (ad279.add (x8_1).toNat) = some (.int .i64 (rd t272 x8_1))) (ds := []) bYtoadgikbbigdlaaPaAx10_0 (by kernel_rfl) rfl rfl ⟨hx275_0, hx275_1, hx279_0⟩ (fun hHeld => ?_); refine with_tabW spec_PackArchive.tab9 spec_PackArchive.bits9 (fun HT_ HW_ => ?_)
             generalize wr.drew = w21 at HO_6 HO_7 HB HL275_1 HR275_1 hx275_0 hx275_1 hx279_0 hHeld ⊢
             refine pu_ 0 24 bYtoadgikbbigdlaaPaAx10_1 ?_
             refine pu_ 1 25 bYtoadgikbbigdlaaPaAx10_2 ?_
             refine pu_ 2 26 bYtoadgikbbigdlaaPaAx10_3 ?_
             refine pu_ 3 27 bYtoadgikbbigdlaaPaAx10_4 ?_
             refine pu_ 4 28 bYtoadgikbbigdlaaPaAx10_5 ?_
             refine pu_ 5 29 bYtoadgikbbigdlaaPaAx10_6 ?_
             refine pu_ 6 30 bYtoadgikbbigdlaaPaAx10_7 ?_
             refine pu_ 7 31 bYtoadgikbbigdlaaPaAx10_8 ?_
             refine pu_ 8 32 bYtoadgikbbigdlaaPaAx10_9 ?_
             refine pu_ 9 33 bYtoadgikbbigdlaaPaAx10_10 ?_
             refine pu_ 12 36 bYtoadgikbbigdlaaPaAx10_11 ?_
             refine pu_ 13 37 bYtoadgikbbigdlaaPaAx10_12 ?_
             refine pu_ 14 38 bYtoadgikbbigdlaaPaAx10_13 ?_
             refine pu_ 17 41 bYtoadgikbbigdlaaPaAx10_14 ?_
             refine t3_ 10 34 bYtoadgikbbigdlaaPaAx10_15 hHeld ?_
             refine t3_ 15 39 bYtoadgikbbigdlaaPaAx10_16 hHeld ?_
             refine one_ (i := 11) (N := some 35) bYtoadgikbbigdlaaPaAx10_17 rfl rfl (one_of HT_.out (by kernel_rfl)) (by decide) (fun K hK => ?_)
             refine goes_ Try.func67 (by kernel_rfl) rfl #[.slice A275_1 ((rd_T62 x6_1 x9_2).f1).length c275_1] (by rfl) rfl rfl yy3 ?_
             with_reducible refine (spec_l1Own.calls _ _ ((rd_T62 x6_1 x9_2).f1) t276 _ ?side1 ?side2 A15.out).mono ?_
             (case side1 => repeat (first | exact yy43 | (with_reducible refine Kd.C_alloc ?_ _) | (with_reducible refine Kd.C_drewN ?_ _) | (with_reducible refine Kd.C_drew ?_)))
             (case side2 => exact HC275_1.out)
             rintro e w23 ⟨v277, rfl, ho0, hb⟩
             have HS0_ := (hb.cell (World.block_lt_of_cell? _ _ (hHeld.1))).trans (hHeld.1)
             have HS1_ := (hb.cell (World.block_lt_of_cell? _ _ (hHeld.2.1))).trans (hHeld.2.1)
             have HS2_ := (hb.cell (World.block_lt_of_cell? _ _ (hHeld.2.2))).trans (hHeld.2.2)
             refine ⟨_, rfl, ?_⟩
             have n0_ := Aside0.mk (Kd.N_elder' yy40 (Kd.R_base ho0) hb)
             have n1_ := Aside0.mk (Kd.R_elder' yy14 (Kd.R_base ho0) hb)
             have n2_ := Aside0.mk (Kd.V_elder' (by (with_reducible repeat (first | apply Kd.V_alloc | apply Kd.V_drewN | apply Kd.V_drew)); exact HL275_1.out) (Kd.R_base ho0) hb)
             have n3_ := Aside0.mk (Kd.R_lower (Kd.R_new' (Kd.R_newM (M := fun k_ => (w.heap.size ≤ k_)) ho0 (below_size yy1) (fun k_ h_ => h_)) (Kd.R_lt yy14)) (below_size yy1))
             have n4_ := Aside0.mk (Kd.C_below yy43 hb)
             have n5_ := Aside0.mk (below_step yy1 hb)
             clear HO_6 HO_7 HL275_1 HR275_1 HB
             have HO_6 := n0_
             have HO_7 := n1_
             have HL275_1 := n2_
             have HO278 := n3_
             have HR275_1 := n4_
             have HB := n5_
             clear n0_ n1_ n2_ n3_ n4_ n5_
             (try clear hb)
             (try clear hb2)
             (try clear hk)
             (try clear hi)
             (try clear ho0)
             obtain ⟨Ao24, co24, eo24⟩ := Kd.R_slice HO278.out
             (first | subst eo24 | (injection eo24 with f1_ f2_ f3_; have f4_ := f1_.symm; have f5_ := f3_.symm; clear f1_ f2_ f3_; subst f4_; subst f5_))
             refine hK.out _ _ ⟨HS0_, HS1_, HS2_⟩ (fun hHeld => ?_)
             clear hK K
             refine no_ 35 ?_
             refine one_ (i := 16) (N := some 40) bYtoadgikbbigdlaaPaAx10_18 rfl rfl (one_of HT_.out (by kernel_rfl)) (by decide) (fun K hK => ?_)
             refine goes_ Try.func35 (by kernel_rfl) rfl #[.slice Ao24 t276.length co24, .int .i64 (rd t272 x8_1)] (by rfl) rfl rfl yy3 ?_
             with_reducible refine (spec_l1Put.calls k2 (fun k_ => some k_ = (.slice Ao24 t276.length co24 : Value).ownBlock) (.slice Ao24 t276.length co24) t276 (rd t272 x8_1) t280 w _ ?side1 ?side2 A18.out).mono ?_
             (case side1 => repeat (first | (with_reducible first | exact HB.out | apply below_alloc | apply pw_below_drewN | apply below_drew1) | exact HB.out))
             (case side2 => exact Kd.R_tight rfl HO278.out)
             rintro e w25 ⟨v281, rfl, ho0, hb, hkp⟩
             have HS0_ := cell_kept (hHeld.1) hkp yy17
             have HS1_ := cell_kept (hHeld.2.1) hkp yy17
             have HS2_ := cell_kept (hHeld.2.2) hkp yy31
             refine ⟨_, rfl, ?_⟩
             have n0_ := Aside0.mk (Kd.N_mono (ok' := fun k_ => (w.heap.size ≤ k_) ∧ some k_ ≠ (.slice (some ad279) t272.length co12 : Value).ownBlock ∧ some k_ ≠ (v281 : Value).ownBlock) (Kd.N_keptB (HO_6.out) hkp (fun k_ hk_ hs_ => (hk_.2) hs_)) (fun k_ hk_ => ⟨hk_.1.1.1, hk_.1.1.2, fun e_ => Or.elim (ho0.1 k_ e_.symm) (fun hs_ => hk_.2.1 hs_) (fun hn_ => Nat.not_le.2 hk_.2.2 hn_)⟩))
             have n1_ := Aside0.mk (Kd.R_mono (ok' := fun k_ => (w.heap.size ≤ k_) ∧ some k_ ≠ (v281 : Value).ownBlock) (Kd.R_keptB (HO_7.out) hkp (fun k_ hk_ hs_ => (hk_.2) hs_)) (fun k_ hk_ => ⟨hk_.1.1, fun e_ => Or.elim (ho0.1 k_ e_.symm) (fun hs_ => hk_.2.1 hs_) (fun hn_ => Nat.not_le.2 hk_.2.2 hn_)⟩))
             have n2_ := Aside0.mk (Kd.R_mono (ok' := fun k_ => (w.heap.size ≤ k_) ∧ some k_ ≠ (.slice (some ad279) t272.length co12 : Value).ownBlock) ho0 (fun k_ hk_ => ⟨Or.elim hk_ (fun hs_ => (HO278.out.1 k_ (hs_).symm).1.1) (fun hn_ => (Nat.le_trans (below_size yy1) hn_)), Or.elim hk_ (fun hs_ => fun e_ => (((HO_7.out).1 k_ e_.symm).2) hs_) (fun hn_ => (Kd.fresh' (Kd.R_lt yy14) k_ hn_))⟩))
             have n3_ := Aside0.mk (hb)
             clear HO_6 HO_7 HB HO278 HL275_1
             have HO_6 := n0_
             have HO_7 := n1_
             have HO282 := n2_
             have HB := n3_
             clear n0_ n1_ n2_ n3_
             (try clear hb)
             (try clear hkp)
             (try clear ho0)
             obtain ⟨Ao26, co26, eo26⟩ := Kd.R_slice HO282.out
             (first | subst eo26 | (injection eo26 with f1_ f2_ f3_; have f4_ := f1_.symm; have f5_ := f3_.symm; clear f1_ f2_ f3_; subst f4_; subst f5_))
             refine hK.out _ _ ⟨HS0_, HS1_, HS2_⟩ (fun hHeld => ?_)
             clear hK K
             refine no_ 40 ?_
             refine one_ (i := 18) (N := some 42) bYtoadgikbbigdlaaPaAx10_19 rfl rfl (one_of HT_.out (by kernel_rfl)) (by decide) (fun K hK => ?_)
             refine goes_ Try.func66 (by kernel_rfl) rfl #[.slice A0 l0.length c0, .slice Ao26 t280.length co26, .int .i64 a1] (by rfl) rfl rfl yy3 ?_
             with_reducible refine (spec_l26Fits.calls k2 _ _ l0 _ _ t280 a1 true _ ?side1 ?side2 ?side3 ?side4 A19.out).mono ?_
             (case side1 => repeat (first | exact (Kd.C_below HR0.out HB.out) | (with_reducible refine Kd.C_alloc ?_ _) | (with_reducible refine Kd.C_drewN ?_ _) | (with_reducible refine Kd.C_drew ?_)))
             (case side2 => exact HC0.out)
             (case side3 => repeat (first | exact (Kd.R_reads' HO282.out).2.2 | (with_reducible refine Kd.C_alloc ?_ _) | (with_reducible refine Kd.C_drewN ?_ _) | (with_reducible refine Kd.C_drew ?_)))
             (case side4 => exact (Kd.R_reads' HO282.out).2.1)
             rintro e w27 ⟨rfl, hb⟩
             have HS0_ := (hb.cell (World.block_lt_of_cell? _ _ (hHeld.1))).trans (hHeld.1)
             have HS1_ := (hb.cell (World.block_lt_of_cell? _ _ (hHeld.2.1))).trans (hHeld.2.1)
             have HS2_ := (hb.cell (World.block_lt_of_cell? _ _ (hHeld.2.2))).trans (hHeld.2.2)
             refine ⟨_, rfl, ?_⟩
             have n0_ := Aside0.mk (Kd.N_below yy40 hb)
             have n1_ := Aside0.mk (Kd.R_below yy14 hb)
             have n2_ := Aside0.mk (Kd.R_below (by (with_reducible repeat (first | apply Kd.R_alloc | apply Kd.R_drewN | apply Kd.R_drew)); exact HO282.out) hb)
             have n3_ := Aside0.mk (below_step yy1 hb)
             clear HO_6 HO_7 HO282 HB
             have HO_6 := n0_
             have HO_7 := n1_
             have HO282 := n2_
             have HB := n3_
             clear n0_ n1_ n2_ n3_
             (try clear hb)
             (try clear hb2)
             (try clear hk)
             (try clear hi)
             refine hK.out _ _ ⟨HS0_, HS1_, HS2_⟩ (fun hHeld => ?_)
             clear hK K
             refine no_ 42 ?_
             refine pu_ 19 43 bYtoadgikbbigdlaaPaAx10_20 ?_
             refine pu_ 20 44 bYtoadgikbbigdlaaPaAx10_21 ?_
             refine done_ (done_of HT_.out (by kernel_rfl)) ?_
             try go_wp2
             go_meet
             case rel => exact ⟨_, (x9_2), yy11, H', ⟨by have := HK1.out; have := HK2.out; first | omega | exact Nat.le_refl _⟩, ⟨by (with_reducible repeat (first | apply Kd.N_alloc | apply Kd.N_drewN | apply Kd.N_drew)); exact Kd.N_mono HO_6.out (fun _ hk => ⟨hk.1, hk.2.1⟩)⟩, ⟨by (with_reducible repeat (first | apply Kd.R_alloc | apply Kd.R_drewN | apply Kd.R_drew)); exact Kd.R_mono HO_7.out (fun _ hk => hk.1)⟩, ⟨by repeat (first | (with_reducible first | exact HB.out | apply below_alloc | apply pw_below_drewN | apply below_drew1) | exact HB.out)⟩⟩
            ·replace c20 := Bool.eq_false_iff.mpr c20
             subst c20
             have H1 : (spec_PackArchive.l1 k2 l0 a1 x6_1 t272 x8_1 (wrap64 (x9_2 + 1))) = some (r1, r2) := by rw [if_neg (show ¬ (false = true) by decide)] at H; exact H
             clear H
             have H := H1
             clear H1
             have H' := Aside0.mk H
             clear H
             try go_wp2
             have n0_ := Aside0.mk (Kd.N_drew HO_6.out)
             have n1_ := Aside0.mk (Kd.R_drew HO_7.out)
             have n2_ := Aside0.mk (below_drew1 HB.out)
             clear HO_6 HO_7 HB
             have HO_6 := n0_
             have HO_7 := n1_
             have HB := n2_
             clear n0_ n1_ n2_
             obtain ⟨Ao29, co29, eo29⟩ := Kd.N_slice HO_6.out
             (first | subst eo29 | (injection eo29 with f1_ f2_ f3_; have f4_ := f1_.symm; have f5_ := f3_.symm; clear f1_ f2_ f3_; subst f4_; subst f5_))
             have p275 : 0 ≤ (x9_2 : Int) := of_decide_eq_true yy2
             have q275 : x9_2 < (x6_1.length : Int) := of_decide_eq_true yy2
             obtain ⟨ad275, A275_1, c275_1, e275, hx275_0, hx275_1, hl275_1, hi275_1⟩ := at_T62 (Kd.N_reads' HO_6.out).2.2 x9_2 p275 q275
             cases e275
             obtain ⟨ce275, hce275, hMe275, hcc275⟩ := Kd.N_get HO_6.out z62 x9_2 p275 (by first | exact q275 | exact of_decide_eq_true yy2 | (have e_ := (Kd.N_reads' HO_6.out).1; omega))
             obtain ⟨ua275_1, uc275_1, rfl, ul275_1, ge275_1⟩ := k62_openF hMe275
             have hv275_1 := hcc275 1 _ rfl
             rw [add_field _ _ 1 (by omega)] at hv275_1
             replace hv275_1 := Option.some.inj (hv275_1.symm.trans hx275_1)
             injection hv275_1 with hva_ hvn_ hvc_
             rw [hva_] at ge275_1
             rw [hvc_] at ul275_1
             have HL275_1 := Aside0.mk (show Kd.V (Kd.int .i64) 3 _ w.heap.size _ _ ((rd_T62 x6_1 x9_2).f1) from Kd.V_mk ul275_1 ge275_1)
             clear hva_ hvn_ hvc_ ge275_1 ul275_1 hcc275 hce275
             have HR275_1 := Aside0.mk hi275_1
             have HC275_1 := Aside0.mk hl275_1
             clear hi275_1 hl275_1
             replace p275 := eq_true p275
             replace q275 := eq_true q275
             have p279 : 0 ≤ (x8_1 : Int) := of_decide_eq_true yy2
             have q279 : x8_1 < (t272.length : Int) := of_decide_eq_true yy2
             obtain ⟨ad279, e279, hx279_0⟩ := Kd.at_int (Kd.R_reads' HO_7.out).2.2 x8_1 p279 q279
             cases e279
             replace p279 := eq_true p279
             replace q279 := eq_true q279
             refine start_ (n := 21) (S := fun w' => w'.cell? (ad275.add ((x9_2).toNat * 2)) = some (.int .i64 ((rd_T62 x6_1 x9_2).f0)) ∧ w'.cell? ⟨(ad275.add ((x9_2).toNat * 2)).block, (ad275.add ((x9_2).toNat * 2)).off + 1, none⟩ = some (.slice A275_1 ((rd_T62 x6_1 x9_2).f1).length c275_1) ∧ w'.cell? (ad279.add (x8_1).toNat) = some (.int .i64 (rd t272 x8_1))) (ds := []) bYtoadgikbbigdlaaPaAx10_0 (by kernel_rfl) rfl rfl ⟨hx275_0, hx275_1, hx279_0⟩ (fun hHeld => ?_); refine with_tabW spec_PackArchive.tab9 spec_PackArchive.bits9 (fun HT_ HW_ => ?_)
             generalize wr.drew = w28 at HO_6 HO_7 HB HL275_1 HR275_1 hx275_0 hx275_1 hx279_0 hHeld ⊢
             refine pu_ 0 24 bYtoadgikbbigdlaaPaAx10_1 ?_
             refine pu_ 1 25 bYtoadgikbbigdlaaPaAx10_2 ?_
             refine pu_ 2 26 bYtoadgikbbigdlaaPaAx10_3 ?_
             refine pu_ 3 27 bYtoadgikbbigdlaaPaAx10_4 ?_
             refine pu_ 4 28 bYtoadgikbbigdlaaPaAx10_5 ?_
             refine pu_ 5 29 bYtoadgikbbigdlaaPaAx10_6 ?_
             refine pu_ 6 30 bYtoadgikbbigdlaaPaAx10_7 ?_
             refine pu_ 7 31 bYtoadgikbbigdlaaPaAx10_8 ?_
             refine pu_ 8 32 bYtoadgikbbigdlaaPaAx10_9 ?_
             refine pu_ 9 33 bYtoadgikbbigdlaaPaAx10_10 ?_
             refine pu_ 12 36 bYtoadgikbbigdlaaPaAx10_11 ?_
             refine pu_ 13 37 bYtoadgikbbigdlaaPaAx10_12 ?_
             refine pu_ 14 38 bYtoadgikbbigdlaaPaAx10_13 ?_
             refine pu_ 17 41 bYtoadgikbbigdlaaPaAx10_14 ?_
             refine t3_ 10 34 bYtoadgikbbigdlaaPaAx10_15 hHeld ?_
             refine t3_ 15 39 bYtoadgikbbigdlaaPaAx10_16 hHeld ?_
             refine one_ (i := 11) (N := some 35) bYtoadgikbbigdlaaPaAx10_17 rfl rfl (one_of HT_.out (by kernel_rfl)) (by decide) (fun K hK => ?_)
             refine goes_ Try.func67 (by kernel_rfl) rfl #[.slice A275_1 ((rd_T62 x6_1 x9_2).f1).length c275_1] (by rfl) rfl rfl yy3 ?_
             with_reducible refine (spec_l1Own.calls _ _ ((rd_T62 x6_1 x9_2).f1) t276 _ ?side1 ?side2 A15.out).mono ?_
             (case side1 => repeat (first | exact yy43 | (with_reducible refine Kd.C_alloc ?_ _) | (with_reducible refine Kd.C_drewN ?_ _) | (with_reducible refine Kd.C_drew ?_)))
             (case side2 => exact HC275_1.out)
             rintro e w30 ⟨v277, rfl, ho0, hb⟩
             have HS0_ := (hb.cell (World.block_lt_of_cell? _ _ (hHeld.1))).trans (hHeld.1)
             have HS1_ := (hb.cell (World.block_lt_of_cell? _ _ (hHeld.2.1))).trans (hHeld.2.1)
             have HS2_ := (hb.cell (World.block_lt_of_cell? _ _ (hHeld.2.2))).trans (hHeld.2.2)
             refine ⟨_, rfl, ?_⟩
             have n0_ := Aside0.mk (Kd.N_elder' yy40 (Kd.R_base ho0) hb)
             have n1_ := Aside0.mk (Kd.R_elder' yy14 (Kd.R_base ho0) hb)
             have n2_ := Aside0.mk (Kd.V_elder' (by (with_reducible repeat (first | apply Kd.V_alloc | apply Kd.V_drewN | apply Kd.V_drew)); exact HL275_1.out) (Kd.R_base ho0) hb)
             have n3_ := Aside0.mk (Kd.R_lower (Kd.R_new' (Kd.R_newM (M := fun k_ => (w.heap.size ≤ k_)) ho0 (below_size yy1) (fun k_ h_ => h_)) (Kd.R_lt yy14)) (below_size yy1))
             have n4_ := Aside0.mk (Kd.C_below yy43 hb)
             have n5_ := Aside0.mk (below_step yy1 hb)
             clear HO_6 HO_7 HL275_1 HR275_1 HB
             have HO_6 := n0_
             have HO_7 := n1_
             have HL275_1 := n2_
             have HO278 := n3_
             have HR275_1 := n4_
             have HB := n5_
             clear n0_ n1_ n2_ n3_ n4_ n5_
             (try clear hb)
             (try clear hb2)
             (try clear hk)
             (try clear hi)
             (try clear ho0)
             obtain ⟨Ao31, co31, eo31⟩ := Kd.R_slice HO278.out
             (first | subst eo31 | (injection eo31 with f1_ f2_ f3_; have f4_ := f1_.symm; have f5_ := f3_.symm; clear f1_ f2_ f3_; subst f4_; subst f5_))
             refine hK.out _ _ ⟨HS0_, HS1_, HS2_⟩ (fun hHeld => ?_)
             clear hK K
             refine no_ 35 ?_
             refine one_ (i := 16) (N := some 40) bYtoadgikbbigdlaaPaAx10_18 rfl rfl (one_of HT_.out (by kernel_rfl)) (by decide) (fun K hK => ?_)
             refine goes_ Try.func35 (by kernel_rfl) rfl #[.slice Ao31 t276.length co31, .int .i64 (rd t272 x8_1)] (by rfl) rfl rfl yy3 ?_
             with_reducible refine (spec_l1Put.calls k2 (fun k_ => some k_ = (.slice Ao31 t276.length co31 : Value).ownBlock) (.slice Ao31 t276.length co31) t276 (rd t272 x8_1) t280 w _ ?side1 ?side2 A18.out).mono ?_
             (case side1 => repeat (first | (with_reducible first | exact HB.out | apply below_alloc | apply pw_below_drewN | apply below_drew1) | exact HB.out))
             (case side2 => exact Kd.R_tight rfl HO278.out)
             rintro e w32 ⟨v281, rfl, ho0, hb, hkp⟩
             have HS0_ := cell_kept (hHeld.1) hkp yy17
             have HS1_ := cell_kept (hHeld.2.1) hkp yy17
             have HS2_ := cell_kept (hHeld.2.2) hkp yy31
             refine ⟨_, rfl, ?_⟩
             have n0_ := Aside0.mk (Kd.N_mono (ok' := fun k_ => (w.heap.size ≤ k_) ∧ some k_ ≠ (.slice (some ad279) t272.length co12 : Value).ownBlock ∧ some k_ ≠ (v281 : Value).ownBlock) (Kd.N_keptB (HO_6.out) hkp (fun k_ hk_ hs_ => (hk_.2) hs_)) (fun k_ hk_ => ⟨hk_.1.1.1, hk_.1.1.2, fun e_ => Or.elim (ho0.1 k_ e_.symm) (fun hs_ => hk_.2.1 hs_) (fun hn_ => Nat.not_le.2 hk_.2.2 hn_)⟩))
             have n1_ := Aside0.mk (Kd.R_mono (ok' := fun k_ => (w.heap.size ≤ k_) ∧ some k_ ≠ (v281 : Value).ownBlock) (Kd.R_keptB (HO_7.out) hkp (fun k_ hk_ hs_ => (hk_.2) hs_)) (fun k_ hk_ => ⟨hk_.1.1, fun e_ => Or.elim (ho0.1 k_ e_.symm) (fun hs_ => hk_.2.1 hs_) (fun hn_ => Nat.not_le.2 hk_.2.2 hn_)⟩))
             have n2_ := Aside0.mk (Kd.R_mono (ok' := fun k_ => (w.heap.size ≤ k_) ∧ some k_ ≠ (.slice (some ad279) t272.length co12 : Value).ownBlock) ho0 (fun k_ hk_ => ⟨Or.elim hk_ (fun hs_ => (HO278.out.1 k_ (hs_).symm).1.1) (fun hn_ => (Nat.le_trans (below_size yy1) hn_)), Or.elim hk_ (fun hs_ => fun e_ => (((HO_7.out).1 k_ e_.symm).2) hs_) (fun hn_ => (Kd.fresh' (Kd.R_lt yy14) k_ hn_))⟩))
             have n3_ := Aside0.mk (hb)
             clear HO_6 HO_7 HB HO278 HL275_1
             have HO_6 := n0_
             have HO_7 := n1_
             have HO282 := n2_
             have HB := n3_
             clear n0_ n1_ n2_ n3_
             (try clear hb)
             (try clear hkp)
             (try clear ho0)
             obtain ⟨Ao33, co33, eo33⟩ := Kd.R_slice HO282.out
             (first | subst eo33 | (injection eo33 with f1_ f2_ f3_; have f4_ := f1_.symm; have f5_ := f3_.symm; clear f1_ f2_ f3_; subst f4_; subst f5_))
             refine hK.out _ _ ⟨HS0_, HS1_, HS2_⟩ (fun hHeld => ?_)
             clear hK K
             refine no_ 40 ?_
             refine one_ (i := 18) (N := some 42) bYtoadgikbbigdlaaPaAx10_19 rfl rfl (one_of HT_.out (by kernel_rfl)) (by decide) (fun K hK => ?_)
             refine goes_ Try.func66 (by kernel_rfl) rfl #[.slice A0 l0.length c0, .slice Ao33 t280.length co33, .int .i64 a1] (by rfl) rfl rfl yy3 ?_
             with_reducible refine (spec_l26Fits.calls k2 _ _ l0 _ _ t280 a1 false _ ?side1 ?side2 ?side3 ?side4 A19.out).mono ?_
             (case side1 => repeat (first | exact (Kd.C_below HR0.out HB.out) | (with_reducible refine Kd.C_alloc ?_ _) | (with_reducible refine Kd.C_drewN ?_ _) | (with_reducible refine Kd.C_drew ?_)))
             (case side2 => exact HC0.out)
             (case side3 => repeat (first | exact (Kd.R_reads' HO282.out).2.2 | (with_reducible refine Kd.C_alloc ?_ _) | (with_reducible refine Kd.C_drewN ?_ _) | (with_reducible refine Kd.C_drew ?_)))
             (case side4 => exact (Kd.R_reads' HO282.out).2.1)
             rintro e w34 ⟨rfl, hb⟩
             have HS0_ := (hb.cell (World.block_lt_of_cell? _ _ (hHeld.1))).trans (hHeld.1)
             have HS1_ := (hb.cell (World.block_lt_of_cell? _ _ (hHeld.2.1))).trans (hHeld.2.1)
             have HS2_ := (hb.cell (World.block_lt_of_cell? _ _ (hHeld.2.2))).trans (hHeld.2.2)
             refine ⟨_, rfl, ?_⟩
             have n0_ := Aside0.mk (Kd.N_below yy40 hb)
             have n1_ := Aside0.mk (Kd.R_below yy14 hb)
             have n2_ := Aside0.mk (Kd.R_below (by (with_reducible repeat (first | apply Kd.R_alloc | apply Kd.R_drewN | apply Kd.R_drew)); exact HO282.out) hb)
             have n3_ := Aside0.mk (below_step yy1 hb)
             clear HO_6 HO_7 HO282 HB
             have HO_6 := n0_
             have HO_7 := n1_
             have HO282 := n2_
             have HB := n3_
             clear n0_ n1_ n2_ n3_
             (try clear hb)
             (try clear hb2)
             (try clear hk)
             (try clear hi)
             refine hK.out _ _ ⟨HS0_, HS1_, HS2_⟩ (fun hHeld => ?_)
             clear hK K
             refine no_ 42 ?_
             refine pu_ 19 43 bYtoadgikbbigdlaaPaAx10_20 ?_
             refine pu_ 20 44 bYtoadgikbbigdlaaPaAx10_21 ?_
             refine done_ (done_of HT_.out (by kernel_rfl)) ?_
             try go_wp2
             go_roundg k2
             case measure => have := HK1.out; have := HK2.out; omega
             case rel => exact ⟨(wrap64 (x9_2 + 1)), yy11, H', ⟨by have := HK1.out; have := HK2.out; omega⟩, ⟨by (with_reducible repeat (first | apply Kd.N_alloc | apply Kd.N_drewN | apply Kd.N_drew)); exact Kd.N_mono HO_6.out (fun _ hk => ⟨hk.1, hk.2.1⟩)⟩, ⟨by (with_reducible repeat (first | apply Kd.R_alloc | apply Kd.R_drewN | apply Kd.R_drew)); exact Kd.R_mono HO_7.out (fun _ hk => hk.1)⟩, ⟨by repeat (first | (with_reducible first | exact HB.out | apply below_alloc | apply pw_below_drewN | apply below_drew1) | exact HB.out)⟩⟩
           ·rw [if_neg c17] at H
            exact absurd H (by simp)
          ·rw [if_neg c16] at H
           exact absurd H (by simp)
         ·rw [if_neg c14] at H
          exact absurd H (by simp)
        ·rw [if_neg c13] at H
         have c13b0 : decide (x9_2 < (x6_1.length : Int)) = false := decide_eq_false c13
         clear c13
         (first | rw [c13b0] | (simp only [i64_w, i32_w]; rw [c13b0]) | skip)
         have H' := Aside0.mk H
         clear H
         try go_wp2
         have n0_ := Aside0.mk (Kd.N_drew HO_6.out)
         have n1_ := Aside0.mk (Kd.R_drew HO_7.out)
         have n2_ := Aside0.mk (below_drew1 HB.out)
         clear HO_6 HO_7 HB
         have HO_6 := n0_
         have HO_7 := n1_
         have HB := n2_
         clear n0_ n1_ n2_
         obtain ⟨Ao36, co36, eo36⟩ := Kd.N_slice HO_6.out
         (first | subst eo36 | (injection eo36 with f1_ f2_ f3_; have f4_ := f1_.symm; have f5_ := f3_.symm; clear f1_ f2_ f3_; subst f4_; subst f5_))
         refine start_ (n := 21) (S := fun w' => True) (ds := []) bYtoadgikbbigdlaaPaAx10_0 (by kernel_rfl) rfl rfl trivial (fun hHeld => ?_); refine with_tabW spec_PackArchive.tab9 spec_PackArchive.bits9 (fun HT_ HW_ => ?_)
         generalize wr.drew = w35 at HO_6 HO_7 HB hHeld ⊢
         refine pu_ 0 24 bYtoadgikbbigdlaaPaAx10_1 ?_
         refine pu_ 1 25 bYtoadgikbbigdlaaPaAx10_2 ?_
         refine pu_ 2 26 bYtoadgikbbigdlaaPaAx10_3 ?_
         refine pu_ 3 27 bYtoadgikbbigdlaaPaAx10_4 ?_
         refine pu_ 4 28 bYtoadgikbbigdlaaPaAx10_5 ?_
         refine pn_ 5 29 bYtoadgikbbigdlaaPaAx10_6 ?_
         refine pn_ 6 30 bYtoadgikbbigdlaaPaAx10_7 ?_
         refine pn_ 7 31 bYtoadgikbbigdlaaPaAx10_8 ?_
         refine pn_ 8 32 bYtoadgikbbigdlaaPaAx10_9 ?_
         refine pn_ 9 33 bYtoadgikbbigdlaaPaAx10_10 ?_
         refine pn_ 10 34 #[true, true, true, true, true, true, true, true, true, true, true, false, false, false, false, false, false, false, false, false, false] ?_
         refine pn_ 11 35 #[true, true, true, true, true, true, true, true, true, true, true, true, false, false, false, false, false, false, false, false, false] ?_
         refine pn_ 12 36 #[true, true, true, true, true, true, true, true, true, true, true, true, true, false, false, false, false, false, false, false, false] ?_
         refine pn_ 13 37 #[true, true, true, true, true, true, true, true, true, true, true, true, true, true, false, false, false, false, false, false, false] ?_
         refine pn_ 14 38 #[true, true, true, true, true, true, true, true, true, true, true, true, true, true, true, false, false, false, false, false, false] ?_
         refine pn_ 15 39 #[true, true, true, true, true, true, true, true, true, true, true, true, true, true, true, true, false, false, false, false, false] ?_
         refine pn_ 16 40 #[true, true, true, true, true, true, true, true, true, true, true, true, true, true, true, true, true, false, false, false, false] ?_
         refine pn_ 17 41 bYtoadgikbbigdlaaPaAx10_18 ?_
         refine pn_ 18 42 bYtoadgikbbigdlaaPaAx10_19 ?_
         refine pn_ 19 43 bYtoadgikbbigdlaaPaAx10_20 ?_
         refine pu_ 20 44 bYtoadgikbbigdlaaPaAx10_21 ?_
         refine done_ (done_of HT_.out (by kernel_rfl)) ?_
         try go_wp2
         go_meet
         case rel => exact ⟨_, (x9_2), yy11, H', ⟨by have := HK1.out; have := HK2.out; first | omega | exact Nat.le_refl _⟩, ⟨by (with_reducible repeat (first | apply Kd.N_alloc | apply Kd.N_drewN | apply Kd.N_drew)); exact HO_6.out⟩, ⟨by (with_reducible repeat (first | apply Kd.R_alloc | apply Kd.R_drewN | apply Kd.R_drew)); exact HO_7.out⟩, ⟨by repeat (first | (with_reducible first | exact HB.out | apply below_alloc | apply pw_below_drewN | apply below_drew1) | exact HB.out)⟩⟩
     case rest =>
      clear HC11
      try clear c1
      try clear c2
      try clear p2
      try clear q2
      try clear hx2
      try clear c3
      try clear c6
      try clear p6
      try clear c13
      try clear c13b0
      try clear c14
      try clear c16
      try clear c17
      try clear c20
      try clear c27
      try clear p27
      try clear q27
      try clear hx27
      try clear c35
      try clear hx275_0
      try clear hx275_1
      try clear hx279_0
      try clear p275
      try clear p279
      try clear q275
      try clear q279
      obtain ⟨kq, x9_10, rfl, HA, HJ10, HO_6, HO_7, HB⟩ := hcut
      cases kq with
      | zero => exact absurd HA.out (by simp [spec_PackArchive.j2])
      | succ kj10 =>
       have H := HA.out
       clear HA
       simp only [spec_PackArchive.j2] at H
       by_cases c37 : x9_10 = (x6_1.length : Int)
       ·rw [if_pos c37] at H
        have c37b0 : (x9_10 == (x6_1.length : Int)) = true := beq_iff_eq.mpr c37
        have c37b1 : (x9_10 != (x6_1.length : Int)) = false := bne_eq_false_iff_eq.mpr c37
        clear c37
        by_cases c38 : x6_1.length < 4398046511104
        ·rw [if_pos c38] at H
         have LMc38 := Aside0.mk c38
         clear c38
         obtain ⟨y284, hy284⟩ : ∃ y_ : List (S62), y_ = (x6_1 ++ [(⟨wrap64 (x9_10 + 1), ([] : List Int)⟩ : S62)]) := ⟨_, rfl⟩
         replace H : (if 0 ≤ x9_10 then (if x9_10 < (y284.length : Int) then ((spec_l1Own.f ((rd_T62 y284 x9_10).f1)).bind fun t288 => (if 0 ≤ x8_1 then (if x8_1 < (t272.length : Int) then ((spec_l1Put.f kj10 t288 (rd t272 x8_1)).bind fun t292 => (spec_PackArchive.l0 kj10 l0 a1 (y284.set (x9_10 : Int).toNat (⟨wrap64 (x9_10 + 1), t292⟩ : S62)) t272 (wrap64 (x8_1 + 1)))) else (none)) else (none))) else (none)) else (none)) = some (r1, r2) := by first | (rw [hy284]; with_reducible exact H) | (have H2_ := (Option.bind_some _ _).symm.trans H; rw [hy284]; with_reducible exact H2_) | (have H2_ := (Option.bind_some _ _).symm.trans H; with_reducible exact H2_) | with_reducible exact H | (rw [hy284]; exact H) | exact H
         have Ny284 := Aside0.mk hy284
         clear hy284
         by_cases c39 : 0 ≤ x9_10
         ·rw [if_pos c39] at H
          have c39b0 : decide (0 ≤ x9_10) = true := decide_eq_true c39
          clear c39
          by_cases c40 : x9_10 < (y284.length : Int)
          ·rw [if_pos c40] at H
           have c40b0 : decide (x9_10 < (y284.length : Int)) = true := decide_eq_true c40
           clear c40
           replace H := Option.bind_eq_some_iff.mp H
           obtain ⟨t288, A410, H⟩ := H
           replace H : (if 0 ≤ x8_1 then (if x8_1 < (t272.length : Int) then ((spec_l1Put.f kj10 t288 (rd t272 x8_1)).bind fun t292 => (spec_PackArchive.l0 kj10 l0 a1 (y284.set (x9_10 : Int).toNat (⟨wrap64 (x9_10 + 1), t292⟩ : S62)) t272 (wrap64 (x8_1 + 1)))) else (none)) else (none)) = some (r1, r2) := H
           have A41 := Aside0.mk A410
           clear A410
           by_cases c42 : 0 ≤ x8_1
           ·rw [if_pos c42] at H
            have c42b0 : decide (0 ≤ x8_1) = true := decide_eq_true c42
            clear c42
            by_cases c43 : x8_1 < (t272.length : Int)
            ·rw [if_pos c43] at H
             have c43b0 : decide (x8_1 < (t272.length : Int)) = true := decide_eq_true c43
             clear c43
             replace H := Option.bind_eq_some_iff.mp H
             obtain ⟨t292, A440, H⟩ := H
             replace H : (spec_PackArchive.l0 kj10 l0 a1 (y284.set (x9_10 : Int).toNat (⟨wrap64 (x9_10 + 1), t292⟩ : S62)) t272 (wrap64 (x8_1 + 1))) = some (r1, r2) := H
             have A44 := Aside0.mk A440
             clear A440
             obtain ⟨y295, hy295⟩ : ∃ y_ : List (S62), y_ = (y284.set (x9_10 : Int).toNat (⟨wrap64 (x9_10 + 1), t292⟩ : S62)) := ⟨_, rfl⟩
             replace H : (spec_PackArchive.l0 kj10 l0 a1 y295 t272 (wrap64 (x8_1 + 1))) = some (r1, r2) := by first | (rw [hy295]; with_reducible exact H) | (have H2_ := (Option.bind_some _ _).symm.trans H; rw [hy295]; with_reducible exact H2_) | (have H2_ := (Option.bind_some _ _).symm.trans H; with_reducible exact H2_) | with_reducible exact H | (rw [hy295]; exact H) | exact H
             have Ny295 := Aside0.mk hy295
             clear hy295
             have H' := Aside0.mk H
             clear H
             obtain ⟨Ao46, co46, eo46⟩ := Kd.N_slice HO_6.out
             subst eo46
             try go_wp2_with (first | ((with_reducible refine gate_builtin (b := .append) (xs := #[.tmp 51, .tmp 55]) rfl ?_); at_builtin; refine Kd.N_append k62 (w0 := w) w.heap.size rfl (.tmp 51) (.tmp 55) 31 62 (.agg #[(.int .i64 0), (.slice none 0 0)]) 32 rfl Try.underlying31 info62 rfl (by decide) (by omega) (.slice Ao46 x6_1.length co46) x6_1 (⟨wrap64 (x9_10 + 1), ([] : List Int)⟩ : S62) [.int .i64 (wrap64 (x9_10 + 1)), .slice none 0 0] (fun k_ => (w.heap.size ≤ k_) ∧ some k_ ≠ (.slice Ao12 t272.length co12 : Value).ownBlock) (fun k_ => ((fun k_ => (w.heap.size ≤ k_) ∧ some k_ ≠ (.slice Ao12 t272.length co12 : Value).ownBlock)) k_ ∧ some k_ ≠ (.slice Ao46 x6_1.length co46 : Value).ownBlock) rfl rfl ?aP (fun _ hk => hk) ?aF ?aO ?aB ?aS ?aL ?_; (case aP => exact (k62_mkF _ _ (⟨wrap64 (x9_10 + 1), ([] : List Int)⟩ : S62) (Nat.le_refl _) (Kd.F_nil _ _ _))); (case aB => exact yy1); (case aF => exact (fun k_ hk => ⟨(Nat.le_trans (below_size yy1) hk), Kd.fresh' (Kd.R_lt yy14) k_ hk⟩)); (case aO => exact yy40); (case aS => exact (below_size yy1)); (case aL => have := LMc38.out; omega); intro v285 w47 ho hb hg hat; rw [← Ny284.out] at ho; have n0_ := Aside0.mk (Kd.R_over' yy14 (Kd.N_typed yy40) (by decide) hg); have n1_ := Aside0.mk (hb); have n2_ := Aside0.mk (ho); clear HO_7; clear HB; clear HO_6; have HO_7 := n0_; have HB := n1_; have HO286 := n2_; clear n0_ n1_ n2_; clear ho hb hg hat))
             have n0_ := Aside0.mk (Kd.R_drew HO_7.out)
             have n1_ := Aside0.mk (Kd.N_drew HO286.out)
             have n2_ := Aside0.mk (below_drew1 HB.out)
             clear HO_7 HO286 HB
             have HO_7 := n0_
             have HO286 := n1_
             have HB := n2_
             clear n0_ n1_ n2_
             obtain ⟨Ao49, co49, eo49⟩ := Kd.N_slice HO286.out
             (first | subst eo49 | (injection eo49 with f1_ f2_ f3_; have f4_ := f1_.symm; have f5_ := f3_.symm; clear f1_ f2_ f3_; subst f4_; subst f5_))
             have p287 : 0 ≤ (x9_10 : Int) := of_decide_eq_true yy2
             have q287 : x9_10 < (y284.length : Int) := of_decide_eq_true yy2
             obtain ⟨ad287, A287_1, c287_1, e287, hx287_0, hx287_1, hl287_1, hi287_1⟩ := at_T62 (Kd.N_reads' HO286.out).2.2 x9_10 p287 q287
             cases e287
             obtain ⟨ce287, hce287, hMe287, hcc287⟩ := Kd.N_get HO286.out z62 x9_10 p287 (by first | exact q287 | exact of_decide_eq_true yy2 | (have e_ := (Kd.N_reads' HO286.out).1; omega))
             obtain ⟨ua287_1, uc287_1, rfl, ul287_1, ge287_1⟩ := k62_openF hMe287
             have hv287_1 := hcc287 1 _ rfl
             rw [add_field _ _ 1 (by omega)] at hv287_1
             replace hv287_1 := Option.some.inj (hv287_1.symm.trans hx287_1)
             injection hv287_1 with hva_ hvn_ hvc_
             rw [hva_] at ge287_1
             rw [hvc_] at ul287_1
             have HL287_1 := Aside0.mk (show Kd.V (Kd.int .i64) 3 _ w.heap.size _ _ ((rd_T62 y284 x9_10).f1) from Kd.V_mk ul287_1 ge287_1)
             clear hva_ hvn_ hvc_ ge287_1 ul287_1 hcc287 hce287
             have HR287_1 := Aside0.mk hi287_1
             have HC287_1 := Aside0.mk hl287_1
             clear hi287_1 hl287_1
             replace p287 := eq_true p287
             replace q287 := eq_true q287
             have p291 : 0 ≤ (x8_1 : Int) := of_decide_eq_true yy2
             have q291 : x8_1 < (t272.length : Int) := of_decide_eq_true yy2
             obtain ⟨ad291, e291, hx291_0⟩ := Kd.at_int (Kd.R_reads' HO_7.out).2.2 x8_1 p291 q291
             cases e291
             replace p291 := eq_true p291
             replace q291 := eq_true q291
             refine start_ (n := 18) (S := fun w' => w'.cell? (ad287.add ((x9_10).toNat * 2)) = some (.int .i64 ((rd_T62 y284 x9_10).f0)) ∧ w'.cell? ⟨(ad287.add ((x9_10).toNat * 2)).block, (ad287.add ((x9_10).toNat * 2)).off + 1, none⟩ = some (.slice A287_1 ((rd_T62 y284 x9_10).f1).length c287_1) ∧ w'.cell? (ad291.add (x8_1).toNat) = some (.int .i64 (rd t272 x8_1))) (ds := [17]) bYtoadgikbbigdlaaPaAx10_22 (by kernel_rfl) rfl rfl ⟨hx287_0, hx287_1, hx291_0⟩ (fun hHeld => ?_); refine with_tabW spec_PackArchive.tab13 spec_PackArchive.bits13 (fun HT_ HW_ => ?_)
             generalize w47.drew = w48 at HO_7 HO286 HB HL287_1 HR287_1 hx287_0 hx287_1 hx291_0 hHeld ⊢
             refine pu_ 0 57 bYtoadgikbbigdlaaPaAx10_23 ?_
             refine pu_ 1 58 bYtoadgikbbigdlaaPaAx10_24 ?_
             refine pu_ 2 59 bYtoadgikbbigdlaaPaAx10_25 ?_
             refine pu_ 3 60 bYtoadgikbbigdlaaPaAx10_26 ?_
             refine pu_ 4 61 bYtoadgikbbigdlaaPaAx10_27 ?_
             refine pu_ 5 62 bYtoadgikbbigdlaaPaAx10_28 ?_
             refine pu_ 6 63 bYtoadgikbbigdlaaPaAx10_29 ?_
             refine pu_ 7 64 bYtoadgikbbigdlaaPaAx10_30 ?_
             refine pu_ 10 67 bYtoadgikbbigdlaaPaAx10_31 ?_
             refine pu_ 11 68 bYtoadgikbbigdlaaPaAx10_32 ?_
             refine pu_ 12 69 bYtoadgikbbigdlaaPaAx10_33 ?_
             refine t3_ 8 65 bYtoadgikbbigdlaaPaAx10_34 hHeld ?_
             refine t3_ 13 70 bYtoadgikbbigdlaaPaAx10_35 hHeld ?_
             refine one_ (i := 9) (N := some 66) bYtoadgikbbigdlaaPaAx10_36 rfl rfl (one_of HT_.out (by kernel_rfl)) (by decide) (fun K hK => ?_)
             refine goes_ Try.func67 (by kernel_rfl) rfl #[.slice A287_1 ((rd_T62 y284 x9_10).f1).length c287_1] (by rfl) rfl rfl yy3 ?_
             with_reducible refine (spec_l1Own.calls _ _ ((rd_T62 y284 x9_10).f1) t288 _ ?side1 ?side2 A41.out).mono ?_
             (case side1 => repeat (first | exact yy68 | (with_reducible refine Kd.C_alloc ?_ _) | (with_reducible refine Kd.C_drewN ?_ _) | (with_reducible refine Kd.C_drew ?_)))
             (case side2 => exact HC287_1.out)
             rintro e w50 ⟨v289, rfl, ho0, hb⟩
             have HS0_ := (hb.cell (World.block_lt_of_cell? _ _ (hHeld.1))).trans (hHeld.1)
             have HS1_ := (hb.cell (World.block_lt_of_cell? _ _ (hHeld.2.1))).trans (hHeld.2.1)
             have HS2_ := (hb.cell (World.block_lt_of_cell? _ _ (hHeld.2.2))).trans (hHeld.2.2)
             refine ⟨_, rfl, ?_⟩
             have n0_ := Aside0.mk (Kd.R_elder' yy14 (Kd.R_base ho0) hb)
             have n1_ := Aside0.mk (Kd.N_elder' (by (with_reducible repeat (first | apply Kd.N_alloc | apply Kd.N_drewN | apply Kd.N_drew)); exact HO286.out) (Kd.R_base ho0) hb)
             have n2_ := Aside0.mk (Kd.V_elder' (by (with_reducible repeat (first | apply Kd.V_alloc | apply Kd.V_drewN | apply Kd.V_drew)); exact HL287_1.out) (Kd.R_base ho0) hb)
             have n3_ := Aside0.mk (Kd.R_lower (Kd.R_new' (Kd.R_newM (M := fun k_ => (w.heap.size ≤ k_)) ho0 (below_size yy1) (fun k_ h_ => h_)) (Kd.R_lt yy14)) (below_size yy1))
             have n4_ := Aside0.mk (Kd.C_below yy68 hb)
             have n5_ := Aside0.mk (below_step yy1 hb)
             clear HO_7 HO286 HL287_1 HR287_1 HB
             have HO_7 := n0_
             have HO286 := n1_
             have HL287_1 := n2_
             have HO290 := n3_
             have HR287_1 := n4_
             have HB := n5_
             clear n0_ n1_ n2_ n3_ n4_ n5_
             (try clear hb)
             (try clear hb2)
             (try clear hk)
             (try clear hi)
             (try clear ho0)
             obtain ⟨Ao51, co51, eo51⟩ := Kd.R_slice HO290.out
             (first | subst eo51 | (injection eo51 with f1_ f2_ f3_; have f4_ := f1_.symm; have f5_ := f3_.symm; clear f1_ f2_ f3_; subst f4_; subst f5_))
             refine hK.out _ _ ⟨HS0_, HS1_, HS2_⟩ (fun hHeld => ?_)
             clear hK K
             refine no_ 66 ?_
             refine one_ (i := 14) (N := some 71) bYtoadgikbbigdlaaPaAx10_37 rfl rfl (one_of HT_.out (by kernel_rfl)) (by decide) (fun K hK => ?_)
             refine goes_ Try.func35 (by kernel_rfl) rfl #[.slice Ao51 t288.length co51, .int .i64 (rd t272 x8_1)] (by rfl) rfl rfl yy3 ?_
             with_reducible refine (spec_l1Put.calls kj10 (fun k_ => some k_ = (.slice Ao51 t288.length co51 : Value).ownBlock) (.slice Ao51 t288.length co51) t288 (rd t272 x8_1) t292 w _ ?side1 ?side2 A44.out).mono ?_
             (case side1 => repeat (first | (with_reducible first | exact HB.out | apply below_alloc | apply pw_below_drewN | apply below_drew1) | exact HB.out))
             (case side2 => exact Kd.R_tight rfl HO290.out)
             rintro e w52 ⟨v293, rfl, ho0, hb, hkp⟩
             have HS0_ := cell_kept (hHeld.1) hkp yy64
             have HS1_ := cell_kept (hHeld.2.1) hkp yy64
             have HS2_ := cell_kept (hHeld.2.2) hkp yy31
             refine ⟨_, rfl, ?_⟩
             have n0_ := Aside0.mk (Kd.R_mono (ok' := fun k_ => (w.heap.size ≤ k_) ∧ some k_ ≠ (v293 : Value).ownBlock) (Kd.R_keptB (HO_7.out) hkp (fun k_ hk_ hs_ => (hk_.2) hs_)) (fun k_ hk_ => ⟨hk_.1.1, fun e_ => Or.elim (ho0.1 k_ e_.symm) (fun hs_ => hk_.2.1 hs_) (fun hn_ => Nat.not_le.2 hk_.2.2 hn_)⟩))
             have n1_ := Aside0.mk (Kd.N_mono (ok' := fun k_ => (w.heap.size ≤ k_) ∧ some k_ ≠ (.slice (some ad291) t272.length co12 : Value).ownBlock ∧ some k_ ≠ (v293 : Value).ownBlock) (Kd.N_keptB (HO286.out) hkp (fun k_ hk_ hs_ => (hk_.2) hs_)) (fun k_ hk_ => ⟨hk_.1.1.1, hk_.1.1.2, fun e_ => Or.elim (ho0.1 k_ e_.symm) (fun hs_ => hk_.2.1 hs_) (fun hn_ => Nat.not_le.2 hk_.2.2 hn_)⟩))
             have n2_ := Aside0.mk (Kd.R_mono (ok' := fun k_ => (w.heap.size ≤ k_) ∧ some k_ ≠ (.slice (some ad291) t272.length co12 : Value).ownBlock) ho0 (fun k_ hk_ => ⟨Or.elim hk_ (fun hs_ => (HO290.out.1 k_ (hs_).symm).1.1) (fun hn_ => (Nat.le_trans (below_size yy1) hn_)), Or.elim hk_ (fun hs_ => fun e_ => (((HO_7.out).1 k_ e_.symm).2) hs_) (fun hn_ => (Kd.fresh' (Kd.R_lt yy14) k_ hn_))⟩))
             have n3_ := Aside0.mk (hb)
             clear HO_7 HO286 HB HO290 HL287_1
             have HO_7 := n0_
             have HO286 := n1_
             have HO294 := n2_
             have HB := n3_
             clear n0_ n1_ n2_ n3_
             (try clear hb)
             (try clear hkp)
             (try clear ho0)
             obtain ⟨Ao53, co53, eo53⟩ := Kd.R_slice HO294.out
             (first | subst eo53 | (injection eo53 with f1_ f2_ f3_; have f4_ := f1_.symm; have f5_ := f3_.symm; clear f1_ f2_ f3_; subst f4_; subst f5_))
             have p45 : 0 ≤ (x9_10 : Int) := of_decide_eq_true yy2
             have q45 : (x9_10 : Int) < ((y284.length : Int) : Int) := of_decide_eq_true yy2
             obtain ⟨go45, co45, eo45, gb45, gl45, cl45, HG45⟩ := Kd.N_form HO286.out (by omega)
             (first | cases eo45 | (injection eo45 with ea_ en_ ec_; (first | subst ea_ | (injection ea_ with ea_; subst ea_)); subst ec_; clear en_))
             have GB45 := Aside0.mk gb45
             have GG45 := Aside0.mk HG45
             clear gb45 gl45 HG45
             (first | simp only [add_plain] at hx287_0 | skip)
             (first | simp only [add_plain] at hx287_1 | skip)
             obtain ⟨ce45, hcl45, hM45, hcc45, hfr45⟩ := Kd.N_elem HO286.out z62 (x9_10 : Int) p45 q45
             obtain ⟨ua45_1, uc45_1, rfl, ul45_1, ge45_1⟩ := k62_openF hM45
             have hx45_0 : World.cell? _ ⟨go45, (x9_10 : Int).toNat * 2, none⟩ = some (.int .i64 ((rd_T62 y284 x9_10).f0)) := hcc45 0 _ rfl
             have hx45_1 : World.cell? _ ⟨go45, (x9_10 : Int).toNat * 2 + 1, none⟩ = some (.slice ua45_1 ((rd_T62 y284 x9_10).f1).length uc45_1) := hcc45 1 _ rfl
             have hf45_0 : World.frozen? _ ⟨go45, (x9_10 : Int).toNat * 2, none⟩ = false := hfr45 0
             have hf45_1 : World.frozen? _ ⟨go45, (x9_10 : Int).toNat * 2 + 1, none⟩ = false := hfr45 1
             clear hcl45 hcc45 hfr45 hM45
             replace p45 := eq_true p45
             replace q45 := eq_true q45
             have HX54 := Aside0.mk (show Kd.N k62 62 _ w.heap.size (fun k_ => (w.heap.size ≤ k_) ∧ some k_ ≠ (.slice (some ad291) t272.length co12 : Value).ownBlock ∧ some k_ ≠ (.slice Ao53 t292.length co53 : Value).ownBlock) (.slice (some ⟨go45, 0, none⟩) y284.length co49) y284 from (Kd.N_mono (HO286.out) (fun k_ hk => ⟨hk.1, ⟨hk.2.1, hk.2.2⟩⟩)))
             replace HX54 := Aside0.mk (show Kd.N k62 62 _ w.heap.size (fun k_ => (w.heap.size ≤ k_) ∧ some k_ ≠ (.slice (some ad291) t272.length co12 : Value).ownBlock) (.slice (some ⟨go45, 0, none⟩) y284.length co49) y284 from Kd.N_mono HX54.out (fun k_ hk => ⟨hk.1, hk.2.1⟩))
             obtain ⟨ce54, hcl54, hM54, hcc54, hfr54⟩ := Kd.N_elem HX54.out z62 (x9_10 : Int) (of_decide_eq_true yy2) (by have h_ : (x9_10 : Int) < ((y284.length : Int) : Int) := of_decide_eq_true yy2; first | exact h_ | (have e_ := (Kd.N_reads' HO286.out).1; omega) | simpa using h_)
             obtain ⟨ua54_1, uc54_1, rfl, ul54_1, ge54_1⟩ := k62_openF hM54
             have HP54 := (Kd.N_seg HX54.out (x9_10 : Int) (of_decide_eq_true yy2) (by have h_ : (x9_10 : Int) < ((y284.length : Int) : Int) := of_decide_eq_true yy2; first | exact h_ | (have e_ := (Kd.N_reads' HO286.out).1; omega) | simpa using h_) (seg := [.int .i64 (wrap64 (x9_10 + 1)), .slice Ao53 t292.length co53]) (j := 0) hcl54 hcc54 (show 2 ≤ 2 from by decide) (x' := (⟨wrap64 (x9_10 + 1), t292⟩ : S62)) (k62_mkF _ _ (⟨wrap64 (x9_10 + 1), t292⟩ : S62) (Kd.R_reads' (Kd.R_mono (ok' := (fun k_ => ((fun k_ => (w.heap.size ≤ k_) ∧ some k_ ≠ (.slice (some ad291) t272.length co12 : Value).ownBlock)) k_ ∧ k_ ≠ go45)) (Kd.R_apart' (HO294.out) (Kd.N_typed HO286.out) (by decide)) (fun k_ hk => ⟨⟨hk.1.1, hk.1.2⟩, fun e_ => (hk.2) (by rw [e_]; rfl)⟩))).2.1 (Kd.R_F (Kd.R_mono (ok' := (fun k_ => ((fun k_ => (w.heap.size ≤ k_) ∧ some k_ ≠ (.slice (some ad291) t272.length co12 : Value).ownBlock)) k_ ∧ k_ ≠ go45)) (Kd.R_apart' (HO294.out) (Kd.N_typed HO286.out) (by decide)) (fun k_ hk => ⟨⟨hk.1.1, hk.1.2⟩, fun e_ => (hk.2) (by rw [e_]; rfl)⟩)))) (fun _ hk => hk)).1
             rw [← Ny295.out] at HP54
             have HQ54 := Aside0.mk HP54
             clear hcl54 hcc54 hfr54 hM54 HP54
             refine hK.out _ _ ⟨HS0_, HS1_, HS2_⟩ (fun hHeld => ?_)
             clear hK K
             refine no_ 71 ?_
             refine pu_ 15 72 bYtoadgikbbigdlaaPaAx10_38 ?_
             refine pu_ 16 73 bYtoadgikbbigdlaaPaAx10_39 ?_
             refine last_ (i := 17) (N := none) bYtoadgikbbigdlaaPaAx10_40 rfl rfl (one_of HT_.out (by kernel_rfl)) (by decide) (fun K hK => ?_)
             refine skip_ (w1 := ?_) (by rfl) rfl ?_ ?_
             rotate_left
             ·go_simp
              rfl
             refine hK.out _ _ ?_
             clear hK K
             refine done_ (done_of HT_.out (by kernel_rfl)) ?_
             try go_wp2
             go_roundg kj10
             case measure => have := HK1.out; have := HJ10.out; omega
             case rel => exact ⟨(y295), (wrap64 (x8_1 + 1)), yy11, H', ⟨by have := HK1.out; have := HJ10.out; omega⟩, ⟨by (with_reducible repeat (first | apply Kd.N_alloc | apply Kd.N_drewN | apply Kd.N_drew)); exact HQ54.out⟩, ⟨by (with_reducible repeat (first | apply Kd.R_alloc | apply Kd.R_drewN | apply Kd.R_drew)); exact Kd.R_mono (Kd.R_far (p := ⟨go45, (x9_10 : Int).toNat * 2 + 1, none⟩) (Kd.R_far (p := ⟨go45, (x9_10 : Int).toNat * 2, none⟩) (Kd.R_types HO_7.out GG45.out (by decide)) (fun _ hk => hk.2) (.int .i64 (wrap64 (x9_10 + 1)))) (fun _ hk => hk.2) (.slice Ao53 t292.length co53)) (fun _ hk => hk.1.1)⟩, ⟨by repeat (first | (with_reducible first | exact HB.out | apply below_alloc | apply pw_below_drewN | apply below_drew1 | refine below_set ?_ GB45.out | refine below_set ?_ GB45.out) | exact HB.out)⟩⟩
            ·rw [if_neg c43] at H
             exact absurd H (by simp)
           ·rw [if_neg c42] at H
            exact absurd H (by simp)
          ·rw [if_neg c40] at H
           exact absurd H (by simp)
         ·rw [if_neg c39] at H
          exact absurd H (by simp)
        ·rw [if_neg c38] at H
         exact absurd H (by simp)
       ·rw [if_neg c37] at H
        have c37b0 : (x9_10 == (x6_1.length : Int)) = false := beq_eq_false_iff_ne.mpr c37
        have c37b1 : (x9_10 != (x6_1.length : Int)) = true := bne_iff_ne.mpr c37
        by_cases c55 : 0 ≤ x9_10
        ·rw [if_pos c55] at H
         have c55b0 : decide (0 ≤ x9_10) = true := decide_eq_true c55
         clear c55
         by_cases c56 : x9_10 < (x6_1.length : Int)
         ·rw [if_pos c56] at H
          have c56b0 : decide (x9_10 < (x6_1.length : Int)) = true := decide_eq_true c56
          clear c56
          replace H := Option.bind_eq_some_iff.mp H
          obtain ⟨t297, A570, H⟩ := H
          replace H : (if 0 ≤ x8_1 then (if x8_1 < (t272.length : Int) then ((spec_l1Put.f kj10 t297 (rd t272 x8_1)).bind fun t301 => (spec_PackArchive.l0 kj10 l0 a1 (x6_1.set (x9_10 : Int).toNat (⟨wrap64 (x9_10 + 1), t301⟩ : S62)) t272 (wrap64 (x8_1 + 1)))) else (none)) else (none)) = some (r1, r2) := H
          have A57 := Aside0.mk A570
          clear A570
          by_cases c58 : 0 ≤ x8_1
          ·rw [if_pos c58] at H
           have c58b0 : decide (0 ≤ x8_1) = true := decide_eq_true c58
           clear c58
           by_cases c59 : x8_1 < (t272.length : Int)
           ·rw [if_pos c59] at H
            have c59b0 : decide (x8_1 < (t272.length : Int)) = true := decide_eq_true c59
            clear c59
            replace H := Option.bind_eq_some_iff.mp H
            obtain ⟨t301, A600, H⟩ := H
            replace H : (spec_PackArchive.l0 kj10 l0 a1 (x6_1.set (x9_10 : Int).toNat (⟨wrap64 (x9_10 + 1), t301⟩ : S62)) t272 (wrap64 (x8_1 + 1))) = some (r1, r2) := H
            have A60 := Aside0.mk A600
            clear A600
            obtain ⟨y304, hy304⟩ : ∃ y_ : List (S62), y_ = (x6_1.set (x9_10 : Int).toNat (⟨wrap64 (x9_10 + 1), t301⟩ : S62)) := ⟨_, rfl⟩
            replace H : (spec_PackArchive.l0 kj10 l0 a1 y304 t272 (wrap64 (x8_1 + 1))) = some (r1, r2) := by first | (rw [hy304]; with_reducible exact H) | (have H2_ := (Option.bind_some _ _).symm.trans H; rw [hy304]; with_reducible exact H2_) | (have H2_ := (Option.bind_some _ _).symm.trans H; with_reducible exact H2_) | with_reducible exact H | (rw [hy304]; exact H) | exact H
            have Ny304 := Aside0.mk hy304
            clear hy304
            have H' := Aside0.mk H
            clear H
            obtain ⟨Ao62, co62, eo62⟩ := Kd.N_slice HO_6.out
            subst eo62
            try go_wp2
            have n0_ := Aside0.mk (Kd.N_drew HO_6.out)
            have n1_ := Aside0.mk (Kd.R_drew HO_7.out)
            have n2_ := Aside0.mk (below_drew1 HB.out)
            clear HO_6 HO_7 HB
            have HO_6 := n0_
            have HO_7 := n1_
            have HB := n2_
            clear n0_ n1_ n2_
            have p296 : 0 ≤ (x9_10 : Int) := of_decide_eq_true yy2
            have q296 : x9_10 < (x6_1.length : Int) := of_decide_eq_true yy2
            obtain ⟨ad296, A296_1, c296_1, e296, hx296_0, hx296_1, hl296_1, hi296_1⟩ := at_T62 (Kd.N_reads' HO_6.out).2.2 x9_10 p296 q296
            cases e296
            obtain ⟨ce296, hce296, hMe296, hcc296⟩ := Kd.N_get HO_6.out z62 x9_10 p296 (by first | exact q296 | exact of_decide_eq_true yy2 | (have e_ := (Kd.N_reads' HO_6.out).1; omega))
            obtain ⟨ua296_1, uc296_1, rfl, ul296_1, ge296_1⟩ := k62_openF hMe296
            have hv296_1 := hcc296 1 _ rfl
            rw [add_field _ _ 1 (by omega)] at hv296_1
            replace hv296_1 := Option.some.inj (hv296_1.symm.trans hx296_1)
            injection hv296_1 with hva_ hvn_ hvc_
            rw [hva_] at ge296_1
            rw [hvc_] at ul296_1
            have HL296_1 := Aside0.mk (show Kd.V (Kd.int .i64) 3 _ w.heap.size _ _ ((rd_T62 x6_1 x9_10).f1) from Kd.V_mk ul296_1 ge296_1)
            clear hva_ hvn_ hvc_ ge296_1 ul296_1 hcc296 hce296
            have HR296_1 := Aside0.mk hi296_1
            have HC296_1 := Aside0.mk hl296_1
            clear hi296_1 hl296_1
            replace p296 := eq_true p296
            replace q296 := eq_true q296
            have p300 : 0 ≤ (x8_1 : Int) := of_decide_eq_true yy2
            have q300 : x8_1 < (t272.length : Int) := of_decide_eq_true yy2
            obtain ⟨ad300, e300, hx300_0⟩ := Kd.at_int (Kd.R_reads' HO_7.out).2.2 x8_1 p300 q300
            cases e300
            replace p300 := eq_true p300
            replace q300 := eq_true q300
            refine start_ (n := 18) (S := fun w' => w'.cell? (ad296.add ((x9_10).toNat * 2)) = some (.int .i64 ((rd_T62 x6_1 x9_10).f0)) ∧ w'.cell? ⟨(ad296.add ((x9_10).toNat * 2)).block, (ad296.add ((x9_10).toNat * 2)).off + 1, none⟩ = some (.slice A296_1 ((rd_T62 x6_1 x9_10).f1).length c296_1) ∧ w'.cell? (ad300.add (x8_1).toNat) = some (.int .i64 (rd t272 x8_1))) (ds := [17]) bYtoadgikbbigdlaaPaAx10_22 (by kernel_rfl) rfl rfl ⟨hx296_0, hx296_1, hx300_0⟩ (fun hHeld => ?_); refine with_tabW spec_PackArchive.tab13 spec_PackArchive.bits13 (fun HT_ HW_ => ?_)
            generalize wc.drew = w63 at HO_6 HO_7 HB HL296_1 HR296_1 hx296_0 hx296_1 hx300_0 hHeld ⊢
            refine pu_ 0 57 bYtoadgikbbigdlaaPaAx10_23 ?_
            refine pu_ 1 58 bYtoadgikbbigdlaaPaAx10_24 ?_
            refine pu_ 2 59 bYtoadgikbbigdlaaPaAx10_25 ?_
            refine pu_ 3 60 bYtoadgikbbigdlaaPaAx10_26 ?_
            refine pu_ 4 61 bYtoadgikbbigdlaaPaAx10_27 ?_
            refine pu_ 5 62 bYtoadgikbbigdlaaPaAx10_28 ?_
            refine pu_ 6 63 bYtoadgikbbigdlaaPaAx10_29 ?_
            refine pu_ 7 64 bYtoadgikbbigdlaaPaAx10_30 ?_
            refine pu_ 10 67 bYtoadgikbbigdlaaPaAx10_31 ?_
            refine pu_ 11 68 bYtoadgikbbigdlaaPaAx10_32 ?_
            refine pu_ 12 69 bYtoadgikbbigdlaaPaAx10_33 ?_
            refine t3_ 8 65 bYtoadgikbbigdlaaPaAx10_34 hHeld ?_
            refine t3_ 13 70 bYtoadgikbbigdlaaPaAx10_35 hHeld ?_
            refine one_ (i := 9) (N := some 66) bYtoadgikbbigdlaaPaAx10_36 rfl rfl (one_of HT_.out (by kernel_rfl)) (by decide) (fun K hK => ?_)
            refine goes_ Try.func67 (by kernel_rfl) rfl #[.slice A296_1 ((rd_T62 x6_1 x9_10).f1).length c296_1] (by rfl) rfl rfl yy3 ?_
            with_reducible refine (spec_l1Own.calls _ _ ((rd_T62 x6_1 x9_10).f1) t297 _ ?side1 ?side2 A57.out).mono ?_
            (case side1 => repeat (first | exact yy69 | (with_reducible refine Kd.C_alloc ?_ _) | (with_reducible refine Kd.C_drewN ?_ _) | (with_reducible refine Kd.C_drew ?_)))
            (case side2 => exact HC296_1.out)
            rintro e w64 ⟨v298, rfl, ho0, hb⟩
            have HS0_ := (hb.cell (World.block_lt_of_cell? _ _ (hHeld.1))).trans (hHeld.1)
            have HS1_ := (hb.cell (World.block_lt_of_cell? _ _ (hHeld.2.1))).trans (hHeld.2.1)
            have HS2_ := (hb.cell (World.block_lt_of_cell? _ _ (hHeld.2.2))).trans (hHeld.2.2)
            refine ⟨_, rfl, ?_⟩
            have n0_ := Aside0.mk (Kd.N_elder' yy40 (Kd.R_base ho0) hb)
            have n1_ := Aside0.mk (Kd.R_elder' yy14 (Kd.R_base ho0) hb)
            have n2_ := Aside0.mk (Kd.V_elder' (by (with_reducible repeat (first | apply Kd.V_alloc | apply Kd.V_drewN | apply Kd.V_drew)); exact HL296_1.out) (Kd.R_base ho0) hb)
            have n3_ := Aside0.mk (Kd.R_lower (Kd.R_new' (Kd.R_newM (M := fun k_ => (w.heap.size ≤ k_)) ho0 (below_size yy1) (fun k_ h_ => h_)) (Kd.R_lt yy14)) (below_size yy1))
            have n4_ := Aside0.mk (Kd.C_below yy69 hb)
            have n5_ := Aside0.mk (below_step yy1 hb)
            clear HO_6 HO_7 HL296_1 HR296_1 HB
            have HO_6 := n0_
            have HO_7 := n1_
            have HL296_1 := n2_
            have HO299 := n3_
            have HR296_1 := n4_
            have HB := n5_
            clear n0_ n1_ n2_ n3_ n4_ n5_
            (try clear hb)
            (try clear hb2)
            (try clear hk)
            (try clear hi)
            (try clear ho0)
            obtain ⟨Ao65, co65, eo65⟩ := Kd.R_slice HO299.out
            (first | subst eo65 | (injection eo65 with f1_ f2_ f3_; have f4_ := f1_.symm; have f5_ := f3_.symm; clear f1_ f2_ f3_; subst f4_; subst f5_))
            refine hK.out _ _ ⟨HS0_, HS1_, HS2_⟩ (fun hHeld => ?_)
            clear hK K
            refine no_ 66 ?_
            refine one_ (i := 14) (N := some 71) bYtoadgikbbigdlaaPaAx10_37 rfl rfl (one_of HT_.out (by kernel_rfl)) (by decide) (fun K hK => ?_)
            refine goes_ Try.func35 (by kernel_rfl) rfl #[.slice Ao65 t297.length co65, .int .i64 (rd t272 x8_1)] (by rfl) rfl rfl yy3 ?_
            with_reducible refine (spec_l1Put.calls kj10 (fun k_ => some k_ = (.slice Ao65 t297.length co65 : Value).ownBlock) (.slice Ao65 t297.length co65) t297 (rd t272 x8_1) t301 w _ ?side1 ?side2 A60.out).mono ?_
            (case side1 => repeat (first | (with_reducible first | exact HB.out | apply below_alloc | apply pw_below_drewN | apply below_drew1) | exact HB.out))
            (case side2 => exact Kd.R_tight rfl HO299.out)
            rintro e w66 ⟨v302, rfl, ho0, hb, hkp⟩
            have HS0_ := cell_kept (hHeld.1) hkp yy17
            have HS1_ := cell_kept (hHeld.2.1) hkp yy17
            have HS2_ := cell_kept (hHeld.2.2) hkp yy31
            refine ⟨_, rfl, ?_⟩
            have n0_ := Aside0.mk (Kd.N_mono (ok' := fun k_ => (w.heap.size ≤ k_) ∧ some k_ ≠ (.slice (some ad300) t272.length co12 : Value).ownBlock ∧ some k_ ≠ (v302 : Value).ownBlock) (Kd.N_keptB (HO_6.out) hkp (fun k_ hk_ hs_ => (hk_.2) hs_)) (fun k_ hk_ => ⟨hk_.1.1.1, hk_.1.1.2, fun e_ => Or.elim (ho0.1 k_ e_.symm) (fun hs_ => hk_.2.1 hs_) (fun hn_ => Nat.not_le.2 hk_.2.2 hn_)⟩))
            have n1_ := Aside0.mk (Kd.R_mono (ok' := fun k_ => (w.heap.size ≤ k_) ∧ some k_ ≠ (v302 : Value).ownBlock) (Kd.R_keptB (HO_7.out) hkp (fun k_ hk_ hs_ => (hk_.2) hs_)) (fun k_ hk_ => ⟨hk_.1.1, fun e_ => Or.elim (ho0.1 k_ e_.symm) (fun hs_ => hk_.2.1 hs_) (fun hn_ => Nat.not_le.2 hk_.2.2 hn_)⟩))
            have n2_ := Aside0.mk (Kd.R_mono (ok' := fun k_ => (w.heap.size ≤ k_) ∧ some k_ ≠ (.slice (some ad300) t272.length co12 : Value).ownBlock) ho0 (fun k_ hk_ => ⟨Or.elim hk_ (fun hs_ => (HO299.out.1 k_ (hs_).symm).1.1) (fun hn_ => (Nat.le_trans (below_size yy1) hn_)), Or.elim hk_ (fun hs_ => fun e_ => (((HO_7.out).1 k_ e_.symm).2) hs_) (fun hn_ => (Kd.fresh' (Kd.R_lt yy14) k_ hn_))⟩))
            have n3_ := Aside0.mk (hb)
            clear HO_6 HO_7 HB HO299 HL296_1
            have HO_6 := n0_
            have HO_7 := n1_
            have HO303 := n2_
            have HB := n3_
            clear n0_ n1_ n2_ n3_
            (try clear hb)
            (try clear hkp)
            (try clear ho0)
            obtain ⟨Ao67, co67, eo67⟩ := Kd.R_slice HO303.out
            (first | subst eo67 | (injection eo67 with f1_ f2_ f3_; have f4_ := f1_.symm; have f5_ := f3_.symm; clear f1_ f2_ f3_; subst f4_; subst f5_))
            have p61 : 0 ≤ (x9_10 : Int) := of_decide_eq_true yy2
            have q61 : (x9_10 : Int) < ((x6_1.length : Int) : Int) := of_decide_eq_true yy2
            obtain ⟨go61, co61, eo61, gb61, gl61, cl61, HG61⟩ := Kd.N_form HO_6.out (by omega)
            (first | cases eo61 | (injection eo61 with ea_ en_ ec_; (first | subst ea_ | (injection ea_ with ea_; subst ea_)); subst ec_; clear en_))
            have GB61 := Aside0.mk gb61
            have GG61 := Aside0.mk HG61
            clear gb61 gl61 HG61
            (first | simp only [add_plain] at hx296_0 | skip)
            (first | simp only [add_plain] at hx296_1 | skip)
            obtain ⟨ce61, hcl61, hM61, hcc61, hfr61⟩ := Kd.N_elem HO_6.out z62 (x9_10 : Int) p61 q61
            obtain ⟨ua61_1, uc61_1, rfl, ul61_1, ge61_1⟩ := k62_openF hM61
            have hx61_0 : World.cell? _ ⟨go61, (x9_10 : Int).toNat * 2, none⟩ = some (.int .i64 ((rd_T62 x6_1 x9_10).f0)) := hcc61 0 _ rfl
            have hx61_1 : World.cell? _ ⟨go61, (x9_10 : Int).toNat * 2 + 1, none⟩ = some (.slice ua61_1 ((rd_T62 x6_1 x9_10).f1).length uc61_1) := hcc61 1 _ rfl
            have hf61_0 : World.frozen? _ ⟨go61, (x9_10 : Int).toNat * 2, none⟩ = false := hfr61 0
            have hf61_1 : World.frozen? _ ⟨go61, (x9_10 : Int).toNat * 2 + 1, none⟩ = false := hfr61 1
            clear hcl61 hcc61 hfr61 hM61
            replace p61 := eq_true p61
            replace q61 := eq_true q61
            have HX68 := Aside0.mk (show Kd.N k62 62 _ w.heap.size (fun k_ => (w.heap.size ≤ k_) ∧ some k_ ≠ (.slice (some ad300) t272.length co12 : Value).ownBlock ∧ some k_ ≠ (.slice Ao67 t301.length co67 : Value).ownBlock) (.slice (some ⟨go61, 0, none⟩) x6_1.length co62) x6_1 from (Kd.N_mono (HO_6.out) (fun k_ hk => ⟨hk.1, ⟨hk.2.1, hk.2.2⟩⟩)))
            replace HX68 := Aside0.mk (show Kd.N k62 62 _ w.heap.size (fun k_ => (w.heap.size ≤ k_) ∧ some k_ ≠ (.slice (some ad300) t272.length co12 : Value).ownBlock) (.slice (some ⟨go61, 0, none⟩) x6_1.length co62) x6_1 from Kd.N_mono HX68.out (fun k_ hk => ⟨hk.1, hk.2.1⟩))
            obtain ⟨ce68, hcl68, hM68, hcc68, hfr68⟩ := Kd.N_elem HX68.out z62 (x9_10 : Int) (of_decide_eq_true yy2) (by have h_ : (x9_10 : Int) < ((x6_1.length : Int) : Int) := of_decide_eq_true yy2; first | exact h_ | (have e_ := (Kd.N_reads' HO_6.out).1; omega) | simpa using h_)
            obtain ⟨ua68_1, uc68_1, rfl, ul68_1, ge68_1⟩ := k62_openF hM68
            have HP68 := (Kd.N_seg HX68.out (x9_10 : Int) (of_decide_eq_true yy2) (by have h_ : (x9_10 : Int) < ((x6_1.length : Int) : Int) := of_decide_eq_true yy2; first | exact h_ | (have e_ := (Kd.N_reads' HO_6.out).1; omega) | simpa using h_) (seg := [.int .i64 (wrap64 (x9_10 + 1)), .slice Ao67 t301.length co67]) (j := 0) hcl68 hcc68 (show 2 ≤ 2 from by decide) (x' := (⟨wrap64 (x9_10 + 1), t301⟩ : S62)) (k62_mkF _ _ (⟨wrap64 (x9_10 + 1), t301⟩ : S62) (Kd.R_reads' (Kd.R_mono (ok' := (fun k_ => ((fun k_ => (w.heap.size ≤ k_) ∧ some k_ ≠ (.slice (some ad300) t272.length co12 : Value).ownBlock)) k_ ∧ k_ ≠ go61)) (Kd.R_apart' (HO303.out) (Kd.N_typed HO_6.out) (by decide)) (fun k_ hk => ⟨⟨hk.1.1, hk.1.2⟩, fun e_ => (hk.2) (by rw [e_]; rfl)⟩))).2.1 (Kd.R_F (Kd.R_mono (ok' := (fun k_ => ((fun k_ => (w.heap.size ≤ k_) ∧ some k_ ≠ (.slice (some ad300) t272.length co12 : Value).ownBlock)) k_ ∧ k_ ≠ go61)) (Kd.R_apart' (HO303.out) (Kd.N_typed HO_6.out) (by decide)) (fun k_ hk => ⟨⟨hk.1.1, hk.1.2⟩, fun e_ => (hk.2) (by rw [e_]; rfl)⟩)))) (fun _ hk => hk)).1
            rw [← Ny304.out] at HP68
            have HQ68 := Aside0.mk HP68
            clear hcl68 hcc68 hfr68 hM68 HP68
            refine hK.out _ _ ⟨HS0_, HS1_, HS2_⟩ (fun hHeld => ?_)
            clear hK K
            refine no_ 71 ?_
            refine pu_ 15 72 bYtoadgikbbigdlaaPaAx10_38 ?_
            refine pu_ 16 73 bYtoadgikbbigdlaaPaAx10_39 ?_
            refine last_ (i := 17) (N := none) bYtoadgikbbigdlaaPaAx10_40 rfl rfl (one_of HT_.out (by kernel_rfl)) (by decide) (fun K hK => ?_)
            refine skip_ (w1 := ?_) (by rfl) rfl ?_ ?_
            rotate_left
            ·go_simp
             rfl
            refine hK.out _ _ ?_
            clear hK K
            refine done_ (done_of HT_.out (by kernel_rfl)) ?_
            try go_wp2
            go_roundg kj10
            case measure => have := HK1.out; have := HJ10.out; omega
            case rel => exact ⟨(y304), (wrap64 (x8_1 + 1)), yy11, H', ⟨by have := HK1.out; have := HJ10.out; omega⟩, ⟨by (with_reducible repeat (first | apply Kd.N_alloc | apply Kd.N_drewN | apply Kd.N_drew)); exact HQ68.out⟩, ⟨by (with_reducible repeat (first | apply Kd.R_alloc | apply Kd.R_drewN | apply Kd.R_drew)); exact Kd.R_mono (Kd.R_far (p := ⟨go61, (x9_10 : Int).toNat * 2 + 1, none⟩) (Kd.R_far (p := ⟨go61, (x9_10 : Int).toNat * 2, none⟩) (Kd.R_types HO_7.out GG61.out (by decide)) (fun _ hk => hk.2) (.int .i64 (wrap64 (x9_10 + 1)))) (fun _ hk => hk.2) (.slice Ao67 t301.length co67)) (fun _ hk => hk.1.1)⟩, ⟨by repeat (first | (with_reducible first | exact HB.out | apply below_alloc | apply pw_below_drewN | apply below_drew1 | refine below_set ?_ GB61.out | refine below_set ?_ GB61.out) | exact HB.out)⟩⟩
           ·rw [if_neg c59] at H
            exact absurd H (by simp)
          ·rw [if_neg c58] at H
           exact absurd H (by simp)
         ·rw [if_neg c56] at H
          exact absurd H (by simp)
        ·rw [if_neg c55] at H
         exact absurd H (by simp)
    ·rw [if_neg c10] at H
     have c10b0 : decide (x8_1 < (t272.length : Int)) = false := decide_eq_false c10
     clear c10
     simp only [Option.some.injEq, Prod.mk.injEq] at H
     obtain ⟨rfl, rfl⟩ := H
     obtain ⟨Ao69, co69, eo69⟩ := Kd.R_slice HO_7.out
     subst eo69
     go_wp2
     go_ret2
     exact ⟨_, by first | rfl | (simp [errW_none, errW_some] <;> rfl) | (simp [*, errW_none, errW_some] <;> rfl), by (with_reducible repeat (first | apply Kd.N_alloc | apply Kd.N_drewN | apply Kd.N_drew)); exact Kd.N_mono HO_6.out (fun _ hk => hk.1), by repeat (first | (with_reducible first | exact HB.out | apply below_alloc | apply pw_below_drewN | apply below_drew1) | exact HB.out)⟩
 ·replace c4 := Bool.eq_false_iff.mpr c4
  subst c4
  have H1 : (some (y268, false)) = some (r1, r2) := by rw [if_neg (show ¬ (false = true) by decide)] at H; exact H
  clear H
  have H := H1
  clear H1
  simp only [Option.some.injEq, Prod.mk.injEq] at H
  obtain ⟨rfl, rfl⟩ := H
  go_enter Try.func30, Try.ntmps30
  go_wp2_with (first | ((with_reducible refine gate_dst (N := 10) rfl ?_); refine Kd.N_lit k62 _ 62 ?hg (N' := 10) ?hd (xs := ([] : List (S62))) (inner := []) (ok := (fun k_ => (w.heap.size ≤ k_))) (okp := (fun k_ => (w.heap.size ≤ k_))) ?hr ?hp (fun _ hk => hk) ((show ∀ k_, w.heap.size ≤ k_ → (fun k_ => (w.heap.size ≤ k_)) k_ from fun k_ hk => (Nat.le_trans (below_size yy1) hk)) _ (Nat.le_refl _)) (Below.refl _ _) (Nat.le_refl _) (by simp) ?_; (case hd => rfl); (case hg => rfl); (case hr => first | (go_simp; done) | (go_simp; rfl)); (case hp => exact (Reps.none _ _)); intro v269 w70 ho71 hb hg_ hnew_; clear hg_ hnew_; (first | rw [← Ny268.out] at ho71 | (simp only [Int.reduceToNat] at ho71; rw [← Ny268.out] at ho71)); have n0_ := Aside0.mk (Kd.N_lower ho71 (below_size yy1)); have n1_ := Aside0.mk (below_step yy1 hb); clear HB; have HO270 := n0_; have HB := n1_; clear n0_ n1_; clear hb ho71) | ((with_reducible refine gate_callee (f := 64) rfl ?_); refine goesL_ (some 13) rfl rfl Try.func64 (by kernel_rfl) rfl #[.slice A0 l0.length c0, .int .i64 a1] rfl yy3 ?_; (with_reducible refine (spec_l26Ready.calls k _ _ l0 a1 false _ ?side1 ?side2 A3.out).mono ?_); (case side1 => repeat (first | exact (Kd.C_below HR0.out HB.out) | (with_reducible refine Kd.C_alloc ?_ _) | (with_reducible refine Kd.C_drewN ?_ _) | (with_reducible refine Kd.C_drew ?_))); (case side2 => exact HC0.out); rintro e w72 ⟨rfl, hb⟩; refine ⟨_, rfl, ?_⟩; have n0_ := Aside0.mk (Kd.N_below yy65 hb); have n1_ := Aside0.mk (below_step yy1 hb); clear HO270; clear HB; have HO270 := n0_; have HB := n1_; clear n0_ n1_; (try clear hb); (try clear hb2); (try clear hk); (try clear hi)))
  go_ret2
  exact ⟨_, by first | rfl | (simp [errW_none, errW_some] <;> rfl) | (simp [*, errW_none, errW_some] <;> rfl), by (with_reducible repeat (first | apply Kd.N_alloc | apply Kd.N_drewN | apply Kd.N_drew)); exact HO270.out, by repeat (first | (with_reducible first | exact HB.out | apply below_alloc | apply pw_below_drewN | apply below_drew1) | exact HB.out)⟩
end Go.Proofs.Ytoadgikbbigdlaa.A
