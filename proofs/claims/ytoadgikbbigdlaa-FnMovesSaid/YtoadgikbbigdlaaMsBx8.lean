import Derived.Test.YtoadgikbbigdlaaMsWAb
import Derived.Test.YtoadgikbbigdlaaMsBx0
import Derived.Test.YtoadgikbbigdlaaMsBx2
import Derived.Test.YtoadgikbbigdlaaMsBx5
import Derived.Test.YtoadgikbbigdlaaMsBx6
import Derived.Test.YtoadgikbbigdlaaMsBx7
namespace Go.Proofs.Ytoadgikbbigdlaa.B
open Go.RowKit Go.Proofs.YtoadgikbbigdlaaW.PrintWords Go.Proofs.YtoadgikbbigdlaaW.PrintLast Go.Proofs.YtoadgikbbigdlaaW.PrintMore
attribute [local go_sem] max2_int min2_int max_two min_two max_three min_three max_four min_four   -- for this text's walks alone
set_option linter.unusedVariables false
set_option linter.unusedSimpArgs false
mutual
def spec_PackArchive.l0 : Nat → List (S50) → Int → List (S62) → List Int → Int → Option ((List (S62)) × Bool)
 | 0,_,_,_,_,_ => none
 | k + 1,x0,x1,x6,x7,x8 => if x8 < (x7.length : Int) then (spec_PackArchive.l1 k x0 x1 x6 x7 x8 0) else (some (x6,true))
def spec_PackArchive.j2 : Nat → List (S50) → Int → List (S62) → List Int → Int → Int → Option ((List (S62)) × Bool)
 | 0,_,_,_,_,_,_ => none
 | k + 1,x0,x1,x6,x7,x8,x9 => if x9 = (x6.length : Int) then (if x6.length < 4398046511104 then ((some (x6 ++ [(⟨wrap64 (x9 + 1),([] : List Int)⟩ : S62)] : List (S62))).bind fun y252 => (if 0 ≤ x9 then (if x9 < (y252.length : Int) then ((spec_l1Own.f ((rd_T62 y252 x9).f1)).bind fun t256 => (if 0 ≤ x8 then (if x8 < (x7.length : Int) then ((spec_l1Put.f k t256 (rd x7 x8)).bind fun t260 => (spec_PackArchive.l0 k x0 x1 (y252.set (x9 : Int).toNat (⟨wrap64 (x9 + 1),t260⟩ : S62)) x7 (wrap64 (x8 + 1)))) else (none)) else (none))) else (none)) else (none))) else (none)) else (if 0 ≤ x9 then (if x9 < (x6.length : Int) then ((spec_l1Own.f ((rd_T62 x6 x9).f1)).bind fun t265 => (if 0 ≤ x8 then (if x8 < (x7.length : Int) then ((spec_l1Put.f k t265 (rd x7 x8)).bind fun t269 => (spec_PackArchive.l0 k x0 x1 (x6.set (x9 : Int).toNat (⟨wrap64 (x9 + 1),t269⟩ : S62)) x7 (wrap64 (x8 + 1)))) else (none)) else (none))) else (none)) else (none))
def spec_PackArchive.l1 : Nat → List (S50) → Int → List (S62) → List Int → Int → Int → Option ((List (S62)) × Bool)
 | 0,_,_,_,_,_,_ => none
 | k + 1,x0,x1,x6,x7,x8,x9 => if x9 < (x6.length : Int) then (if 0 ≤ x9 then ((spec_l1Own.f ((rd_T62 x6 x9).f1)).bind fun t244 => (if 0 ≤ x8 then (if x8 < (x7.length : Int) then ((spec_l1Put.f k t244 (rd x7 x8)).bind fun t248 => ((spec_l26Fits.f k x0 t248 x1).bind fun t251 => (if t251 = true then (spec_PackArchive.j2 k x0 x1 x6 x7 x8 x9) else (spec_PackArchive.l1 k x0 x1 x6 x7 x8 (wrap64 (x9 + 1)))))) else (none)) else (none))) else (none)) else (spec_PackArchive.j2 k x0 x1 x6 x7 x8 x9)
end
def spec_PackArchive.f (k : Nat) (l0 : List (S50)) (a1 : Int) : Option ((List (S62)) × Bool) := (some (([] : List (S62)) : List (S62))).bind fun y236 => ((spec_l26Ready.f k l0 a1).bind fun t239 => (if t239 = true then ((spec_l26Order.f k l0).bind fun t240 => (spec_PackArchive.l0 k l0 a1 y236 t240 0)) else (some (y236,false))))
theorem spec_PackArchive.mono_l : ∀ k,(∀ y0 y1 y2 y3 y4,LeO (spec_PackArchive.l0 k y0 y1 y2 y3 y4) (spec_PackArchive.l0 (k + 1) y0 y1 y2 y3 y4)) ∧ (∀ y0 y1 y2 y3 y4 y5,LeO (spec_PackArchive.j2 k y0 y1 y2 y3 y4 y5) (spec_PackArchive.j2 (k + 1) y0 y1 y2 y3 y4 y5)) ∧ (∀ y0 y1 y2 y3 y4 y5,LeO (spec_PackArchive.l1 k y0 y1 y2 y3 y4 y5) (spec_PackArchive.l1 (k + 1) y0 y1 y2 y3 y4 y5))
 | 0 => ⟨fun _ _ _ _ _ r h => by simp [spec_PackArchive.l0] at h,fun _ _ _ _ _ _ r h => by simp [spec_PackArchive.j2] at h,fun _ _ _ _ _ _ r h => by simp [spec_PackArchive.l1] at h⟩
 | k + 1 => by
  obtain ⟨ih0,ih1,ih2⟩ := spec_PackArchive.mono_l k;refine ⟨?_,?_,?_⟩
  ·intro y0 y1 y2 y3 y4;unfold spec_PackArchive.l0;repeat' first
   | (with_reducible exact ih0 _ _ _ _ _)
   | (with_reducible exact ih1 _ _ _ _ _ _)
   | (with_reducible exact ih2 _ _ _ _ _ _)
   | (with_reducible exact spec_l1Put.mono _ _ _)
   | (with_reducible exact spec_l26Fits.mono _ _ _ _)
   | (with_reducible exact spec_l26Order.mono _ _)
   | (with_reducible exact spec_l26Ready.mono _ _ _)
   | (with_reducible exact LeO.refl _)
   | (with_reducible exact LeO.none _)
   | (with_reducible refine LeO.ite ?_ ?_)
   | (with_reducible refine LeO.bind ?_ (fun _ => ?_))
   | exact ih0 _ _ _ _ _
   | exact ih1 _ _ _ _ _ _
   | exact ih2 _ _ _ _ _ _
   | exact spec_l1Put.mono _ _ _
   | exact spec_l26Fits.mono _ _ _ _
   | exact spec_l26Order.mono _ _
   | exact spec_l26Ready.mono _ _ _
   | exact LeO.none _
   | refine LeO.ite ?_ ?_
   | refine LeO.bind ?_ (fun _ => ?_)
  ·intro y0 y1 y2 y3 y4 y5;unfold spec_PackArchive.j2;repeat' first
   | (with_reducible exact ih0 _ _ _ _ _)
   | (with_reducible exact ih1 _ _ _ _ _ _)
   | (with_reducible exact ih2 _ _ _ _ _ _)
   | (with_reducible exact spec_l1Put.mono _ _ _)
   | (with_reducible exact spec_l26Fits.mono _ _ _ _)
   | (with_reducible exact spec_l26Order.mono _ _)
   | (with_reducible exact spec_l26Ready.mono _ _ _)
   | (with_reducible exact LeO.refl _)
   | (with_reducible exact LeO.none _)
   | (with_reducible refine LeO.ite ?_ ?_)
   | (with_reducible refine LeO.bind ?_ (fun _ => ?_))
   | exact ih0 _ _ _ _ _
   | exact ih1 _ _ _ _ _ _
   | exact ih2 _ _ _ _ _ _
   | exact spec_l1Put.mono _ _ _
   | exact spec_l26Fits.mono _ _ _ _
   | exact spec_l26Order.mono _ _
   | exact spec_l26Ready.mono _ _ _
   | exact LeO.none _
   | refine LeO.ite ?_ ?_
   | refine LeO.bind ?_ (fun _ => ?_)
  ·intro y0 y1 y2 y3 y4 y5;unfold spec_PackArchive.l1;repeat' first
   | (with_reducible exact ih0 _ _ _ _ _)
   | (with_reducible exact ih1 _ _ _ _ _ _)
   | (with_reducible exact ih2 _ _ _ _ _ _)
   | (with_reducible exact spec_l1Put.mono _ _ _)
   | (with_reducible exact spec_l26Fits.mono _ _ _ _)
   | (with_reducible exact spec_l26Order.mono _ _)
   | (with_reducible exact spec_l26Ready.mono _ _ _)
   | (with_reducible exact LeO.refl _)
   | (with_reducible exact LeO.none _)
   | (with_reducible refine LeO.ite ?_ ?_)
   | (with_reducible refine LeO.bind ?_ (fun _ => ?_))
   | exact ih0 _ _ _ _ _
   | exact ih1 _ _ _ _ _ _
   | exact ih2 _ _ _ _ _ _
   | exact spec_l1Put.mono _ _ _
   | exact spec_l26Fits.mono _ _ _ _
   | exact spec_l26Order.mono _ _
   | exact spec_l26Ready.mono _ _ _
   | exact LeO.none _
   | refine LeO.ite ?_ ?_
   | refine LeO.bind ?_ (fun _ => ?_)
theorem spec_PackArchive.mono : ∀ a0 a1 k,LeO (spec_PackArchive.f k a0 a1) (spec_PackArchive.f (k + 1) a0 a1) := by
 intro a0 a1 k;obtain ⟨ih0,ih1,ih2⟩ := spec_PackArchive.mono_l k;unfold spec_PackArchive.f;repeat' first
   | (with_reducible exact ih0 _ _ _ _ _)
   | (with_reducible exact ih1 _ _ _ _ _ _)
   | (with_reducible exact ih2 _ _ _ _ _ _)
   | (with_reducible exact spec_l1Put.mono _ _ _)
   | (with_reducible exact spec_l26Fits.mono _ _ _ _)
   | (with_reducible exact spec_l26Order.mono _ _)
   | (with_reducible exact spec_l26Ready.mono _ _ _)
   | (with_reducible exact LeO.refl _)
   | (with_reducible exact LeO.none _)
   | (with_reducible refine LeO.ite ?_ ?_)
   | (with_reducible refine LeO.bind ?_ (fun _ => ?_))
   | exact ih0 _ _ _ _ _
   | exact ih1 _ _ _ _ _ _
   | exact ih2 _ _ _ _ _ _
   | exact spec_l1Put.mono _ _ _
   | exact spec_l26Fits.mono _ _ _ _
   | exact spec_l26Order.mono _ _
   | exact spec_l26Ready.mono _ _ _
   | exact LeO.none _
   | refine LeO.ite ?_ ?_
   | refine LeO.bind ?_ (fun _ => ?_)
def spec_PackArchive.T9 : Bool × List (List Nat × List Nat) := (true,[([],[]),([],[]),([1],[1]),([0,2],[0,2]),([3],[3]),([4],[4]),([4],[4]),([4],[4]),([6,7,4],[4,6,7]),([8,4],[4,8]),([9,4],[4,9]),([10,4,4],[4,10]),([4],[4]),([4],[4]),([12,13,4],[4,12,13]),([14,4],[4,14]),([11,15,11,4],[4,11,15]),([4],[4]),([5,16,17,16,4],[4,5,16,17]),([18,4],[4,18]),([4,19],[4,19])])
def spec_PackArchive.B9 : List Nat := [0,0,2,7,15,31,31,31,223,479,991,2015,31,31,12319,28703,65503,31,262143,524287,1048575]
theorem spec_PackArchive.tab9 : rtab .any (opsOf Try.f30 9) = spec_PackArchive.T9 := by kernel_rfl
theorem spec_PackArchive.bits9 : waitsOk spec_PackArchive.T9.2 spec_PackArchive.B9 = true := by kernel_rfl
def spec_PackArchive.T13 : Bool × List (List Nat × List Nat) := (true,[([],[]),([],[]),([],[]),([2],[2]),([],[]),([],[]),([4,5],[4,5]),([6],[6]),([7],[7]),([8],[8]),([],[]),([],[]),([10,11],[10,11]),([12],[12]),([9,13,9],[9,13]),([3,14],[3,14]),([0,1,0,1,2,3,4,5,6,7,8,9,10,11,12,13,14,15],[0,1]),([16,15,14,0,1,2,3,4,5,6,7,8,9,10,11,12,13,14,15],[15,16])])
def spec_PackArchive.B13 : List Nat := [0,0,0,4,0,0,48,112,240,496,0,0,3072,7168,16368,32764,65535,131071]
theorem spec_PackArchive.tab13 : rtab .any (opsOf Try.f30 13) = spec_PackArchive.T13 := by kernel_rfl
theorem spec_PackArchive.bits13 : waitsOk spec_PackArchive.T13.2 spec_PackArchive.B13 = true := by kernel_rfl
def b8x0 : Array Bool := #[false,false,false,false,false,false,false,false,false,false,false,false,false,false,false,false,false,false,false,false,false]
def b8x1 : Array Bool := #[true,false,false,false,false,false,false,false,false,false,false,false,false,false,false,false,false,false,false,false,false]
def b8x2 : Array Bool := #[true,true,false,false,false,false,false,false,false,false,false,false,false,false,false,false,false,false,false,false,false]
def b8x3 : Array Bool := #[true,true,true,false,false,false,false,false,false,false,false,false,false,false,false,false,false,false,false,false,false]
def b8x4 : Array Bool := #[true,true,true,true,false,false,false,false,false,false,false,false,false,false,false,false,false,false,false,false,false]
def b8x5 : Array Bool := #[true,true,true,true,true,false,false,false,false,false,false,false,false,false,false,false,false,false,false,false,false]
def b8x6 : Array Bool := #[true,true,true,true,true,true,false,false,false,false,false,false,false,false,false,false,false,false,false,false,false]
def b8x7 : Array Bool := #[true,true,true,true,true,true,true,false,false,false,false,false,false,false,false,false,false,false,false,false,false]
def b8x8 : Array Bool := #[true,true,true,true,true,true,true,true,false,false,false,false,false,false,false,false,false,false,false,false,false]
def b8x9 : Array Bool := #[true,true,true,true,true,true,true,true,true,false,false,false,false,false,false,false,false,false,false,false,false]
def b8x10 : Array Bool := #[true,true,true,true,true,true,true,true,true,true,false,false,false,false,false,false,false,false,false,false,false]
def b8x11 : Array Bool := #[true,true,true,true,true,true,true,true,true,true,false,false,true,false,false,false,false,false,false,false,false]
def b8x12 : Array Bool := #[true,true,true,true,true,true,true,true,true,true,false,false,true,true,false,false,false,false,false,false,false]
def b8x13 : Array Bool := #[true,true,true,true,true,true,true,true,true,true,false,false,true,true,true,false,false,false,false,false,false]
def b8x14 : Array Bool := #[true,true,true,true,true,true,true,true,true,true,false,false,true,true,true,false,false,true,false,false,false]
def b8x15 : Array Bool := #[true,true,true,true,true,true,true,true,true,true,true,false,true,true,true,false,false,true,false,false,false]
def b8x16 : Array Bool := #[true,true,true,true,true,true,true,true,true,true,true,false,true,true,true,true,false,true,false,false,false]
def b8x17 : Array Bool := #[true,true,true,true,true,true,true,true,true,true,true,true,true,true,true,true,false,true,false,false,false]
def b8x18 : Array Bool := #[true,true,true,true,true,true,true,true,true,true,true,true,true,true,true,true,true,true,false,false,false]
def b8x19 : Array Bool := #[true,true,true,true,true,true,true,true,true,true,true,true,true,true,true,true,true,true,true,false,false]
def b8x20 : Array Bool := #[true,true,true,true,true,true,true,true,true,true,true,true,true,true,true,true,true,true,true,true,false]
def b8x21 : Array Bool := #[true,true,true,true,true,true,true,true,true,true,true,true,true,true,true,true,true,true,true,true,true]
def b8x22 : Array Bool := #[false,false,false,false,false,false,false,false,false,false,false,false,false,false,false,false,false,false]
def b8x23 : Array Bool := #[true,false,false,false,false,false,false,false,false,false,false,false,false,false,false,false,false,false]
def b8x24 : Array Bool := #[true,true,false,false,false,false,false,false,false,false,false,false,false,false,false,false,false,false]
def b8x25 : Array Bool := #[true,true,true,false,false,false,false,false,false,false,false,false,false,false,false,false,false,false]
def b8x26 : Array Bool := #[true,true,true,true,false,false,false,false,false,false,false,false,false,false,false,false,false,false]
def b8x27 : Array Bool := #[true,true,true,true,true,false,false,false,false,false,false,false,false,false,false,false,false,false]
def b8x28 : Array Bool := #[true,true,true,true,true,true,false,false,false,false,false,false,false,false,false,false,false,false]
def b8x29 : Array Bool := #[true,true,true,true,true,true,true,false,false,false,false,false,false,false,false,false,false,false]
def b8x30 : Array Bool := #[true,true,true,true,true,true,true,true,false,false,false,false,false,false,false,false,false,false]
def b8x31 : Array Bool := #[true,true,true,true,true,true,true,true,false,false,true,false,false,false,false,false,false,false]
def b8x32 : Array Bool := #[true,true,true,true,true,true,true,true,false,false,true,true,false,false,false,false,false,false]
def b8x33 : Array Bool := #[true,true,true,true,true,true,true,true,false,false,true,true,true,false,false,false,false,false]
def b8x34 : Array Bool := #[true,true,true,true,true,true,true,true,true,false,true,true,true,false,false,false,false,false]
def b8x35 : Array Bool := #[true,true,true,true,true,true,true,true,true,false,true,true,true,true,false,false,false,false]
def b8x36 : Array Bool := #[true,true,true,true,true,true,true,true,true,true,true,true,true,true,false,false,false,false]
def b8x37 : Array Bool := #[true,true,true,true,true,true,true,true,true,true,true,true,true,true,true,false,false,false]
def b8x38 : Array Bool := #[true,true,true,true,true,true,true,true,true,true,true,true,true,true,true,true,false,false]
def b8x39 : Array Bool := #[true,true,true,true,true,true,true,true,true,true,true,true,true,true,true,true,true,false]
def b8x40 : Array Bool := #[true,true,true,true,true,true,true,true,true,true,true,true,true,true,true,true,true,true]
set_option maxHeartbeats 8000000 in
set_option maxRecDepth 100000 in
theorem spec_PackArchive.calls (k : Nat) (A0 : Option Addr) (c0 : Nat) (l0 : List (S50)) (a1 : Int) (r1 : List (S62)) (r2 : Bool) (w : World) (hr0 : Kd.C k50 w A0 l0.length l0) (hc0 : l0.length ≤ c0) (h : spec_PackArchive.f k l0 a1 = some (r1,r2)) :
  Calls Try.prog 30 #[.slice A0 l0.length c0,.int .i64 a1] w fun e w' => ∃ v0_ : Value,e = .returned (.tuple #[v0_,.bool r2]) ∧ Kd.N k62 62 w' w.heap.size (fun k_ => (w.heap.size ≤ k_)) v0_ r1 ∧ Below w.heap.size w w' := by
 have hu62 := Try.underlying62;have HR0 := Aside0.mk hr0;have HC0 := Aside0.mk hc0;clear hr0 hc0;have HB := Aside0.mk (Below.refl w.heap.size w);have H : ((some (([] : List (S62)) : List (S62))).bind fun y236 => ((spec_l26Ready.f k l0 a1).bind fun t239 => (if t239 = true then ((spec_l26Order.f k l0).bind fun t240 => (spec_PackArchive.l0 k l0 a1 y236 t240 0)) else (some (y236,false))))) = some (r1,r2) := h;clear h;obtain ⟨y236,hy236⟩ : ∃ y_ : List (S62),y_ = (([] : List (S62))) := ⟨_,rfl⟩
 replace H : ((spec_l26Ready.f k l0 a1).bind fun t239 => (if t239 = true then ((spec_l26Order.f k l0).bind fun t240 => (spec_PackArchive.l0 k l0 a1 y236 t240 0)) else (some (y236,false)))) = some (r1,r2) := by first | (rw [hy236]; with_reducible exact H) | (have H2_ := (Option.bind_some _ _).symm.trans H; rw [hy236]; with_reducible exact H2_) | (have H2_ := (Option.bind_some _ _).symm.trans H; with_reducible exact H2_) | with_reducible exact H | (rw [hy236]; exact H) | exact H
 have Ny236 := Aside0.mk hy236;clear hy236;replace H := Option.bind_eq_some_iff.mp H;obtain ⟨t239,A30,H⟩ := H;replace H : (if t239 = true then ((spec_l26Order.f k l0).bind fun t240 => (spec_PackArchive.l0 k l0 a1 y236 t240 0)) else (some (y236,false))) = some (r1,r2) := H;have A3 := Aside0.mk A30;clear A30;by_cases c4 : t239 = true
 ·subst c4;have H1 : ((spec_l26Order.f k l0).bind fun t240 => (spec_PackArchive.l0 k l0 a1 y236 t240 0)) = some (r1,r2) := by rw [if_pos rfl] at H; exact H
  clear H;have H := H1;clear H1;replace H := Option.bind_eq_some_iff.mp H;obtain ⟨t240,A50,H⟩ := H;replace H : (spec_PackArchive.l0 k l0 a1 y236 t240 0) = some (r1,r2) := H;have A5 := Aside0.mk A50;clear A50;have H' := Aside0.mk H;clear H;go_enter Try.func30,Try.ntmps30;go_wp2_with (first | ((with_reducible refine gate_dst (N := 10) rfl ?_); refine Kd.N_lit k62 _ 62 ?hg (N' := 10) ?hd (xs := ([] : List (S62))) (inner := []) (ok := (fun k_ => (w.heap.size ≤ k_))) (okp := (fun k_ => (w.heap.size ≤ k_))) ?hr ?hp (fun _ hk => hk) ((show ∀ k_,w.heap.size ≤ k_ → (fun k_ => (w.heap.size ≤ k_)) k_ from fun k_ hk => (Nat.le_trans (below_size yy1) hk)) _ (Nat.le_refl _)) (Below.refl _ _) (Nat.le_refl _) (by simp) ?_; (case hd => rfl); (case hg => rfl); (case hr => first | (go_simp; done) | (go_simp; rfl)); (case hp => exact (Reps.none _ _)); intro v237 w6 ho7 hb hg_ hnew_; clear hg_ hnew_; (first | rw [← Ny236.out] at ho7 | (simp only [Int.reduceToNat] at ho7; rw [← Ny236.out] at ho7)); have n0_ := Aside0.mk (Kd.N_lower ho7 (below_size yy1)); have n1_ := Aside0.mk (below_step yy1 hb); clear HB; have HO238 := n0_; have HB := n1_; clear n0_ n1_; clear hb ho7) | ((with_reducible refine gate_callee (f := 64) rfl ?_); refine goesL_ (some 13) rfl rfl Try.func64 (by kernel_rfl) rfl #[.slice A0 l0.length c0,.int .i64 a1] rfl yy3 ?_; (with_reducible refine (spec_l26Ready.calls k _ _ l0 a1 true _ ?side1 ?side2 A3.out).mono ?_); (case side1 => exact yy4); (case side2 => exact HC0.out); rintro e w8 ⟨rfl,hb⟩; refine ⟨_,rfl,?_⟩; have n0_ := Aside0.mk (Kd.N_below yy88 hb); have n1_ := Aside0.mk (below_step yy1 hb); clear HO238; clear HB; have HO238 := n0_; have HB := n1_; clear n0_ n1_; (try clear hb); (try clear hb2); (try clear hk); (try clear hi)) | ((with_reducible refine gate_callee (f := 65) rfl ?_); refine goesL_ (some 17) rfl rfl Try.func65 (by kernel_rfl) rfl #[.slice A0 l0.length c0] rfl yy3 ?_; (with_reducible refine (spec_l26Order.calls k _ _ l0 t240 _ ?side1 ?side2 A5.out).mono ?_); (case side1 => exact yy4); (case side2 => exact HC0.out); rintro e w9 ⟨v241,rfl,ho0,hb⟩; refine ⟨_,rfl,?_⟩; have n0_ := Aside0.mk (Kd.N_elder' yy88 (Kd.R_base ho0) hb); have n1_ := Aside0.mk (Kd.R_lower (Kd.R_newM (M := fun k_ => (w.heap.size ≤ k_)) ho0 (below_size yy1) (fun k_ h_ => h_)) (below_size yy1)); have n2_ := Aside0.mk (below_step yy1 hb); clear HO238; clear HB; have HO238 := n0_; have HO242 := n1_; have HB := n2_; clear n0_ n1_ n2_; (try clear hb); (try clear hb2); (try clear hk); (try clear hi); (try clear ho0)))
  go_loopg [6,8] k (fun kq v6 v8 w' => ∃ (x6_1 : List (S62)) (x8_1 : Int),v8 = .int .i64 x8_1 ∧ Aside0 (spec_PackArchive.l0 kq l0 a1 x6_1 t240 x8_1 = some (r1,r2)) ∧ Aside0 (kq ≤ k) ∧ Aside0 (Kd.N k62 62 w' w.heap.size (fun k_ => (w.heap.size ≤ k_) ∧ some k_ ≠ (v241 : Value).ownBlock) v6 x6_1) ∧ Aside0 (Kd.R (Kd.int .i64) 3 w' w.heap.size (fun k_ => (w.heap.size ≤ k_)) v241 t240) ∧ Aside0 (Below w.heap.size w w'))
  case atStart => exact ⟨(y236),(0),yy12,H',⟨Nat.le_refl _⟩,⟨yy88⟩,⟨(by (with_reducible repeat (first | apply Kd.R_alloc | apply Kd.R_drewN | apply Kd.R_drew)); exact Kd.R_mono HO242.out (fun _ hk => hk.1))⟩,⟨yy1⟩⟩
  case round =>
   clear H'
   try clear p2
   try clear c3
   try clear c4
   try clear c6
   obtain ⟨x6_1,x8_1,rfl,HA,HK1,HO_6,HO_7,HB⟩ := hrel;cases gk with
   | zero => exact absurd HA.out (by simp [spec_PackArchive.l0])
   | succ k1 =>
    have H := HA.out;clear HA;simp only [spec_PackArchive.l0] at H;by_cases c10 : x8_1 < (t240.length : Int)
    ·rw [if_pos c10] at H;have c10b0 : decide (x8_1 < (t240.length : Int)) = true := decide_eq_true c10;clear c10;have HC11 := Aside0.mk H;clear H;obtain ⟨Ao12,co12,eo12⟩ := Kd.R_slice HO_7.out;subst eo12
     go_upto_block 2 with (fail)
     go_cut [9] (fun v9 wc => ∃ (kq : Nat) (x9_10 : Int),v9 = .int .i64 x9_10 ∧ Aside0 (spec_PackArchive.j2 kq l0 a1 x6_1 t240 x8_1 x9_10 = some (r1,r2)) ∧ Aside0 (kq ≤ k1) ∧ Aside0 (Kd.N k62 62 wc w.heap.size (fun k_ => (w.heap.size ≤ k_) ∧ some k_ ≠ ((.slice Ao12 t240.length co12) : Value).ownBlock) u6 x6_1) ∧ Aside0 (Kd.R (Kd.int .i64) 3 wc w.heap.size (fun k_ => (w.heap.size ≤ k_)) (.slice Ao12 t240.length co12) t240) ∧ Aside0 (Below w.heap.size w wc))
     case first =>
      have H := HC11.out;clear HC11;have H' := Aside0.mk H;clear H;go_wp2
      go_loopg [9] k1 (fun kq v9 w' => ∃ (x9_2 : Int),v9 = .int .i64 x9_2 ∧ Aside0 (spec_PackArchive.l1 kq l0 a1 x6_1 t240 x8_1 x9_2 = some (r1,r2)) ∧ Aside0 (kq ≤ k1) ∧ Aside0 (Kd.N k62 62 w' w.heap.size (fun k_ => (w.heap.size ≤ k_) ∧ some k_ ≠ ((.slice Ao12 t240.length co12) : Value).ownBlock) u6 x6_1) ∧ Aside0 (Kd.R (Kd.int .i64) 3 w' w.heap.size (fun k_ => (w.heap.size ≤ k_)) (.slice Ao12 t240.length co12) t240) ∧ Aside0 (Below w.heap.size w w'))
      case atStart => exact ⟨(0),yy12,H',⟨Nat.le_refl _⟩,⟨yy53⟩,⟨yy35⟩,⟨yy1⟩⟩
      case round =>
       clear H'
       try clear c1
       try clear p2
       try clear c3
       try clear c4
       try clear c6
       try clear c10
       try clear c10b0
       try clear p2
       obtain ⟨x9_2,rfl,HA,HK2,HO_6,HO_7,HB⟩ := hrel;cases gk with
       | zero => exact absurd HA.out (by simp [spec_PackArchive.l1])
       | succ k2 =>
        have H := HA.out;clear HA;simp only [spec_PackArchive.l1] at H;by_cases c13 : x9_2 < (x6_1.length : Int)
        ·rw [if_pos c13] at H;have c13b0 : decide (x9_2 < (x6_1.length : Int)) = true := decide_eq_true c13;clear c13;(first | rw [c13b0] | (simp only [i64_w,i32_w]; rw [c13b0]) | skip)
         by_cases c14 : 0 ≤ x9_2
         ·rw [if_pos c14] at H;have c14b0 : decide (0 ≤ x9_2) = true := decide_eq_true c14;clear c14;replace H := Option.bind_eq_some_iff.mp H;obtain ⟨t244,A150,H⟩ := H;replace H : (if 0 ≤ x8_1 then (if x8_1 < (t240.length : Int) then ((spec_l1Put.f k2 t244 (rd t240 x8_1)).bind fun t248 => ((spec_l26Fits.f k2 l0 t248 a1).bind fun t251 => (if t251 = true then (spec_PackArchive.j2 k2 l0 a1 x6_1 t240 x8_1 x9_2) else (spec_PackArchive.l1 k2 l0 a1 x6_1 t240 x8_1 (wrap64 (x9_2 + 1)))))) else (none)) else (none)) = some (r1,r2) := H;have A15 := Aside0.mk A150;clear A150;by_cases c16 : 0 ≤ x8_1
          ·rw [if_pos c16] at H;have c16b0 : decide (0 ≤ x8_1) = true := decide_eq_true c16;clear c16;by_cases c17 : x8_1 < (t240.length : Int)
           ·rw [if_pos c17] at H;have c17b0 : decide (x8_1 < (t240.length : Int)) = true := decide_eq_true c17;clear c17;replace H := Option.bind_eq_some_iff.mp H;obtain ⟨t248,A180,H⟩ := H;replace H : ((spec_l26Fits.f k2 l0 t248 a1).bind fun t251 => (if t251 = true then (spec_PackArchive.j2 k2 l0 a1 x6_1 t240 x8_1 x9_2) else (spec_PackArchive.l1 k2 l0 a1 x6_1 t240 x8_1 (wrap64 (x9_2 + 1))))) = some (r1,r2) := H;have A18 := Aside0.mk A180;clear A180;replace H := Option.bind_eq_some_iff.mp H;obtain ⟨t251,A190,H⟩ := H;replace H : (if t251 = true then (spec_PackArchive.j2 k2 l0 a1 x6_1 t240 x8_1 x9_2) else (spec_PackArchive.l1 k2 l0 a1 x6_1 t240 x8_1 (wrap64 (x9_2 + 1)))) = some (r1,r2) := H;have A19 := Aside0.mk A190;clear A190;by_cases c20 : t251 = true
            ·subst c20;have H1 : (spec_PackArchive.j2 k2 l0 a1 x6_1 t240 x8_1 x9_2) = some (r1,r2) := by rw [if_pos rfl] at H; exact H
             clear H;have H := H1;clear H1;have H' := Aside0.mk H;clear H
             try go_wp2
             have n0_ := Aside0.mk (Kd.N_drew HO_6.out);have n1_ := Aside0.mk (Kd.R_drew HO_7.out);have n2_ := Aside0.mk (below_drew1 HB.out);clear HO_6 HO_7 HB;have HO_6 := n0_;have HO_7 := n1_;have HB := n2_;clear n0_ n1_ n2_;obtain ⟨Ao22,co22,eo22⟩ := Kd.N_slice HO_6.out;(first | subst eo22 | (injection eo22 with f1_ f2_ f3_; have f4_ := f1_.symm; have f5_ := f3_.symm; clear f1_ f2_ f3_; subst f4_; subst f5_))
             have p243 : 0 ≤ (x9_2 : Int) := of_decide_eq_true yy2;have q243 : x9_2 < (x6_1.length : Int) := of_decide_eq_true yy2;obtain ⟨ad243,A243_1,c243_1,e243,hx243_0,hx243_1,hl243_1,hi243_1⟩ := at_T62 (Kd.N_reads' HO_6.out).2.2 x9_2 p243 q243;cases e243;obtain ⟨ce243,hce243,hMe243,hcc243⟩ := Kd.N_get HO_6.out z62 x9_2 p243 (by first | exact q243 | exact of_decide_eq_true yy2 | (have e_ := (Kd.N_reads' HO_6.out).1; omega));obtain ⟨ua243_1,uc243_1,rfl,ul243_1,ge243_1⟩ := k62_openF hMe243;have hv243_1 := hcc243 1 _ rfl;rw [add_field _ _ 1 (by omega)] at hv243_1;replace hv243_1 := Option.some.inj (hv243_1.symm.trans hx243_1);injection hv243_1 with hva_ hvn_ hvc_
             rw [hva_] at ge243_1;rw [hvc_] at ul243_1;have HL243_1 := Aside0.mk (show Kd.V (Kd.int .i64) 3 _ w.heap.size _ _ ((rd_T62 x6_1 x9_2).f1) from Kd.V_mk ul243_1 ge243_1);clear hva_ hvn_ hvc_ ge243_1 ul243_1 hcc243 hce243;have HR243_1 := Aside0.mk hi243_1;have HC243_1 := Aside0.mk hl243_1;clear hi243_1 hl243_1;replace p243 := eq_true p243;replace q243 := eq_true q243;have p247 : 0 ≤ (x8_1 : Int) := of_decide_eq_true yy2;have q247 : x8_1 < (t240.length : Int) := of_decide_eq_true yy2;obtain ⟨ad247,e247,hx247_0⟩ := Kd.at_int (Kd.R_reads' HO_7.out).2.2 x8_1 p247 q247;cases e247;replace p247 := eq_true p247;replace q247 := eq_true q247;refine start_ (n := 21) (S := fun w' => w'.cell? (ad243.add ((x9_2).toNat * 2)) = some (.int .i64 ((rd_T62 x6_1 x9_2).f0)) ∧ w'.cell? ⟨(ad243.add ((x9_2).toNat * 2)).block,(ad243.add ((x9_2).toNat * 2)).off + 1,none⟩ = some (.slice A243_1 ((rd_T62 x6_1 x9_2).f1).length c243_1) ∧ w'.cell? (ad247.add (x8_1).toNat) = some (.int .i64 (rd t240 x8_1))) (ds := []) b8x0 (by kernel_rfl) rfl rfl ⟨hx243_0,hx243_1,hx247_0⟩ (fun hHeld => ?_); refine with_tabW spec_PackArchive.tab9 spec_PackArchive.bits9 (fun HT_ HW_ => ?_);generalize wr.drew = w21 at HO_6 HO_7 HB HL243_1 HR243_1 hx243_0 hx243_1 hx247_0 hHeld ⊢;refine pu_ 0 24 b8x1 ?_;refine pu_ 1 25 b8x2 ?_;refine pu_ 2 26 b8x3 ?_;refine pu_ 3 27 b8x4 ?_;refine pu_ 4 28 b8x5 ?_;refine pu_ 5 29 b8x6 ?_;refine pu_ 6 30 b8x7 ?_;refine pu_ 7 31 b8x8 ?_;refine pu_ 8 32 b8x9 ?_;refine pu_ 9 33 b8x10 ?_;refine pu_ 12 36 b8x11 ?_;refine pu_ 13 37 b8x12 ?_;refine pu_ 14 38 b8x13 ?_;refine pu_ 17 41 b8x14 ?_;refine t3_ 10 34 b8x15 hHeld ?_;refine t3_ 15 39 b8x16 hHeld ?_;refine one_ (i := 11) (N := some 35) b8x17 rfl rfl (one_of HT_.out (by kernel_rfl)) (by decide) (fun K hK => ?_);refine goes_ Try.func67 (by kernel_rfl) rfl #[.slice A243_1 ((rd_T62 x6_1 x9_2).f1).length c243_1] (by rfl) rfl rfl yy3 ?_
             with_reducible refine (spec_l1Own.calls _ _ ((rd_T62 x6_1 x9_2).f1) t244 _ ?side1 ?side2 A15.out).mono ?_
             (case side1 => repeat (first | exact yy77 | (with_reducible refine Kd.C_alloc ?_ _) | (with_reducible refine Kd.C_drewN ?_ _) | (with_reducible refine Kd.C_drew ?_)))
             (case side2 => exact HC243_1.out)
             rintro e w23 ⟨v245,rfl,ho0,hb⟩;have HS0_ := (hb.cell (World.block_lt_of_cell? _ _ (hHeld.1))).trans (hHeld.1);have HS1_ := (hb.cell (World.block_lt_of_cell? _ _ (hHeld.2.1))).trans (hHeld.2.1);have HS2_ := (hb.cell (World.block_lt_of_cell? _ _ (hHeld.2.2))).trans (hHeld.2.2);refine ⟨_,rfl,?_⟩;have n0_ := Aside0.mk (Kd.N_elder' yy53 (Kd.R_base ho0) hb);have n1_ := Aside0.mk (Kd.R_elder' yy35 (Kd.R_base ho0) hb);have n2_ := Aside0.mk (Kd.V_elder' (by (with_reducible repeat (first | apply Kd.V_alloc | apply Kd.V_drewN | apply Kd.V_drew)); exact HL243_1.out) (Kd.R_base ho0) hb);have n3_ := Aside0.mk (Kd.R_lower (Kd.R_new' (Kd.R_newM (M := fun k_ => (w.heap.size ≤ k_)) ho0 (below_size yy1) (fun k_ h_ => h_)) (Kd.R_lt yy35)) (below_size yy1));have n4_ := Aside0.mk (Kd.C_below yy77 hb);have n5_ := Aside0.mk (below_step yy1 hb);clear HO_6 HO_7 HL243_1 HR243_1 HB;have HO_6 := n0_;have HO_7 := n1_;have HL243_1 := n2_;have HO246 := n3_;have HR243_1 := n4_;have HB := n5_;clear n0_ n1_ n2_ n3_ n4_ n5_;(try clear hb)
             (try clear hb2)
             (try clear hk)
             (try clear hi)
             (try clear ho0)
             obtain ⟨Ao24,co24,eo24⟩ := Kd.R_slice HO246.out;(first | subst eo24 | (injection eo24 with f1_ f2_ f3_; have f4_ := f1_.symm; have f5_ := f3_.symm; clear f1_ f2_ f3_; subst f4_; subst f5_))
             refine hK.out _ _ ⟨HS0_,HS1_,HS2_⟩ (fun hHeld => ?_);clear hK K;refine no_ 35 ?_;refine one_ (i := 16) (N := some 40) b8x18 rfl rfl (one_of HT_.out (by kernel_rfl)) (by decide) (fun K hK => ?_);refine goes_ Try.func35 (by kernel_rfl) rfl #[.slice Ao24 t244.length co24,.int .i64 (rd t240 x8_1)] (by rfl) rfl rfl yy3 ?_
             with_reducible refine (spec_l1Put.calls k2 (fun k_ => some k_ = (.slice Ao24 t244.length co24 : Value).ownBlock) (.slice Ao24 t244.length co24) t244 (rd t240 x8_1) t248 w _ ?side1 ?side2 A18.out).mono ?_
             (case side1 => exact yy1)
             (case side2 => exact Kd.R_tight rfl HO246.out)
             rintro e w25 ⟨v249,rfl,ho0,hb,hkp⟩;have HS0_ := cell_kept (hHeld.1) hkp yy48;have HS1_ := cell_kept (hHeld.2.1) hkp yy48;have HS2_ := cell_kept (hHeld.2.2) hkp yy64;refine ⟨_,rfl,?_⟩;have n0_ := Aside0.mk (Kd.N_mono (ok' := fun k_ => (w.heap.size ≤ k_) ∧ some k_ ≠ (.slice (some ad247) t240.length co12 : Value).ownBlock ∧ some k_ ≠ (v249 : Value).ownBlock) (Kd.N_keptB (HO_6.out) hkp (fun k_ hk_ hs_ => (hk_.2) hs_)) (fun k_ hk_ => ⟨hk_.1.1.1,hk_.1.1.2,fun e_ => Or.elim (ho0.1 k_ e_.symm) (fun hs_ => hk_.2.1 hs_) (fun hn_ => Nat.not_le.2 hk_.2.2 hn_)⟩));have n1_ := Aside0.mk (Kd.R_mono (ok' := fun k_ => (w.heap.size ≤ k_) ∧ some k_ ≠ (v249 : Value).ownBlock) (Kd.R_keptB (HO_7.out) hkp (fun k_ hk_ hs_ => (hk_.2) hs_)) (fun k_ hk_ => ⟨hk_.1.1,fun e_ => Or.elim (ho0.1 k_ e_.symm) (fun hs_ => hk_.2.1 hs_) (fun hn_ => Nat.not_le.2 hk_.2.2 hn_)⟩));have n2_ := Aside0.mk (Kd.R_mono (ok' := fun k_ => (w.heap.size ≤ k_) ∧ some k_ ≠ (.slice (some ad247) t240.length co12 : Value).ownBlock) ho0 (fun k_ hk_ => ⟨Or.elim hk_ (fun hs_ => (HO246.out.1 k_ (hs_).symm).1.1) (fun hn_ => (Nat.le_trans (below_size yy1) hn_)),Or.elim hk_ (fun hs_ => fun e_ => (((HO_7.out).1 k_ e_.symm).2) hs_) (fun hn_ => (Kd.fresh' (Kd.R_lt yy35) k_ hn_))⟩));have n3_ := Aside0.mk (hb);clear HO_6 HO_7 HB HO246 HL243_1;have HO_6 := n0_;have HO_7 := n1_;have HO250 := n2_;have HB := n3_;clear n0_ n1_ n2_ n3_;(try clear hb)
             (try clear hkp)
             (try clear ho0)
             obtain ⟨Ao26,co26,eo26⟩ := Kd.R_slice HO250.out;(first | subst eo26 | (injection eo26 with f1_ f2_ f3_; have f4_ := f1_.symm; have f5_ := f3_.symm; clear f1_ f2_ f3_; subst f4_; subst f5_))
             refine hK.out _ _ ⟨HS0_,HS1_,HS2_⟩ (fun hHeld => ?_);clear hK K;refine no_ 40 ?_;refine one_ (i := 18) (N := some 42) b8x19 rfl rfl (one_of HT_.out (by kernel_rfl)) (by decide) (fun K hK => ?_);refine goes_ Try.func66 (by kernel_rfl) rfl #[.slice A0 l0.length c0,.slice Ao26 t248.length co26,.int .i64 a1] (by rfl) rfl rfl yy3 ?_
             with_reducible refine (spec_l26Fits.calls k2 _ _ l0 _ _ t248 a1 true _ ?side1 ?side2 ?side3 ?side4 A19.out).mono ?_
             (case side1 => exact yy4)
             (case side2 => exact HC0.out)
             (case side3 => exact yy121)
             (case side4 => exact (Kd.R_reads' HO250.out).2.1)
             rintro e w27 ⟨rfl,hb⟩;have HS0_ := (hb.cell (World.block_lt_of_cell? _ _ (hHeld.1))).trans (hHeld.1);have HS1_ := (hb.cell (World.block_lt_of_cell? _ _ (hHeld.2.1))).trans (hHeld.2.1);have HS2_ := (hb.cell (World.block_lt_of_cell? _ _ (hHeld.2.2))).trans (hHeld.2.2);refine ⟨_,rfl,?_⟩;have n0_ := Aside0.mk (Kd.N_below yy53 hb);have n1_ := Aside0.mk (Kd.R_below yy35 hb);have n2_ := Aside0.mk (Kd.R_below (by (with_reducible repeat (first | apply Kd.R_alloc | apply Kd.R_drewN | apply Kd.R_drew)); exact HO250.out) hb);have n3_ := Aside0.mk (below_step yy1 hb);clear HO_6 HO_7 HO250 HB;have HO_6 := n0_;have HO_7 := n1_;have HO250 := n2_;have HB := n3_;clear n0_ n1_ n2_ n3_;(try clear hb)
             (try clear hb2)
             (try clear hk)
             (try clear hi)
             refine hK.out _ _ ⟨HS0_,HS1_,HS2_⟩ (fun hHeld => ?_);clear hK K;refine no_ 42 ?_;refine pu_ 19 43 b8x20 ?_;refine pu_ 20 44 b8x21 ?_;refine done_ (done_of HT_.out (by kernel_rfl)) ?_
             try go_wp2
             go_meet
             case rel => exact ⟨_,(x9_2),yy12,H',⟨(by have := HK1.out; have := HK2.out; first | omega | exact Nat.le_refl _)⟩,⟨(by (with_reducible repeat (first | apply Kd.N_alloc | apply Kd.N_drewN | apply Kd.N_drew)); exact Kd.N_mono HO_6.out (fun _ hk => ⟨hk.1,hk.2.1⟩))⟩,⟨(by (with_reducible repeat (first | apply Kd.R_alloc | apply Kd.R_drewN | apply Kd.R_drew)); exact Kd.R_mono HO_7.out (fun _ hk => hk.1))⟩,⟨yy1⟩⟩
            ·replace c20 := Bool.eq_false_iff.mpr c20;subst c20;have H1 : (spec_PackArchive.l1 k2 l0 a1 x6_1 t240 x8_1 (wrap64 (x9_2 + 1))) = some (r1,r2) := by rw [if_neg (show ¬ (false = true) by decide)] at H; exact H
             clear H;have H := H1;clear H1;have H' := Aside0.mk H;clear H
             try go_wp2
             have n0_ := Aside0.mk (Kd.N_drew HO_6.out);have n1_ := Aside0.mk (Kd.R_drew HO_7.out);have n2_ := Aside0.mk (below_drew1 HB.out);clear HO_6 HO_7 HB;have HO_6 := n0_;have HO_7 := n1_;have HB := n2_;clear n0_ n1_ n2_;obtain ⟨Ao29,co29,eo29⟩ := Kd.N_slice HO_6.out;(first | subst eo29 | (injection eo29 with f1_ f2_ f3_; have f4_ := f1_.symm; have f5_ := f3_.symm; clear f1_ f2_ f3_; subst f4_; subst f5_))
             have p243 : 0 ≤ (x9_2 : Int) := of_decide_eq_true yy2;have q243 : x9_2 < (x6_1.length : Int) := of_decide_eq_true yy2;obtain ⟨ad243,A243_1,c243_1,e243,hx243_0,hx243_1,hl243_1,hi243_1⟩ := at_T62 (Kd.N_reads' HO_6.out).2.2 x9_2 p243 q243;cases e243;obtain ⟨ce243,hce243,hMe243,hcc243⟩ := Kd.N_get HO_6.out z62 x9_2 p243 (by first | exact q243 | exact of_decide_eq_true yy2 | (have e_ := (Kd.N_reads' HO_6.out).1; omega));obtain ⟨ua243_1,uc243_1,rfl,ul243_1,ge243_1⟩ := k62_openF hMe243;have hv243_1 := hcc243 1 _ rfl;rw [add_field _ _ 1 (by omega)] at hv243_1;replace hv243_1 := Option.some.inj (hv243_1.symm.trans hx243_1);injection hv243_1 with hva_ hvn_ hvc_
             rw [hva_] at ge243_1;rw [hvc_] at ul243_1;have HL243_1 := Aside0.mk (show Kd.V (Kd.int .i64) 3 _ w.heap.size _ _ ((rd_T62 x6_1 x9_2).f1) from Kd.V_mk ul243_1 ge243_1);clear hva_ hvn_ hvc_ ge243_1 ul243_1 hcc243 hce243;have HR243_1 := Aside0.mk hi243_1;have HC243_1 := Aside0.mk hl243_1;clear hi243_1 hl243_1;replace p243 := eq_true p243;replace q243 := eq_true q243;have p247 : 0 ≤ (x8_1 : Int) := of_decide_eq_true yy2;have q247 : x8_1 < (t240.length : Int) := of_decide_eq_true yy2;obtain ⟨ad247,e247,hx247_0⟩ := Kd.at_int (Kd.R_reads' HO_7.out).2.2 x8_1 p247 q247;cases e247;replace p247 := eq_true p247;replace q247 := eq_true q247;refine start_ (n := 21) (S := fun w' => w'.cell? (ad243.add ((x9_2).toNat * 2)) = some (.int .i64 ((rd_T62 x6_1 x9_2).f0)) ∧ w'.cell? ⟨(ad243.add ((x9_2).toNat * 2)).block,(ad243.add ((x9_2).toNat * 2)).off + 1,none⟩ = some (.slice A243_1 ((rd_T62 x6_1 x9_2).f1).length c243_1) ∧ w'.cell? (ad247.add (x8_1).toNat) = some (.int .i64 (rd t240 x8_1))) (ds := []) b8x0 (by kernel_rfl) rfl rfl ⟨hx243_0,hx243_1,hx247_0⟩ (fun hHeld => ?_); refine with_tabW spec_PackArchive.tab9 spec_PackArchive.bits9 (fun HT_ HW_ => ?_);generalize wr.drew = w28 at HO_6 HO_7 HB HL243_1 HR243_1 hx243_0 hx243_1 hx247_0 hHeld ⊢;refine pu_ 0 24 b8x1 ?_;refine pu_ 1 25 b8x2 ?_;refine pu_ 2 26 b8x3 ?_;refine pu_ 3 27 b8x4 ?_;refine pu_ 4 28 b8x5 ?_;refine pu_ 5 29 b8x6 ?_;refine pu_ 6 30 b8x7 ?_;refine pu_ 7 31 b8x8 ?_;refine pu_ 8 32 b8x9 ?_;refine pu_ 9 33 b8x10 ?_;refine pu_ 12 36 b8x11 ?_;refine pu_ 13 37 b8x12 ?_;refine pu_ 14 38 b8x13 ?_;refine pu_ 17 41 b8x14 ?_;refine t3_ 10 34 b8x15 hHeld ?_;refine t3_ 15 39 b8x16 hHeld ?_;refine one_ (i := 11) (N := some 35) b8x17 rfl rfl (one_of HT_.out (by kernel_rfl)) (by decide) (fun K hK => ?_);refine goes_ Try.func67 (by kernel_rfl) rfl #[.slice A243_1 ((rd_T62 x6_1 x9_2).f1).length c243_1] (by rfl) rfl rfl yy3 ?_
             with_reducible refine (spec_l1Own.calls _ _ ((rd_T62 x6_1 x9_2).f1) t244 _ ?side1 ?side2 A15.out).mono ?_
             (case side1 => repeat (first | exact yy77 | (with_reducible refine Kd.C_alloc ?_ _) | (with_reducible refine Kd.C_drewN ?_ _) | (with_reducible refine Kd.C_drew ?_)))
             (case side2 => exact HC243_1.out)
             rintro e w30 ⟨v245,rfl,ho0,hb⟩;have HS0_ := (hb.cell (World.block_lt_of_cell? _ _ (hHeld.1))).trans (hHeld.1);have HS1_ := (hb.cell (World.block_lt_of_cell? _ _ (hHeld.2.1))).trans (hHeld.2.1);have HS2_ := (hb.cell (World.block_lt_of_cell? _ _ (hHeld.2.2))).trans (hHeld.2.2);refine ⟨_,rfl,?_⟩;have n0_ := Aside0.mk (Kd.N_elder' yy53 (Kd.R_base ho0) hb);have n1_ := Aside0.mk (Kd.R_elder' yy35 (Kd.R_base ho0) hb);have n2_ := Aside0.mk (Kd.V_elder' (by (with_reducible repeat (first | apply Kd.V_alloc | apply Kd.V_drewN | apply Kd.V_drew)); exact HL243_1.out) (Kd.R_base ho0) hb);have n3_ := Aside0.mk (Kd.R_lower (Kd.R_new' (Kd.R_newM (M := fun k_ => (w.heap.size ≤ k_)) ho0 (below_size yy1) (fun k_ h_ => h_)) (Kd.R_lt yy35)) (below_size yy1));have n4_ := Aside0.mk (Kd.C_below yy77 hb);have n5_ := Aside0.mk (below_step yy1 hb);clear HO_6 HO_7 HL243_1 HR243_1 HB;have HO_6 := n0_;have HO_7 := n1_;have HL243_1 := n2_;have HO246 := n3_;have HR243_1 := n4_;have HB := n5_;clear n0_ n1_ n2_ n3_ n4_ n5_;(try clear hb)
             (try clear hb2)
             (try clear hk)
             (try clear hi)
             (try clear ho0)
             obtain ⟨Ao31,co31,eo31⟩ := Kd.R_slice HO246.out;(first | subst eo31 | (injection eo31 with f1_ f2_ f3_; have f4_ := f1_.symm; have f5_ := f3_.symm; clear f1_ f2_ f3_; subst f4_; subst f5_))
             refine hK.out _ _ ⟨HS0_,HS1_,HS2_⟩ (fun hHeld => ?_);clear hK K;refine no_ 35 ?_;refine one_ (i := 16) (N := some 40) b8x18 rfl rfl (one_of HT_.out (by kernel_rfl)) (by decide) (fun K hK => ?_);refine goes_ Try.func35 (by kernel_rfl) rfl #[.slice Ao31 t244.length co31,.int .i64 (rd t240 x8_1)] (by rfl) rfl rfl yy3 ?_
             with_reducible refine (spec_l1Put.calls k2 (fun k_ => some k_ = (.slice Ao31 t244.length co31 : Value).ownBlock) (.slice Ao31 t244.length co31) t244 (rd t240 x8_1) t248 w _ ?side1 ?side2 A18.out).mono ?_
             (case side1 => exact yy1)
             (case side2 => exact Kd.R_tight rfl HO246.out)
             rintro e w32 ⟨v249,rfl,ho0,hb,hkp⟩;have HS0_ := cell_kept (hHeld.1) hkp yy48;have HS1_ := cell_kept (hHeld.2.1) hkp yy48;have HS2_ := cell_kept (hHeld.2.2) hkp yy64;refine ⟨_,rfl,?_⟩;have n0_ := Aside0.mk (Kd.N_mono (ok' := fun k_ => (w.heap.size ≤ k_) ∧ some k_ ≠ (.slice (some ad247) t240.length co12 : Value).ownBlock ∧ some k_ ≠ (v249 : Value).ownBlock) (Kd.N_keptB (HO_6.out) hkp (fun k_ hk_ hs_ => (hk_.2) hs_)) (fun k_ hk_ => ⟨hk_.1.1.1,hk_.1.1.2,fun e_ => Or.elim (ho0.1 k_ e_.symm) (fun hs_ => hk_.2.1 hs_) (fun hn_ => Nat.not_le.2 hk_.2.2 hn_)⟩));have n1_ := Aside0.mk (Kd.R_mono (ok' := fun k_ => (w.heap.size ≤ k_) ∧ some k_ ≠ (v249 : Value).ownBlock) (Kd.R_keptB (HO_7.out) hkp (fun k_ hk_ hs_ => (hk_.2) hs_)) (fun k_ hk_ => ⟨hk_.1.1,fun e_ => Or.elim (ho0.1 k_ e_.symm) (fun hs_ => hk_.2.1 hs_) (fun hn_ => Nat.not_le.2 hk_.2.2 hn_)⟩));have n2_ := Aside0.mk (Kd.R_mono (ok' := fun k_ => (w.heap.size ≤ k_) ∧ some k_ ≠ (.slice (some ad247) t240.length co12 : Value).ownBlock) ho0 (fun k_ hk_ => ⟨Or.elim hk_ (fun hs_ => (HO246.out.1 k_ (hs_).symm).1.1) (fun hn_ => (Nat.le_trans (below_size yy1) hn_)),Or.elim hk_ (fun hs_ => fun e_ => (((HO_7.out).1 k_ e_.symm).2) hs_) (fun hn_ => (Kd.fresh' (Kd.R_lt yy35) k_ hn_))⟩));have n3_ := Aside0.mk (hb);clear HO_6 HO_7 HB HO246 HL243_1;have HO_6 := n0_;have HO_7 := n1_;have HO250 := n2_;have HB := n3_;clear n0_ n1_ n2_ n3_;(try clear hb)
             (try clear hkp)
             (try clear ho0)
             obtain ⟨Ao33,co33,eo33⟩ := Kd.R_slice HO250.out;(first | subst eo33 | (injection eo33 with f1_ f2_ f3_; have f4_ := f1_.symm; have f5_ := f3_.symm; clear f1_ f2_ f3_; subst f4_; subst f5_))
             refine hK.out _ _ ⟨HS0_,HS1_,HS2_⟩ (fun hHeld => ?_);clear hK K;refine no_ 40 ?_;refine one_ (i := 18) (N := some 42) b8x19 rfl rfl (one_of HT_.out (by kernel_rfl)) (by decide) (fun K hK => ?_);refine goes_ Try.func66 (by kernel_rfl) rfl #[.slice A0 l0.length c0,.slice Ao33 t248.length co33,.int .i64 a1] (by rfl) rfl rfl yy3 ?_
             with_reducible refine (spec_l26Fits.calls k2 _ _ l0 _ _ t248 a1 false _ ?side1 ?side2 ?side3 ?side4 A19.out).mono ?_
             (case side1 => exact yy4)
             (case side2 => exact HC0.out)
             (case side3 => exact yy121)
             (case side4 => exact (Kd.R_reads' HO250.out).2.1)
             rintro e w34 ⟨rfl,hb⟩;have HS0_ := (hb.cell (World.block_lt_of_cell? _ _ (hHeld.1))).trans (hHeld.1);have HS1_ := (hb.cell (World.block_lt_of_cell? _ _ (hHeld.2.1))).trans (hHeld.2.1);have HS2_ := (hb.cell (World.block_lt_of_cell? _ _ (hHeld.2.2))).trans (hHeld.2.2);refine ⟨_,rfl,?_⟩;have n0_ := Aside0.mk (Kd.N_below yy53 hb);have n1_ := Aside0.mk (Kd.R_below yy35 hb);have n2_ := Aside0.mk (Kd.R_below (by (with_reducible repeat (first | apply Kd.R_alloc | apply Kd.R_drewN | apply Kd.R_drew)); exact HO250.out) hb);have n3_ := Aside0.mk (below_step yy1 hb);clear HO_6 HO_7 HO250 HB;have HO_6 := n0_;have HO_7 := n1_;have HO250 := n2_;have HB := n3_;clear n0_ n1_ n2_ n3_;(try clear hb)
             (try clear hb2)
             (try clear hk)
             (try clear hi)
             refine hK.out _ _ ⟨HS0_,HS1_,HS2_⟩ (fun hHeld => ?_);clear hK K;refine no_ 42 ?_;refine pu_ 19 43 b8x20 ?_;refine pu_ 20 44 b8x21 ?_;refine done_ (done_of HT_.out (by kernel_rfl)) ?_
             try go_wp2
             go_roundg k2
             case measure => have := HK1.out; have := HK2.out; omega
             case rel => exact ⟨(wrap64 (x9_2 + 1)),yy12,H',⟨yy106⟩,⟨(by (with_reducible repeat (first | apply Kd.N_alloc | apply Kd.N_drewN | apply Kd.N_drew)); exact Kd.N_mono HO_6.out (fun _ hk => ⟨hk.1,hk.2.1⟩))⟩,⟨(by (with_reducible repeat (first | apply Kd.R_alloc | apply Kd.R_drewN | apply Kd.R_drew)); exact Kd.R_mono HO_7.out (fun _ hk => hk.1))⟩,⟨yy1⟩⟩
           ·rw [if_neg c17] at H;exact absurd H (by simp)
          ·rw [if_neg c16] at H;exact absurd H (by simp)
         ·rw [if_neg c14] at H;exact absurd H (by simp)
        ·rw [if_neg c13] at H;have c13b0 : decide (x9_2 < (x6_1.length : Int)) = false := decide_eq_false c13;clear c13;(first | rw [c13b0] | (simp only [i64_w,i32_w]; rw [c13b0]) | skip)
         have H' := Aside0.mk H;clear H
         try go_wp2
         have n0_ := Aside0.mk (Kd.N_drew HO_6.out);have n1_ := Aside0.mk (Kd.R_drew HO_7.out);have n2_ := Aside0.mk (below_drew1 HB.out);clear HO_6 HO_7 HB;have HO_6 := n0_;have HO_7 := n1_;have HB := n2_;clear n0_ n1_ n2_;obtain ⟨Ao36,co36,eo36⟩ := Kd.N_slice HO_6.out;(first | subst eo36 | (injection eo36 with f1_ f2_ f3_; have f4_ := f1_.symm; have f5_ := f3_.symm; clear f1_ f2_ f3_; subst f4_; subst f5_))
         refine start_ (n := 21) (S := fun w' => True) (ds := []) b8x0 (by kernel_rfl) rfl rfl trivial (fun hHeld => ?_); refine with_tabW spec_PackArchive.tab9 spec_PackArchive.bits9 (fun HT_ HW_ => ?_);generalize wr.drew = w35 at HO_6 HO_7 HB hHeld ⊢;refine pu_ 0 24 b8x1 ?_;refine pu_ 1 25 b8x2 ?_;refine pu_ 2 26 b8x3 ?_;refine pu_ 3 27 b8x4 ?_;refine pu_ 4 28 b8x5 ?_;refine pn_ 5 29 b8x6 ?_;refine pn_ 6 30 b8x7 ?_;refine pn_ 7 31 b8x8 ?_;refine pn_ 8 32 b8x9 ?_;refine pn_ 9 33 b8x10 ?_;refine pn_ 10 34 #[true,true,true,true,true,true,true,true,true,true,true,false,false,false,false,false,false,false,false,false,false] ?_;refine pn_ 11 35 #[true,true,true,true,true,true,true,true,true,true,true,true,false,false,false,false,false,false,false,false,false] ?_;refine pn_ 12 36 #[true,true,true,true,true,true,true,true,true,true,true,true,true,false,false,false,false,false,false,false,false] ?_;refine pn_ 13 37 #[true,true,true,true,true,true,true,true,true,true,true,true,true,true,false,false,false,false,false,false,false] ?_;refine pn_ 14 38 #[true,true,true,true,true,true,true,true,true,true,true,true,true,true,true,false,false,false,false,false,false] ?_;refine pn_ 15 39 #[true,true,true,true,true,true,true,true,true,true,true,true,true,true,true,true,false,false,false,false,false] ?_;refine pn_ 16 40 #[true,true,true,true,true,true,true,true,true,true,true,true,true,true,true,true,true,false,false,false,false] ?_;refine pn_ 17 41 b8x18 ?_;refine pn_ 18 42 b8x19 ?_;refine pn_ 19 43 b8x20 ?_;refine pu_ 20 44 b8x21 ?_;refine done_ (done_of HT_.out (by kernel_rfl)) ?_
         try go_wp2
         go_meet
         case rel => exact ⟨_,(x9_2),yy12,H',⟨(by have := HK1.out; have := HK2.out; first | omega | exact Nat.le_refl _)⟩,⟨yy53⟩,⟨yy35⟩,⟨yy1⟩⟩
     case rest =>
      clear HC11
      try clear c1
      try clear c2
      try clear p2
      try clear q2
      try clear hx2
      try clear c3
      try clear c6
      try clear p6
      try clear c13
      try clear c13b0
      try clear c14
      try clear c16
      try clear c17
      try clear c20
      try clear c24
      try clear p24
      try clear q24
      try clear hx24
      try clear c35
      try clear hx243_0
      try clear hx243_1
      try clear hx247_0
      try clear p243
      try clear p247
      try clear q243
      try clear q247
      obtain ⟨kq,x9_10,rfl,HA,HJ10,HO_6,HO_7,HB⟩ := hcut;cases kq with
      | zero => exact absurd HA.out (by simp [spec_PackArchive.j2])
      | succ kj10 =>
       have H := HA.out;clear HA;simp only [spec_PackArchive.j2] at H;by_cases c37 : x9_10 = (x6_1.length : Int)
       ·rw [if_pos c37] at H;have c37b0 : (x9_10 == (x6_1.length : Int)) = true := beq_iff_eq.mpr c37;have c37b1 : (x9_10 != (x6_1.length : Int)) = false := bne_eq_false_iff_eq.mpr c37;clear c37;by_cases c38 : x6_1.length < 4398046511104
        ·rw [if_pos c38] at H;have LMc38 := Aside0.mk c38;clear c38;obtain ⟨y252,hy252⟩ : ∃ y_ : List (S62),y_ = (x6_1 ++ [(⟨wrap64 (x9_10 + 1),([] : List Int)⟩ : S62)]) := ⟨_,rfl⟩
         replace H : (if 0 ≤ x9_10 then (if x9_10 < (y252.length : Int) then ((spec_l1Own.f ((rd_T62 y252 x9_10).f1)).bind fun t256 => (if 0 ≤ x8_1 then (if x8_1 < (t240.length : Int) then ((spec_l1Put.f kj10 t256 (rd t240 x8_1)).bind fun t260 => (spec_PackArchive.l0 kj10 l0 a1 (y252.set (x9_10 : Int).toNat (⟨wrap64 (x9_10 + 1),t260⟩ : S62)) t240 (wrap64 (x8_1 + 1)))) else (none)) else (none))) else (none)) else (none)) = some (r1,r2) := by first | (rw [hy252]; with_reducible exact H) | (have H2_ := (Option.bind_some _ _).symm.trans H; rw [hy252]; with_reducible exact H2_) | (have H2_ := (Option.bind_some _ _).symm.trans H; with_reducible exact H2_) | with_reducible exact H | (rw [hy252]; exact H) | exact H
         have Ny252 := Aside0.mk hy252;clear hy252;by_cases c39 : 0 ≤ x9_10
         ·rw [if_pos c39] at H;have c39b0 : decide (0 ≤ x9_10) = true := decide_eq_true c39;clear c39;by_cases c40 : x9_10 < (y252.length : Int)
          ·rw [if_pos c40] at H;have c40b0 : decide (x9_10 < (y252.length : Int)) = true := decide_eq_true c40;clear c40;replace H := Option.bind_eq_some_iff.mp H;obtain ⟨t256,A410,H⟩ := H;replace H : (if 0 ≤ x8_1 then (if x8_1 < (t240.length : Int) then ((spec_l1Put.f kj10 t256 (rd t240 x8_1)).bind fun t260 => (spec_PackArchive.l0 kj10 l0 a1 (y252.set (x9_10 : Int).toNat (⟨wrap64 (x9_10 + 1),t260⟩ : S62)) t240 (wrap64 (x8_1 + 1)))) else (none)) else (none)) = some (r1,r2) := H;have A41 := Aside0.mk A410;clear A410;by_cases c42 : 0 ≤ x8_1
           ·rw [if_pos c42] at H;have c42b0 : decide (0 ≤ x8_1) = true := decide_eq_true c42;clear c42;by_cases c43 : x8_1 < (t240.length : Int)
            ·rw [if_pos c43] at H;have c43b0 : decide (x8_1 < (t240.length : Int)) = true := decide_eq_true c43;clear c43;replace H := Option.bind_eq_some_iff.mp H;obtain ⟨t260,A440,H⟩ := H;replace H : (spec_PackArchive.l0 kj10 l0 a1 (y252.set (x9_10 : Int).toNat (⟨wrap64 (x9_10 + 1),t260⟩ : S62)) t240 (wrap64 (x8_1 + 1))) = some (r1,r2) := H;have A44 := Aside0.mk A440;clear A440;obtain ⟨y263,hy263⟩ : ∃ y_ : List (S62),y_ = (y252.set (x9_10 : Int).toNat (⟨wrap64 (x9_10 + 1),t260⟩ : S62)) := ⟨_,rfl⟩
             replace H : (spec_PackArchive.l0 kj10 l0 a1 y263 t240 (wrap64 (x8_1 + 1))) = some (r1,r2) := by first | (rw [hy263]; with_reducible exact H) | (have H2_ := (Option.bind_some _ _).symm.trans H; rw [hy263]; with_reducible exact H2_) | (have H2_ := (Option.bind_some _ _).symm.trans H; with_reducible exact H2_) | with_reducible exact H | (rw [hy263]; exact H) | exact H
             have Ny263 := Aside0.mk hy263;clear hy263;have H' := Aside0.mk H;clear H;obtain ⟨Ao46,co46,eo46⟩ := Kd.N_slice HO_6.out;subst eo46
             try go_wp2_with (first | ((with_reducible refine gate_builtin (b := .append) (xs := #[.tmp 51,.tmp 55]) rfl ?_); at_builtin; refine Kd.N_append k62 (w0 := w) w.heap.size rfl (.tmp 51) (.tmp 55) 31 62 (.agg #[(.int .i64 0),(.slice none 0 0)]) 32 rfl Try.underlying31 info62 rfl (by decide) (by omega) (.slice Ao46 x6_1.length co46) x6_1 (⟨wrap64 (x9_10 + 1),([] : List Int)⟩ : S62) [.int .i64 (wrap64 (x9_10 + 1)),.slice none 0 0] (fun k_ => (w.heap.size ≤ k_) ∧ some k_ ≠ (.slice Ao12 t240.length co12 : Value).ownBlock) (fun k_ => ((fun k_ => (w.heap.size ≤ k_) ∧ some k_ ≠ (.slice Ao12 t240.length co12 : Value).ownBlock)) k_ ∧ some k_ ≠ (.slice Ao46 x6_1.length co46 : Value).ownBlock) rfl rfl ?aP (fun _ hk => hk) ?aF ?aO ?aB ?aS ?aL ?_; (case aP => exact (k62_mkF _ _ (⟨wrap64 (x9_10 + 1),([] : List Int)⟩ : S62) (Nat.le_refl _) (Kd.F_nil _ _ _))); (case aB => exact yy1); (case aF => exact (fun k_ hk => ⟨(Nat.le_trans (below_size yy1) hk),Kd.fresh' (Kd.R_lt yy35) k_ hk⟩)); (case aO => exact yy53); (case aS => exact (below_size yy1)); (case aL => have := LMc38.out; omega); intro v253 w47 ho hb hg hat; rw [← Ny252.out] at ho; have n0_ := Aside0.mk (Kd.R_over' yy35 (Kd.N_typed yy53) (by decide) hg); have n1_ := Aside0.mk (hb); have n2_ := Aside0.mk (ho); clear HO_7; clear HB; clear HO_6; have HO_7 := n0_; have HB := n1_; have HO254 := n2_; clear n0_ n1_ n2_; clear ho hb hg hat))
             have n0_ := Aside0.mk (Kd.R_drew HO_7.out);have n1_ := Aside0.mk (Kd.N_drew HO254.out);have n2_ := Aside0.mk (below_drew1 HB.out);clear HO_7 HO254 HB;have HO_7 := n0_;have HO254 := n1_;have HB := n2_;clear n0_ n1_ n2_;obtain ⟨Ao49,co49,eo49⟩ := Kd.N_slice HO254.out;(first | subst eo49 | (injection eo49 with f1_ f2_ f3_; have f4_ := f1_.symm; have f5_ := f3_.symm; clear f1_ f2_ f3_; subst f4_; subst f5_))
             have p255 : 0 ≤ (x9_10 : Int) := of_decide_eq_true yy2;have q255 : x9_10 < (y252.length : Int) := of_decide_eq_true yy2;obtain ⟨ad255,A255_1,c255_1,e255,hx255_0,hx255_1,hl255_1,hi255_1⟩ := at_T62 (Kd.N_reads' HO254.out).2.2 x9_10 p255 q255;cases e255;obtain ⟨ce255,hce255,hMe255,hcc255⟩ := Kd.N_get HO254.out z62 x9_10 p255 (by first | exact q255 | exact of_decide_eq_true yy2 | (have e_ := (Kd.N_reads' HO254.out).1; omega));obtain ⟨ua255_1,uc255_1,rfl,ul255_1,ge255_1⟩ := k62_openF hMe255;have hv255_1 := hcc255 1 _ rfl;rw [add_field _ _ 1 (by omega)] at hv255_1;replace hv255_1 := Option.some.inj (hv255_1.symm.trans hx255_1);injection hv255_1 with hva_ hvn_ hvc_
             rw [hva_] at ge255_1;rw [hvc_] at ul255_1;have HL255_1 := Aside0.mk (show Kd.V (Kd.int .i64) 3 _ w.heap.size _ _ ((rd_T62 y252 x9_10).f1) from Kd.V_mk ul255_1 ge255_1);clear hva_ hvn_ hvc_ ge255_1 ul255_1 hcc255 hce255;have HR255_1 := Aside0.mk hi255_1;have HC255_1 := Aside0.mk hl255_1;clear hi255_1 hl255_1;replace p255 := eq_true p255;replace q255 := eq_true q255;have p259 : 0 ≤ (x8_1 : Int) := of_decide_eq_true yy2;have q259 : x8_1 < (t240.length : Int) := of_decide_eq_true yy2;obtain ⟨ad259,e259,hx259_0⟩ := Kd.at_int (Kd.R_reads' HO_7.out).2.2 x8_1 p259 q259;cases e259;replace p259 := eq_true p259;replace q259 := eq_true q259;refine start_ (n := 18) (S := fun w' => w'.cell? (ad255.add ((x9_10).toNat * 2)) = some (.int .i64 ((rd_T62 y252 x9_10).f0)) ∧ w'.cell? ⟨(ad255.add ((x9_10).toNat * 2)).block,(ad255.add ((x9_10).toNat * 2)).off + 1,none⟩ = some (.slice A255_1 ((rd_T62 y252 x9_10).f1).length c255_1) ∧ w'.cell? (ad259.add (x8_1).toNat) = some (.int .i64 (rd t240 x8_1))) (ds := [17]) b8x22 (by kernel_rfl) rfl rfl ⟨hx255_0,hx255_1,hx259_0⟩ (fun hHeld => ?_); refine with_tabW spec_PackArchive.tab13 spec_PackArchive.bits13 (fun HT_ HW_ => ?_);generalize w47.drew = w48 at HO_7 HO254 HB HL255_1 HR255_1 hx255_0 hx255_1 hx259_0 hHeld ⊢;refine pu_ 0 57 b8x23 ?_;refine pu_ 1 58 b8x24 ?_;refine pu_ 2 59 b8x25 ?_;refine pu_ 3 60 b8x26 ?_;refine pu_ 4 61 b8x27 ?_;refine pu_ 5 62 b8x28 ?_;refine pu_ 6 63 b8x29 ?_;refine pu_ 7 64 b8x30 ?_;refine pu_ 10 67 b8x31 ?_;refine pu_ 11 68 b8x32 ?_;refine pu_ 12 69 b8x33 ?_;refine t3_ 8 65 b8x34 hHeld ?_;refine t3_ 13 70 b8x35 hHeld ?_;refine one_ (i := 9) (N := some 66) b8x36 rfl rfl (one_of HT_.out (by kernel_rfl)) (by decide) (fun K hK => ?_);refine goes_ Try.func67 (by kernel_rfl) rfl #[.slice A255_1 ((rd_T62 y252 x9_10).f1).length c255_1] (by rfl) rfl rfl yy3 ?_
             with_reducible refine (spec_l1Own.calls _ _ ((rd_T62 y252 x9_10).f1) t256 _ ?side1 ?side2 A41.out).mono ?_
             (case side1 => repeat (first | exact yy112 | (with_reducible refine Kd.C_alloc ?_ _) | (with_reducible refine Kd.C_drewN ?_ _) | (with_reducible refine Kd.C_drew ?_)))
             (case side2 => exact HC255_1.out)
             rintro e w50 ⟨v257,rfl,ho0,hb⟩;have HS0_ := (hb.cell (World.block_lt_of_cell? _ _ (hHeld.1))).trans (hHeld.1);have HS1_ := (hb.cell (World.block_lt_of_cell? _ _ (hHeld.2.1))).trans (hHeld.2.1);have HS2_ := (hb.cell (World.block_lt_of_cell? _ _ (hHeld.2.2))).trans (hHeld.2.2);refine ⟨_,rfl,?_⟩;have n0_ := Aside0.mk (Kd.R_elder' yy35 (Kd.R_base ho0) hb);have n1_ := Aside0.mk (Kd.N_elder' (by (with_reducible repeat (first | apply Kd.N_alloc | apply Kd.N_drewN | apply Kd.N_drew)); exact HO254.out) (Kd.R_base ho0) hb);have n2_ := Aside0.mk (Kd.V_elder' (by (with_reducible repeat (first | apply Kd.V_alloc | apply Kd.V_drewN | apply Kd.V_drew)); exact HL255_1.out) (Kd.R_base ho0) hb);have n3_ := Aside0.mk (Kd.R_lower (Kd.R_new' (Kd.R_newM (M := fun k_ => (w.heap.size ≤ k_)) ho0 (below_size yy1) (fun k_ h_ => h_)) (Kd.R_lt yy35)) (below_size yy1));have n4_ := Aside0.mk (Kd.C_below yy112 hb);have n5_ := Aside0.mk (below_step yy1 hb);clear HO_7 HO254 HL255_1 HR255_1 HB;have HO_7 := n0_;have HO254 := n1_;have HL255_1 := n2_;have HO258 := n3_;have HR255_1 := n4_;have HB := n5_;clear n0_ n1_ n2_ n3_ n4_ n5_;(try clear hb)
             (try clear hb2)
             (try clear hk)
             (try clear hi)
             (try clear ho0)
             obtain ⟨Ao51,co51,eo51⟩ := Kd.R_slice HO258.out;(first | subst eo51 | (injection eo51 with f1_ f2_ f3_; have f4_ := f1_.symm; have f5_ := f3_.symm; clear f1_ f2_ f3_; subst f4_; subst f5_))
             refine hK.out _ _ ⟨HS0_,HS1_,HS2_⟩ (fun hHeld => ?_);clear hK K;refine no_ 66 ?_;refine one_ (i := 14) (N := some 71) b8x37 rfl rfl (one_of HT_.out (by kernel_rfl)) (by decide) (fun K hK => ?_);refine goes_ Try.func35 (by kernel_rfl) rfl #[.slice Ao51 t256.length co51,.int .i64 (rd t240 x8_1)] (by rfl) rfl rfl yy3 ?_
             with_reducible refine (spec_l1Put.calls kj10 (fun k_ => some k_ = (.slice Ao51 t256.length co51 : Value).ownBlock) (.slice Ao51 t256.length co51) t256 (rd t240 x8_1) t260 w _ ?side1 ?side2 A44.out).mono ?_
             (case side1 => exact yy1)
             (case side2 => exact Kd.R_tight rfl HO258.out)
             rintro e w52 ⟨v261,rfl,ho0,hb,hkp⟩;have HS0_ := cell_kept (hHeld.1) hkp yy108;have HS1_ := cell_kept (hHeld.2.1) hkp yy108;have HS2_ := cell_kept (hHeld.2.2) hkp yy64;refine ⟨_,rfl,?_⟩;have n0_ := Aside0.mk (Kd.R_mono (ok' := fun k_ => (w.heap.size ≤ k_) ∧ some k_ ≠ (v261 : Value).ownBlock) (Kd.R_keptB (HO_7.out) hkp (fun k_ hk_ hs_ => (hk_.2) hs_)) (fun k_ hk_ => ⟨hk_.1.1,fun e_ => Or.elim (ho0.1 k_ e_.symm) (fun hs_ => hk_.2.1 hs_) (fun hn_ => Nat.not_le.2 hk_.2.2 hn_)⟩));have n1_ := Aside0.mk (Kd.N_mono (ok' := fun k_ => (w.heap.size ≤ k_) ∧ some k_ ≠ (.slice (some ad259) t240.length co12 : Value).ownBlock ∧ some k_ ≠ (v261 : Value).ownBlock) (Kd.N_keptB (HO254.out) hkp (fun k_ hk_ hs_ => (hk_.2) hs_)) (fun k_ hk_ => ⟨hk_.1.1.1,hk_.1.1.2,fun e_ => Or.elim (ho0.1 k_ e_.symm) (fun hs_ => hk_.2.1 hs_) (fun hn_ => Nat.not_le.2 hk_.2.2 hn_)⟩));have n2_ := Aside0.mk (Kd.R_mono (ok' := fun k_ => (w.heap.size ≤ k_) ∧ some k_ ≠ (.slice (some ad259) t240.length co12 : Value).ownBlock) ho0 (fun k_ hk_ => ⟨Or.elim hk_ (fun hs_ => (HO258.out.1 k_ (hs_).symm).1.1) (fun hn_ => (Nat.le_trans (below_size yy1) hn_)),Or.elim hk_ (fun hs_ => fun e_ => (((HO_7.out).1 k_ e_.symm).2) hs_) (fun hn_ => (Kd.fresh' (Kd.R_lt yy35) k_ hn_))⟩));have n3_ := Aside0.mk (hb);clear HO_7 HO254 HB HO258 HL255_1;have HO_7 := n0_;have HO254 := n1_;have HO262 := n2_;have HB := n3_;clear n0_ n1_ n2_ n3_;(try clear hb)
             (try clear hkp)
             (try clear ho0)
             obtain ⟨Ao53,co53,eo53⟩ := Kd.R_slice HO262.out;(first | subst eo53 | (injection eo53 with f1_ f2_ f3_; have f4_ := f1_.symm; have f5_ := f3_.symm; clear f1_ f2_ f3_; subst f4_; subst f5_))
             have p45 : 0 ≤ (x9_10 : Int) := of_decide_eq_true yy2;have q45 : (x9_10 : Int) < ((y252.length : Int) : Int) := of_decide_eq_true yy2;obtain ⟨go45,co45,eo45,gb45,gl45,cl45,HG45⟩ := Kd.N_form HO254.out (by omega);(first | cases eo45 | (injection eo45 with ea_ en_ ec_; (first | subst ea_ | (injection ea_ with ea_; subst ea_)); subst ec_; clear en_))
             have GB45 := Aside0.mk gb45;have GG45 := Aside0.mk HG45;clear gb45 gl45 HG45;(first | simp only [add_plain] at hx255_0 | skip)
             (first | simp only [add_plain] at hx255_1 | skip)
             obtain ⟨ce45,hcl45,hM45,hcc45,hfr45⟩ := Kd.N_elem HO254.out z62 (x9_10 : Int) p45 q45;obtain ⟨ua45_1,uc45_1,rfl,ul45_1,ge45_1⟩ := k62_openF hM45;have hx45_0 : World.cell? _ ⟨go45,(x9_10 : Int).toNat * 2,none⟩ = some (.int .i64 ((rd_T62 y252 x9_10).f0)) := hcc45 0 _ rfl;have hx45_1 : World.cell? _ ⟨go45,(x9_10 : Int).toNat * 2 + 1,none⟩ = some (.slice ua45_1 ((rd_T62 y252 x9_10).f1).length uc45_1) := hcc45 1 _ rfl;have hf45_0 : World.frozen? _ ⟨go45,(x9_10 : Int).toNat * 2,none⟩ = false := hfr45 0;have hf45_1 : World.frozen? _ ⟨go45,(x9_10 : Int).toNat * 2 + 1,none⟩ = false := hfr45 1;clear hcl45 hcc45 hfr45 hM45;replace p45 := eq_true p45;replace q45 := eq_true q45;have HX54 := Aside0.mk (show Kd.N k62 62 _ w.heap.size (fun k_ => (w.heap.size ≤ k_) ∧ some k_ ≠ (.slice (some ad259) t240.length co12 : Value).ownBlock ∧ some k_ ≠ (.slice Ao53 t260.length co53 : Value).ownBlock) (.slice (some ⟨go45,0,none⟩) y252.length co49) y252 from (Kd.N_mono (HO254.out) (fun k_ hk => ⟨hk.1,⟨hk.2.1,hk.2.2⟩⟩)));replace HX54 := Aside0.mk (show Kd.N k62 62 _ w.heap.size (fun k_ => (w.heap.size ≤ k_) ∧ some k_ ≠ (.slice (some ad259) t240.length co12 : Value).ownBlock) (.slice (some ⟨go45,0,none⟩) y252.length co49) y252 from Kd.N_mono HX54.out (fun k_ hk => ⟨hk.1,hk.2.1⟩));obtain ⟨ce54,hcl54,hM54,hcc54,hfr54⟩ := Kd.N_elem HX54.out z62 (x9_10 : Int) (of_decide_eq_true yy2) (by have h_ : (x9_10 : Int) < ((y252.length : Int) : Int) := of_decide_eq_true yy2; first | exact h_ | (have e_ := (Kd.N_reads' HO254.out).1; omega) | simpa using h_);obtain ⟨ua54_1,uc54_1,rfl,ul54_1,ge54_1⟩ := k62_openF hM54;have HP54 := (Kd.N_seg HX54.out (x9_10 : Int) (of_decide_eq_true yy2) (by have h_ : (x9_10 : Int) < ((y252.length : Int) : Int) := of_decide_eq_true yy2; first | exact h_ | (have e_ := (Kd.N_reads' HO254.out).1; omega) | simpa using h_) (seg := [.int .i64 (wrap64 (x9_10 + 1)),.slice Ao53 t260.length co53]) (j := 0) hcl54 hcc54 (show 2 ≤ 2 from by decide) (x' := (⟨wrap64 (x9_10 + 1),t260⟩ : S62)) (k62_mkF _ _ (⟨wrap64 (x9_10 + 1),t260⟩ : S62) (Kd.R_reads' (Kd.R_mono (ok' := (fun k_ => ((fun k_ => (w.heap.size ≤ k_) ∧ some k_ ≠ (.slice (some ad259) t240.length co12 : Value).ownBlock)) k_ ∧ k_ ≠ go45)) (Kd.R_apart' (HO262.out) (Kd.N_typed HO254.out) (by decide)) (fun k_ hk => ⟨⟨hk.1.1,hk.1.2⟩,fun e_ => (hk.2) (by rw [e_]; rfl)⟩))).2.1 (Kd.R_F (Kd.R_mono (ok' := (fun k_ => ((fun k_ => (w.heap.size ≤ k_) ∧ some k_ ≠ (.slice (some ad259) t240.length co12 : Value).ownBlock)) k_ ∧ k_ ≠ go45)) (Kd.R_apart' (HO262.out) (Kd.N_typed HO254.out) (by decide)) (fun k_ hk => ⟨⟨hk.1.1,hk.1.2⟩,fun e_ => (hk.2) (by rw [e_]; rfl)⟩)))) (fun _ hk => hk)).1;rw [← Ny263.out] at HP54;have HQ54 := Aside0.mk HP54;clear hcl54 hcc54 hfr54 hM54 HP54;refine hK.out _ _ ⟨HS0_,HS1_,HS2_⟩ (fun hHeld => ?_);clear hK K;refine no_ 71 ?_;refine pu_ 15 72 b8x38 ?_;refine pu_ 16 73 b8x39 ?_;refine last_ (i := 17) (N := none) b8x40 rfl rfl (one_of HT_.out (by kernel_rfl)) (by decide) (fun K hK => ?_);refine skip_ (w1 := ?_) (by rfl) rfl ?_ ?_;rotate_left
             ·go_simp;rfl
             refine hK.out _ _ ?_;clear hK K;refine done_ (done_of HT_.out (by kernel_rfl)) ?_
             try go_wp2
             go_roundg kj10
             case measure => have := HK1.out; have := HJ10.out; omega
             case rel => exact ⟨(y263),(wrap64 (x8_1 + 1)),yy12,H',⟨(by have := HK1.out; have := HJ10.out; omega)⟩,⟨(by (with_reducible repeat (first | apply Kd.N_alloc | apply Kd.N_drewN | apply Kd.N_drew)); exact HQ54.out)⟩,⟨(by (with_reducible repeat (first | apply Kd.R_alloc | apply Kd.R_drewN | apply Kd.R_drew)); exact Kd.R_mono (Kd.R_far (p := ⟨go45,(x9_10 : Int).toNat * 2 + 1,none⟩) (Kd.R_far (p := ⟨go45,(x9_10 : Int).toNat * 2,none⟩) (Kd.R_types HO_7.out GG45.out (by decide)) (fun _ hk => hk.2) (.int .i64 (wrap64 (x9_10 + 1)))) (fun _ hk => hk.2) (.slice Ao53 t260.length co53)) (fun _ hk => hk.1.1))⟩,⟨(by repeat (first | (with_reducible first | exact HB.out | apply below_alloc | apply pw_below_drewN | apply below_drew1 | refine below_set ?_ GB45.out | refine below_set ?_ GB45.out) | exact HB.out))⟩⟩
            ·rw [if_neg c43] at H;exact absurd H (by simp)
           ·rw [if_neg c42] at H;exact absurd H (by simp)
          ·rw [if_neg c40] at H;exact absurd H (by simp)
         ·rw [if_neg c39] at H;exact absurd H (by simp)
        ·rw [if_neg c38] at H;exact absurd H (by simp)
       ·rw [if_neg c37] at H;have c37b0 : (x9_10 == (x6_1.length : Int)) = false := beq_eq_false_iff_ne.mpr c37;have c37b1 : (x9_10 != (x6_1.length : Int)) = true := bne_iff_ne.mpr c37;by_cases c55 : 0 ≤ x9_10
        ·rw [if_pos c55] at H;have c55b0 : decide (0 ≤ x9_10) = true := decide_eq_true c55;clear c55;by_cases c56 : x9_10 < (x6_1.length : Int)
         ·rw [if_pos c56] at H;have c56b0 : decide (x9_10 < (x6_1.length : Int)) = true := decide_eq_true c56;clear c56;replace H := Option.bind_eq_some_iff.mp H;obtain ⟨t265,A570,H⟩ := H;replace H : (if 0 ≤ x8_1 then (if x8_1 < (t240.length : Int) then ((spec_l1Put.f kj10 t265 (rd t240 x8_1)).bind fun t269 => (spec_PackArchive.l0 kj10 l0 a1 (x6_1.set (x9_10 : Int).toNat (⟨wrap64 (x9_10 + 1),t269⟩ : S62)) t240 (wrap64 (x8_1 + 1)))) else (none)) else (none)) = some (r1,r2) := H;have A57 := Aside0.mk A570;clear A570;by_cases c58 : 0 ≤ x8_1
          ·rw [if_pos c58] at H;have c58b0 : decide (0 ≤ x8_1) = true := decide_eq_true c58;clear c58;by_cases c59 : x8_1 < (t240.length : Int)
           ·rw [if_pos c59] at H;have c59b0 : decide (x8_1 < (t240.length : Int)) = true := decide_eq_true c59;clear c59;replace H := Option.bind_eq_some_iff.mp H;obtain ⟨t269,A600,H⟩ := H;replace H : (spec_PackArchive.l0 kj10 l0 a1 (x6_1.set (x9_10 : Int).toNat (⟨wrap64 (x9_10 + 1),t269⟩ : S62)) t240 (wrap64 (x8_1 + 1))) = some (r1,r2) := H;have A60 := Aside0.mk A600;clear A600;obtain ⟨y272,hy272⟩ : ∃ y_ : List (S62),y_ = (x6_1.set (x9_10 : Int).toNat (⟨wrap64 (x9_10 + 1),t269⟩ : S62)) := ⟨_,rfl⟩
            replace H : (spec_PackArchive.l0 kj10 l0 a1 y272 t240 (wrap64 (x8_1 + 1))) = some (r1,r2) := by first | (rw [hy272]; with_reducible exact H) | (have H2_ := (Option.bind_some _ _).symm.trans H; rw [hy272]; with_reducible exact H2_) | (have H2_ := (Option.bind_some _ _).symm.trans H; with_reducible exact H2_) | with_reducible exact H | (rw [hy272]; exact H) | exact H
            have Ny272 := Aside0.mk hy272;clear hy272;have H' := Aside0.mk H;clear H;obtain ⟨Ao62,co62,eo62⟩ := Kd.N_slice HO_6.out;subst eo62
            try go_wp2
            have n0_ := Aside0.mk (Kd.N_drew HO_6.out);have n1_ := Aside0.mk (Kd.R_drew HO_7.out);have n2_ := Aside0.mk (below_drew1 HB.out);clear HO_6 HO_7 HB;have HO_6 := n0_;have HO_7 := n1_;have HB := n2_;clear n0_ n1_ n2_;have p264 : 0 ≤ (x9_10 : Int) := of_decide_eq_true yy2;have q264 : x9_10 < (x6_1.length : Int) := of_decide_eq_true yy2;obtain ⟨ad264,A264_1,c264_1,e264,hx264_0,hx264_1,hl264_1,hi264_1⟩ := at_T62 (Kd.N_reads' HO_6.out).2.2 x9_10 p264 q264;cases e264;obtain ⟨ce264,hce264,hMe264,hcc264⟩ := Kd.N_get HO_6.out z62 x9_10 p264 (by first | exact q264 | exact of_decide_eq_true yy2 | (have e_ := (Kd.N_reads' HO_6.out).1; omega));obtain ⟨ua264_1,uc264_1,rfl,ul264_1,ge264_1⟩ := k62_openF hMe264;have hv264_1 := hcc264 1 _ rfl;rw [add_field _ _ 1 (by omega)] at hv264_1;replace hv264_1 := Option.some.inj (hv264_1.symm.trans hx264_1);injection hv264_1 with hva_ hvn_ hvc_
            rw [hva_] at ge264_1;rw [hvc_] at ul264_1;have HL264_1 := Aside0.mk (show Kd.V (Kd.int .i64) 3 _ w.heap.size _ _ ((rd_T62 x6_1 x9_10).f1) from Kd.V_mk ul264_1 ge264_1);clear hva_ hvn_ hvc_ ge264_1 ul264_1 hcc264 hce264;have HR264_1 := Aside0.mk hi264_1;have HC264_1 := Aside0.mk hl264_1;clear hi264_1 hl264_1;replace p264 := eq_true p264;replace q264 := eq_true q264;have p268 : 0 ≤ (x8_1 : Int) := of_decide_eq_true yy2;have q268 : x8_1 < (t240.length : Int) := of_decide_eq_true yy2;obtain ⟨ad268,e268,hx268_0⟩ := Kd.at_int (Kd.R_reads' HO_7.out).2.2 x8_1 p268 q268;cases e268;replace p268 := eq_true p268;replace q268 := eq_true q268;refine start_ (n := 18) (S := fun w' => w'.cell? (ad264.add ((x9_10).toNat * 2)) = some (.int .i64 ((rd_T62 x6_1 x9_10).f0)) ∧ w'.cell? ⟨(ad264.add ((x9_10).toNat * 2)).block,(ad264.add ((x9_10).toNat * 2)).off + 1,none⟩ = some (.slice A264_1 ((rd_T62 x6_1 x9_10).f1).length c264_1) ∧ w'.cell? (ad268.add (x8_1).toNat) = some (.int .i64 (rd t240 x8_1))) (ds := [17]) b8x22 (by kernel_rfl) rfl rfl ⟨hx264_0,hx264_1,hx268_0⟩ (fun hHeld => ?_); refine with_tabW spec_PackArchive.tab13 spec_PackArchive.bits13 (fun HT_ HW_ => ?_);generalize wc.drew = w63 at HO_6 HO_7 HB HL264_1 HR264_1 hx264_0 hx264_1 hx268_0 hHeld ⊢;refine pu_ 0 57 b8x23 ?_;refine pu_ 1 58 b8x24 ?_;refine pu_ 2 59 b8x25 ?_;refine pu_ 3 60 b8x26 ?_;refine pu_ 4 61 b8x27 ?_;refine pu_ 5 62 b8x28 ?_;refine pu_ 6 63 b8x29 ?_;refine pu_ 7 64 b8x30 ?_;refine pu_ 10 67 b8x31 ?_;refine pu_ 11 68 b8x32 ?_;refine pu_ 12 69 b8x33 ?_;refine t3_ 8 65 b8x34 hHeld ?_;refine t3_ 13 70 b8x35 hHeld ?_;refine one_ (i := 9) (N := some 66) b8x36 rfl rfl (one_of HT_.out (by kernel_rfl)) (by decide) (fun K hK => ?_);refine goes_ Try.func67 (by kernel_rfl) rfl #[.slice A264_1 ((rd_T62 x6_1 x9_10).f1).length c264_1] (by rfl) rfl rfl yy3 ?_
            with_reducible refine (spec_l1Own.calls _ _ ((rd_T62 x6_1 x9_10).f1) t265 _ ?side1 ?side2 A57.out).mono ?_
            (case side1 => repeat (first | exact yy113 | (with_reducible refine Kd.C_alloc ?_ _) | (with_reducible refine Kd.C_drewN ?_ _) | (with_reducible refine Kd.C_drew ?_)))
            (case side2 => exact HC264_1.out)
            rintro e w64 ⟨v266,rfl,ho0,hb⟩;have HS0_ := (hb.cell (World.block_lt_of_cell? _ _ (hHeld.1))).trans (hHeld.1);have HS1_ := (hb.cell (World.block_lt_of_cell? _ _ (hHeld.2.1))).trans (hHeld.2.1);have HS2_ := (hb.cell (World.block_lt_of_cell? _ _ (hHeld.2.2))).trans (hHeld.2.2);refine ⟨_,rfl,?_⟩;have n0_ := Aside0.mk (Kd.N_elder' yy53 (Kd.R_base ho0) hb);have n1_ := Aside0.mk (Kd.R_elder' yy35 (Kd.R_base ho0) hb);have n2_ := Aside0.mk (Kd.V_elder' (by (with_reducible repeat (first | apply Kd.V_alloc | apply Kd.V_drewN | apply Kd.V_drew)); exact HL264_1.out) (Kd.R_base ho0) hb);have n3_ := Aside0.mk (Kd.R_lower (Kd.R_new' (Kd.R_newM (M := fun k_ => (w.heap.size ≤ k_)) ho0 (below_size yy1) (fun k_ h_ => h_)) (Kd.R_lt yy35)) (below_size yy1));have n4_ := Aside0.mk (Kd.C_below yy113 hb);have n5_ := Aside0.mk (below_step yy1 hb);clear HO_6 HO_7 HL264_1 HR264_1 HB;have HO_6 := n0_;have HO_7 := n1_;have HL264_1 := n2_;have HO267 := n3_;have HR264_1 := n4_;have HB := n5_;clear n0_ n1_ n2_ n3_ n4_ n5_;(try clear hb)
            (try clear hb2)
            (try clear hk)
            (try clear hi)
            (try clear ho0)
            obtain ⟨Ao65,co65,eo65⟩ := Kd.R_slice HO267.out;(first | subst eo65 | (injection eo65 with f1_ f2_ f3_; have f4_ := f1_.symm; have f5_ := f3_.symm; clear f1_ f2_ f3_; subst f4_; subst f5_))
            refine hK.out _ _ ⟨HS0_,HS1_,HS2_⟩ (fun hHeld => ?_);clear hK K;refine no_ 66 ?_;refine one_ (i := 14) (N := some 71) b8x37 rfl rfl (one_of HT_.out (by kernel_rfl)) (by decide) (fun K hK => ?_);refine goes_ Try.func35 (by kernel_rfl) rfl #[.slice Ao65 t265.length co65,.int .i64 (rd t240 x8_1)] (by rfl) rfl rfl yy3 ?_
            with_reducible refine (spec_l1Put.calls kj10 (fun k_ => some k_ = (.slice Ao65 t265.length co65 : Value).ownBlock) (.slice Ao65 t265.length co65) t265 (rd t240 x8_1) t269 w _ ?side1 ?side2 A60.out).mono ?_
            (case side1 => exact yy1)
            (case side2 => exact Kd.R_tight rfl HO267.out)
            rintro e w66 ⟨v270,rfl,ho0,hb,hkp⟩;have HS0_ := cell_kept (hHeld.1) hkp yy48;have HS1_ := cell_kept (hHeld.2.1) hkp yy48;have HS2_ := cell_kept (hHeld.2.2) hkp yy64;refine ⟨_,rfl,?_⟩;have n0_ := Aside0.mk (Kd.N_mono (ok' := fun k_ => (w.heap.size ≤ k_) ∧ some k_ ≠ (.slice (some ad268) t240.length co12 : Value).ownBlock ∧ some k_ ≠ (v270 : Value).ownBlock) (Kd.N_keptB (HO_6.out) hkp (fun k_ hk_ hs_ => (hk_.2) hs_)) (fun k_ hk_ => ⟨hk_.1.1.1,hk_.1.1.2,fun e_ => Or.elim (ho0.1 k_ e_.symm) (fun hs_ => hk_.2.1 hs_) (fun hn_ => Nat.not_le.2 hk_.2.2 hn_)⟩));have n1_ := Aside0.mk (Kd.R_mono (ok' := fun k_ => (w.heap.size ≤ k_) ∧ some k_ ≠ (v270 : Value).ownBlock) (Kd.R_keptB (HO_7.out) hkp (fun k_ hk_ hs_ => (hk_.2) hs_)) (fun k_ hk_ => ⟨hk_.1.1,fun e_ => Or.elim (ho0.1 k_ e_.symm) (fun hs_ => hk_.2.1 hs_) (fun hn_ => Nat.not_le.2 hk_.2.2 hn_)⟩));have n2_ := Aside0.mk (Kd.R_mono (ok' := fun k_ => (w.heap.size ≤ k_) ∧ some k_ ≠ (.slice (some ad268) t240.length co12 : Value).ownBlock) ho0 (fun k_ hk_ => ⟨Or.elim hk_ (fun hs_ => (HO267.out.1 k_ (hs_).symm).1.1) (fun hn_ => (Nat.le_trans (below_size yy1) hn_)),Or.elim hk_ (fun hs_ => fun e_ => (((HO_7.out).1 k_ e_.symm).2) hs_) (fun hn_ => (Kd.fresh' (Kd.R_lt yy35) k_ hn_))⟩));have n3_ := Aside0.mk (hb);clear HO_6 HO_7 HB HO267 HL264_1;have HO_6 := n0_;have HO_7 := n1_;have HO271 := n2_;have HB := n3_;clear n0_ n1_ n2_ n3_;(try clear hb)
            (try clear hkp)
            (try clear ho0)
            obtain ⟨Ao67,co67,eo67⟩ := Kd.R_slice HO271.out;(first | subst eo67 | (injection eo67 with f1_ f2_ f3_; have f4_ := f1_.symm; have f5_ := f3_.symm; clear f1_ f2_ f3_; subst f4_; subst f5_))
            have p61 : 0 ≤ (x9_10 : Int) := of_decide_eq_true yy2;have q61 : (x9_10 : Int) < ((x6_1.length : Int) : Int) := of_decide_eq_true yy2;obtain ⟨go61,co61,eo61,gb61,gl61,cl61,HG61⟩ := Kd.N_form HO_6.out (by omega);(first | cases eo61 | (injection eo61 with ea_ en_ ec_; (first | subst ea_ | (injection ea_ with ea_; subst ea_)); subst ec_; clear en_))
            have GB61 := Aside0.mk gb61;have GG61 := Aside0.mk HG61;clear gb61 gl61 HG61;(first | simp only [add_plain] at hx264_0 | skip)
            (first | simp only [add_plain] at hx264_1 | skip)
            obtain ⟨ce61,hcl61,hM61,hcc61,hfr61⟩ := Kd.N_elem HO_6.out z62 (x9_10 : Int) p61 q61;obtain ⟨ua61_1,uc61_1,rfl,ul61_1,ge61_1⟩ := k62_openF hM61;have hx61_0 : World.cell? _ ⟨go61,(x9_10 : Int).toNat * 2,none⟩ = some (.int .i64 ((rd_T62 x6_1 x9_10).f0)) := hcc61 0 _ rfl;have hx61_1 : World.cell? _ ⟨go61,(x9_10 : Int).toNat * 2 + 1,none⟩ = some (.slice ua61_1 ((rd_T62 x6_1 x9_10).f1).length uc61_1) := hcc61 1 _ rfl;have hf61_0 : World.frozen? _ ⟨go61,(x9_10 : Int).toNat * 2,none⟩ = false := hfr61 0;have hf61_1 : World.frozen? _ ⟨go61,(x9_10 : Int).toNat * 2 + 1,none⟩ = false := hfr61 1;clear hcl61 hcc61 hfr61 hM61;replace p61 := eq_true p61;replace q61 := eq_true q61;have HX68 := Aside0.mk (show Kd.N k62 62 _ w.heap.size (fun k_ => (w.heap.size ≤ k_) ∧ some k_ ≠ (.slice (some ad268) t240.length co12 : Value).ownBlock ∧ some k_ ≠ (.slice Ao67 t269.length co67 : Value).ownBlock) (.slice (some ⟨go61,0,none⟩) x6_1.length co62) x6_1 from (Kd.N_mono (HO_6.out) (fun k_ hk => ⟨hk.1,⟨hk.2.1,hk.2.2⟩⟩)));replace HX68 := Aside0.mk (show Kd.N k62 62 _ w.heap.size (fun k_ => (w.heap.size ≤ k_) ∧ some k_ ≠ (.slice (some ad268) t240.length co12 : Value).ownBlock) (.slice (some ⟨go61,0,none⟩) x6_1.length co62) x6_1 from Kd.N_mono HX68.out (fun k_ hk => ⟨hk.1,hk.2.1⟩));obtain ⟨ce68,hcl68,hM68,hcc68,hfr68⟩ := Kd.N_elem HX68.out z62 (x9_10 : Int) (of_decide_eq_true yy2) (by have h_ : (x9_10 : Int) < ((x6_1.length : Int) : Int) := of_decide_eq_true yy2; first | exact h_ | (have e_ := (Kd.N_reads' HO_6.out).1; omega) | simpa using h_);obtain ⟨ua68_1,uc68_1,rfl,ul68_1,ge68_1⟩ := k62_openF hM68;have HP68 := (Kd.N_seg HX68.out (x9_10 : Int) (of_decide_eq_true yy2) (by have h_ : (x9_10 : Int) < ((x6_1.length : Int) : Int) := of_decide_eq_true yy2; first | exact h_ | (have e_ := (Kd.N_reads' HO_6.out).1; omega) | simpa using h_) (seg := [.int .i64 (wrap64 (x9_10 + 1)),.slice Ao67 t269.length co67]) (j := 0) hcl68 hcc68 (show 2 ≤ 2 from by decide) (x' := (⟨wrap64 (x9_10 + 1),t269⟩ : S62)) (k62_mkF _ _ (⟨wrap64 (x9_10 + 1),t269⟩ : S62) (Kd.R_reads' (Kd.R_mono (ok' := (fun k_ => ((fun k_ => (w.heap.size ≤ k_) ∧ some k_ ≠ (.slice (some ad268) t240.length co12 : Value).ownBlock)) k_ ∧ k_ ≠ go61)) (Kd.R_apart' (HO271.out) (Kd.N_typed HO_6.out) (by decide)) (fun k_ hk => ⟨⟨hk.1.1,hk.1.2⟩,fun e_ => (hk.2) (by rw [e_]; rfl)⟩))).2.1 (Kd.R_F (Kd.R_mono (ok' := (fun k_ => ((fun k_ => (w.heap.size ≤ k_) ∧ some k_ ≠ (.slice (some ad268) t240.length co12 : Value).ownBlock)) k_ ∧ k_ ≠ go61)) (Kd.R_apart' (HO271.out) (Kd.N_typed HO_6.out) (by decide)) (fun k_ hk => ⟨⟨hk.1.1,hk.1.2⟩,fun e_ => (hk.2) (by rw [e_]; rfl)⟩)))) (fun _ hk => hk)).1;rw [← Ny272.out] at HP68;have HQ68 := Aside0.mk HP68;clear hcl68 hcc68 hfr68 hM68 HP68;refine hK.out _ _ ⟨HS0_,HS1_,HS2_⟩ (fun hHeld => ?_);clear hK K;refine no_ 71 ?_;refine pu_ 15 72 b8x38 ?_;refine pu_ 16 73 b8x39 ?_;refine last_ (i := 17) (N := none) b8x40 rfl rfl (one_of HT_.out (by kernel_rfl)) (by decide) (fun K hK => ?_);refine skip_ (w1 := ?_) (by rfl) rfl ?_ ?_;rotate_left
            ·go_simp;rfl
            refine hK.out _ _ ?_;clear hK K;refine done_ (done_of HT_.out (by kernel_rfl)) ?_
            try go_wp2
            go_roundg kj10
            case measure => have := HK1.out; have := HJ10.out; omega
            case rel => exact ⟨(y272),(wrap64 (x8_1 + 1)),yy12,H',⟨(by have := HK1.out; have := HJ10.out; omega)⟩,⟨(by (with_reducible repeat (first | apply Kd.N_alloc | apply Kd.N_drewN | apply Kd.N_drew)); exact HQ68.out)⟩,⟨(by (with_reducible repeat (first | apply Kd.R_alloc | apply Kd.R_drewN | apply Kd.R_drew)); exact Kd.R_mono (Kd.R_far (p := ⟨go61,(x9_10 : Int).toNat * 2 + 1,none⟩) (Kd.R_far (p := ⟨go61,(x9_10 : Int).toNat * 2,none⟩) (Kd.R_types HO_7.out GG61.out (by decide)) (fun _ hk => hk.2) (.int .i64 (wrap64 (x9_10 + 1)))) (fun _ hk => hk.2) (.slice Ao67 t269.length co67)) (fun _ hk => hk.1.1))⟩,⟨(by repeat (first | (with_reducible first | exact HB.out | apply below_alloc | apply pw_below_drewN | apply below_drew1 | refine below_set ?_ GB61.out | refine below_set ?_ GB61.out) | exact HB.out))⟩⟩
           ·rw [if_neg c59] at H;exact absurd H (by simp)
          ·rw [if_neg c58] at H;exact absurd H (by simp)
         ·rw [if_neg c56] at H;exact absurd H (by simp)
        ·rw [if_neg c55] at H;exact absurd H (by simp)
    ·rw [if_neg c10] at H;have c10b0 : decide (x8_1 < (t240.length : Int)) = false := decide_eq_false c10;clear c10;simp only [Option.some.injEq,Prod.mk.injEq] at H;obtain ⟨rfl,rfl⟩ := H;obtain ⟨Ao69,co69,eo69⟩ := Kd.R_slice HO_7.out;subst eo69;go_wp2
     go_ret2
     exact ⟨_,yy11,(by (with_reducible repeat (first | apply Kd.N_alloc | apply Kd.N_drewN | apply Kd.N_drew)); exact Kd.N_mono HO_6.out (fun _ hk => hk.1)),yy1⟩
 ·replace c4 := Bool.eq_false_iff.mpr c4;subst c4;have H1 : (some (y236,false)) = some (r1,r2) := by rw [if_neg (show ¬ (false = true) by decide)] at H; exact H
  clear H;have H := H1;clear H1;simp only [Option.some.injEq,Prod.mk.injEq] at H;obtain ⟨rfl,rfl⟩ := H;go_enter Try.func30,Try.ntmps30;go_wp2_with (first | ((with_reducible refine gate_dst (N := 10) rfl ?_); refine Kd.N_lit k62 _ 62 ?hg (N' := 10) ?hd (xs := ([] : List (S62))) (inner := []) (ok := (fun k_ => (w.heap.size ≤ k_))) (okp := (fun k_ => (w.heap.size ≤ k_))) ?hr ?hp (fun _ hk => hk) ((show ∀ k_,w.heap.size ≤ k_ → (fun k_ => (w.heap.size ≤ k_)) k_ from fun k_ hk => (Nat.le_trans (below_size yy1) hk)) _ (Nat.le_refl _)) (Below.refl _ _) (Nat.le_refl _) (by simp) ?_; (case hd => rfl); (case hg => rfl); (case hr => first | (go_simp; done) | (go_simp; rfl)); (case hp => exact (Reps.none _ _)); intro v237 w70 ho71 hb hg_ hnew_; clear hg_ hnew_; (first | rw [← Ny236.out] at ho71 | (simp only [Int.reduceToNat] at ho71; rw [← Ny236.out] at ho71)); have n0_ := Aside0.mk (Kd.N_lower ho71 (below_size yy1)); have n1_ := Aside0.mk (below_step yy1 hb); clear HB; have HO238 := n0_; have HB := n1_; clear n0_ n1_; clear hb ho71) | ((with_reducible refine gate_callee (f := 64) rfl ?_); refine goesL_ (some 13) rfl rfl Try.func64 (by kernel_rfl) rfl #[.slice A0 l0.length c0,.int .i64 a1] rfl yy3 ?_; (with_reducible refine (spec_l26Ready.calls k _ _ l0 a1 false _ ?side1 ?side2 A3.out).mono ?_); (case side1 => exact yy4); (case side2 => exact HC0.out); rintro e w72 ⟨rfl,hb⟩; refine ⟨_,rfl,?_⟩; have n0_ := Aside0.mk (Kd.N_below yy88 hb); have n1_ := Aside0.mk (below_step yy1 hb); clear HO238; clear HB; have HO238 := n0_; have HB := n1_; clear n0_ n1_; (try clear hb); (try clear hb2); (try clear hk); (try clear hi)))
  go_ret2
  exact ⟨_,yy11,yy88,yy1⟩
end Go.Proofs.Ytoadgikbbigdlaa.B
