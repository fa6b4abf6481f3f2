import Derived.Test.YtoadgikbbigdlaaMsWAb
import Derived.Test.YtoadgikbbigdlaaMsBx0
import Derived.Test.YtoadgikbbigdlaaMsBx1
import Derived.Test.YtoadgikbbigdlaaMsBx3
import Derived.Test.YtoadgikbbigdlaaMsBx7
import Derived.Test.YtoadgikbbigdlaaMsBx10
import Derived.Test.YtoadgikbbigdlaaMsBx12
import Derived.Test.YtoadgikbbigdlaaMsBx13
import Derived.Test.YtoadgikbbigdlaaMsBx15
import Derived.Test.YtoadgikbbigdlaaMsBx17
namespace Go.Proofs.Ytoadgikbbigdlaa.B
open Go.RowKit Go.Proofs.YtoadgikbbigdlaaW.PrintWords Go.Proofs.YtoadgikbbigdlaaW.PrintLast Go.Proofs.YtoadgikbbigdlaaW.PrintMore
attribute [local go_sem] max2_int min2_int max_two min_two max_three min_three max_four min_four   -- for this text's walks alone
set_option linter.unusedVariables false
set_option linter.unusedSimpArgs false
def impl_MayShare.f (a0 : Int) (a1 : Int) : Option (Bool × Bool) := (impl_isMaterial.f a0).bind fun t564 => (if t564 = true then ((impl_isMaterial.f a1).bind fun t565 => (if t565 = true then ((impl_mayShare.f a0 a1).bind fun t566 => (some (t566,true))) else (some (false,false)))) else (some (false,false)))
set_option maxHeartbeats 8000000 in
set_option maxRecDepth 100000 in
theorem impl_MayShare.calls (a0 : Int) (a1 : Int) (r1 : Bool) (r2 : Bool) (w : World) (h : impl_MayShare.f a0 a1 = some (r1,r2)) :
  Calls Try.prog 27 #[.int .i64 a0,.int .i64 a1] w fun e w' => e = .returned (.tuple #[.bool r1,.bool r2]) ∧ Drawn0 w w' := by
 have H : ((impl_isMaterial.f a0).bind fun t564 => (if t564 = true then ((impl_isMaterial.f a1).bind fun t565 => (if t565 = true then ((impl_mayShare.f a0 a1).bind fun t566 => (some (t566,true))) else (some (false,false)))) else (some (false,false)))) = some (r1,r2) := h;clear h;replace H := Option.bind_eq_some_iff.mp H;obtain ⟨t564,A30,H⟩ := H;replace H : (if t564 = true then ((impl_isMaterial.f a1).bind fun t565 => (if t565 = true then ((impl_mayShare.f a0 a1).bind fun t566 => (some (t566,true))) else (some (false,false)))) else (some (false,false))) = some (r1,r2) := H;have A3 := Aside0.mk A30;clear A30;by_cases c4 : t564 = true
 ·subst c4;have H1 : ((impl_isMaterial.f a1).bind fun t565 => (if t565 = true then ((impl_mayShare.f a0 a1).bind fun t566 => (some (t566,true))) else (some (false,false)))) = some (r1,r2) := by rw [if_pos rfl] at H; exact H
  clear H;have H := H1;clear H1;replace H := Option.bind_eq_some_iff.mp H;obtain ⟨t565,A50,H⟩ := H;replace H : (if t565 = true then ((impl_mayShare.f a0 a1).bind fun t566 => (some (t566,true))) else (some (false,false))) = some (r1,r2) := H;have A5 := Aside0.mk A50;clear A50;by_cases c6 : t565 = true
  ·subst c6;have H1 : ((impl_mayShare.f a0 a1).bind fun t566 => (some (t566,true))) = some (r1,r2) := by rw [if_pos rfl] at H; exact H
   clear H;have H := H1;clear H1;replace H := Option.bind_eq_some_iff.mp H;obtain ⟨t566,A70,H⟩ := H;replace H : (some (t566,true)) = some (r1,r2) := H;have A7 := Aside0.mk A70;clear A70;simp only [Option.some.injEq,Prod.mk.injEq] at H;obtain ⟨rfl,rfl⟩ := H;go_enter Try.func27,Try.ntmps27;go_wp2_with (first | ((with_reducible refine gate_callee (f := 60) rfl ?_); refine goesL_ (some 7) rfl rfl Try.func60 (by kernel_rfl) rfl #[.int .i64 a0] rfl yy3 ?_; (with_reducible refine (impl_isMaterial.calls a0 true _ A3.out).mono ?_); rintro e w' ⟨rfl,⟨nd,rfl⟩⟩; refine ⟨_,rfl,?_⟩) | (go_at_call 60; (with_reducible refine (impl_isMaterial.calls a1 true _ A5.out).mono ?_); rintro e w' ⟨rfl,⟨nd,rfl⟩⟩) | ((with_reducible refine gate_callee (f := 61) rfl ?_); refine goesL_ (some 16) rfl rfl Try.func61 (by kernel_rfl) rfl #[.int .i64 a0,.int .i64 a1] rfl yy3 ?_; (with_reducible refine (impl_mayShare.calls a0 a1 t566 _ A7.out).mono ?_); rintro e w' ⟨rfl,⟨nd,rfl⟩⟩; refine ⟨_,rfl,?_⟩))
   go_ret2
   exact ⟨yy12,yy26⟩
  ·replace c6 := Bool.eq_false_iff.mpr c6;subst c6;have H1 : (some (false,false)) = some (r1,r2) := by rw [if_neg (show ¬ (false = true) by decide)] at H; exact H
   clear H;have H := H1;clear H1;simp only [Option.some.injEq,Prod.mk.injEq] at H;obtain ⟨rfl,rfl⟩ := H;go_enter Try.func27,Try.ntmps27;go_wp2_with (first | ((with_reducible refine gate_callee (f := 60) rfl ?_); refine goesL_ (some 7) rfl rfl Try.func60 (by kernel_rfl) rfl #[.int .i64 a0] rfl yy3 ?_; (with_reducible refine (impl_isMaterial.calls a0 true _ A3.out).mono ?_); rintro e w' ⟨rfl,⟨nd,rfl⟩⟩; refine ⟨_,rfl,?_⟩) | (go_at_call 60; (with_reducible refine (impl_isMaterial.calls a1 false _ A5.out).mono ?_); rintro e w' ⟨rfl,⟨nd,rfl⟩⟩))
   go_ret2
   exact ⟨yy12,yy26⟩
 ·replace c4 := Bool.eq_false_iff.mpr c4;subst c4;have H1 : (some (false,false)) = some (r1,r2) := by rw [if_neg (show ¬ (false = true) by decide)] at H; exact H
  clear H;have H := H1;clear H1;simp only [Option.some.injEq,Prod.mk.injEq] at H;obtain ⟨rfl,rfl⟩ := H;go_enter Try.func27,Try.ntmps27;go_wp2_with (first | ((with_reducible refine gate_callee (f := 60) rfl ?_); refine goesL_ (some 7) rfl rfl Try.func60 (by kernel_rfl) rfl #[.int .i64 a0] rfl yy3 ?_; (with_reducible refine (impl_isMaterial.calls a0 false _ A3.out).mono ?_); rintro e w' ⟨rfl,⟨nd,rfl⟩⟩; refine ⟨_,rfl,?_⟩))
  go_ret2
  exact ⟨yy12,yy26⟩
def spec_MayShare.f (a0 : Int) (a1 : Int) : Option (Bool × Bool) := (spec_l1In.f a0 1 4).bind fun t567 => (if t567 = true then ((spec_l1In.f a1 1 4).bind fun t568 => (if t568 = true then ((spec_l26Share.f a0 a1).bind fun t569 => (some (t569,true))) else (some (false,false)))) else (some (false,false)))
set_option maxHeartbeats 8000000 in
set_option maxRecDepth 100000 in
theorem spec_MayShare.calls (a0 : Int) (a1 : Int) (r1 : Bool) (r2 : Bool) (w : World) (h : spec_MayShare.f a0 a1 = some (r1,r2)) :
  Calls Try.prog 28 #[.int .i64 a0,.int .i64 a1] w fun e w' => e = .returned (.tuple #[.bool r1,.bool r2]) ∧ Drawn0 w w' := by
 have H : ((spec_l1In.f a0 1 4).bind fun t567 => (if t567 = true then ((spec_l1In.f a1 1 4).bind fun t568 => (if t568 = true then ((spec_l26Share.f a0 a1).bind fun t569 => (some (t569,true))) else (some (false,false)))) else (some (false,false)))) = some (r1,r2) := h;clear h;replace H := Option.bind_eq_some_iff.mp H;obtain ⟨t567,A30,H⟩ := H;replace H : (if t567 = true then ((spec_l1In.f a1 1 4).bind fun t568 => (if t568 = true then ((spec_l26Share.f a0 a1).bind fun t569 => (some (t569,true))) else (some (false,false)))) else (some (false,false))) = some (r1,r2) := H;have A3 := Aside0.mk A30;clear A30;by_cases c4 : t567 = true
 ·subst c4;have H1 : ((spec_l1In.f a1 1 4).bind fun t568 => (if t568 = true then ((spec_l26Share.f a0 a1).bind fun t569 => (some (t569,true))) else (some (false,false)))) = some (r1,r2) := by rw [if_pos rfl] at H; exact H
  clear H;have H := H1;clear H1;replace H := Option.bind_eq_some_iff.mp H;obtain ⟨t568,A50,H⟩ := H;replace H : (if t568 = true then ((spec_l26Share.f a0 a1).bind fun t569 => (some (t569,true))) else (some (false,false))) = some (r1,r2) := H;have A5 := Aside0.mk A50;clear A50;by_cases c6 : t568 = true
  ·subst c6;have H1 : ((spec_l26Share.f a0 a1).bind fun t569 => (some (t569,true))) = some (r1,r2) := by rw [if_pos rfl] at H; exact H
   clear H;have H := H1;clear H1;replace H := Option.bind_eq_some_iff.mp H;obtain ⟨t569,A70,H⟩ := H;replace H : (some (t569,true)) = some (r1,r2) := H;have A7 := Aside0.mk A70;clear A70;simp only [Option.some.injEq,Prod.mk.injEq] at H;obtain ⟨rfl,rfl⟩ := H;go_enter Try.func28,Try.ntmps28;go_wp2_with (first | ((with_reducible refine gate_callee (f := 62) rfl ?_); refine goesL_ (some 7) rfl rfl Try.func62 (by kernel_rfl) rfl #[.int .i64 a0,.int .i64 1,.int .i64 4] rfl yy3 ?_; (with_reducible refine (spec_l1In.calls a0 1 4 true _ A3.out).mono ?_); rintro e w' ⟨rfl,⟨nd,rfl⟩⟩; refine ⟨_,rfl,?_⟩) | (go_at_call 62; (with_reducible refine (spec_l1In.calls a1 1 4 true _ A5.out).mono ?_); rintro e w' ⟨rfl,⟨nd,rfl⟩⟩) | ((with_reducible refine gate_callee (f := 63) rfl ?_); refine goesL_ (some 16) rfl rfl Try.func63 (by kernel_rfl) rfl #[.int .i64 a0,.int .i64 a1] rfl yy3 ?_; (with_reducible refine (spec_l26Share.calls a0 a1 t569 _ A7.out).mono ?_); rintro e w' ⟨rfl,⟨nd,rfl⟩⟩; refine ⟨_,rfl,?_⟩))
   go_ret2
   exact ⟨yy12,yy26⟩
  ·replace c6 := Bool.eq_false_iff.mpr c6;subst c6;have H1 : (some (false,false)) = some (r1,r2) := by rw [if_neg (show ¬ (false = true) by decide)] at H; exact H
   clear H;have H := H1;clear H1;simp only [Option.some.injEq,Prod.mk.injEq] at H;obtain ⟨rfl,rfl⟩ := H;go_enter Try.func28,Try.ntmps28;go_wp2_with (first | ((with_reducible refine gate_callee (f := 62) rfl ?_); refine goesL_ (some 7) rfl rfl Try.func62 (by kernel_rfl) rfl #[.int .i64 a0,.int .i64 1,.int .i64 4] rfl yy3 ?_; (with_reducible refine (spec_l1In.calls a0 1 4 true _ A3.out).mono ?_); rintro e w' ⟨rfl,⟨nd,rfl⟩⟩; refine ⟨_,rfl,?_⟩) | (go_at_call 62; (with_reducible refine (spec_l1In.calls a1 1 4 false _ A5.out).mono ?_); rintro e w' ⟨rfl,⟨nd,rfl⟩⟩))
   go_ret2
   exact ⟨yy12,yy26⟩
 ·replace c4 := Bool.eq_false_iff.mpr c4;subst c4;have H1 : (some (false,false)) = some (r1,r2) := by rw [if_neg (show ¬ (false = true) by decide)] at H; exact H
  clear H;have H := H1;clear H1;simp only [Option.some.injEq,Prod.mk.injEq] at H;obtain ⟨rfl,rfl⟩ := H;go_enter Try.func28,Try.ntmps28;go_wp2_with (first | ((with_reducible refine gate_callee (f := 62) rfl ?_); refine goesL_ (some 7) rfl rfl Try.func62 (by kernel_rfl) rfl #[.int .i64 a0,.int .i64 1,.int .i64 4] rfl yy3 ?_; (with_reducible refine (spec_l1In.calls a0 1 4 false _ A3.out).mono ?_); rintro e w' ⟨rfl,⟨nd,rfl⟩⟩; refine ⟨_,rfl,?_⟩))
  go_ret2
  exact ⟨yy12,yy26⟩
mutual
def laws_FnMoves.j0 : Nat → List Int → List (S50) → List (S62) → Int → Int → Int → List (S62) → Bool → Bool → Bool → Option (Bool)
 | 0,_,_,_,_,_,_,_,_,_,_ => none
 | k + 1,x0,x3,x4,x5,x6,x7,x8,x9,x11,x61 => if x61 = true then (if (x9 == x11) = true then (some ((x8.length : Int) == 0)) else (some false)) else ((impl_BoxOf.f k x8 x6).bind fun bt588 => (if bt588.2 = true then (if bt588.1 = x7 then ((impl_IsValidArchive.f k x3 x8 x5).bind fun t590 => (if t590 = true then (laws_FnMoves.j1 k x0 x3 x4 x6 x8 ((x8.length : Int) != (x4.length : Int))) else (laws_FnMoves.j1 k x0 x3 x4 x6 x8 true))) else (laws_FnMoves.j1 k x0 x3 x4 x6 x8 true)) else (laws_FnMoves.j1 k x0 x3 x4 x6 x8 true)))
def laws_FnMoves.j1 : Nat → List Int → List (S50) → List (S62) → Int → List (S62) → Bool → Option (Bool)
 | 0,_,_,_,_,_,_ => none
 | k + 1,x0,x3,x4,x6,x8,x96 => if x96 = true then (some false) else (laws_FnMoves.l0 k x0 x3 x4 x6 x8 0)
def laws_FnMoves.l0 : Nat → List Int → List (S50) → List (S62) → Int → List (S62) → Int → Option (Bool)
 | 0,_,_,_,_,_,_ => none
 | k + 1,x0,x3,x4,x6,x8,x14 => if x14 < (x3.length : Int) then (if 0 ≤ x14 then ((impl_BoxOf.f k x4 ((rd_T50 x3 x14).f0)).bind fun bt592 => ((impl_BoxOf.f k x8 ((rd_T50 x3 x14).f0)).bind fun bt595 => (if bt592.2 = true then (if bt595.2 = true then (if ((rd_T50 x3 x14).f0) = x6 then (laws_FnMoves.l0 k x0 x3 x4 x6 x8 (wrap64 (x14 + 1))) else (if bt592.1 = bt595.1 then (laws_FnMoves.l0 k x0 x3 x4 x6 x8 (wrap64 (x14 + 1))) else (some false))) else (some false)) else (some false)))) else (none)) else ((spec_DrawMayShare.f x0).bind fun bt598 => ((impl_MayShare.f bt598.1 bt598.2).bind fun bt600 => ((impl_MayShare.f bt598.2 bt598.1).bind fun bt602 => ((spec_MayShare.f bt598.1 bt598.2).bind fun bt604 => (if (bt600.1 == bt604.1) = true then (if (bt600.2 == bt604.2) = true then (if (bt602.2 == bt604.2) = true then (some (bt602.1 == bt600.1)) else (some false)) else (some false)) else (some false))))))
end
def laws_FnMoves.f (k : Nat) (l0 : List Int) : Option (Bool) := (laws_rBig.f l0).bind fun t570 => (if t570 = true then (some true) else ((spec_DrawMoveItem.f k l0).bind fun bt571 => ((impl_MoveItem.f k bt571.1 bt571.2.1 bt571.2.2.1 bt571.2.2.2.1 bt571.2.2.2.2).bind fun bt580 => ((spec_MoveItem.f k bt571.1 bt571.2.1 bt571.2.2.1 bt571.2.2.2.1 bt571.2.2.2.2).bind fun bt584 => (if (bt580.2 != bt584.2) = true then (laws_FnMoves.j0 k l0 bt571.1 bt571.2.1 bt571.2.2.1 bt571.2.2.2.1 bt571.2.2.2.2 bt580.1 bt580.2 bt584.2 true) else (laws_FnMoves.j0 k l0 bt571.1 bt571.2.1 bt571.2.2.1 bt571.2.2.2.1 bt571.2.2.2.2 bt580.1 bt580.2 bt584.2 (!bt580.2)))))))
theorem laws_FnMoves.mono_l : ∀ k,(∀ y0 y1 y2 y3 y4 y5 y6 y7 y8 y9,LeO (laws_FnMoves.j0 k y0 y1 y2 y3 y4 y5 y6 y7 y8 y9) (laws_FnMoves.j0 (k + 1) y0 y1 y2 y3 y4 y5 y6 y7 y8 y9)) ∧ (∀ y0 y1 y2 y3 y4 y5,LeO (laws_FnMoves.j1 k y0 y1 y2 y3 y4 y5) (laws_FnMoves.j1 (k + 1) y0 y1 y2 y3 y4 y5)) ∧ (∀ y0 y1 y2 y3 y4 y5,LeO (laws_FnMoves.l0 k y0 y1 y2 y3 y4 y5) (laws_FnMoves.l0 (k + 1) y0 y1 y2 y3 y4 y5))
 | 0 => ⟨fun _ _ _ _ _ _ _ _ _ _ r h => by simp [laws_FnMoves.j0] at h,fun _ _ _ _ _ _ r h => by simp [laws_FnMoves.j1] at h,fun _ _ _ _ _ _ r h => by simp [laws_FnMoves.l0] at h⟩
 | k + 1 => by
  obtain ⟨ih0,ih1,ih2⟩ := laws_FnMoves.mono_l k;refine ⟨?_,?_,?_⟩
  ·intro y0 y1 y2 y3 y4 y5 y6 y7 y8 y9;unfold laws_FnMoves.j0;repeat' first
   | (with_reducible exact ih0 _ _ _ _ _ _ _ _ _ _)
   | (with_reducible exact ih1 _ _ _ _ _ _)
   | (with_reducible exact ih2 _ _ _ _ _ _)
   | (with_reducible exact impl_BoxOf.mono _ _ _)
   | (with_reducible exact impl_IsValidArchive.mono _ _ _ _)
   | (with_reducible exact impl_MoveItem.mono _ _ _ _ _ _)
   | (with_reducible exact spec_DrawMoveItem.mono _ _)
   | (with_reducible exact spec_MoveItem.mono _ _ _ _ _ _)
   | (with_reducible exact LeO.refl _)
   | (with_reducible exact LeO.none _)
   | (with_reducible refine LeO.ite ?_ ?_)
   | (with_reducible refine LeO.bind ?_ (fun _ => ?_))
   | exact ih0 _ _ _ _ _ _ _ _ _ _
   | exact ih1 _ _ _ _ _ _
   | exact ih2 _ _ _ _ _ _
   | exact impl_BoxOf.mono _ _ _
   | exact impl_IsValidArchive.mono _ _ _ _
   | exact impl_MoveItem.mono _ _ _ _ _ _
   | exact spec_DrawMoveItem.mono _ _
   | exact spec_MoveItem.mono _ _ _ _ _ _
   | exact LeO.none _
   | refine LeO.ite ?_ ?_
   | refine LeO.bind ?_ (fun _ => ?_)
  ·intro y0 y1 y2 y3 y4 y5;unfold laws_FnMoves.j1;repeat' first
   | (with_reducible exact ih0 _ _ _ _ _ _ _ _ _ _)
   | (with_reducible exact ih1 _ _ _ _ _ _)
   | (with_reducible exact ih2 _ _ _ _ _ _)
   | (with_reducible exact impl_BoxOf.mono _ _ _)
   | (with_reducible exact impl_IsValidArchive.mono _ _ _ _)
   | (with_reducible exact impl_MoveItem.mono _ _ _ _ _ _)
   | (with_reducible exact spec_DrawMoveItem.mono _ _)
   | (with_reducible exact spec_MoveItem.mono _ _ _ _ _ _)
   | (with_reducible exact LeO.refl _)
   | (with_reducible exact LeO.none _)
   | (with_reducible refine LeO.ite ?_ ?_)
   | (with_reducible refine LeO.bind ?_ (fun _ => ?_))
   | exact ih0 _ _ _ _ _ _ _ _ _ _
   | exact ih1 _ _ _ _ _ _
   | exact ih2 _ _ _ _ _ _
   | exact impl_BoxOf.mono _ _ _
   | exact impl_IsValidArchive.mono _ _ _ _
   | exact impl_MoveItem.mono _ _ _ _ _ _
   | exact spec_DrawMoveItem.mono _ _
   | exact spec_MoveItem.mono _ _ _ _ _ _
   | exact LeO.none _
   | refine LeO.ite ?_ ?_
   | refine LeO.bind ?_ (fun _ => ?_)
  ·intro y0 y1 y2 y3 y4 y5;unfold laws_FnMoves.l0;repeat' first
   | (with_reducible exact ih0 _ _ _ _ _ _ _ _ _ _)
   | (with_reducible exact ih1 _ _ _ _ _ _)
   | (with_reducible exact ih2 _ _ _ _ _ _)
   | (with_reducible exact impl_BoxOf.mono _ _ _)
   | (with_reducible exact impl_IsValidArchive.mono _ _ _ _)
   | (with_reducible exact impl_MoveItem.mono _ _ _ _ _ _)
   | (with_reducible exact spec_DrawMoveItem.mono _ _)
   | (with_reducible exact spec_MoveItem.mono _ _ _ _ _ _)
   | (with_reducible exact LeO.refl _)
   | (with_reducible exact LeO.none _)
   | (with_reducible refine LeO.ite ?_ ?_)
   | (with_reducible refine LeO.bind ?_ (fun _ => ?_))
   | exact ih0 _ _ _ _ _ _ _ _ _ _
   | exact ih1 _ _ _ _ _ _
   | exact ih2 _ _ _ _ _ _
   | exact impl_BoxOf.mono _ _ _
   | exact impl_IsValidArchive.mono _ _ _ _
   | exact impl_MoveItem.mono _ _ _ _ _ _
   | exact spec_DrawMoveItem.mono _ _
   | exact spec_MoveItem.mono _ _ _ _ _ _
   | exact LeO.none _
   | refine LeO.ite ?_ ?_
   | refine LeO.bind ?_ (fun _ => ?_)
theorem laws_FnMoves.mono : ∀ a0 k,LeO (laws_FnMoves.f k a0) (laws_FnMoves.f (k + 1) a0) := by
 intro a0 k;obtain ⟨ih0,ih1,ih2⟩ := laws_FnMoves.mono_l k;unfold laws_FnMoves.f;repeat' first
   | (with_reducible exact ih0 _ _ _ _ _ _ _ _ _ _)
   | (with_reducible exact ih1 _ _ _ _ _ _)
   | (with_reducible exact ih2 _ _ _ _ _ _)
   | (with_reducible exact impl_BoxOf.mono _ _ _)
   | (with_reducible exact impl_IsValidArchive.mono _ _ _ _)
   | (with_reducible exact impl_MoveItem.mono _ _ _ _ _ _)
   | (with_reducible exact spec_DrawMoveItem.mono _ _)
   | (with_reducible exact spec_MoveItem.mono _ _ _ _ _ _)
   | (with_reducible exact LeO.refl _)
   | (with_reducible exact LeO.none _)
   | (with_reducible refine LeO.ite ?_ ?_)
   | (with_reducible refine LeO.bind ?_ (fun _ => ?_))
   | exact ih0 _ _ _ _ _ _ _ _ _ _
   | exact ih1 _ _ _ _ _ _
   | exact ih2 _ _ _ _ _ _
   | exact impl_BoxOf.mono _ _ _
   | exact impl_IsValidArchive.mono _ _ _ _
   | exact impl_MoveItem.mono _ _ _ _ _ _
   | exact spec_DrawMoveItem.mono _ _
   | exact spec_MoveItem.mono _ _ _ _ _ _
   | exact LeO.none _
   | refine LeO.ite ?_ ?_
   | refine LeO.bind ?_ (fun _ => ?_)
set_option maxHeartbeats 8000000 in
set_option maxRecDepth 100000 in
theorem laws_FnMoves.calls (k : Nat) (A0 : Option Addr) (c0 : Nat) (l0 : List Int) (r : Bool) (w : World) (hr0 : Kd.C (Kd.int .u8) w A0 l0.length l0) (hc0 : l0.length ≤ c0) (h : laws_FnMoves.f k l0 = some r) :
  Calls Try.prog 4 #[.slice A0 l0.length c0] w fun e w' => e = .returned (.bool r) ∧ Below w.heap.size w w' := by
 have HR0 := Aside0.mk hr0;have HC0 := Aside0.mk hc0;clear hr0 hc0;have HB := Aside0.mk (Below.refl w.heap.size w);have H : ((laws_rBig.f l0).bind fun t570 => (if t570 = true then (some true) else ((spec_DrawMoveItem.f k l0).bind fun bt571 => ((impl_MoveItem.f k bt571.1 bt571.2.1 bt571.2.2.1 bt571.2.2.2.1 bt571.2.2.2.2).bind fun bt580 => ((spec_MoveItem.f k bt571.1 bt571.2.1 bt571.2.2.1 bt571.2.2.2.1 bt571.2.2.2.2).bind fun bt584 => (if (bt580.2 != bt584.2) = true then (laws_FnMoves.j0 k l0 bt571.1 bt571.2.1 bt571.2.2.1 bt571.2.2.2.1 bt571.2.2.2.2 bt580.1 bt580.2 bt584.2 true) else (laws_FnMoves.j0 k l0 bt571.1 bt571.2.1 bt571.2.2.1 bt571.2.2.2.1 bt571.2.2.2.2 bt580.1 bt580.2 bt584.2 (!bt580.2)))))))) = some r := h;clear h;replace H := Option.bind_eq_some_iff.mp H;obtain ⟨t570,A20,H⟩ := H;replace H : (if t570 = true then (some true) else ((spec_DrawMoveItem.f k l0).bind fun bt571 => ((impl_MoveItem.f k bt571.1 bt571.2.1 bt571.2.2.1 bt571.2.2.2.1 bt571.2.2.2.2).bind fun bt580 => ((spec_MoveItem.f k bt571.1 bt571.2.1 bt571.2.2.1 bt571.2.2.2.1 bt571.2.2.2.2).bind fun bt584 => (if (bt580.2 != bt584.2) = true then (laws_FnMoves.j0 k l0 bt571.1 bt571.2.1 bt571.2.2.1 bt571.2.2.2.1 bt571.2.2.2.2 bt580.1 bt580.2 bt584.2 true) else (laws_FnMoves.j0 k l0 bt571.1 bt571.2.1 bt571.2.2.1 bt571.2.2.2.1 bt571.2.2.2.2 bt580.1 bt580.2 bt584.2 (!bt580.2))))))) = some r := H;have A2 := Aside0.mk A20;clear A20;by_cases c3 : t570 = true
 ·subst c3;have H1 : (some true) = some r := by rw [if_pos rfl] at H; exact H
  clear H;have H := H1;clear H1;obtain rfl := Option.some.inj H;go_enter Try.func4,Try.ntmps4;go_wp2_with (first | ((with_reducible refine gate_callee (f := 20) rfl ?_); refine goesL_ (some 28) rfl rfl Try.func20 (by kernel_rfl) rfl #[.slice A0 l0.length c0] rfl yy3 ?_; (with_reducible refine (laws_rBig.calls _ _ l0 true _ ?side1 ?side2 A2.out).mono ?_); (case side1 => exact yy82); (case side2 => exact HC0.out); rintro e w' ⟨rfl,⟨nd,rfl⟩⟩; refine ⟨_,rfl,?_⟩))
  go_ret;exact ⟨yy11,yy1⟩
 ·replace c3 := Bool.eq_false_iff.mpr c3;subst c3;have H1 : ((spec_DrawMoveItem.f k l0).bind fun bt571 => ((impl_MoveItem.f k bt571.1 bt571.2.1 bt571.2.2.1 bt571.2.2.2.1 bt571.2.2.2.2).bind fun bt580 => ((spec_MoveItem.f k bt571.1 bt571.2.1 bt571.2.2.1 bt571.2.2.2.1 bt571.2.2.2.2).bind fun bt584 => (if (bt580.2 != bt584.2) = true then (laws_FnMoves.j0 k l0 bt571.1 bt571.2.1 bt571.2.2.1 bt571.2.2.2.1 bt571.2.2.2.2 bt580.1 bt580.2 bt584.2 true) else (laws_FnMoves.j0 k l0 bt571.1 bt571.2.1 bt571.2.2.1 bt571.2.2.2.1 bt571.2.2.2.2 bt580.1 bt580.2 bt584.2 (!bt580.2)))))) = some r := by rw [if_neg (show ¬ (false = true) by decide)] at H; exact H
  clear H;have H := H1;clear H1;replace H := Option.bind_eq_some_iff.mp H;obtain ⟨⟨t571,t574,t577,t578,t579⟩,A40,H⟩ := H;replace H : ((impl_MoveItem.f k t571 t574 t577 t578 t579).bind fun bt580 => ((spec_MoveItem.f k t571 t574 t577 t578 t579).bind fun bt584 => (if (bt580.2 != bt584.2) = true then (laws_FnMoves.j0 k l0 t571 t574 t577 t578 t579 bt580.1 bt580.2 bt584.2 true) else (laws_FnMoves.j0 k l0 t571 t574 t577 t578 t579 bt580.1 bt580.2 bt584.2 (!bt580.2))))) = some r := H;have A4 := Aside0.mk A40;clear A40;replace H := Option.bind_eq_some_iff.mp H;obtain ⟨⟨t580,t581⟩,A50,H⟩ := H;replace H : ((spec_MoveItem.f k t571 t574 t577 t578 t579).bind fun bt584 => (if (t581 != bt584.2) = true then (laws_FnMoves.j0 k l0 t571 t574 t577 t578 t579 t580 t581 bt584.2 true) else (laws_FnMoves.j0 k l0 t571 t574 t577 t578 t579 t580 t581 bt584.2 (!t581)))) = some r := H;have A5 := Aside0.mk A50;clear A50;replace H := Option.bind_eq_some_iff.mp H;obtain ⟨⟨t584,t585⟩,A60,H⟩ := H;replace H : (if (t581 != t585) = true then (laws_FnMoves.j0 k l0 t571 t574 t577 t578 t579 t580 t581 t585 true) else (laws_FnMoves.j0 k l0 t571 t574 t577 t578 t579 t580 t581 t585 (!t581))) = some r := H;have A6 := Aside0.mk A60;clear A60;have HC7 := Aside0.mk H;clear H;go_enter Try.func4,Try.ntmps4;go_upto_region 6 with (first | ((with_reducible refine gate_callee (f := 20) rfl ?_); refine goesL_ (some 28) rfl rfl Try.func20 (by kernel_rfl) rfl #[.slice A0 l0.length c0] rfl yy3 ?_; (with_reducible refine (laws_rBig.calls _ _ l0 false _ ?side1 ?side2 A2.out).mono ?_); (case side1 => exact yy82); (case side2 => exact HC0.out); rintro e w' ⟨rfl,⟨nd,rfl⟩⟩; refine ⟨_,rfl,?_⟩) | ((with_reducible refine gate_callee (f := 21) rfl ?_); refine goesL_ (some 31) rfl rfl Try.func21 (by kernel_rfl) rfl #[.slice A0 l0.length c0] rfl yy3 ?_; (with_reducible refine (spec_DrawMoveItem.calls k _ _ l0 t571 t574 t577 t578 t579 _ ?side1 ?side2 A4.out).mono ?_); (case side1 => exact yy82); (case side2 => exact HC0.out); rintro e w8 ⟨v572,v575,rfl,ho0,ho1,hb⟩; refine ⟨_,rfl,?_⟩; have n0_ := Aside0.mk (Kd.R_lower (Kd.R_mono (ok' := fun k_ => True) ho0 (fun _ hk_ => trivial)) (below_size yy1)); have n1_ := Aside0.mk (Kd.N_lower (Kd.N_mono (ok' := fun k_ => some k_ ≠ (v572 : Value).ownBlock) ho1 (fun k_ hk_ => hk_.2)) (below_size yy1)); have n2_ := Aside0.mk (below_step yy1 hb); clear HB; have HO573 := n0_; have HO576 := n1_; have HB := n2_; clear n0_ n1_ n2_; (try clear hb); (try clear hb2); (try clear hk); (try clear hi); (try clear ho0); (try clear ho1); obtain ⟨Ao9,co9,eo9⟩ := Kd.R_slice HO573.out; subst eo9; obtain ⟨Ao10,co10,eo10⟩ := Kd.N_slice HO576.out; subst eo10) | ((with_reducible refine gate_callee (f := 22) rfl ?_); refine goesL_ (some 43) rfl rfl Try.func22 (by kernel_rfl) rfl #[.slice Ao9 t571.length co9,.slice Ao10 t574.length co10,.int .i64 t577,.int .i64 t578,.int .i64 t579] rfl yy3 ?_; (with_reducible refine (impl_MoveItem.calls k _ _ t571 _ _ t574 t577 t578 t579 t580 t581 _ ?side1 ?side2 ?side3 ?side4 A5.out).mono ?_); (case side1 => exact yy119); (case side2 => exact (Kd.R_reads' HO573.out).2.1); (case side3 => exact yy120); (case side4 => exact (Kd.N_reads' HO576.out).2.1); rintro e w11 ⟨v582,rfl,ho0,hb⟩; refine ⟨_,rfl,?_⟩; have n0_ := Aside0.mk (Kd.R_below yy78 hb); have n1_ := Aside0.mk (Kd.N_elder' yy98 (by first | exact Kd.N_base ho0 | exact Kd.N_base (Kd.S_N ho0)) hb); have n2_ := Aside0.mk (Kd.N_lower (Kd.N_mono (ok' := fun k_ => some k_ ≠ (.slice Ao9 t571.length co9 : Value).ownBlock ∧ some k_ ≠ (.slice Ao10 t574.length co10 : Value).ownBlock) (Kd.S_N (Kd.S_bound ho0)) (fun k_ hk_ => ⟨(Kd.fresh' (Kd.R_lt yy78) k_ hk_.2.1),(Kd.fresh' (Kd.N_lt yy98) k_ hk_.2.1)⟩)) (below_size yy1)); have n3_ := Aside0.mk (below_step yy1 hb); clear HO573; clear HO576; clear HB; have HO573 := n0_; have HO576 := n1_; have HO583 := n2_; have HB := n3_; clear n0_ n1_ n2_ n3_; (try clear hb); (try clear hb2); (try clear hk); (try clear hi); (try clear ho0)) | ((with_reducible refine gate_callee (f := 23) rfl ?_); refine goesL_ (some 52) rfl rfl Try.func23 (by kernel_rfl) rfl #[.slice Ao9 t571.length co9,.slice Ao10 t574.length co10,.int .i64 t577,.int .i64 t578,.int .i64 t579] rfl yy3 ?_; (with_reducible refine (spec_MoveItem.calls k _ _ t571 _ _ t574 t577 t578 t579 t584 t585 _ ?side1 ?side2 ?side3 ?side4 A6.out).mono ?_); (case side1 => exact yy119); (case side2 => exact (Kd.R_reads' HO573.out).2.1); (case side3 => exact yy120); (case side4 => exact (Kd.N_reads' HO576.out).2.1); rintro e w12 ⟨v586,rfl,ho0,hb⟩; refine ⟨_,rfl,?_⟩; have n0_ := Aside0.mk (Kd.R_below yy78 hb); have n1_ := Aside0.mk (Kd.N_elder' yy98 (by first | exact Kd.N_base ho0 | exact Kd.N_base (Kd.S_N ho0)) hb); have n2_ := Aside0.mk (Kd.N_elder' (by (with_reducible repeat (first | apply Kd.N_alloc | apply Kd.N_drewN | apply Kd.N_drew)); exact HO583.out) (by first | exact Kd.N_base ho0 | exact Kd.N_base (Kd.S_N ho0)) hb); have n3_ := Aside0.mk (Kd.N_lower (Kd.N_mono (ok' := fun k_ => some k_ ≠ (.slice Ao9 t571.length co9 : Value).ownBlock ∧ some k_ ≠ (.slice Ao10 t574.length co10 : Value).ownBlock ∧ some k_ ≠ (v582 : Value).ownBlock) (Kd.S_N (Kd.S_bound ho0)) (fun k_ hk_ => ⟨(Kd.fresh' (Kd.R_lt yy78) k_ hk_.2.1),(Kd.fresh' (Kd.N_lt yy98) k_ hk_.2.1),(Kd.fresh' (Kd.N_lt (by (with_reducible repeat (first | apply Kd.N_alloc | apply Kd.N_drewN | apply Kd.N_drew)); exact HO583.out)) k_ hk_.2.1)⟩)) (below_size yy1)); have n4_ := Aside0.mk (below_step yy1 hb); clear HO573; clear HO576; clear HO583; clear HB; have HO573 := n0_; have HO576 := n1_; have HO583 := n2_; have HO587 := n3_; have HB := n4_; clear n0_ n1_ n2_ n3_ n4_; (try clear hb); (try clear hb2); (try clear hk); (try clear hi); (try clear ho0)))
  (try simp only [Act.put,List.setIfInBounds_toArray,List.set_cons_zero,List.set_cons_succ])
  go_cut [61] (fun v61 wc => ∃ (kq : Nat) (x61_6 : Bool),v61 = .bool x61_6 ∧ Aside0 (laws_FnMoves.j0 kq l0 t571 t574 t577 t578 t579 t580 t581 t585 x61_6 = some r) ∧ Aside0 (kq ≤ k) ∧ Aside0 (Kd.R k50 50 wc w.heap.size (fun _ => True) (.slice Ao9 t571.length co9) t571) ∧ Aside0 (Kd.N k62 62 wc w.heap.size (fun k_ => some k_ ≠ ((.slice Ao9 t571.length co9) : Value).ownBlock ∧ some k_ ≠ (v582 : Value).ownBlock) (.slice Ao10 t574.length co10) t574) ∧ Aside0 (Kd.N k62 62 wc w.heap.size (fun k_ => some k_ ≠ ((.slice Ao9 t571.length co9) : Value).ownBlock ∧ some k_ ≠ ((.slice Ao10 t574.length co10) : Value).ownBlock) v582 t580) ∧ Aside0 (Below w.heap.size w wc))
  case first =>
   have H := HC7.out;clear HC7;by_cases c13 : (t581 != t585) = true
   ·rw [if_pos c13] at H;have c13b0 : (t581 != t585) = true := c13;(try (have c13b1 : decide (t581 = t585) = false := by simpa using c13))
    (try (have c13b2 : (t581 == t585) = false := by simpa using c13))
    (try (have c13b3 : ¬ (t581 = t585) := by simpa using c13))
    clear c13;(first | rw [c13b0] | (simp only [i64_w,i32_w]; rw [c13b0]) | skip)
    have H' := Aside0.mk H;clear H;go_wp2;go_meet
    case rel => exact ⟨_,(true),yy12,H',⟨yy83⟩,⟨yy78⟩,⟨(by (with_reducible repeat (first | apply Kd.N_alloc | apply Kd.N_drewN | apply Kd.N_drew)); exact Kd.N_mono HO576.out (fun _ hk => ⟨hk.1.1,hk.1.2⟩))⟩,⟨(by (with_reducible repeat (first | apply Kd.N_alloc | apply Kd.N_drewN | apply Kd.N_drew)); exact Kd.N_mono HO583.out (fun _ hk => ⟨hk.1.1,hk.1.2⟩))⟩,⟨yy1⟩⟩
   ·rw [if_neg c13] at H;have c13b0 : (t581 != t585) = false := by simpa using c13
    (try (have c13b1 : decide (t581 = t585) = true := by simpa using c13))
    (try (have c13b2 : (t581 == t585) = true := by simpa using c13))
    clear c13;(first | rw [c13b0] | (simp only [i64_w,i32_w]; rw [c13b0]) | skip)
    have H' := Aside0.mk H;clear H;go_wp2;go_meet
    case rel => exact ⟨_,(!t581),yy12,H',⟨yy83⟩,⟨yy78⟩,⟨(by (with_reducible repeat (first | apply Kd.N_alloc | apply Kd.N_drewN | apply Kd.N_drew)); exact Kd.N_mono HO576.out (fun _ hk => ⟨hk.1.1,hk.1.2⟩))⟩,⟨(by (with_reducible repeat (first | apply Kd.N_alloc | apply Kd.N_drewN | apply Kd.N_drew)); exact Kd.N_mono HO583.out (fun _ hk => ⟨hk.1.1,hk.1.2⟩))⟩,⟨yy1⟩⟩
  case rest =>
   clear HC7
   try clear c1
   try clear c2
   try clear p2
   try clear c3
   try clear c4
   try clear c13
   try clear c13b0
   try clear c13b1
   try clear c13b2
   obtain ⟨kq,x61_6,rfl,HA,HJ6,HO_3,HO_4,HO_8,HB⟩ := hcut;cases kq with
   | zero => exact absurd HA.out (by simp [laws_FnMoves.j0])
   | succ kj6 =>
    have H := HA.out;clear HA;simp only [laws_FnMoves.j0] at H;by_cases c14 : x61_6 = true
    ·subst c14;have H1 : (if (t581 == t585) = true then (some ((t580.length : Int) == 0)) else (some false)) = some r := by rw [if_pos rfl] at H; exact H
     clear H;have H := H1;clear H1;by_cases c15 : (t581 == t585) = true
     ·rw [if_pos c15] at H;have c15b0 : (t581 == t585) = true := c15;(try (have c15b1 : decide (t581 = t585) = true := by simpa using c15))
      (try (have c15b2 : (t581 == t585) = true := by simpa using c15))
      clear c15;obtain rfl := Option.some.inj H;obtain ⟨Ao16,co16,eo16⟩ := Kd.N_slice HO_8.out;subst eo16;go_wp2;go_ret;exact ⟨yy11,yy1⟩
     ·rw [if_neg c15] at H;have c15b0 : (t581 == t585) = false := by simpa using c15
      (try (have c15b1 : decide (t581 = t585) = false := by simpa using c15))
      (try (have c15b2 : (t581 == t585) = false := by simpa using c15))
      (try (have c15b3 : ¬ (t581 = t585) := by simpa using c15))
      clear c15;obtain rfl := Option.some.inj H;go_wp2;go_ret;exact ⟨yy11,yy1⟩
    ·replace c14 := Bool.eq_false_iff.mpr c14;subst c14;have H1 : ((impl_BoxOf.f kj6 t580 t578).bind fun bt588 => (if bt588.2 = true then (if bt588.1 = t579 then ((impl_IsValidArchive.f kj6 t571 t580 t577).bind fun t590 => (if t590 = true then (laws_FnMoves.j1 kj6 l0 t571 t574 t578 t580 ((t580.length : Int) != (t574.length : Int))) else (laws_FnMoves.j1 kj6 l0 t571 t574 t578 t580 true))) else (laws_FnMoves.j1 kj6 l0 t571 t574 t578 t580 true)) else (laws_FnMoves.j1 kj6 l0 t571 t574 t578 t580 true))) = some r := by rw [if_neg (show ¬ (false = true) by decide)] at H; exact H
     clear H;have H := H1;clear H1;replace H := Option.bind_eq_some_iff.mp H;obtain ⟨⟨t588,t589⟩,A170,H⟩ := H;replace H : (if t589 = true then (if t588 = t579 then ((impl_IsValidArchive.f kj6 t571 t580 t577).bind fun t590 => (if t590 = true then (laws_FnMoves.j1 kj6 l0 t571 t574 t578 t580 ((t580.length : Int) != (t574.length : Int))) else (laws_FnMoves.j1 kj6 l0 t571 t574 t578 t580 true))) else (laws_FnMoves.j1 kj6 l0 t571 t574 t578 t580 true)) else (laws_FnMoves.j1 kj6 l0 t571 t574 t578 t580 true)) = some r := H;have A17 := Aside0.mk A170;clear A170;have HC18 := Aside0.mk H;clear H;obtain ⟨Ao19,co19,eo19⟩ := Kd.N_slice HO_8.out;subst eo19;go_upto_region 9 with (first | ((with_reducible refine gate_callee (f := 24) rfl ?_); refine goesL_ (some 73) rfl rfl Try.func24 (by kernel_rfl) rfl #[.slice Ao19 t580.length co19,.int .i64 t578] rfl yy3 ?_; (with_reducible refine (impl_BoxOf.calls kj6 _ _ t580 t578 t588 t589 _ ?side1 ?side2 A17.out).mono ?_); (case side1 => exact yy45); (case side2 => exact (Kd.N_reads' HO_8.out).2.1); rintro e w20 ⟨rfl,hb⟩; refine ⟨_,rfl,?_⟩; have n0_ := Aside0.mk (Kd.R_below yy9 hb); have n1_ := Aside0.mk (Kd.N_below yy27 hb); have n2_ := Aside0.mk (Kd.N_below yy28 hb); have n3_ := Aside0.mk (below_step yy1 hb); clear HO_3; clear HO_4; clear HO_8; clear HB; have HO_3 := n0_; have HO_4 := n1_; have HO_8 := n2_; have HB := n3_; clear n0_ n1_ n2_ n3_; (try clear hb); (try clear hb2); (try clear hk); (try clear hi)))
     (try simp only [Act.put,List.setIfInBounds_toArray,List.set_cons_zero,List.set_cons_succ])
     go_cut [96] (fun v96 wc => ∃ (kq : Nat) (x96_17 : Bool),v96 = .bool x96_17 ∧ Aside0 (laws_FnMoves.j1 kq l0 t571 t574 t578 t580 x96_17 = some r) ∧ Aside0 (kq ≤ kj6) ∧ Aside0 (Kd.R k50 50 wc w.heap.size (fun _ => True) (.slice Ao9 t571.length co9) t571) ∧ Aside0 (Kd.N k62 62 wc w.heap.size (fun k_ => some k_ ≠ ((.slice Ao9 t571.length co9) : Value).ownBlock ∧ some k_ ≠ ((.slice Ao19 t580.length co19) : Value).ownBlock) (.slice Ao10 t574.length co10) t574) ∧ Aside0 (Kd.N k62 62 wc w.heap.size (fun k_ => some k_ ≠ ((.slice Ao9 t571.length co9) : Value).ownBlock ∧ some k_ ≠ ((.slice Ao10 t574.length co10) : Value).ownBlock) (.slice Ao19 t580.length co19) t580) ∧ Aside0 (Below w.heap.size w wc))
     case first =>
      have H := HC18.out;clear HC18;by_cases c21 : t589 = true
      ·subst c21;have H1 : (if t588 = t579 then ((impl_IsValidArchive.f kj6 t571 t580 t577).bind fun t590 => (if t590 = true then (laws_FnMoves.j1 kj6 l0 t571 t574 t578 t580 ((t580.length : Int) != (t574.length : Int))) else (laws_FnMoves.j1 kj6 l0 t571 t574 t578 t580 true))) else (laws_FnMoves.j1 kj6 l0 t571 t574 t578 t580 true)) = some r := by rw [if_pos rfl] at H; exact H
       clear H;have H := H1;clear H1;by_cases c22 : t588 = t579
       ·rw [if_pos c22] at H;have c22b0 : (t588 == t579) = true := beq_iff_eq.mpr c22;have c22b1 : (t588 != t579) = false := bne_eq_false_iff_eq.mpr c22;clear c22;(first | rw [c22b0] | (simp only [i64_w,i32_w]; rw [c22b0]) | skip)
        replace H := Option.bind_eq_some_iff.mp H;obtain ⟨t590,A230,H⟩ := H;replace H : (if t590 = true then (laws_FnMoves.j1 kj6 l0 t571 t574 t578 t580 ((t580.length : Int) != (t574.length : Int))) else (laws_FnMoves.j1 kj6 l0 t571 t574 t578 t580 true)) = some r := H;have A23 := Aside0.mk A230;clear A230;by_cases c24 : t590 = true
        ·subst c24;have H1 : (laws_FnMoves.j1 kj6 l0 t571 t574 t578 t580 ((t580.length : Int) != (t574.length : Int))) = some r := by rw [if_pos rfl] at H; exact H
         clear H;have H := H1;clear H1;have H' := Aside0.mk H;clear H;go_wp2_with (first | (go_at_call 25; (with_reducible refine (impl_IsValidArchive.calls kj6 _ _ t571 _ _ t580 t577 true _ ?side1 ?side2 ?side3 ?side4 A23.out).mono ?_); (case side1 => exact yy122); (case side2 => exact (Kd.R_reads' HO_3.out).2.1); (case side3 => exact yy45); (case side4 => exact (Kd.N_reads' HO_8.out).2.1); rintro e w25 ⟨rfl,hb⟩; have n0_ := Aside0.mk (Kd.R_below yy9 hb); have n1_ := Aside0.mk (Kd.N_below yy27 hb); have n2_ := Aside0.mk (Kd.N_below yy28 hb); have n3_ := Aside0.mk (below_step yy1 hb); clear HO_3; clear HO_4; clear HO_8; clear HB; have HO_3 := n0_; have HO_4 := n1_; have HO_8 := n2_; have HB := n3_; clear n0_ n1_ n2_ n3_; (try clear hb); (try clear hb2); (try clear hk); (try clear hi)))
         go_meet
         case rel => exact ⟨_,(((t580.length : Int) != (t574.length : Int))),yy12,H',⟨(by have := HJ6.out; first | omega | exact Nat.le_refl _)⟩,⟨yy9⟩,⟨yy27⟩,⟨yy28⟩,⟨yy1⟩⟩
        ·replace c24 := Bool.eq_false_iff.mpr c24;subst c24;have H1 : (laws_FnMoves.j1 kj6 l0 t571 t574 t578 t580 true) = some r := by rw [if_neg (show ¬ (false = true) by decide)] at H; exact H
         clear H;have H := H1;clear H1;have H' := Aside0.mk H;clear H;go_wp2_with (first | (go_at_call 25; (with_reducible refine (impl_IsValidArchive.calls kj6 _ _ t571 _ _ t580 t577 false _ ?side1 ?side2 ?side3 ?side4 A23.out).mono ?_); (case side1 => exact yy122); (case side2 => exact (Kd.R_reads' HO_3.out).2.1); (case side3 => exact yy45); (case side4 => exact (Kd.N_reads' HO_8.out).2.1); rintro e w26 ⟨rfl,hb⟩; have n0_ := Aside0.mk (Kd.R_below yy9 hb); have n1_ := Aside0.mk (Kd.N_below yy27 hb); have n2_ := Aside0.mk (Kd.N_below yy28 hb); have n3_ := Aside0.mk (below_step yy1 hb); clear HO_3; clear HO_4; clear HO_8; clear HB; have HO_3 := n0_; have HO_4 := n1_; have HO_8 := n2_; have HB := n3_; clear n0_ n1_ n2_ n3_; (try clear hb); (try clear hb2); (try clear hk); (try clear hi)))
         go_meet
         case rel => exact ⟨_,(true),yy12,H',⟨(by have := HJ6.out; first | omega | exact Nat.le_refl _)⟩,⟨yy9⟩,⟨yy27⟩,⟨yy28⟩,⟨yy1⟩⟩
       ·rw [if_neg c22] at H;have c22b0 : (t588 == t579) = false := beq_eq_false_iff_ne.mpr c22;have c22b1 : (t588 != t579) = true := bne_iff_ne.mpr c22;(first | rw [c22b0] | (simp only [i64_w,i32_w]; rw [c22b0]) | skip)
        have H' := Aside0.mk H;clear H;go_wp2;go_meet
        case rel => exact ⟨_,(true),yy12,H',⟨(by have := HJ6.out; first | omega | exact Nat.le_refl _)⟩,⟨yy9⟩,⟨yy27⟩,⟨yy28⟩,⟨yy1⟩⟩
      ·replace c21 := Bool.eq_false_iff.mpr c21;subst c21;have H1 : (laws_FnMoves.j1 kj6 l0 t571 t574 t578 t580 true) = some r := by rw [if_neg (show ¬ (false = true) by decide)] at H; exact H
       clear H;have H := H1;clear H1;have H' := Aside0.mk H;clear H;go_wp2;go_meet
       case rel => exact ⟨_,(true),yy12,H',⟨(by have := HJ6.out; first | omega | exact Nat.le_refl _)⟩,⟨yy9⟩,⟨yy27⟩,⟨yy28⟩,⟨yy1⟩⟩
     case rest =>
      clear HC18
      try clear c1
      try clear c2
      try clear p2
      try clear c3
      try clear c4
      try clear c13
      try clear c13b0
      try clear c13b1
      try clear c13b2
      try clear c14
      try clear c15
      try clear c15b0
      try clear c15b1
      try clear c15b2
      try clear c20
      try clear c21
      try clear c22
      try clear c22b0
      try clear c22b1
      try clear c23
      try clear c24
      try clear p2
      obtain ⟨kq,x96_17,rfl,HA,HJ17,HO_3,HO_4,HO_8,HB⟩ := hcut;cases kq with
      | zero => exact absurd HA.out (by simp [laws_FnMoves.j1])
      | succ kj17 =>
       have H := HA.out;clear HA;simp only [laws_FnMoves.j1] at H;by_cases c27 : x96_17 = true
       ·subst c27;have H1 : (some false) = some r := by rw [if_pos rfl] at H; exact H
        clear H;have H := H1;clear H1;obtain rfl := Option.some.inj H;go_wp2;go_ret;exact ⟨yy11,yy1⟩
       ·replace c27 := Bool.eq_false_iff.mpr c27;subst c27;have H1 : (laws_FnMoves.l0 kj17 l0 t571 t574 t578 t580 0) = some r := by rw [if_neg (show ¬ (false = true) by decide)] at H; exact H
        clear H;have H := H1;clear H1;have H' := Aside0.mk H;clear H;go_wp2
        go_loopg [14] kj17 (fun kq v14 w' => ∃ (x14_3 : Int),v14 = .int .i64 x14_3 ∧ Aside0 (laws_FnMoves.l0 kq l0 t571 t574 t578 t580 x14_3 = some r) ∧ Aside0 (kq ≤ kj17) ∧ Aside0 (Kd.R k50 50 w' w.heap.size (fun _ => True) (.slice Ao9 t571.length co9) t571) ∧ Aside0 (Kd.N k62 62 w' w.heap.size (fun k_ => some k_ ≠ ((.slice Ao9 t571.length co9) : Value).ownBlock ∧ some k_ ≠ ((.slice Ao19 t580.length co19) : Value).ownBlock) (.slice Ao10 t574.length co10) t574) ∧ Aside0 (Kd.N k62 62 w' w.heap.size (fun k_ => some k_ ≠ ((.slice Ao9 t571.length co9) : Value).ownBlock ∧ some k_ ≠ ((.slice Ao10 t574.length co10) : Value).ownBlock) (.slice Ao19 t580.length co19) t580) ∧ Aside0 (Below w.heap.size w w'))
        case atStart => exact ⟨(0),yy12,H',⟨Nat.le_refl _⟩,⟨yy9⟩,⟨yy27⟩,⟨yy28⟩,⟨yy1⟩⟩
        case round =>
         clear H'
         try clear c1
         try clear c2
         try clear p2
         try clear c3
         try clear c4
         try clear c13
         try clear c13b0
         try clear c13b1
         try clear c13b2
         try clear c14
         try clear c15
         try clear c15b0
         try clear c15b1
         try clear c15b2
         try clear c20
         try clear c21
         try clear c22
         try clear c22b0
         try clear c22b1
         try clear c23
         try clear c24
         try clear c27
         try clear p2
         obtain ⟨x14_3,rfl,HA,HK3,HO_3,HO_4,HO_8,HB⟩ := hrel;cases gk with
         | zero => exact absurd HA.out (by simp [laws_FnMoves.l0])
         | succ k3 =>
          have H := HA.out;clear HA;simp only [laws_FnMoves.l0] at H;by_cases c28 : x14_3 < (t571.length : Int)
          ·rw [if_pos c28] at H;have c28b0 : decide (x14_3 < (t571.length : Int)) = true := decide_eq_true c28;clear c28;by_cases c29 : 0 ≤ x14_3
           ·rw [if_pos c29] at H;have c29b0 : decide (0 ≤ x14_3) = true := decide_eq_true c29;clear c29;replace H := Option.bind_eq_some_iff.mp H;obtain ⟨⟨t592,t593⟩,A300,H⟩ := H;replace H : ((impl_BoxOf.f k3 t580 ((rd_T50 t571 x14_3).f0)).bind fun bt595 => (if t593 = true then (if bt595.2 = true then (if ((rd_T50 t571 x14_3).f0) = t578 then (laws_FnMoves.l0 k3 l0 t571 t574 t578 t580 (wrap64 (x14_3 + 1))) else (if t592 = bt595.1 then (laws_FnMoves.l0 k3 l0 t571 t574 t578 t580 (wrap64 (x14_3 + 1))) else (some false))) else (some false)) else (some false))) = some r := H;have A30 := Aside0.mk A300;clear A300;replace H := Option.bind_eq_some_iff.mp H;obtain ⟨⟨t595,t596⟩,A310,H⟩ := H;replace H : (if t593 = true then (if t596 = true then (if ((rd_T50 t571 x14_3).f0) = t578 then (laws_FnMoves.l0 k3 l0 t571 t574 t578 t580 (wrap64 (x14_3 + 1))) else (if t592 = t595 then (laws_FnMoves.l0 k3 l0 t571 t574 t578 t580 (wrap64 (x14_3 + 1))) else (some false))) else (some false)) else (some false)) = some r := H;have A31 := Aside0.mk A310;clear A310;by_cases c32 : t593 = true
            ·subst c32;have H1 : (if t596 = true then (if ((rd_T50 t571 x14_3).f0) = t578 then (laws_FnMoves.l0 k3 l0 t571 t574 t578 t580 (wrap64 (x14_3 + 1))) else (if t592 = t595 then (laws_FnMoves.l0 k3 l0 t571 t574 t578 t580 (wrap64 (x14_3 + 1))) else (some false))) else (some false)) = some r := by rw [if_pos rfl] at H; exact H
             clear H;have H := H1;clear H1;by_cases c33 : t596 = true
             ·subst c33;have H1 : (if ((rd_T50 t571 x14_3).f0) = t578 then (laws_FnMoves.l0 k3 l0 t571 t574 t578 t580 (wrap64 (x14_3 + 1))) else (if t592 = t595 then (laws_FnMoves.l0 k3 l0 t571 t574 t578 t580 (wrap64 (x14_3 + 1))) else (some false))) = some r := by rw [if_pos rfl] at H; exact H
              clear H;have H := H1;clear H1;by_cases c34 : ((rd_T50 t571 x14_3).f0) = t578
              ·rw [if_pos c34] at H;have c34b0 : (((rd_T50 t571 x14_3).f0) == t578) = true := beq_iff_eq.mpr c34;have c34b1 : (((rd_T50 t571 x14_3).f0) != t578) = false := bne_eq_false_iff_eq.mpr c34;clear c34;have H' := Aside0.mk H;clear H;have p591 : 0 ≤ (x14_3 : Int) := of_decide_eq_true yy2;have q591 : x14_3 < (t571.length : Int) := of_decide_eq_true yy2;obtain ⟨ad591,e591,hx591_0,hx591_1,hx591_2⟩ := at_T50 (Kd.R_reads' HO_3.out).2.2 x14_3 p591 q591;cases e591;replace p591 := eq_true p591;replace q591 := eq_true q591;go_wp2_with (first | ((with_reducible refine gate_callee (f := 24) rfl ?_); refine goesL_ (some 110) rfl rfl Try.func24 (by kernel_rfl) rfl #[.slice Ao10 t574.length co10,.int .i64 ((rd_T50 t571 x14_3).f0)] rfl yy3 ?_; (with_reducible refine (impl_BoxOf.calls k3 _ _ t574 ((rd_T50 t571 x14_3).f0) t592 true _ ?side1 ?side2 A30.out).mono ?_); (case side1 => exact yy63); (case side2 => exact (Kd.N_reads' HO_4.out).2.1); rintro e w35 ⟨rfl,hb⟩; refine ⟨_,rfl,?_⟩; have n0_ := Aside0.mk (Kd.R_below yy9 hb); have n1_ := Aside0.mk (Kd.N_below yy27 hb); have n2_ := Aside0.mk (Kd.N_below yy28 hb); have n3_ := Aside0.mk (below_step yy1 hb); clear HO_3; clear HO_4; clear HO_8; clear HB; have HO_3 := n0_; have HO_4 := n1_; have HO_8 := n2_; have HB := n3_; clear n0_ n1_ n2_ n3_; (try clear hb); (try clear hb2); (try clear hk); (try clear hi); have p594 : 0 ≤ (x14_3 : Int) := of_decide_eq_true yy2; have q594 : x14_3 < (t571.length : Int) := of_decide_eq_true yy2; obtain ⟨ad594,e594,hx594_0,hx594_1,hx594_2⟩ := at_T50 (Kd.R_reads' HO_3.out).2.2 x14_3 p594 q594; obtain rfl : ad591 = ad594 := (by injection e594); replace p594 := eq_true p594; replace q594 := eq_true q594) | ((with_reducible refine gate_callee (f := 24) rfl ?_); refine goesL_ (some 120) rfl rfl Try.func24 (by kernel_rfl) rfl #[.slice Ao19 t580.length co19,.int .i64 ((rd_T50 t571 x14_3).f0)] rfl yy3 ?_; (with_reducible refine (impl_BoxOf.calls k3 _ _ t580 ((rd_T50 t571 x14_3).f0) t595 true _ ?side1 ?side2 A31.out).mono ?_); (case side1 => exact yy45); (case side2 => exact (Kd.N_reads' HO_8.out).2.1); rintro e w36 ⟨rfl,hb⟩; refine ⟨_,rfl,?_⟩; have n0_ := Aside0.mk (Kd.R_below yy9 hb); have n1_ := Aside0.mk (Kd.N_below yy27 hb); have n2_ := Aside0.mk (Kd.N_below yy28 hb); have n3_ := Aside0.mk (below_step yy1 hb); clear HO_3; clear HO_4; clear HO_8; clear HB; have HO_3 := n0_; have HO_4 := n1_; have HO_8 := n2_; have HB := n3_; clear n0_ n1_ n2_ n3_; (try clear hb); (try clear hb2); (try clear hk); (try clear hi); have p597 : 0 ≤ (x14_3 : Int) := of_decide_eq_true yy2; have q597 : x14_3 < (t571.length : Int) := of_decide_eq_true yy2; obtain ⟨ad597,e597,hx597_0,hx597_1,hx597_2⟩ := at_T50 (Kd.R_reads' HO_3.out).2.2 x14_3 p597 q597; obtain rfl : ad591 = ad597 := (by injection e597); replace p597 := eq_true p597; replace q597 := eq_true q597))
               go_roundg k3
               case measure => have := HJ6.out; have := HJ17.out; have := HK3.out; omega
               case rel => exact ⟨(wrap64 (x14_3 + 1)),yy12,H',⟨(by have := HJ6.out; have := HJ17.out; have := HK3.out; omega)⟩,⟨yy9⟩,⟨yy27⟩,⟨yy28⟩,⟨yy1⟩⟩
              ·rw [if_neg c34] at H;have c34b0 : (((rd_T50 t571 x14_3).f0) == t578) = false := beq_eq_false_iff_ne.mpr c34;have c34b1 : (((rd_T50 t571 x14_3).f0) != t578) = true := bne_iff_ne.mpr c34;by_cases c37 : t592 = t595
               ·rw [if_pos c37] at H;have c37b0 : (t592 == t595) = true := beq_iff_eq.mpr c37;have c37b1 : (t592 != t595) = false := bne_eq_false_iff_eq.mpr c37;clear c37;have H' := Aside0.mk H;clear H;have p591 : 0 ≤ (x14_3 : Int) := of_decide_eq_true yy2;have q591 : x14_3 < (t571.length : Int) := of_decide_eq_true yy2;obtain ⟨ad591,e591,hx591_0,hx591_1,hx591_2⟩ := at_T50 (Kd.R_reads' HO_3.out).2.2 x14_3 p591 q591;cases e591;replace p591 := eq_true p591;replace q591 := eq_true q591;go_wp2_with (first | ((with_reducible refine gate_callee (f := 24) rfl ?_); refine goesL_ (some 110) rfl rfl Try.func24 (by kernel_rfl) rfl #[.slice Ao10 t574.length co10,.int .i64 ((rd_T50 t571 x14_3).f0)] rfl yy3 ?_; (with_reducible refine (impl_BoxOf.calls k3 _ _ t574 ((rd_T50 t571 x14_3).f0) t592 true _ ?side1 ?side2 A30.out).mono ?_); (case side1 => exact yy63); (case side2 => exact (Kd.N_reads' HO_4.out).2.1); rintro e w38 ⟨rfl,hb⟩; refine ⟨_,rfl,?_⟩; have n0_ := Aside0.mk (Kd.R_below yy9 hb); have n1_ := Aside0.mk (Kd.N_below yy27 hb); have n2_ := Aside0.mk (Kd.N_below yy28 hb); have n3_ := Aside0.mk (below_step yy1 hb); clear HO_3; clear HO_4; clear HO_8; clear HB; have HO_3 := n0_; have HO_4 := n1_; have HO_8 := n2_; have HB := n3_; clear n0_ n1_ n2_ n3_; (try clear hb); (try clear hb2); (try clear hk); (try clear hi); have p594 : 0 ≤ (x14_3 : Int) := of_decide_eq_true yy2; have q594 : x14_3 < (t571.length : Int) := of_decide_eq_true yy2; obtain ⟨ad594,e594,hx594_0,hx594_1,hx594_2⟩ := at_T50 (Kd.R_reads' HO_3.out).2.2 x14_3 p594 q594; obtain rfl : ad591 = ad594 := (by injection e594); replace p594 := eq_true p594; replace q594 := eq_true q594) | ((with_reducible refine gate_callee (f := 24) rfl ?_); refine goesL_ (some 120) rfl rfl Try.func24 (by kernel_rfl) rfl #[.slice Ao19 t580.length co19,.int .i64 ((rd_T50 t571 x14_3).f0)] rfl yy3 ?_; (with_reducible refine (impl_BoxOf.calls k3 _ _ t580 ((rd_T50 t571 x14_3).f0) t595 true _ ?side1 ?side2 A31.out).mono ?_); (case side1 => exact yy45); (case side2 => exact (Kd.N_reads' HO_8.out).2.1); rintro e w39 ⟨rfl,hb⟩; refine ⟨_,rfl,?_⟩; have n0_ := Aside0.mk (Kd.R_below yy9 hb); have n1_ := Aside0.mk (Kd.N_below yy27 hb); have n2_ := Aside0.mk (Kd.N_below yy28 hb); have n3_ := Aside0.mk (below_step yy1 hb); clear HO_3; clear HO_4; clear HO_8; clear HB; have HO_3 := n0_; have HO_4 := n1_; have HO_8 := n2_; have HB := n3_; clear n0_ n1_ n2_ n3_; (try clear hb); (try clear hb2); (try clear hk); (try clear hi); have p597 : 0 ≤ (x14_3 : Int) := of_decide_eq_true yy2; have q597 : x14_3 < (t571.length : Int) := of_decide_eq_true yy2; obtain ⟨ad597,e597,hx597_0,hx597_1,hx597_2⟩ := at_T50 (Kd.R_reads' HO_3.out).2.2 x14_3 p597 q597; obtain rfl : ad591 = ad597 := (by injection e597); replace p597 := eq_true p597; replace q597 := eq_true q597))
                go_roundg k3
                case measure => have := HJ6.out; have := HJ17.out; have := HK3.out; omega
                case rel => exact ⟨(wrap64 (x14_3 + 1)),yy12,H',⟨(by have := HJ6.out; have := HJ17.out; have := HK3.out; omega)⟩,⟨yy9⟩,⟨yy27⟩,⟨yy28⟩,⟨yy1⟩⟩
               ·rw [if_neg c37] at H;have c37b0 : (t592 == t595) = false := beq_eq_false_iff_ne.mpr c37;have c37b1 : (t592 != t595) = true := bne_iff_ne.mpr c37;obtain rfl := Option.some.inj H;have p591 : 0 ≤ (x14_3 : Int) := of_decide_eq_true yy2;have q591 : x14_3 < (t571.length : Int) := of_decide_eq_true yy2;obtain ⟨ad591,e591,hx591_0,hx591_1,hx591_2⟩ := at_T50 (Kd.R_reads' HO_3.out).2.2 x14_3 p591 q591;cases e591;replace p591 := eq_true p591;replace q591 := eq_true q591;go_wp2_with (first | ((with_reducible refine gate_callee (f := 24) rfl ?_); refine goesL_ (some 110) rfl rfl Try.func24 (by kernel_rfl) rfl #[.slice Ao10 t574.length co10,.int .i64 ((rd_T50 t571 x14_3).f0)] rfl yy3 ?_; (with_reducible refine (impl_BoxOf.calls k3 _ _ t574 ((rd_T50 t571 x14_3).f0) t592 true _ ?side1 ?side2 A30.out).mono ?_); (case side1 => exact yy63); (case side2 => exact (Kd.N_reads' HO_4.out).2.1); rintro e w40 ⟨rfl,hb⟩; refine ⟨_,rfl,?_⟩; have n0_ := Aside0.mk (Kd.R_below yy9 hb); have n1_ := Aside0.mk (Kd.N_below yy27 hb); have n2_ := Aside0.mk (Kd.N_below yy28 hb); have n3_ := Aside0.mk (below_step yy1 hb); clear HO_3; clear HO_4; clear HO_8; clear HB; have HO_3 := n0_; have HO_4 := n1_; have HO_8 := n2_; have HB := n3_; clear n0_ n1_ n2_ n3_; (try clear hb); (try clear hb2); (try clear hk); (try clear hi); have p594 : 0 ≤ (x14_3 : Int) := of_decide_eq_true yy2; have q594 : x14_3 < (t571.length : Int) := of_decide_eq_true yy2; obtain ⟨ad594,e594,hx594_0,hx594_1,hx594_2⟩ := at_T50 (Kd.R_reads' HO_3.out).2.2 x14_3 p594 q594; obtain rfl : ad591 = ad594 := (by injection e594); replace p594 := eq_true p594; replace q594 := eq_true q594) | ((with_reducible refine gate_callee (f := 24) rfl ?_); refine goesL_ (some 120) rfl rfl Try.func24 (by kernel_rfl) rfl #[.slice Ao19 t580.length co19,.int .i64 ((rd_T50 t571 x14_3).f0)] rfl yy3 ?_; (with_reducible refine (impl_BoxOf.calls k3 _ _ t580 ((rd_T50 t571 x14_3).f0) t595 true _ ?side1 ?side2 A31.out).mono ?_); (case side1 => exact yy45); (case side2 => exact (Kd.N_reads' HO_8.out).2.1); rintro e w41 ⟨rfl,hb⟩; refine ⟨_,rfl,?_⟩; have n0_ := Aside0.mk (Kd.R_below yy9 hb); have n1_ := Aside0.mk (Kd.N_below yy27 hb); have n2_ := Aside0.mk (Kd.N_below yy28 hb); have n3_ := Aside0.mk (below_step yy1 hb); clear HO_3; clear HO_4; clear HO_8; clear HB; have HO_3 := n0_; have HO_4 := n1_; have HO_8 := n2_; have HB := n3_; clear n0_ n1_ n2_ n3_; (try clear hb); (try clear hb2); (try clear hk); (try clear hi); have p597 : 0 ≤ (x14_3 : Int) := of_decide_eq_true yy2; have q597 : x14_3 < (t571.length : Int) := of_decide_eq_true yy2; obtain ⟨ad597,e597,hx597_0,hx597_1,hx597_2⟩ := at_T50 (Kd.R_reads' HO_3.out).2.2 x14_3 p597 q597; obtain rfl : ad591 = ad597 := (by injection e597); replace p597 := eq_true p597; replace q597 := eq_true q597))
                go_ret;exact ⟨yy11,yy1⟩
             ·replace c33 := Bool.eq_false_iff.mpr c33;subst c33;have H1 : (some false) = some r := by rw [if_neg (show ¬ (false = true) by decide)] at H; exact H
              clear H;have H := H1;clear H1;obtain rfl := Option.some.inj H;have p591 : 0 ≤ (x14_3 : Int) := of_decide_eq_true yy2;have q591 : x14_3 < (t571.length : Int) := of_decide_eq_true yy2;obtain ⟨ad591,e591,hx591_0,hx591_1,hx591_2⟩ := at_T50 (Kd.R_reads' HO_3.out).2.2 x14_3 p591 q591;cases e591;replace p591 := eq_true p591;replace q591 := eq_true q591;go_wp2_with (first | ((with_reducible refine gate_callee (f := 24) rfl ?_); refine goesL_ (some 110) rfl rfl Try.func24 (by kernel_rfl) rfl #[.slice Ao10 t574.length co10,.int .i64 ((rd_T50 t571 x14_3).f0)] rfl yy3 ?_; (with_reducible refine (impl_BoxOf.calls k3 _ _ t574 ((rd_T50 t571 x14_3).f0) t592 true _ ?side1 ?side2 A30.out).mono ?_); (case side1 => exact yy63); (case side2 => exact (Kd.N_reads' HO_4.out).2.1); rintro e w42 ⟨rfl,hb⟩; refine ⟨_,rfl,?_⟩; have n0_ := Aside0.mk (Kd.R_below yy9 hb); have n1_ := Aside0.mk (Kd.N_below yy27 hb); have n2_ := Aside0.mk (Kd.N_below yy28 hb); have n3_ := Aside0.mk (below_step yy1 hb); clear HO_3; clear HO_4; clear HO_8; clear HB; have HO_3 := n0_; have HO_4 := n1_; have HO_8 := n2_; have HB := n3_; clear n0_ n1_ n2_ n3_; (try clear hb); (try clear hb2); (try clear hk); (try clear hi); have p594 : 0 ≤ (x14_3 : Int) := of_decide_eq_true yy2; have q594 : x14_3 < (t571.length : Int) := of_decide_eq_true yy2; obtain ⟨ad594,e594,hx594_0,hx594_1,hx594_2⟩ := at_T50 (Kd.R_reads' HO_3.out).2.2 x14_3 p594 q594; obtain rfl : ad591 = ad594 := (by injection e594); replace p594 := eq_true p594; replace q594 := eq_true q594) | ((with_reducible refine gate_callee (f := 24) rfl ?_); refine goesL_ (some 120) rfl rfl Try.func24 (by kernel_rfl) rfl #[.slice Ao19 t580.length co19,.int .i64 ((rd_T50 t571 x14_3).f0)] rfl yy3 ?_; (with_reducible refine (impl_BoxOf.calls k3 _ _ t580 ((rd_T50 t571 x14_3).f0) t595 false _ ?side1 ?side2 A31.out).mono ?_); (case side1 => exact yy45); (case side2 => exact (Kd.N_reads' HO_8.out).2.1); rintro e w43 ⟨rfl,hb⟩; refine ⟨_,rfl,?_⟩; have n0_ := Aside0.mk (Kd.R_below yy9 hb); have n1_ := Aside0.mk (Kd.N_below yy27 hb); have n2_ := Aside0.mk (Kd.N_below yy28 hb); have n3_ := Aside0.mk (below_step yy1 hb); clear HO_3; clear HO_4; clear HO_8; clear HB; have HO_3 := n0_; have HO_4 := n1_; have HO_8 := n2_; have HB := n3_; clear n0_ n1_ n2_ n3_; (try clear hb); (try clear hb2); (try clear hk); (try clear hi)))
              go_ret;exact ⟨yy11,yy1⟩
            ·replace c32 := Bool.eq_false_iff.mpr c32;subst c32;have H1 : (some false) = some r := by rw [if_neg (show ¬ (false = true) by decide)] at H; exact H
             clear H;have H := H1;clear H1;obtain rfl := Option.some.inj H;have p591 : 0 ≤ (x14_3 : Int) := of_decide_eq_true yy2;have q591 : x14_3 < (t571.length : Int) := of_decide_eq_true yy2;obtain ⟨ad591,e591,hx591_0,hx591_1,hx591_2⟩ := at_T50 (Kd.R_reads' HO_3.out).2.2 x14_3 p591 q591;cases e591;replace p591 := eq_true p591;replace q591 := eq_true q591;go_wp2_with (first | ((with_reducible refine gate_callee (f := 24) rfl ?_); refine goesL_ (some 110) rfl rfl Try.func24 (by kernel_rfl) rfl #[.slice Ao10 t574.length co10,.int .i64 ((rd_T50 t571 x14_3).f0)] rfl yy3 ?_; (with_reducible refine (impl_BoxOf.calls k3 _ _ t574 ((rd_T50 t571 x14_3).f0) t592 false _ ?side1 ?side2 A30.out).mono ?_); (case side1 => exact yy63); (case side2 => exact (Kd.N_reads' HO_4.out).2.1); rintro e w44 ⟨rfl,hb⟩; refine ⟨_,rfl,?_⟩; have n0_ := Aside0.mk (Kd.R_below yy9 hb); have n1_ := Aside0.mk (Kd.N_below yy27 hb); have n2_ := Aside0.mk (Kd.N_below yy28 hb); have n3_ := Aside0.mk (below_step yy1 hb); clear HO_3; clear HO_4; clear HO_8; clear HB; have HO_3 := n0_; have HO_4 := n1_; have HO_8 := n2_; have HB := n3_; clear n0_ n1_ n2_ n3_; (try clear hb); (try clear hb2); (try clear hk); (try clear hi); have p594 : 0 ≤ (x14_3 : Int) := of_decide_eq_true yy2; have q594 : x14_3 < (t571.length : Int) := of_decide_eq_true yy2; obtain ⟨ad594,e594,hx594_0,hx594_1,hx594_2⟩ := at_T50 (Kd.R_reads' HO_3.out).2.2 x14_3 p594 q594; obtain rfl : ad591 = ad594 := (by injection e594); replace p594 := eq_true p594; replace q594 := eq_true q594) | ((with_reducible refine gate_callee (f := 24) rfl ?_); refine goesL_ (some 120) rfl rfl Try.func24 (by kernel_rfl) rfl #[.slice Ao19 t580.length co19,.int .i64 ((rd_T50 t571 x14_3).f0)] rfl yy3 ?_; (with_reducible refine (impl_BoxOf.calls k3 _ _ t580 ((rd_T50 t571 x14_3).f0) t595 t596 _ ?side1 ?side2 A31.out).mono ?_); (case side1 => exact yy45); (case side2 => exact (Kd.N_reads' HO_8.out).2.1); rintro e w45 ⟨rfl,hb⟩; refine ⟨_,rfl,?_⟩; have n0_ := Aside0.mk (Kd.R_below yy9 hb); have n1_ := Aside0.mk (Kd.N_below yy27 hb); have n2_ := Aside0.mk (Kd.N_below yy28 hb); have n3_ := Aside0.mk (below_step yy1 hb); clear HO_3; clear HO_4; clear HO_8; clear HB; have HO_3 := n0_; have HO_4 := n1_; have HO_8 := n2_; have HB := n3_; clear n0_ n1_ n2_ n3_; (try clear hb); (try clear hb2); (try clear hk); (try clear hi)))
             go_ret;exact ⟨yy11,yy1⟩
           ·rw [if_neg c29] at H;exact absurd H (by simp)
          ·rw [if_neg c28] at H;have c28b0 : decide (x14_3 < (t571.length : Int)) = false := decide_eq_false c28;clear c28;replace H := Option.bind_eq_some_iff.mp H;obtain ⟨⟨t598,t599⟩,A460,H⟩ := H;replace H : ((impl_MayShare.f t598 t599).bind fun bt600 => ((impl_MayShare.f t599 t598).bind fun bt602 => ((spec_MayShare.f t598 t599).bind fun bt604 => (if (bt600.1 == bt604.1) = true then (if (bt600.2 == bt604.2) = true then (if (bt602.2 == bt604.2) = true then (some (bt602.1 == bt600.1)) else (some false)) else (some false)) else (some false))))) = some r := H;have A46 := Aside0.mk A460;clear A460;replace H := Option.bind_eq_some_iff.mp H;obtain ⟨⟨t600,t601⟩,A470,H⟩ := H;replace H : ((impl_MayShare.f t599 t598).bind fun bt602 => ((spec_MayShare.f t598 t599).bind fun bt604 => (if (t600 == bt604.1) = true then (if (t601 == bt604.2) = true then (if (bt602.2 == bt604.2) = true then (some (bt602.1 == t600)) else (some false)) else (some false)) else (some false)))) = some r := H;have A47 := Aside0.mk A470;clear A470;replace H := Option.bind_eq_some_iff.mp H;obtain ⟨⟨t602,t603⟩,A480,H⟩ := H;replace H : ((spec_MayShare.f t598 t599).bind fun bt604 => (if (t600 == bt604.1) = true then (if (t601 == bt604.2) = true then (if (t603 == bt604.2) = true then (some (t602 == t600)) else (some false)) else (some false)) else (some false))) = some r := H;have A48 := Aside0.mk A480;clear A480;replace H := Option.bind_eq_some_iff.mp H;obtain ⟨⟨t604,t605⟩,A490,H⟩ := H;replace H : (if (t600 == t604) = true then (if (t601 == t605) = true then (if (t603 == t605) = true then (some (t602 == t600)) else (some false)) else (some false)) else (some false)) = some r := H;have A49 := Aside0.mk A490;clear A490;by_cases c50 : (t600 == t604) = true
           ·rw [if_pos c50] at H;have c50b0 : (t600 == t604) = true := c50;(try (have c50b1 : decide (t600 = t604) = true := by simpa using c50))
            (try (have c50b2 : (t600 == t604) = true := by simpa using c50))
            clear c50;by_cases c51 : (t601 == t605) = true
            ·rw [if_pos c51] at H;have c51b0 : (t601 == t605) = true := c51;(try (have c51b1 : decide (t601 = t605) = true := by simpa using c51))
             (try (have c51b2 : (t601 == t605) = true := by simpa using c51))
             clear c51;by_cases c52 : (t603 == t605) = true
             ·rw [if_pos c52] at H;have c52b0 : (t603 == t605) = true := c52;(try (have c52b1 : decide (t603 = t605) = true := by simpa using c52))
              (try (have c52b2 : (t603 == t605) = true := by simpa using c52))
              clear c52;obtain rfl := Option.some.inj H;go_wp2_with (first | ((with_reducible refine gate_callee (f := 26) rfl ?_); refine goesL_ (some 145) rfl rfl Try.func26 (by kernel_rfl) rfl #[.slice A0 l0.length c0] rfl yy3 ?_; (with_reducible refine (spec_DrawMayShare.calls _ _ l0 t598 t599 _ ?side1 ?side2 A46.out).mono ?_); (case side1 => exact yy4); (case side2 => exact HC0.out); rintro e w53 ⟨rfl,hb⟩; refine ⟨_,rfl,?_⟩; have n0_ := Aside0.mk (Kd.R_below yy9 hb); have n1_ := Aside0.mk (Kd.N_below yy27 hb); have n2_ := Aside0.mk (Kd.N_below yy28 hb); have n3_ := Aside0.mk (below_step yy1 hb); clear HO_3; clear HO_4; clear HO_8; clear HB; have HO_3 := n0_; have HO_4 := n1_; have HO_8 := n2_; have HB := n3_; clear n0_ n1_ n2_ n3_; (try clear hb); (try clear hb2); (try clear hk); (try clear hi)) | ((with_reducible refine gate_callee (f := 27) rfl ?_); refine goesL_ (some 151) rfl rfl Try.func27 (by kernel_rfl) rfl #[.int .i64 t598,.int .i64 t599] rfl yy3 ?_; (with_reducible refine (impl_MayShare.calls t598 t599 t600 t601 _ A47.out).mono ?_); rintro e w' ⟨rfl,⟨nd,rfl⟩⟩; refine ⟨_,rfl,?_⟩) | ((with_reducible refine gate_callee (f := 27) rfl ?_); refine goesL_ (some 157) rfl rfl Try.func27 (by kernel_rfl) rfl #[.int .i64 t599,.int .i64 t598] rfl yy3 ?_; (with_reducible refine (impl_MayShare.calls t599 t598 t602 t603 _ A48.out).mono ?_); rintro e w' ⟨rfl,⟨nd,rfl⟩⟩; refine ⟨_,rfl,?_⟩) | ((with_reducible refine gate_callee (f := 28) rfl ?_); refine goesL_ (some 163) rfl rfl Try.func28 (by kernel_rfl) rfl #[.int .i64 t598,.int .i64 t599] rfl yy3 ?_; (with_reducible refine (spec_MayShare.calls t598 t599 t604 t605 _ A49.out).mono ?_); rintro e w' ⟨rfl,⟨nd,rfl⟩⟩; refine ⟨_,rfl,?_⟩))
              go_ret;exact ⟨yy11,yy1⟩
             ·rw [if_neg c52] at H;have c52b0 : (t603 == t605) = false := by simpa using c52
              (try (have c52b1 : decide (t603 = t605) = false := by simpa using c52))
              (try (have c52b2 : (t603 == t605) = false := by simpa using c52))
              (try (have c52b3 : ¬ (t603 = t605) := by simpa using c52))
              clear c52;obtain rfl := Option.some.inj H;go_wp2_with (first | ((with_reducible refine gate_callee (f := 26) rfl ?_); refine goesL_ (some 145) rfl rfl Try.func26 (by kernel_rfl) rfl #[.slice A0 l0.length c0] rfl yy3 ?_; (with_reducible refine (spec_DrawMayShare.calls _ _ l0 t598 t599 _ ?side1 ?side2 A46.out).mono ?_); (case side1 => exact yy4); (case side2 => exact HC0.out); rintro e w54 ⟨rfl,hb⟩; refine ⟨_,rfl,?_⟩; have n0_ := Aside0.mk (Kd.R_below yy9 hb); have n1_ := Aside0.mk (Kd.N_below yy27 hb); have n2_ := Aside0.mk (Kd.N_below yy28 hb); have n3_ := Aside0.mk (below_step yy1 hb); clear HO_3; clear HO_4; clear HO_8; clear HB; have HO_3 := n0_; have HO_4 := n1_; have HO_8 := n2_; have HB := n3_; clear n0_ n1_ n2_ n3_; (try clear hb); (try clear hb2); (try clear hk); (try clear hi)) | ((with_reducible refine gate_callee (f := 27) rfl ?_); refine goesL_ (some 151) rfl rfl Try.func27 (by kernel_rfl) rfl #[.int .i64 t598,.int .i64 t599] rfl yy3 ?_; (with_reducible refine (impl_MayShare.calls t598 t599 t600 t601 _ A47.out).mono ?_); rintro e w' ⟨rfl,⟨nd,rfl⟩⟩; refine ⟨_,rfl,?_⟩) | ((with_reducible refine gate_callee (f := 27) rfl ?_); refine goesL_ (some 157) rfl rfl Try.func27 (by kernel_rfl) rfl #[.int .i64 t599,.int .i64 t598] rfl yy3 ?_; (with_reducible refine (impl_MayShare.calls t599 t598 t602 t603 _ A48.out).mono ?_); rintro e w' ⟨rfl,⟨nd,rfl⟩⟩; refine ⟨_,rfl,?_⟩) | ((with_reducible refine gate_callee (f := 28) rfl ?_); refine goesL_ (some 163) rfl rfl Try.func28 (by kernel_rfl) rfl #[.int .i64 t598,.int .i64 t599] rfl yy3 ?_; (with_reducible refine (spec_MayShare.calls t598 t599 t604 t605 _ A49.out).mono ?_); rintro e w' ⟨rfl,⟨nd,rfl⟩⟩; refine ⟨_,rfl,?_⟩))
              go_ret;exact ⟨yy11,yy1⟩
            ·rw [if_neg c51] at H;have c51b0 : (t601 == t605) = false := by simpa using c51
             (try (have c51b1 : decide (t601 = t605) = false := by simpa using c51))
             (try (have c51b2 : (t601 == t605) = false := by simpa using c51))
             (try (have c51b3 : ¬ (t601 = t605) := by simpa using c51))
             clear c51;obtain rfl := Option.some.inj H;go_wp2_with (first | ((with_reducible refine gate_callee (f := 26) rfl ?_); refine goesL_ (some 145) rfl rfl Try.func26 (by kernel_rfl) rfl #[.slice A0 l0.length c0] rfl yy3 ?_; (with_reducible refine (spec_DrawMayShare.calls _ _ l0 t598 t599 _ ?side1 ?side2 A46.out).mono ?_); (case side1 => exact yy4); (case side2 => exact HC0.out); rintro e w55 ⟨rfl,hb⟩; refine ⟨_,rfl,?_⟩; have n0_ := Aside0.mk (Kd.R_below yy9 hb); have n1_ := Aside0.mk (Kd.N_below yy27 hb); have n2_ := Aside0.mk (Kd.N_below yy28 hb); have n3_ := Aside0.mk (below_step yy1 hb); clear HO_3; clear HO_4; clear HO_8; clear HB; have HO_3 := n0_; have HO_4 := n1_; have HO_8 := n2_; have HB := n3_; clear n0_ n1_ n2_ n3_; (try clear hb); (try clear hb2); (try clear hk); (try clear hi)) | ((with_reducible refine gate_callee (f := 27) rfl ?_); refine goesL_ (some 151) rfl rfl Try.func27 (by kernel_rfl) rfl #[.int .i64 t598,.int .i64 t599] rfl yy3 ?_; (with_reducible refine (impl_MayShare.calls t598 t599 t600 t601 _ A47.out).mono ?_); rintro e w' ⟨rfl,⟨nd,rfl⟩⟩; refine ⟨_,rfl,?_⟩) | ((with_reducible refine gate_callee (f := 27) rfl ?_); refine goesL_ (some 157) rfl rfl Try.func27 (by kernel_rfl) rfl #[.int .i64 t599,.int .i64 t598] rfl yy3 ?_; (with_reducible refine (impl_MayShare.calls t599 t598 t602 t603 _ A48.out).mono ?_); rintro e w' ⟨rfl,⟨nd,rfl⟩⟩; refine ⟨_,rfl,?_⟩) | ((with_reducible refine gate_callee (f := 28) rfl ?_); refine goesL_ (some 163) rfl rfl Try.func28 (by kernel_rfl) rfl #[.int .i64 t598,.int .i64 t599] rfl yy3 ?_; (with_reducible refine (spec_MayShare.calls t598 t599 t604 t605 _ A49.out).mono ?_); rintro e w' ⟨rfl,⟨nd,rfl⟩⟩; refine ⟨_,rfl,?_⟩))
             go_ret;exact ⟨yy11,yy1⟩
           ·rw [if_neg c50] at H;have c50b0 : (t600 == t604) = false := by simpa using c50
            (try (have c50b1 : decide (t600 = t604) = false := by simpa using c50))
            (try (have c50b2 : (t600 == t604) = false := by simpa using c50))
            (try (have c50b3 : ¬ (t600 = t604) := by simpa using c50))
            clear c50;obtain rfl := Option.some.inj H;go_wp2_with (first | ((with_reducible refine gate_callee (f := 26) rfl ?_); refine goesL_ (some 145) rfl rfl Try.func26 (by kernel_rfl) rfl #[.slice A0 l0.length c0] rfl yy3 ?_; (with_reducible refine (spec_DrawMayShare.calls _ _ l0 t598 t599 _ ?side1 ?side2 A46.out).mono ?_); (case side1 => exact yy4); (case side2 => exact HC0.out); rintro e w56 ⟨rfl,hb⟩; refine ⟨_,rfl,?_⟩; have n0_ := Aside0.mk (Kd.R_below yy9 hb); have n1_ := Aside0.mk (Kd.N_below yy27 hb); have n2_ := Aside0.mk (Kd.N_below yy28 hb); have n3_ := Aside0.mk (below_step yy1 hb); clear HO_3; clear HO_4; clear HO_8; clear HB; have HO_3 := n0_; have HO_4 := n1_; have HO_8 := n2_; have HB := n3_; clear n0_ n1_ n2_ n3_; (try clear hb); (try clear hb2); (try clear hk); (try clear hi)) | ((with_reducible refine gate_callee (f := 27) rfl ?_); refine goesL_ (some 151) rfl rfl Try.func27 (by kernel_rfl) rfl #[.int .i64 t598,.int .i64 t599] rfl yy3 ?_; (with_reducible refine (impl_MayShare.calls t598 t599 t600 t601 _ A47.out).mono ?_); rintro e w' ⟨rfl,⟨nd,rfl⟩⟩; refine ⟨_,rfl,?_⟩) | ((with_reducible refine gate_callee (f := 27) rfl ?_); refine goesL_ (some 157) rfl rfl Try.func27 (by kernel_rfl) rfl #[.int .i64 t599,.int .i64 t598] rfl yy3 ?_; (with_reducible refine (impl_MayShare.calls t599 t598 t602 t603 _ A48.out).mono ?_); rintro e w' ⟨rfl,⟨nd,rfl⟩⟩; refine ⟨_,rfl,?_⟩) | ((with_reducible refine gate_callee (f := 28) rfl ?_); refine goesL_ (some 163) rfl rfl Try.func28 (by kernel_rfl) rfl #[.int .i64 t598,.int .i64 t599] rfl yy3 ?_; (with_reducible refine (spec_MayShare.calls t598 t599 t604 t605 _ A49.out).mono ?_); rintro e w' ⟨rfl,⟨nd,rfl⟩⟩; refine ⟨_,rfl,?_⟩))
            go_ret;exact ⟨yy11,yy1⟩
def laws_FnMoves.Pure : Prop := ∀ (l0 : List Int),l0.length ≤ maxLen → l0.length * 1 ≤ 140737488351232 → (∀ x ∈ l0,(Lit.int .u8 x).wf = true) → ∃ k,laws_FnMoves.f k l0 = some true
theorem laws_FnMoves.walk (P : laws_FnMoves.Pure) (a0 : Option Addr) (len0 cap0 : Nat) (z0 : List Int) (w : World) (w0 : (a0 = none ∧ len0 = 0 ∧ cap0 = 0 ∧ z0 = []) ∨ ∃ x,a0 = some x ∧ len0 ≤ cap0 ∧ cap0 ≤ maxLen ∧ z0.length = cap0 ∧ (∀ i,i < z0.length → w.cell? (x.add i) = some (.int .u8 (z0.getD i 0))) ∧ ∀ n ∈ z0,(Lit.int .u8 n).wf = true) (y0 : len0 * 1 ≤ 140737488351232) :
  Calls Try.prog 4 #[.slice a0 len0 cap0] w fun e w' => e = .returned (.bool true) ∧ Below w.heap.size w w' := by
 obtain ⟨l0,rfl,hr0,hm0,hw0,hc0⟩ := ReadsInt.ofRowC w0;obtain ⟨k,h⟩ := P l0 hm0 y0 hw0;refine (laws_FnMoves.calls k _ _ l0 true w (Kd.C_of_reads (d := (0 : Int)) (h1 := fun _ => rfl) hr0) hc0 h).mono ?_;rintro e w' ⟨rfl,hd⟩;exact ⟨rfl,hd⟩
end Go.Proofs.Ytoadgikbbigdlaa.B
