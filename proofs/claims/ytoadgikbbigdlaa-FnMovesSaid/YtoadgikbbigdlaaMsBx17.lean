import Derived.Test.YtoadgikbbigdlaaMsWAb
import Derived.Test.YtoadgikbbigdlaaMsBx0
import Derived.Test.YtoadgikbbigdlaaMsBx2
import Derived.Test.YtoadgikbbigdlaaMsBx5
import Derived.Test.YtoadgikbbigdlaaMsBx9
import Derived.Test.YtoadgikbbigdlaaMsBx16
namespace Go.Proofs.Ytoadgikbbigdlaa.B
open Go.RowKit Go.Proofs.YtoadgikbbigdlaaW.PrintWords Go.Proofs.YtoadgikbbigdlaaW.PrintLast Go.Proofs.YtoadgikbbigdlaaW.PrintMore
attribute [local go_sem] max2_int min2_int max_two min_two max_three min_three max_four min_four   -- for this text's walks alone
set_option linter.unusedVariables false
set_option linter.unusedSimpArgs false
mutual
def spec_MoveItem.j0 : Nat → List (S50) → List (S62) → Int → Int → Int → List (S62) → Bool → Option ((List (S62)) × Bool)
 | 0,_,_,_,_,_,_,_ => none
 | k + 1,x0,x1,x2,x3,x4,x12,x28 => if x28 = true then (some (x12,false)) else (spec_MoveItem.l0 k x0 x1 x2 x3 x4 x12 false 0)
def spec_MoveItem.l0 : Nat → List (S50) → List (S62) → Int → Int → Int → List (S62) → Bool → Int → Option ((List (S62)) × Bool)
 | 0,_,_,_,_,_,_,_,_ => none
 | k + 1,x0,x1,x2,x3,x4,x12,x13,x14 => if x14 < (x1.length : Int) then (spec_MoveItem.l1 k x0 x1 x2 x3 x4 x12 x13 x14 (([] : List Int)) 0) else (if x13 = true then ((spec_l26Good.f k x0 x12 x2).bind fun t522 => (if t522 = true then (some (x12,true)) else (some ((([] : List (S62))),false)))) else (some ((([] : List (S62))),false)))
def spec_MoveItem.l1 : Nat → List (S50) → List (S62) → Int → Int → Int → List (S62) → Bool → Int → List Int → Int → Option ((List (S62)) × Bool)
 | 0,_,_,_,_,_,_,_,_,_,_ => none
 | k + 1,x0,x1,x2,x3,x4,x12,x13,x14,x15,x16 => if 0 ≤ x14 then (if x14 < (x1.length : Int) then (if x16 < (((rd_T62 x1 x14).f1).length : Int) then (if 0 ≤ x16 then (if (rd ((rd_T62 x1 x14).f1) x16) = x3 then (spec_MoveItem.l1 k x0 x1 x2 x3 x4 x12 x13 x14 x15 (wrap64 (x16 + 1))) else (if x15.length < 17592186044416 then (spec_MoveItem.l1 k x0 x1 x2 x3 x4 x12 x13 x14 (x15 ++ [rd ((rd_T62 x1 x14).f1) x16]) (wrap64 (x16 + 1))) else (none))) else (none)) else (if ((rd_T62 x1 x14).f0) = x4 then ((spec_l1Put.f k x15 x3).bind fun t541 => (if x12.length < 4398046511104 then (spec_MoveItem.l0 k x0 x1 x2 x3 x4 (x12 ++ [(⟨(rd_T62 x1 x14).f0,t541⟩ : S62)]) true (wrap64 (x14 + 1))) else (none))) else (if x12.length < 4398046511104 then (spec_MoveItem.l0 k x0 x1 x2 x3 x4 (x12 ++ [(⟨(rd_T62 x1 x14).f0,x15⟩ : S62)]) x13 (wrap64 (x14 + 1))) else (none)))) else (none)) else (none)
end
def spec_MoveItem.f (k : Nat) (l0 : List (S50)) (l1 : List (S62)) (a2 : Int) (a3 : Int) (a4 : Int) : Option ((List (S62)) × Bool) := (some (([] : List (S62)) : List (S62))).bind fun y517 => ((spec_l26Good.f k l0 l1 a2).bind fun t520 => (if t520 = true then ((spec_l26Find.f k l0 a3).bind fun t521 => (spec_MoveItem.j0 k l0 l1 a2 a3 a4 y517 (decide (t521 < 0)))) else (spec_MoveItem.j0 k l0 l1 a2 a3 a4 y517 true)))
theorem spec_MoveItem.mono_l : ∀ k,(∀ y0 y1 y2 y3 y4 y5 y6,LeO (spec_MoveItem.j0 k y0 y1 y2 y3 y4 y5 y6) (spec_MoveItem.j0 (k + 1) y0 y1 y2 y3 y4 y5 y6)) ∧ (∀ y0 y1 y2 y3 y4 y5 y6 y7,LeO (spec_MoveItem.l0 k y0 y1 y2 y3 y4 y5 y6 y7) (spec_MoveItem.l0 (k + 1) y0 y1 y2 y3 y4 y5 y6 y7)) ∧ (∀ y0 y1 y2 y3 y4 y5 y6 y7 y8 y9,LeO (spec_MoveItem.l1 k y0 y1 y2 y3 y4 y5 y6 y7 y8 y9) (spec_MoveItem.l1 (k + 1) y0 y1 y2 y3 y4 y5 y6 y7 y8 y9))
 | 0 => ⟨fun _ _ _ _ _ _ _ r h => by simp [spec_MoveItem.j0] at h,fun _ _ _ _ _ _ _ _ r h => by simp [spec_MoveItem.l0] at h,fun _ _ _ _ _ _ _ _ _ _ r h => by simp [spec_MoveItem.l1] at h⟩
 | k + 1 => by
  obtain ⟨ih0,ih1,ih2⟩ := spec_MoveItem.mono_l k;refine ⟨?_,?_,?_⟩
  ·intro y0 y1 y2 y3 y4 y5 y6;unfold spec_MoveItem.j0;repeat' first
   | (with_reducible exact ih0 _ _ _ _ _ _ _)
   | (with_reducible exact ih1 _ _ _ _ _ _ _ _)
   | (with_reducible exact ih2 _ _ _ _ _ _ _ _ _ _)
   | (with_reducible exact spec_l1Put.mono _ _ _)
   | (with_reducible exact spec_l26Find.mono _ _ _)
   | (with_reducible exact spec_l26Good.mono _ _ _ _)
   | (with_reducible exact LeO.refl _)
   | (with_reducible exact LeO.none _)
   | (with_reducible refine LeO.ite ?_ ?_)
   | (with_reducible refine LeO.bind ?_ (fun _ => ?_))
   | exact ih0 _ _ _ _ _ _ _
   | exact ih1 _ _ _ _ _ _ _ _
   | exact ih2 _ _ _ _ _ _ _ _ _ _
   | exact spec_l1Put.mono _ _ _
   | exact spec_l26Find.mono _ _ _
   | exact spec_l26Good.mono _ _ _ _
   | exact LeO.none _
   | refine LeO.ite ?_ ?_
   | refine LeO.bind ?_ (fun _ => ?_)
  ·intro y0 y1 y2 y3 y4 y5 y6 y7;unfold spec_MoveItem.l0;repeat' first
   | (with_reducible exact ih0 _ _ _ _ _ _ _)
   | (with_reducible exact ih1 _ _ _ _ _ _ _ _)
   | (with_reducible exact ih2 _ _ _ _ _ _ _ _ _ _)
   | (with_reducible exact spec_l1Put.mono _ _ _)
   | (with_reducible exact spec_l26Find.mono _ _ _)
   | (with_reducible exact spec_l26Good.mono _ _ _ _)
   | (with_reducible exact LeO.refl _)
   | (with_reducible exact LeO.none _)
   | (with_reducible refine LeO.ite ?_ ?_)
   | (with_reducible refine LeO.bind ?_ (fun _ => ?_))
   | exact ih0 _ _ _ _ _ _ _
   | exact ih1 _ _ _ _ _ _ _ _
   | exact ih2 _ _ _ _ _ _ _ _ _ _
   | exact spec_l1Put.mono _ _ _
   | exact spec_l26Find.mono _ _ _
   | exact spec_l26Good.mono _ _ _ _
   | exact LeO.none _
   | refine LeO.ite ?_ ?_
   | refine LeO.bind ?_ (fun _ => ?_)
  ·intro y0 y1 y2 y3 y4 y5 y6 y7 y8 y9;unfold spec_MoveItem.l1;repeat' first
   | (with_reducible exact ih0 _ _ _ _ _ _ _)
   | (with_reducible exact ih1 _ _ _ _ _ _ _ _)
   | (with_reducible exact ih2 _ _ _ _ _ _ _ _ _ _)
   | (with_reducible exact spec_l1Put.mono _ _ _)
   | (with_reducible exact spec_l26Find.mono _ _ _)
   | (with_reducible exact spec_l26Good.mono _ _ _ _)
   | (with_reducible exact LeO.refl _)
   | (with_reducible exact LeO.none _)
   | (with_reducible refine LeO.ite ?_ ?_)
   | (with_reducible refine LeO.bind ?_ (fun _ => ?_))
   | exact ih0 _ _ _ _ _ _ _
   | exact ih1 _ _ _ _ _ _ _ _
   | exact ih2 _ _ _ _ _ _ _ _ _ _
   | exact spec_l1Put.mono _ _ _
   | exact spec_l26Find.mono _ _ _
   | exact spec_l26Good.mono _ _ _ _
   | exact LeO.none _
   | refine LeO.ite ?_ ?_
   | refine LeO.bind ?_ (fun _ => ?_)
theorem spec_MoveItem.mono : ∀ a0 a1 a2 a3 a4 k,LeO (spec_MoveItem.f k a0 a1 a2 a3 a4) (spec_MoveItem.f (k + 1) a0 a1 a2 a3 a4) := by
 intro a0 a1 a2 a3 a4 k;obtain ⟨ih0,ih1,ih2⟩ := spec_MoveItem.mono_l k;unfold spec_MoveItem.f;repeat' first
   | (with_reducible exact ih0 _ _ _ _ _ _ _)
   | (with_reducible exact ih1 _ _ _ _ _ _ _ _)
   | (with_reducible exact ih2 _ _ _ _ _ _ _ _ _ _)
   | (with_reducible exact spec_l1Put.mono _ _ _)
   | (with_reducible exact spec_l26Find.mono _ _ _)
   | (with_reducible exact spec_l26Good.mono _ _ _ _)
   | (with_reducible exact LeO.refl _)
   | (with_reducible exact LeO.none _)
   | (with_reducible refine LeO.ite ?_ ?_)
   | (with_reducible refine LeO.bind ?_ (fun _ => ?_))
   | exact ih0 _ _ _ _ _ _ _
   | exact ih1 _ _ _ _ _ _ _ _
   | exact ih2 _ _ _ _ _ _ _ _ _ _
   | exact spec_l1Put.mono _ _ _
   | exact spec_l26Find.mono _ _ _
   | exact spec_l26Good.mono _ _ _ _
   | exact LeO.none _
   | refine LeO.ite ?_ ?_
   | refine LeO.bind ?_ (fun _ => ?_)
set_option maxHeartbeats 8000000 in
set_option maxRecDepth 100000 in
theorem spec_MoveItem.calls (k : Nat) (A0 : Option Addr) (c0 : Nat) (l0 : List (S50)) (A1 : Option Addr) (c1 : Nat) (l1 : List (S62)) (a2 : Int) (a3 : Int) (a4 : Int) (r1 : List (S62)) (r2 : Bool) (w : World) (hr0 : Kd.C k50 w A0 l0.length l0) (hc0 : l0.length ≤ c0) (hr1 : Kd.C k62 w A1 l1.length l1) (hc1 : l1.length ≤ c1) (h : spec_MoveItem.f k l0 l1 a2 a3 a4 = some (r1,r2)) :
  Calls Try.prog 23 #[.slice A0 l0.length c0,.slice A1 l1.length c1,.int .i64 a2,.int .i64 a3,.int .i64 a4] w fun e w' => ∃ v0_ : Value,e = .returned (.tuple #[v0_,.bool r2]) ∧ Kd.S k62 62 w' w.heap.size (fun _ => True) v0_ r1 ∧ Below w.heap.size w w' := by
 have hu62 := Try.underlying62;have HR0 := Aside0.mk hr0;have HC0 := Aside0.mk hc0;clear hr0 hc0;have HR1 := Aside0.mk hr1;have HC1 := Aside0.mk hc1;clear hr1 hc1;have HB := Aside0.mk (Below.refl w.heap.size w);have H : ((some (([] : List (S62)) : List (S62))).bind fun y517 => ((spec_l26Good.f k l0 l1 a2).bind fun t520 => (if t520 = true then ((spec_l26Find.f k l0 a3).bind fun t521 => (spec_MoveItem.j0 k l0 l1 a2 a3 a4 y517 (decide (t521 < 0)))) else (spec_MoveItem.j0 k l0 l1 a2 a3 a4 y517 true)))) = some (r1,r2) := h;clear h;obtain ⟨y517,hy517⟩ : ∃ y_ : List (S62),y_ = (([] : List (S62))) := ⟨_,rfl⟩
 replace H : ((spec_l26Good.f k l0 l1 a2).bind fun t520 => (if t520 = true then ((spec_l26Find.f k l0 a3).bind fun t521 => (spec_MoveItem.j0 k l0 l1 a2 a3 a4 y517 (decide (t521 < 0)))) else (spec_MoveItem.j0 k l0 l1 a2 a3 a4 y517 true))) = some (r1,r2) := by first | (rw [hy517]; with_reducible exact H) | (have H2_ := (Option.bind_some _ _).symm.trans H; rw [hy517]; with_reducible exact H2_) | (have H2_ := (Option.bind_some _ _).symm.trans H; with_reducible exact H2_) | with_reducible exact H | (rw [hy517]; exact H) | exact H
 have Ny517 := Aside0.mk hy517;clear hy517;have HC6 := Aside0.mk H;clear H;go_enter Try.func23,Try.ntmps23;go_upto_region 2 with (first | ((with_reducible refine gate_dst (N := 17) rfl ?_); refine Kd.S_lit k62 _ 62 ?hg (N := 17) ?hd (xs := ([] : List (S62))) (inner := []) (ok := fun _ => True) (okp := fun _ => True) ?hr ?hp (fun _ hk => hk) trivial (Below.refl _ _) (Nat.le_refl _) (by simp) ?_; (case hd => rfl); (case hg => rfl); (case hr => first | (go_simp; done) | (go_simp; rfl)); (case hp => exact (Reps.none _ _)); intro v518 w7 ho8 hb hg_ hnew_; clear hg_ hnew_; (first | rw [← Ny517.out] at ho8 | (simp only [Int.reduceToNat] at ho8; rw [← Ny517.out] at ho8)); have n0_ := Aside0.mk (Kd.S_lower ho8 (below_size yy1)); have n1_ := Aside0.mk (below_step yy1 hb); clear HB; have HO519 := n0_; have HB := n1_; clear n0_ n1_; clear hb ho8))
 (try simp only [Act.put,List.setIfInBounds_toArray,List.set_cons_zero,List.set_cons_succ])
 go_cut [28] (fun v28 wc => ∃ (kq : Nat) (x28_5 : Bool),v28 = .bool x28_5 ∧ Aside0 (spec_MoveItem.j0 kq l0 l1 a2 a3 a4 y517 x28_5 = some (r1,r2)) ∧ Aside0 (kq ≤ k) ∧ Aside0 (Kd.S k62 62 wc w.heap.size (fun _ => True) v518 y517) ∧ Aside0 (Below w.heap.size w wc))
 case first =>
  have H := HC6.out;clear HC6;replace H := Option.bind_eq_some_iff.mp H;obtain ⟨t520,A90,H⟩ := H;replace H : (if t520 = true then ((spec_l26Find.f k l0 a3).bind fun t521 => (spec_MoveItem.j0 k l0 l1 a2 a3 a4 y517 (decide (t521 < 0)))) else (spec_MoveItem.j0 k l0 l1 a2 a3 a4 y517 true)) = some (r1,r2) := H;have A9 := Aside0.mk A90;clear A90;by_cases c10 : t520 = true
  ·subst c10;have H1 : ((spec_l26Find.f k l0 a3).bind fun t521 => (spec_MoveItem.j0 k l0 l1 a2 a3 a4 y517 (decide (t521 < 0)))) = some (r1,r2) := by rw [if_pos rfl] at H; exact H
   clear H;have H := H1;clear H1;replace H := Option.bind_eq_some_iff.mp H;obtain ⟨t521,A110,H⟩ := H;replace H : (spec_MoveItem.j0 k l0 l1 a2 a3 a4 y517 (decide (t521 < 0))) = some (r1,r2) := H;have A11 := Aside0.mk A110;clear A110;have H' := Aside0.mk H;clear H;go_wp2_with (first | ((with_reducible refine gate_callee (f := 55) rfl ?_); refine goesL_ (some 21) rfl rfl Try.func55 (by kernel_rfl) rfl #[.slice A0 l0.length c0,.slice A1 l1.length c1,.int .i64 a2] rfl yy3 ?_; (with_reducible refine (spec_l26Good.calls k _ _ l0 _ _ l1 a2 true _ ?side1 ?side2 ?side3 ?side4 A9.out).mono ?_); (case side1 => exact yy4); (case side2 => exact HC0.out); (case side3 => exact yy117); (case side4 => exact HC1.out); rintro e w12 ⟨rfl,hb⟩; refine ⟨_,rfl,?_⟩; have n0_ := Aside0.mk (Kd.S_below yy97 hb); have n1_ := Aside0.mk (below_step yy1 hb); clear HO519; clear HB; have HO519 := n0_; have HB := n1_; clear n0_ n1_; (try clear hb); (try clear hb2); (try clear hk); (try clear hi)) | (go_at_call 34; (with_reducible refine (spec_l26Find.calls k _ _ l0 a3 t521 _ ?side1 ?side2 A11.out).mono ?_); (case side1 => exact yy4); (case side2 => exact HC0.out); rintro e w' ⟨rfl,⟨nd,rfl⟩⟩))
   go_meet
   case rel => exact ⟨_,(decide (t521 < 0)),yy12,H',⟨yy83⟩,⟨yy97⟩,⟨yy1⟩⟩
  ·replace c10 := Bool.eq_false_iff.mpr c10;subst c10;have H1 : (spec_MoveItem.j0 k l0 l1 a2 a3 a4 y517 true) = some (r1,r2) := by rw [if_neg (show ¬ (false = true) by decide)] at H; exact H
   clear H;have H := H1;clear H1;have H' := Aside0.mk H;clear H;go_wp2_with (first | ((with_reducible refine gate_callee (f := 55) rfl ?_); refine goesL_ (some 21) rfl rfl Try.func55 (by kernel_rfl) rfl #[.slice A0 l0.length c0,.slice A1 l1.length c1,.int .i64 a2] rfl yy3 ?_; (with_reducible refine (spec_l26Good.calls k _ _ l0 _ _ l1 a2 false _ ?side1 ?side2 ?side3 ?side4 A9.out).mono ?_); (case side1 => exact yy4); (case side2 => exact HC0.out); (case side3 => exact yy117); (case side4 => exact HC1.out); rintro e w13 ⟨rfl,hb⟩; refine ⟨_,rfl,?_⟩; have n0_ := Aside0.mk (Kd.S_below yy97 hb); have n1_ := Aside0.mk (below_step yy1 hb); clear HO519; clear HB; have HO519 := n0_; have HB := n1_; clear n0_ n1_; (try clear hb); (try clear hb2); (try clear hk); (try clear hi)))
   go_meet
   case rel => exact ⟨_,(true),yy12,H',⟨yy83⟩,⟨yy97⟩,⟨yy1⟩⟩
 case rest =>
  clear HC6
  try clear c1
  try clear c2
  try clear p2
  try clear c5
  try clear c10
  obtain ⟨kq,x28_5,rfl,HA,HJ5,HO_12,HB⟩ := hcut;cases kq with
  | zero => exact absurd HA.out (by simp [spec_MoveItem.j0])
  | succ kj5 =>
   have H := HA.out;clear HA;simp only [spec_MoveItem.j0] at H;by_cases c14 : x28_5 = true
   ·subst c14;have H1 : (some (y517,false)) = some (r1,r2) := by rw [if_pos rfl] at H; exact H
    clear H;have H := H1;clear H1;simp only [Option.some.injEq,Prod.mk.injEq] at H;obtain ⟨rfl,rfl⟩ := H;go_wp2
    go_ret2
    exact ⟨_,yy11,yy49,yy1⟩
   ·replace c14 := Bool.eq_false_iff.mpr c14;subst c14;have H1 : (spec_MoveItem.l0 kj5 l0 l1 a2 a3 a4 y517 false 0) = some (r1,r2) := by rw [if_neg (show ¬ (false = true) by decide)] at H; exact H
    clear H;have H := H1;clear H1;have H' := Aside0.mk H;clear H;go_wp2
    go_loopg [12,13,14] kj5 (fun kq v12 v13 v14 w' => ∃ (x12_2 : List (S62)) (x13_2 : Bool) (x14_2 : Int),v13 = .bool x13_2 ∧ v14 = .int .i64 x14_2 ∧ Aside0 (spec_MoveItem.l0 kq l0 l1 a2 a3 a4 x12_2 x13_2 x14_2 = some (r1,r2)) ∧ Aside0 (kq ≤ kj5) ∧ Aside0 (Kd.S k62 62 w' w.heap.size (fun _ => True) v12 x12_2) ∧ Aside0 (Below w.heap.size w w'))
    case atStart => exact ⟨(y517),(false),(0),yy12,yy12,H',⟨Nat.le_refl _⟩,⟨yy49⟩,⟨yy1⟩⟩
    case round =>
     clear H'
     try clear c1
     try clear c2
     try clear p2
     try clear c5
     try clear c10
     try clear c14
     try clear p2
     obtain ⟨x12_2,x13_2,x14_2,rfl,rfl,HA,HK2,HO_12,HB⟩ := hrel;cases gk with
     | zero => exact absurd HA.out (by simp [spec_MoveItem.l0])
     | succ k2 =>
      have H := HA.out;clear HA;simp only [spec_MoveItem.l0] at H;by_cases c15 : x14_2 < (l1.length : Int)
      ·rw [if_pos c15] at H;have c15b0 : decide (x14_2 < (l1.length : Int)) = true := decide_eq_true c15;clear c15;obtain ⟨y529,hy529⟩ : ∃ y_ : List Int,y_ = (([] : List Int)) := ⟨_,rfl⟩
       replace H : (spec_MoveItem.l1 k2 l0 l1 a2 a3 a4 x12_2 x13_2 x14_2 y529 0) = some (r1,r2) := by first | (rw [hy529]; with_reducible exact H) | (have H2_ := (Option.bind_some _ _).symm.trans H; rw [hy529]; with_reducible exact H2_) | (have H2_ := (Option.bind_some _ _).symm.trans H; with_reducible exact H2_) | with_reducible exact H | (rw [hy529]; exact H) | exact H
       have Ny529 := Aside0.mk hy529;clear hy529;have H' := Aside0.mk H;clear H;go_wp2_with (first | ((with_reducible refine gate_dst (N := 36) rfl ?_); refine Kd.R_lit (Kd.int .i64) _ 3 ?hg (N := 36) ?hd (xs := ([] : List Int)) (inner := []) (ok := fun _ => True) (okp := fun _ => True) ?hr ?hp (fun _ hk => hk) trivial (Below.refl _ _) (Nat.le_refl _) (by simp) ?_; (case hd => rfl); (case hg => rfl); (case hr => first | (go_simp; done) | (go_simp; rfl)); (case hp => exact (Reps.none _ _)); intro v530 w16 ho17 hb hg_ hnew_; clear hg_ hnew_; (first | rw [← Ny529.out] at ho17 | (simp only [Int.reduceToNat] at ho17; rw [← Ny529.out] at ho17)); have n0_ := Aside0.mk (Kd.S_elder' yy49 (Kd.R_base ho17) hb); have n1_ := Aside0.mk (Kd.R_lower ho17 (below_size yy1)); have n2_ := Aside0.mk (below_step yy1 hb); clear HO_12; clear HB; have HO_12 := n0_; have HO531 := n1_; have HB := n2_; clear n0_ n1_ n2_; clear hb ho17))
       go_loopg [15,16] k2 (fun kq v15 v16 w' => ∃ (x15_3 : List Int) (x16_3 : Int),v16 = .int .i64 x16_3 ∧ Aside0 (spec_MoveItem.l1 kq l0 l1 a2 a3 a4 x12_2 x13_2 x14_2 x15_3 x16_3 = some (r1,r2)) ∧ Aside0 (kq ≤ k2) ∧ Aside0 (Kd.S k62 62 w' w.heap.size (fun k_ => some k_ ≠ (v15 : Value).ownBlock) u12 x12_2) ∧ Aside0 (Kd.R (Kd.int .i64) 3 w' w.heap.size (fun _ => True) v15 x15_3) ∧ Aside0 (Below w.heap.size w w'))
       case atStart => exact ⟨(y529),(0),yy12,H',⟨Nat.le_refl _⟩,⟨(by (with_reducible repeat (first | apply Kd.S_alloc | apply Kd.S_drewN | apply Kd.S_drew)); exact Kd.S_mono HO_12.out (fun _ hk => hk.2))⟩,⟨(by (with_reducible repeat (first | apply Kd.R_alloc | apply Kd.R_drewN | apply Kd.R_drew)); exact HO531.out)⟩,⟨yy1⟩⟩
       case round =>
        clear H'
        try clear c1
        try clear c2
        try clear p2
        try clear c5
        try clear c10
        try clear c14
        try clear c15
        try clear c15b0
        try clear p2
        obtain ⟨x15_3,x16_3,rfl,HA,HK3,HO_12,HO_15,HB⟩ := hrel;cases gk with
        | zero => exact absurd HA.out (by simp [spec_MoveItem.l1])
        | succ k3 =>
         have H := HA.out;clear HA;simp only [spec_MoveItem.l1] at H;by_cases c18 : 0 ≤ x14_2
         ·rw [if_pos c18] at H;have c18b0 : decide (0 ≤ x14_2) = true := decide_eq_true c18;clear c18;by_cases c19 : x14_2 < (l1.length : Int)
          ·rw [if_pos c19] at H;have c19b0 : decide (x14_2 < (l1.length : Int)) = true := decide_eq_true c19;clear c19;by_cases c20 : x16_3 < (((rd_T62 l1 x14_2).f1).length : Int)
           ·rw [if_pos c20] at H;have c20b0 : decide (x16_3 < (((rd_T62 l1 x14_2).f1).length : Int)) = true := decide_eq_true c20;clear c20;by_cases c21 : 0 ≤ x16_3
            ·rw [if_pos c21] at H;have c21b0 : decide (0 ≤ x16_3) = true := decide_eq_true c21;clear c21;by_cases c22 : (rd ((rd_T62 l1 x14_2).f1) x16_3) = a3
             ·rw [if_pos c22] at H;have c22b0 : ((rd ((rd_T62 l1 x14_2).f1) x16_3) == a3) = true := beq_iff_eq.mpr c22;have c22b1 : ((rd ((rd_T62 l1 x14_2).f1) x16_3) != a3) = false := bne_eq_false_iff_eq.mpr c22;clear c22;have H' := Aside0.mk H;clear H;have p532 : 0 ≤ (x14_2 : Int) := of_decide_eq_true yy2;have q532 : x14_2 < (l1.length : Int) := of_decide_eq_true yy2;obtain ⟨ad532,A532_1,c532_1,e532,hx532_0,hx532_1,hl532_1,hi532_1⟩ := at_T62 HR1.out x14_2 p532 q532;cases e532;replace hx532_0 := pw_cell_below HB.out hx532_0;replace hx532_1 := pw_cell_below HB.out hx532_1;have HR532_1 := Aside0.mk hi532_1;have HC532_1 := Aside0.mk hl532_1;clear hi532_1 hl532_1;replace p532 := eq_true p532;replace q532 := eq_true q532;have p533 : 0 ≤ (x14_2 : Int) := of_decide_eq_true yy2;have q533 : x14_2 < (l1.length : Int) := of_decide_eq_true yy2;obtain ⟨ad533,A533_1,c533_1,e533,hx533_0,hx533_1,hl533_1,hi533_1⟩ := at_T62 HR1.out x14_2 p533 q533;obtain rfl : ad532 = ad533 := (by injection e533);replace hx533_0 := pw_cell_below HB.out hx533_0;replace hx533_1 := pw_cell_below HB.out hx533_1;have HR533_1 := Aside0.mk hi533_1;have HC533_1 := Aside0.mk hl533_1;clear hi533_1 hl533_1;replace p533 := eq_true p533;replace q533 := eq_true q533;have ea_ := Option.some.inj (hx532_1.symm.trans hx533_1);injection ea_ with ea_ en_ ec_
              subst ea_;subst ec_;clear en_;have p534 : 0 ≤ (x16_3 : Int) := of_decide_eq_true yy2;have q534 : x16_3 < (((rd_T62 l1 x14_2).f1).length : Int) := of_decide_eq_true yy2;obtain ⟨ad534,e534,hx534_0⟩ := Kd.at_int HR533_1.out x16_3 p534 q534;cases e534;replace hx534_0 := pw_cell_below HB.out hx534_0;replace p534 := eq_true p534;replace q534 := eq_true q534;go_wp2
              go_roundg k3
              case measure => have := HJ5.out; have := HK2.out; have := HK3.out; omega
              case rel => exact ⟨(x15_3),(wrap64 (x16_3 + 1)),yy12,H',⟨(by have := HJ5.out; have := HK2.out; have := HK3.out; omega)⟩,⟨yy49⟩,⟨(by (with_reducible repeat (first | apply Kd.R_alloc | apply Kd.R_drewN | apply Kd.R_drew)); exact HO_15.out)⟩,⟨yy1⟩⟩
             ·rw [if_neg c22] at H;have c22b0 : ((rd ((rd_T62 l1 x14_2).f1) x16_3) == a3) = false := beq_eq_false_iff_ne.mpr c22;have c22b1 : ((rd ((rd_T62 l1 x14_2).f1) x16_3) != a3) = true := bne_iff_ne.mpr c22;by_cases c23 : x15_3.length < 17592186044416
              ·rw [if_pos c23] at H;have LMc23 := Aside0.mk c23;clear c23;obtain ⟨y537,hy537⟩ : ∃ y_ : List Int,y_ = (x15_3 ++ [rd ((rd_T62 l1 x14_2).f1) x16_3]) := ⟨_,rfl⟩
               replace H : (spec_MoveItem.l1 k3 l0 l1 a2 a3 a4 x12_2 x13_2 x14_2 y537 (wrap64 (x16_3 + 1))) = some (r1,r2) := by first | (rw [hy537]; with_reducible exact H) | (have H2_ := (Option.bind_some _ _).symm.trans H; rw [hy537]; with_reducible exact H2_) | (have H2_ := (Option.bind_some _ _).symm.trans H; with_reducible exact H2_) | with_reducible exact H | (rw [hy537]; exact H) | exact H
               have Ny537 := Aside0.mk hy537;clear hy537;have H' := Aside0.mk H;clear H;have p532 : 0 ≤ (x14_2 : Int) := of_decide_eq_true yy2;have q532 : x14_2 < (l1.length : Int) := of_decide_eq_true yy2;obtain ⟨ad532,A532_1,c532_1,e532,hx532_0,hx532_1,hl532_1,hi532_1⟩ := at_T62 HR1.out x14_2 p532 q532;cases e532;replace hx532_0 := pw_cell_below HB.out hx532_0;replace hx532_1 := pw_cell_below HB.out hx532_1;have HR532_1 := Aside0.mk hi532_1;have HC532_1 := Aside0.mk hl532_1;clear hi532_1 hl532_1;replace p532 := eq_true p532;replace q532 := eq_true q532;have p533 : 0 ≤ (x14_2 : Int) := of_decide_eq_true yy2;have q533 : x14_2 < (l1.length : Int) := of_decide_eq_true yy2;obtain ⟨ad533,A533_1,c533_1,e533,hx533_0,hx533_1,hl533_1,hi533_1⟩ := at_T62 HR1.out x14_2 p533 q533;obtain rfl : ad532 = ad533 := (by injection e533);replace hx533_0 := pw_cell_below HB.out hx533_0;replace hx533_1 := pw_cell_below HB.out hx533_1;have HR533_1 := Aside0.mk hi533_1;have HC533_1 := Aside0.mk hl533_1;clear hi533_1 hl533_1;replace p533 := eq_true p533;replace q533 := eq_true q533;have ea_ := Option.some.inj (hx532_1.symm.trans hx533_1);injection ea_ with ea_ en_ ec_
               subst ea_;subst ec_;clear en_;have p534 : 0 ≤ (x16_3 : Int) := of_decide_eq_true yy2;have q534 : x16_3 < (((rd_T62 l1 x14_2).f1).length : Int) := of_decide_eq_true yy2;obtain ⟨ad534,e534,hx534_0⟩ := Kd.at_int HR533_1.out x16_3 p534 q534;cases e534;replace hx534_0 := pw_cell_below HB.out hx534_0;replace p534 := eq_true p534;replace q534 := eq_true q534;have p535 : 0 ≤ (x14_2 : Int) := of_decide_eq_true yy2;have q535 : x14_2 < (l1.length : Int) := of_decide_eq_true yy2;obtain ⟨ad535,A535_1,c535_1,e535,hx535_0,hx535_1,hl535_1,hi535_1⟩ := at_T62 HR1.out x14_2 p535 q535;obtain rfl : ad532 = ad535 := (by injection e535);replace hx535_0 := pw_cell_below HB.out hx535_0;replace hx535_1 := pw_cell_below HB.out hx535_1;have HR535_1 := Aside0.mk hi535_1;have HC535_1 := Aside0.mk hl535_1;clear hi535_1 hl535_1;replace p535 := eq_true p535;replace q535 := eq_true q535;have ea_ := Option.some.inj (hx532_1.symm.trans hx535_1);injection ea_ with ea_ en_ ec_
               subst ea_;subst ec_;clear en_;have p536 : 0 ≤ (x16_3 : Int) := of_decide_eq_true yy2;have q536 : x16_3 < (((rd_T62 l1 x14_2).f1).length : Int) := of_decide_eq_true yy2;obtain ⟨ad536,e536,hx536_0⟩ := Kd.at_int HR535_1.out x16_3 p536 q536;cases e536;replace hx536_0 := pw_cell_below HB.out hx536_0;replace p536 := eq_true p536;replace q536 := eq_true q536;go_wp2_with (first | ((with_reducible refine gate_builtin (b := .append) (xs := #[.tmp 57,.tmp 66]) rfl ?_); at_builtin; refine Kd.R_append (Kd.int .i64) (w0 := w) w.heap.size rfl (.tmp 57) (.tmp 66) 26 3 (.int .i64 0) 8 rfl Try.underlying26 info3 rfl (by decide) (by omega) u15 x15_3 (rd ((rd_T62 l1 x14_2).f1) x16_3) [.int .i64 (rd ((rd_T62 l1 x14_2).f1) x16_3)] (fun _ => True) (fun _ => False) rfl rfl ?aP (fun _ hk => hk.elim) ?aF ?aO ?aB ?aS ?aL ?_; (case aP => exact rfl); (case aB => exact yy1); (case aF => exact (fun _ _ => trivial)); (case aO => exact (by (with_reducible repeat (first | apply Kd.R_alloc | apply Kd.R_drewN | apply Kd.R_drew)); exact HO_15.out)); (case aS => exact (below_size yy1)); (case aL => have := LMc23.out; omega); intro v538 w24 ho hb hg hat; rw [← Ny537.out] at ho; have n0_ := Aside0.mk (Kd.S_after (ok := (fun _ => True)) (by (with_reducible repeat (first | apply Kd.S_alloc | apply Kd.S_drewN | apply Kd.S_drew)); exact Kd.S_mono HO_12.out (fun _ hk => ⟨trivial,hk⟩)) hg hat); have n1_ := Aside0.mk (hb); have n2_ := Aside0.mk (ho); clear HO_12; clear HB; clear HO_15; have HO_12 := n0_; have HB := n1_; have HO539 := n2_; clear n0_ n1_ n2_; clear ho hb hg hat))
               go_roundg k3
               case measure => have := HJ5.out; have := HK2.out; have := HK3.out; omega
               case rel => exact ⟨(y537),(wrap64 (x16_3 + 1)),yy12,H',⟨(by have := HJ5.out; have := HK2.out; have := HK3.out; omega)⟩,⟨(by (with_reducible repeat (first | apply Kd.S_alloc | apply Kd.S_drewN | apply Kd.S_drew)); exact Kd.S_mono HO_12.out (fun _ hk => hk.2))⟩,⟨(by (with_reducible repeat (first | apply Kd.R_alloc | apply Kd.R_drewN | apply Kd.R_drew)); exact HO539.out)⟩,⟨yy1⟩⟩
              ·rw [if_neg c23] at H;exact absurd H (by simp)
            ·rw [if_neg c21] at H;exact absurd H (by simp)
           ·rw [if_neg c20] at H;have c20b0 : decide (x16_3 < (((rd_T62 l1 x14_2).f1).length : Int)) = false := decide_eq_false c20;clear c20;by_cases c25 : ((rd_T62 l1 x14_2).f0) = a4
            ·rw [if_pos c25] at H;have c25b0 : (((rd_T62 l1 x14_2).f0) == a4) = true := beq_iff_eq.mpr c25;have c25b1 : (((rd_T62 l1 x14_2).f0) != a4) = false := bne_eq_false_iff_eq.mpr c25;clear c25;replace H := Option.bind_eq_some_iff.mp H;obtain ⟨t541,A260,H⟩ := H;replace H : (if x12_2.length < 4398046511104 then (spec_MoveItem.l0 k3 l0 l1 a2 a3 a4 (x12_2 ++ [(⟨(rd_T62 l1 x14_2).f0,t541⟩ : S62)]) true (wrap64 (x14_2 + 1))) else (none)) = some (r1,r2) := H;have A26 := Aside0.mk A260;clear A260;by_cases c27 : x12_2.length < 4398046511104
             ·rw [if_pos c27] at H;have LMc27 := Aside0.mk c27;clear c27;obtain ⟨y545,hy545⟩ : ∃ y_ : List (S62),y_ = (x12_2 ++ [(⟨(rd_T62 l1 x14_2).f0,t541⟩ : S62)]) := ⟨_,rfl⟩
              replace H : (spec_MoveItem.l0 k3 l0 l1 a2 a3 a4 y545 true (wrap64 (x14_2 + 1))) = some (r1,r2) := by first | (rw [hy545]; with_reducible exact H) | (have H2_ := (Option.bind_some _ _).symm.trans H; rw [hy545]; with_reducible exact H2_) | (have H2_ := (Option.bind_some _ _).symm.trans H; with_reducible exact H2_) | with_reducible exact H | (rw [hy545]; exact H) | exact H
              have Ny545 := Aside0.mk hy545;clear hy545;have H' := Aside0.mk H;clear H;have p532 : 0 ≤ (x14_2 : Int) := of_decide_eq_true yy2;have q532 : x14_2 < (l1.length : Int) := of_decide_eq_true yy2;obtain ⟨ad532,A532_1,c532_1,e532,hx532_0,hx532_1,hl532_1,hi532_1⟩ := at_T62 HR1.out x14_2 p532 q532;cases e532;replace hx532_0 := pw_cell_below HB.out hx532_0;replace hx532_1 := pw_cell_below HB.out hx532_1;have HR532_1 := Aside0.mk hi532_1;have HC532_1 := Aside0.mk hl532_1;clear hi532_1 hl532_1;replace p532 := eq_true p532;replace q532 := eq_true q532;have p540 : 0 ≤ (x14_2 : Int) := of_decide_eq_true yy2;have q540 : x14_2 < (l1.length : Int) := of_decide_eq_true yy2;obtain ⟨ad540,A540_1,c540_1,e540,hx540_0,hx540_1,hl540_1,hi540_1⟩ := at_T62 HR1.out x14_2 p540 q540;obtain rfl : ad532 = ad540 := (by injection e540);replace hx540_0 := pw_cell_below HB.out hx540_0;replace hx540_1 := pw_cell_below HB.out hx540_1;have HR540_1 := Aside0.mk hi540_1;have HC540_1 := Aside0.mk hl540_1;clear hi540_1 hl540_1;replace p540 := eq_true p540;replace q540 := eq_true q540;have ea_ := Option.some.inj (hx532_1.symm.trans hx540_1);injection ea_ with ea_ en_ ec_
              subst ea_;subst ec_;clear en_;obtain ⟨Ao28,co28,eo28⟩ := Kd.R_slice HO_15.out;subst eo28;go_wp2_with (first | ((with_reducible refine gate_callee (f := 35) rfl ?_); refine goesL_ (some 77) rfl rfl Try.func35 (by kernel_rfl) rfl #[.slice Ao28 x15_3.length co28,.int .i64 a3] rfl yy3 ?_; (with_reducible refine (spec_l1Put.calls k3 (fun k_ => some k_ = (.slice Ao28 x15_3.length co28 : Value).ownBlock) (.slice Ao28 x15_3.length co28) x15_3 a3 t541 w _ ?side1 ?side2 A26.out).mono ?_); (case side1 => exact yy1); (case side2 => exact Kd.R_tight rfl HO_15.out); rintro e w29 ⟨v542,rfl,ho0,hb,hkp⟩; refine ⟨_,rfl,?_⟩; have n0_ := Aside0.mk (Kd.S_mono (ok' := fun k_ => some k_ ≠ (v542 : Value).ownBlock) (Kd.S_keptB (HO_12.out) hkp (fun k_ hk_ hs_ => (hk_) hs_)) (fun k_ hk_ => fun e_ => Or.elim (ho0.1 k_ e_.symm) (fun hs_ => hk_.2.1 hs_) (fun hn_ => Nat.not_le.2 hk_.2.2 hn_))); have n1_ := Aside0.mk (Kd.R_mono (ok' := fun k_ => True) ho0 (fun k_ hk_ => trivial)); have n2_ := Aside0.mk (hb); clear HO_12; clear HB; clear HO_15; have HO_12 := n0_; have HO543 := n1_; have HB := n2_; clear n0_ n1_ n2_; (try clear hb); (try clear hkp); (try clear ho0); have p544 : 0 ≤ (x14_2 : Int) := of_decide_eq_true yy2; have q544 : x14_2 < (l1.length : Int) := of_decide_eq_true yy2; obtain ⟨ad544,A544_1,c544_1,e544,hx544_0,hx544_1,hl544_1,hi544_1⟩ := at_T62 HR1.out x14_2 p544 q544; obtain rfl : ad532 = ad544 := (by injection e544); replace hx544_0 := pw_cell_below HB.out hx544_0; replace hx544_1 := pw_cell_below HB.out hx544_1; have HR544_1 := Aside0.mk hi544_1; have HC544_1 := Aside0.mk hl544_1; clear hi544_1 hl544_1; replace p544 := eq_true p544; replace q544 := eq_true q544; obtain ⟨Ao30,co30,eo30⟩ := Kd.R_slice HO543.out; subst eo30) | ((with_reducible refine gate_builtin (b := .append) (xs := #[.tmp 78,.tmp 86]) rfl ?_); at_builtin; refine Kd.S_append k62 (w0 := w) w.heap.size rfl (.tmp 78) (.tmp 86) 31 62 (.agg #[(.int .i64 0),(.slice none 0 0)]) 32 rfl Try.underlying31 info62 rfl (by decide) (by omega) u12 x12_2 (⟨(rd_T62 l1 x14_2).f0,t541⟩ : S62) [.int .i64 ((rd_T62 l1 x14_2).f0),.slice Ao30 t541.length co30] (fun _ => True) (fun k_ => some k_ = (.slice Ao30 t541.length co30 : Value).ownBlock) rfl rfl ?aP (fun k_ hk_ => ((Kd.R_mono (ok' := fun k_ => ((fun _ => True)) k_ ∧ some k_ ≠ (u12 : Value).ownBlock) (Kd.R_apart' (HO543.out) (Kd.S_typed HO_12.out) (by decide)) (fun k_ hk => ⟨trivial,hk.2⟩))).1 k_ hk_.symm) ?aF ?aO ?aB ?aS ?aL ?_; (case aP => exact k62_mkM _ _ _ (⟨(rd_T62 l1 x14_2).f0,t541⟩ : S62) (Kd.R_mono (Kd.R_tight rfl (Kd.R_mono (ok' := fun k_ => ((fun _ => True)) k_ ∧ some k_ ≠ (u12 : Value).ownBlock) (Kd.R_apart' (HO543.out) (Kd.S_typed HO_12.out) (by decide)) (fun k_ hk => ⟨trivial,hk.2⟩))) (fun _ h_ => h_))); (case aB => exact yy1); (case aF => exact (fun _ _ => trivial)); (case aO => exact (by (with_reducible repeat (first | apply Kd.S_alloc | apply Kd.S_drewN | apply Kd.S_drew)); exact Kd.S_mono HO_12.out (fun k_ hk => ⟨trivial,fun e_ => hk e_⟩))); (case aS => exact (below_size yy1)); (case aL => have := LMc27.out; omega); intro v546 w31 ho hb hg hat; rw [← Ny545.out] at ho; have n0_ := Aside0.mk (hb); have n1_ := Aside0.mk (ho); clear HB; clear HO_12; clear HO543; have HB := n0_; have HO547 := n1_; clear n0_ n1_; clear ho hb hg hat))
              go_roundg k3
              case measure => have := HJ5.out; have := HK2.out; have := HK3.out; omega
              case rel => exact ⟨(y545),(true),(wrap64 (x14_2 + 1)),yy12,yy12,H',⟨(by have := HJ5.out; have := HK2.out; have := HK3.out; omega)⟩,⟨(by (with_reducible repeat (first | apply Kd.S_alloc | apply Kd.S_drewN | apply Kd.S_drew)); exact HO547.out)⟩,⟨yy1⟩⟩
             ·rw [if_neg c27] at H;exact absurd H (by simp)
            ·rw [if_neg c25] at H;have c25b0 : (((rd_T62 l1 x14_2).f0) == a4) = false := beq_eq_false_iff_ne.mpr c25;have c25b1 : (((rd_T62 l1 x14_2).f0) != a4) = true := bne_iff_ne.mpr c25;by_cases c32 : x12_2.length < 4398046511104
             ·rw [if_pos c32] at H;have LMc32 := Aside0.mk c32;clear c32;obtain ⟨y549,hy549⟩ : ∃ y_ : List (S62),y_ = (x12_2 ++ [(⟨(rd_T62 l1 x14_2).f0,x15_3⟩ : S62)]) := ⟨_,rfl⟩
              replace H : (spec_MoveItem.l0 k3 l0 l1 a2 a3 a4 y549 x13_2 (wrap64 (x14_2 + 1))) = some (r1,r2) := by first | (rw [hy549]; with_reducible exact H) | (have H2_ := (Option.bind_some _ _).symm.trans H; rw [hy549]; with_reducible exact H2_) | (have H2_ := (Option.bind_some _ _).symm.trans H; with_reducible exact H2_) | with_reducible exact H | (rw [hy549]; exact H) | exact H
              have Ny549 := Aside0.mk hy549;clear hy549;have H' := Aside0.mk H;clear H;have p532 : 0 ≤ (x14_2 : Int) := of_decide_eq_true yy2;have q532 : x14_2 < (l1.length : Int) := of_decide_eq_true yy2;obtain ⟨ad532,A532_1,c532_1,e532,hx532_0,hx532_1,hl532_1,hi532_1⟩ := at_T62 HR1.out x14_2 p532 q532;cases e532;replace hx532_0 := pw_cell_below HB.out hx532_0;replace hx532_1 := pw_cell_below HB.out hx532_1;have HR532_1 := Aside0.mk hi532_1;have HC532_1 := Aside0.mk hl532_1;clear hi532_1 hl532_1;replace p532 := eq_true p532;replace q532 := eq_true q532;have p540 : 0 ≤ (x14_2 : Int) := of_decide_eq_true yy2;have q540 : x14_2 < (l1.length : Int) := of_decide_eq_true yy2;obtain ⟨ad540,A540_1,c540_1,e540,hx540_0,hx540_1,hl540_1,hi540_1⟩ := at_T62 HR1.out x14_2 p540 q540;obtain rfl : ad532 = ad540 := (by injection e540);replace hx540_0 := pw_cell_below HB.out hx540_0;replace hx540_1 := pw_cell_below HB.out hx540_1;have HR540_1 := Aside0.mk hi540_1;have HC540_1 := Aside0.mk hl540_1;clear hi540_1 hl540_1;replace p540 := eq_true p540;replace q540 := eq_true q540;have ea_ := Option.some.inj (hx532_1.symm.trans hx540_1);injection ea_ with ea_ en_ ec_
              subst ea_;subst ec_;clear en_;have p548 : 0 ≤ (x14_2 : Int) := of_decide_eq_true yy2;have q548 : x14_2 < (l1.length : Int) := of_decide_eq_true yy2;obtain ⟨ad548,A548_1,c548_1,e548,hx548_0,hx548_1,hl548_1,hi548_1⟩ := at_T62 HR1.out x14_2 p548 q548;obtain rfl : ad532 = ad548 := (by injection e548);replace hx548_0 := pw_cell_below HB.out hx548_0;replace hx548_1 := pw_cell_below HB.out hx548_1;have HR548_1 := Aside0.mk hi548_1;have HC548_1 := Aside0.mk hl548_1;clear hi548_1 hl548_1;replace p548 := eq_true p548;replace q548 := eq_true q548;have ea_ := Option.some.inj (hx532_1.symm.trans hx548_1);injection ea_ with ea_ en_ ec_
              subst ea_;subst ec_;clear en_;obtain ⟨Ao33,co33,eo33⟩ := Kd.R_slice HO_15.out;subst eo33;go_wp2_with (first | ((with_reducible refine gate_builtin (b := .append) (xs := #[.tmp 78,.tmp 86]) rfl ?_); at_builtin; refine Kd.S_append k62 (w0 := w) w.heap.size rfl (.tmp 78) (.tmp 86) 31 62 (.agg #[(.int .i64 0),(.slice none 0 0)]) 32 rfl Try.underlying31 info62 rfl (by decide) (by omega) u12 x12_2 (⟨(rd_T62 l1 x14_2).f0,x15_3⟩ : S62) [.int .i64 ((rd_T62 l1 x14_2).f0),.slice Ao33 x15_3.length co33] (fun _ => True) (fun k_ => some k_ = (.slice Ao33 x15_3.length co33 : Value).ownBlock) rfl rfl ?aP (fun k_ hk_ => ((Kd.R_mono (ok' := fun k_ => ((fun _ => True)) k_ ∧ some k_ ≠ (u12 : Value).ownBlock) (Kd.R_apart' (HO_15.out) (Kd.S_typed HO_12.out) (by decide)) (fun k_ hk => ⟨trivial,hk.2⟩))).1 k_ hk_.symm) ?aF ?aO ?aB ?aS ?aL ?_; (case aP => exact k62_mkM _ _ _ (⟨(rd_T62 l1 x14_2).f0,x15_3⟩ : S62) (Kd.R_mono (Kd.R_tight rfl (Kd.R_mono (ok' := fun k_ => ((fun _ => True)) k_ ∧ some k_ ≠ (u12 : Value).ownBlock) (Kd.R_apart' (HO_15.out) (Kd.S_typed HO_12.out) (by decide)) (fun k_ hk => ⟨trivial,hk.2⟩))) (fun _ h_ => h_))); (case aB => exact yy1); (case aF => exact (fun _ _ => trivial)); (case aO => exact (by (with_reducible repeat (first | apply Kd.S_alloc | apply Kd.S_drewN | apply Kd.S_drew)); exact Kd.S_mono HO_12.out (fun k_ hk => ⟨trivial,fun e_ => hk e_⟩))); (case aS => exact (below_size yy1)); (case aL => have := LMc32.out; omega); intro v550 w34 ho hb hg hat; rw [← Ny549.out] at ho; have n0_ := Aside0.mk (hb); have n1_ := Aside0.mk (ho); clear HB; clear HO_12; clear HO_15; have HB := n0_; have HO551 := n1_; clear n0_ n1_; clear ho hb hg hat))
              go_roundg k3
              case measure => have := HJ5.out; have := HK2.out; have := HK3.out; omega
              case rel => exact ⟨(y549),(x13_2),(wrap64 (x14_2 + 1)),yy12,yy12,H',⟨(by have := HJ5.out; have := HK2.out; have := HK3.out; omega)⟩,⟨(by (with_reducible repeat (first | apply Kd.S_alloc | apply Kd.S_drewN | apply Kd.S_drew)); exact HO551.out)⟩,⟨yy1⟩⟩
             ·rw [if_neg c32] at H;exact absurd H (by simp)
          ·rw [if_neg c19] at H;exact absurd H (by simp)
         ·rw [if_neg c18] at H;exact absurd H (by simp)
      ·rw [if_neg c15] at H;have c15b0 : decide (x14_2 < (l1.length : Int)) = false := decide_eq_false c15;clear c15;by_cases c35 : x13_2 = true
       ·subst c35;have H1 : ((spec_l26Good.f k2 l0 x12_2 a2).bind fun t522 => (if t522 = true then (some (x12_2,true)) else (some ((([] : List (S62))),false)))) = some (r1,r2) := by rw [if_pos rfl] at H; exact H
        clear H;have H := H1;clear H1;replace H := Option.bind_eq_some_iff.mp H;obtain ⟨t522,A360,H⟩ := H;replace H : (if t522 = true then (some (x12_2,true)) else (some ((([] : List (S62))),false))) = some (r1,r2) := H;have A36 := Aside0.mk A360;clear A360;by_cases c37 : t522 = true
        ·subst c37;have H1 : (some (x12_2,true)) = some (r1,r2) := by rw [if_pos rfl] at H; exact H
         clear H;have H := H1;clear H1;simp only [Option.some.injEq,Prod.mk.injEq] at H;obtain ⟨rfl,rfl⟩ := H;obtain ⟨Ao38,co38,eo38⟩ := Kd.S_slice HO_12.out;subst eo38;go_wp2_with (first | (go_at_call 55; (with_reducible refine (spec_l26Good.calls k2 _ _ l0 _ _ x12_2 a2 true _ ?side1 ?side2 ?side3 ?side4 A36.out).mono ?_); (case side1 => exact yy4); (case side2 => exact HC0.out); (case side3 => exact yy118); (case side4 => exact (Kd.S_reads' HO_12.out).2.1); rintro e w39 ⟨rfl,hb⟩; have n0_ := Aside0.mk (Kd.S_below yy49 hb); have n1_ := Aside0.mk (below_step yy1 hb); clear HO_12; clear HB; have HO_12 := n0_; have HB := n1_; clear n0_ n1_; (try clear hb); (try clear hb2); (try clear hk); (try clear hi)))
         go_ret2
         exact ⟨_,yy11,yy49,yy1⟩
        ·replace c37 := Bool.eq_false_iff.mpr c37;subst c37;have H1 : (some ((([] : List (S62))),false)) = some (r1,r2) := by rw [if_neg (show ¬ (false = true) by decide)] at H; exact H
         clear H;have H := H1;clear H1;obtain ⟨y523,hy523⟩ : ∃ y_ : List (S62),y_ = (([] : List (S62))) := ⟨_,rfl⟩
         replace H : (some (y523,false)) = some (r1,r2) := by first | (rw [hy523]; with_reducible exact H) | (have H2_ := (Option.bind_some _ _).symm.trans H; rw [hy523]; with_reducible exact H2_) | (have H2_ := (Option.bind_some _ _).symm.trans H; with_reducible exact H2_) | with_reducible exact H | (rw [hy523]; exact H) | exact H
         have Ny523 := Aside0.mk hy523;clear hy523;simp only [Option.some.injEq,Prod.mk.injEq] at H;obtain ⟨rfl,rfl⟩ := H;obtain ⟨Ao40,co40,eo40⟩ := Kd.S_slice HO_12.out;subst eo40;go_wp2_with (first | (go_at_call 55; (with_reducible refine (spec_l26Good.calls k2 _ _ l0 _ _ x12_2 a2 false _ ?side1 ?side2 ?side3 ?side4 A36.out).mono ?_); (case side1 => exact yy4); (case side2 => exact HC0.out); (case side3 => exact yy118); (case side4 => exact (Kd.S_reads' HO_12.out).2.1); rintro e w41 ⟨rfl,hb⟩; have n0_ := Aside0.mk (Kd.S_below yy49 hb); have n1_ := Aside0.mk (below_step yy1 hb); clear HO_12; clear HB; have HO_12 := n0_; have HB := n1_; clear n0_ n1_; (try clear hb); (try clear hb2); (try clear hk); (try clear hi)) | ((with_reducible refine gate_dst (N := 97) rfl ?_); refine Kd.S_lit k62 _ 62 ?hg (N := 97) ?hd (xs := ([] : List (S62))) (inner := []) (ok := fun _ => True) (okp := fun _ => True) ?hr ?hp (fun _ hk => hk) trivial (Below.refl _ _) (Nat.le_refl _) (by simp) ?_; (case hd => rfl); (case hg => rfl); (case hr => first | (go_simp; done) | (go_simp; rfl)); (case hp => exact (Reps.none _ _)); intro v524 w42 ho43 hb hg_ hnew_; clear hg_ hnew_; (first | rw [← Ny523.out] at ho43 | (simp only [Int.reduceToNat] at ho43; rw [← Ny523.out] at ho43)); have n0_ := Aside0.mk (Kd.S_elder' yy49 (Kd.S_base ho43) hb); have n1_ := Aside0.mk (Kd.S_lower (Kd.S_new' ho43 (Kd.S_lt yy49)) (below_size yy1)); have n2_ := Aside0.mk (below_step yy1 hb); clear HO_12; clear HB; have HO_12 := n0_; have HO525 := n1_; have HB := n2_; clear n0_ n1_ n2_; clear hb ho43))
         go_ret2
         exact ⟨_,yy11,(by (with_reducible repeat (first | apply Kd.S_alloc | apply Kd.S_drewN | apply Kd.S_drew)); exact Kd.S_mono HO525.out (fun _ hk => trivial)),yy1⟩
       ·replace c35 := Bool.eq_false_iff.mpr c35;subst c35;have H1 : (some ((([] : List (S62))),false)) = some (r1,r2) := by rw [if_neg (show ¬ (false = true) by decide)] at H; exact H
        clear H;have H := H1;clear H1;obtain ⟨y526,hy526⟩ : ∃ y_ : List (S62),y_ = (([] : List (S62))) := ⟨_,rfl⟩
        replace H : (some (y526,false)) = some (r1,r2) := by first | (rw [hy526]; with_reducible exact H) | (have H2_ := (Option.bind_some _ _).symm.trans H; rw [hy526]; with_reducible exact H2_) | (have H2_ := (Option.bind_some _ _).symm.trans H; with_reducible exact H2_) | with_reducible exact H | (rw [hy526]; exact H) | exact H
        have Ny526 := Aside0.mk hy526;clear hy526;simp only [Option.some.injEq,Prod.mk.injEq] at H;obtain ⟨rfl,rfl⟩ := H;go_wp2_with (first | ((with_reducible refine gate_dst (N := 97) rfl ?_); refine Kd.S_lit k62 _ 62 ?hg (N := 97) ?hd (xs := ([] : List (S62))) (inner := []) (ok := fun _ => True) (okp := fun _ => True) ?hr ?hp (fun _ hk => hk) trivial (Below.refl _ _) (Nat.le_refl _) (by simp) ?_; (case hd => rfl); (case hg => rfl); (case hr => first | (go_simp; done) | (go_simp; rfl)); (case hp => exact (Reps.none _ _)); intro v527 w44 ho45 hb hg_ hnew_; clear hg_ hnew_; (first | rw [← Ny526.out] at ho45 | (simp only [Int.reduceToNat] at ho45; rw [← Ny526.out] at ho45)); have n0_ := Aside0.mk (Kd.S_elder' yy49 (Kd.S_base ho45) hb); have n1_ := Aside0.mk (Kd.S_lower (Kd.S_new' ho45 (Kd.S_lt yy49)) (below_size yy1)); have n2_ := Aside0.mk (below_step yy1 hb); clear HO_12; clear HB; have HO_12 := n0_; have HO528 := n1_; have HB := n2_; clear n0_ n1_ n2_; clear hb ho45))
        go_ret2
        exact ⟨_,yy11,(by (with_reducible repeat (first | apply Kd.S_alloc | apply Kd.S_drewN | apply Kd.S_drew)); exact Kd.S_mono HO528.out (fun _ hk => trivial)),yy1⟩
def slices_Index_int_int.l0 : Nat → List Int → Int → Int → Int → Option (Int)
 | 0,_,_,_,_ => none
 | k + 1,x0,x1,x7,x8 => if x8 < x7 then (if 0 ≤ x8 then (if x8 < (x0.length : Int) then (if x1 = (rd x0 x8) then (some x8) else (slices_Index_int_int.l0 k x0 x1 x7 (wrap64 (x8 + 1)))) else (none)) else (none)) else (some (-1))
def slices_Index_int_int.f (k : Nat) (l0 : List Int) (a1 : Int) : Option (Int) := slices_Index_int_int.l0 k l0 a1 (l0.length : Int) 0
theorem slices_Index_int_int.mono_l : ∀ k,(∀ y0 y1 y2 y3,LeO (slices_Index_int_int.l0 k y0 y1 y2 y3) (slices_Index_int_int.l0 (k + 1) y0 y1 y2 y3))
 | 0 => fun _ _ _ _ r h => by simp [slices_Index_int_int.l0] at h
 | k + 1 => by
  have ih0 := slices_Index_int_int.mono_l k
  ·intro y0 y1 y2 y3;unfold slices_Index_int_int.l0;repeat' first
   | (with_reducible exact ih0 _ _ _ _)
   | (with_reducible exact LeO.refl _)
   | (with_reducible exact LeO.none _)
   | (with_reducible refine LeO.ite ?_ ?_)
   | (with_reducible refine LeO.bind ?_ (fun _ => ?_))
   | exact ih0 _ _ _ _
   | exact LeO.none _
   | refine LeO.ite ?_ ?_
   | refine LeO.bind ?_ (fun _ => ?_)
theorem slices_Index_int_int.mono : ∀ a0 a1 k,LeO (slices_Index_int_int.f k a0 a1) (slices_Index_int_int.f (k + 1) a0 a1) := by
 intro a0 a1 k;have ih0 := slices_Index_int_int.mono_l k;unfold slices_Index_int_int.f;repeat' first
   | (with_reducible exact ih0 _ _ _ _)
   | (with_reducible exact LeO.refl _)
   | (with_reducible exact LeO.none _)
   | (with_reducible refine LeO.ite ?_ ?_)
   | (with_reducible refine LeO.bind ?_ (fun _ => ?_))
   | exact ih0 _ _ _ _
   | exact LeO.none _
   | refine LeO.ite ?_ ?_
   | refine LeO.bind ?_ (fun _ => ?_)
set_option maxHeartbeats 8000000 in
set_option maxRecDepth 100000 in
theorem slices_Index_int_int.calls (k : Nat) (A0 : Option Addr) (c0 : Nat) (l0 : List Int) (a1 : Int) (r : Int) (w : World) (hr0 : Kd.C (Kd.int .i64) w A0 l0.length l0) (hc0 : l0.length ≤ c0) (h : slices_Index_int_int.f k l0 a1 = some r) :
  Calls Try.prog 89 #[.slice A0 l0.length c0,.int .i64 a1] w fun e w' => e = .returned (.int .i64 r) ∧ Drawn0 w w' := by
 have HR0 := Aside0.mk hr0;have HC0 := Aside0.mk hc0;clear hr0 hc0;have H : (slices_Index_int_int.l0 k l0 a1 (l0.length : Int) 0) = some r := h;clear h;have H' := Aside0.mk H;clear H;go_enter Try.func89,Try.ntmps89;go_wp2
 go_loopg [8] k (fun kq v8 w' => ∃ (x8_1 : Int),v8 = .int .i64 x8_1 ∧ Aside0 (slices_Index_int_int.l0 kq l0 a1 (l0.length : Int) x8_1 = some r) ∧ Aside0 (kq ≤ k) ∧ Drawn0 w w')
 case atStart => exact ⟨(0),yy12,H',⟨Nat.le_refl _⟩,yy26⟩
 case round =>
  clear H'
  try clear p2
  obtain ⟨x8_1,rfl,HA,HK1,⟨m1,rfl⟩⟩ := hrel;cases gk with
  | zero => exact absurd HA.out (by simp [slices_Index_int_int.l0])
  | succ k1 =>
   have H := HA.out;clear HA;simp only [slices_Index_int_int.l0] at H;by_cases c3 : x8_1 < (l0.length : Int)
   ·rw [if_pos c3] at H;have c3b0 : decide (x8_1 < (l0.length : Int)) = true := decide_eq_true c3;clear c3;by_cases c4 : 0 ≤ x8_1
    ·rw [if_pos c4] at H;have c4b0 : decide (0 ≤ x8_1) = true := decide_eq_true c4;clear c4;by_cases c5 : x8_1 < (l0.length : Int)
     ·rw [if_pos c5] at H;have c5b0 : decide (x8_1 < (l0.length : Int)) = true := decide_eq_true c5;clear c5;by_cases c6 : a1 = (rd l0 x8_1)
      ·rw [if_pos c6] at H;have c6b0 : (a1 == (rd l0 x8_1)) = true := beq_iff_eq.mpr c6;have c6b1 : (a1 != (rd l0 x8_1)) = false := bne_eq_false_iff_eq.mpr c6;clear c6;obtain rfl := Option.some.inj H;have p552 : 0 ≤ (x8_1 : Int) := of_decide_eq_true yy2;have q552 : x8_1 < (l0.length : Int) := of_decide_eq_true yy2;obtain ⟨ad552,e552,hx552_0⟩ := Kd.at_int HR0.out x8_1 p552 q552;cases e552;replace p552 := eq_true p552;replace q552 := eq_true q552;go_wp2;go_ret;exact ⟨yy12,yy26⟩
      ·rw [if_neg c6] at H;have c6b0 : (a1 == (rd l0 x8_1)) = false := beq_eq_false_iff_ne.mpr c6;have c6b1 : (a1 != (rd l0 x8_1)) = true := bne_iff_ne.mpr c6;have H' := Aside0.mk H;clear H;have p552 : 0 ≤ (x8_1 : Int) := of_decide_eq_true yy2;have q552 : x8_1 < (l0.length : Int) := of_decide_eq_true yy2;obtain ⟨ad552,e552,hx552_0⟩ := Kd.at_int HR0.out x8_1 p552 q552;cases e552;replace p552 := eq_true p552;replace q552 := eq_true q552;go_wp2
       go_roundg k1
       case measure => have := HK1.out; omega
       case rel => exact ⟨(wrap64 (x8_1 + 1)),yy12,H',⟨by have := HK1.out; omega⟩,yy26⟩
     ·rw [if_neg c5] at H;exact absurd H (by simp)
    ·rw [if_neg c4] at H;exact absurd H (by simp)
   ·rw [if_neg c3] at H;have c3b0 : decide (x8_1 < (l0.length : Int)) = false := decide_eq_false c3;clear c3;obtain rfl := Option.some.inj H;go_wp2;go_ret;exact ⟨yy12,yy26⟩
def slices_Contains_int_int.f (k : Nat) (l0 : List Int) (a1 : Int) : Option (Bool) := (slices_Index_int_int.f k l0 a1).bind fun t553 => (some (decide (t553 ≥ 0)))
theorem slices_Contains_int_int.mono : ∀ a0 a1 k,LeO (slices_Contains_int_int.f k a0 a1) (slices_Contains_int_int.f (k + 1) a0 a1) := by
 intro a0 a1 k;unfold slices_Contains_int_int.f;repeat' first
   | (with_reducible exact slices_Index_int_int.mono _ _ _)
   | (with_reducible exact LeO.refl _)
   | (with_reducible exact LeO.none _)
   | (with_reducible refine LeO.ite ?_ ?_)
   | (with_reducible refine LeO.bind ?_ (fun _ => ?_))
   | exact slices_Index_int_int.mono _ _ _
   | exact LeO.none _
   | refine LeO.ite ?_ ?_
   | refine LeO.bind ?_ (fun _ => ?_)
set_option maxHeartbeats 8000000 in
set_option maxRecDepth 100000 in
theorem slices_Contains_int_int.calls (k : Nat) (A0 : Option Addr) (c0 : Nat) (l0 : List Int) (a1 : Int) (r : Bool) (w : World) (hr0 : Kd.C (Kd.int .i64) w A0 l0.length l0) (hc0 : l0.length ≤ c0) (h : slices_Contains_int_int.f k l0 a1 = some r) :
  Calls Try.prog 56 #[.slice A0 l0.length c0,.int .i64 a1] w fun e w' => e = .returned (.bool r) ∧ Drawn0 w w' := by
 have HR0 := Aside0.mk hr0;have HC0 := Aside0.mk hc0;clear hr0 hc0;have H : ((slices_Index_int_int.f k l0 a1).bind fun t553 => (some (decide (t553 ≥ 0)))) = some r := h;clear h;replace H := Option.bind_eq_some_iff.mp H;obtain ⟨t553,A30,H⟩ := H;replace H : (some (decide (t553 ≥ 0))) = some r := H;have A3 := Aside0.mk A30;clear A30;obtain rfl := Option.some.inj H;go_enter Try.func56,Try.ntmps56;go_wp2_with (first | ((with_reducible refine gate_callee (f := 89) rfl ?_); refine goesL_ (some 7) rfl rfl Try.func89 (by kernel_rfl) rfl #[.slice A0 l0.length c0,.int .i64 a1] rfl yy3 ?_; (with_reducible refine (slices_Index_int_int.calls k _ _ l0 a1 t553 _ ?side1 ?side2 A3.out).mono ?_); (case side1 => exact yy82); (case side2 => exact HC0.out); rintro e w' ⟨rfl,⟨nd,rfl⟩⟩; refine ⟨_,rfl,?_⟩))
 go_ret;exact ⟨yy12,yy26⟩
def impl_BoxOf.l0 : Nat → Int → List (S62) → Int → Int → Option (Int × Bool)
 | 0,_,_,_,_ => none
 | k + 1,x1,x8,x9,x10 => if x10 < x9 then (if 0 ≤ x10 then (if x10 < (x8.length : Int) then ((slices_Contains_int_int.f k ((rd_T62 x8 x10).f1) x1).bind fun t556 => (if t556 = true then (some ((rd_T62 x8 x10).f0,true)) else (impl_BoxOf.l0 k x1 x8 x9 (wrap64 (x10 + 1))))) else (none)) else (none)) else (some (0,false))
def impl_BoxOf.f (k : Nat) (l0 : List (S62)) (a1 : Int) : Option (Int × Bool) := impl_BoxOf.l0 k a1 l0 (l0.length : Int) 0
theorem impl_BoxOf.mono_l : ∀ k,(∀ y0 y1 y2 y3,LeO (impl_BoxOf.l0 k y0 y1 y2 y3) (impl_BoxOf.l0 (k + 1) y0 y1 y2 y3))
 | 0 => fun _ _ _ _ r h => by simp [impl_BoxOf.l0] at h
 | k + 1 => by
  have ih0 := impl_BoxOf.mono_l k
  ·intro y0 y1 y2 y3;unfold impl_BoxOf.l0;repeat' first
   | (with_reducible exact ih0 _ _ _ _)
   | (with_reducible exact slices_Contains_int_int.mono _ _ _)
   | (with_reducible exact LeO.refl _)
   | (with_reducible exact LeO.none _)
   | (with_reducible refine LeO.ite ?_ ?_)
   | (with_reducible refine LeO.bind ?_ (fun _ => ?_))
   | exact ih0 _ _ _ _
   | exact slices_Contains_int_int.mono _ _ _
   | exact LeO.none _
   | refine LeO.ite ?_ ?_
   | refine LeO.bind ?_ (fun _ => ?_)
theorem impl_BoxOf.mono : ∀ a0 a1 k,LeO (impl_BoxOf.f k a0 a1) (impl_BoxOf.f (k + 1) a0 a1) := by
 intro a0 a1 k;have ih0 := impl_BoxOf.mono_l k;unfold impl_BoxOf.f;repeat' first
   | (with_reducible exact ih0 _ _ _ _)
   | (with_reducible exact slices_Contains_int_int.mono _ _ _)
   | (with_reducible exact LeO.refl _)
   | (with_reducible exact LeO.none _)
   | (with_reducible refine LeO.ite ?_ ?_)
   | (with_reducible refine LeO.bind ?_ (fun _ => ?_))
   | exact ih0 _ _ _ _
   | exact slices_Contains_int_int.mono _ _ _
   | exact LeO.none _
   | refine LeO.ite ?_ ?_
   | refine LeO.bind ?_ (fun _ => ?_)
set_option maxHeartbeats 8000000 in
set_option maxRecDepth 100000 in
theorem impl_BoxOf.calls (k : Nat) (A0 : Option Addr) (c0 : Nat) (l0 : List (S62)) (a1 : Int) (r1 : Int) (r2 : Bool) (w : World) (hr0 : Kd.C k62 w A0 l0.length l0) (hc0 : l0.length ≤ c0) (h : impl_BoxOf.f k l0 a1 = some (r1,r2)) :
  Calls Try.prog 24 #[.slice A0 l0.length c0,.int .i64 a1] w fun e w' => e = .returned (.tuple #[.int .i64 r1,.bool r2]) ∧ Below w.heap.size w w' := by
 have hu62 := Try.underlying62;have HR0 := Aside0.mk hr0;have HC0 := Aside0.mk hc0;clear hr0 hc0;have HB := Aside0.mk (Below.refl w.heap.size w);have H : (impl_BoxOf.l0 k a1 l0 (l0.length : Int) 0) = some (r1,r2) := h;clear h;have H' := Aside0.mk H;clear H;go_enter Try.func24,Try.ntmps24;go_wp2
 go_loopg [10] k (fun kq v10 w' => ∃ (x10_1 : Int),v10 = .int .i64 x10_1 ∧ Aside0 (impl_BoxOf.l0 kq a1 l0 (l0.length : Int) x10_1 = some (r1,r2)) ∧ Aside0 (kq ≤ k) ∧ Aside0 (Below w.heap.size w w'))
 case atStart => exact ⟨(0),yy12,H',⟨Nat.le_refl _⟩,⟨yy1⟩⟩
 case round =>
  clear H'
  try clear c2
  try clear p2
  obtain ⟨x10_1,rfl,HA,HK1,HB⟩ := hrel;cases gk with
  | zero => exact absurd HA.out (by simp [impl_BoxOf.l0])
  | succ k1 =>
   have H := HA.out;clear HA;simp only [impl_BoxOf.l0] at H;by_cases c3 : x10_1 < (l0.length : Int)
   ·rw [if_pos c3] at H;have c3b0 : decide (x10_1 < (l0.length : Int)) = true := decide_eq_true c3;clear c3;by_cases c4 : 0 ≤ x10_1
    ·rw [if_pos c4] at H;have c4b0 : decide (0 ≤ x10_1) = true := decide_eq_true c4;clear c4;by_cases c5 : x10_1 < (l0.length : Int)
     ·rw [if_pos c5] at H;have c5b0 : decide (x10_1 < (l0.length : Int)) = true := decide_eq_true c5;clear c5;replace H := Option.bind_eq_some_iff.mp H;obtain ⟨t556,A60,H⟩ := H;replace H : (if t556 = true then (some ((rd_T62 l0 x10_1).f0,true)) else (impl_BoxOf.l0 k1 a1 l0 (l0.length : Int) (wrap64 (x10_1 + 1)))) = some (r1,r2) := H;have A6 := Aside0.mk A60;clear A60;by_cases c7 : t556 = true
      ·subst c7;have H1 : (some ((rd_T62 l0 x10_1).f0,true)) = some (r1,r2) := by rw [if_pos rfl] at H; exact H
       clear H;have H := H1;clear H1;simp only [Option.some.injEq,Prod.mk.injEq] at H;obtain ⟨rfl,rfl⟩ := H;have p554 : 0 ≤ (x10_1 : Int) := of_decide_eq_true yy2;have q554 : x10_1 < (l0.length : Int) := of_decide_eq_true yy2;obtain ⟨ad554,A554_1,c554_1,e554,hx554_0,hx554_1,hl554_1,hi554_1⟩ := at_T62 HR0.out x10_1 p554 q554;cases e554;replace hx554_0 := pw_cell_below HB.out hx554_0;replace hx554_1 := pw_cell_below HB.out hx554_1;have HR554_1 := Aside0.mk hi554_1;have HC554_1 := Aside0.mk hl554_1;clear hi554_1 hl554_1;replace p554 := eq_true p554;replace q554 := eq_true q554;go_wp2_with (first | ((with_reducible refine gate_dst (N := 7) rfl ?_); refine box_event ?hg (N := 7) ?hd (cs := #[.int .i64 0,.slice none 0 0]) (t := 62) ?hr ?_; (case hd => rfl); (case hg => rfl); (case hr => first | (go_simp; done) | (go_simp; rfl)); intro gb555 hg w8 hbox hb; have n0_ := Aside0.mk (below_step yy1 hb); have n1_ := Aside0.mk (hbox); have n2_ := Aside0.mk ((by rw [hg]; exact (below_size yy1) : w.heap.size ≤ gb555)); have n3_ := Aside0.mk ((by rw [hg]; exact (below_size yy1) : w.heap.size ≤ gb555)); clear HB; have HB := n0_; have BK555 := n1_; have GW555 := n2_; have GE555 := n3_; clear n0_ n1_ n2_ n3_; clear hb hbox hg; have hcz9_0 : w8.cell? ⟨gb555,0,none⟩ = some (.int .i64 0) := (blk_cell BK555.out 0).trans rfl; have hcz9_1 : w8.cell? ⟨gb555,1,none⟩ = some (.slice none 0 0) := (blk_cell BK555.out 1).trans rfl; have hfz9_0 := blk_frozen BK555.out 0; have hfz9_1 := blk_frozen BK555.out 1) | ((with_reducible refine gate_callee (f := 56) rfl ?_); refine goesL_ (some 17) rfl rfl Try.func56 (by kernel_rfl) rfl #[.slice A554_1 ((rd_T62 l0 x10_1).f1).length c554_1,.int .i64 a1] rfl yy3 ?_; (with_reducible refine (slices_Contains_int_int.calls k1 _ _ ((rd_T62 l0 x10_1).f1) a1 true _ ?side1 ?side2 A6.out).mono ?_); (case side1 => exact Kd.C_below HR554_1.out yy79); (case side2 => exact HC554_1.out); rintro e w' ⟨rfl,⟨nd,rfl⟩⟩; refine ⟨_,rfl,?_⟩))
       go_ret2
       exact ⟨yy11,yy79⟩
      ·replace c7 := Bool.eq_false_iff.mpr c7;subst c7;have H1 : (impl_BoxOf.l0 k1 a1 l0 (l0.length : Int) (wrap64 (x10_1 + 1))) = some (r1,r2) := by rw [if_neg (show ¬ (false = true) by decide)] at H; exact H
       clear H;have H := H1;clear H1;have H' := Aside0.mk H;clear H;have p554 : 0 ≤ (x10_1 : Int) := of_decide_eq_true yy2;have q554 : x10_1 < (l0.length : Int) := of_decide_eq_true yy2;obtain ⟨ad554,A554_1,c554_1,e554,hx554_0,hx554_1,hl554_1,hi554_1⟩ := at_T62 HR0.out x10_1 p554 q554;cases e554;replace hx554_0 := pw_cell_below HB.out hx554_0;replace hx554_1 := pw_cell_below HB.out hx554_1;have HR554_1 := Aside0.mk hi554_1;have HC554_1 := Aside0.mk hl554_1;clear hi554_1 hl554_1;replace p554 := eq_true p554;replace q554 := eq_true q554;go_wp2_with (first | ((with_reducible refine gate_dst (N := 7) rfl ?_); refine box_event ?hg (N := 7) ?hd (cs := #[.int .i64 0,.slice none 0 0]) (t := 62) ?hr ?_; (case hd => rfl); (case hg => rfl); (case hr => first | (go_simp; done) | (go_simp; rfl)); intro gb555 hg w10 hbox hb; have n0_ := Aside0.mk (below_step yy1 hb); have n1_ := Aside0.mk (hbox); have n2_ := Aside0.mk ((by rw [hg]; exact (below_size yy1) : w.heap.size ≤ gb555)); have n3_ := Aside0.mk ((by rw [hg]; exact (below_size yy1) : w.heap.size ≤ gb555)); clear HB; have HB := n0_; have BK555 := n1_; have GW555 := n2_; have GE555 := n3_; clear n0_ n1_ n2_ n3_; clear hb hbox hg; have hcz11_0 : w10.cell? ⟨gb555,0,none⟩ = some (.int .i64 0) := (blk_cell BK555.out 0).trans rfl; have hcz11_1 : w10.cell? ⟨gb555,1,none⟩ = some (.slice none 0 0) := (blk_cell BK555.out 1).trans rfl; have hfz11_0 := blk_frozen BK555.out 0; have hfz11_1 := blk_frozen BK555.out 1) | ((with_reducible refine gate_callee (f := 56) rfl ?_); refine goesL_ (some 17) rfl rfl Try.func56 (by kernel_rfl) rfl #[.slice A554_1 ((rd_T62 l0 x10_1).f1).length c554_1,.int .i64 a1] rfl yy3 ?_; (with_reducible refine (slices_Contains_int_int.calls k1 _ _ ((rd_T62 l0 x10_1).f1) a1 false _ ?side1 ?side2 A6.out).mono ?_); (case side1 => exact Kd.C_below HR554_1.out yy79); (case side2 => exact HC554_1.out); rintro e w' ⟨rfl,⟨nd,rfl⟩⟩; refine ⟨_,rfl,?_⟩))
       go_roundg k1
       case measure => have := HK1.out; omega
       case rel => exact ⟨(wrap64 (x10_1 + 1)),yy12,H',⟨by have := HK1.out; omega⟩,⟨yy79⟩⟩
     ·rw [if_neg c5] at H;exact absurd H (by simp)
    ·rw [if_neg c4] at H;exact absurd H (by simp)
   ·rw [if_neg c3] at H;have c3b0 : decide (x10_1 < (l0.length : Int)) = false := decide_eq_false c3;clear c3;simp only [Option.some.injEq,Prod.mk.injEq] at H;obtain ⟨rfl,rfl⟩ := H;go_wp2
    go_ret2
    exact ⟨yy11,yy1⟩
def spec_DrawMayShare.f (l0 : List Int) : Option (Int × Int) := (spec_l1Cur_pick.f l0 0 0 6).bind fun bt558 => ((spec_l1Cur_pick.f l0 bt558.2.1 bt558.2.2 4).bind fun bt561 => (some (bt558.1,wrap64 (1 + bt561.1))))
set_option maxHeartbeats 8000000 in
set_option maxRecDepth 100000 in
theorem spec_DrawMayShare.calls (A0 : Option Addr) (c0 : Nat) (l0 : List Int) (r1 : Int) (r2 : Int) (w : World) (hr0 : Kd.C (Kd.int .u8) w A0 l0.length l0) (hc0 : l0.length ≤ c0) (h : spec_DrawMayShare.f l0 = some (r1,r2)) :
  Calls Try.prog 26 #[.slice A0 l0.length c0] w fun e w' => e = .returned (.tuple #[.int .i64 r1,.int .i64 r2]) ∧ Below w.heap.size w w' := by
 have hu76 := Try.underlying76;have HR0 := Aside0.mk hr0;have HC0 := Aside0.mk hc0;clear hr0 hc0;have HB := Aside0.mk (Below.refl w.heap.size w);have H : ((spec_l1Cur_pick.f l0 0 0 6).bind fun bt558 => ((spec_l1Cur_pick.f l0 bt558.2.1 bt558.2.2 4).bind fun bt561 => (some (bt558.1,wrap64 (1 + bt561.1))))) = some (r1,r2) := h;clear h;replace H := Option.bind_eq_some_iff.mp H;obtain ⟨⟨t558,t559,t560⟩,A20,H⟩ := H;replace H : ((spec_l1Cur_pick.f l0 t559 t560 4).bind fun bt561 => (some (t558,wrap64 (1 + bt561.1)))) = some (r1,r2) := H;have A2 := Aside0.mk A20;clear A20;replace H := Option.bind_eq_some_iff.mp H;obtain ⟨⟨t561,t562,t563⟩,A30,H⟩ := H;replace H : (some (t558,wrap64 (1 + t561))) = some (r1,r2) := H;have A3 := Aside0.mk A30;clear A30;simp only [Option.some.injEq,Prod.mk.injEq] at H;obtain ⟨rfl,rfl⟩ := H;go_enter Try.func26,Try.ntmps26;go_wp2_with (first | ((with_reducible refine gate_dst (N := 7) rfl ?_); refine box_event ?hg (N := 7) ?hd (cs := #[.slice A0 l0.length c0,.int .i64 0,.int .u64 0]) (t := 76) ?hr ?_; (case hd => rfl); (case hg => rfl); (case hr => first | (go_simp; done) | (go_simp; rfl)); intro gb557 hg w4 hbox hb; have n0_ := Aside0.mk (below_step yy1 hb); have n1_ := Aside0.mk ((by rw [hg]; exact (below_size yy1) : w.heap.size ≤ gb557)); have n2_ := Aside0.mk ((by rw [hg]; exact (below_size yy1) : w.heap.size ≤ gb557)); have n3_ := Aside0.mk ((⟨A0,c0,hbox,(by rw [hg]; exact (below_size yy1)),HR0.out⟩ : IsS76 w w4 gb557 l0 0 0)); clear HB; have HB := n0_; have GW557 := n1_; have GE557 := n2_; have HI557 := n3_; clear n0_ n1_ n2_ n3_; clear hb hbox hg) | ((with_reducible refine gate_callee (f := 48) rfl ?_); refine goesL_ (some 9) rfl rfl Try.func48 (by kernel_rfl) rfl #[.pointer (some ⟨gb557,0,none⟩),.int .i64 6] rfl yy3 ?_; (with_reducible refine (spec_l1Cur_pick.calls gb557 l0 0 0 6 t558 t559 t560 w _ ?side1 ?side2 A2.out).mono ?_); (case side1 => exact yy114); (case side2 => exact yy91); rintro e w5 ⟨rfl,hi,hb,hk⟩; refine ⟨_,rfl,?_⟩; have n0_ := Aside0.mk (hb); have n1_ := Aside0.mk (hi); clear HB; clear HI557; have HB := n0_; have HI557 := n1_; clear n0_ n1_; (try clear hb); (try clear hb2); (try clear hk); (try clear hi)) | ((with_reducible refine gate_callee (f := 48) rfl ?_); refine goesL_ (some 11) rfl rfl Try.func48 (by kernel_rfl) rfl #[.pointer (some ⟨gb557,0,none⟩),.int .i64 4] rfl yy3 ?_; (with_reducible refine (spec_l1Cur_pick.calls gb557 l0 t559 t560 4 t561 t562 t563 w _ ?side1 ?side2 A3.out).mono ?_); (case side1 => exact yy114); (case side2 => exact yy91); rintro e w6 ⟨rfl,hi,hb,hk⟩; refine ⟨_,rfl,?_⟩; have n0_ := Aside0.mk (hb); have n1_ := Aside0.mk (hi); clear HB; clear HI557; have HB := n0_; have HI557 := n1_; clear n0_ n1_; (try clear hb); (try clear hb2); (try clear hk); (try clear hi)))
 go_ret2
 exact ⟨yy11,yy91⟩
end Go.Proofs.Ytoadgikbbigdlaa.B
