import Derived.Test.YtoadgikbbigdlaaMsWAb
import Derived.Test.YtoadgikbbigdlaaMsBx0
import Derived.Test.YtoadgikbbigdlaaMsBx10
namespace Go.Proofs.Ytoadgikbbigdlaa.B
open Go.RowKit Go.Proofs.YtoadgikbbigdlaaW.PrintWords Go.Proofs.YtoadgikbbigdlaaW.PrintLast Go.Proofs.YtoadgikbbigdlaaW.PrintMore
attribute [local go_sem] max2_int min2_int max_two min_two max_three min_three max_four min_four   -- for this text's walks alone
set_option linter.unusedVariables false
set_option linter.unusedSimpArgs false
def findI {α : Type} (p : α → Bool) : List α → Int → Int
 | [],_ => -1
 | x :: t,i => if p x = true then i else findI p t (i + 1)
theorem findI_drop {α : Type} (p : α → Bool) (l : List α) (z : α) (i : Nat) (h : i < l.length) (j : Int) :
  findI p (l.drop i) j = if p (l.getD i z) = true then j else findI p (l.drop (i + 1)) (j + 1) := by
 rw [List.drop_eq_getElem_cons h,List.getD_eq_getElem?_getD,List.getElem?_eq_getElem h];rfl
theorem findI_end {α : Type} (p : α → Bool) (l : List α) (j : Int) : findI p (l.drop l.length) j = -1 := by
 rw [List.drop_length];rfl
set_option maxHeartbeats 8000000 in
set_option maxRecDepth 100000 in
theorem idx_Item (A0 : Option Addr) (c0 : Nat) (l0 : List (S50)) (g : Nat) (lb : Array Value) (p : S50 → Bool) (w : World) (hr0 : Kd.C k50 w A0 l0.length l0)
  (eg : ∀ args w,(callFunc g args).run Try.prog w = .ok (.enter g args) w)
  (hp : ∀ (W : World) (x : S50),Below w.heap.size w W → Calls Try.prog g (#[.agg #[.int .i64 x.f0,.int .i64 x.f1,.int .i64 x.f2]] ++ lb) W fun e w' => e = .returned (.bool (p x)) ∧ Below W.heap.size W w') :
  Calls Try.prog 79 #[.slice A0 l0.length c0,.func (.func g) #[] lb] w fun e w' => e = .returned (.int .i64 (findI p l0 0)) ∧ Below w.heap.size w w' := by
 have HM := Aside0.mk (Kd.C_max hr0);have HR0 := Aside0.mk hr0;have HP := Aside0.mk hp;clear hr0 hp;go_enter Try.func79,Try.ntmps79;go_wp2
 go_loopg [5,8] l0.length (fun gg _ s8 wr => ∃ kk : Nat,kk ≤ l0.length ∧ l0.length - kk ≤ gg ∧ s8 = .int .i64 kk ∧ Aside0 (Below w.heap.size w wr) ∧ Aside0 (findI p (l0.drop kk) kk = findI p l0 0))
 case atStart => exact ⟨0,Nat.zero_le _,by omega,rfl,⟨Below.refl _ _⟩,⟨rfl⟩⟩
 case round =>
  obtain ⟨kk,hkk,hg,rfl,BW,A⟩ := hrel;by_cases hlt : kk < l0.length
  ·have hltz : (kk : Int) < (l0.length : Int) := by omega
   obtain ⟨ad,ead,h0,h1,h2⟩ := at_T50 HR0.out (kk : Int) (by omega) (by omega);have D : Aside0 (findI p (l0.drop kk) (kk : Int) = if p (rd_T50 l0 (kk : Int)) = true then (kk : Int) else findI p (l0.drop (kk + 1)) ((kk : Int) + 1)) := ⟨findI_drop p l0 z50 kk hlt kk⟩;have hx := Aside0.mk (HP.out wr (rd_T50 l0 (kk : Int)) BW.out);cases ead;simp only [Int.toNat_natCast] at h0 h1 h2;replace h0 := (BW.out.cell (World.block_lt_of_cell? w _ h0)).trans h0;replace h1 := (BW.out.cell (World.block_lt_of_cell? w _ h1)).trans h1;replace h2 := (BW.out.cell (World.block_lt_of_cell? w _ h2)).trans h2;have hM := HM.out;cases hq : p (rd_T50 l0 (kk : Int)) with
   | true =>
    rw [hq] at hx;have HQ := Aside0.mk hq;clear hq;go_wp2_with (go_at_fn g; refine hx.out.mono ?_; rintro e w' ⟨rfl,hb'⟩)
    go_ret;refine ⟨?_,BW.out.trans (hb'.mono BW.out.size)⟩;rw [← A.out,D.out,if_pos HQ.out];rfl
   | false =>
    rw [hq] at hx;have HQ := Aside0.mk hq;clear hq;go_wp2_with (go_at_fn g; refine hx.out.mono ?_; rintro e w' ⟨rfl,hb'⟩)
    go_roundg (l0.length - (kk + 1))
    case measure => omega
    case rel =>
     refine ⟨kk + 1,by omega,by omega,by go_num,⟨BW.out.trans (hb'.mono BW.out.size)⟩,⟨?_⟩⟩;rw [← A.out,D.out,if_neg (by rw [HQ.out]; simp)];rfl
  ·have hltz : ¬ (kk : Int) < (l0.length : Int) := by omega
   have hk : kk = l0.length := by omega
   subst hk;have hM := HM.out;go_wp2;go_ret;refine ⟨?_,BW.out⟩;rw [← A.out,findI_end];rfl
set_option maxHeartbeats 1000000 in
theorem itemOf_pred (x : S50) (b : Nat) (n : Int) (W : World) (hb : W.cell? ⟨b,0,none⟩ = some (.int .i64 n)) :
  Calls Try.prog 80 (#[.agg #[.int .i64 x.f0,.int .i64 x.f1,.int .i64 x.f2]] ++ #[.pointer (some ⟨b,0,none⟩)]) W fun e w' => e = .returned (.bool (x.f0 == n)) ∧ Below W.heap.size W w' := by
 have hlt : b < W.heap.size := World.block_lt_of_cell? W ⟨b,0,none⟩ hb
 show Calls _ _ #[.agg #[.int .i64 x.f0,.int .i64 x.f1,.int .i64 x.f2],.pointer (some ⟨b,0,none⟩)] _ _
 go_enter Try.func80,Try.ntmps80;go_wp2;go_ret;exact ⟨rfl,(Below.refl _ _).alloc (Nat.le_refl _) _⟩
def impl_itemOf.f (l0 : List S50) (a1 : Int) : Option Int := some (findI (fun x => x.f0 == a1) l0 0)
set_option maxHeartbeats 1000000 in
theorem impl_itemOf.calls (A0 : Option Addr) (c0 : Nat) (l0 : List S50) (a1 : Int) (r : Int) (w : World) (hr0 : Kd.C k50 w A0 l0.length l0) (hc0 : l0.length ≤ c0) (h : impl_itemOf.f l0 a1 = some r) :
  Calls Try.prog 42 #[.slice A0 l0.length c0,.int .i64 a1] w fun e w' => e = .returned (.int .i64 r) ∧ Below w.heap.size w w' := by
 obtain rfl := Option.some.inj h;clear h;have HR0 := Aside0.mk hr0;clear hr0;have HB : Below w.heap.size w (w.alloc (.cells #[.int .i64 a1] 3)) := (Below.refl _ _).alloc (Nat.le_refl _) _;have hx := Aside0.mk (idx_Item A0 c0 l0 80 #[.pointer (some ⟨w.heap.size,0,none⟩)] (fun x => x.f0 == a1) (w.alloc (.cells #[.int .i64 a1] 3)) (Kd.C_below HR0.out HB) (enters_of Try.func80 (by kernel_rfl) rfl)
  (fun W x hW => itemOf_pred x _ a1 W ((hW.cell (p := ⟨w.heap.size,0,none⟩) (by simp)).trans (cell_one_new _ _ _ 0 _ rfl))))
 clear hc0;have HB' := Aside0.mk HB;clear HB;go_enter Try.func42,Try.ntmps42;go_wp2_with (go_at_call 79; refine hx.out.mono ?_; rintro e w' ⟨rfl,hb'⟩)
 go_ret;exact ⟨rfl,HB'.out.trans (hb'.mono HB'.out.size)⟩
def impl_isCapacity.f (a0 : Int) : Option (Bool) := (impl_within.f a0 1 10000).bind fun t464 => (some t464)
set_option maxHeartbeats 8000000 in
set_option maxRecDepth 100000 in
theorem impl_isCapacity.calls (a0 : Int) (r : Bool) (w : World) (h : impl_isCapacity.f a0 = some r) :
  Calls Try.prog 57 #[.int .i64 a0] w fun e w' => e = .returned (.bool r) ∧ Drawn0 w w' := by
 have H : ((impl_within.f a0 1 10000).bind fun t464 => (some t464)) = some r := h;clear h;replace H := Option.bind_eq_some_iff.mp H;obtain ⟨t464,A20,H⟩ := H;replace H : (some t464) = some r := H;have A2 := Aside0.mk A20;clear A20;obtain rfl := Option.some.inj H;go_enter Try.func57,Try.ntmps57;go_wp2_with (first | ((with_reducible refine gate_callee (f := 77) rfl ?_); refine goesL_ (some 4) rfl rfl Try.func77 (by kernel_rfl) rfl #[.int .i64 a0,.int .i64 1,.int .i64 10000] rfl yy3 ?_; (with_reducible refine (impl_within.calls a0 1 10000 t464 _ A2.out).mono ?_); rintro e w' ⟨rfl,⟨nd,rfl⟩⟩; refine ⟨_,rfl,?_⟩))
 go_ret;exact ⟨yy12,yy26⟩
def impl_mayShare.f (a0 : Int) (a1 : Int) : Option (Bool) := if ((a0 == 2) != (a1 == 2)) = true then (some false) else (if a0 = 3 then (if a1 = 4 then (some (!true)) else (if a0 = 4 then (some (!(a1 == 3))) else (some (!false)))) else (if a0 = 4 then (some (!(a1 == 3))) else (some (!false))))
set_option maxHeartbeats 8000000 in
set_option maxRecDepth 100000 in
theorem impl_mayShare.calls (a0 : Int) (a1 : Int) (r : Bool) (w : World) (h : impl_mayShare.f a0 a1 = some r) :
  Calls Try.prog 61 #[.int .i64 a0,.int .i64 a1] w fun e w' => e = .returned (.bool r) ∧ Drawn0 w w' := by
 have H : (if ((a0 == 2) != (a1 == 2)) = true then (some false) else (if a0 = 3 then (if a1 = 4 then (some (!true)) else (if a0 = 4 then (some (!(a1 == 3))) else (some (!false)))) else (if a0 = 4 then (some (!(a1 == 3))) else (some (!false))))) = some r := h;clear h;by_cases c3 : ((a0 == 2) != (a1 == 2)) = true
 ·rw [if_pos c3] at H;have c3b0 : ((a0 == 2) != (a1 == 2)) = true := c3;(try (have c3b1 : decide ((a0 == 2) = (a1 == 2)) = false := by simpa using c3))
  (try (have c3b2 : ((a0 == 2) == (a1 == 2)) = false := by simpa using c3))
  (try (have c3b3 : ¬ ((a0 == 2) = (a1 == 2)) := by simpa using c3))
  clear c3;obtain rfl := Option.some.inj H;go_enter Try.func61,Try.ntmps61;go_wp2;go_ret;exact ⟨yy12,yy26⟩
 ·rw [if_neg c3] at H;have c3b0 : ((a0 == 2) != (a1 == 2)) = false := by simpa using c3
  (try (have c3b1 : decide ((a0 == 2) = (a1 == 2)) = true := by simpa using c3))
  (try (have c3b2 : ((a0 == 2) == (a1 == 2)) = true := by simpa using c3))
  clear c3;by_cases c4 : a0 = 3
  ·rw [if_pos c4] at H;have c4b0 : (a0 == 3) = true := beq_iff_eq.mpr c4;have c4b1 : (a0 != 3) = false := bne_eq_false_iff_eq.mpr c4;clear c4;by_cases c5 : a1 = 4
   ·rw [if_pos c5] at H;have c5b0 : (a1 == 4) = true := beq_iff_eq.mpr c5;have c5b1 : (a1 != 4) = false := bne_eq_false_iff_eq.mpr c5;clear c5;obtain rfl := Option.some.inj H;go_enter Try.func61,Try.ntmps61;go_wp2;go_ret;exact ⟨yy12,yy26⟩
   ·rw [if_neg c5] at H;have c5b0 : (a1 == 4) = false := beq_eq_false_iff_ne.mpr c5;have c5b1 : (a1 != 4) = true := bne_iff_ne.mpr c5;by_cases c6 : a0 = 4
    ·rw [if_pos c6] at H;have c6b0 : (a0 == 4) = true := beq_iff_eq.mpr c6;have c6b1 : (a0 != 4) = false := bne_eq_false_iff_eq.mpr c6;clear c6;obtain rfl := Option.some.inj H;go_enter Try.func61,Try.ntmps61;go_wp2;go_ret;exact ⟨yy12,yy26⟩
    ·rw [if_neg c6] at H;have c6b0 : (a0 == 4) = false := beq_eq_false_iff_ne.mpr c6;have c6b1 : (a0 != 4) = true := bne_iff_ne.mpr c6;obtain rfl := Option.some.inj H;go_enter Try.func61,Try.ntmps61;go_wp2;go_ret;exact ⟨yy12,yy26⟩
  ·rw [if_neg c4] at H;have c4b0 : (a0 == 3) = false := beq_eq_false_iff_ne.mpr c4;have c4b1 : (a0 != 3) = true := bne_iff_ne.mpr c4;by_cases c7 : a0 = 4
   ·rw [if_pos c7] at H;have c7b0 : (a0 == 4) = true := beq_iff_eq.mpr c7;have c7b1 : (a0 != 4) = false := bne_eq_false_iff_eq.mpr c7;clear c7;obtain rfl := Option.some.inj H;go_enter Try.func61,Try.ntmps61;go_wp2;go_ret;exact ⟨yy12,yy26⟩
   ·rw [if_neg c7] at H;have c7b0 : (a0 == 4) = false := beq_eq_false_iff_ne.mpr c7;have c7b1 : (a0 != 4) = true := bne_iff_ne.mpr c7;obtain rfl := Option.some.inj H;go_enter Try.func61,Try.ntmps61;go_wp2;go_ret;exact ⟨yy12,yy26⟩
def impl_fits.l0 : Nat → List (S50) → Int → Int → Int → List Int → Int → Int → Option (Bool)
 | 0,_,_,_,_,_,_,_ => none
 | k + 1,x0,x2,x3,x9,x17,x18,x19 => if x19 < x18 then (if 0 ≤ x19 then (if x19 < (x17.length : Int) then (if 0 ≤ (rd x17 x19) then (if (rd x17 x19) < (x0.length : Int) then (if 0 ≤ x2 then (if x2 < (x0.length : Int) then ((impl_mayShare.f ((rd_T50 x0 (rd x17 x19)).f1) ((rd_T50 x0 x2).f1)).bind fun t469 => (if t469 = true then (impl_fits.l0 k x0 x2 x3 (wrap64 (x9 + ((rd_T50 x0 (rd x17 x19)).f2))) x17 x18 (wrap64 (x19 + 1))) else (some false))) else (none)) else (none)) else (none)) else (none)) else (none)) else (none)) else (some (decide (x9 ≤ x3)))
def impl_fits.f (k : Nat) (l0 : List (S50)) (l1 : List Int) (a2 : Int) (a3 : Int) : Option (Bool) := if 0 ≤ a2 then (if a2 < (l0.length : Int) then (impl_fits.l0 k l0 a2 a3 ((rd_T50 l0 a2).f2) l1 (l1.length : Int) 0) else (none)) else (none)
theorem impl_fits.mono_l : ∀ k,(∀ y0 y1 y2 y3 y4 y5 y6,LeO (impl_fits.l0 k y0 y1 y2 y3 y4 y5 y6) (impl_fits.l0 (k + 1) y0 y1 y2 y3 y4 y5 y6))
 | 0 => fun _ _ _ _ _ _ _ r h => by simp [impl_fits.l0] at h
 | k + 1 => by
  have ih0 := impl_fits.mono_l k
  ·intro y0 y1 y2 y3 y4 y5 y6;unfold impl_fits.l0;repeat' first
   | (with_reducible exact ih0 _ _ _ _ _ _ _)
   | (with_reducible exact LeO.refl _)
   | (with_reducible exact LeO.none _)
   | (with_reducible refine LeO.ite ?_ ?_)
   | (with_reducible refine LeO.bind ?_ (fun _ => ?_))
   | exact ih0 _ _ _ _ _ _ _
   | exact LeO.none _
   | refine LeO.ite ?_ ?_
   | refine LeO.bind ?_ (fun _ => ?_)
theorem impl_fits.mono : ∀ a0 a1 a2 a3 k,LeO (impl_fits.f k a0 a1 a2 a3) (impl_fits.f (k + 1) a0 a1 a2 a3) := by
 intro a0 a1 a2 a3 k;have ih0 := impl_fits.mono_l k;unfold impl_fits.f;repeat' first
   | (with_reducible exact ih0 _ _ _ _ _ _ _)
   | (with_reducible exact LeO.refl _)
   | (with_reducible exact LeO.none _)
   | (with_reducible refine LeO.ite ?_ ?_)
   | (with_reducible refine LeO.bind ?_ (fun _ => ?_))
   | exact ih0 _ _ _ _ _ _ _
   | exact LeO.none _
   | refine LeO.ite ?_ ?_
   | refine LeO.bind ?_ (fun _ => ?_)
set_option maxHeartbeats 8000000 in
set_option maxRecDepth 100000 in
theorem impl_fits.calls (k : Nat) (A0 : Option Addr) (c0 : Nat) (l0 : List (S50)) (A1 : Option Addr) (c1 : Nat) (l1 : List Int) (a2 : Int) (a3 : Int) (r : Bool) (w : World) (hr0 : Kd.C k50 w A0 l0.length l0) (hc0 : l0.length ≤ c0) (hr1 : Kd.C (Kd.int .i64) w A1 l1.length l1) (hc1 : l1.length ≤ c1) (h : impl_fits.f k l0 l1 a2 a3 = some r) :
  Calls Try.prog 59 #[.slice A0 l0.length c0,.slice A1 l1.length c1,.int .i64 a2,.int .i64 a3] w fun e w' => e = .returned (.bool r) ∧ Drawn0 w w' := by
 have HR0 := Aside0.mk hr0;have HC0 := Aside0.mk hc0;clear hr0 hc0;have HR1 := Aside0.mk hr1;have HC1 := Aside0.mk hc1;clear hr1 hc1;have H : (if 0 ≤ a2 then (if a2 < (l0.length : Int) then (impl_fits.l0 k l0 a2 a3 ((rd_T50 l0 a2).f2) l1 (l1.length : Int) 0) else (none)) else (none)) = some r := h;clear h;by_cases c5 : 0 ≤ a2
 ·rw [if_pos c5] at H;have c5b0 : decide (0 ≤ a2) = true := decide_eq_true c5;clear c5;by_cases c6 : a2 < (l0.length : Int)
  ·rw [if_pos c6] at H;have c6b0 : decide (a2 < (l0.length : Int)) = true := decide_eq_true c6;clear c6;have H' := Aside0.mk H;clear H;have p465 : 0 ≤ (a2 : Int) := of_decide_eq_true yy2;have q465 : a2 < (l0.length : Int) := of_decide_eq_true yy2;obtain ⟨ad465,e465,hx465_0,hx465_1,hx465_2⟩ := at_T50 HR0.out a2 p465 q465;cases e465;replace p465 := eq_true p465;replace q465 := eq_true q465;go_enter Try.func59,Try.ntmps59;go_wp2;repeat (go_quiet (fail); try go_wp2)
   go_loopg [9,19] k (fun kq v9 v19 w' => ∃ (x9_1 : Int) (x19_1 : Int),v9 = .int .i64 x9_1 ∧ v19 = .int .i64 x19_1 ∧ Aside0 (impl_fits.l0 kq l0 a2 a3 x9_1 l1 (l1.length : Int) x19_1 = some r) ∧ Aside0 (kq ≤ k) ∧ Drawn0 w w')
   case atStart => exact ⟨((rd_T50 l0 a2).f2),(0),yy12,yy12,H',⟨Nat.le_refl _⟩,yy26⟩
   case round =>
    clear H'
    try clear c1
    try clear p2
    try clear p4
    try clear q4
    try clear hx4
    try clear c5
    try clear c5b0
    try clear c6
    try clear c6b0
    try clear hx465_0
    try clear hx465_1
    try clear hx465_2
    try clear p465
    try clear q465
    obtain ⟨x9_1,x19_1,rfl,rfl,HA,HK1,⟨m1,rfl⟩⟩ := hrel;cases gk with
    | zero => exact absurd HA.out (by simp [impl_fits.l0])
    | succ k1 =>
     have H := HA.out;clear HA;simp only [impl_fits.l0] at H;by_cases c7 : x19_1 < (l1.length : Int)
     ·rw [if_pos c7] at H;have c7b0 : decide (x19_1 < (l1.length : Int)) = true := decide_eq_true c7;clear c7;by_cases c8 : 0 ≤ x19_1
      ·rw [if_pos c8] at H;have c8b0 : decide (0 ≤ x19_1) = true := decide_eq_true c8;clear c8;by_cases c9 : x19_1 < (l1.length : Int)
       ·rw [if_pos c9] at H;have c9b0 : decide (x19_1 < (l1.length : Int)) = true := decide_eq_true c9;clear c9;by_cases c10 : 0 ≤ (rd l1 x19_1)
        ·rw [if_pos c10] at H;have c10b0 : decide (0 ≤ (rd l1 x19_1)) = true := decide_eq_true c10;clear c10;by_cases c11 : (rd l1 x19_1) < (l0.length : Int)
         ·rw [if_pos c11] at H;have c11b0 : decide ((rd l1 x19_1) < (l0.length : Int)) = true := decide_eq_true c11;clear c11;by_cases c12 : 0 ≤ a2
          ·rw [if_pos c12] at H;have c12b0 : decide (0 ≤ a2) = true := decide_eq_true c12;clear c12;by_cases c13 : a2 < (l0.length : Int)
           ·rw [if_pos c13] at H;have c13b0 : decide (a2 < (l0.length : Int)) = true := decide_eq_true c13;clear c13;replace H := Option.bind_eq_some_iff.mp H;obtain ⟨t469,A140,H⟩ := H;replace H : (if t469 = true then (impl_fits.l0 k1 l0 a2 a3 (wrap64 (x9_1 + ((rd_T50 l0 (rd l1 x19_1)).f2))) l1 (l1.length : Int) (wrap64 (x19_1 + 1))) else (some false)) = some r := H;have A14 := Aside0.mk A140;clear A140;by_cases c15 : t469 = true
            ·subst c15;have H1 : (impl_fits.l0 k1 l0 a2 a3 (wrap64 (x9_1 + ((rd_T50 l0 (rd l1 x19_1)).f2))) l1 (l1.length : Int) (wrap64 (x19_1 + 1))) = some r := by rw [if_pos rfl] at H; exact H
             clear H;have H := H1;clear H1;have H' := Aside0.mk H;clear H;have p466 : 0 ≤ (x19_1 : Int) := of_decide_eq_true yy2;have q466 : x19_1 < (l1.length : Int) := of_decide_eq_true yy2;obtain ⟨ad466,e466,hx466_0⟩ := Kd.at_int HR1.out x19_1 p466 q466;cases e466;replace p466 := eq_true p466;replace q466 := eq_true q466;have p467 : 0 ≤ ((rd l1 x19_1) : Int) := of_decide_eq_true yy2;have q467 : (rd l1 x19_1) < (l0.length : Int) := of_decide_eq_true yy2;obtain ⟨ad467,e467,hx467_0,hx467_1,hx467_2⟩ := at_T50 HR0.out (rd l1 x19_1) p467 q467;obtain rfl : ad465 = ad467 := (by injection e467);replace p467 := eq_true p467;replace q467 := eq_true q467;have p468 : 0 ≤ (a2 : Int) := of_decide_eq_true yy2;have q468 : a2 < (l0.length : Int) := of_decide_eq_true yy2;obtain ⟨ad468,e468,hx468_0,hx468_1,hx468_2⟩ := at_T50 HR0.out a2 p468 q468;obtain rfl : ad465 = ad468 := (by injection e468);replace p468 := eq_true p468;replace q468 := eq_true q468;go_wp2_with (first | (go_at_call 61; (with_reducible refine (impl_mayShare.calls ((rd_T50 l0 (rd l1 x19_1)).f1) ((rd_T50 l0 a2).f1) true _ A14.out).mono ?_); rintro e w' ⟨rfl,⟨nd,rfl⟩⟩; (try exact yy6); have p470 : 0 ≤ ((rd l1 x19_1) : Int) := of_decide_eq_true yy2; have q470 : (rd l1 x19_1) < (l0.length : Int) := of_decide_eq_true yy2; obtain ⟨ad470,e470,hx470_0,hx470_1,hx470_2⟩ := at_T50 HR0.out (rd l1 x19_1) p470 q470; obtain rfl : ad465 = ad470 := (by injection e470); replace p470 := eq_true p470; replace q470 := eq_true q470))
             repeat (go_quiet (first | (go_at_call 61; (with_reducible refine (impl_mayShare.calls ((rd_T50 l0 (rd l1 x19_1)).f1) ((rd_T50 l0 a2).f1) true _ A14.out).mono ?_); rintro e w' ⟨rfl,⟨nd,rfl⟩⟩; (try exact yy6); have p470 : 0 ≤ ((rd l1 x19_1) : Int) := of_decide_eq_true yy2; have q470 : (rd l1 x19_1) < (l0.length : Int) := of_decide_eq_true yy2; obtain ⟨ad470,e470,hx470_0,hx470_1,hx470_2⟩ := at_T50 HR0.out (rd l1 x19_1) p470 q470; obtain rfl : ad465 = ad470 := (by injection e470); replace p470 := eq_true p470; replace q470 := eq_true q470)); try go_wp2_with (first | (go_at_call 61; (with_reducible refine (impl_mayShare.calls ((rd_T50 l0 (rd l1 x19_1)).f1) ((rd_T50 l0 a2).f1) true _ A14.out).mono ?_); rintro e w' ⟨rfl,⟨nd,rfl⟩⟩; (try exact yy6); have p470 : 0 ≤ ((rd l1 x19_1) : Int) := of_decide_eq_true yy2; have q470 : (rd l1 x19_1) < (l0.length : Int) := of_decide_eq_true yy2; obtain ⟨ad470,e470,hx470_0,hx470_1,hx470_2⟩ := at_T50 HR0.out (rd l1 x19_1) p470 q470; obtain rfl : ad465 = ad470 := (by injection e470); replace p470 := eq_true p470; replace q470 := eq_true q470)))
             go_roundg k1
             case measure => have := HK1.out; omega
             case rel => exact ⟨(wrap64 (x9_1 + ((rd_T50 l0 (rd l1 x19_1)).f2))),(wrap64 (x19_1 + 1)),yy12,yy12,H',⟨by have := HK1.out; omega⟩,yy26⟩
            ·replace c15 := Bool.eq_false_iff.mpr c15;subst c15;have H1 : (some false) = some r := by rw [if_neg (show ¬ (false = true) by decide)] at H; exact H
             clear H;have H := H1;clear H1;obtain rfl := Option.some.inj H;have p466 : 0 ≤ (x19_1 : Int) := of_decide_eq_true yy2;have q466 : x19_1 < (l1.length : Int) := of_decide_eq_true yy2;obtain ⟨ad466,e466,hx466_0⟩ := Kd.at_int HR1.out x19_1 p466 q466;cases e466;replace p466 := eq_true p466;replace q466 := eq_true q466;have p467 : 0 ≤ ((rd l1 x19_1) : Int) := of_decide_eq_true yy2;have q467 : (rd l1 x19_1) < (l0.length : Int) := of_decide_eq_true yy2;obtain ⟨ad467,e467,hx467_0,hx467_1,hx467_2⟩ := at_T50 HR0.out (rd l1 x19_1) p467 q467;obtain rfl : ad465 = ad467 := (by injection e467);replace p467 := eq_true p467;replace q467 := eq_true q467;have p468 : 0 ≤ (a2 : Int) := of_decide_eq_true yy2;have q468 : a2 < (l0.length : Int) := of_decide_eq_true yy2;obtain ⟨ad468,e468,hx468_0,hx468_1,hx468_2⟩ := at_T50 HR0.out a2 p468 q468;obtain rfl : ad465 = ad468 := (by injection e468);replace p468 := eq_true p468;replace q468 := eq_true q468;go_wp2_with (first | (go_at_call 61; (with_reducible refine (impl_mayShare.calls ((rd_T50 l0 (rd l1 x19_1)).f1) ((rd_T50 l0 a2).f1) false _ A14.out).mono ?_); rintro e w' ⟨rfl,⟨nd,rfl⟩⟩; (try exact yy6)))
             repeat (go_quiet (first | (go_at_call 61; (with_reducible refine (impl_mayShare.calls ((rd_T50 l0 (rd l1 x19_1)).f1) ((rd_T50 l0 a2).f1) false _ A14.out).mono ?_); rintro e w' ⟨rfl,⟨nd,rfl⟩⟩; (try exact yy6))); try go_wp2_with (first | (go_at_call 61; (with_reducible refine (impl_mayShare.calls ((rd_T50 l0 (rd l1 x19_1)).f1) ((rd_T50 l0 a2).f1) false _ A14.out).mono ?_); rintro e w' ⟨rfl,⟨nd,rfl⟩⟩; (try exact yy6))))
             go_ret;exact ⟨yy12,yy26⟩
           ·rw [if_neg c13] at H;exact absurd H (by simp)
          ·rw [if_neg c12] at H;exact absurd H (by simp)
         ·rw [if_neg c11] at H;exact absurd H (by simp)
        ·rw [if_neg c10] at H;exact absurd H (by simp)
       ·rw [if_neg c9] at H;exact absurd H (by simp)
      ·rw [if_neg c8] at H;exact absurd H (by simp)
     ·rw [if_neg c7] at H;have c7b0 : decide (x19_1 < (l1.length : Int)) = false := decide_eq_false c7;clear c7;obtain rfl := Option.some.inj H;go_wp2;repeat (go_quiet (fail); try go_wp2)
      go_ret;exact ⟨yy12,yy26⟩
  ·rw [if_neg c6] at H;exact absurd H (by simp)
 ·rw [if_neg c5] at H;exact absurd H (by simp)
end Go.Proofs.Ytoadgikbbigdlaa.B
