import Derived.Test.YtoadgikbbigdlaaPaWAb
import Derived.Test.YtoadgikbbigdlaaPaAx0
namespace Go.Proofs.Ytoadgikbbigdlaa.A
open Go.RowKit Go.Proofs.YtoadgikbbigdlaaW.PrintWords Go.Proofs.YtoadgikbbigdlaaW.PrintLast Go.Proofs.YtoadgikbbigdlaaW.PrintMore
attribute [local go_sem] max2_int min2_int max_two min_two max_three min_three max_four min_four   -- for this text's walks alone
set_option linter.unusedVariables false
set_option linter.unusedSimpArgs false
def spec_l1Put.l0 : Nat → List Int → Int → Int → Option (List Int)
 | 0, _, _, _ => none
 | k + 1, x0, x1, x5 => if x5 < (x0.length : Int) then (if 0 ≤ x5 then (if (rd x0 x5) < x1 then (spec_l1Put.l0 k x0 x1 (wrap64 (x5 + 1))) else (if (rd x0 x5) = x1 then (some x0) else ((some (([] : List Int) : List Int)).bind fun y135 => (if x5 ≤ (x0.length : Int) then ((some (x0.take (x5 : Int).toNat : List Int)).bind fun y138 => (if y135.length + y138.length < 17592186044416 then ((some (y135 ++ y138 : List Int)).bind fun y143 => ((some (([x1] : List Int) : List Int)).bind fun y146 => (if y143.length + y146.length < 17592186044416 then ((some (y143 ++ y146 : List Int)).bind fun y149 => ((some (x0.drop (x5 : Int).toNat : List Int)).bind fun y152 => (if y149.length + y152.length < 17592186044416 then (some (y149 ++ y152)) else (none)))) else (none)))) else (none))) else (none))))) else (none)) else ((some (([] : List Int) : List Int)).bind fun y160 => (if 0 ≤ x5 then (if x5 ≤ (x0.length : Int) then ((some (x0.take (x5 : Int).toNat : List Int)).bind fun y163 => (if y160.length + y163.length < 17592186044416 then ((some (y160 ++ y163 : List Int)).bind fun y168 => ((some (([x1] : List Int) : List Int)).bind fun y171 => (if y168.length + y171.length < 17592186044416 then ((some (y168 ++ y171 : List Int)).bind fun y174 => ((some (x0.drop (x5 : Int).toNat : List Int)).bind fun y177 => (if y174.length + y177.length < 17592186044416 then (some (y174 ++ y177)) else (none)))) else (none)))) else (none))) else (none)) else (none)))
def spec_l1Put.f (k : Nat) (l0 : List Int) (a1 : Int) : Option (List Int) := spec_l1Put.l0 k l0 a1 0
theorem spec_l1Put.mono_l : ∀ k, (∀ y0 y1 y2, LeO (spec_l1Put.l0 k y0 y1 y2) (spec_l1Put.l0 (k + 1) y0 y1 y2))
 | 0 => fun _ _ _ r h => by simp [spec_l1Put.l0] at h
 | k + 1 => by
  have ih0 := spec_l1Put.mono_l k
  ·intro y0 y1 y2
   unfold spec_l1Put.l0
   repeat' first
   | (with_reducible exact ih0 _ _ _)
   | (with_reducible exact LeO.refl _)
   | (with_reducible exact LeO.none _)
   | (with_reducible refine LeO.ite ?_ ?_)
   | (with_reducible refine LeO.bind ?_ (fun _ => ?_))
   | exact ih0 _ _ _
   | exact LeO.none _
   | refine LeO.ite ?_ ?_
   | refine LeO.bind ?_ (fun _ => ?_)
theorem spec_l1Put.mono : ∀ a0 a1 k, LeO (spec_l1Put.f k a0 a1) (spec_l1Put.f (k + 1) a0 a1) := by
 intro a0 a1 k
 have ih0 := spec_l1Put.mono_l k
 unfold spec_l1Put.f
 repeat' first
   | (with_reducible exact ih0 _ _ _)
   | (with_reducible exact LeO.refl _)
   | (with_reducible exact LeO.none _)
   | (with_reducible refine LeO.ite ?_ ?_)
   | (with_reducible refine LeO.bind ?_ (fun _ => ?_))
   | exact ih0 _ _ _
   | exact LeO.none _
   | refine LeO.ite ?_ ?_
   | refine LeO.bind ?_ (fun _ => ?_)
def spec_l1Put.T6 : Bool × List (List Nat × List Nat) := (true, [([], []), ([], []), ([], []), ([1, 2], [1, 2]), ([0, 3], [0, 3]), ([], []), ([5], [5]), ([4, 6, 4], [4, 6]), ([], []), ([], []), ([8, 9], [8, 9]), ([7, 10, 7], [7, 10]), ([11, 11, 0, 1, 2, 3, 4, 5, 6, 7, 8, 9, 10, 11], [11])])
def spec_l1Put.B6 : List Nat := [0, 0, 0, 6, 15, 0, 32, 127, 0, 0, 768, 2047, 4095]
theorem spec_l1Put.tab6 : rtab .any (opsOf Try.f35 6) = spec_l1Put.T6 := by kernel_rfl
theorem spec_l1Put.bits6 : waitsOk spec_l1Put.T6.2 spec_l1Put.B6 = true := by kernel_rfl
def bYtoadgikbbigdlaaPaAx4_0 : Array Bool := #[false, false, false, false, false, false, false, false, false, false, false, false, false]
def bYtoadgikbbigdlaaPaAx4_1 : Array Bool := #[false, true, false, false, false, false, false, false, false, false, false, false, false]
def bYtoadgikbbigdlaaPaAx4_2 : Array Bool := #[false, true, true, false, false, false, false, false, false, false, false, false, false]
def bYtoadgikbbigdlaaPaAx4_3 : Array Bool := #[false, true, true, true, false, false, false, false, false, false, false, false, false]
def bYtoadgikbbigdlaaPaAx4_4 : Array Bool := #[false, true, true, true, false, true, false, false, false, false, false, false, false]
def bYtoadgikbbigdlaaPaAx4_5 : Array Bool := #[false, true, true, true, false, true, false, false, true, false, false, false, false]
def bYtoadgikbbigdlaaPaAx4_6 : Array Bool := #[false, true, true, true, false, true, false, false, true, true, false, false, false]
def bYtoadgikbbigdlaaPaAx4_7 : Array Bool := #[false, true, true, true, false, true, false, false, true, true, true, false, false]
def bYtoadgikbbigdlaaPaAx4_8 : Array Bool := #[true, true, true, true, true, true, true, false, true, true, true, false, false]
def bYtoadgikbbigdlaaPaAx4_9 : Array Bool := #[true, true, true, true, false, true, false, false, true, true, true, false, false]
def bYtoadgikbbigdlaaPaAx4_10 : Array Bool := #[false, true, true, true, false, true, true, false, true, true, true, false, false]
def bYtoadgikbbigdlaaPaAx4_11 : Array Bool := #[true, true, true, true, true, true, false, false, true, true, true, false, false]
def bYtoadgikbbigdlaaPaAx4_12 : Array Bool := #[true, true, true, true, false, true, true, false, true, true, true, false, false]
def bYtoadgikbbigdlaaPaAx4_13 : Array Bool := #[true, true, true, true, true, true, true, true, true, true, true, false, false]
def bYtoadgikbbigdlaaPaAx4_14 : Array Bool := #[true, true, true, true, true, true, true, true, true, true, true, true, false]
def bYtoadgikbbigdlaaPaAx4_15 : Array Bool := #[true, true, true, true, true, true, true, true, true, true, true, true, true]
set_option maxHeartbeats 8000000 in
set_option maxRecDepth 100000 in
theorem spec_l1Put.calls (k : Nat) (P0_ : Nat → Prop) (u9000_ : Value) (l0 : List Int) (a1 : Int) (r : List Int) (w0 w : World) (hB : Below w0.heap.size w0 w) (ho0 : Kd.R (Kd.int .i64) 3 w w0.heap.size P0_ u9000_ l0) (h : spec_l1Put.f k l0 a1 = some r) :
  Calls Try.prog 35 #[u9000_, .int .i64 a1] w fun e w' => ∃ v0_ : Value, e = .returned (v0_) ∧ Kd.R (Kd.int .i64) 3 w' w0.heap.size (fun k_ => (P0_ k_ ∨ w.heap.size ≤ k_)) v0_ r ∧ Below w0.heap.size w0 w' ∧ Kept w w' (fun k_ => P0_ k_) := by
 have HO0 := Aside0.mk (show Kd.R (Kd.int .i64) 3 w w0.heap.size (fun k_ => (P0_ k_ ∨ w.heap.size ≤ k_)) u9000_ l0 from Kd.R_mono ho0 (fun k_ hk => (.inl hk)))
 have HK := Aside0.mk (Kept.refl w (fun k_ => P0_ k_))
 have HW0 := Aside0.mk hB.size
 have HB := Aside0.mk hB
 clear hB
 have H : (spec_l1Put.l0 k l0 a1 0) = some r := h
 clear h
 have H' := Aside0.mk H
 clear H
 go_enter Try.func35, Try.ntmps35
 go_wp2
 go_loopg [5] k (fun kq v5 w' => ∃ (x5_1 : Int), v5 = .int .i64 x5_1 ∧ Aside0 (spec_l1Put.l0 kq l0 a1 x5_1 = some r) ∧ Aside0 (kq ≤ k) ∧ Aside0 (Kd.R (Kd.int .i64) 3 w' w0.heap.size (fun k_ => (P0_ k_ ∨ w.heap.size ≤ k_)) u9000_ l0) ∧ Aside0 (Kept w w' (fun k_ => P0_ k_)) ∧ Aside0 (Below w0.heap.size w0 w'))
 case atStart => exact ⟨(0), yy11, H', ⟨Nat.le_refl _⟩, ⟨by (with_reducible repeat (first | apply Kd.R_alloc | apply Kd.R_drewN | apply Kd.R_drew)); exact HO0.out⟩, ⟨by repeat (first | (with_reducible first | exact HK.out | apply Kept.alloc | apply Kept.drewN | apply Kept.drew) | exact HK.out)⟩, ⟨by repeat (first | (with_reducible first | exact HB.out | apply below_alloc | apply pw_below_drewN | apply below_drew1) | exact HB.out)⟩⟩
 case round =>
  clear H'
  try clear p2
  obtain ⟨x5_1, rfl, HA, HK1, HO_0, HK, HB⟩ := hrel
  cases gk with
  | zero => exact absurd HA.out (by simp [spec_l1Put.l0])
  | succ k1 =>
   have H := HA.out
   clear HA
   simp only [spec_l1Put.l0] at H
   by_cases c3 : x5_1 < (l0.length : Int)
   ·rw [if_pos c3] at H
    have c3b0 : decide (x5_1 < (l0.length : Int)) = true := decide_eq_true c3
    clear c3
    by_cases c4 : 0 ≤ x5_1
    ·rw [if_pos c4] at H
     have c4b0 : decide (0 ≤ x5_1) = true := decide_eq_true c4
     clear c4
     by_cases c5 : (rd l0 x5_1) < a1
     ·rw [if_pos c5] at H
      have c5b0 : decide ((rd l0 x5_1) < a1) = true := decide_eq_true c5
      clear c5
      have H' := Aside0.mk H
      clear H
      obtain ⟨Ao6, co6, eo6⟩ := Kd.R_slice HO_0.out
      subst eo6
      have p133 : 0 ≤ (x5_1 : Int) := of_decide_eq_true yy2
      have q133 : x5_1 < (l0.length : Int) := of_decide_eq_true yy2
      obtain ⟨ad133, e133, hx133_0⟩ := Kd.at_int (Kd.R_reads' HO_0.out).2.2 x5_1 p133 q133
      cases e133
      replace p133 := eq_true p133
      replace q133 := eq_true q133
      go_wp2
      go_roundg k1
      case measure => have := HK1.out; omega
      case rel => exact ⟨(wrap64 (x5_1 + 1)), yy11, H', ⟨by have := HK1.out; omega⟩, ⟨by (with_reducible repeat (first | apply Kd.R_alloc | apply Kd.R_drewN | apply Kd.R_drew)); exact HO_0.out⟩, ⟨by repeat (first | (with_reducible first | exact HK.out | apply Kept.alloc | apply Kept.drewN | apply Kept.drew) | exact HK.out)⟩, ⟨by repeat (first | (with_reducible first | exact HB.out | apply below_alloc | apply pw_below_drewN | apply below_drew1) | exact HB.out)⟩⟩
     ·rw [if_neg c5] at H
      have c5b0 : decide ((rd l0 x5_1) < a1) = false := decide_eq_false c5
      clear c5
      by_cases c7 : (rd l0 x5_1) = a1
      ·rw [if_pos c7] at H
       have c7b0 : ((rd l0 x5_1) == a1) = true := beq_iff_eq.mpr c7
       have c7b1 : ((rd l0 x5_1) != a1) = false := bne_eq_false_iff_eq.mpr c7
       clear c7
       obtain rfl := Option.some.inj H
       obtain ⟨Ao8, co8, eo8⟩ := Kd.R_slice HO_0.out
       subst eo8
       have p133 : 0 ≤ (x5_1 : Int) := of_decide_eq_true yy2
       have q133 : x5_1 < (l0.length : Int) := of_decide_eq_true yy2
       obtain ⟨ad133, e133, hx133_0⟩ := Kd.at_int (Kd.R_reads' HO_0.out).2.2 x5_1 p133 q133
       cases e133
       replace p133 := eq_true p133
       replace q133 := eq_true q133
       have p134 : 0 ≤ (x5_1 : Int) := of_decide_eq_true yy2
       have q134 : x5_1 < (l0.length : Int) := of_decide_eq_true yy2
       obtain ⟨ad134, e134, hx134_0⟩ := Kd.at_int (Kd.R_reads' HO_0.out).2.2 x5_1 p134 q134
       obtain rfl : ad133 = ad134 := (by injection e134)
       replace p134 := eq_true p134
       replace q134 := eq_true q134
       go_wp2
       go_ret
       exact ⟨_, by first | rfl | (simp [errW_none, errW_some] <;> rfl) | (simp [*, errW_none, errW_some] <;> rfl), by (with_reducible repeat (first | apply Kd.R_alloc | apply Kd.R_drewN | apply Kd.R_drew)); exact HO_0.out, by repeat (first | (with_reducible first | exact HB.out | apply below_alloc | apply pw_below_drewN | apply below_drew1) | exact HB.out), by repeat (first | (with_reducible first | exact HK.out | apply Kept.alloc | apply Kept.drewN | apply Kept.drew) | exact HK.out)⟩
      ·rw [if_neg c7] at H
       have c7b0 : ((rd l0 x5_1) == a1) = false := beq_eq_false_iff_ne.mpr c7
       have c7b1 : ((rd l0 x5_1) != a1) = true := bne_iff_ne.mpr c7
       obtain ⟨y135, hy135⟩ : ∃ y_ : List Int, y_ = (([] : List Int)) := ⟨_, rfl⟩
       replace H : (if x5_1 ≤ (l0.length : Int) then ((some (l0.take (x5_1 : Int).toNat : List Int)).bind fun y138 => (if y135.length + y138.length < 17592186044416 then ((some (y135 ++ y138 : List Int)).bind fun y143 => ((some (([a1] : List Int) : List Int)).bind fun y146 => (if y143.length + y146.length < 17592186044416 then ((some (y143 ++ y146 : List Int)).bind fun y149 => ((some (l0.drop (x5_1 : Int).toNat : List Int)).bind fun y152 => (if y149.length + y152.length < 17592186044416 then (some (y149 ++ y152)) else (none)))) else (none)))) else (none))) else (none)) = some r := by first | (rw [hy135]; with_reducible exact H) | (have H2_ := (Option.bind_some _ _).symm.trans H; rw [hy135]; with_reducible exact H2_) | (have H2_ := (Option.bind_some _ _).symm.trans H; with_reducible exact H2_) | with_reducible exact H | (rw [hy135]; exact H) | exact H
       have Ny135 := Aside0.mk hy135
       clear hy135
       have c9b0 := eq_true (of_decide_eq_true yy2 : 0 ≤ x5_1)
       by_cases c10 : x5_1 ≤ (l0.length : Int)
       ·rw [if_pos c10] at H
        have c10b0 := eq_true c10
        have c10b1 : decide (x5_1 ≤ (l0.length : Int)) = true := decide_eq_true c10
        clear c10
        obtain ⟨y138, hy138⟩ : ∃ y_ : List Int, y_ = (l0.take (x5_1 : Int).toNat) := ⟨_, rfl⟩
        replace H : (if y135.length + y138.length < 17592186044416 then ((some (y135 ++ y138 : List Int)).bind fun y143 => ((some (([a1] : List Int) : List Int)).bind fun y146 => (if y143.length + y146.length < 17592186044416 then ((some (y143 ++ y146 : List Int)).bind fun y149 => ((some (l0.drop (x5_1 : Int).toNat : List Int)).bind fun y152 => (if y149.length + y152.length < 17592186044416 then (some (y149 ++ y152)) else (none)))) else (none)))) else (none)) = some r := by first | (rw [hy138]; with_reducible exact H) | (have H2_ := (Option.bind_some _ _).symm.trans H; rw [hy138]; with_reducible exact H2_) | (have H2_ := (Option.bind_some _ _).symm.trans H; with_reducible exact H2_) | with_reducible exact H | (rw [hy138]; exact H) | exact H
        have Ny138 := Aside0.mk hy138
        clear hy138
        by_cases c11 : y135.length + y138.length < 17592186044416
        ·rw [if_pos c11] at H
         have LMc11 := Aside0.mk c11
         clear c11
         obtain ⟨y143, hy143⟩ : ∃ y_ : List Int, y_ = (y135 ++ y138) := ⟨_, rfl⟩
         replace H : ((some (([a1] : List Int) : List Int)).bind fun y146 => (if y143.length + y146.length < 17592186044416 then ((some (y143 ++ y146 : List Int)).bind fun y149 => ((some (l0.drop (x5_1 : Int).toNat : List Int)).bind fun y152 => (if y149.length + y152.length < 17592186044416 then (some (y149 ++ y152)) else (none)))) else (none))) = some r := by first | (rw [hy143]; with_reducible exact H) | (have H2_ := (Option.bind_some _ _).symm.trans H; rw [hy143]; with_reducible exact H2_) | (have H2_ := (Option.bind_some _ _).symm.trans H; with_reducible exact H2_) | with_reducible exact H | (rw [hy143]; exact H) | exact H
         have Ny143 := Aside0.mk hy143
         clear hy143
         obtain ⟨y146, hy146⟩ : ∃ y_ : List Int, y_ = (([a1] : List Int)) := ⟨_, rfl⟩
         replace H : (if y143.length + y146.length < 17592186044416 then ((some (y143 ++ y146 : List Int)).bind fun y149 => ((some (l0.drop (x5_1 : Int).toNat : List Int)).bind fun y152 => (if y149.length + y152.length < 17592186044416 then (some (y149 ++ y152)) else (none)))) else (none)) = some r := by first | (rw [hy146]; with_reducible exact H) | (have H2_ := (Option.bind_some _ _).symm.trans H; rw [hy146]; with_reducible exact H2_) | (have H2_ := (Option.bind_some _ _).symm.trans H; with_reducible exact H2_) | with_reducible exact H | (rw [hy146]; exact H) | exact H
         have Ny146 := Aside0.mk hy146
         clear hy146
         by_cases c12 : y143.length + y146.length < 17592186044416
         ·rw [if_pos c12] at H
          have LMc12 := Aside0.mk c12
          clear c12
          obtain ⟨y149, hy149⟩ : ∃ y_ : List Int, y_ = (y143 ++ y146) := ⟨_, rfl⟩
          replace H : ((some (l0.drop (x5_1 : Int).toNat : List Int)).bind fun y152 => (if y149.length + y152.length < 17592186044416 then (some (y149 ++ y152)) else (none))) = some r := by first | (rw [hy149]; with_reducible exact H) | (have H2_ := (Option.bind_some _ _).symm.trans H; rw [hy149]; with_reducible exact H2_) | (have H2_ := (Option.bind_some _ _).symm.trans H; with_reducible exact H2_) | with_reducible exact H | (rw [hy149]; exact H) | exact H
          have Ny149 := Aside0.mk hy149
          clear hy149
          have c13b0 := eq_true (of_decide_eq_true yy2 : 0 ≤ x5_1)
          have c14b0 := eq_true (of_decide_eq_true yy2 : x5_1 ≤ (l0.length : Int))
          obtain ⟨y152, hy152⟩ : ∃ y_ : List Int, y_ = (l0.drop (x5_1 : Int).toNat) := ⟨_, rfl⟩
          replace H : (if y149.length + y152.length < 17592186044416 then (some (y149 ++ y152)) else (none)) = some r := by first | (rw [hy152]; with_reducible exact H) | (have H2_ := (Option.bind_some _ _).symm.trans H; rw [hy152]; with_reducible exact H2_) | (have H2_ := (Option.bind_some _ _).symm.trans H; with_reducible exact H2_) | with_reducible exact H | (rw [hy152]; exact H) | exact H
          have Ny152 := Aside0.mk hy152
          clear hy152
          by_cases c15 : y149.length + y152.length < 17592186044416
          ·rw [if_pos c15] at H
           have LMc15 := Aside0.mk c15
           clear c15
           obtain ⟨y157, hy157⟩ : ∃ y_ : List Int, y_ = (y149 ++ y152) := ⟨_, rfl⟩
           replace H : (some y157) = some r := by first | (rw [hy157]; with_reducible exact H) | (have H2_ := (Option.bind_some _ _).symm.trans H; rw [hy157]; with_reducible exact H2_) | (have H2_ := (Option.bind_some _ _).symm.trans H; with_reducible exact H2_) | with_reducible exact H | (rw [hy157]; exact H) | exact H
           have Ny157 := Aside0.mk hy157
           clear hy157
           obtain rfl := Option.some.inj H
           obtain ⟨Ao16, co16, eo16⟩ := Kd.R_slice HO_0.out
           subst eo16
           have p133 : 0 ≤ (x5_1 : Int) := of_decide_eq_true yy2
           have q133 : x5_1 < (l0.length : Int) := of_decide_eq_true yy2
           obtain ⟨ad133, e133, hx133_0⟩ := Kd.at_int (Kd.R_reads' HO_0.out).2.2 x5_1 p133 q133
           cases e133
           replace p133 := eq_true p133
           replace q133 := eq_true q133
           have p134 : 0 ≤ (x5_1 : Int) := of_decide_eq_true yy2
           have q134 : x5_1 < (l0.length : Int) := of_decide_eq_true yy2
           obtain ⟨ad134, e134, hx134_0⟩ := Kd.at_int (Kd.R_reads' HO_0.out).2.2 x5_1 p134 q134
           obtain rfl : ad133 = ad134 := (by injection e134)
           replace p134 := eq_true p134
           replace q134 := eq_true q134
           try go_wp2
           have n0_ := Aside0.mk (Kd.R_drew HO_0.out)
           have n1_ := Aside0.mk (Kept.drew HK.out)
           have n2_ := Aside0.mk (below_drew1 HB.out)
           clear HO_0 HK HB
           have HO_0 := n0_
           have HK := n1_
           have HB := n2_
           clear n0_ n1_ n2_
           have q18 : (x5_1 : Int) ≤ ((l0.length : Int) : Int) := of_decide_eq_true yy2
           obtain ⟨i018, hi018, _, hsz18, _⟩ := info_parts info3
           have hroom18 : l0.length ≤ co16 := (Kd.R_reads' HO_0.out).2.1
           have hC18 : Kd.F (Kd.int .i64) _ _ (some ad133) l0.length l0 := (Kd.V_at (base := w0.heap.size) (Kd.R_V HO_0.out)).2.2
           have hcut18 := cut_to (P := Try.prog) 26 3 .i64 Try.underlying26 hi018 (some ad133) l0.length co16 x5_1 (of_decide_eq_true yy2) q18 hroom18
           have hr18 := Kd.F_take (m := (x5_1 : Int).toNat) hC18 (by omega)
           have hy18 : y138.length = (x5_1 : Int).toNat := (by rw [Ny138.out, List.length_take]; omega)
           rw [← Ny138.out] at hr18
           rw [← hy18] at hcut18
           have HO142 := Aside0.mk (show Kd.V (Kd.int .i64) 3 _ w0.heap.size _ (.slice (some ad133) y138.length co16) y138 from Kd.V_mk (by omega) hr18)
           have HC142 := Aside0.mk (show y138.length ≤ co16 from by omega)
           clear hr18 hC18 hroom18 hi018 hsz18
           have KY18 := Aside0.mk hy18
           clear hy18
           replace q18 := eq_true q18
           have q19 : (x5_1 : Int) ≤ ((l0.length : Int) : Int) := of_decide_eq_true yy2
           obtain ⟨i019, hi019, _, hsz19, _⟩ := info_parts info3
           have hroom19 : l0.length ≤ co16 := (Kd.R_reads' HO_0.out).2.1
           have hC19 : Kd.F (Kd.int .i64) _ _ (some ad133) l0.length l0 := (Kd.V_at (base := w0.heap.size) (Kd.R_V HO_0.out)).2.2
           have q019 : (0 : Int) ≤ (x5_1 : Int) := of_decide_eq_true yy2
           have hcut19 := cut_from (P := Try.prog) 26 3 .i64 Try.underlying26 hi019 1 hsz19 (some ad133) l0.length co16 x5_1 q019 q19
           have hr19 := Kd.F_cut (m := (x5_1 : Int).toNat) (c := co16) hC19 (by omega) hroom19
           obtain ⟨A19, hA19⟩ : ∃ A1, A1 = (if co16 = (x5_1 : Int).toNat then (some ad133) else ((some ad133) : Option Addr).map (·.add ((x5_1 : Int).toNat * 1))) := ⟨_, rfl⟩
           obtain ⟨c19, hc19⟩ : ∃ c1, c1 = co16 - (x5_1 : Int).toNat := ⟨_, rfl⟩
           have hy19 : y152.length = l0.length - (x5_1 : Int).toNat := (by rw [Ny152.out, List.length_drop] <;> omega)
           rw [show (l0).drop (x5_1 : Int).toNat = y152 from Ny152.out.symm] at hr19
           replace hr19 : Kd.F (Kd.int .i64) _ _ A19 y152.length y152 := (by rw [hA19]; exact hr19)
           rw [← hy19, ← hA19, ← hc19] at hcut19
           have HO156 := Aside0.mk (show Kd.V (Kd.int .i64) 3 _ w0.heap.size _ (.slice A19 y152.length c19) y152 from Kd.V_mk (by rw [hy19, hc19]; exact Nat.sub_le_sub_right hroom19 _) hr19)
           have HC156 := Aside0.mk (show y152.length ≤ c19 from by rw [hy19, hc19]; exact Nat.sub_le_sub_right hroom19 _)
           clear hr19 hC19 hroom19 hi019 hsz19 hc19
           have KY19 := Aside0.mk hy19
           have KA19 := Aside0.mk hA19
           clear hy19 hA19
           replace q19 := eq_true q19
           refine start_ (n := 13) (S := fun w' => True) (ds := []) bYtoadgikbbigdlaaPaAx4_0 (by kernel_rfl) rfl rfl trivial (fun hHeld => ?_); refine with_tabW spec_l1Put.tab6 spec_l1Put.bits6 (fun HT_ HW_ => ?_)
           generalize wr.drew = w17 at HO_0 HK HB HO142 HO156 hHeld ⊢
           refine pu_ 1 34 bYtoadgikbbigdlaaPaAx4_1 ?_
           refine pu_ 2 35 bYtoadgikbbigdlaaPaAx4_2 ?_
           refine pu_ 3 36 bYtoadgikbbigdlaaPaAx4_3 ?_
           refine pu_ 5 38 bYtoadgikbbigdlaaPaAx4_4 ?_
           refine pu_ 8 41 bYtoadgikbbigdlaaPaAx4_5 ?_
           refine pu_ 9 42 bYtoadgikbbigdlaaPaAx4_6 ?_
           refine pu_ 10 43 bYtoadgikbbigdlaaPaAx4_7 ?_
           refine join_ (σ := Value × Value × Value) 3 bYtoadgikbbigdlaaPaAx4_8 (fun s_ => [(33, s_.1), (37, s_.2.1), (39, s_.2.2)]) (fun s_ w' => (Kd.V (Kd.int .i64) 3 w' w0.heap.size (fun k_ => (P0_ k_ ∨ w.heap.size ≤ k_) ∧ some k_ ≠ (s_.2.1 : Value).ownBlock ∧ some k_ ≠ (s_.2.2 : Value).ownBlock) (.slice (some ad133) y138.length co16) y138) ∧ (Kd.R (Kd.int .i64) 3 w' w0.heap.size (fun k_ => (P0_ k_ ∨ w.heap.size ≤ k_) ∧ some k_ ≠ (s_.2.2 : Value).ownBlock ∧ some k_ ≠ (.slice (some ad133) l0.length co16 : Value).ownBlock) s_.2.1 y143) ∧ (Kd.R (Kd.int .i64) 3 w' w0.heap.size (fun k_ => (P0_ k_ ∨ w.heap.size ≤ k_) ∧ some k_ ≠ (s_.2.1 : Value).ownBlock ∧ some k_ ≠ (.slice (some ad133) l0.length co16 : Value).ownBlock) s_.2.2 y146) ∧ (Kd.V (Kd.int .i64) 3 w' w0.heap.size (fun k_ => (P0_ k_ ∨ w.heap.size ≤ k_) ∧ some k_ ≠ (s_.2.1 : Value).ownBlock ∧ some k_ ≠ (s_.2.2 : Value).ownBlock) (.slice A19 y152.length c19) y152) ∧ (Kd.R (Kd.int .i64) 3 w' w0.heap.size (fun k_ => (P0_ k_ ∨ w.heap.size ≤ k_) ∧ some k_ ≠ (s_.2.1 : Value).ownBlock ∧ some k_ ≠ (s_.2.2 : Value).ownBlock) (.slice (some ad133) l0.length co16) l0) ∧ (Kept w w' (fun k_ => P0_ k_)) ∧ (Below w0.heap.size w0 w')) ?_ ?_
           rotate_left
           ·intro hCont
            refine two_ (i := 0) (j := 6) (Ni := some 33) (Nj := some 39) bYtoadgikbbigdlaaPaAx4_9 bYtoadgikbbigdlaaPaAx4_10 rfl rfl rfl rfl (two_of HT_.out (by kernel_rfl)) (by decide) (by decide) (fun K hK => ?_) (fun K hK => ?_)
            ·skip
             refine Kd.R_lit_step (Kd.int .i64) _ 3 ?hg (N := 33) ?hd (xs := ([] : List Int)) (inner := []) (ok := fun _ => True) (okp := fun _ => True) ?hr ?hp (fun _ hk => hk) trivial (Below.refl _ _) (Nat.le_refl _) (by simp) ?_; (case hd => rfl); (case hg => rfl); (case hr => first | (go_simp; done) | (go_simp; rfl)); (case hp => exact (Reps.none _ _))
             intro v136 w20 ho21 hb hg_ hnew_
             clear hg_ hnew_
             (first | rw [← Ny135.out] at ho21 | (simp only [Int.reduceToNat] at ho21; rw [← Ny135.out] at ho21))
             have n0_ := Aside0.mk (Kd.R_elder' yy5 (Kd.R_base ho21) hb)
             have n1_ := Aside0.mk (Kd.V_elder' yy25 (Kd.R_base ho21) hb)
             have n2_ := Aside0.mk (Kd.V_elder' yy26 (Kd.R_base ho21) hb)
             have n3_ := Aside0.mk (Kd.R_lower (Kd.R_new' (Kd.R_newM (M := fun k_ => (P0_ k_ ∨ w.heap.size ≤ k_)) ho21 yy6 (fun k_ h_ => .inr h_)) (Kd.R_lt yy5)) (below_size yy1))
             have n4_ := Aside0.mk (Kept.below (S := (fun k_ => P0_ k_)) yy8 hb)
             have n5_ := Aside0.mk (below_step yy1 hb)
             clear HO_0 HO142 HO156 HK HB
             have HO_0 := n0_
             have HO142 := n1_
             have HO156 := n2_
             have HO137 := n3_
             have HK := n4_
             have HB := n5_
             clear n0_ n1_ n2_ n3_ n4_ n5_ hb ho21
             refine hK.out _ _ trivial (fun hHeld => ?_)
             clear hK K
             refine no_ 33 ?_
             refine two_ (i := 4) (j := 6) (Ni := some 37) (Nj := some 39) bYtoadgikbbigdlaaPaAx4_11 bYtoadgikbbigdlaaPaAx4_12 rfl rfl rfl rfl (two_of HT_.out (by kernel_rfl)) (by decide) (by decide) (fun K hK => ?_) (fun K hK => ?_)
             ·skip
              refine Kd.R_append_rows_step (Kd.int .i64) (w0 := w0) w0.heap.size (by rfl) (.tmp 33) (.tmp 36) 26 3 (.int .i64 0) 8 rfl Try.underlying26 info3 rfl (by decide) (by omega) v136 y135 y138 _ _ _ (fun k_ => (P0_ k_ ∨ w.heap.size ≤ k_) ∧ some k_ ≠ (.slice (some ad133) l0.length co16 : Value).ownBlock) (fun _ => False) rfl rfl ?aO ?aR (fun _ _ h => h) (fun _ h => h.elim) ?aF ?aB ?aS ?aL ?_
              (case aR => repeat (first | exact (Kd.V_reads' HO142.out).2.2 | (with_reducible refine Kd.C_alloc ?_ _) | (with_reducible refine Kd.C_drewN ?_ _) | (with_reducible refine Kd.C_drew ?_)))
              (case aB => exact yy1)
              (case aF => exact (fun k_ hk => ⟨(.inr (Nat.le_trans yy6 hk)), Kd.fresh' (Kd.R_lt yy5) k_ hk⟩))
              (case aO => exact (by (with_reducible repeat (first | apply Kd.R_alloc | apply Kd.R_drewN | apply Kd.R_drew)); exact Kd.R_mono HO137.out (fun _ hk => ⟨hk.1.1, hk.2⟩)))
              (case aS => exact (below_size yy1))
              (case aL => have := LMc11.out; omega)
              intro v144 w22 ho hb hg hat
              rw [← Ny143.out] at ho
              have n0_ := Aside0.mk (Kd.R_after (ok := (fun k_ => (P0_ k_ ∨ w.heap.size ≤ k_))) yy5 hg hat)
              have n1_ := Aside0.mk (Kd.V_afterv (ok := (fun k_ => (P0_ k_ ∨ w.heap.size ≤ k_))) yy25 hg hat)
              have n2_ := Aside0.mk (Kd.V_afterv (ok := (fun k_ => (P0_ k_ ∨ w.heap.size ≤ k_))) yy26 hg hat)
              have n3_ := Aside0.mk (hb)
              have n4_ := Aside0.mk (Kept.of_grown (S := (fun k_ => P0_ k_)) hg yy8 (fun k_ e_ => (HO137.out.1 k_ e_).1.1))
              have n5_ := Aside0.mk (ho)
              clear HO_0 HO142 HO156 HB HK HO137
              have HO_0 := n0_
              have HO142 := n1_
              have HO156 := n2_
              have HB := n3_
              have HK := n4_
              have HO145 := n5_
              clear n0_ n1_ n2_ n3_ n4_ n5_ ho hb hg hat
              refine hK.out _ _ trivial (fun hHeld => ?_)
              clear hK K
              refine no_ 37 ?_
              refine one_ (i := 6) (N := some 39) bYtoadgikbbigdlaaPaAx4_8 rfl rfl (one_of HT_.out (by kernel_rfl)) (by decide) (fun K hK => ?_)
              refine Kd.R_lit_step (Kd.int .i64) _ 3 ?hg (N := 39) ?hd (xs := ([a1] : List Int)) (inner := [.int .i64 a1]) (ok := fun _ => True) (okp := fun _ => True) ?hr ?hp (fun _ hk => hk) trivial (Below.refl _ _) (Nat.le_refl _) (by simp) ?_; (case hd => rfl); (case hg => rfl); (case hr => first | (go_simp; done) | (go_simp; rfl)); (case hp => exact (Reps.one (show Kd.M (Kd.int .i64) _ _ _ a1 [.int .i64 a1] from rfl) (Reps.none _ _)))
              intro v147 w23 ho24 hb hg_ hnew_
              clear hg_ hnew_
              (first | rw [← Ny146.out] at ho24 | (simp only [Int.reduceToNat] at ho24; rw [← Ny146.out] at ho24))
              have n0_ := Aside0.mk (Kd.R_elder' yy5 (Kd.R_base ho24) hb)
              have n1_ := Aside0.mk (Kd.V_elder' yy25 (Kd.R_base ho24) hb)
              have n2_ := Aside0.mk (Kd.V_elder' yy26 (Kd.R_base ho24) hb)
              have n3_ := Aside0.mk (Kd.R_elder' (by (with_reducible repeat (first | apply Kd.R_alloc | apply Kd.R_drewN | apply Kd.R_drew)); exact HO145.out) (Kd.R_base ho24) hb)
              have n4_ := Aside0.mk (Kd.R_lower (Kd.R_new' (Kd.R_new' (Kd.R_newM (M := fun k_ => (P0_ k_ ∨ w.heap.size ≤ k_)) ho24 yy6 (fun k_ h_ => .inr h_)) (Kd.R_lt yy5)) (Kd.R_lt (by (with_reducible repeat (first | apply Kd.R_alloc | apply Kd.R_drewN | apply Kd.R_drew)); exact HO145.out))) (below_size yy1))
              have n5_ := Aside0.mk (Kept.below (S := (fun k_ => P0_ k_)) yy8 hb)
              have n6_ := Aside0.mk (below_step yy1 hb)
              clear HO_0 HO142 HO156 HO145 HK HB
              have HO_0 := n0_
              have HO142 := n1_
              have HO156 := n2_
              have HO145 := n3_
              have HO148 := n4_
              have HK := n5_
              have HB := n6_
              clear n0_ n1_ n2_ n3_ n4_ n5_ n6_ hb ho24
              refine hK.out _ _ trivial (fun hHeld => ?_)
              clear hK K
              refine no_ 39 ?_
              exact norm_ yy18 (hCont (v136, v144, v147) _ ⟨(by (with_reducible repeat (first | apply Kd.V_alloc | apply Kd.V_drewN | apply Kd.V_drew)); exact Kd.V_mono HO142.out (fun _ hk => ⟨hk.1.1, ⟨hk.1.2, hk.2⟩⟩)), (by (with_reducible repeat (first | apply Kd.R_alloc | apply Kd.R_drewN | apply Kd.R_drew)); exact Kd.R_mono HO145.out (fun _ hk => ⟨hk.1.1, ⟨hk.2, hk.1.2⟩⟩)), (by (with_reducible repeat (first | apply Kd.R_alloc | apply Kd.R_drewN | apply Kd.R_drew)); exact Kd.R_mono HO148.out (fun _ hk => ⟨hk.1.1.1, ⟨hk.2, hk.1.2⟩⟩)), (by (with_reducible repeat (first | apply Kd.V_alloc | apply Kd.V_drewN | apply Kd.V_drew)); exact Kd.V_mono HO156.out (fun _ hk => ⟨hk.1.1, ⟨hk.1.2, hk.2⟩⟩)), (by (with_reducible repeat (first | apply Kd.R_alloc | apply Kd.R_drewN | apply Kd.R_drew)); exact Kd.R_mono HO_0.out (fun _ hk => ⟨hk.1.1, ⟨hk.1.2, hk.2⟩⟩)), yy8, yy1⟩)
             ·skip
              refine Kd.R_lit_step (Kd.int .i64) _ 3 ?hg (N := 39) ?hd (xs := ([a1] : List Int)) (inner := [.int .i64 a1]) (ok := fun _ => True) (okp := fun _ => True) ?hr ?hp (fun _ hk => hk) trivial (Below.refl _ _) (Nat.le_refl _) (by simp) ?_; (case hd => rfl); (case hg => rfl); (case hr => first | (go_simp; done) | (go_simp; rfl)); (case hp => exact (Reps.one (show Kd.M (Kd.int .i64) _ _ _ a1 [.int .i64 a1] from rfl) (Reps.none _ _)))
              intro v147 w22 ho23 hb hg_ hnew_
              clear hg_ hnew_
              (first | rw [← Ny146.out] at ho23 | (simp only [Int.reduceToNat] at ho23; rw [← Ny146.out] at ho23))
              have n0_ := Aside0.mk (Kd.R_elder' yy5 (Kd.R_base ho23) hb)
              have n1_ := Aside0.mk (Kd.V_elder' yy25 (Kd.R_base ho23) hb)
              have n2_ := Aside0.mk (Kd.V_elder' yy26 (Kd.R_base ho23) hb)
              have n3_ := Aside0.mk (Kd.R_elder' (by (with_reducible repeat (first | apply Kd.R_alloc | apply Kd.R_drewN | apply Kd.R_drew)); exact HO137.out) (Kd.R_base ho23) hb)
              have n4_ := Aside0.mk (Kd.R_lower (Kd.R_new' (Kd.R_new' (Kd.R_newM (M := fun k_ => (P0_ k_ ∨ w.heap.size ≤ k_)) ho23 yy6 (fun k_ h_ => .inr h_)) (Kd.R_lt yy5)) (Kd.R_lt (by (with_reducible repeat (first | apply Kd.R_alloc | apply Kd.R_drewN | apply Kd.R_drew)); exact HO137.out))) (below_size yy1))
              have n5_ := Aside0.mk (Kept.below (S := (fun k_ => P0_ k_)) yy8 hb)
              have n6_ := Aside0.mk (below_step yy1 hb)
              clear HO_0 HO142 HO156 HO137 HK HB
              have HO_0 := n0_
              have HO142 := n1_
              have HO156 := n2_
              have HO137 := n3_
              have HO148 := n4_
              have HK := n5_
              have HB := n6_
              clear n0_ n1_ n2_ n3_ n4_ n5_ n6_ hb ho23
              refine hK.out _ _ trivial (fun hHeld => ?_)
              clear hK K
              refine no_ 39 ?_
              refine one_ (i := 4) (N := some 37) bYtoadgikbbigdlaaPaAx4_8 rfl rfl (one_of HT_.out (by kernel_rfl)) (by decide) (fun K hK => ?_)
              refine Kd.R_append_rows_step (Kd.int .i64) (w0 := w0) w0.heap.size (by rfl) (.tmp 33) (.tmp 36) 26 3 (.int .i64 0) 8 rfl Try.underlying26 info3 rfl (by decide) (by omega) v136 y135 y138 _ _ _ (fun k_ => (P0_ k_ ∨ w.heap.size ≤ k_) ∧ some k_ ≠ (.slice (some ad133) l0.length co16 : Value).ownBlock ∧ some k_ ≠ (v147 : Value).ownBlock) (fun _ => False) rfl rfl ?aO ?aR (fun _ _ h => h) (fun _ h => h.elim) ?aF ?aB ?aS ?aL ?_
              (case aR => repeat (first | exact (Kd.V_reads' HO142.out).2.2 | (with_reducible refine Kd.C_alloc ?_ _) | (with_reducible refine Kd.C_drewN ?_ _) | (with_reducible refine Kd.C_drew ?_)))
              (case aB => exact yy1)
              (case aF => exact (fun k_ hk => ⟨(.inr (Nat.le_trans yy6 hk)), Kd.fresh' (Kd.R_lt yy5) k_ hk, Kd.fresh' (Kd.R_lt yy32) k_ hk⟩))
              (case aO => exact (by (with_reducible repeat (first | apply Kd.R_alloc | apply Kd.R_drewN | apply Kd.R_drew)); exact Kd.R_mono HO137.out (fun _ hk => ⟨hk.1.1.1, ⟨hk.1.2, hk.2⟩⟩)))
              (case aS => exact (below_size yy1))
              (case aL => have := LMc11.out; omega)
              intro v144 w24 ho hb hg hat
              rw [← Ny143.out] at ho
              have n0_ := Aside0.mk (Kd.R_after (ok := (fun k_ => (P0_ k_ ∨ w.heap.size ≤ k_) ∧ some k_ ≠ (v147 : Value).ownBlock)) (by (with_reducible repeat (first | apply Kd.R_alloc | apply Kd.R_drewN | apply Kd.R_drew)); exact Kd.R_mono HO_0.out (fun _ hk => ⟨⟨hk.1.1, hk.2⟩, hk.1.2⟩)) hg hat)
              have n1_ := Aside0.mk (Kd.V_afterv (ok := (fun k_ => (P0_ k_ ∨ w.heap.size ≤ k_) ∧ some k_ ≠ (v147 : Value).ownBlock)) (by (with_reducible repeat (first | apply Kd.V_alloc | apply Kd.V_drewN | apply Kd.V_drew)); exact Kd.V_mono HO142.out (fun _ hk => ⟨⟨hk.1.1, hk.2⟩, hk.1.2⟩)) hg hat)
              have n2_ := Aside0.mk (Kd.V_afterv (ok := (fun k_ => (P0_ k_ ∨ w.heap.size ≤ k_) ∧ some k_ ≠ (v147 : Value).ownBlock)) (by (with_reducible repeat (first | apply Kd.V_alloc | apply Kd.V_drewN | apply Kd.V_drew)); exact Kd.V_mono HO156.out (fun _ hk => ⟨⟨hk.1.1, hk.2⟩, hk.1.2⟩)) hg hat)
              have n3_ := Aside0.mk (Kd.R_after (ok := (fun k_ => (P0_ k_ ∨ w.heap.size ≤ k_) ∧ some k_ ≠ (.slice (some ad133) l0.length co16 : Value).ownBlock)) (by (with_reducible repeat (first | apply Kd.R_alloc | apply Kd.R_drewN | apply Kd.R_drew)); exact Kd.R_mono HO148.out (fun _ hk => ⟨⟨hk.1.1.1, hk.1.2⟩, hk.2⟩)) hg hat)
              have n4_ := Aside0.mk (hb)
              have n5_ := Aside0.mk (Kept.of_grown (S := (fun k_ => P0_ k_)) hg yy8 (fun k_ e_ => (HO137.out.1 k_ e_).1.1.1))
              have n6_ := Aside0.mk (ho)
              clear HO_0 HO142 HO156 HO148 HB HK HO137
              have HO_0 := n0_
              have HO142 := n1_
              have HO156 := n2_
              have HO148 := n3_
              have HB := n4_
              have HK := n5_
              have HO145 := n6_
              clear n0_ n1_ n2_ n3_ n4_ n5_ n6_ ho hb hg hat
              refine hK.out _ _ trivial (fun hHeld => ?_)
              clear hK K
              refine no_ 37 ?_
              exact norm_ yy18 (hCont (v136, v144, v147) _ ⟨(by (with_reducible repeat (first | apply Kd.V_alloc | apply Kd.V_drewN | apply Kd.V_drew)); exact Kd.V_mono HO142.out (fun _ hk => ⟨hk.1.1, ⟨hk.2, hk.1.2⟩⟩)), yy51, (by (with_reducible repeat (first | apply Kd.R_alloc | apply Kd.R_drewN | apply Kd.R_drew)); exact Kd.R_mono HO148.out (fun _ hk => ⟨hk.1.1, ⟨hk.2, hk.1.2⟩⟩)), (by (with_reducible repeat (first | apply Kd.V_alloc | apply Kd.V_drewN | apply Kd.V_drew)); exact Kd.V_mono HO156.out (fun _ hk => ⟨hk.1.1, ⟨hk.2, hk.1.2⟩⟩)), yy44, yy8, yy1⟩)
            ·skip
             refine Kd.R_lit_step (Kd.int .i64) _ 3 ?hg (N := 39) ?hd (xs := ([a1] : List Int)) (inner := [.int .i64 a1]) (ok := fun _ => True) (okp := fun _ => True) ?hr ?hp (fun _ hk => hk) trivial (Below.refl _ _) (Nat.le_refl _) (by simp) ?_; (case hd => rfl); (case hg => rfl); (case hr => first | (go_simp; done) | (go_simp; rfl)); (case hp => exact (Reps.one (show Kd.M (Kd.int .i64) _ _ _ a1 [.int .i64 a1] from rfl) (Reps.none _ _)))
             intro v147 w20 ho21 hb hg_ hnew_
             clear hg_ hnew_
             (first | rw [← Ny146.out] at ho21 | (simp only [Int.reduceToNat] at ho21; rw [← Ny146.out] at ho21))
             have n0_ := Aside0.mk (Kd.R_elder' yy5 (Kd.R_base ho21) hb)
             have n1_ := Aside0.mk (Kd.V_elder' yy25 (Kd.R_base ho21) hb)
             have n2_ := Aside0.mk (Kd.V_elder' yy26 (Kd.R_base ho21) hb)
             have n3_ := Aside0.mk (Kd.R_lower (Kd.R_new' (Kd.R_newM (M := fun k_ => (P0_ k_ ∨ w.heap.size ≤ k_)) ho21 yy6 (fun k_ h_ => .inr h_)) (Kd.R_lt yy5)) (below_size yy1))
             have n4_ := Aside0.mk (Kept.below (S := (fun k_ => P0_ k_)) yy8 hb)
             have n5_ := Aside0.mk (below_step yy1 hb)
             clear HO_0 HO142 HO156 HK HB
             have HO_0 := n0_
             have HO142 := n1_
             have HO156 := n2_
             have HO148 := n3_
             have HK := n4_
             have HB := n5_
             clear n0_ n1_ n2_ n3_ n4_ n5_ hb ho21
             refine hK.out _ _ trivial (fun hHeld => ?_)
             clear hK K
             refine no_ 39 ?_
             refine one_ (i := 0) (N := some 33) bYtoadgikbbigdlaaPaAx4_12 rfl rfl (one_of HT_.out (by kernel_rfl)) (by decide) (fun K hK => ?_)
             refine Kd.R_lit_step (Kd.int .i64) _ 3 ?hg (N := 33) ?hd (xs := ([] : List Int)) (inner := []) (ok := fun _ => True) (okp := fun _ => True) ?hr ?hp (fun _ hk => hk) trivial (Below.refl _ _) (Nat.le_refl _) (by simp) ?_; (case hd => rfl); (case hg => rfl); (case hr => first | (go_simp; done) | (go_simp; rfl)); (case hp => exact (Reps.none _ _))
             intro v136 w22 ho23 hb hg_ hnew_
             clear hg_ hnew_
             (first | rw [← Ny135.out] at ho23 | (simp only [Int.reduceToNat] at ho23; rw [← Ny135.out] at ho23))
             have n0_ := Aside0.mk (Kd.R_elder' yy5 (Kd.R_base ho23) hb)
             have n1_ := Aside0.mk (Kd.V_elder' yy25 (Kd.R_base ho23) hb)
             have n2_ := Aside0.mk (Kd.V_elder' yy26 (Kd.R_base ho23) hb)
             have n3_ := Aside0.mk (Kd.R_elder' yy32 (Kd.R_base ho23) hb)
             have n4_ := Aside0.mk (Kd.R_lower (Kd.R_new' (Kd.R_new' (Kd.R_newM (M := fun k_ => (P0_ k_ ∨ w.heap.size ≤ k_)) ho23 yy6 (fun k_ h_ => .inr h_)) (Kd.R_lt yy5)) (Kd.R_lt yy32)) (below_size yy1))
             have n5_ := Aside0.mk (Kept.below (S := (fun k_ => P0_ k_)) yy8 hb)
             have n6_ := Aside0.mk (below_step yy1 hb)
             clear HO_0 HO142 HO156 HO148 HK HB
             have HO_0 := n0_
             have HO142 := n1_
             have HO156 := n2_
             have HO148 := n3_
             have HO137 := n4_
             have HK := n5_
             have HB := n6_
             clear n0_ n1_ n2_ n3_ n4_ n5_ n6_ hb ho23
             refine hK.out _ _ trivial (fun hHeld => ?_)
             clear hK K
             refine no_ 33 ?_
             refine one_ (i := 4) (N := some 37) bYtoadgikbbigdlaaPaAx4_8 rfl rfl (one_of HT_.out (by kernel_rfl)) (by decide) (fun K hK => ?_)
             refine Kd.R_append_rows_step (Kd.int .i64) (w0 := w0) w0.heap.size (by rfl) (.tmp 33) (.tmp 36) 26 3 (.int .i64 0) 8 rfl Try.underlying26 info3 rfl (by decide) (by omega) v136 y135 y138 _ _ _ (fun k_ => (P0_ k_ ∨ w.heap.size ≤ k_) ∧ some k_ ≠ (.slice (some ad133) l0.length co16 : Value).ownBlock ∧ some k_ ≠ (v147 : Value).ownBlock) (fun _ => False) rfl rfl ?aO ?aR (fun _ _ h => h) (fun _ h => h.elim) ?aF ?aB ?aS ?aL ?_
             (case aR => repeat (first | exact (Kd.V_reads' HO142.out).2.2 | (with_reducible refine Kd.C_alloc ?_ _) | (with_reducible refine Kd.C_drewN ?_ _) | (with_reducible refine Kd.C_drew ?_)))
             (case aB => exact yy1)
             (case aF => exact (fun k_ hk => ⟨(.inr (Nat.le_trans yy6 hk)), Kd.fresh' (Kd.R_lt yy5) k_ hk, Kd.fresh' (Kd.R_lt yy32) k_ hk⟩))
             (case aO => exact (by (with_reducible repeat (first | apply Kd.R_alloc | apply Kd.R_drewN | apply Kd.R_drew)); exact Kd.R_mono HO137.out (fun _ hk => ⟨hk.1.1.1, ⟨hk.1.2, hk.2⟩⟩)))
             (case aS => exact (below_size yy1))
             (case aL => have := LMc11.out; omega)
             intro v144 w24 ho hb hg hat
             rw [← Ny143.out] at ho
             have n0_ := Aside0.mk (Kd.R_after (ok := (fun k_ => (P0_ k_ ∨ w.heap.size ≤ k_) ∧ some k_ ≠ (v147 : Value).ownBlock)) yy5 hg hat)
             have n1_ := Aside0.mk (Kd.V_afterv (ok := (fun k_ => (P0_ k_ ∨ w.heap.size ≤ k_) ∧ some k_ ≠ (v147 : Value).ownBlock)) yy25 hg hat)
             have n2_ := Aside0.mk (Kd.V_afterv (ok := (fun k_ => (P0_ k_ ∨ w.heap.size ≤ k_) ∧ some k_ ≠ (v147 : Value).ownBlock)) yy26 hg hat)
             have n3_ := Aside0.mk (Kd.R_after (ok := (fun k_ => (P0_ k_ ∨ w.heap.size ≤ k_) ∧ some k_ ≠ (.slice (some ad133) l0.length co16 : Value).ownBlock)) (by (with_reducible repeat (first | apply Kd.R_alloc | apply Kd.R_drewN | apply Kd.R_drew)); exact Kd.R_mono HO148.out (fun _ hk => ⟨⟨hk.1.1.1, hk.1.2⟩, hk.2⟩)) hg hat)
             have n4_ := Aside0.mk (hb)
             have n5_ := Aside0.mk (Kept.of_grown (S := (fun k_ => P0_ k_)) hg yy8 (fun k_ e_ => (HO137.out.1 k_ e_).1.1.1))
             have n6_ := Aside0.mk (ho)
             clear HO_0 HO142 HO156 HO148 HB HK HO137
             have HO_0 := n0_
             have HO142 := n1_
             have HO156 := n2_
             have HO148 := n3_
             have HB := n4_
             have HK := n5_
             have HO145 := n6_
             clear n0_ n1_ n2_ n3_ n4_ n5_ n6_ ho hb hg hat
             refine hK.out _ _ trivial (fun hHeld => ?_)
             clear hK K
             refine no_ 37 ?_
             exact norm_ yy18 (hCont (v136, v144, v147) _ ⟨(by (with_reducible repeat (first | apply Kd.V_alloc | apply Kd.V_drewN | apply Kd.V_drew)); exact Kd.V_mono HO142.out (fun _ hk => ⟨hk.1.1, ⟨hk.2, hk.1.2⟩⟩)), yy51, (by (with_reducible repeat (first | apply Kd.R_alloc | apply Kd.R_drewN | apply Kd.R_drew)); exact Kd.R_mono HO148.out (fun _ hk => ⟨hk.1.1, ⟨hk.2, hk.1.2⟩⟩)), (by (with_reducible repeat (first | apply Kd.V_alloc | apply Kd.V_drewN | apply Kd.V_drew)); exact Kd.V_mono HO156.out (fun _ hk => ⟨hk.1.1, ⟨hk.2, hk.1.2⟩⟩)), yy44, yy8, yy1⟩)
           rintro ⟨v136, v144, v147⟩ w25 ⟨h0_, h1_, h2_, h3_, h4_, h5_, h6_⟩
           have n0_ : Aside0 (Kd.V (Kd.int .i64) 3 w25 w0.heap.size (fun k_ => (P0_ k_ ∨ w.heap.size ≤ k_) ∧ some k_ ≠ (v144 : Value).ownBlock ∧ some k_ ≠ (v147 : Value).ownBlock) (.slice (some ad133) y138.length co16) y138) := ⟨h0_⟩
           have n1_ : Aside0 (Kd.R (Kd.int .i64) 3 w25 w0.heap.size (fun k_ => (P0_ k_ ∨ w.heap.size ≤ k_) ∧ some k_ ≠ (v147 : Value).ownBlock ∧ some k_ ≠ (.slice (some ad133) l0.length co16 : Value).ownBlock) v144 y143) := ⟨h1_⟩
           have n2_ : Aside0 (Kd.R (Kd.int .i64) 3 w25 w0.heap.size (fun k_ => (P0_ k_ ∨ w.heap.size ≤ k_) ∧ some k_ ≠ (v144 : Value).ownBlock ∧ some k_ ≠ (.slice (some ad133) l0.length co16 : Value).ownBlock) v147 y146) := ⟨h2_⟩
           have n3_ : Aside0 (Kd.V (Kd.int .i64) 3 w25 w0.heap.size (fun k_ => (P0_ k_ ∨ w.heap.size ≤ k_) ∧ some k_ ≠ (v144 : Value).ownBlock ∧ some k_ ≠ (v147 : Value).ownBlock) (.slice A19 y152.length c19) y152) := ⟨h3_⟩
           have n4_ : Aside0 (Kd.R (Kd.int .i64) 3 w25 w0.heap.size (fun k_ => (P0_ k_ ∨ w.heap.size ≤ k_) ∧ some k_ ≠ (v144 : Value).ownBlock ∧ some k_ ≠ (v147 : Value).ownBlock) (.slice (some ad133) l0.length co16) l0) := ⟨h4_⟩
           have n5_ : Aside0 (Kept w w25 (fun k_ => P0_ k_)) := ⟨h5_⟩
           have n6_ : Aside0 (Below w0.heap.size w0 w25) := ⟨h6_⟩
           clear HO_0 HK HB h0_ h1_ h2_ h3_ h4_ h5_ h6_
           have HO142 := n0_
           have HO145 := n1_
           have HO148 := n2_
           have HO156 := n3_
           have HO_0 := n4_
           have HK := n5_
           have HB := n6_
           clear n0_ n1_ n2_ n3_ n4_ n5_ n6_
           have hHeld := trivial
           obtain ⟨Ao27, co27, eo27⟩ := Kd.R_slice HO148.out
           (first | subst eo27 | (injection eo27 with f1_ f2_ f3_; have f4_ := f1_.symm; have f5_ := f3_.symm; clear f1_ f2_ f3_; subst f4_; subst f5_))
           refine norm_ (a' := ?_) ?_ ?_
           rotate_left
           ·simp only [putAll, Act.put, List.setIfInBounds_toArray, List.set_cons_zero, List.set_cons_succ]
            rfl
           refine one_ (i := 7) (N := some 40) bYtoadgikbbigdlaaPaAx4_13 rfl rfl (one_of HT_.out (by kernel_rfl)) (by decide) (fun K hK => ?_)
           refine Kd.R_append_rows_step (Kd.int .i64) (w0 := w0) w0.heap.size (by rfl) (.tmp 37) (.tmp 39) 26 3 (.int .i64 0) 8 rfl Try.underlying26 info3 rfl (by decide) (by omega) v144 y143 y146 _ _ _ (fun k_ => (P0_ k_ ∨ w.heap.size ≤ k_) ∧ some k_ ≠ (.slice (some ad133) l0.length co16 : Value).ownBlock ∧ some k_ ≠ (.slice Ao27 y146.length co27 : Value).ownBlock) (fun _ => False) rfl rfl ?aO ?aR (fun _ _ h => h) (fun _ h => h.elim) ?aF ?aB ?aS ?aL ?_
           (case aR => repeat (first | exact (Kd.R_reads' HO148.out).2.2 | (with_reducible refine Kd.C_alloc ?_ _) | (with_reducible refine Kd.C_drewN ?_ _) | (with_reducible refine Kd.C_drew ?_)))
           (case aB => exact yy1)
           (case aF => exact (fun k_ hk => ⟨(.inr (Nat.le_trans yy6 hk)), Kd.fresh' (Kd.R_lt yy5) k_ hk, Kd.fresh' (Kd.R_lt yy32) k_ hk⟩))
           (case aO => exact yy51)
           (case aS => exact (below_size yy1))
           (case aL => have := LMc12.out; omega)
           intro v150 w26 ho hb hg hat
           rw [← Ny149.out] at ho
           have n0_ := Aside0.mk (Kd.R_after (ok := (fun k_ => (P0_ k_ ∨ w.heap.size ≤ k_) ∧ some k_ ≠ (.slice Ao27 y146.length co27 : Value).ownBlock)) (by (with_reducible repeat (first | apply Kd.R_alloc | apply Kd.R_drewN | apply Kd.R_drew)); exact Kd.R_mono HO_0.out (fun _ hk => ⟨⟨hk.1, hk.2.2⟩, hk.2.1⟩)) hg hat)
           have n1_ := Aside0.mk (Kd.V_afterv (ok := (fun k_ => (P0_ k_ ∨ w.heap.size ≤ k_) ∧ some k_ ≠ (.slice Ao27 y146.length co27 : Value).ownBlock)) (by (with_reducible repeat (first | apply Kd.V_alloc | apply Kd.V_drewN | apply Kd.V_drew)); exact Kd.V_mono HO142.out (fun _ hk => ⟨⟨hk.1, hk.2.2⟩, hk.2.1⟩)) hg hat)
           have n2_ := Aside0.mk (Kd.V_afterv (ok := (fun k_ => (P0_ k_ ∨ w.heap.size ≤ k_) ∧ some k_ ≠ (.slice Ao27 y146.length co27 : Value).ownBlock)) (by (with_reducible repeat (first | apply Kd.V_alloc | apply Kd.V_drewN | apply Kd.V_drew)); exact Kd.V_mono HO156.out (fun _ hk => ⟨⟨hk.1, hk.2.2⟩, hk.2.1⟩)) hg hat)
           have n3_ := Aside0.mk (Kd.R_after (ok := (fun k_ => (P0_ k_ ∨ w.heap.size ≤ k_) ∧ some k_ ≠ (.slice (some ad133) l0.length co16 : Value).ownBlock)) (by (with_reducible repeat (first | apply Kd.R_alloc | apply Kd.R_drewN | apply Kd.R_drew)); exact Kd.R_mono HO148.out (fun _ hk => ⟨⟨hk.1, hk.2.2⟩, hk.2.1⟩)) hg hat)
           have n4_ := Aside0.mk (hb)
           have n5_ := Aside0.mk (Kept.of_grown (S := (fun k_ => P0_ k_)) hg yy8 (fun k_ e_ => (HO145.out.1 k_ e_).1))
           have n6_ := Aside0.mk (ho)
           clear HO_0 HO142 HO156 HO148 HB HK HO145
           have HO_0 := n0_
           have HO142 := n1_
           have HO156 := n2_
           have HO148 := n3_
           have HB := n4_
           have HK := n5_
           have HO151 := n6_
           clear n0_ n1_ n2_ n3_ n4_ n5_ n6_ ho hb hg hat
           refine hK.out _ _ trivial (fun hHeld => ?_)
           clear hK K
           refine no_ 40 ?_
           refine one_ (i := 11) (N := some 44) bYtoadgikbbigdlaaPaAx4_14 rfl rfl (one_of HT_.out (by kernel_rfl)) (by decide) (fun K hK => ?_)
           refine Kd.R_append_rows_step (Kd.int .i64) (w0 := w0) w0.heap.size (by rfl) (.tmp 40) (.tmp 43) 26 3 (.int .i64 0) 8 rfl Try.underlying26 info3 rfl (by decide) (by omega) v150 y149 y152 _ _ _ (fun k_ => (P0_ k_ ∨ w.heap.size ≤ k_) ∧ some k_ ≠ (.slice (some ad133) l0.length co16 : Value).ownBlock ∧ some k_ ≠ (.slice Ao27 y146.length co27 : Value).ownBlock) (fun _ => False) rfl rfl ?aO ?aR (fun _ _ h => h) (fun _ h => h.elim) ?aF ?aB ?aS ?aL ?_
           (case aR => repeat (first | exact (Kd.V_reads' HO156.out).2.2 | (with_reducible refine Kd.C_alloc ?_ _) | (with_reducible refine Kd.C_drewN ?_ _) | (with_reducible refine Kd.C_drew ?_)))
           (case aB => exact yy1)
           (case aF => exact (fun k_ hk => ⟨(.inr (Nat.le_trans yy6 hk)), Kd.fresh' (Kd.R_lt yy5) k_ hk, Kd.fresh' (Kd.R_lt yy32) k_ hk⟩))
           (case aO => exact (by (with_reducible repeat (first | apply Kd.R_alloc | apply Kd.R_drewN | apply Kd.R_drew)); exact HO151.out))
           (case aS => exact (below_size yy1))
           (case aL => have := LMc15.out; omega)
           intro v158 w28 ho hb hg hat
           rw [← Ny157.out] at ho
           have n0_ := Aside0.mk (Kd.R_after (ok := (fun k_ => (P0_ k_ ∨ w.heap.size ≤ k_) ∧ some k_ ≠ (.slice Ao27 y146.length co27 : Value).ownBlock)) yy5 hg hat)
           have n1_ := Aside0.mk (Kd.V_afterv (ok := (fun k_ => (P0_ k_ ∨ w.heap.size ≤ k_) ∧ some k_ ≠ (.slice Ao27 y146.length co27 : Value).ownBlock)) yy25 hg hat)
           have n2_ := Aside0.mk (Kd.V_afterv (ok := (fun k_ => (P0_ k_ ∨ w.heap.size ≤ k_) ∧ some k_ ≠ (.slice Ao27 y146.length co27 : Value).ownBlock)) yy26 hg hat)
           have n3_ := Aside0.mk (Kd.R_after (ok := (fun k_ => (P0_ k_ ∨ w.heap.size ≤ k_) ∧ some k_ ≠ (.slice (some ad133) l0.length co16 : Value).ownBlock)) yy32 hg hat)
           have n4_ := Aside0.mk (hb)
           have n5_ := Aside0.mk (Kept.of_grown (S := (fun k_ => P0_ k_)) hg yy8 (fun k_ e_ => (HO151.out.1 k_ e_).1))
           have n6_ := Aside0.mk (ho)
           clear HO_0 HO142 HO156 HO148 HB HK HO151
           have HO_0 := n0_
           have HO142 := n1_
           have HO156 := n2_
           have HO148 := n3_
           have HB := n4_
           have HK := n5_
           have HO159 := n6_
           clear n0_ n1_ n2_ n3_ n4_ n5_ n6_ ho hb hg hat
           refine hK.out _ _ trivial (fun hHeld => ?_)
           clear hK K
           refine no_ 44 ?_
           refine pu_ 12 4 bYtoadgikbbigdlaaPaAx4_15 ?_
           refine done_ (done_of HT_.out (by kernel_rfl)) ?_
           try go_wp2
           go_ret
           exact ⟨_, by first | rfl | (simp [errW_none, errW_some] <;> rfl) | (simp [*, errW_none, errW_some] <;> rfl), by (with_reducible repeat (first | apply Kd.R_alloc | apply Kd.R_drewN | apply Kd.R_drew)); exact Kd.R_mono HO159.out (fun _ hk => hk.1), by repeat (first | (with_reducible first | exact HB.out | apply below_alloc | apply pw_below_drewN | apply below_drew1) | exact HB.out), by repeat (first | (with_reducible first | exact HK.out | apply Kept.alloc | apply Kept.drewN | apply Kept.drew) | exact HK.out)⟩
          ·rw [if_neg c15] at H
           exact absurd H (by simp)
         ·rw [if_neg c12] at H
          exact absurd H (by simp)
        ·rw [if_neg c11] at H
         exact absurd H (by simp)
       ·rw [if_neg c10] at H
        exact absurd H (by simp)
    ·rw [if_neg c4] at H
     exact absurd H (by simp)
   ·rw [if_neg c3] at H
    have c3b0 : decide (x5_1 < (l0.length : Int)) = false := decide_eq_false c3
    clear c3
    obtain ⟨y160, hy160⟩ : ∃ y_ : List Int, y_ = (([] : List Int)) := ⟨_, rfl⟩
    replace H : (if 0 ≤ x5_1 then (if x5_1 ≤ (l0.length : Int) then ((some (l0.take (x5_1 : Int).toNat : List Int)).bind fun y163 => (if y160.length + y163.length < 17592186044416 then ((some (y160 ++ y163 : List Int)).bind fun y168 => ((some (([a1] : List Int) : List Int)).bind fun y171 => (if y168.length + y171.length < 17592186044416 then ((some (y168 ++ y171 : List Int)).bind fun y174 => ((some (l0.drop (x5_1 : Int).toNat : List Int)).bind fun y177 => (if y174.length + y177.length < 17592186044416 then (some (y174 ++ y177)) else (none)))) else (none)))) else (none))) else (none)) else (none)) = some r := by first | (rw [hy160]; with_reducible exact H) | (have H2_ := (Option.bind_some _ _).symm.trans H; rw [hy160]; with_reducible exact H2_) | (have H2_ := (Option.bind_some _ _).symm.trans H; with_reducible exact H2_) | with_reducible exact H | (rw [hy160]; exact H) | exact H
    have Ny160 := Aside0.mk hy160
    clear hy160
    by_cases c29 : 0 ≤ x5_1
    ·rw [if_pos c29] at H
     have c29b0 := eq_true c29
     have c29b1 : decide (0 ≤ x5_1) = true := decide_eq_true c29
     clear c29
     by_cases c30 : x5_1 ≤ (l0.length : Int)
     ·rw [if_pos c30] at H
      have c30b0 := eq_true c30
      have c30b1 : decide (x5_1 ≤ (l0.length : Int)) = true := decide_eq_true c30
      clear c30
      obtain ⟨y163, hy163⟩ : ∃ y_ : List Int, y_ = (l0.take (x5_1 : Int).toNat) := ⟨_, rfl⟩
      replace H : (if y160.length + y163.length < 17592186044416 then ((some (y160 ++ y163 : List Int)).bind fun y168 => ((some (([a1] : List Int) : List Int)).bind fun y171 => (if y168.length + y171.length < 17592186044416 then ((some (y168 ++ y171 : List Int)).bind fun y174 => ((some (l0.drop (x5_1 : Int).toNat : List Int)).bind fun y177 => (if y174.length + y177.length < 17592186044416 then (some (y174 ++ y177)) else (none)))) else (none)))) else (none)) = some r := by first | (rw [hy163]; with_reducible exact H) | (have H2_ := (Option.bind_some _ _).symm.trans H; rw [hy163]; with_reducible exact H2_) | (have H2_ := (Option.bind_some _ _).symm.trans H; with_reducible exact H2_) | with_reducible exact H | (rw [hy163]; exact H) | exact H
      have Ny163 := Aside0.mk hy163
      clear hy163
      by_cases c31 : y160.length + y163.length < 17592186044416
      ·rw [if_pos c31] at H
       have LMc31 := Aside0.mk c31
       clear c31
       obtain ⟨y168, hy168⟩ : ∃ y_ : List Int, y_ = (y160 ++ y163) := ⟨_, rfl⟩
       replace H : ((some (([a1] : List Int) : List Int)).bind fun y171 => (if y168.length + y171.length < 17592186044416 then ((some (y168 ++ y171 : List Int)).bind fun y174 => ((some (l0.drop (x5_1 : Int).toNat : List Int)).bind fun y177 => (if y174.length + y177.length < 17592186044416 then (some (y174 ++ y177)) else (none)))) else (none))) = some r := by first | (rw [hy168]; with_reducible exact H) | (have H2_ := (Option.bind_some _ _).symm.trans H; rw [hy168]; with_reducible exact H2_) | (have H2_ := (Option.bind_some _ _).symm.trans H; with_reducible exact H2_) | with_reducible exact H | (rw [hy168]; exact H) | exact H
       have Ny168 := Aside0.mk hy168
       clear hy168
       obtain ⟨y171, hy171⟩ : ∃ y_ : List Int, y_ = (([a1] : List Int)) := ⟨_, rfl⟩
       replace H : (if y168.length + y171.length < 17592186044416 then ((some (y168 ++ y171 : List Int)).bind fun y174 => ((some (l0.drop (x5_1 : Int).toNat : List Int)).bind fun y177 => (if y174.length + y177.length < 17592186044416 then (some (y174 ++ y177)) else (none)))) else (none)) = some r := by first | (rw [hy171]; with_reducible exact H) | (have H2_ := (Option.bind_some _ _).symm.trans H; rw [hy171]; with_reducible exact H2_) | (have H2_ := (Option.bind_some _ _).symm.trans H; with_reducible exact H2_) | with_reducible exact H | (rw [hy171]; exact H) | exact H
       have Ny171 := Aside0.mk hy171
       clear hy171
       by_cases c32 : y168.length + y171.length < 17592186044416
       ·rw [if_pos c32] at H
        have LMc32 := Aside0.mk c32
        clear c32
        obtain ⟨y174, hy174⟩ : ∃ y_ : List Int, y_ = (y168 ++ y171) := ⟨_, rfl⟩
        replace H : ((some (l0.drop (x5_1 : Int).toNat : List Int)).bind fun y177 => (if y174.length + y177.length < 17592186044416 then (some (y174 ++ y177)) else (none))) = some r := by first | (rw [hy174]; with_reducible exact H) | (have H2_ := (Option.bind_some _ _).symm.trans H; rw [hy174]; with_reducible exact H2_) | (have H2_ := (Option.bind_some _ _).symm.trans H; with_reducible exact H2_) | with_reducible exact H | (rw [hy174]; exact H) | exact H
        have Ny174 := Aside0.mk hy174
        clear hy174
        have c33b0 := eq_true (of_decide_eq_true yy2 : 0 ≤ x5_1)
        have c34b0 := eq_true (of_decide_eq_true yy2 : x5_1 ≤ (l0.length : Int))
        obtain ⟨y177, hy177⟩ : ∃ y_ : List Int, y_ = (l0.drop (x5_1 : Int).toNat) := ⟨_, rfl⟩
        replace H : (if y174.length + y177.length < 17592186044416 then (some (y174 ++ y177)) else (none)) = some r := by first | (rw [hy177]; with_reducible exact H) | (have H2_ := (Option.bind_some _ _).symm.trans H; rw [hy177]; with_reducible exact H2_) | (have H2_ := (Option.bind_some _ _).symm.trans H; with_reducible exact H2_) | with_reducible exact H | (rw [hy177]; exact H) | exact H
        have Ny177 := Aside0.mk hy177
        clear hy177
        by_cases c35 : y174.length + y177.length < 17592186044416
        ·rw [if_pos c35] at H
         have LMc35 := Aside0.mk c35
         clear c35
         obtain ⟨y182, hy182⟩ : ∃ y_ : List Int, y_ = (y174 ++ y177) := ⟨_, rfl⟩
         replace H : (some y182) = some r := by first | (rw [hy182]; with_reducible exact H) | (have H2_ := (Option.bind_some _ _).symm.trans H; rw [hy182]; with_reducible exact H2_) | (have H2_ := (Option.bind_some _ _).symm.trans H; with_reducible exact H2_) | with_reducible exact H | (rw [hy182]; exact H) | exact H
         have Ny182 := Aside0.mk hy182
         clear hy182
         obtain rfl := Option.some.inj H
         obtain ⟨Ao36, co36, eo36⟩ := Kd.R_slice HO_0.out
         subst eo36
         try go_wp2
         have n0_ := Aside0.mk (Kd.R_drew HO_0.out)
         have n1_ := Aside0.mk (Kept.drew HK.out)
         have n2_ := Aside0.mk (below_drew1 HB.out)
         clear HO_0 HK HB
         have HO_0 := n0_
         have HK := n1_
         have HB := n2_
         clear n0_ n1_ n2_
         have q38 : (x5_1 : Int) ≤ ((l0.length : Int) : Int) := of_decide_eq_true yy2
         obtain ⟨i038, hi038, _, hsz38, _⟩ := info_parts info3
         have hroom38 : l0.length ≤ co36 := (Kd.R_reads' HO_0.out).2.1
         have hC38 : Kd.F (Kd.int .i64) _ _ Ao36 l0.length l0 := (Kd.V_at (base := w0.heap.size) (Kd.R_V HO_0.out)).2.2
         have hcut38 := cut_to (P := Try.prog) 26 3 .i64 Try.underlying26 hi038 Ao36 l0.length co36 x5_1 (of_decide_eq_true yy2) q38 hroom38
         have hr38 := Kd.F_take (m := (x5_1 : Int).toNat) hC38 (by omega)
         have hy38 : y163.length = (x5_1 : Int).toNat := (by rw [Ny163.out, List.length_take]; omega)
         rw [← Ny163.out] at hr38
         rw [← hy38] at hcut38
         have HO167 := Aside0.mk (show Kd.V (Kd.int .i64) 3 _ w0.heap.size _ (.slice Ao36 y163.length co36) y163 from Kd.V_mk (by omega) hr38)
         have HC167 := Aside0.mk (show y163.length ≤ co36 from by omega)
         clear hr38 hC38 hroom38 hi038 hsz38
         have KY38 := Aside0.mk hy38
         clear hy38
         replace q38 := eq_true q38
         have q39 : (x5_1 : Int) ≤ ((l0.length : Int) : Int) := of_decide_eq_true yy2
         obtain ⟨i039, hi039, _, hsz39, _⟩ := info_parts info3
         have hroom39 : l0.length ≤ co36 := (Kd.R_reads' HO_0.out).2.1
         have hC39 : Kd.F (Kd.int .i64) _ _ Ao36 l0.length l0 := (Kd.V_at (base := w0.heap.size) (Kd.R_V HO_0.out)).2.2
         have q039 : (0 : Int) ≤ (x5_1 : Int) := of_decide_eq_true yy2
         have hcut39 := cut_from (P := Try.prog) 26 3 .i64 Try.underlying26 hi039 1 hsz39 Ao36 l0.length co36 x5_1 q039 q39
         have hr39 := Kd.F_cut (m := (x5_1 : Int).toNat) (c := co36) hC39 (by omega) hroom39
         obtain ⟨A39, hA39⟩ : ∃ A1, A1 = (if co36 = (x5_1 : Int).toNat then Ao36 else (Ao36 : Option Addr).map (·.add ((x5_1 : Int).toNat * 1))) := ⟨_, rfl⟩
         obtain ⟨c39, hc39⟩ : ∃ c1, c1 = co36 - (x5_1 : Int).toNat := ⟨_, rfl⟩
         have hy39 : y177.length = l0.length - (x5_1 : Int).toNat := (by rw [Ny177.out, List.length_drop] <;> omega)
         rw [show (l0).drop (x5_1 : Int).toNat = y177 from Ny177.out.symm] at hr39
         replace hr39 : Kd.F (Kd.int .i64) _ _ A39 y177.length y177 := (by rw [hA39]; exact hr39)
         rw [← hy39, ← hA39, ← hc39] at hcut39
         have HO181 := Aside0.mk (show Kd.V (Kd.int .i64) 3 _ w0.heap.size _ (.slice A39 y177.length c39) y177 from Kd.V_mk (by rw [hy39, hc39]; exact Nat.sub_le_sub_right hroom39 _) hr39)
         have HC181 := Aside0.mk (show y177.length ≤ c39 from by rw [hy39, hc39]; exact Nat.sub_le_sub_right hroom39 _)
         clear hr39 hC39 hroom39 hi039 hsz39 hc39
         have KY39 := Aside0.mk hy39
         have KA39 := Aside0.mk hA39
         clear hy39 hA39
         replace q39 := eq_true q39
         refine start_ (n := 13) (S := fun w' => True) (ds := []) bYtoadgikbbigdlaaPaAx4_0 (by kernel_rfl) rfl rfl trivial (fun hHeld => ?_); refine with_tabW spec_l1Put.tab6 spec_l1Put.bits6 (fun HT_ HW_ => ?_)
         generalize wr.drew = w37 at HO_0 HK HB HO167 HO181 hHeld ⊢
         refine pu_ 1 34 bYtoadgikbbigdlaaPaAx4_1 ?_
         refine pu_ 2 35 bYtoadgikbbigdlaaPaAx4_2 ?_
         refine pu_ 3 36 bYtoadgikbbigdlaaPaAx4_3 ?_
         refine pu_ 5 38 bYtoadgikbbigdlaaPaAx4_4 ?_
         refine pu_ 8 41 bYtoadgikbbigdlaaPaAx4_5 ?_
         refine pu_ 9 42 bYtoadgikbbigdlaaPaAx4_6 ?_
         refine pu_ 10 43 bYtoadgikbbigdlaaPaAx4_7 ?_
         refine join_ (σ := Value × Value × Value) 3 bYtoadgikbbigdlaaPaAx4_8 (fun s_ => [(33, s_.1), (37, s_.2.1), (39, s_.2.2)]) (fun s_ w' => (Kd.V (Kd.int .i64) 3 w' w0.heap.size (fun k_ => (P0_ k_ ∨ w.heap.size ≤ k_) ∧ some k_ ≠ (s_.2.1 : Value).ownBlock ∧ some k_ ≠ (s_.2.2 : Value).ownBlock) (.slice Ao36 y163.length co36) y163) ∧ (Kd.R (Kd.int .i64) 3 w' w0.heap.size (fun k_ => (P0_ k_ ∨ w.heap.size ≤ k_) ∧ some k_ ≠ (s_.2.2 : Value).ownBlock ∧ some k_ ≠ (.slice Ao36 l0.length co36 : Value).ownBlock) s_.2.1 y168) ∧ (Kd.R (Kd.int .i64) 3 w' w0.heap.size (fun k_ => (P0_ k_ ∨ w.heap.size ≤ k_) ∧ some k_ ≠ (s_.2.1 : Value).ownBlock ∧ some k_ ≠ (.slice Ao36 l0.length co36 : Value).ownBlock) s_.2.2 y171) ∧ (Kd.V (Kd.int .i64) 3 w' w0.heap.size (fun k_ => (P0_ k_ ∨ w.heap.size ≤ k_) ∧ some k_ ≠ (s_.2.1 : Value).ownBlock ∧ some k_ ≠ (s_.2.2 : Value).ownBlock) (.slice A39 y177.length c39) y177) ∧ (Kd.R (Kd.int .i64) 3 w' w0.heap.size (fun k_ => (P0_ k_ ∨ w.heap.size ≤ k_) ∧ some k_ ≠ (s_.2.1 : Value).ownBlock ∧ some k_ ≠ (s_.2.2 : Value).ownBlock) (.slice Ao36 l0.length co36) l0) ∧ (Kept w w' (fun k_ => P0_ k_)) ∧ (Below w0.heap.size w0 w')) ?_ ?_
         rotate_left
         ·intro hCont
          refine two_ (i := 0) (j := 6) (Ni := some 33) (Nj := some 39) bYtoadgikbbigdlaaPaAx4_9 bYtoadgikbbigdlaaPaAx4_10 rfl rfl rfl rfl (two_of HT_.out (by kernel_rfl)) (by decide) (by decide) (fun K hK => ?_) (fun K hK => ?_)
          ·skip
           refine Kd.R_lit_step (Kd.int .i64) _ 3 ?hg (N := 33) ?hd (xs := ([] : List Int)) (inner := []) (ok := fun _ => True) (okp := fun _ => True) ?hr ?hp (fun _ hk => hk) trivial (Below.refl _ _) (Nat.le_refl _) (by simp) ?_; (case hd => rfl); (case hg => rfl); (case hr => first | (go_simp; done) | (go_simp; rfl)); (case hp => exact (Reps.none _ _))
           intro v161 w40 ho41 hb hg_ hnew_
           clear hg_ hnew_
           (first | rw [← Ny160.out] at ho41 | (simp only [Int.reduceToNat] at ho41; rw [← Ny160.out] at ho41))
           have n0_ := Aside0.mk (Kd.R_elder' yy5 (Kd.R_base ho41) hb)
           have n1_ := Aside0.mk (Kd.V_elder' yy27 (Kd.R_base ho41) hb)
           have n2_ := Aside0.mk (Kd.V_elder' yy28 (Kd.R_base ho41) hb)
           have n3_ := Aside0.mk (Kd.R_lower (Kd.R_new' (Kd.R_newM (M := fun k_ => (P0_ k_ ∨ w.heap.size ≤ k_)) ho41 yy6 (fun k_ h_ => .inr h_)) (Kd.R_lt yy5)) (below_size yy1))
           have n4_ := Aside0.mk (Kept.below (S := (fun k_ => P0_ k_)) yy8 hb)
           have n5_ := Aside0.mk (below_step yy1 hb)
           clear HO_0 HO167 HO181 HK HB
           have HO_0 := n0_
           have HO167 := n1_
           have HO181 := n2_
           have HO162 := n3_
           have HK := n4_
           have HB := n5_
           clear n0_ n1_ n2_ n3_ n4_ n5_ hb ho41
           refine hK.out _ _ trivial (fun hHeld => ?_)
           clear hK K
           refine no_ 33 ?_
           refine two_ (i := 4) (j := 6) (Ni := some 37) (Nj := some 39) bYtoadgikbbigdlaaPaAx4_11 bYtoadgikbbigdlaaPaAx4_12 rfl rfl rfl rfl (two_of HT_.out (by kernel_rfl)) (by decide) (by decide) (fun K hK => ?_) (fun K hK => ?_)
           ·skip
            refine Kd.R_append_rows_step (Kd.int .i64) (w0 := w0) w0.heap.size (by rfl) (.tmp 33) (.tmp 36) 26 3 (.int .i64 0) 8 rfl Try.underlying26 info3 rfl (by decide) (by omega) v161 y160 y163 _ _ _ (fun k_ => (P0_ k_ ∨ w.heap.size ≤ k_) ∧ some k_ ≠ (.slice Ao36 l0.length co36 : Value).ownBlock) (fun _ => False) rfl rfl ?aO ?aR (fun _ _ h => h) (fun _ h => h.elim) ?aF ?aB ?aS ?aL ?_
            (case aR => repeat (first | exact (Kd.V_reads' HO167.out).2.2 | (with_reducible refine Kd.C_alloc ?_ _) | (with_reducible refine Kd.C_drewN ?_ _) | (with_reducible refine Kd.C_drew ?_)))
            (case aB => exact yy1)
            (case aF => exact (fun k_ hk => ⟨(.inr (Nat.le_trans yy6 hk)), Kd.fresh' (Kd.R_lt yy5) k_ hk⟩))
            (case aO => exact (by (with_reducible repeat (first | apply Kd.R_alloc | apply Kd.R_drewN | apply Kd.R_drew)); exact Kd.R_mono HO162.out (fun _ hk => ⟨hk.1.1, hk.2⟩)))
            (case aS => exact (below_size yy1))
            (case aL => have := LMc31.out; omega)
            intro v169 w42 ho hb hg hat
            rw [← Ny168.out] at ho
            have n0_ := Aside0.mk (Kd.R_after (ok := (fun k_ => (P0_ k_ ∨ w.heap.size ≤ k_))) yy5 hg hat)
            have n1_ := Aside0.mk (Kd.V_afterv (ok := (fun k_ => (P0_ k_ ∨ w.heap.size ≤ k_))) yy27 hg hat)
            have n2_ := Aside0.mk (Kd.V_afterv (ok := (fun k_ => (P0_ k_ ∨ w.heap.size ≤ k_))) yy28 hg hat)
            have n3_ := Aside0.mk (hb)
            have n4_ := Aside0.mk (Kept.of_grown (S := (fun k_ => P0_ k_)) hg yy8 (fun k_ e_ => (HO162.out.1 k_ e_).1.1))
            have n5_ := Aside0.mk (ho)
            clear HO_0 HO167 HO181 HB HK HO162
            have HO_0 := n0_
            have HO167 := n1_
            have HO181 := n2_
            have HB := n3_
            have HK := n4_
            have HO170 := n5_
            clear n0_ n1_ n2_ n3_ n4_ n5_ ho hb hg hat
            refine hK.out _ _ trivial (fun hHeld => ?_)
            clear hK K
            refine no_ 37 ?_
            refine one_ (i := 6) (N := some 39) bYtoadgikbbigdlaaPaAx4_8 rfl rfl (one_of HT_.out (by kernel_rfl)) (by decide) (fun K hK => ?_)
            refine Kd.R_lit_step (Kd.int .i64) _ 3 ?hg (N := 39) ?hd (xs := ([a1] : List Int)) (inner := [.int .i64 a1]) (ok := fun _ => True) (okp := fun _ => True) ?hr ?hp (fun _ hk => hk) trivial (Below.refl _ _) (Nat.le_refl _) (by simp) ?_; (case hd => rfl); (case hg => rfl); (case hr => first | (go_simp; done) | (go_simp; rfl)); (case hp => exact (Reps.one (show Kd.M (Kd.int .i64) _ _ _ a1 [.int .i64 a1] from rfl) (Reps.none _ _)))
            intro v172 w43 ho44 hb hg_ hnew_
            clear hg_ hnew_
            (first | rw [← Ny171.out] at ho44 | (simp only [Int.reduceToNat] at ho44; rw [← Ny171.out] at ho44))
            have n0_ := Aside0.mk (Kd.R_elder' yy5 (Kd.R_base ho44) hb)
            have n1_ := Aside0.mk (Kd.V_elder' yy27 (Kd.R_base ho44) hb)
            have n2_ := Aside0.mk (Kd.V_elder' yy28 (Kd.R_base ho44) hb)
            have n3_ := Aside0.mk (Kd.R_elder' (by (with_reducible repeat (first | apply Kd.R_alloc | apply Kd.R_drewN | apply Kd.R_drew)); exact HO170.out) (Kd.R_base ho44) hb)
            have n4_ := Aside0.mk (Kd.R_lower (Kd.R_new' (Kd.R_new' (Kd.R_newM (M := fun k_ => (P0_ k_ ∨ w.heap.size ≤ k_)) ho44 yy6 (fun k_ h_ => .inr h_)) (Kd.R_lt yy5)) (Kd.R_lt (by (with_reducible repeat (first | apply Kd.R_alloc | apply Kd.R_drewN | apply Kd.R_drew)); exact HO170.out))) (below_size yy1))
            have n5_ := Aside0.mk (Kept.below (S := (fun k_ => P0_ k_)) yy8 hb)
            have n6_ := Aside0.mk (below_step yy1 hb)
            clear HO_0 HO167 HO181 HO170 HK HB
            have HO_0 := n0_
            have HO167 := n1_
            have HO181 := n2_
            have HO170 := n3_
            have HO173 := n4_
            have HK := n5_
            have HB := n6_
            clear n0_ n1_ n2_ n3_ n4_ n5_ n6_ hb ho44
            refine hK.out _ _ trivial (fun hHeld => ?_)
            clear hK K
            refine no_ 39 ?_
            exact norm_ yy18 (hCont (v161, v169, v172) _ ⟨(by (with_reducible repeat (first | apply Kd.V_alloc | apply Kd.V_drewN | apply Kd.V_drew)); exact Kd.V_mono HO167.out (fun _ hk => ⟨hk.1.1, ⟨hk.1.2, hk.2⟩⟩)), (by (with_reducible repeat (first | apply Kd.R_alloc | apply Kd.R_drewN | apply Kd.R_drew)); exact Kd.R_mono HO170.out (fun _ hk => ⟨hk.1.1, ⟨hk.2, hk.1.2⟩⟩)), (by (with_reducible repeat (first | apply Kd.R_alloc | apply Kd.R_drewN | apply Kd.R_drew)); exact Kd.R_mono HO173.out (fun _ hk => ⟨hk.1.1.1, ⟨hk.2, hk.1.2⟩⟩)), (by (with_reducible repeat (first | apply Kd.V_alloc | apply Kd.V_drewN | apply Kd.V_drew)); exact Kd.V_mono HO181.out (fun _ hk => ⟨hk.1.1, ⟨hk.1.2, hk.2⟩⟩)), (by (with_reducible repeat (first | apply Kd.R_alloc | apply Kd.R_drewN | apply Kd.R_drew)); exact Kd.R_mono HO_0.out (fun _ hk => ⟨hk.1.1, ⟨hk.1.2, hk.2⟩⟩)), yy8, yy1⟩)
           ·skip
            refine Kd.R_lit_step (Kd.int .i64) _ 3 ?hg (N := 39) ?hd (xs := ([a1] : List Int)) (inner := [.int .i64 a1]) (ok := fun _ => True) (okp := fun _ => True) ?hr ?hp (fun _ hk => hk) trivial (Below.refl _ _) (Nat.le_refl _) (by simp) ?_; (case hd => rfl); (case hg => rfl); (case hr => first | (go_simp; done) | (go_simp; rfl)); (case hp => exact (Reps.one (show Kd.M (Kd.int .i64) _ _ _ a1 [.int .i64 a1] from rfl) (Reps.none _ _)))
            intro v172 w42 ho43 hb hg_ hnew_
            clear hg_ hnew_
            (first | rw [← Ny171.out] at ho43 | (simp only [Int.reduceToNat] at ho43; rw [← Ny171.out] at ho43))
            have n0_ := Aside0.mk (Kd.R_elder' yy5 (Kd.R_base ho43) hb)
            have n1_ := Aside0.mk (Kd.V_elder' yy27 (Kd.R_base ho43) hb)
            have n2_ := Aside0.mk (Kd.V_elder' yy28 (Kd.R_base ho43) hb)
            have n3_ := Aside0.mk (Kd.R_elder' (by (with_reducible repeat (first | apply Kd.R_alloc | apply Kd.R_drewN | apply Kd.R_drew)); exact HO162.out) (Kd.R_base ho43) hb)
            have n4_ := Aside0.mk (Kd.R_lower (Kd.R_new' (Kd.R_new' (Kd.R_newM (M := fun k_ => (P0_ k_ ∨ w.heap.size ≤ k_)) ho43 yy6 (fun k_ h_ => .inr h_)) (Kd.R_lt yy5)) (Kd.R_lt (by (with_reducible repeat (first | apply Kd.R_alloc | apply Kd.R_drewN | apply Kd.R_drew)); exact HO162.out))) (below_size yy1))
            have n5_ := Aside0.mk (Kept.below (S := (fun k_ => P0_ k_)) yy8 hb)
            have n6_ := Aside0.mk (below_step yy1 hb)
            clear HO_0 HO167 HO181 HO162 HK HB
            have HO_0 := n0_
            have HO167 := n1_
            have HO181 := n2_
            have HO162 := n3_
            have HO173 := n4_
            have HK := n5_
            have HB := n6_
            clear n0_ n1_ n2_ n3_ n4_ n5_ n6_ hb ho43
            refine hK.out _ _ trivial (fun hHeld => ?_)
            clear hK K
            refine no_ 39 ?_
            refine one_ (i := 4) (N := some 37) bYtoadgikbbigdlaaPaAx4_8 rfl rfl (one_of HT_.out (by kernel_rfl)) (by decide) (fun K hK => ?_)
            refine Kd.R_append_rows_step (Kd.int .i64) (w0 := w0) w0.heap.size (by rfl) (.tmp 33) (.tmp 36) 26 3 (.int .i64 0) 8 rfl Try.underlying26 info3 rfl (by decide) (by omega) v161 y160 y163 _ _ _ (fun k_ => (P0_ k_ ∨ w.heap.size ≤ k_) ∧ some k_ ≠ (.slice Ao36 l0.length co36 : Value).ownBlock ∧ some k_ ≠ (v172 : Value).ownBlock) (fun _ => False) rfl rfl ?aO ?aR (fun _ _ h => h) (fun _ h => h.elim) ?aF ?aB ?aS ?aL ?_
            (case aR => repeat (first | exact (Kd.V_reads' HO167.out).2.2 | (with_reducible refine Kd.C_alloc ?_ _) | (with_reducible refine Kd.C_drewN ?_ _) | (with_reducible refine Kd.C_drew ?_)))
            (case aB => exact yy1)
            (case aF => exact (fun k_ hk => ⟨(.inr (Nat.le_trans yy6 hk)), Kd.fresh' (Kd.R_lt yy5) k_ hk, Kd.fresh' (Kd.R_lt yy33) k_ hk⟩))
            (case aO => exact (by (with_reducible repeat (first | apply Kd.R_alloc | apply Kd.R_drewN | apply Kd.R_drew)); exact Kd.R_mono HO162.out (fun _ hk => ⟨hk.1.1.1, ⟨hk.1.2, hk.2⟩⟩)))
            (case aS => exact (below_size yy1))
            (case aL => have := LMc31.out; omega)
            intro v169 w44 ho hb hg hat
            rw [← Ny168.out] at ho
            have n0_ := Aside0.mk (Kd.R_after (ok := (fun k_ => (P0_ k_ ∨ w.heap.size ≤ k_) ∧ some k_ ≠ (v172 : Value).ownBlock)) (by (with_reducible repeat (first | apply Kd.R_alloc | apply Kd.R_drewN | apply Kd.R_drew)); exact Kd.R_mono HO_0.out (fun _ hk => ⟨⟨hk.1.1, hk.2⟩, hk.1.2⟩)) hg hat)
            have n1_ := Aside0.mk (Kd.V_afterv (ok := (fun k_ => (P0_ k_ ∨ w.heap.size ≤ k_) ∧ some k_ ≠ (v172 : Value).ownBlock)) (by (with_reducible repeat (first | apply Kd.V_alloc | apply Kd.V_drewN | apply Kd.V_drew)); exact Kd.V_mono HO167.out (fun _ hk => ⟨⟨hk.1.1, hk.2⟩, hk.1.2⟩)) hg hat)
            have n2_ := Aside0.mk (Kd.V_afterv (ok := (fun k_ => (P0_ k_ ∨ w.heap.size ≤ k_) ∧ some k_ ≠ (v172 : Value).ownBlock)) (by (with_reducible repeat (first | apply Kd.V_alloc | apply Kd.V_drewN | apply Kd.V_drew)); exact Kd.V_mono HO181.out (fun _ hk => ⟨⟨hk.1.1, hk.2⟩, hk.1.2⟩)) hg hat)
            have n3_ := Aside0.mk (Kd.R_after (ok := (fun k_ => (P0_ k_ ∨ w.heap.size ≤ k_) ∧ some k_ ≠ (.slice Ao36 l0.length co36 : Value).ownBlock)) (by (with_reducible repeat (first | apply Kd.R_alloc | apply Kd.R_drewN | apply Kd.R_drew)); exact Kd.R_mono HO173.out (fun _ hk => ⟨⟨hk.1.1.1, hk.1.2⟩, hk.2⟩)) hg hat)
            have n4_ := Aside0.mk (hb)
            have n5_ := Aside0.mk (Kept.of_grown (S := (fun k_ => P0_ k_)) hg yy8 (fun k_ e_ => (HO162.out.1 k_ e_).1.1.1))
            have n6_ := Aside0.mk (ho)
            clear HO_0 HO167 HO181 HO173 HB HK HO162
            have HO_0 := n0_
            have HO167 := n1_
            have HO181 := n2_
            have HO173 := n3_
            have HB := n4_
            have HK := n5_
            have HO170 := n6_
            clear n0_ n1_ n2_ n3_ n4_ n5_ n6_ ho hb hg hat
            refine hK.out _ _ trivial (fun hHeld => ?_)
            clear hK K
            refine no_ 37 ?_
            exact norm_ yy18 (hCont (v161, v169, v172) _ ⟨(by (with_reducible repeat (first | apply Kd.V_alloc | apply Kd.V_drewN | apply Kd.V_drew)); exact Kd.V_mono HO167.out (fun _ hk => ⟨hk.1.1, ⟨hk.2, hk.1.2⟩⟩)), yy52, (by (with_reducible repeat (first | apply Kd.R_alloc | apply Kd.R_drewN | apply Kd.R_drew)); exact Kd.R_mono HO173.out (fun _ hk => ⟨hk.1.1, ⟨hk.2, hk.1.2⟩⟩)), (by (with_reducible repeat (first | apply Kd.V_alloc | apply Kd.V_drewN | apply Kd.V_drew)); exact Kd.V_mono HO181.out (fun _ hk => ⟨hk.1.1, ⟨hk.2, hk.1.2⟩⟩)), yy44, yy8, yy1⟩)
          ·skip
           refine Kd.R_lit_step (Kd.int .i64) _ 3 ?hg (N := 39) ?hd (xs := ([a1] : List Int)) (inner := [.int .i64 a1]) (ok := fun _ => True) (okp := fun _ => True) ?hr ?hp (fun _ hk => hk) trivial (Below.refl _ _) (Nat.le_refl _) (by simp) ?_; (case hd => rfl); (case hg => rfl); (case hr => first | (go_simp; done) | (go_simp; rfl)); (case hp => exact (Reps.one (show Kd.M (Kd.int .i64) _ _ _ a1 [.int .i64 a1] from rfl) (Reps.none _ _)))
           intro v172 w40 ho41 hb hg_ hnew_
           clear hg_ hnew_
           (first | rw [← Ny171.out] at ho41 | (simp only [Int.reduceToNat] at ho41; rw [← Ny171.out] at ho41))
           have n0_ := Aside0.mk (Kd.R_elder' yy5 (Kd.R_base ho41) hb)
           have n1_ := Aside0.mk (Kd.V_elder' yy27 (Kd.R_base ho41) hb)
           have n2_ := Aside0.mk (Kd.V_elder' yy28 (Kd.R_base ho41) hb)
           have n3_ := Aside0.mk (Kd.R_lower (Kd.R_new' (Kd.R_newM (M := fun k_ => (P0_ k_ ∨ w.heap.size ≤ k_)) ho41 yy6 (fun k_ h_ => .inr h_)) (Kd.R_lt yy5)) (below_size yy1))
           have n4_ := Aside0.mk (Kept.below (S := (fun k_ => P0_ k_)) yy8 hb)
           have n5_ := Aside0.mk (below_step yy1 hb)
           clear HO_0 HO167 HO181 HK HB
           have HO_0 := n0_
           have HO167 := n1_
           have HO181 := n2_
           have HO173 := n3_
           have HK := n4_
           have HB := n5_
           clear n0_ n1_ n2_ n3_ n4_ n5_ hb ho41
           refine hK.out _ _ trivial (fun hHeld => ?_)
           clear hK K
           refine no_ 39 ?_
           refine one_ (i := 0) (N := some 33) bYtoadgikbbigdlaaPaAx4_12 rfl rfl (one_of HT_.out (by kernel_rfl)) (by decide) (fun K hK => ?_)
           refine Kd.R_lit_step (Kd.int .i64) _ 3 ?hg (N := 33) ?hd (xs := ([] : List Int)) (inner := []) (ok := fun _ => True) (okp := fun _ => True) ?hr ?hp (fun _ hk => hk) trivial (Below.refl _ _) (Nat.le_refl _) (by simp) ?_; (case hd => rfl); (case hg => rfl); (case hr => first | (go_simp; done) | (go_simp; rfl)); (case hp => exact (Reps.none _ _))
           intro v161 w42 ho43 hb hg_ hnew_
           clear hg_ hnew_
           (first | rw [← Ny160.out] at ho43 | (simp only [Int.reduceToNat] at ho43; rw [← Ny160.out] at ho43))
           have n0_ := Aside0.mk (Kd.R_elder' yy5 (Kd.R_base ho43) hb)
           have n1_ := Aside0.mk (Kd.V_elder' yy27 (Kd.R_base ho43) hb)
           have n2_ := Aside0.mk (Kd.V_elder' yy28 (Kd.R_base ho43) hb)
           have n3_ := Aside0.mk (Kd.R_elder' yy33 (Kd.R_base ho43) hb)
           have n4_ := Aside0.mk (Kd.R_lower (Kd.R_new' (Kd.R_new' (Kd.R_newM (M := fun k_ => (P0_ k_ ∨ w.heap.size ≤ k_)) ho43 yy6 (fun k_ h_ => .inr h_)) (Kd.R_lt yy5)) (Kd.R_lt yy33)) (below_size yy1))
           have n5_ := Aside0.mk (Kept.below (S := (fun k_ => P0_ k_)) yy8 hb)
           have n6_ := Aside0.mk (below_step yy1 hb)
           clear HO_0 HO167 HO181 HO173 HK HB
           have HO_0 := n0_
           have HO167 := n1_
           have HO181 := n2_
           have HO173 := n3_
           have HO162 := n4_
           have HK := n5_
           have HB := n6_
           clear n0_ n1_ n2_ n3_ n4_ n5_ n6_ hb ho43
           refine hK.out _ _ trivial (fun hHeld => ?_)
           clear hK K
           refine no_ 33 ?_
           refine one_ (i := 4) (N := some 37) bYtoadgikbbigdlaaPaAx4_8 rfl rfl (one_of HT_.out (by kernel_rfl)) (by decide) (fun K hK => ?_)
           refine Kd.R_append_rows_step (Kd.int .i64) (w0 := w0) w0.heap.size (by rfl) (.tmp 33) (.tmp 36) 26 3 (.int .i64 0) 8 rfl Try.underlying26 info3 rfl (by decide) (by omega) v161 y160 y163 _ _ _ (fun k_ => (P0_ k_ ∨ w.heap.size ≤ k_) ∧ some k_ ≠ (.slice Ao36 l0.length co36 : Value).ownBlock ∧ some k_ ≠ (v172 : Value).ownBlock) (fun _ => False) rfl rfl ?aO ?aR (fun _ _ h => h) (fun _ h => h.elim) ?aF ?aB ?aS ?aL ?_
           (case aR => repeat (first | exact (Kd.V_reads' HO167.out).2.2 | (with_reducible refine Kd.C_alloc ?_ _) | (with_reducible refine Kd.C_drewN ?_ _) | (with_reducible refine Kd.C_drew ?_)))
           (case aB => exact yy1)
           (case aF => exact (fun k_ hk => ⟨(.inr (Nat.le_trans yy6 hk)), Kd.fresh' (Kd.R_lt yy5) k_ hk, Kd.fresh' (Kd.R_lt yy33) k_ hk⟩))
           (case aO => exact (by (with_reducible repeat (first | apply Kd.R_alloc | apply Kd.R_drewN | apply Kd.R_drew)); exact Kd.R_mono HO162.out (fun _ hk => ⟨hk.1.1.1, ⟨hk.1.2, hk.2⟩⟩)))
           (case aS => exact (below_size yy1))
           (case aL => have := LMc31.out; omega)
           intro v169 w44 ho hb hg hat
           rw [← Ny168.out] at ho
           have n0_ := Aside0.mk (Kd.R_after (ok := (fun k_ => (P0_ k_ ∨ w.heap.size ≤ k_) ∧ some k_ ≠ (v172 : Value).ownBlock)) yy5 hg hat)
           have n1_ := Aside0.mk (Kd.V_afterv (ok := (fun k_ => (P0_ k_ ∨ w.heap.size ≤ k_) ∧ some k_ ≠ (v172 : Value).ownBlock)) yy27 hg hat)
           have n2_ := Aside0.mk (Kd.V_afterv (ok := (fun k_ => (P0_ k_ ∨ w.heap.size ≤ k_) ∧ some k_ ≠ (v172 : Value).ownBlock)) yy28 hg hat)
           have n3_ := Aside0.mk (Kd.R_after (ok := (fun k_ => (P0_ k_ ∨ w.heap.size ≤ k_) ∧ some k_ ≠ (.slice Ao36 l0.length co36 : Value).ownBlock)) (by (with_reducible repeat (first | apply Kd.R_alloc | apply Kd.R_drewN | apply Kd.R_drew)); exact Kd.R_mono HO173.out (fun _ hk => ⟨⟨hk.1.1.1, hk.1.2⟩, hk.2⟩)) hg hat)
           have n4_ := Aside0.mk (hb)
           have n5_ := Aside0.mk (Kept.of_grown (S := (fun k_ => P0_ k_)) hg yy8 (fun k_ e_ => (HO162.out.1 k_ e_).1.1.1))
           have n6_ := Aside0.mk (ho)
           clear HO_0 HO167 HO181 HO173 HB HK HO162
           have HO_0 := n0_
           have HO167 := n1_
           have HO181 := n2_
           have HO173 := n3_
           have HB := n4_
           have HK := n5_
           have HO170 := n6_
           clear n0_ n1_ n2_ n3_ n4_ n5_ n6_ ho hb hg hat
           refine hK.out _ _ trivial (fun hHeld => ?_)
           clear hK K
           refine no_ 37 ?_
           exact norm_ yy18 (hCont (v161, v169, v172) _ ⟨(by (with_reducible repeat (first | apply Kd.V_alloc | apply Kd.V_drewN | apply Kd.V_drew)); exact Kd.V_mono HO167.out (fun _ hk => ⟨hk.1.1, ⟨hk.2, hk.1.2⟩⟩)), yy52, (by (with_reducible repeat (first | apply Kd.R_alloc | apply Kd.R_drewN | apply Kd.R_drew)); exact Kd.R_mono HO173.out (fun _ hk => ⟨hk.1.1, ⟨hk.2, hk.1.2⟩⟩)), (by (with_reducible repeat (first | apply Kd.V_alloc | apply Kd.V_drewN | apply Kd.V_drew)); exact Kd.V_mono HO181.out (fun _ hk => ⟨hk.1.1, ⟨hk.2, hk.1.2⟩⟩)), yy44, yy8, yy1⟩)
         rintro ⟨v161, v169, v172⟩ w45 ⟨h0_, h1_, h2_, h3_, h4_, h5_, h6_⟩
         have n0_ : Aside0 (Kd.V (Kd.int .i64) 3 w45 w0.heap.size (fun k_ => (P0_ k_ ∨ w.heap.size ≤ k_) ∧ some k_ ≠ (v169 : Value).ownBlock ∧ some k_ ≠ (v172 : Value).ownBlock) (.slice Ao36 y163.length co36) y163) := ⟨h0_⟩
         have n1_ : Aside0 (Kd.R (Kd.int .i64) 3 w45 w0.heap.size (fun k_ => (P0_ k_ ∨ w.heap.size ≤ k_) ∧ some k_ ≠ (v172 : Value).ownBlock ∧ some k_ ≠ (.slice Ao36 l0.length co36 : Value).ownBlock) v169 y168) := ⟨h1_⟩
         have n2_ : Aside0 (Kd.R (Kd.int .i64) 3 w45 w0.heap.size (fun k_ => (P0_ k_ ∨ w.heap.size ≤ k_) ∧ some k_ ≠ (v169 : Value).ownBlock ∧ some k_ ≠ (.slice Ao36 l0.length co36 : Value).ownBlock) v172 y171) := ⟨h2_⟩
         have n3_ : Aside0 (Kd.V (Kd.int .i64) 3 w45 w0.heap.size (fun k_ => (P0_ k_ ∨ w.heap.size ≤ k_) ∧ some k_ ≠ (v169 : Value).ownBlock ∧ some k_ ≠ (v172 : Value).ownBlock) (.slice A39 y177.length c39) y177) := ⟨h3_⟩
         have n4_ : Aside0 (Kd.R (Kd.int .i64) 3 w45 w0.heap.size (fun k_ => (P0_ k_ ∨ w.heap.size ≤ k_) ∧ some k_ ≠ (v169 : Value).ownBlock ∧ some k_ ≠ (v172 : Value).ownBlock) (.slice Ao36 l0.length co36) l0) := ⟨h4_⟩
         have n5_ : Aside0 (Kept w w45 (fun k_ => P0_ k_)) := ⟨h5_⟩
         have n6_ : Aside0 (Below w0.heap.size w0 w45) := ⟨h6_⟩
         clear HO_0 HK HB h0_ h1_ h2_ h3_ h4_ h5_ h6_
         have HO167 := n0_
         have HO170 := n1_
         have HO173 := n2_
         have HO181 := n3_
         have HO_0 := n4_
         have HK := n5_
         have HB := n6_
         clear n0_ n1_ n2_ n3_ n4_ n5_ n6_
         have hHeld := trivial
         obtain ⟨Ao47, co47, eo47⟩ := Kd.R_slice HO173.out
         (first | subst eo47 | (injection eo47 with f1_ f2_ f3_; have f4_ := f1_.symm; have f5_ := f3_.symm; clear f1_ f2_ f3_; subst f4_; subst f5_))
         refine norm_ (a' := ?_) ?_ ?_
         rotate_left
         ·simp only [putAll, Act.put, List.setIfInBounds_toArray, List.set_cons_zero, List.set_cons_succ]
          rfl
         refine one_ (i := 7) (N := some 40) bYtoadgikbbigdlaaPaAx4_13 rfl rfl (one_of HT_.out (by kernel_rfl)) (by decide) (fun K hK => ?_)
         refine Kd.R_append_rows_step (Kd.int .i64) (w0 := w0) w0.heap.size (by rfl) (.tmp 37) (.tmp 39) 26 3 (.int .i64 0) 8 rfl Try.underlying26 info3 rfl (by decide) (by omega) v169 y168 y171 _ _ _ (fun k_ => (P0_ k_ ∨ w.heap.size ≤ k_) ∧ some k_ ≠ (.slice Ao36 l0.length co36 : Value).ownBlock ∧ some k_ ≠ (.slice Ao47 y171.length co47 : Value).ownBlock) (fun _ => False) rfl rfl ?aO ?aR (fun _ _ h => h) (fun _ h => h.elim) ?aF ?aB ?aS ?aL ?_
         (case aR => repeat (first | exact (Kd.R_reads' HO173.out).2.2 | (with_reducible refine Kd.C_alloc ?_ _) | (with_reducible refine Kd.C_drewN ?_ _) | (with_reducible refine Kd.C_drew ?_)))
         (case aB => exact yy1)
         (case aF => exact (fun k_ hk => ⟨(.inr (Nat.le_trans yy6 hk)), Kd.fresh' (Kd.R_lt yy5) k_ hk, Kd.fresh' (Kd.R_lt yy33) k_ hk⟩))
         (case aO => exact yy52)
         (case aS => exact (below_size yy1))
         (case aL => have := LMc32.out; omega)
         intro v175 w46 ho hb hg hat
         rw [← Ny174.out] at ho
         have n0_ := Aside0.mk (Kd.R_after (ok := (fun k_ => (P0_ k_ ∨ w.heap.size ≤ k_) ∧ some k_ ≠ (.slice Ao47 y171.length co47 : Value).ownBlock)) (by (with_reducible repeat (first | apply Kd.R_alloc | apply Kd.R_drewN | apply Kd.R_drew)); exact Kd.R_mono HO_0.out (fun _ hk => ⟨⟨hk.1, hk.2.2⟩, hk.2.1⟩)) hg hat)
         have n1_ := Aside0.mk (Kd.V_afterv (ok := (fun k_ => (P0_ k_ ∨ w.heap.size ≤ k_) ∧ some k_ ≠ (.slice Ao47 y171.length co47 : Value).ownBlock)) (by (with_reducible repeat (first | apply Kd.V_alloc | apply Kd.V_drewN | apply Kd.V_drew)); exact Kd.V_mono HO167.out (fun _ hk => ⟨⟨hk.1, hk.2.2⟩, hk.2.1⟩)) hg hat)
         have n2_ := Aside0.mk (Kd.V_afterv (ok := (fun k_ => (P0_ k_ ∨ w.heap.size ≤ k_) ∧ some k_ ≠ (.slice Ao47 y171.length co47 : Value).ownBlock)) (by (with_reducible repeat (first | apply Kd.V_alloc | apply Kd.V_drewN | apply Kd.V_drew)); exact Kd.V_mono HO181.out (fun _ hk => ⟨⟨hk.1, hk.2.2⟩, hk.2.1⟩)) hg hat)
         have n3_ := Aside0.mk (Kd.R_after (ok := (fun k_ => (P0_ k_ ∨ w.heap.size ≤ k_) ∧ some k_ ≠ (.slice Ao36 l0.length co36 : Value).ownBlock)) (by (with_reducible repeat (first | apply Kd.R_alloc | apply Kd.R_drewN | apply Kd.R_drew)); exact Kd.R_mono HO173.out (fun _ hk => ⟨⟨hk.1, hk.2.2⟩, hk.2.1⟩)) hg hat)
         have n4_ := Aside0.mk (hb)
         have n5_ := Aside0.mk (Kept.of_grown (S := (fun k_ => P0_ k_)) hg yy8 (fun k_ e_ => (HO170.out.1 k_ e_).1))
         have n6_ := Aside0.mk (ho)
         clear HO_0 HO167 HO181 HO173 HB HK HO170
         have HO_0 := n0_
         have HO167 := n1_
         have HO181 := n2_
         have HO173 := n3_
         have HB := n4_
         have HK := n5_
         have HO176 := n6_
         clear n0_ n1_ n2_ n3_ n4_ n5_ n6_ ho hb hg hat
         refine hK.out _ _ trivial (fun hHeld => ?_)
         clear hK K
         refine no_ 40 ?_
         refine one_ (i := 11) (N := some 44) bYtoadgikbbigdlaaPaAx4_14 rfl rfl (one_of HT_.out (by kernel_rfl)) (by decide) (fun K hK => ?_)
         refine Kd.R_append_rows_step (Kd.int .i64) (w0 := w0) w0.heap.size (by rfl) (.tmp 40) (.tmp 43) 26 3 (.int .i64 0) 8 rfl Try.underlying26 info3 rfl (by decide) (by omega) v175 y174 y177 _ _ _ (fun k_ => (P0_ k_ ∨ w.heap.size ≤ k_) ∧ some k_ ≠ (.slice Ao36 l0.length co36 : Value).ownBlock ∧ some k_ ≠ (.slice Ao47 y171.length co47 : Value).ownBlock) (fun _ => False) rfl rfl ?aO ?aR (fun _ _ h => h) (fun _ h => h.elim) ?aF ?aB ?aS ?aL ?_
         (case aR => repeat (first | exact (Kd.V_reads' HO181.out).2.2 | (with_reducible refine Kd.C_alloc ?_ _) | (with_reducible refine Kd.C_drewN ?_ _) | (with_reducible refine Kd.C_drew ?_)))
         (case aB => exact yy1)
         (case aF => exact (fun k_ hk => ⟨(.inr (Nat.le_trans yy6 hk)), Kd.fresh' (Kd.R_lt yy5) k_ hk, Kd.fresh' (Kd.R_lt yy33) k_ hk⟩))
         (case aO => exact (by (with_reducible repeat (first | apply Kd.R_alloc | apply Kd.R_drewN | apply Kd.R_drew)); exact HO176.out))
         (case aS => exact (below_size yy1))
         (case aL => have := LMc35.out; omega)
         intro v183 w48 ho hb hg hat
         rw [← Ny182.out] at ho
         have n0_ := Aside0.mk (Kd.R_after (ok := (fun k_ => (P0_ k_ ∨ w.heap.size ≤ k_) ∧ some k_ ≠ (.slice Ao47 y171.length co47 : Value).ownBlock)) yy5 hg hat)
         have n1_ := Aside0.mk (Kd.V_afterv (ok := (fun k_ => (P0_ k_ ∨ w.heap.size ≤ k_) ∧ some k_ ≠ (.slice Ao47 y171.length co47 : Value).ownBlock)) yy27 hg hat)
         have n2_ := Aside0.mk (Kd.V_afterv (ok := (fun k_ => (P0_ k_ ∨ w.heap.size ≤ k_) ∧ some k_ ≠ (.slice Ao47 y171.length co47 : Value).ownBlock)) yy28 hg hat)
         have n3_ := Aside0.mk (Kd.R_after (ok := (fun k_ => (P0_ k_ ∨ w.heap.size ≤ k_) ∧ some k_ ≠ (.slice Ao36 l0.length co36 : Value).ownBlock)) yy33 hg hat)
         have n4_ := Aside0.mk (hb)
         have n5_ := Aside0.mk (Kept.of_grown (S := (fun k_ => P0_ k_)) hg yy8 (fun k_ e_ => (HO176.out.1 k_ e_).1))
         have n6_ := Aside0.mk (ho)
         clear HO_0 HO167 HO181 HO173 HB HK HO176
         have HO_0 := n0_
         have HO167 := n1_
         have HO181 := n2_
         have HO173 := n3_
         have HB := n4_
         have HK := n5_
         have HO184 := n6_
         clear n0_ n1_ n2_ n3_ n4_ n5_ n6_ ho hb hg hat
         refine hK.out _ _ trivial (fun hHeld => ?_)
         clear hK K
         refine no_ 44 ?_
         refine pu_ 12 4 bYtoadgikbbigdlaaPaAx4_15 ?_
         refine done_ (done_of HT_.out (by kernel_rfl)) ?_
         try go_wp2
         go_ret
         exact ⟨_, by first | rfl | (simp [errW_none, errW_some] <;> rfl) | (simp [*, errW_none, errW_some] <;> rfl), by (with_reducible repeat (first | apply Kd.R_alloc | apply Kd.R_drewN | apply Kd.R_drew)); exact Kd.R_mono HO184.out (fun _ hk => hk.1), by repeat (first | (with_reducible first | exact HB.out | apply below_alloc | apply pw_below_drewN | apply below_drew1) | exact HB.out), by repeat (first | (with_reducible first | exact HK.out | apply Kept.alloc | apply Kept.drewN | apply Kept.drew) | exact HK.out)⟩
        ·rw [if_neg c35] at H
         exact absurd H (by simp)
       ·rw [if_neg c32] at H
        exact absurd H (by simp)
      ·rw [if_neg c31] at H
       exact absurd H (by simp)
     ·rw [if_neg c30] at H
      exact absurd H (by simp)
    ·rw [if_neg c29] at H
     exact absurd H (by simp)
end Go.Proofs.Ytoadgikbbigdlaa.A
