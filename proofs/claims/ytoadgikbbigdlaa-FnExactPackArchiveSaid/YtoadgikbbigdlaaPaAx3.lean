import Derived.Test.YtoadgikbbigdlaaPaWAb
import Derived.Test.YtoadgikbbigdlaaPaAx0
import Derived.Test.YtoadgikbbigdlaaPaAx2
namespace Go.Proofs.Ytoadgikbbigdlaa.A
open Go.RowKit Go.Proofs.YtoadgikbbigdlaaW.PrintWords Go.Proofs.YtoadgikbbigdlaaW.PrintLast Go.Proofs.YtoadgikbbigdlaaW.PrintMore
attribute [local go_sem] max2_int min2_int max_two min_two max_three min_three max_four min_four   -- for this text's walks alone
set_option linter.unusedVariables false
set_option linter.unusedSimpArgs false
def markI : List Int → Int → List Int × Int
 | [], k => ([], k)
 | _ :: t, k => (k :: (markI t (wrap64 (k + 1))).1, (markI t (wrap64 (k + 1))).2)
theorem markI_length : ∀ (l : List Int) (k : Int), (markI l k).1.length = l.length
 | [], _ => rfl
 | _ :: t, k => by simp [markI, markI_length t]
theorem markI_loop (d : Nat) : ∀ (n : Nat) (l : List Int) (k i : Int), 0 ≤ i → (l.length : Int) - i = d → l.length ≤ 9223372036854775807 → d < n →
  laws_markIntS.l0 n l k i = some ((markI (l.drop i.toNat) k).2, l.take i.toNat ++ (markI (l.drop i.toNat) k).1) := by
 induction d with
 | zero =>
  intro n l k i h0 h1 hm hn
  obtain ⟨n, rfl⟩ : ∃ m, n = m + 1 := ⟨n - 1, by omega⟩
  have hi : i.toNat = l.length := by omega
  simp only [laws_markIntS.l0]
  rw [if_neg (by omega), hi, List.drop_length, List.take_length]
  simp [markI]
 | succ d ih =>
  intro n l k i h0 h1 hm hn
  obtain ⟨n, rfl⟩ : ∃ m, n = m + 1 := ⟨n - 1, by omega⟩
  have hi : i.toNat < l.length := by omega
  have hw : wrap64 (i + 1) = i + 1 := by unfold wrap64; omega
  simp only [laws_markIntS.l0]
  rw [if_pos (by omega), if_pos h0, hw, ih n (l.set i.toNat k) _ (i + 1) (by omega) (by simp; omega) (by simpa using hm) (by omega)]
  rw [show (i + 1).toNat = i.toNat + 1 from by omega, List.drop_eq_getElem_cons hi]
  have h1 : (l.set i.toNat k).drop (i.toNat + 1) = l.drop (i.toNat + 1) := by
   rw [List.drop_set_of_lt (by omega)]
  have h2 : (l.set i.toNat k).take (i.toNat + 1) = l.take i.toNat ++ [k] := by
   rw [List.take_succ_eq_append_getElem (by simpa using hi), List.take_set_of_le (Nat.le_refl _)]
   simp
  rw [h1, h2]
  simp [markI]
theorem markI_f (l : List Int) (k : Int) (hm : l.length ≤ 9223372036854775807) : laws_markIntS.f (l.length + 1) l k = some ((markI l k).2, (markI l k).1) := by
 unfold laws_markIntS.f
 rw [markI_loop l.length (l.length + 1) l k 0 (by omega) (by omega) hm (by omega)]
 simp
def Iv (lo hi k : Nat) : Prop := lo ≤ k ∧ k < hi
theorem iv_off {a b c d k : Nat} (h : b ≤ c) (h1 : Iv a b k) (h2 : Iv c d k) : False := by
 unfold Iv at h1 h2
 omega
section
variable {α β : Type} {d : Kd α} {d' : Kd β} {e e' b b' : Nat} {w W W1 : World} {ok ok' P : Nat → Prop} {u v : Value} {xs ys : List α} {zs : List β}
theorem iv_R (hle : w.heap.size ≤ W.heap.size) (hb : Below W.heap.size W W1) (h : d.R e W1 W.heap.size ok v xs) : d.R e W1 w.heap.size (fun k => Iv W.heap.size W1.heap.size k ∧ True) v xs :=
 Kd.R_lower (Kd.R_mono (Kd.R_bound h) (fun _ hk => ⟨⟨hk.2.1, hk.2.2.1⟩, trivial⟩)) hle
theorem iv_S (hle : w.heap.size ≤ W.heap.size) (hb : Below W.heap.size W W1) (h : Kd.S d e W1 W.heap.size ok v xs) : Kd.S d e W1 w.heap.size (fun k => Iv W.heap.size W1.heap.size k ∧ True) v xs :=
 Kd.S_lower (Kd.S_mono (Kd.S_bound h) (fun _ hk => ⟨⟨hk.2.1, hk.2.2.1⟩, trivial⟩)) hle
theorem iv_N (hle : w.heap.size ≤ W.heap.size) (hb : Below W.heap.size W W1) (h : Kd.N d e W1 W.heap.size ok v xs) (hok : ∀ k, ok k → W.heap.size ≤ k) : Kd.N d e W1 w.heap.size (fun k => Iv W.heap.size W1.heap.size k ∧ True) v xs :=
 Kd.N_lower (Kd.N_mono (Kd.N_bound h) (fun k hk => ⟨⟨hok k hk.1, hk.2⟩, trivial⟩)) hle
theorem again_R (hE : d.E = []) (h : d.R e W b P v xs) (h' : d.R e W1 b' ok v ys) : d.R e W1 b' P v ys := Kd.R_reok hE h' (fun k hk => h.1 k hk)
theorem again_S (_h : Kd.S d e W b P v xs) (h' : Kd.S d e W1 b' P v ys) : Kd.S d e W1 b' P v ys := h'
end
def markB : List S62 → Int → List S62 × Int
 | [], k => ([], k)
 | x :: t, k => (⟨k, (markI x.f1 (wrap64 (k + 1))).1⟩ :: (markB t (markI x.f1 (wrap64 (k + 1))).2).1, (markB t (markI x.f1 (wrap64 (k + 1))).2).2)
theorem markB_length : ∀ (l : List S62) (k : Int), (markB l k).1.length = l.length
 | [], _ => rfl
 | x :: t, k => by simp [markB, markB_length t]
theorem markB_snoc : ∀ (l : List S62) (x : S62) (k : Int),
  markB (l ++ [x]) k = ((markB l k).1 ++ [⟨(markB l k).2, (markI x.f1 (wrap64 ((markB l k).2 + 1))).1⟩], (markI x.f1 (wrap64 ((markB l k).2 + 1))).2)
 | [], x, k => rfl
 | y :: t, x, k => by simp [markB, markB_snoc t x]
theorem markB_take (l : List S62) (a : Int) (k : Nat) (h : k < l.length) :
  markB (l.take (k + 1)) a = ((markB (l.take k) a).1 ++ [⟨(markB (l.take k) a).2, (markI l[k].f1 (wrap64 ((markB (l.take k) a).2 + 1))).1⟩], (markI l[k].f1 (wrap64 ((markB (l.take k) a).2 + 1))).2) := by
 rw [List.take_succ_eq_append_getElem h, markB_snoc]
set_option maxHeartbeats 4000000 in
set_option maxRecDepth 100000 in
theorem laws_markArchiveBoxS.walk (P0_ : Nat → Prop) (u : Value) (l0 : List S62) (a1 : Int) (w0 w : World) (hB : Below w0.heap.size w0 w) (ho0 : Kd.S k62 62 w w0.heap.size P0_ u l0) :
  Calls Try.prog 17 #[u, .int .i64 a1] w fun e w' => e = .returned (.int .i64 (markB l0 a1).2) ∧ Kd.S k62 62 w' w0.heap.size P0_ u (markB l0 a1).1 ∧ Below w0.heap.size w0 w' ∧ Kept w w' P0_ := by
 have hu := Try.underlying62
 obtain ⟨A, c, rfl⟩ := Kd.S_slice ho0
 have HM := Aside0.mk (Kd.C_max (Kd.S_reads' ho0).2.2)
 have HO := Aside0.mk ho0
 have HB := Aside0.mk hB
 clear ho0 hB
 go_enter Try.func17, Try.ntmps17
 go_wp2
 go_loopg [1, 5] l0.length (fun gg s1 s5 wr => ∃ kk : Nat, kk ≤ l0.length ∧ l0.length - kk ≤ gg ∧ s5 = .int .i64 kk ∧ s1 = .int .i64 (markB (l0.take kk) a1).2 ∧
  Aside0 (Kd.S k62 62 wr w0.heap.size P0_ (.slice A l0.length c) ((markB (l0.take kk) a1).1 ++ l0.drop kk)) ∧ Aside0 (Below w0.heap.size w0 wr) ∧ Aside0 (Kept w wr P0_))
 case atStart => exact ⟨0, Nat.zero_le _, by omega, rfl, rfl, by simpa [markB] using HO, HB, ⟨Kept.refl _ _⟩⟩
 case round =>
  clear HO HB
  obtain ⟨kk, hkk, hg, rfl, rfl, HO, HB, HK⟩ := hrel
  by_cases hlt : kk < l0.length
  ·have hltz : (kk : Int) < (l0.length : Int) := by omega
   have hMx := HM.out
   obtain ⟨m, hm⟩ : ∃ m, (markB (l0.take kk) a1).2 = m := ⟨_, rfl⟩
   have HMm := Aside0.mk hm
   obtain ⟨xs, hxs⟩ : ∃ xs, (markB (l0.take kk) a1).1 ++ l0.drop kk = xs := ⟨_, rfl⟩
   have hxl : xs.length = l0.length := by rw [← hxs]; simp [markB_length]; omega
   have hxk : xs.getD kk z62 = l0[kk] := by
    rw [← hxs, List.getD_eq_getElem?_getD, List.getElem?_append_right (by simp [markB_length]; omega)]
    simp [markB_length, Nat.min_eq_left (Nat.le_of_lt hlt), List.getElem?_eq_getElem hlt]
   have HX := Aside0.mk (show xs.set kk ⟨m, (markI l0[kk].f1 (wrap64 (m + 1))).1⟩ = (markB (l0.take (kk + 1)) a1).1 ++ l0.drop (kk + 1) by
    rw [markB_take l0 a1 kk hlt, hm, ← hxs, List.set_append_right _ _ (by simp [markB_length]; omega)]
    simp only [markB_length, List.length_take, Nat.min_eq_left (Nat.le_of_lt hlt), Nat.sub_self]
    rw [List.drop_eq_getElem_cons hlt, List.set_cons_zero, List.append_assoc]
    rfl)
   have HX2 := Aside0.mk (show (markB (l0.take (kk + 1)) a1).2 = (markI l0[kk].f1 (wrap64 (m + 1))).2 by rw [markB_take l0 a1 kk hlt, hm])
   have HS : Kd.S k62 62 wr w0.heap.size P0_ (.slice A l0.length c) xs := by rw [← hxs]; exact HO.out
   clear HO
   rw [hm]
   clear hm hxs
   obtain ⟨g, cap, hv, hgb, hgl, _⟩ := Kd.S_form HS (by omega)
   injection hv with hA hlen hc
   clear hlen
   subst hA
   subst hc
   have hgP : P0_ g := by obtain ⟨f, h0, _⟩ := HS; exact h0 g rfl
   obtain ⟨oki, cc, hcl, hM, hcc, hfr, hoki, hH⟩ := Kd.S_elem HS z62 (kk : Int) (by omega) (by omega)
   rw [show ((kk : Int)).toNat = kk from rfl, hxk] at hM
   simp only [Int.toNat_natCast] at hcc hfr
   obtain ⟨v1, rfl, hR⟩ := k62_openM hM
   obtain ⟨A1, c1, rfl⟩ := Kd.R_slice hR
   have f0 := hcc 0 _ rfl
   have f1 := hcc 1 _ rfl
   have z0 := hfr 0
   have hS1 := Kd.S_seg0 hH (by omega) (by omega) (seg := [.int .i64 m]) (j := 0) (by show 0 + 1 ≤ 2; omega) (x' := ⟨m, l0[kk].f1⟩) (okp := oki) (k62_mkM wr w0.heap.size oki ⟨m, l0[kk].f1⟩ hR) (fun _ hk => hk)
   have hS2 : Kd.S k62 62 (wr.setCell ⟨g, kk * 2, none⟩ (.int .i64 m)) w0.heap.size P0_ (.slice (some ⟨g, 0, none⟩) l0.length c) (xs.set kk ⟨m, l0[kk].f1⟩) := hS1.1
   have hx2 : (xs.set kk ⟨m, l0[kk].f1⟩).getD kk z62 = ⟨m, l0[kk].f1⟩ := by
    rw [List.getD_eq_getElem?_getD, List.getElem?_set_self (by omega)]
    rfl
   obtain ⟨oki2, cc2, hcl2, hM2, hcc2, hfr2, hoki2, hH2⟩ := Kd.S_elem hS2 z62 (kk : Int) (by omega) (by omega)
   rw [show ((kk : Int)).toNat = kk from rfl, hx2] at hM2
   simp only [Int.toNat_natCast] at hcc2
   obtain ⟨v2, rfl, hR2⟩ := k62_openM hM2
   have hv2 : v2 = .slice A1 l0[kk].f1.length c1 := by
    have a : (wr.setCell ⟨g, kk * 2, none⟩ (.int .i64 m)).cell? ⟨g, kk * 2 + 1, none⟩ = some v2 := hcc2 1 _ rfl
    have b : (wr.setCell ⟨g, kk * 2, none⟩ (.int .i64 m)).cell? ⟨g, kk * 2 + 1, none⟩ = some (.slice A1 l0[kk].f1.length c1) :=
     (World.cell?_setCell_other (w := wr) (a := ⟨g, kk * 2, none⟩) (b := ⟨g, kk * 2 + 1, none⟩) (v := .int .i64 m) (by intro e; injection e with _ e2 _; omega)).trans f1
    exact Option.some.inj (a.symm.trans b)
   subst hv2
   have HR := Aside0.mk hR2
   have HH := Aside0.mk hH2
   have HOK := Aside0.mk hoki2
   have HKW := Aside0.mk (Kept.setCell (p := ⟨g, kk * 2, none⟩) HK.out (.inl hgP) (.int .i64 m))
   have HBW := Aside0.mk (HB.out.setCell (p := ⟨g, kk * 2, none⟩) hgb (.int .i64 m))
   have HLN := Aside0.mk (Kd.C_max (Kd.R_reads' hR2).2.2)
   simp only [show k62.sz = 2 from rfl, Nat.add_zero] at f0 f1 z0
   clear hxl hgP hS1 hH hM hcc hfr hR HS hoki hcl hxk hS2 hx2 hM2 hcc2 hfr2 hoki2 hH2 hR2 hcl2 HK HB
   go_wp2_with (go_at_call 18; refine (laws_markIntS.calls (l0[kk].f1.length + 1) oki2 _ l0[kk].f1 (wrap64 (m + 1)) _ _ w0 _ HBW.out HR.out (markI_f _ _ HLN.out)).mono ?_; rintro e w2 ⟨rfl, hR3, hB3, hK3⟩)
   go_roundg (l0.length - (kk + 1))
   case measure => omega
   case rel =>
    refine ⟨kk + 1, by omega, by omega, by go_num, by rw [HX2.out], ⟨?_⟩, ⟨hB3⟩, ⟨HKW.out.then_ hK3 (fun k hk => .inl (HOK.out k hk).1)⟩⟩
    rw [← HX.out]
    have hH3 := Kd.H_step HH.out (w1 := w2) (fun k _ hn hlt => hK3.2 k hlt hn)
    have hM3 := k62_mkM w2 w0.heap.size oki2 ⟨m, (markI l0[kk].f1 (wrap64 (m + 1))).1⟩ (Kd.R_reok (ok := oki2) rfl hR3 (fun k hk => HR.out.1 k hk))
    have := Kd.H_back hH3 hM3 (fun _ hk => hk)
    rw [show ((kk : Int)).toNat = kk from rfl, List.set_set] at this
    exact this
  ·have hltz : ¬ (kk : Int) < (l0.length : Int) := by omega
   have hk : kk = l0.length := by omega
   subst hk
   have hMx := HM.out
   rw [List.take_length]
   rw [List.take_length, List.drop_length, List.append_nil] at HO
   go_wp2
   go_ret
   exact ⟨rfl, HO.out, HB.out, HK.out⟩
def laws_markArchiveBoxS.f (l0 : List S62) (a1 : Int) : Option (Int × List S62) := some ((markB l0 a1).2, (markB l0 a1).1)
theorem laws_markArchiveBoxS.calls (P0_ : Nat → Prop) (u9000_ : Value) (l0 : List S62) (a1 : Int) (r1 : Int) (r2 : List S62) (w0 w : World) (hB : Below w0.heap.size w0 w) (ho0 : Kd.S k62 62 w w0.heap.size P0_ u9000_ l0) (h : laws_markArchiveBoxS.f l0 a1 = some (r1, r2)) :
  Calls Try.prog 17 #[u9000_, .int .i64 a1] w fun e w' => e = .returned (.int .i64 r1) ∧ Kd.S k62 62 w' w0.heap.size P0_ u9000_ r2 ∧ Below w0.heap.size w0 w' ∧ Kept w w' (fun k_ => P0_ k_) := by
 unfold laws_markArchiveBoxS.f at h
 simp only [Option.some.injEq, Prod.mk.injEq] at h
 obtain ⟨rfl, rfl⟩ := h
 exact laws_markArchiveBoxS.walk P0_ u9000_ l0 a1 w0 w hB ho0
def laws_heldIntS.l0 : Nat → List Int → Int → Int → Option (Int)
 | 0, _, _, _ => none
 | k + 1, x0, x1, x5 => if x5 < (x0.length : Int) then (if 0 ≤ x5 then (if (rd x0 x5) = x1 then (laws_heldIntS.l0 k x0 (wrap64 (x1 + 1)) (wrap64 (x5 + 1))) else (some (-1))) else (none)) else (some x1)
def laws_heldIntS.f (k : Nat) (l0 : List Int) (a1 : Int) : Option (Int) := laws_heldIntS.l0 k l0 a1 0
theorem laws_heldIntS.mono_l : ∀ k, (∀ y0 y1 y2, LeO (laws_heldIntS.l0 k y0 y1 y2) (laws_heldIntS.l0 (k + 1) y0 y1 y2))
 | 0 => fun _ _ _ r h => by simp [laws_heldIntS.l0] at h
 | k + 1 => by
  have ih0 := laws_heldIntS.mono_l k
  ·intro y0 y1 y2
   unfold laws_heldIntS.l0
   repeat' first
   | (with_reducible exact ih0 _ _ _)
   | (with_reducible exact LeO.refl _)
   | (with_reducible exact LeO.none _)
   | (with_reducible refine LeO.ite ?_ ?_)
   | (with_reducible refine LeO.bind ?_ (fun _ => ?_))
   | exact ih0 _ _ _
   | exact LeO.none _
   | refine LeO.ite ?_ ?_
   | refine LeO.bind ?_ (fun _ => ?_)
theorem laws_heldIntS.mono : ∀ a0 a1 k, LeO (laws_heldIntS.f k a0 a1) (laws_heldIntS.f (k + 1) a0 a1) := by
 intro a0 a1 k
 have ih0 := laws_heldIntS.mono_l k
 unfold laws_heldIntS.f
 repeat' first
   | (with_reducible exact ih0 _ _ _)
   | (with_reducible exact LeO.refl _)
   | (with_reducible exact LeO.none _)
   | (with_reducible refine LeO.ite ?_ ?_)
   | (with_reducible refine LeO.bind ?_ (fun _ => ?_))
   | exact ih0 _ _ _
   | exact LeO.none _
   | refine LeO.ite ?_ ?_
   | refine LeO.bind ?_ (fun _ => ?_)
set_option maxHeartbeats 8000000 in
set_option maxRecDepth 100000 in
theorem laws_heldIntS.calls (k : Nat) (A0 : Option Addr) (c0 : Nat) (l0 : List Int) (a1 : Int) (r : Int) (w : World) (hr0 : Kd.C (Kd.int .i64) w A0 l0.length l0) (hc0 : l0.length ≤ c0) (h : laws_heldIntS.f k l0 a1 = some r) :
  Calls Try.prog 19 #[.slice A0 l0.length c0, .int .i64 a1] w fun e w' => e = .returned (.int .i64 r) ∧ Drawn0 w w' := by
 have HR0 := Aside0.mk hr0
 have HC0 := Aside0.mk hc0
 clear hr0 hc0
 have H : (laws_heldIntS.l0 k l0 a1 0) = some r := h
 clear h
 have H' := Aside0.mk H
 clear H
 go_enter Try.func19, Try.ntmps19
 go_wp2
 go_loopg [1, 5] k (fun kq v1 v5 w' => ∃ (x1_1 : Int) (x5_1 : Int), v1 = .int .i64 x1_1 ∧ v5 = .int .i64 x5_1 ∧ Aside0 (laws_heldIntS.l0 kq l0 x1_1 x5_1 = some r) ∧ Aside0 (kq ≤ k) ∧ Drawn0 w w')
 case atStart => exact ⟨(a1), (0), yy11, yy11, H', ⟨Nat.le_refl _⟩, by repeat (first | exact Drawn0.refl _ | apply Drawn0.step)⟩
 case round =>
  clear H'
  try clear c1
  try clear p2
  obtain ⟨x1_1, x5_1, rfl, rfl, HA, HK1, ⟨m1, rfl⟩⟩ := hrel
  cases gk with
  | zero => exact absurd HA.out (by simp [laws_heldIntS.l0])
  | succ k1 =>
   have H := HA.out
   clear HA
   simp only [laws_heldIntS.l0] at H
   by_cases c3 : x5_1 < (l0.length : Int)
   ·rw [if_pos c3] at H
    have c3b0 : decide (x5_1 < (l0.length : Int)) = true := decide_eq_true c3
    clear c3
    by_cases c4 : 0 ≤ x5_1
    ·rw [if_pos c4] at H
     have c4b0 : decide (0 ≤ x5_1) = true := decide_eq_true c4
     clear c4
     by_cases c5 : (rd l0 x5_1) = x1_1
     ·rw [if_pos c5] at H
      have c5b0 : ((rd l0 x5_1) == x1_1) = true := beq_iff_eq.mpr c5
      have c5b1 : ((rd l0 x5_1) != x1_1) = false := bne_eq_false_iff_eq.mpr c5
      clear c5
      have H' := Aside0.mk H
      clear H
      have p129 : 0 ≤ (x5_1 : Int) := of_decide_eq_true yy2
      have q129 : x5_1 < (l0.length : Int) := of_decide_eq_true yy2
      obtain ⟨ad129, e129, hx129_0⟩ := Kd.at_int HR0.out x5_1 p129 q129
      cases e129
      replace p129 := eq_true p129
      replace q129 := eq_true q129
      go_wp2
      go_roundg k1
      case measure => have := HK1.out; omega
      case rel => exact ⟨(wrap64 (x1_1 + 1)), (wrap64 (x5_1 + 1)), yy11, yy11, H', ⟨by have := HK1.out; omega⟩, by repeat (first | exact Drawn0.refl _ | apply Drawn0.step)⟩
     ·rw [if_neg c5] at H
      have c5b0 : ((rd l0 x5_1) == x1_1) = false := beq_eq_false_iff_ne.mpr c5
      have c5b1 : ((rd l0 x5_1) != x1_1) = true := bne_iff_ne.mpr c5
      obtain rfl := Option.some.inj H
      have p129 : 0 ≤ (x5_1 : Int) := of_decide_eq_true yy2
      have q129 : x5_1 < (l0.length : Int) := of_decide_eq_true yy2
      obtain ⟨ad129, e129, hx129_0⟩ := Kd.at_int HR0.out x5_1 p129 q129
      cases e129
      replace p129 := eq_true p129
      replace q129 := eq_true q129
      go_wp2
      go_ret
      exact ⟨by first | rfl | (simp; done) | (simp [*]; done), by repeat (first | exact Drawn0.refl _ | apply Drawn0.step)⟩
    ·rw [if_neg c4] at H
     exact absurd H (by simp)
   ·rw [if_neg c3] at H
    have c3b0 : decide (x5_1 < (l0.length : Int)) = false := decide_eq_false c3
    clear c3
    obtain rfl := Option.some.inj H
    go_wp2
    go_ret
    exact ⟨by first | rfl | (simp; done) | (simp [*]; done), by repeat (first | exact Drawn0.refl _ | apply Drawn0.step)⟩
def laws_heldArchiveBoxS.l0 : Nat → List (S62) → Int → Int → Option (Int)
 | 0, _, _, _ => none
 | k + 1, x0, x1, x5 => if x5 < (x0.length : Int) then (if 0 ≤ x5 then (if ((rd_T62 x0 x5).f0) = x1 then ((laws_heldIntS.f k ((rd_T62 x0 x5).f1) (wrap64 (x1 + 1))).bind fun t132 => (if t132 < 0 then (some (-1)) else (laws_heldArchiveBoxS.l0 k x0 t132 (wrap64 (x5 + 1))))) else (some (-1))) else (none)) else (some x1)
def laws_heldArchiveBoxS.f (k : Nat) (l0 : List (S62)) (a1 : Int) : Option (Int) := laws_heldArchiveBoxS.l0 k l0 a1 0
theorem laws_heldArchiveBoxS.mono_l : ∀ k, (∀ y0 y1 y2, LeO (laws_heldArchiveBoxS.l0 k y0 y1 y2) (laws_heldArchiveBoxS.l0 (k + 1) y0 y1 y2))
 | 0 => fun _ _ _ r h => by simp [laws_heldArchiveBoxS.l0] at h
 | k + 1 => by
  have ih0 := laws_heldArchiveBoxS.mono_l k
  ·intro y0 y1 y2
   unfold laws_heldArchiveBoxS.l0
   repeat' first
   | (with_reducible exact ih0 _ _ _)
   | (with_reducible exact laws_heldIntS.mono _ _ _)
   | (with_reducible exact LeO.refl _)
   | (with_reducible exact LeO.none _)
   | (with_reducible refine LeO.ite ?_ ?_)
   | (with_reducible refine LeO.bind ?_ (fun _ => ?_))
   | exact ih0 _ _ _
   | exact laws_heldIntS.mono _ _ _
   | exact LeO.none _
   | refine LeO.ite ?_ ?_
   | refine LeO.bind ?_ (fun _ => ?_)
theorem laws_heldArchiveBoxS.mono : ∀ a0 a1 k, LeO (laws_heldArchiveBoxS.f k a0 a1) (laws_heldArchiveBoxS.f (k + 1) a0 a1) := by
 intro a0 a1 k
 have ih0 := laws_heldArchiveBoxS.mono_l k
 unfold laws_heldArchiveBoxS.f
 repeat' first
   | (with_reducible exact ih0 _ _ _)
   | (with_reducible exact laws_heldIntS.mono _ _ _)
   | (with_reducible exact LeO.refl _)
   | (with_reducible exact LeO.none _)
   | (with_reducible refine LeO.ite ?_ ?_)
   | (with_reducible refine LeO.bind ?_ (fun _ => ?_))
   | exact ih0 _ _ _
   | exact laws_heldIntS.mono _ _ _
   | exact LeO.none _
   | refine LeO.ite ?_ ?_
   | refine LeO.bind ?_ (fun _ => ?_)
set_option maxHeartbeats 8000000 in
set_option maxRecDepth 100000 in
theorem laws_heldArchiveBoxS.calls (k : Nat) (A0 : Option Addr) (c0 : Nat) (l0 : List (S62)) (a1 : Int) (r : Int) (w : World) (hr0 : Kd.C k62 w A0 l0.length l0) (hc0 : l0.length ≤ c0) (h : laws_heldArchiveBoxS.f k l0 a1 = some r) :
  Calls Try.prog 29 #[.slice A0 l0.length c0, .int .i64 a1] w fun e w' => e = .returned (.int .i64 r) ∧ Drawn0 w w' := by
 have HR0 := Aside0.mk hr0
 have HC0 := Aside0.mk hc0
 clear hr0 hc0
 have H : (laws_heldArchiveBoxS.l0 k l0 a1 0) = some r := h
 clear h
 have H' := Aside0.mk H
 clear H
 go_enter Try.func29, Try.ntmps29
 go_wp2
 go_loopg [1, 5] k (fun kq v1 v5 w' => ∃ (x1_1 : Int) (x5_1 : Int), v1 = .int .i64 x1_1 ∧ v5 = .int .i64 x5_1 ∧ Aside0 (laws_heldArchiveBoxS.l0 kq l0 x1_1 x5_1 = some r) ∧ Aside0 (kq ≤ k) ∧ Drawn0 w w')
 case atStart => exact ⟨(a1), (0), yy11, yy11, H', ⟨Nat.le_refl _⟩, by repeat (first | exact Drawn0.refl _ | apply Drawn0.step)⟩
 case round =>
  clear H'
  try clear c2
  try clear p2
  obtain ⟨x1_1, x5_1, rfl, rfl, HA, HK1, ⟨m1, rfl⟩⟩ := hrel
  cases gk with
  | zero => exact absurd HA.out (by simp [laws_heldArchiveBoxS.l0])
  | succ k1 =>
   have H := HA.out
   clear HA
   simp only [laws_heldArchiveBoxS.l0] at H
   by_cases c3 : x5_1 < (l0.length : Int)
   ·rw [if_pos c3] at H
    have c3b0 : decide (x5_1 < (l0.length : Int)) = true := decide_eq_true c3
    clear c3
    by_cases c4 : 0 ≤ x5_1
    ·rw [if_pos c4] at H
     have c4b0 : decide (0 ≤ x5_1) = true := decide_eq_true c4
     clear c4
     by_cases c5 : ((rd_T62 l0 x5_1).f0) = x1_1
     ·rw [if_pos c5] at H
      have c5b0 : (((rd_T62 l0 x5_1).f0) == x1_1) = true := beq_iff_eq.mpr c5
      have c5b1 : (((rd_T62 l0 x5_1).f0) != x1_1) = false := bne_eq_false_iff_eq.mpr c5
      clear c5
      replace H := Option.bind_eq_some_iff.mp H
      obtain ⟨t132, A60, H⟩ := H
      replace H : (if t132 < 0 then (some (-1)) else (laws_heldArchiveBoxS.l0 k1 l0 t132 (wrap64 (x5_1 + 1)))) = some r := H
      have A6 := Aside0.mk A60
      clear A60
      by_cases c7 : t132 < 0
      ·rw [if_pos c7] at H
       have c7b0 : decide (t132 < 0) = true := decide_eq_true c7
       clear c7
       obtain rfl := Option.some.inj H
       have p130 : 0 ≤ (x5_1 : Int) := of_decide_eq_true yy2
       have q130 : x5_1 < (l0.length : Int) := of_decide_eq_true yy2
       obtain ⟨ad130, A130_1, c130_1, e130, hx130_0, hx130_1, hl130_1, hi130_1⟩ := at_T62 HR0.out x5_1 p130 q130
       cases e130
       have HR130_1 := Aside0.mk hi130_1
       have HC130_1 := Aside0.mk hl130_1
       clear hi130_1 hl130_1
       replace p130 := eq_true p130
       replace q130 := eq_true q130
       have p131 : 0 ≤ (x5_1 : Int) := of_decide_eq_true yy2
       have q131 : x5_1 < (l0.length : Int) := of_decide_eq_true yy2
       obtain ⟨ad131, A131_1, c131_1, e131, hx131_0, hx131_1, hl131_1, hi131_1⟩ := at_T62 HR0.out x5_1 p131 q131
       obtain rfl : ad130 = ad131 := (by injection e131)
       have HR131_1 := Aside0.mk hi131_1
       have HC131_1 := Aside0.mk hl131_1
       clear hi131_1 hl131_1
       replace p131 := eq_true p131
       replace q131 := eq_true q131
       have ea_ := Option.some.inj (hx130_1.symm.trans hx131_1)
       injection ea_ with ea_ en_ ec_
       subst ea_
       subst ec_
       clear en_
       go_wp2_with (first | ((with_reducible refine gate_callee (f := 19) rfl ?_); refine goesL_ (some 27) rfl rfl Try.func19 (by kernel_rfl) rfl #[.slice A130_1 ((rd_T62 l0 x5_1).f1).length c130_1, .int .i64 (wrap64 (x1_1 + 1))] rfl yy3 ?_; (with_reducible refine (laws_heldIntS.calls k1 _ _ ((rd_T62 l0 x5_1).f1) (wrap64 (x1_1 + 1)) t132 _ ?side1 ?side2 A6.out).mono ?_); (case side1 => repeat (first | exact HR131_1.out | (with_reducible refine Kd.C_alloc ?_ _) | (with_reducible refine Kd.C_drewN ?_ _) | (with_reducible refine Kd.C_drew ?_))); (case side2 => exact HC131_1.out); rintro e w' ⟨rfl, ⟨nd, rfl⟩⟩; refine ⟨_, rfl, ?_⟩))
       go_ret
       exact ⟨by first | rfl | (simp; done) | (simp [*]; done), by repeat (first | exact Drawn0.refl _ | apply Drawn0.step)⟩
      ·rw [if_neg c7] at H
       have c7b0 : decide (t132 < 0) = false := decide_eq_false c7
       clear c7
       have H' := Aside0.mk H
       clear H
       have p130 : 0 ≤ (x5_1 : Int) := of_decide_eq_true yy2
       have q130 : x5_1 < (l0.length : Int) := of_decide_eq_true yy2
       obtain ⟨ad130, A130_1, c130_1, e130, hx130_0, hx130_1, hl130_1, hi130_1⟩ := at_T62 HR0.out x5_1 p130 q130
       cases e130
       have HR130_1 := Aside0.mk hi130_1
       have HC130_1 := Aside0.mk hl130_1
       clear hi130_1 hl130_1
       replace p130 := eq_true p130
       replace q130 := eq_true q130
       have p131 : 0 ≤ (x5_1 : Int) := of_decide_eq_true yy2
       have q131 : x5_1 < (l0.length : Int) := of_decide_eq_true yy2
       obtain ⟨ad131, A131_1, c131_1, e131, hx131_0, hx131_1, hl131_1, hi131_1⟩ := at_T62 HR0.out x5_1 p131 q131
       obtain rfl : ad130 = ad131 := (by injection e131)
       have HR131_1 := Aside0.mk hi131_1
       have HC131_1 := Aside0.mk hl131_1
       clear hi131_1 hl131_1
       replace p131 := eq_true p131
       replace q131 := eq_true q131
       have ea_ := Option.some.inj (hx130_1.symm.trans hx131_1)
       injection ea_ with ea_ en_ ec_
       subst ea_
       subst ec_
       clear en_
       go_wp2_with (first | ((with_reducible refine gate_callee (f := 19) rfl ?_); refine goesL_ (some 27) rfl rfl Try.func19 (by kernel_rfl) rfl #[.slice A130_1 ((rd_T62 l0 x5_1).f1).length c130_1, .int .i64 (wrap64 (x1_1 + 1))] rfl yy3 ?_; (with_reducible refine (laws_heldIntS.calls k1 _ _ ((rd_T62 l0 x5_1).f1) (wrap64 (x1_1 + 1)) t132 _ ?side1 ?side2 A6.out).mono ?_); (case side1 => repeat (first | exact HR131_1.out | (with_reducible refine Kd.C_alloc ?_ _) | (with_reducible refine Kd.C_drewN ?_ _) | (with_reducible refine Kd.C_drew ?_))); (case side2 => exact HC131_1.out); rintro e w' ⟨rfl, ⟨nd, rfl⟩⟩; refine ⟨_, rfl, ?_⟩))
       go_roundg k1
       case measure => have := HK1.out; omega
       case rel => exact ⟨(t132), (wrap64 (x5_1 + 1)), yy11, yy11, H', ⟨by have := HK1.out; omega⟩, by repeat (first | exact Drawn0.refl _ | apply Drawn0.step)⟩
     ·rw [if_neg c5] at H
      have c5b0 : (((rd_T62 l0 x5_1).f0) == x1_1) = false := beq_eq_false_iff_ne.mpr c5
      have c5b1 : (((rd_T62 l0 x5_1).f0) != x1_1) = true := bne_iff_ne.mpr c5
      obtain rfl := Option.some.inj H
      have p130 : 0 ≤ (x5_1 : Int) := of_decide_eq_true yy2
      have q130 : x5_1 < (l0.length : Int) := of_decide_eq_true yy2
      obtain ⟨ad130, A130_1, c130_1, e130, hx130_0, hx130_1, hl130_1, hi130_1⟩ := at_T62 HR0.out x5_1 p130 q130
      cases e130
      have HR130_1 := Aside0.mk hi130_1
      have HC130_1 := Aside0.mk hl130_1
      clear hi130_1 hl130_1
      replace p130 := eq_true p130
      replace q130 := eq_true q130
      go_wp2
      go_ret
      exact ⟨by first | rfl | (simp; done) | (simp [*]; done), by repeat (first | exact Drawn0.refl _ | apply Drawn0.step)⟩
    ·rw [if_neg c4] at H
     exact absurd H (by simp)
   ·rw [if_neg c3] at H
    have c3b0 : decide (x5_1 < (l0.length : Int)) = false := decide_eq_false c3
    clear c3
    obtain rfl := Option.some.inj H
    go_wp2
    go_ret
    exact ⟨by first | rfl | (simp; done) | (simp [*]; done), by repeat (first | exact Drawn0.refl _ | apply Drawn0.step)⟩
end Go.Proofs.Ytoadgikbbigdlaa.A
