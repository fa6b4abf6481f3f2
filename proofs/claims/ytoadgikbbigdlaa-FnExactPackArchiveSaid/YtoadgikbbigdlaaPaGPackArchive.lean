import Derived.Test.YtoadgikbbigdlaaPaAx1
import Derived.Test.YtoadgikbbigdlaaPaAx10
import Derived.Test.YtoadgikbbigdlaaPaAx2
import Derived.Test.YtoadgikbbigdlaaPaAx24
import Derived.Test.YtoadgikbbigdlaaPaAx3
namespace Go.Proofs.Ytoadgikbbigdlaa.A
open Go.RowKit Go.Proofs.YtoadgikbbigdlaaW.PrintWords Go.Proofs.YtoadgikbbigdlaaW.PrintLast Go.Proofs.YtoadgikbbigdlaaW.PrintMore
set_option linter.unusedVariables false
set_option maxHeartbeats 8000000 in
set_option maxRecDepth 100000 in
theorem FnExactPackArchive.exit0 (K : Nat) (A0 : Option Addr) (c0 : Nat) (l0 : List S65) (a1 : Int)
  (s1 : Int)
  (Hf2 : laws_szItemS.f l0 1048576 = some s1)
  (G : s1 < 0)
  (w : World) (hr0 : Kd.C k65 w A0 l0.length l0) (hc0 : l0.length ≤ c0) :
  Calls Try.prog 6 #[.slice A0 l0.length c0, .int .i64 a1] w fun e w' => e = .returned (.bool true) ∧ Below w.heap.size w w' := by
 replace Hf2 := Aside0.mk Hf2
 have HR0 := Aside0.mk hr0
 have HC0 := Aside0.mk hc0
 have HM0 := Aside0.mk (Kd.C_max hr0)
 clear hr0 hc0
 have B0 := Aside0.mk (Below.refl w.heap.size w)
 go_enter Try.func6, Try.ntmps6
 go_wp2_with fail
 refine (laws_szItemS.calls _ _ l0 (1048576) _ _ (Kd.C_below HR0.out B0.out) HC0.out Hf2.out).mono ?_
 rintro e w1 ⟨rfl, hdw⟩
 have hbw := Drawn0.below hdw
 clear hdw
 have hb1 := Aside0.mk hbw
 have z1 : Aside0 (w.heap.size ≤ w1.heap.size) := ⟨hbw.size⟩
 have B1 := Aside0.mk (below_then B0.out B0.out.size hbw)
 clear hbw
 go_wp2_with fail
 go_ret
 exact ⟨rfl, B1.out⟩
set_option maxHeartbeats 8000000 in
set_option maxRecDepth 100000 in
theorem FnExactPackArchive.main (K : Nat) (A0 : Option Addr) (c0 : Nat) (l0 : List S65) (a1 : Int)
  (s1 : Int) (t3 : List (S50)) (t8 : List (S62)) (t9 : Bool) (t26 : Int) (t27 : List (S50)) (t30 : Int) (t31 : List (S62))
  (Hf2 : laws_szItemS.f l0 1048576 = some s1) (Hf4 : laws_toItemS.f K l0 = some t3) (Hf10 : spec_PackArchive.f K t3 a1 = some (t8, t9)) (Hf17 : impl_PackArchive.f K t3 a1 = some (t8, t9)) (Hf21 : laws_eqArchiveBoxS.f K t8 t8 = some true) (Hf25 : laws_eqItemS.f K t3 t3 = some true) (Hf28 : laws_markItemS.f K t3 1 = some (t26, t27)) (Hf32 : laws_markArchiveBoxS.f t8 1 = some (t30, t31)) (Hf34 : laws_heldArchiveBoxS.f K t31 1 = some t30)
  (G0 : 0 ≤ s1) (Pt26 : 0 ≤ t26) (Pt30 : 0 ≤ t30)
  (w : World) (hr0 : Kd.C k65 w A0 l0.length l0) (hc0 : l0.length ≤ c0) :
  Calls Try.prog 6 #[.slice A0 l0.length c0, .int .i64 a1] w fun e w' => e = .returned (.bool true) ∧ Below w.heap.size w w' := by
 replace Hf2 := Aside0.mk Hf2
 replace Hf4 := Aside0.mk Hf4
 replace Hf10 := Aside0.mk Hf10
 replace Hf17 := Aside0.mk Hf17
 replace Hf21 := Aside0.mk Hf21
 replace Hf25 := Aside0.mk Hf25
 replace Hf28 := Aside0.mk Hf28
 replace Hf32 := Aside0.mk Hf32
 replace Hf34 := Aside0.mk Hf34
 have HR0 := Aside0.mk hr0
 have HC0 := Aside0.mk hc0
 have HM0 := Aside0.mk (Kd.C_max hr0)
 clear hr0 hc0
 have B0 := Aside0.mk (Below.refl w.heap.size w)
 go_enter Try.func6, Try.ntmps6
 go_wp2_with fail
 refine (laws_szItemS.calls _ _ l0 (1048576) _ _ (Kd.C_below HR0.out B0.out) HC0.out Hf2.out).mono ?_
 rintro e w1 ⟨rfl, hdw⟩
 have hbw := Drawn0.below hdw
 clear hdw
 have hb1 := Aside0.mk hbw
 have z1 : Aside0 (w.heap.size ≤ w1.heap.size) := ⟨hbw.size⟩
 have B1 := Aside0.mk (below_then B0.out B0.out.size hbw)
 clear hbw
 go_wp2_with fail
 refine (laws_toItemS.calls K _ _ l0 _ _ (Kd.C_below HR0.out B1.out) HC0.out Hf4.out).mono ?_
 rintro e w2 ⟨v5, rfl, ho0, hbw⟩
 have hb2 := Aside0.mk hbw
 have z2 : Aside0 (w1.heap.size ≤ w2.heap.size) := ⟨hbw.size⟩
 have B2 := Aside0.mk (below_then B1.out B1.out.size hbw)
 clear hbw
 have O6 := Aside0.mk (iv_R B1.out.size hb2.out ho0)
 clear ho0
 obtain ⟨As7, cs7, rfl⟩ := Kd.R_slice O6.out
 go_wp2_with fail
 refine (spec_PackArchive.calls K _ _ t3 (a1) _ _ _ (Kd.R_reads' O6.out).2.2 (Kd.R_reads' O6.out).2.1 Hf10.out).mono ?_
 rintro e w3 ⟨v11, rfl, ho0, hbw⟩
 have hb3 := Aside0.mk hbw
 have z3 : Aside0 (w2.heap.size ≤ w3.heap.size) := ⟨hbw.size⟩
 have B3 := Aside0.mk (below_then B2.out B2.out.size hbw)
 clear hbw
 replace O6 := Aside0.mk (Kd.R_below O6.out hb3.out)
 have O12 := Aside0.mk (iv_N B2.out.size hb3.out ho0 (fun _ hk => by first | exact hk | exact hk.1 | exact hk.1.1))
 clear ho0
 obtain ⟨As13, cs13, rfl⟩ := Kd.N_slice O12.out
 go_wp2_with fail
 refine (laws_toItemS.calls K _ _ l0 _ _ (Kd.C_below HR0.out B3.out) HC0.out Hf4.out).mono ?_
 rintro e w4 ⟨v14, rfl, ho0, hbw⟩
 have hb4 := Aside0.mk hbw
 have z4 : Aside0 (w3.heap.size ≤ w4.heap.size) := ⟨hbw.size⟩
 have B4 := Aside0.mk (below_then B3.out B3.out.size hbw)
 clear hbw
 replace O6 := Aside0.mk (Kd.R_below O6.out hb4.out)
 replace O12 := Aside0.mk (Kd.N_below O12.out hb4.out)
 have O15 := Aside0.mk (iv_R B3.out.size hb4.out ho0)
 clear ho0
 obtain ⟨As16, cs16, rfl⟩ := Kd.R_slice O15.out
 go_wp2_with fail
 refine (impl_PackArchive.calls K _ _ t3 (a1) _ _ _ (Kd.R_reads' O15.out).2.2 (Kd.R_reads' O15.out).2.1 Hf17.out).mono ?_
 rintro e w5 ⟨v18, rfl, ho0, hbw⟩
 have hb5 := Aside0.mk hbw
 have z5 : Aside0 (w4.heap.size ≤ w5.heap.size) := ⟨hbw.size⟩
 have B5 := Aside0.mk (below_then B4.out B4.out.size hbw)
 clear hbw
 replace O6 := Aside0.mk (Kd.R_below O6.out hb5.out)
 replace O12 := Aside0.mk (Kd.N_below O12.out hb5.out)
 replace O15 := Aside0.mk (Kd.R_below O15.out hb5.out)
 have O19 := Aside0.mk (iv_S B4.out.size hb5.out ho0)
 clear ho0
 obtain ⟨As20, cs20, rfl⟩ := Kd.S_slice O19.out
 go_wp2_with fail
 refine (laws_eqArchiveBoxS.calls K _ _ t8 _ _ t8 _ _ (Kd.S_reads' O19.out).2.2 (Kd.S_reads' O19.out).2.1 (Kd.N_reads' O12.out).2.2 (Kd.N_reads' O12.out).2.1 Hf21.out).mono ?_
 rintro e w6 ⟨rfl, hbw⟩
 have hb6 := Aside0.mk hbw
 have z6 : Aside0 (w5.heap.size ≤ w6.heap.size) := ⟨hbw.size⟩
 have B6 := Aside0.mk (below_then B5.out B5.out.size hbw)
 clear hbw
 replace O6 := Aside0.mk (Kd.R_below O6.out hb6.out)
 replace O12 := Aside0.mk (Kd.N_below O12.out hb6.out)
 replace O15 := Aside0.mk (Kd.R_below O15.out hb6.out)
 replace O19 := Aside0.mk (Kd.S_below O19.out hb6.out)
 go_wp2_with fail
 refine (laws_toItemS.calls K _ _ l0 _ _ (Kd.C_below HR0.out B6.out) HC0.out Hf4.out).mono ?_
 rintro e w7 ⟨v22, rfl, ho0, hbw⟩
 have hb7 := Aside0.mk hbw
 have z7 : Aside0 (w6.heap.size ≤ w7.heap.size) := ⟨hbw.size⟩
 have B7 := Aside0.mk (below_then B6.out B6.out.size hbw)
 clear hbw
 replace O6 := Aside0.mk (Kd.R_below O6.out hb7.out)
 replace O12 := Aside0.mk (Kd.N_below O12.out hb7.out)
 replace O15 := Aside0.mk (Kd.R_below O15.out hb7.out)
 replace O19 := Aside0.mk (Kd.S_below O19.out hb7.out)
 have O23 := Aside0.mk (iv_R B6.out.size hb7.out ho0)
 clear ho0
 obtain ⟨As24, cs24, rfl⟩ := Kd.R_slice O23.out
 go_wp2_with fail
 refine (laws_eqItemS.calls K _ _ t3 _ _ t3 _ _ (Kd.R_reads' O15.out).2.2 (Kd.R_reads' O15.out).2.1 (Kd.R_reads' O23.out).2.2 (Kd.R_reads' O23.out).2.1 Hf25.out).mono ?_
 rintro e w8 ⟨rfl, hbw⟩
 have hb8 := Aside0.mk hbw
 have z8 : Aside0 (w7.heap.size ≤ w8.heap.size) := ⟨hbw.size⟩
 have B8 := Aside0.mk (below_then B7.out B7.out.size hbw)
 clear hbw
 replace O6 := Aside0.mk (Kd.R_below O6.out hb8.out)
 replace O12 := Aside0.mk (Kd.N_below O12.out hb8.out)
 replace O15 := Aside0.mk (Kd.R_below O15.out hb8.out)
 replace O19 := Aside0.mk (Kd.S_below O19.out hb8.out)
 replace O23 := Aside0.mk (Kd.R_below O23.out hb8.out)
 go_wp2_with fail
 refine (laws_markItemS.calls K _ _ t3 (1) _ _ w _ B8.out O15.out Hf28.out).mono ?_
 rintro e w9 ⟨rfl, hw0, hbw, hkw⟩
 have hk9 := Aside0.mk hkw
 have z9 : Aside0 (w8.heap.size ≤ w9.heap.size) := ⟨hkw.1⟩
 have B9 := Aside0.mk hbw
 clear hkw hbw
 replace O6 := Aside0.mk (Kd.R_kept O6.out hk9.out (fun k h1 h2 => iv_off z3.out h1.1 h2.1))
 replace O12 := Aside0.mk (Kd.N_kept O12.out hk9.out (fun k h1 h2 => iv_off (Nat.le_refl _) h1.1 h2.1))
 replace O19 := Aside0.mk (Kd.S_kept O19.out hk9.out (fun k h1 h2 => iv_off (Nat.le_refl _) h2.1 h1.1))
 replace O23 := Aside0.mk (Kd.R_kept O23.out hk9.out (fun k h1 h2 => iv_off (Nat.le_trans z5.out z6.out) h2.1 h1.1))
 have O29 := Aside0.mk (again_R rfl O15.out hw0)
 clear O15 hw0
 go_wp2_with fail
 refine (laws_eqArchiveBoxS.calls K _ _ t8 _ _ t8 _ _ (Kd.S_reads' O19.out).2.2 (Kd.S_reads' O19.out).2.1 (Kd.N_reads' O12.out).2.2 (Kd.N_reads' O12.out).2.1 Hf21.out).mono ?_
 rintro e w10 ⟨rfl, hbw⟩
 have hb10 := Aside0.mk hbw
 have z10 : Aside0 (w9.heap.size ≤ w10.heap.size) := ⟨hbw.size⟩
 have B10 := Aside0.mk (below_then B9.out B9.out.size hbw)
 clear hbw
 replace O6 := Aside0.mk (Kd.R_below O6.out hb10.out)
 replace O12 := Aside0.mk (Kd.N_below O12.out hb10.out)
 replace O29 := Aside0.mk (Kd.R_below O29.out hb10.out)
 replace O19 := Aside0.mk (Kd.S_below O19.out hb10.out)
 replace O23 := Aside0.mk (Kd.R_below O23.out hb10.out)
 go_wp2_with fail
 refine (laws_markArchiveBoxS.calls _ _ t8 (1) _ _ w _ B10.out O19.out Hf32.out).mono ?_
 rintro e w11 ⟨rfl, hw0, hbw, hkw⟩
 have hk11 := Aside0.mk hkw
 have z11 : Aside0 (w10.heap.size ≤ w11.heap.size) := ⟨hkw.1⟩
 have B11 := Aside0.mk hbw
 clear hkw hbw
 replace O6 := Aside0.mk (Kd.R_kept O6.out hk11.out (fun k h1 h2 => iv_off (Nat.le_trans z3.out z4.out) h1.1 h2.1))
 replace O12 := Aside0.mk (Kd.N_kept O12.out hk11.out (fun k h1 h2 => iv_off z4.out h1.1 h2.1))
 replace O29 := Aside0.mk (Kd.R_kept O29.out hk11.out (fun k h1 h2 => iv_off (Nat.le_refl _) h1.1 h2.1))
 replace O23 := Aside0.mk (Kd.R_kept O23.out hk11.out (fun k h1 h2 => iv_off z6.out h2.1 h1.1))
 have O33 := Aside0.mk (again_S O19.out hw0)
 clear O19 hw0
 go_wp2_with fail
 refine calls_of_args (args' := #[.slice As20 t31.length cs20, .int .i64 1]) (by rw [← (Kd.S_reads' O33.out).1]) ?_
 refine (laws_heldArchiveBoxS.calls K _ _ t31 (1) _ _ (Kd.S_reads' O33.out).2.2 (by have h1 := (Kd.S_reads' O33.out).1; have h2 := (Kd.S_reads' O33.out).2.1; omega) Hf34.out).mono ?_
 rintro e w12 ⟨rfl, hdw⟩
 have hbw := Drawn0.below hdw
 clear hdw
 have hb12 := Aside0.mk hbw
 have z12 : Aside0 (w11.heap.size ≤ w12.heap.size) := ⟨hbw.size⟩
 have B12 := Aside0.mk (below_then B11.out B11.out.size hbw)
 clear hbw
 replace O6 := Aside0.mk (Kd.R_below O6.out hb12.out)
 replace O12 := Aside0.mk (Kd.N_below O12.out hb12.out)
 replace O29 := Aside0.mk (Kd.R_below O29.out hb12.out)
 replace O33 := Aside0.mk (Kd.S_below O33.out hb12.out)
 replace O23 := Aside0.mk (Kd.R_below O23.out hb12.out)
 go_wp2_with fail
 refine (laws_toItemS.calls K _ _ l0 _ _ (Kd.C_below HR0.out B12.out) HC0.out Hf4.out).mono ?_
 rintro e w13 ⟨v35, rfl, ho0, hbw⟩
 have hb13 := Aside0.mk hbw
 have z13 : Aside0 (w12.heap.size ≤ w13.heap.size) := ⟨hbw.size⟩
 have B13 := Aside0.mk (below_then B12.out B12.out.size hbw)
 clear hbw
 replace O6 := Aside0.mk (Kd.R_below O6.out hb13.out)
 replace O12 := Aside0.mk (Kd.N_below O12.out hb13.out)
 replace O29 := Aside0.mk (Kd.R_below O29.out hb13.out)
 replace O33 := Aside0.mk (Kd.S_below O33.out hb13.out)
 replace O23 := Aside0.mk (Kd.R_below O23.out hb13.out)
 have O36 := Aside0.mk (iv_R B12.out.size hb13.out ho0)
 clear ho0
 obtain ⟨As37, cs37, rfl⟩ := Kd.R_slice O36.out
 go_wp2_with fail
 refine (impl_PackArchive.calls K _ _ t3 (a1) _ _ _ (Kd.R_reads' O36.out).2.2 (Kd.R_reads' O36.out).2.1 Hf17.out).mono ?_
 rintro e w14 ⟨v38, rfl, ho0, hbw⟩
 have hb14 := Aside0.mk hbw
 have z14 : Aside0 (w13.heap.size ≤ w14.heap.size) := ⟨hbw.size⟩
 have B14 := Aside0.mk (below_then B13.out B13.out.size hbw)
 clear hbw
 replace O6 := Aside0.mk (Kd.R_below O6.out hb14.out)
 replace O12 := Aside0.mk (Kd.N_below O12.out hb14.out)
 replace O29 := Aside0.mk (Kd.R_below O29.out hb14.out)
 replace O33 := Aside0.mk (Kd.S_below O33.out hb14.out)
 replace O23 := Aside0.mk (Kd.R_below O23.out hb14.out)
 replace O36 := Aside0.mk (Kd.R_below O36.out hb14.out)
 have O39 := Aside0.mk (iv_S B13.out.size hb14.out ho0)
 clear ho0
 obtain ⟨As40, cs40, rfl⟩ := Kd.S_slice O39.out
 go_wp2_with fail
 refine (laws_eqArchiveBoxS.calls K _ _ t8 _ _ t8 _ _ (Kd.S_reads' O39.out).2.2 (Kd.S_reads' O39.out).2.1 (Kd.N_reads' O12.out).2.2 (Kd.N_reads' O12.out).2.1 Hf21.out).mono ?_
 rintro e w15 ⟨rfl, hbw⟩
 have hb15 := Aside0.mk hbw
 have z15 : Aside0 (w14.heap.size ≤ w15.heap.size) := ⟨hbw.size⟩
 have B15 := Aside0.mk (below_then B14.out B14.out.size hbw)
 clear hbw
 replace O6 := Aside0.mk (Kd.R_below O6.out hb15.out)
 replace O12 := Aside0.mk (Kd.N_below O12.out hb15.out)
 replace O29 := Aside0.mk (Kd.R_below O29.out hb15.out)
 replace O33 := Aside0.mk (Kd.S_below O33.out hb15.out)
 replace O23 := Aside0.mk (Kd.R_below O23.out hb15.out)
 replace O36 := Aside0.mk (Kd.R_below O36.out hb15.out)
 replace O39 := Aside0.mk (Kd.S_below O39.out hb15.out)
 go_wp2_with fail
 refine calls_of_args (args' := #[.slice As20 t31.length cs20, .int .i64 1]) (by rw [← (Kd.S_reads' O33.out).1]) ?_
 refine (laws_heldArchiveBoxS.calls K _ _ t31 (1) _ _ (Kd.S_reads' O33.out).2.2 (by have h1 := (Kd.S_reads' O33.out).1; have h2 := (Kd.S_reads' O33.out).2.1; omega) Hf34.out).mono ?_
 rintro e w16 ⟨rfl, hdw⟩
 have hbw := Drawn0.below hdw
 clear hdw
 have hb16 := Aside0.mk hbw
 have z16 : Aside0 (w15.heap.size ≤ w16.heap.size) := ⟨hbw.size⟩
 have B16 := Aside0.mk (below_then B15.out B15.out.size hbw)
 clear hbw
 replace O6 := Aside0.mk (Kd.R_below O6.out hb16.out)
 replace O12 := Aside0.mk (Kd.N_below O12.out hb16.out)
 replace O29 := Aside0.mk (Kd.R_below O29.out hb16.out)
 replace O33 := Aside0.mk (Kd.S_below O33.out hb16.out)
 replace O23 := Aside0.mk (Kd.R_below O23.out hb16.out)
 replace O36 := Aside0.mk (Kd.R_below O36.out hb16.out)
 replace O39 := Aside0.mk (Kd.S_below O39.out hb16.out)
 go_wp2_with fail
 go_ret
 exact ⟨rfl, B16.out⟩
def FnExactPackArchive.Goal (K : Nat) (l0 : List S65) (a1 : Int) : Prop :=
 (∃ (s1 : Int), (laws_szItemS.f l0 1048576 = some s1) ∧ (s1 < 0))
 ∨ (∃ (s1 : Int) (t3 : List (S50)) (t8 : List (S62)) (t9 : Bool) (t26 : Int) (t27 : List (S50)) (t30 : Int) (t31 : List (S62)), (laws_szItemS.f l0 1048576 = some s1) ∧ (laws_toItemS.f K l0 = some t3) ∧ (spec_PackArchive.f K t3 a1 = some (t8, t9)) ∧ (impl_PackArchive.f K t3 a1 = some (t8, t9)) ∧ (laws_eqArchiveBoxS.f K t8 t8 = some true) ∧ (laws_eqItemS.f K t3 t3 = some true) ∧ (laws_markItemS.f K t3 1 = some (t26, t27)) ∧ (laws_markArchiveBoxS.f t8 1 = some (t30, t31)) ∧ (laws_heldArchiveBoxS.f K t31 1 = some t30) ∧ (0 ≤ s1) ∧ (0 ≤ t26) ∧ (0 ≤ t30))
theorem FnExactPackArchive.walk (K : Nat) (A0 : Option Addr) (c0 : Nat) (l0 : List S65) (a1 : Int) (h : FnExactPackArchive.Goal K l0 a1) (w : World) (hr0 : Kd.C k65 w A0 l0.length l0) (hc0 : l0.length ≤ c0) :
  Calls Try.prog 6 #[.slice A0 l0.length c0, .int .i64 a1] w fun e w' => e = .returned (.bool true) ∧ Below w.heap.size w w' := by
 rcases h with ⟨s1, Hf2, G⟩ | ⟨s1, t3, t8, t9, t26, t27, t30, t31, Hf2, Hf4, Hf10, Hf17, Hf21, Hf25, Hf28, Hf32, Hf34, G0, Pt26, Pt30⟩
 ·exact FnExactPackArchive.exit0 K A0 c0 l0 a1 s1 Hf2 G w hr0 hc0
 ·exact FnExactPackArchive.main K A0 c0 l0 a1 s1 t3 t8 t9 t26 t27 t30 t31 Hf2 Hf4 Hf10 Hf17 Hf21 Hf25 Hf28 Hf32 Hf34 G0 Pt26 Pt30 w hr0 hc0
end Go.Proofs.Ytoadgikbbigdlaa.A
