import Derived.Test.YtoadgikbbigdlaaMvMx1
import Derived.Test.YtoadgikbbigdlaaMvMx15
import Derived.Test.YtoadgikbbigdlaaMvMx2
import Derived.Test.YtoadgikbbigdlaaMvMx3
import Derived.Test.YtoadgikbbigdlaaMvMx4
import Derived.Test.YtoadgikbbigdlaaMvMx9
namespace Go.Proofs.Ytoadgikbbigdlaa.M
open Go.RowKit Go.Proofs.YtoadgikbbigdlaaW.PrintWords Go.Proofs.YtoadgikbbigdlaaW.PrintLast Go.Proofs.YtoadgikbbigdlaaW.PrintMore
set_option linter.unusedVariables false
set_option maxHeartbeats 8000000 in
set_option maxRecDepth 100000 in
theorem FnExactMoveItem.exit0 (K : Nat) (A0 : Option Addr) (c0 : Nat) (l0 : List S65) (A1 : Option Addr) (c1 : Nat) (l1 : List S60) (a2 : Int) (a3 : Int) (a4 : Int)
  (s1 : Int)
  (Hf2 : laws_szItemS.f l0 1048576 = some s1)
  (G : s1 < 0)
  (w : World) (hr0 : Kd.C k65 w A0 l0.length l0) (hc0 : l0.length ≤ c0) (hr1 : Kd.C k60 w A1 l1.length l1) (hc1 : l1.length ≤ c1) :
  Calls Try.prog 5 #[.slice A0 l0.length c0, .slice A1 l1.length c1, .int .i64 a2, .int .i64 a3, .int .i64 a4] w fun e w' => e = .returned (.bool true) ∧ Below w.heap.size w w' := by
 replace Hf2 := Aside0.mk Hf2
 have HR0 := Aside0.mk hr0
 have HC0 := Aside0.mk hc0
 have HM0 := Aside0.mk (Kd.C_max hr0)
 clear hr0 hc0
 have HR1 := Aside0.mk hr1
 have HC1 := Aside0.mk hc1
 have HM1 := Aside0.mk (Kd.C_max hr1)
 clear hr1 hc1
 have B0 := Aside0.mk (Below.refl w.heap.size w)
 go_enter Try.func5, Try.ntmps5
 go_wp2_with fail
 refine (laws_szItemS.calls _ _ l0 (1048576) _ _ (Kd.C_below HR0.out B0.out) HC0.out Hf2.out).mono ?_
 rintro e w1 ⟨rfl, hdw⟩
 have hbw := Drawn0.below hdw
 clear hdw
 have hb1 := Aside0.mk hbw
 have z1 : Aside0 (w.heap.size ≤ w1.heap.size) := ⟨hbw.size⟩
 have B1 := Aside0.mk (below_then B0.out B0.out.size hbw)
 clear hbw
 go_wp2_with fail
 go_ret
 exact ⟨rfl, B1.out⟩
set_option maxHeartbeats 8000000 in
set_option maxRecDepth 100000 in
theorem FnExactMoveItem.exit1 (K : Nat) (A0 : Option Addr) (c0 : Nat) (l0 : List S65) (A1 : Option Addr) (c1 : Nat) (l1 : List S60) (a2 : Int) (a3 : Int) (a4 : Int)
  (s1 : Int) (s3 : Int)
  (Hf2 : laws_szItemS.f l0 1048576 = some s1) (Hf4 : laws_szArchiveBoxS.f K l1 s1 = some s3)
  (G0 : 0 ≤ s1) (G : s3 < 0)
  (w : World) (hr0 : Kd.C k65 w A0 l0.length l0) (hc0 : l0.length ≤ c0) (hr1 : Kd.C k60 w A1 l1.length l1) (hc1 : l1.length ≤ c1) :
  Calls Try.prog 5 #[.slice A0 l0.length c0, .slice A1 l1.length c1, .int .i64 a2, .int .i64 a3, .int .i64 a4] w fun e w' => e = .returned (.bool true) ∧ Below w.heap.size w w' := by
 replace Hf2 := Aside0.mk Hf2
 replace Hf4 := Aside0.mk Hf4
 have HR0 := Aside0.mk hr0
 have HC0 := Aside0.mk hc0
 have HM0 := Aside0.mk (Kd.C_max hr0)
 clear hr0 hc0
 have HR1 := Aside0.mk hr1
 have HC1 := Aside0.mk hc1
 have HM1 := Aside0.mk (Kd.C_max hr1)
 clear hr1 hc1
 have B0 := Aside0.mk (Below.refl w.heap.size w)
 go_enter Try.func5, Try.ntmps5
 go_wp2_with fail
 refine (laws_szItemS.calls _ _ l0 (1048576) _ _ (Kd.C_below HR0.out B0.out) HC0.out Hf2.out).mono ?_
 rintro e w1 ⟨rfl, hdw⟩
 have hbw := Drawn0.below hdw
 clear hdw
 have hb1 := Aside0.mk hbw
 have z1 : Aside0 (w.heap.size ≤ w1.heap.size) := ⟨hbw.size⟩
 have B1 := Aside0.mk (below_then B0.out B0.out.size hbw)
 clear hbw
 go_wp2_with fail
 refine (laws_szArchiveBoxS.calls K _ _ l1 (s1) _ _ (Kd.C_below HR1.out B1.out) HC1.out Hf4.out).mono ?_
 rintro e w2 ⟨rfl, hbw⟩
 have hb2 := Aside0.mk hbw
 have z2 : Aside0 (w1.heap.size ≤ w2.heap.size) := ⟨hbw.size⟩
 have B2 := Aside0.mk (below_then B1.out B1.out.size hbw)
 clear hbw
 go_wp2_with fail
 go_ret
 exact ⟨rfl, B2.out⟩
set_option maxHeartbeats 8000000 in
set_option maxRecDepth 100000 in
theorem FnExactMoveItem.main (K : Nat) (A0 : Option Addr) (c0 : Nat) (l0 : List S65) (A1 : Option Addr) (c1 : Nat) (l1 : List S60) (a2 : Int) (a3 : Int) (a4 : Int)
  (s1 : Int) (s3 : Int) (t5 : List (S50)) (t10 : List (S62)) (t15 : List (S62)) (t16 : Bool) (t40 : Int) (t41 : List (S50)) (t44 : Int) (t45 : List (S62)) (t48 : Int) (t49 : List (S62))
  (Hf2 : laws_szItemS.f l0 1048576 = some s1) (Hf4 : laws_szArchiveBoxS.f K l1 s1 = some s3) (Hf6 : laws_toItemS.f K l0 = some t5) (Hf11 : laws_toArchiveBoxS.f K l1 = some t10) (Hf17 : spec_MoveItem.f K t5 t10 a2 a3 a4 = some (t15, t16)) (Hf27 : impl_MoveItem.f K t5 t10 a2 a3 a4 = some (t15, t16)) (Hf31 : laws_eqArchiveBoxS.f K t15 t15 = some true) (Hf35 : laws_eqItemS.f K t5 t5 = some true) (Hf39 : laws_eqArchiveBoxS.f K t10 t10 = some true) (Hf42 : laws_markItemS.f K t5 1 = some (t40, t41)) (Hf46 : laws_markArchiveBoxS.f t10 t40 = some (t44, t45)) (Hf50 : laws_markArchiveBoxS.f t15 1 = some (t48, t49)) (Hf52 : laws_heldArchiveBoxS.f K t49 1 = some t48)
  (G0 : 0 ≤ s1) (G1 : 0 ≤ s3) (Pt40 : 0 ≤ t40) (Pt44 : 0 ≤ t44) (Pt48 : 0 ≤ t48)
  (w : World) (hr0 : Kd.C k65 w A0 l0.length l0) (hc0 : l0.length ≤ c0) (hr1 : Kd.C k60 w A1 l1.length l1) (hc1 : l1.length ≤ c1) :
  Calls Try.prog 5 #[.slice A0 l0.length c0, .slice A1 l1.length c1, .int .i64 a2, .int .i64 a3, .int .i64 a4] w fun e w' => e = .returned (.bool true) ∧ Below w.heap.size w w' := by
 replace Hf2 := Aside0.mk Hf2
 replace Hf4 := Aside0.mk Hf4
 replace Hf6 := Aside0.mk Hf6
 replace Hf11 := Aside0.mk Hf11
 replace Hf17 := Aside0.mk Hf17
 replace Hf27 := Aside0.mk Hf27
 replace Hf31 := Aside0.mk Hf31
 replace Hf35 := Aside0.mk Hf35
 replace Hf39 := Aside0.mk Hf39
 replace Hf42 := Aside0.mk Hf42
 replace Hf46 := Aside0.mk Hf46
 replace Hf50 := Aside0.mk Hf50
 replace Hf52 := Aside0.mk Hf52
 have HR0 := Aside0.mk hr0
 have HC0 := Aside0.mk hc0
 have HM0 := Aside0.mk (Kd.C_max hr0)
 clear hr0 hc0
 have HR1 := Aside0.mk hr1
 have HC1 := Aside0.mk hc1
 have HM1 := Aside0.mk (Kd.C_max hr1)
 clear hr1 hc1
 have B0 := Aside0.mk (Below.refl w.heap.size w)
 go_enter Try.func5, Try.ntmps5
 go_wp2_with fail
 refine (laws_szItemS.calls _ _ l0 (1048576) _ _ (Kd.C_below HR0.out B0.out) HC0.out Hf2.out).mono ?_
 rintro e w1 ⟨rfl, hdw⟩
 have hbw := Drawn0.below hdw
 clear hdw
 have hb1 := Aside0.mk hbw
 have z1 : Aside0 (w.heap.size ≤ w1.heap.size) := ⟨hbw.size⟩
 have B1 := Aside0.mk (below_then B0.out B0.out.size hbw)
 clear hbw
 go_wp2_with fail
 refine (laws_szArchiveBoxS.calls K _ _ l1 (s1) _ _ (Kd.C_below HR1.out B1.out) HC1.out Hf4.out).mono ?_
 rintro e w2 ⟨rfl, hbw⟩
 have hb2 := Aside0.mk hbw
 have z2 : Aside0 (w1.heap.size ≤ w2.heap.size) := ⟨hbw.size⟩
 have B2 := Aside0.mk (below_then B1.out B1.out.size hbw)
 clear hbw
 go_wp2_with fail
 refine (laws_toItemS.calls K _ _ l0 _ _ (Kd.C_below HR0.out B2.out) HC0.out Hf6.out).mono ?_
 rintro e w3 ⟨v7, rfl, ho0, hbw⟩
 have hb3 := Aside0.mk hbw
 have z3 : Aside0 (w2.heap.size ≤ w3.heap.size) := ⟨hbw.size⟩
 have B3 := Aside0.mk (below_then B2.out B2.out.size hbw)
 clear hbw
 have O8 := Aside0.mk (iv_R B2.out.size hb3.out ho0)
 clear ho0
 obtain ⟨As9, cs9, rfl⟩ := Kd.R_slice O8.out
 go_wp2_with fail
 refine (laws_toArchiveBoxS.calls K _ _ l1 _ _ (Kd.C_below HR1.out B3.out) HC1.out Hf11.out).mono ?_
 rintro e w4 ⟨v12, rfl, ho0, hbw⟩
 have hb4 := Aside0.mk hbw
 have z4 : Aside0 (w3.heap.size ≤ w4.heap.size) := ⟨hbw.size⟩
 have B4 := Aside0.mk (below_then B3.out B3.out.size hbw)
 clear hbw
 replace O8 := Aside0.mk (Kd.R_below O8.out hb4.out)
 have O13 := Aside0.mk (iv_S B3.out.size hb4.out ho0)
 clear ho0
 obtain ⟨As14, cs14, rfl⟩ := Kd.S_slice O13.out
 go_wp2_with fail
 refine (spec_MoveItem.calls K _ _ t5 _ _ t10 (a2) (a3) (a4) _ _ _ (Kd.R_reads' O8.out).2.2 (Kd.R_reads' O8.out).2.1 (Kd.S_reads' O13.out).2.2 (Kd.S_reads' O13.out).2.1 Hf17.out).mono ?_
 rintro e w5 ⟨v18, rfl, ho0, hbw⟩
 have hb5 := Aside0.mk hbw
 have z5 : Aside0 (w4.heap.size ≤ w5.heap.size) := ⟨hbw.size⟩
 have B5 := Aside0.mk (below_then B4.out B4.out.size hbw)
 clear hbw
 replace O8 := Aside0.mk (Kd.R_below O8.out hb5.out)
 replace O13 := Aside0.mk (Kd.S_below O13.out hb5.out)
 have O19 := Aside0.mk (iv_N B4.out.size hb5.out ho0 (fun _ hk => by first | exact hk | exact hk.1 | exact hk.1.1))
 clear ho0
 obtain ⟨As20, cs20, rfl⟩ := Kd.N_slice O19.out
 go_wp2_with fail
 refine (laws_toItemS.calls K _ _ l0 _ _ (Kd.C_below HR0.out B5.out) HC0.out Hf6.out).mono ?_
 rintro e w6 ⟨v21, rfl, ho0, hbw⟩
 have hb6 := Aside0.mk hbw
 have z6 : Aside0 (w5.heap.size ≤ w6.heap.size) := ⟨hbw.size⟩
 have B6 := Aside0.mk (below_then B5.out B5.out.size hbw)
 clear hbw
 replace O8 := Aside0.mk (Kd.R_below O8.out hb6.out)
 replace O13 := Aside0.mk (Kd.S_below O13.out hb6.out)
 replace O19 := Aside0.mk (Kd.N_below O19.out hb6.out)
 have O22 := Aside0.mk (iv_R B5.out.size hb6.out ho0)
 clear ho0
 obtain ⟨As23, cs23, rfl⟩ := Kd.R_slice O22.out
 go_wp2_with fail
 refine (laws_toArchiveBoxS.calls K _ _ l1 _ _ (Kd.C_below HR1.out B6.out) HC1.out Hf11.out).mono ?_
 rintro e w7 ⟨v24, rfl, ho0, hbw⟩
 have hb7 := Aside0.mk hbw
 have z7 : Aside0 (w6.heap.size ≤ w7.heap.size) := ⟨hbw.size⟩
 have B7 := Aside0.mk (below_then B6.out B6.out.size hbw)
 clear hbw
 replace O8 := Aside0.mk (Kd.R_below O8.out hb7.out)
 replace O13 := Aside0.mk (Kd.S_below O13.out hb7.out)
 replace O19 := Aside0.mk (Kd.N_below O19.out hb7.out)
 replace O22 := Aside0.mk (Kd.R_below O22.out hb7.out)
 have O25 := Aside0.mk (iv_S B6.out.size hb7.out ho0)
 clear ho0
 obtain ⟨As26, cs26, rfl⟩ := Kd.S_slice O25.out
 go_wp2_with fail
 refine (impl_MoveItem.calls K _ _ t5 _ _ t10 (a2) (a3) (a4) _ _ _ (Kd.R_reads' O22.out).2.2 (Kd.R_reads' O22.out).2.1 (Kd.S_reads' O25.out).2.2 (Kd.S_reads' O25.out).2.1 Hf27.out).mono ?_
 rintro e w8 ⟨v28, rfl, ho0, hbw⟩
 have hb8 := Aside0.mk hbw
 have z8 : Aside0 (w7.heap.size ≤ w8.heap.size) := ⟨hbw.size⟩
 have B8 := Aside0.mk (below_then B7.out B7.out.size hbw)
 clear hbw
 replace O8 := Aside0.mk (Kd.R_below O8.out hb8.out)
 replace O13 := Aside0.mk (Kd.S_below O13.out hb8.out)
 replace O19 := Aside0.mk (Kd.N_below O19.out hb8.out)
 replace O22 := Aside0.mk (Kd.R_below O22.out hb8.out)
 replace O25 := Aside0.mk (Kd.S_below O25.out hb8.out)
 have O29 := Aside0.mk (iv_S B7.out.size hb8.out ho0)
 clear ho0
 obtain ⟨As30, cs30, rfl⟩ := Kd.S_slice O29.out
 go_wp2_with fail
 refine (laws_eqArchiveBoxS.calls K _ _ t15 _ _ t15 _ _ (Kd.S_reads' O29.out).2.2 (Kd.S_reads' O29.out).2.1 (Kd.N_reads' O19.out).2.2 (Kd.N_reads' O19.out).2.1 Hf31.out).mono ?_
 rintro e w9 ⟨rfl, hbw⟩
 have hb9 := Aside0.mk hbw
 have z9 : Aside0 (w8.heap.size ≤ w9.heap.size) := ⟨hbw.size⟩
 have B9 := Aside0.mk (below_then B8.out B8.out.size hbw)
 clear hbw
 replace O8 := Aside0.mk (Kd.R_below O8.out hb9.out)
 replace O13 := Aside0.mk (Kd.S_below O13.out hb9.out)
 replace O19 := Aside0.mk (Kd.N_below O19.out hb9.out)
 replace O22 := Aside0.mk (Kd.R_below O22.out hb9.out)
 replace O25 := Aside0.mk (Kd.S_below O25.out hb9.out)
 replace O29 := Aside0.mk (Kd.S_below O29.out hb9.out)
 go_wp2_with fail
 refine (laws_toItemS.calls K _ _ l0 _ _ (Kd.C_below HR0.out B9.out) HC0.out Hf6.out).mono ?_
 rintro e w10 ⟨v32, rfl, ho0, hbw⟩
 have hb10 := Aside0.mk hbw
 have z10 : Aside0 (w9.heap.size ≤ w10.heap.size) := ⟨hbw.size⟩
 have B10 := Aside0.mk (below_then B9.out B9.out.size hbw)
 clear hbw
 replace O8 := Aside0.mk (Kd.R_below O8.out hb10.out)
 replace O13 := Aside0.mk (Kd.S_below O13.out hb10.out)
 replace O19 := Aside0.mk (Kd.N_below O19.out hb10.out)
 replace O22 := Aside0.mk (Kd.R_below O22.out hb10.out)
 replace O25 := Aside0.mk (Kd.S_below O25.out hb10.out)
 replace O29 := Aside0.mk (Kd.S_below O29.out hb10.out)
 have O33 := Aside0.mk (iv_R B9.out.size hb10.out ho0)
 clear ho0
 obtain ⟨As34, cs34, rfl⟩ := Kd.R_slice O33.out
 go_wp2_with fail
 refine (laws_eqItemS.calls K _ _ t5 _ _ t5 _ _ (Kd.R_reads' O22.out).2.2 (Kd.R_reads' O22.out).2.1 (Kd.R_reads' O33.out).2.2 (Kd.R_reads' O33.out).2.1 Hf35.out).mono ?_
 rintro e w11 ⟨rfl, hbw⟩
 have hb11 := Aside0.mk hbw
 have z11 : Aside0 (w10.heap.size ≤ w11.heap.size) := ⟨hbw.size⟩
 have B11 := Aside0.mk (below_then B10.out B10.out.size hbw)
 clear hbw
 replace O8 := Aside0.mk (Kd.R_below O8.out hb11.out)
 replace O13 := Aside0.mk (Kd.S_below O13.out hb11.out)
 replace O19 := Aside0.mk (Kd.N_below O19.out hb11.out)
 replace O22 := Aside0.mk (Kd.R_below O22.out hb11.out)
 replace O25 := Aside0.mk (Kd.S_below O25.out hb11.out)
 replace O29 := Aside0.mk (Kd.S_below O29.out hb11.out)
 replace O33 := Aside0.mk (Kd.R_below O33.out hb11.out)
 go_wp2_with fail
 refine (laws_toArchiveBoxS.calls K _ _ l1 _ _ (Kd.C_below HR1.out B11.out) HC1.out Hf11.out).mono ?_
 rintro e w12 ⟨v36, rfl, ho0, hbw⟩
 have hb12 := Aside0.mk hbw
 have z12 : Aside0 (w11.heap.size ≤ w12.heap.size) := ⟨hbw.size⟩
 have B12 := Aside0.mk (below_then B11.out B11.out.size hbw)
 clear hbw
 replace O8 := Aside0.mk (Kd.R_below O8.out hb12.out)
 replace O13 := Aside0.mk (Kd.S_below O13.out hb12.out)
 replace O19 := Aside0.mk (Kd.N_below O19.out hb12.out)
 replace O22 := Aside0.mk (Kd.R_below O22.out hb12.out)
 replace O25 := Aside0.mk (Kd.S_below O25.out hb12.out)
 replace O29 := Aside0.mk (Kd.S_below O29.out hb12.out)
 replace O33 := Aside0.mk (Kd.R_below O33.out hb12.out)
 have O37 := Aside0.mk (iv_S B11.out.size hb12.out ho0)
 clear ho0
 obtain ⟨As38, cs38, rfl⟩ := Kd.S_slice O37.out
 go_wp2_with fail
 refine (laws_eqArchiveBoxS.calls K _ _ t10 _ _ t10 _ _ (Kd.S_reads' O25.out).2.2 (Kd.S_reads' O25.out).2.1 (Kd.S_reads' O37.out).2.2 (Kd.S_reads' O37.out).2.1 Hf39.out).mono ?_
 rintro e w13 ⟨rfl, hbw⟩
 have hb13 := Aside0.mk hbw
 have z13 : Aside0 (w12.heap.size ≤ w13.heap.size) := ⟨hbw.size⟩
 have B13 := Aside0.mk (below_then B12.out B12.out.size hbw)
 clear hbw
 replace O8 := Aside0.mk (Kd.R_below O8.out hb13.out)
 replace O13 := Aside0.mk (Kd.S_below O13.out hb13.out)
 replace O19 := Aside0.mk (Kd.N_below O19.out hb13.out)
 replace O22 := Aside0.mk (Kd.R_below O22.out hb13.out)
 replace O25 := Aside0.mk (Kd.S_below O25.out hb13.out)
 replace O29 := Aside0.mk (Kd.S_below O29.out hb13.out)
 replace O33 := Aside0.mk (Kd.R_below O33.out hb13.out)
 replace O37 := Aside0.mk (Kd.S_below O37.out hb13.out)
 go_wp2_with fail
 refine (laws_markItemS.calls K _ _ t5 (1) _ _ w _ B13.out O22.out Hf42.out).mono ?_
 rintro e w14 ⟨rfl, hw0, hbw, hkw⟩
 have hk14 := Aside0.mk hkw
 have z14 : Aside0 (w13.heap.size ≤ w14.heap.size) := ⟨hkw.1⟩
 have B14 := Aside0.mk hbw
 clear hkw hbw
 replace O8 := Aside0.mk (Kd.R_kept O8.out hk14.out (fun k h1 h2 => iv_off (Nat.le_trans z4.out z5.out) h1.1 h2.1))
 replace O13 := Aside0.mk (Kd.S_kept O13.out hk14.out (fun k h1 h2 => iv_off z5.out h1.1 h2.1))
 replace O19 := Aside0.mk (Kd.N_kept O19.out hk14.out (fun k h1 h2 => iv_off (Nat.le_refl _) h1.1 h2.1))
 replace O25 := Aside0.mk (Kd.S_kept O25.out hk14.out (fun k h1 h2 => iv_off (Nat.le_refl _) h2.1 h1.1))
 replace O29 := Aside0.mk (Kd.S_kept O29.out hk14.out (fun k h1 h2 => iv_off z7.out h2.1 h1.1))
 replace O33 := Aside0.mk (Kd.R_kept O33.out hk14.out (fun k h1 h2 => iv_off (Nat.le_trans z7.out (Nat.le_trans z8.out z9.out)) h2.1 h1.1))
 replace O37 := Aside0.mk (Kd.S_kept O37.out hk14.out (fun k h1 h2 => iv_off (Nat.le_trans z7.out (Nat.le_trans z8.out (Nat.le_trans z9.out (Nat.le_trans z10.out z11.out)))) h2.1 h1.1))
 have O43 := Aside0.mk (again_R rfl O22.out hw0)
 clear O22 hw0
 go_wp2_with fail
 refine (laws_markArchiveBoxS.calls _ _ t10 (t40) _ _ w _ B14.out O25.out Hf46.out).mono ?_
 rintro e w15 ⟨rfl, hw0, hbw, hkw⟩
 have hk15 := Aside0.mk hkw
 have z15 : Aside0 (w14.heap.size ≤ w15.heap.size) := ⟨hkw.1⟩
 have B15 := Aside0.mk hbw
 clear hkw hbw
 replace O8 := Aside0.mk (Kd.R_kept O8.out hk15.out (fun k h1 h2 => iv_off (Nat.le_trans z4.out (Nat.le_trans z5.out z6.out)) h1.1 h2.1))
 replace O13 := Aside0.mk (Kd.S_kept O13.out hk15.out (fun k h1 h2 => iv_off (Nat.le_trans z5.out z6.out) h1.1 h2.1))
 replace O19 := Aside0.mk (Kd.N_kept O19.out hk15.out (fun k h1 h2 => iv_off z6.out h1.1 h2.1))
 replace O43 := Aside0.mk (Kd.R_kept O43.out hk15.out (fun k h1 h2 => iv_off (Nat.le_refl _) h1.1 h2.1))
 replace O29 := Aside0.mk (Kd.S_kept O29.out hk15.out (fun k h1 h2 => iv_off (Nat.le_refl _) h2.1 h1.1))
 replace O33 := Aside0.mk (Kd.R_kept O33.out hk15.out (fun k h1 h2 => iv_off (Nat.le_trans z8.out z9.out) h2.1 h1.1))
 replace O37 := Aside0.mk (Kd.S_kept O37.out hk15.out (fun k h1 h2 => iv_off (Nat.le_trans z8.out (Nat.le_trans z9.out (Nat.le_trans z10.out z11.out))) h2.1 h1.1))
 have O47 := Aside0.mk (again_S O25.out hw0)
 clear O25 hw0
 go_wp2_with fail
 refine (laws_eqArchiveBoxS.calls K _ _ t15 _ _ t15 _ _ (Kd.S_reads' O29.out).2.2 (Kd.S_reads' O29.out).2.1 (Kd.N_reads' O19.out).2.2 (Kd.N_reads' O19.out).2.1 Hf31.out).mono ?_
 rintro e w16 ⟨rfl, hbw⟩
 have hb16 := Aside0.mk hbw
 have z16 : Aside0 (w15.heap.size ≤ w16.heap.size) := ⟨hbw.size⟩
 have B16 := Aside0.mk (below_then B15.out B15.out.size hbw)
 clear hbw
 replace O8 := Aside0.mk (Kd.R_below O8.out hb16.out)
 replace O13 := Aside0.mk (Kd.S_below O13.out hb16.out)
 replace O19 := Aside0.mk (Kd.N_below O19.out hb16.out)
 replace O43 := Aside0.mk (Kd.R_below O43.out hb16.out)
 replace O47 := Aside0.mk (Kd.S_below O47.out hb16.out)
 replace O29 := Aside0.mk (Kd.S_below O29.out hb16.out)
 replace O33 := Aside0.mk (Kd.R_below O33.out hb16.out)
 replace O37 := Aside0.mk (Kd.S_below O37.out hb16.out)
 go_wp2_with fail
 refine (laws_markArchiveBoxS.calls _ _ t15 (1) _ _ w _ B16.out O29.out Hf50.out).mono ?_
 rintro e w17 ⟨rfl, hw0, hbw, hkw⟩
 have hk17 := Aside0.mk hkw
 have z17 : Aside0 (w16.heap.size ≤ w17.heap.size) := ⟨hkw.1⟩
 have B17 := Aside0.mk hbw
 clear hkw hbw
 replace O8 := Aside0.mk (Kd.R_kept O8.out hk17.out (fun k h1 h2 => iv_off (Nat.le_trans z4.out (Nat.le_trans z5.out (Nat.le_trans z6.out z7.out))) h1.1 h2.1))
 replace O13 := Aside0.mk (Kd.S_kept O13.out hk17.out (fun k h1 h2 => iv_off (Nat.le_trans z5.out (Nat.le_trans z6.out z7.out)) h1.1 h2.1))
 replace O19 := Aside0.mk (Kd.N_kept O19.out hk17.out (fun k h1 h2 => iv_off (Nat.le_trans z6.out z7.out) h1.1 h2.1))
 replace O43 := Aside0.mk (Kd.R_kept O43.out hk17.out (fun k h1 h2 => iv_off z7.out h1.1 h2.1))
 replace O47 := Aside0.mk (Kd.S_kept O47.out hk17.out (fun k h1 h2 => iv_off (Nat.le_refl _) h1.1 h2.1))
 replace O33 := Aside0.mk (Kd.R_kept O33.out hk17.out (fun k h1 h2 => iv_off z9.out h2.1 h1.1))
 replace O37 := Aside0.mk (Kd.S_kept O37.out hk17.out (fun k h1 h2 => iv_off (Nat.le_trans z9.out (Nat.le_trans z10.out z11.out)) h2.1 h1.1))
 have O51 := Aside0.mk (again_S O29.out hw0)
 clear O29 hw0
 go_wp2_with fail
 refine calls_of_args (args' := #[.slice As30 t49.length cs30, .int .i64 1]) (by rw [← (Kd.S_reads' O51.out).1]) ?_
 refine (laws_heldArchiveBoxS.calls K _ _ t49 (1) _ _ (Kd.S_reads' O51.out).2.2 (by have h1 := (Kd.S_reads' O51.out).1; have h2 := (Kd.S_reads' O51.out).2.1; omega) Hf52.out).mono ?_
 rintro e w18 ⟨rfl, hdw⟩
 have hbw := Drawn0.below hdw
 clear hdw
 have hb18 := Aside0.mk hbw
 have z18 : Aside0 (w17.heap.size ≤ w18.heap.size) := ⟨hbw.size⟩
 have B18 := Aside0.mk (below_then B17.out B17.out.size hbw)
 clear hbw
 replace O8 := Aside0.mk (Kd.R_below O8.out hb18.out)
 replace O13 := Aside0.mk (Kd.S_below O13.out hb18.out)
 replace O19 := Aside0.mk (Kd.N_below O19.out hb18.out)
 replace O43 := Aside0.mk (Kd.R_below O43.out hb18.out)
 replace O47 := Aside0.mk (Kd.S_below O47.out hb18.out)
 replace O51 := Aside0.mk (Kd.S_below O51.out hb18.out)
 replace O33 := Aside0.mk (Kd.R_below O33.out hb18.out)
 replace O37 := Aside0.mk (Kd.S_below O37.out hb18.out)
 go_wp2_with fail
 refine (laws_toItemS.calls K _ _ l0 _ _ (Kd.C_below HR0.out B18.out) HC0.out Hf6.out).mono ?_
 rintro e w19 ⟨v53, rfl, ho0, hbw⟩
 have hb19 := Aside0.mk hbw
 have z19 : Aside0 (w18.heap.size ≤ w19.heap.size) := ⟨hbw.size⟩
 have B19 := Aside0.mk (below_then B18.out B18.out.size hbw)
 clear hbw
 replace O8 := Aside0.mk (Kd.R_below O8.out hb19.out)
 replace O13 := Aside0.mk (Kd.S_below O13.out hb19.out)
 replace O19 := Aside0.mk (Kd.N_below O19.out hb19.out)
 replace O43 := Aside0.mk (Kd.R_below O43.out hb19.out)
 replace O47 := Aside0.mk (Kd.S_below O47.out hb19.out)
 replace O51 := Aside0.mk (Kd.S_below O51.out hb19.out)
 replace O33 := Aside0.mk (Kd.R_below O33.out hb19.out)
 replace O37 := Aside0.mk (Kd.S_below O37.out hb19.out)
 have O54 := Aside0.mk (iv_R B18.out.size hb19.out ho0)
 clear ho0
 obtain ⟨As55, cs55, rfl⟩ := Kd.R_slice O54.out
 go_wp2_with fail
 refine (laws_toArchiveBoxS.calls K _ _ l1 _ _ (Kd.C_below HR1.out B19.out) HC1.out Hf11.out).mono ?_
 rintro e w20 ⟨v56, rfl, ho0, hbw⟩
 have hb20 := Aside0.mk hbw
 have z20 : Aside0 (w19.heap.size ≤ w20.heap.size) := ⟨hbw.size⟩
 have B20 := Aside0.mk (below_then B19.out B19.out.size hbw)
 clear hbw
 replace O8 := Aside0.mk (Kd.R_below O8.out hb20.out)
 replace O13 := Aside0.mk (Kd.S_below O13.out hb20.out)
 replace O19 := Aside0.mk (Kd.N_below O19.out hb20.out)
 replace O43 := Aside0.mk (Kd.R_below O43.out hb20.out)
 replace O47 := Aside0.mk (Kd.S_below O47.out hb20.out)
 replace O51 := Aside0.mk (Kd.S_below O51.out hb20.out)
 replace O33 := Aside0.mk (Kd.R_below O33.out hb20.out)
 replace O37 := Aside0.mk (Kd.S_below O37.out hb20.out)
 replace O54 := Aside0.mk (Kd.R_below O54.out hb20.out)
 have O57 := Aside0.mk (iv_S B19.out.size hb20.out ho0)
 clear ho0
 obtain ⟨As58, cs58, rfl⟩ := Kd.S_slice O57.out
 go_wp2_with fail
 refine (impl_MoveItem.calls K _ _ t5 _ _ t10 (a2) (a3) (a4) _ _ _ (Kd.R_reads' O54.out).2.2 (Kd.R_reads' O54.out).2.1 (Kd.S_reads' O57.out).2.2 (Kd.S_reads' O57.out).2.1 Hf27.out).mono ?_
 rintro e w21 ⟨v59, rfl, ho0, hbw⟩
 have hb21 := Aside0.mk hbw
 have z21 : Aside0 (w20.heap.size ≤ w21.heap.size) := ⟨hbw.size⟩
 have B21 := Aside0.mk (below_then B20.out B20.out.size hbw)
 clear hbw
 replace O8 := Aside0.mk (Kd.R_below O8.out hb21.out)
 replace O13 := Aside0.mk (Kd.S_below O13.out hb21.out)
 replace O19 := Aside0.mk (Kd.N_below O19.out hb21.out)
 replace O43 := Aside0.mk (Kd.R_below O43.out hb21.out)
 replace O47 := Aside0.mk (Kd.S_below O47.out hb21.out)
 replace O51 := Aside0.mk (Kd.S_below O51.out hb21.out)
 replace O33 := Aside0.mk (Kd.R_below O33.out hb21.out)
 replace O37 := Aside0.mk (Kd.S_below O37.out hb21.out)
 replace O54 := Aside0.mk (Kd.R_below O54.out hb21.out)
 replace O57 := Aside0.mk (Kd.S_below O57.out hb21.out)
 have O60 := Aside0.mk (iv_S B20.out.size hb21.out ho0)
 clear ho0
 obtain ⟨As61, cs61, rfl⟩ := Kd.S_slice O60.out
 go_wp2_with fail
 refine (laws_eqArchiveBoxS.calls K _ _ t15 _ _ t15 _ _ (Kd.S_reads' O60.out).2.2 (Kd.S_reads' O60.out).2.1 (Kd.N_reads' O19.out).2.2 (Kd.N_reads' O19.out).2.1 Hf31.out).mono ?_
 rintro e w22 ⟨rfl, hbw⟩
 have hb22 := Aside0.mk hbw
 have z22 : Aside0 (w21.heap.size ≤ w22.heap.size) := ⟨hbw.size⟩
 have B22 := Aside0.mk (below_then B21.out B21.out.size hbw)
 clear hbw
 replace O8 := Aside0.mk (Kd.R_below O8.out hb22.out)
 replace O13 := Aside0.mk (Kd.S_below O13.out hb22.out)
 replace O19 := Aside0.mk (Kd.N_below O19.out hb22.out)
 replace O43 := Aside0.mk (Kd.R_below O43.out hb22.out)
 replace O47 := Aside0.mk (Kd.S_below O47.out hb22.out)
 replace O51 := Aside0.mk (Kd.S_below O51.out hb22.out)
 replace O33 := Aside0.mk (Kd.R_below O33.out hb22.out)
 replace O37 := Aside0.mk (Kd.S_below O37.out hb22.out)
 replace O54 := Aside0.mk (Kd.R_below O54.out hb22.out)
 replace O57 := Aside0.mk (Kd.S_below O57.out hb22.out)
 replace O60 := Aside0.mk (Kd.S_below O60.out hb22.out)
 go_wp2_with fail
 refine calls_of_args (args' := #[.slice As30 t49.length cs30, .int .i64 1]) (by rw [← (Kd.S_reads' O51.out).1]) ?_
 refine (laws_heldArchiveBoxS.calls K _ _ t49 (1) _ _ (Kd.S_reads' O51.out).2.2 (by have h1 := (Kd.S_reads' O51.out).1; have h2 := (Kd.S_reads' O51.out).2.1; omega) Hf52.out).mono ?_
 rintro e w23 ⟨rfl, hdw⟩
 have hbw := Drawn0.below hdw
 clear hdw
 have hb23 := Aside0.mk hbw
 have z23 : Aside0 (w22.heap.size ≤ w23.heap.size) := ⟨hbw.size⟩
 have B23 := Aside0.mk (below_then B22.out B22.out.size hbw)
 clear hbw
 replace O8 := Aside0.mk (Kd.R_below O8.out hb23.out)
 replace O13 := Aside0.mk (Kd.S_below O13.out hb23.out)
 replace O19 := Aside0.mk (Kd.N_below O19.out hb23.out)
 replace O43 := Aside0.mk (Kd.R_below O43.out hb23.out)
 replace O47 := Aside0.mk (Kd.S_below O47.out hb23.out)
 replace O51 := Aside0.mk (Kd.S_below O51.out hb23.out)
 replace O33 := Aside0.mk (Kd.R_below O33.out hb23.out)
 replace O37 := Aside0.mk (Kd.S_below O37.out hb23.out)
 replace O54 := Aside0.mk (Kd.R_below O54.out hb23.out)
 replace O57 := Aside0.mk (Kd.S_below O57.out hb23.out)
 replace O60 := Aside0.mk (Kd.S_below O60.out hb23.out)
 go_wp2_with fail
 go_ret
 exact ⟨rfl, B23.out⟩
def FnExactMoveItem.Goal (K : Nat) (l0 : List S65) (l1 : List S60) (a2 : Int) (a3 : Int) (a4 : Int) : Prop :=
 (∃ (s1 : Int), (laws_szItemS.f l0 1048576 = some s1) ∧ (s1 < 0))
 ∨ (∃ (s1 : Int) (s3 : Int), (laws_szItemS.f l0 1048576 = some s1) ∧ (laws_szArchiveBoxS.f K l1 s1 = some s3) ∧ (0 ≤ s1) ∧ (s3 < 0))
 ∨ (∃ (s1 : Int) (s3 : Int) (t5 : List (S50)) (t10 : List (S62)) (t15 : List (S62)) (t16 : Bool) (t40 : Int) (t41 : List (S50)) (t44 : Int) (t45 : List (S62)) (t48 : Int) (t49 : List (S62)), (laws_szItemS.f l0 1048576 = some s1) ∧ (laws_szArchiveBoxS.f K l1 s1 = some s3) ∧ (laws_toItemS.f K l0 = some t5) ∧ (laws_toArchiveBoxS.f K l1 = some t10) ∧ (spec_MoveItem.f K t5 t10 a2 a3 a4 = some (t15, t16)) ∧ (impl_MoveItem.f K t5 t10 a2 a3 a4 = some (t15, t16)) ∧ (laws_eqArchiveBoxS.f K t15 t15 = some true) ∧ (laws_eqItemS.f K t5 t5 = some true) ∧ (laws_eqArchiveBoxS.f K t10 t10 = some true) ∧ (laws_markItemS.f K t5 1 = some (t40, t41)) ∧ (laws_markArchiveBoxS.f t10 t40 = some (t44, t45)) ∧ (laws_markArchiveBoxS.f t15 1 = some (t48, t49)) ∧ (laws_heldArchiveBoxS.f K t49 1 = some t48) ∧ (0 ≤ s1) ∧ (0 ≤ s3) ∧ (0 ≤ t40) ∧ (0 ≤ t44) ∧ (0 ≤ t48))
theorem FnExactMoveItem.walk (K : Nat) (A0 : Option Addr) (c0 : Nat) (l0 : List S65) (A1 : Option Addr) (c1 : Nat) (l1 : List S60) (a2 : Int) (a3 : Int) (a4 : Int) (h : FnExactMoveItem.Goal K l0 l1 a2 a3 a4) (w : World) (hr0 : Kd.C k65 w A0 l0.length l0) (hc0 : l0.length ≤ c0) (hr1 : Kd.C k60 w A1 l1.length l1) (hc1 : l1.length ≤ c1) :
  Calls Try.prog 5 #[.slice A0 l0.length c0, .slice A1 l1.length c1, .int .i64 a2, .int .i64 a3, .int .i64 a4] w fun e w' => e = .returned (.bool true) ∧ Below w.heap.size w w' := by
 rcases h with ⟨s1, Hf2, G⟩ | ⟨s1, s3, Hf2, Hf4, G0, G⟩ | ⟨s1, s3, t5, t10, t15, t16, t40, t41, t44, t45, t48, t49, Hf2, Hf4, Hf6, Hf11, Hf17, Hf27, Hf31, Hf35, Hf39, Hf42, Hf46, Hf50, Hf52, G0, G1, Pt40, Pt44, Pt48⟩
 ·exact FnExactMoveItem.exit0 K A0 c0 l0 A1 c1 l1 a2 a3 a4 s1 Hf2 G w hr0 hc0 hr1 hc1
 ·exact FnExactMoveItem.exit1 K A0 c0 l0 A1 c1 l1 a2 a3 a4 s1 s3 Hf2 Hf4 G0 G w hr0 hc0 hr1 hc1
 ·exact FnExactMoveItem.main K A0 c0 l0 A1 c1 l1 a2 a3 a4 s1 s3 t5 t10 t15 t16 t40 t41 t44 t45 t48 t49 Hf2 Hf4 Hf6 Hf11 Hf17 Hf27 Hf31 Hf35 Hf39 Hf42 Hf46 Hf50 Hf52 G0 G1 Pt40 Pt44 Pt48 w hr0 hc0 hr1 hc1
end Go.Proofs.Ytoadgikbbigdlaa.M
