import Derived.Test.YtoadgikbbigdlaaMnPx1
import Derived.Test.YtoadgikbbigdlaaMnPx15
import Derived.Test.YtoadgikbbigdlaaMnPx16
import Derived.Test.YtoadgikbbigdlaaMnPx17
import Derived.Test.YtoadgikbbigdlaaMnPx18
import Derived.Test.YtoadgikbbigdlaaMnPx5
import Derived.Test.YtoadgikbbigdlaaMnPx6
namespace Go.Proofs.Ytoadgikbbigdlaa.P
open Go.RowKit Go.Proofs.YtoadgikbbigdlaaW.PrintWords Go.Proofs.YtoadgikbbigdlaaW.PrintLast Go.Proofs.YtoadgikbbigdlaaW.PrintMore
set_option linter.unusedVariables false
set_option maxHeartbeats 8000000 in
set_option maxRecDepth 100000 in
theorem FnExactMissingNumbers.exit0 (K : Nat) (A0 : Option Addr) (c0 : Nat) (l0 : List S65) (A1 : Option Addr) (c1 : Nat) (l1 : List S60)
    (s1 : Int)
    (Hf2 : laws_szItemS.f l0 1048576 = some s1)
    (G : s1 < 0)
    (w : World) (hr0 : Kd.C k65 w A0 l0.length l0) (hc0 : l0.length ≤ c0) (hr1 : Kd.C k60 w A1 l1.length l1) (hc1 : l1.length ≤ c1) :
    Calls Try.prog 3 #[.slice A0 l0.length c0, .slice A1 l1.length c1] w fun e w' => e = .returned (.bool true) ∧ Below w.heap.size w w' := by
  replace Hf2 := Aside0.mk Hf2
  have HR0 := Aside0.mk hr0
  have HC0 := Aside0.mk hc0
  have HM0 := Aside0.mk (Kd.C_max hr0)
  clear hr0 hc0
  have HR1 := Aside0.mk hr1
  have HC1 := Aside0.mk hc1
  have HM1 := Aside0.mk (Kd.C_max hr1)
  clear hr1 hc1
  have B0 := Aside0.mk (Below.refl w.heap.size w)
  go_enter Try.func3, Try.ntmps3
  go_wp2_with fail
  refine (laws_szItemS.calls _ _ l0 (1048576) _ _ (Kd.C_below HR0.out B0.out) HC0.out Hf2.out).mono ?_
  rintro e w1 ⟨rfl, hdw⟩
  have hbw := Drawn0.below hdw
  clear hdw
  have hb1 := Aside0.mk hbw
  have z1 : Aside0 (w.heap.size ≤ w1.heap.size) := ⟨hbw.size⟩
  have B1 := Aside0.mk (below_then B0.out B0.out.size hbw)
  clear hbw
  go_wp2_with fail
  go_ret
  exact ⟨rfl, B1.out⟩
set_option maxHeartbeats 8000000 in
set_option maxRecDepth 100000 in
theorem FnExactMissingNumbers.exit1 (K : Nat) (A0 : Option Addr) (c0 : Nat) (l0 : List S65) (A1 : Option Addr) (c1 : Nat) (l1 : List S60)
    (s1 : Int) (s3 : Int)
    (Hf2 : laws_szItemS.f l0 1048576 = some s1) (Hf4 : laws_szArchiveBoxS.f K l1 s1 = some s3)
    (G0 : 0 ≤ s1) (G : s3 < 0)
    (w : World) (hr0 : Kd.C k65 w A0 l0.length l0) (hc0 : l0.length ≤ c0) (hr1 : Kd.C k60 w A1 l1.length l1) (hc1 : l1.length ≤ c1) :
    Calls Try.prog 3 #[.slice A0 l0.length c0, .slice A1 l1.length c1] w fun e w' => e = .returned (.bool true) ∧ Below w.heap.size w w' := by
  replace Hf2 := Aside0.mk Hf2
  replace Hf4 := Aside0.mk Hf4
  have HR0 := Aside0.mk hr0
  have HC0 := Aside0.mk hc0
  have HM0 := Aside0.mk (Kd.C_max hr0)
  clear hr0 hc0
  have HR1 := Aside0.mk hr1
  have HC1 := Aside0.mk hc1
  have HM1 := Aside0.mk (Kd.C_max hr1)
  clear hr1 hc1
  have B0 := Aside0.mk (Below.refl w.heap.size w)
  go_enter Try.func3, Try.ntmps3
  go_wp2_with fail
  refine (laws_szItemS.calls _ _ l0 (1048576) _ _ (Kd.C_below HR0.out B0.out) HC0.out Hf2.out).mono ?_
  rintro e w1 ⟨rfl, hdw⟩
  have hbw := Drawn0.below hdw
  clear hdw
  have hb1 := Aside0.mk hbw
  have z1 : Aside0 (w.heap.size ≤ w1.heap.size) := ⟨hbw.size⟩
  have B1 := Aside0.mk (below_then B0.out B0.out.size hbw)
  clear hbw
  go_wp2_with fail
  refine (laws_szArchiveBoxS.calls K _ _ l1 (s1) _ _ (Kd.C_below HR1.out B1.out) HC1.out Hf4.out).mono ?_
  rintro e w2 ⟨rfl, hbw⟩
  have hb2 := Aside0.mk hbw
  have z2 : Aside0 (w1.heap.size ≤ w2.heap.size) := ⟨hbw.size⟩
  have B2 := Aside0.mk (below_then B1.out B1.out.size hbw)
  clear hbw
  go_wp2_with fail
  go_ret
  exact ⟨rfl, B2.out⟩
set_option maxHeartbeats 8000000 in
set_option maxRecDepth 100000 in
theorem FnExactMissingNumbers.main (K : Nat) (A0 : Option Addr) (c0 : Nat) (l0 : List S65) (A1 : Option Addr) (c1 : Nat) (l1 : List S60)
    (s1 : Int) (s3 : Int) (t5 : List (S50)) (t10 : List (S62)) (t15 : List Int) (t16 : List Int) (t17 : Bool) (t50 : Int) (t51 : List (S50)) (t54 : Int) (t55 : List (S62)) (t58 : Int) (t59 : List Int) (t62 : Int) (t63 : List Int)
    (Hf2 : laws_szItemS.f l0 1048576 = some s1) (Hf4 : laws_szArchiveBoxS.f K l1 s1 = some s3) (Hf6 : laws_toItemS.f K l0 = some t5) (Hf11 : laws_toArchiveBoxS.f K l1 = some t10) (Hf18 : spec_MissingNumbers.f K t5 t10 = some (t15, t16, t17)) (Hf31 : impl_MissingNumbers.f K t5 t10 = some (t15, t16, t17)) (Hf40 : laws_eqIntS.f K t15 t15 = some true) (Hf41 : laws_eqIntS.f K t16 t16 = some true) (Hf45 : laws_eqItemS.f K t5 t5 = some true) (Hf49 : laws_eqArchiveBoxS.f K t10 t10 = some true) (Hf52 : laws_markItemS.f K t5 1 = some (t50, t51)) (Hf56 : laws_markArchiveBoxS.f t10 t50 = some (t54, t55)) (Hf60 : laws_markIntS.f K t15 1 = some (t58, t59)) (Hf64 : laws_markIntS.f K t16 t58 = some (t62, t63)) (Hf66 : laws_heldIntS.f K t59 1 = some t58) (Hf67 : laws_heldIntS.f K t63 t58 = some t62)
    (G0 : 0 ≤ s1) (G1 : 0 ≤ s3) (Pt50 : 0 ≤ t50) (Pt54 : 0 ≤ t54) (Pt58 : 0 ≤ t58) (Pt62 : 0 ≤ t62)
    (w : World) (hr0 : Kd.C k65 w A0 l0.length l0) (hc0 : l0.length ≤ c0) (hr1 : Kd.C k60 w A1 l1.length l1) (hc1 : l1.length ≤ c1) :
    Calls Try.prog 3 #[.slice A0 l0.length c0, .slice A1 l1.length c1] w fun e w' => e = .returned (.bool true) ∧ Below w.heap.size w w' := by
  replace Hf2 := Aside0.mk Hf2
  replace Hf4 := Aside0.mk Hf4
  replace Hf6 := Aside0.mk Hf6
  replace Hf11 := Aside0.mk Hf11
  replace Hf18 := Aside0.mk Hf18
  replace Hf31 := Aside0.mk Hf31
  replace Hf40 := Aside0.mk Hf40
  replace Hf41 := Aside0.mk Hf41
  replace Hf45 := Aside0.mk Hf45
  replace Hf49 := Aside0.mk Hf49
  replace Hf52 := Aside0.mk Hf52
  replace Hf56 := Aside0.mk Hf56
  replace Hf60 := Aside0.mk Hf60
  replace Hf64 := Aside0.mk Hf64
  replace Hf66 := Aside0.mk Hf66
  replace Hf67 := Aside0.mk Hf67
  have HR0 := Aside0.mk hr0
  have HC0 := Aside0.mk hc0
  have HM0 := Aside0.mk (Kd.C_max hr0)
  clear hr0 hc0
  have HR1 := Aside0.mk hr1
  have HC1 := Aside0.mk hc1
  have HM1 := Aside0.mk (Kd.C_max hr1)
  clear hr1 hc1
  have B0 := Aside0.mk (Below.refl w.heap.size w)
  go_enter Try.func3, Try.ntmps3
  go_wp2_with fail
  refine (laws_szItemS.calls _ _ l0 (1048576) _ _ (Kd.C_below HR0.out B0.out) HC0.out Hf2.out).mono ?_
  rintro e w1 ⟨rfl, hdw⟩
  have hbw := Drawn0.below hdw
  clear hdw
  have hb1 := Aside0.mk hbw
  have z1 : Aside0 (w.heap.size ≤ w1.heap.size) := ⟨hbw.size⟩
  have B1 := Aside0.mk (below_then B0.out B0.out.size hbw)
  clear hbw
  go_wp2_with fail
  refine (laws_szArchiveBoxS.calls K _ _ l1 (s1) _ _ (Kd.C_below HR1.out B1.out) HC1.out Hf4.out).mono ?_
  rintro e w2 ⟨rfl, hbw⟩
  have hb2 := Aside0.mk hbw
  have z2 : Aside0 (w1.heap.size ≤ w2.heap.size) := ⟨hbw.size⟩
  have B2 := Aside0.mk (below_then B1.out B1.out.size hbw)
  clear hbw
  go_wp2_with fail
  refine (laws_toItemS.calls K _ _ l0 _ _ (Kd.C_below HR0.out B2.out) HC0.out Hf6.out).mono ?_
  rintro e w3 ⟨v7, rfl, ho0, hbw⟩
  have hb3 := Aside0.mk hbw
  have z3 : Aside0 (w2.heap.size ≤ w3.heap.size) := ⟨hbw.size⟩
  have B3 := Aside0.mk (below_then B2.out B2.out.size hbw)
  clear hbw
  have O8 := Aside0.mk (iv_R B2.out.size hb3.out ho0)
  clear ho0
  obtain ⟨As9, cs9, rfl⟩ := Kd.R_slice O8.out
  go_wp2_with fail
  refine (laws_toArchiveBoxS.calls K _ _ l1 _ _ (Kd.C_below HR1.out B3.out) HC1.out Hf11.out).mono ?_
  rintro e w4 ⟨v12, rfl, ho0, hbw⟩
  have hb4 := Aside0.mk hbw
  have z4 : Aside0 (w3.heap.size ≤ w4.heap.size) := ⟨hbw.size⟩
  have B4 := Aside0.mk (below_then B3.out B3.out.size hbw)
  clear hbw
  replace O8 := Aside0.mk (Kd.R_below O8.out hb4.out)
  have O13 := Aside0.mk (iv_S B3.out.size hb4.out ho0)
  clear ho0
  obtain ⟨As14, cs14, rfl⟩ := Kd.S_slice O13.out
  go_wp2_with fail
  refine (spec_MissingNumbers.calls K _ _ t5 _ _ t10 _ _ _ _ (Kd.R_reads' O8.out).2.2 (Kd.R_reads' O8.out).2.1 (Kd.S_reads' O13.out).2.2 (Kd.S_reads' O13.out).2.1 Hf18.out).mono ?_
  rintro e w5 ⟨v19, v20, rfl, ho0, ho1, hbw⟩
  have hb5 := Aside0.mk hbw
  have z5 : Aside0 (w4.heap.size ≤ w5.heap.size) := ⟨hbw.size⟩
  have B5 := Aside0.mk (below_then B4.out B4.out.size hbw)
  clear hbw
  replace O8 := Aside0.mk (Kd.R_below O8.out hb5.out)
  replace O13 := Aside0.mk (Kd.S_below O13.out hb5.out)
  have O21 := Aside0.mk (iv_tight rfl B4.out.size hb5.out ho0)
  have O22 := Aside0.mk (iv_V B4.out.size hb5.out ho1 (fun _ hk => by first | exact hk | exact hk.1 | exact hk.1.1))
  clear ho0
  obtain ⟨As23, cs23, rfl⟩ := Kd.R_slice O21.out
  clear ho1
  obtain ⟨As24, cs24, rfl⟩ := Kd.V_slice O22.out
  go_wp2_with fail
  refine (laws_toItemS.calls K _ _ l0 _ _ (Kd.C_below HR0.out B5.out) HC0.out Hf6.out).mono ?_
  rintro e w6 ⟨v25, rfl, ho0, hbw⟩
  have hb6 := Aside0.mk hbw
  have z6 : Aside0 (w5.heap.size ≤ w6.heap.size) := ⟨hbw.size⟩
  have B6 := Aside0.mk (below_then B5.out B5.out.size hbw)
  clear hbw
  replace O8 := Aside0.mk (Kd.R_below O8.out hb6.out)
  replace O13 := Aside0.mk (Kd.S_below O13.out hb6.out)
  replace O21 := Aside0.mk (Kd.R_below O21.out hb6.out)
  replace O22 := Aside0.mk (Kd.V_below O22.out hb6.out)
  have O26 := Aside0.mk (iv_R B5.out.size hb6.out ho0)
  clear ho0
  obtain ⟨As27, cs27, rfl⟩ := Kd.R_slice O26.out
  go_wp2_with fail
  refine (laws_toArchiveBoxS.calls K _ _ l1 _ _ (Kd.C_below HR1.out B6.out) HC1.out Hf11.out).mono ?_
  rintro e w7 ⟨v28, rfl, ho0, hbw⟩
  have hb7 := Aside0.mk hbw
  have z7 : Aside0 (w6.heap.size ≤ w7.heap.size) := ⟨hbw.size⟩
  have B7 := Aside0.mk (below_then B6.out B6.out.size hbw)
  clear hbw
  replace O8 := Aside0.mk (Kd.R_below O8.out hb7.out)
  replace O13 := Aside0.mk (Kd.S_below O13.out hb7.out)
  replace O21 := Aside0.mk (Kd.R_below O21.out hb7.out)
  replace O22 := Aside0.mk (Kd.V_below O22.out hb7.out)
  replace O26 := Aside0.mk (Kd.R_below O26.out hb7.out)
  have O29 := Aside0.mk (iv_S B6.out.size hb7.out ho0)
  clear ho0
  obtain ⟨As30, cs30, rfl⟩ := Kd.S_slice O29.out
  go_wp2_with fail
  refine (impl_MissingNumbers.calls K _ _ t5 _ _ t10 _ _ _ _ (Kd.R_reads' O26.out).2.2 (Kd.R_reads' O26.out).2.1 (Kd.S_reads' O29.out).2.2 (Kd.S_reads' O29.out).2.1 Hf31.out).mono ?_
  rintro e w8 ⟨v32, v33, rfl, ho0, ho1, hbw⟩
  have hb8 := Aside0.mk hbw
  have z8 : Aside0 (w7.heap.size ≤ w8.heap.size) := ⟨hbw.size⟩
  have B8 := Aside0.mk (below_then B7.out B7.out.size hbw)
  clear hbw
  replace O8 := Aside0.mk (Kd.R_below O8.out hb8.out)
  replace O13 := Aside0.mk (Kd.S_below O13.out hb8.out)
  replace O21 := Aside0.mk (Kd.R_below O21.out hb8.out)
  replace O22 := Aside0.mk (Kd.V_below O22.out hb8.out)
  replace O26 := Aside0.mk (Kd.R_below O26.out hb8.out)
  replace O29 := Aside0.mk (Kd.S_below O29.out hb8.out)
  have ne36 : ∀ k, some k = (v32 : Value).ownBlock → some k = (v33 : Value).ownBlock → False := fun k h1 h2 => (ho0.1 k h1.symm) h2
  have ne37 : ∀ k, some k = (v33 : Value).ownBlock → some k = (v32 : Value).ownBlock → False := fun k h1 h2 => (ho1.1 k h1.symm) h2
  have O34 := Aside0.mk (iv_tight rfl B7.out.size hb8.out ho0)
  have O35 := Aside0.mk (iv_tight rfl B7.out.size hb8.out ho1)
  clear ho0
  obtain ⟨As38, cs38, rfl⟩ := Kd.R_slice O34.out
  clear ho1
  obtain ⟨As39, cs39, rfl⟩ := Kd.R_slice O35.out
  go_wp2_with fail
  refine (laws_eqIntS.calls K _ _ t15 _ _ t15 _ _ (Kd.R_reads' O34.out).2.2 (Kd.R_reads' O34.out).2.1 (Kd.R_reads' O21.out).2.2 (Kd.R_reads' O21.out).2.1 Hf40.out).mono ?_
  rintro e w9 ⟨rfl, hdw⟩
  have hbw := Drawn0.below hdw
  clear hdw
  have hb9 := Aside0.mk hbw
  have z9 : Aside0 (w8.heap.size ≤ w9.heap.size) := ⟨hbw.size⟩
  have B9 := Aside0.mk (below_then B8.out B8.out.size hbw)
  clear hbw
  replace O8 := Aside0.mk (Kd.R_below O8.out hb9.out)
  replace O13 := Aside0.mk (Kd.S_below O13.out hb9.out)
  replace O21 := Aside0.mk (Kd.R_below O21.out hb9.out)
  replace O22 := Aside0.mk (Kd.V_below O22.out hb9.out)
  replace O26 := Aside0.mk (Kd.R_below O26.out hb9.out)
  replace O29 := Aside0.mk (Kd.S_below O29.out hb9.out)
  replace O34 := Aside0.mk (Kd.R_below O34.out hb9.out)
  replace O35 := Aside0.mk (Kd.R_below O35.out hb9.out)
  go_wp2_with fail
  refine (laws_eqIntS.calls K _ _ t16 _ _ t16 _ _ (Kd.R_reads' O35.out).2.2 (Kd.R_reads' O35.out).2.1 (Kd.V_reads' O22.out).2.2 (Kd.V_reads' O22.out).2.1 Hf41.out).mono ?_
  rintro e w10 ⟨rfl, hdw⟩
  have hbw := Drawn0.below hdw
  clear hdw
  have hb10 := Aside0.mk hbw
  have z10 : Aside0 (w9.heap.size ≤ w10.heap.size) := ⟨hbw.size⟩
  have B10 := Aside0.mk (below_then B9.out B9.out.size hbw)
  clear hbw
  replace O8 := Aside0.mk (Kd.R_below O8.out hb10.out)
  replace O13 := Aside0.mk (Kd.S_below O13.out hb10.out)
  replace O21 := Aside0.mk (Kd.R_below O21.out hb10.out)
  replace O22 := Aside0.mk (Kd.V_below O22.out hb10.out)
  replace O26 := Aside0.mk (Kd.R_below O26.out hb10.out)
  replace O29 := Aside0.mk (Kd.S_below O29.out hb10.out)
  replace O34 := Aside0.mk (Kd.R_below O34.out hb10.out)
  replace O35 := Aside0.mk (Kd.R_below O35.out hb10.out)
  go_wp2_with fail
  refine (laws_toItemS.calls K _ _ l0 _ _ (Kd.C_below HR0.out B10.out) HC0.out Hf6.out).mono ?_
  rintro e w11 ⟨v42, rfl, ho0, hbw⟩
  have hb11 := Aside0.mk hbw
  have z11 : Aside0 (w10.heap.size ≤ w11.heap.size) := ⟨hbw.size⟩
  have B11 := Aside0.mk (below_then B10.out B10.out.size hbw)
  clear hbw
  replace O8 := Aside0.mk (Kd.R_below O8.out hb11.out)
  replace O13 := Aside0.mk (Kd.S_below O13.out hb11.out)
  replace O21 := Aside0.mk (Kd.R_below O21.out hb11.out)
  replace O22 := Aside0.mk (Kd.V_below O22.out hb11.out)
  replace O26 := Aside0.mk (Kd.R_below O26.out hb11.out)
  replace O29 := Aside0.mk (Kd.S_below O29.out hb11.out)
  replace O34 := Aside0.mk (Kd.R_below O34.out hb11.out)
  replace O35 := Aside0.mk (Kd.R_below O35.out hb11.out)
  have O43 := Aside0.mk (iv_R B10.out.size hb11.out ho0)
  clear ho0
  obtain ⟨As44, cs44, rfl⟩ := Kd.R_slice O43.out
  go_wp2_with fail
  refine (laws_eqItemS.calls K _ _ t5 _ _ t5 _ _ (Kd.R_reads' O26.out).2.2 (Kd.R_reads' O26.out).2.1 (Kd.R_reads' O43.out).2.2 (Kd.R_reads' O43.out).2.1 Hf45.out).mono ?_
  rintro e w12 ⟨rfl, hbw⟩
  have hb12 := Aside0.mk hbw
  have z12 : Aside0 (w11.heap.size ≤ w12.heap.size) := ⟨hbw.size⟩
  have B12 := Aside0.mk (below_then B11.out B11.out.size hbw)
  clear hbw
  replace O8 := Aside0.mk (Kd.R_below O8.out hb12.out)
  replace O13 := Aside0.mk (Kd.S_below O13.out hb12.out)
  replace O21 := Aside0.mk (Kd.R_below O21.out hb12.out)
  replace O22 := Aside0.mk (Kd.V_below O22.out hb12.out)
  replace O26 := Aside0.mk (Kd.R_below O26.out hb12.out)
  replace O29 := Aside0.mk (Kd.S_below O29.out hb12.out)
  replace O34 := Aside0.mk (Kd.R_below O34.out hb12.out)
  replace O35 := Aside0.mk (Kd.R_below O35.out hb12.out)
  replace O43 := Aside0.mk (Kd.R_below O43.out hb12.out)
  go_wp2_with fail
  refine (laws_toArchiveBoxS.calls K _ _ l1 _ _ (Kd.C_below HR1.out B12.out) HC1.out Hf11.out).mono ?_
  rintro e w13 ⟨v46, rfl, ho0, hbw⟩
  have hb13 := Aside0.mk hbw
  have z13 : Aside0 (w12.heap.size ≤ w13.heap.size) := ⟨hbw.size⟩
  have B13 := Aside0.mk (below_then B12.out B12.out.size hbw)
  clear hbw
  replace O8 := Aside0.mk (Kd.R_below O8.out hb13.out)
  replace O13 := Aside0.mk (Kd.S_below O13.out hb13.out)
  replace O21 := Aside0.mk (Kd.R_below O21.out hb13.out)
  replace O22 := Aside0.mk (Kd.V_below O22.out hb13.out)
  replace O26 := Aside0.mk (Kd.R_below O26.out hb13.out)
  replace O29 := Aside0.mk (Kd.S_below O29.out hb13.out)
  replace O34 := Aside0.mk (Kd.R_below O34.out hb13.out)
  replace O35 := Aside0.mk (Kd.R_below O35.out hb13.out)
  replace O43 := Aside0.mk (Kd.R_below O43.out hb13.out)
  have O47 := Aside0.mk (iv_S B12.out.size hb13.out ho0)
  clear ho0
  obtain ⟨As48, cs48, rfl⟩ := Kd.S_slice O47.out
  go_wp2_with fail
  refine (laws_eqArchiveBoxS.calls K _ _ t10 _ _ t10 _ _ (Kd.S_reads' O29.out).2.2 (Kd.S_reads' O29.out).2.1 (Kd.S_reads' O47.out).2.2 (Kd.S_reads' O47.out).2.1 Hf49.out).mono ?_
  rintro e w14 ⟨rfl, hbw⟩
  have hb14 := Aside0.mk hbw
  have z14 : Aside0 (w13.heap.size ≤ w14.heap.size) := ⟨hbw.size⟩
  have B14 := Aside0.mk (below_then B13.out B13.out.size hbw)
  clear hbw
  replace O8 := Aside0.mk (Kd.R_below O8.out hb14.out)
  replace O13 := Aside0.mk (Kd.S_below O13.out hb14.out)
  replace O21 := Aside0.mk (Kd.R_below O21.out hb14.out)
  replace O22 := Aside0.mk (Kd.V_below O22.out hb14.out)
  replace O26 := Aside0.mk (Kd.R_below O26.out hb14.out)
  replace O29 := Aside0.mk (Kd.S_below O29.out hb14.out)
  replace O34 := Aside0.mk (Kd.R_below O34.out hb14.out)
  replace O35 := Aside0.mk (Kd.R_below O35.out hb14.out)
  replace O43 := Aside0.mk (Kd.R_below O43.out hb14.out)
  replace O47 := Aside0.mk (Kd.S_below O47.out hb14.out)
  go_wp2_with fail
  refine (laws_markItemS.calls K _ _ t5 (1) _ _ w _ B14.out O26.out Hf52.out).mono ?_
  rintro e w15 ⟨rfl, hw0, hbw, hkw⟩
  have hk15 := Aside0.mk hkw
  have z15 : Aside0 (w14.heap.size ≤ w15.heap.size) := ⟨hkw.1⟩
  have B15 := Aside0.mk hbw
  clear hkw hbw
  replace O8 := Aside0.mk (Kd.R_kept O8.out hk15.out (fun k h1 h2 => iv_off (Nat.le_trans z4.out z5.out) h1.1 h2.1))
  replace O13 := Aside0.mk (Kd.S_kept O13.out hk15.out (fun k h1 h2 => iv_off z5.out h1.1 h2.1))
  replace O21 := Aside0.mk (Kd.R_kept O21.out hk15.out (fun k h1 h2 => iv_off (Nat.le_refl _) h1.1 h2.1))
  replace O22 := Aside0.mk (Kd.V_kept O22.out hk15.out (fun k h1 h2 => iv_off (Nat.le_refl _) h1.1 h2.1))
  replace O29 := Aside0.mk (Kd.S_kept O29.out hk15.out (fun k h1 h2 => iv_off (Nat.le_refl _) h2.1 h1.1))
  replace O34 := Aside0.mk (Kd.R_kept O34.out hk15.out (fun k h1 h2 => iv_off z7.out h2.1 h1.1))
  replace O35 := Aside0.mk (Kd.R_kept O35.out hk15.out (fun k h1 h2 => iv_off z7.out h2.1 h1.1))
  replace O43 := Aside0.mk (Kd.R_kept O43.out hk15.out (fun k h1 h2 => iv_off (Nat.le_trans z7.out (Nat.le_trans z8.out (Nat.le_trans z9.out z10.out))) h2.1 h1.1))
  replace O47 := Aside0.mk (Kd.S_kept O47.out hk15.out (fun k h1 h2 => iv_off (Nat.le_trans z7.out (Nat.le_trans z8.out (Nat.le_trans z9.out (Nat.le_trans z10.out (Nat.le_trans z11.out z12.out))))) h2.1 h1.1))
  have O53 := Aside0.mk (again_R rfl O26.out hw0)
  clear O26 hw0
  go_wp2_with fail
  refine (laws_markArchiveBoxS.calls _ _ t10 (t50) _ _ w _ B15.out O29.out Hf56.out).mono ?_
  rintro e w16 ⟨rfl, hw0, hbw, hkw⟩
  have hk16 := Aside0.mk hkw
  have z16 : Aside0 (w15.heap.size ≤ w16.heap.size) := ⟨hkw.1⟩
  have B16 := Aside0.mk hbw
  clear hkw hbw
  replace O8 := Aside0.mk (Kd.R_kept O8.out hk16.out (fun k h1 h2 => iv_off (Nat.le_trans z4.out (Nat.le_trans z5.out z6.out)) h1.1 h2.1))
  replace O13 := Aside0.mk (Kd.S_kept O13.out hk16.out (fun k h1 h2 => iv_off (Nat.le_trans z5.out z6.out) h1.1 h2.1))
  replace O21 := Aside0.mk (Kd.R_kept O21.out hk16.out (fun k h1 h2 => iv_off z6.out h1.1 h2.1))
  replace O22 := Aside0.mk (Kd.V_kept O22.out hk16.out (fun k h1 h2 => iv_off z6.out h1.1 h2.1))
  replace O53 := Aside0.mk (Kd.R_kept O53.out hk16.out (fun k h1 h2 => iv_off (Nat.le_refl _) h1.1 h2.1))
  replace O34 := Aside0.mk (Kd.R_kept O34.out hk16.out (fun k h1 h2 => iv_off (Nat.le_refl _) h2.1 h1.1))
  replace O35 := Aside0.mk (Kd.R_kept O35.out hk16.out (fun k h1 h2 => iv_off (Nat.le_refl _) h2.1 h1.1))
  replace O43 := Aside0.mk (Kd.R_kept O43.out hk16.out (fun k h1 h2 => iv_off (Nat.le_trans z8.out (Nat.le_trans z9.out z10.out)) h2.1 h1.1))
  replace O47 := Aside0.mk (Kd.S_kept O47.out hk16.out (fun k h1 h2 => iv_off (Nat.le_trans z8.out (Nat.le_trans z9.out (Nat.le_trans z10.out (Nat.le_trans z11.out z12.out)))) h2.1 h1.1))
  have O57 := Aside0.mk (again_S O29.out hw0)
  clear O29 hw0
  go_wp2_with fail
  refine (laws_eqIntS.calls K _ _ t15 _ _ t15 _ _ (Kd.R_reads' O34.out).2.2 (Kd.R_reads' O34.out).2.1 (Kd.R_reads' O21.out).2.2 (Kd.R_reads' O21.out).2.1 Hf40.out).mono ?_
  rintro e w17 ⟨rfl, hdw⟩
  have hbw := Drawn0.below hdw
  clear hdw
  have hb17 := Aside0.mk hbw
  have z17 : Aside0 (w16.heap.size ≤ w17.heap.size) := ⟨hbw.size⟩
  have B17 := Aside0.mk (below_then B16.out B16.out.size hbw)
  clear hbw
  replace O8 := Aside0.mk (Kd.R_below O8.out hb17.out)
  replace O13 := Aside0.mk (Kd.S_below O13.out hb17.out)
  replace O21 := Aside0.mk (Kd.R_below O21.out hb17.out)
  replace O22 := Aside0.mk (Kd.V_below O22.out hb17.out)
  replace O53 := Aside0.mk (Kd.R_below O53.out hb17.out)
  replace O57 := Aside0.mk (Kd.S_below O57.out hb17.out)
  replace O34 := Aside0.mk (Kd.R_below O34.out hb17.out)
  replace O35 := Aside0.mk (Kd.R_below O35.out hb17.out)
  replace O43 := Aside0.mk (Kd.R_below O43.out hb17.out)
  replace O47 := Aside0.mk (Kd.S_below O47.out hb17.out)
  go_wp2_with fail
  refine (laws_eqIntS.calls K _ _ t16 _ _ t16 _ _ (Kd.R_reads' O35.out).2.2 (Kd.R_reads' O35.out).2.1 (Kd.V_reads' O22.out).2.2 (Kd.V_reads' O22.out).2.1 Hf41.out).mono ?_
  rintro e w18 ⟨rfl, hdw⟩
  have hbw := Drawn0.below hdw
  clear hdw
  have hb18 := Aside0.mk hbw
  have z18 : Aside0 (w17.heap.size ≤ w18.heap.size) := ⟨hbw.size⟩
  have B18 := Aside0.mk (below_then B17.out B17.out.size hbw)
  clear hbw
  replace O8 := Aside0.mk (Kd.R_below O8.out hb18.out)
  replace O13 := Aside0.mk (Kd.S_below O13.out hb18.out)
  replace O21 := Aside0.mk (Kd.R_below O21.out hb18.out)
  replace O22 := Aside0.mk (Kd.V_below O22.out hb18.out)
  replace O53 := Aside0.mk (Kd.R_below O53.out hb18.out)
  replace O57 := Aside0.mk (Kd.S_below O57.out hb18.out)
  replace O34 := Aside0.mk (Kd.R_below O34.out hb18.out)
  replace O35 := Aside0.mk (Kd.R_below O35.out hb18.out)
  replace O43 := Aside0.mk (Kd.R_below O43.out hb18.out)
  replace O47 := Aside0.mk (Kd.S_below O47.out hb18.out)
  go_wp2_with fail
  refine (laws_markIntS.calls K _ _ t15 (1) _ _ w _ B18.out O34.out Hf60.out).mono ?_
  rintro e w19 ⟨rfl, hw0, hbw, hkw⟩
  have hk19 := Aside0.mk hkw
  have z19 : Aside0 (w18.heap.size ≤ w19.heap.size) := ⟨hkw.1⟩
  have B19 := Aside0.mk hbw
  clear hkw hbw
  replace O8 := Aside0.mk (Kd.R_kept O8.out hk19.out (fun k h1 h2 => iv_off (Nat.le_trans z4.out (Nat.le_trans z5.out (Nat.le_trans z6.out z7.out))) h1.1 h2.1))
  replace O13 := Aside0.mk (Kd.S_kept O13.out hk19.out (fun k h1 h2 => iv_off (Nat.le_trans z5.out (Nat.le_trans z6.out z7.out)) h1.1 h2.1))
  replace O21 := Aside0.mk (Kd.R_kept O21.out hk19.out (fun k h1 h2 => iv_off (Nat.le_trans z6.out z7.out) h1.1 h2.1))
  replace O22 := Aside0.mk (Kd.V_kept O22.out hk19.out (fun k h1 h2 => iv_off (Nat.le_trans z6.out z7.out) h1.1 h2.1))
  replace O53 := Aside0.mk (Kd.R_kept O53.out hk19.out (fun k h1 h2 => iv_off z7.out h1.1 h2.1))
  replace O57 := Aside0.mk (Kd.S_kept O57.out hk19.out (fun k h1 h2 => iv_off (Nat.le_refl _) h1.1 h2.1))
  replace O35 := Aside0.mk (Kd.R_kept O35.out hk19.out (fun k h1 h2 => ne37 k h1.2 h2.2))
  replace O43 := Aside0.mk (Kd.R_kept O43.out hk19.out (fun k h1 h2 => iv_off (Nat.le_trans z9.out z10.out) h2.1 h1.1))
  replace O47 := Aside0.mk (Kd.S_kept O47.out hk19.out (fun k h1 h2 => iv_off (Nat.le_trans z9.out (Nat.le_trans z10.out (Nat.le_trans z11.out z12.out))) h2.1 h1.1))
  have O61 := Aside0.mk (again_R rfl O34.out hw0)
  clear O34 hw0
  go_wp2_with fail
  refine (laws_markIntS.calls K _ _ t16 (t58) _ _ w _ B19.out O35.out Hf64.out).mono ?_
  rintro e w20 ⟨rfl, hw0, hbw, hkw⟩
  have hk20 := Aside0.mk hkw
  have z20 : Aside0 (w19.heap.size ≤ w20.heap.size) := ⟨hkw.1⟩
  have B20 := Aside0.mk hbw
  clear hkw hbw
  replace O8 := Aside0.mk (Kd.R_kept O8.out hk20.out (fun k h1 h2 => iv_off (Nat.le_trans z4.out (Nat.le_trans z5.out (Nat.le_trans z6.out z7.out))) h1.1 h2.1))
  replace O13 := Aside0.mk (Kd.S_kept O13.out hk20.out (fun k h1 h2 => iv_off (Nat.le_trans z5.out (Nat.le_trans z6.out z7.out)) h1.1 h2.1))
  replace O21 := Aside0.mk (Kd.R_kept O21.out hk20.out (fun k h1 h2 => iv_off (Nat.le_trans z6.out z7.out) h1.1 h2.1))
  replace O22 := Aside0.mk (Kd.V_kept O22.out hk20.out (fun k h1 h2 => iv_off (Nat.le_trans z6.out z7.out) h1.1 h2.1))
  replace O53 := Aside0.mk (Kd.R_kept O53.out hk20.out (fun k h1 h2 => iv_off z7.out h1.1 h2.1))
  replace O57 := Aside0.mk (Kd.S_kept O57.out hk20.out (fun k h1 h2 => iv_off (Nat.le_refl _) h1.1 h2.1))
  replace O61 := Aside0.mk (Kd.R_kept O61.out hk20.out (fun k h1 h2 => ne36 k h1.2 h2.2))
  replace O43 := Aside0.mk (Kd.R_kept O43.out hk20.out (fun k h1 h2 => iv_off (Nat.le_trans z9.out z10.out) h2.1 h1.1))
  replace O47 := Aside0.mk (Kd.S_kept O47.out hk20.out (fun k h1 h2 => iv_off (Nat.le_trans z9.out (Nat.le_trans z10.out (Nat.le_trans z11.out z12.out))) h2.1 h1.1))
  have O65 := Aside0.mk (again_R rfl O35.out hw0)
  clear O35 hw0
  go_wp2_with fail
  refine calls_of_args (args' := #[.slice As38 t59.length cs38, .int .i64 1]) (by rw [← (Kd.R_reads' O61.out).1]) ?_
  refine (laws_heldIntS.calls K _ _ t59 (1) _ _ (Kd.R_reads' O61.out).2.2 (by have h1 := (Kd.R_reads' O61.out).1; have h2 := (Kd.R_reads' O61.out).2.1; omega) Hf66.out).mono ?_
  rintro e w21 ⟨rfl, hdw⟩
  have hbw := Drawn0.below hdw
  clear hdw
  have hb21 := Aside0.mk hbw
  have z21 : Aside0 (w20.heap.size ≤ w21.heap.size) := ⟨hbw.size⟩
  have B21 := Aside0.mk (below_then B20.out B20.out.size hbw)
  clear hbw
  replace O8 := Aside0.mk (Kd.R_below O8.out hb21.out)
  replace O13 := Aside0.mk (Kd.S_below O13.out hb21.out)
  replace O21 := Aside0.mk (Kd.R_below O21.out hb21.out)
  replace O22 := Aside0.mk (Kd.V_below O22.out hb21.out)
  replace O53 := Aside0.mk (Kd.R_below O53.out hb21.out)
  replace O57 := Aside0.mk (Kd.S_below O57.out hb21.out)
  replace O61 := Aside0.mk (Kd.R_below O61.out hb21.out)
  replace O65 := Aside0.mk (Kd.R_below O65.out hb21.out)
  replace O43 := Aside0.mk (Kd.R_below O43.out hb21.out)
  replace O47 := Aside0.mk (Kd.S_below O47.out hb21.out)
  go_wp2_with fail
  refine calls_of_args (args' := #[.slice As39 t63.length cs39, .int .i64 t58]) (by rw [← (Kd.R_reads' O65.out).1]) ?_
  refine (laws_heldIntS.calls K _ _ t63 (t58) _ _ (Kd.R_reads' O65.out).2.2 (by have h1 := (Kd.R_reads' O65.out).1; have h2 := (Kd.R_reads' O65.out).2.1; omega) Hf67.out).mono ?_
  rintro e w22 ⟨rfl, hdw⟩
  have hbw := Drawn0.below hdw
  clear hdw
  have hb22 := Aside0.mk hbw
  have z22 : Aside0 (w21.heap.size ≤ w22.heap.size) := ⟨hbw.size⟩
  have B22 := Aside0.mk (below_then B21.out B21.out.size hbw)
  clear hbw
  replace O8 := Aside0.mk (Kd.R_below O8.out hb22.out)
  replace O13 := Aside0.mk (Kd.S_below O13.out hb22.out)
  replace O21 := Aside0.mk (Kd.R_below O21.out hb22.out)
  replace O22 := Aside0.mk (Kd.V_below O22.out hb22.out)
  replace O53 := Aside0.mk (Kd.R_below O53.out hb22.out)
  replace O57 := Aside0.mk (Kd.S_below O57.out hb22.out)
  replace O61 := Aside0.mk (Kd.R_below O61.out hb22.out)
  replace O65 := Aside0.mk (Kd.R_below O65.out hb22.out)
  replace O43 := Aside0.mk (Kd.R_below O43.out hb22.out)
  replace O47 := Aside0.mk (Kd.S_below O47.out hb22.out)
  go_wp2_with fail
  refine (laws_toItemS.calls K _ _ l0 _ _ (Kd.C_below HR0.out B22.out) HC0.out Hf6.out).mono ?_
  rintro e w23 ⟨v68, rfl, ho0, hbw⟩
  have hb23 := Aside0.mk hbw
  have z23 : Aside0 (w22.heap.size ≤ w23.heap.size) := ⟨hbw.size⟩
  have B23 := Aside0.mk (below_then B22.out B22.out.size hbw)
  clear hbw
  replace O8 := Aside0.mk (Kd.R_below O8.out hb23.out)
  replace O13 := Aside0.mk (Kd.S_below O13.out hb23.out)
  replace O21 := Aside0.mk (Kd.R_below O21.out hb23.out)
  replace O22 := Aside0.mk (Kd.V_below O22.out hb23.out)
  replace O53 := Aside0.mk (Kd.R_below O53.out hb23.out)
  replace O57 := Aside0.mk (Kd.S_below O57.out hb23.out)
  replace O61 := Aside0.mk (Kd.R_below O61.out hb23.out)
  replace O65 := Aside0.mk (Kd.R_below O65.out hb23.out)
  replace O43 := Aside0.mk (Kd.R_below O43.out hb23.out)
  replace O47 := Aside0.mk (Kd.S_below O47.out hb23.out)
  have O69 := Aside0.mk (iv_R B22.out.size hb23.out ho0)
  clear ho0
  obtain ⟨As70, cs70, rfl⟩ := Kd.R_slice O69.out
  go_wp2_with fail
  refine (laws_toArchiveBoxS.calls K _ _ l1 _ _ (Kd.C_below HR1.out B23.out) HC1.out Hf11.out).mono ?_
  rintro e w24 ⟨v71, rfl, ho0, hbw⟩
  have hb24 := Aside0.mk hbw
  have z24 : Aside0 (w23.heap.size ≤ w24.heap.size) := ⟨hbw.size⟩
  have B24 := Aside0.mk (below_then B23.out B23.out.size hbw)
  clear hbw
  replace O8 := Aside0.mk (Kd.R_below O8.out hb24.out)
  replace O13 := Aside0.mk (Kd.S_below O13.out hb24.out)
  replace O21 := Aside0.mk (Kd.R_below O21.out hb24.out)
  replace O22 := Aside0.mk (Kd.V_below O22.out hb24.out)
  replace O53 := Aside0.mk (Kd.R_below O53.out hb24.out)
  replace O57 := Aside0.mk (Kd.S_below O57.out hb24.out)
  replace O61 := Aside0.mk (Kd.R_below O61.out hb24.out)
  replace O65 := Aside0.mk (Kd.R_below O65.out hb24.out)
  replace O43 := Aside0.mk (Kd.R_below O43.out hb24.out)
  replace O47 := Aside0.mk (Kd.S_below O47.out hb24.out)
  replace O69 := Aside0.mk (Kd.R_below O69.out hb24.out)
  have O72 := Aside0.mk (iv_S B23.out.size hb24.out ho0)
  clear ho0
  obtain ⟨As73, cs73, rfl⟩ := Kd.S_slice O72.out
  go_wp2_with fail
  refine (impl_MissingNumbers.calls K _ _ t5 _ _ t10 _ _ _ _ (Kd.R_reads' O69.out).2.2 (Kd.R_reads' O69.out).2.1 (Kd.S_reads' O72.out).2.2 (Kd.S_reads' O72.out).2.1 Hf31.out).mono ?_
  rintro e w25 ⟨v74, v75, rfl, ho0, ho1, hbw⟩
  have hb25 := Aside0.mk hbw
  have z25 : Aside0 (w24.heap.size ≤ w25.heap.size) := ⟨hbw.size⟩
  have B25 := Aside0.mk (below_then B24.out B24.out.size hbw)
  clear hbw
  replace O8 := Aside0.mk (Kd.R_below O8.out hb25.out)
  replace O13 := Aside0.mk (Kd.S_below O13.out hb25.out)
  replace O21 := Aside0.mk (Kd.R_below O21.out hb25.out)
  replace O22 := Aside0.mk (Kd.V_below O22.out hb25.out)
  replace O53 := Aside0.mk (Kd.R_below O53.out hb25.out)
  replace O57 := Aside0.mk (Kd.S_below O57.out hb25.out)
  replace O61 := Aside0.mk (Kd.R_below O61.out hb25.out)
  replace O65 := Aside0.mk (Kd.R_below O65.out hb25.out)
  replace O43 := Aside0.mk (Kd.R_below O43.out hb25.out)
  replace O47 := Aside0.mk (Kd.S_below O47.out hb25.out)
  replace O69 := Aside0.mk (Kd.R_below O69.out hb25.out)
  replace O72 := Aside0.mk (Kd.S_below O72.out hb25.out)
  have ne78 : ∀ k, some k = (v74 : Value).ownBlock → some k = (v75 : Value).ownBlock → False := fun k h1 h2 => (ho0.1 k h1.symm) h2
  have ne79 : ∀ k, some k = (v75 : Value).ownBlock → some k = (v74 : Value).ownBlock → False := fun k h1 h2 => (ho1.1 k h1.symm) h2
  have O76 := Aside0.mk (iv_tight rfl B24.out.size hb25.out ho0)
  have O77 := Aside0.mk (iv_tight rfl B24.out.size hb25.out ho1)
  clear ho0
  obtain ⟨As80, cs80, rfl⟩ := Kd.R_slice O76.out
  clear ho1
  obtain ⟨As81, cs81, rfl⟩ := Kd.R_slice O77.out
  go_wp2_with fail
  refine (laws_eqIntS.calls K _ _ t15 _ _ t15 _ _ (Kd.R_reads' O76.out).2.2 (Kd.R_reads' O76.out).2.1 (Kd.R_reads' O21.out).2.2 (Kd.R_reads' O21.out).2.1 Hf40.out).mono ?_
  rintro e w26 ⟨rfl, hdw⟩
  have hbw := Drawn0.below hdw
  clear hdw
  have hb26 := Aside0.mk hbw
  have z26 : Aside0 (w25.heap.size ≤ w26.heap.size) := ⟨hbw.size⟩
  have B26 := Aside0.mk (below_then B25.out B25.out.size hbw)
  clear hbw
  replace O8 := Aside0.mk (Kd.R_below O8.out hb26.out)
  replace O13 := Aside0.mk (Kd.S_below O13.out hb26.out)
  replace O21 := Aside0.mk (Kd.R_below O21.out hb26.out)
  replace O22 := Aside0.mk (Kd.V_below O22.out hb26.out)
  replace O53 := Aside0.mk (Kd.R_below O53.out hb26.out)
  replace O57 := Aside0.mk (Kd.S_below O57.out hb26.out)
  replace O61 := Aside0.mk (Kd.R_below O61.out hb26.out)
  replace O65 := Aside0.mk (Kd.R_below O65.out hb26.out)
  replace O43 := Aside0.mk (Kd.R_below O43.out hb26.out)
  replace O47 := Aside0.mk (Kd.S_below O47.out hb26.out)
  replace O69 := Aside0.mk (Kd.R_below O69.out hb26.out)
  replace O72 := Aside0.mk (Kd.S_below O72.out hb26.out)
  replace O76 := Aside0.mk (Kd.R_below O76.out hb26.out)
  replace O77 := Aside0.mk (Kd.R_below O77.out hb26.out)
  go_wp2_with fail
  refine (laws_eqIntS.calls K _ _ t16 _ _ t16 _ _ (Kd.R_reads' O77.out).2.2 (Kd.R_reads' O77.out).2.1 (Kd.V_reads' O22.out).2.2 (Kd.V_reads' O22.out).2.1 Hf41.out).mono ?_
  rintro e w27 ⟨rfl, hdw⟩
  have hbw := Drawn0.below hdw
  clear hdw
  have hb27 := Aside0.mk hbw
  have z27 : Aside0 (w26.heap.size ≤ w27.heap.size) := ⟨hbw.size⟩
  have B27 := Aside0.mk (below_then B26.out B26.out.size hbw)
  clear hbw
  replace O8 := Aside0.mk (Kd.R_below O8.out hb27.out)
  replace O13 := Aside0.mk (Kd.S_below O13.out hb27.out)
  replace O21 := Aside0.mk (Kd.R_below O21.out hb27.out)
  replace O22 := Aside0.mk (Kd.V_below O22.out hb27.out)
  replace O53 := Aside0.mk (Kd.R_below O53.out hb27.out)
  replace O57 := Aside0.mk (Kd.S_below O57.out hb27.out)
  replace O61 := Aside0.mk (Kd.R_below O61.out hb27.out)
  replace O65 := Aside0.mk (Kd.R_below O65.out hb27.out)
  replace O43 := Aside0.mk (Kd.R_below O43.out hb27.out)
  replace O47 := Aside0.mk (Kd.S_below O47.out hb27.out)
  replace O69 := Aside0.mk (Kd.R_below O69.out hb27.out)
  replace O72 := Aside0.mk (Kd.S_below O72.out hb27.out)
  replace O76 := Aside0.mk (Kd.R_below O76.out hb27.out)
  replace O77 := Aside0.mk (Kd.R_below O77.out hb27.out)
  go_wp2_with fail
  refine calls_of_args (args' := #[.slice As38 t59.length cs38, .int .i64 1]) (by rw [← (Kd.R_reads' O61.out).1]) ?_
  refine (laws_heldIntS.calls K _ _ t59 (1) _ _ (Kd.R_reads' O61.out).2.2 (by have h1 := (Kd.R_reads' O61.out).1; have h2 := (Kd.R_reads' O61.out).2.1; omega) Hf66.out).mono ?_
  rintro e w28 ⟨rfl, hdw⟩
  have hbw := Drawn0.below hdw
  clear hdw
  have hb28 := Aside0.mk hbw
  have z28 : Aside0 (w27.heap.size ≤ w28.heap.size) := ⟨hbw.size⟩
  have B28 := Aside0.mk (below_then B27.out B27.out.size hbw)
  clear hbw
  replace O8 := Aside0.mk (Kd.R_below O8.out hb28.out)
  replace O13 := Aside0.mk (Kd.S_below O13.out hb28.out)
  replace O21 := Aside0.mk (Kd.R_below O21.out hb28.out)
  replace O22 := Aside0.mk (Kd.V_below O22.out hb28.out)
  replace O53 := Aside0.mk (Kd.R_below O53.out hb28.out)
  replace O57 := Aside0.mk (Kd.S_below O57.out hb28.out)
  replace O61 := Aside0.mk (Kd.R_below O61.out hb28.out)
  replace O65 := Aside0.mk (Kd.R_below O65.out hb28.out)
  replace O43 := Aside0.mk (Kd.R_below O43.out hb28.out)
  replace O47 := Aside0.mk (Kd.S_below O47.out hb28.out)
  replace O69 := Aside0.mk (Kd.R_below O69.out hb28.out)
  replace O72 := Aside0.mk (Kd.S_below O72.out hb28.out)
  replace O76 := Aside0.mk (Kd.R_below O76.out hb28.out)
  replace O77 := Aside0.mk (Kd.R_below O77.out hb28.out)
  go_wp2_with fail
  refine calls_of_args (args' := #[.slice As39 t63.length cs39, .int .i64 t58]) (by rw [← (Kd.R_reads' O65.out).1]) ?_
  refine (laws_heldIntS.calls K _ _ t63 (t58) _ _ (Kd.R_reads' O65.out).2.2 (by have h1 := (Kd.R_reads' O65.out).1; have h2 := (Kd.R_reads' O65.out).2.1; omega) Hf67.out).mono ?_
  rintro e w29 ⟨rfl, hdw⟩
  have hbw := Drawn0.below hdw
  clear hdw
  have hb29 := Aside0.mk hbw
  have z29 : Aside0 (w28.heap.size ≤ w29.heap.size) := ⟨hbw.size⟩
  have B29 := Aside0.mk (below_then B28.out B28.out.size hbw)
  clear hbw
  replace O8 := Aside0.mk (Kd.R_below O8.out hb29.out)
  replace O13 := Aside0.mk (Kd.S_below O13.out hb29.out)
  replace O21 := Aside0.mk (Kd.R_below O21.out hb29.out)
  replace O22 := Aside0.mk (Kd.V_below O22.out hb29.out)
  replace O53 := Aside0.mk (Kd.R_below O53.out hb29.out)
  replace O57 := Aside0.mk (Kd.S_below O57.out hb29.out)
  replace O61 := Aside0.mk (Kd.R_below O61.out hb29.out)
  replace O65 := Aside0.mk (Kd.R_below O65.out hb29.out)
  replace O43 := Aside0.mk (Kd.R_below O43.out hb29.out)
  replace O47 := Aside0.mk (Kd.S_below O47.out hb29.out)
  replace O69 := Aside0.mk (Kd.R_below O69.out hb29.out)
  replace O72 := Aside0.mk (Kd.S_below O72.out hb29.out)
  replace O76 := Aside0.mk (Kd.R_below O76.out hb29.out)
  replace O77 := Aside0.mk (Kd.R_below O77.out hb29.out)
  go_wp2_with fail
  go_ret
  exact ⟨rfl, B29.out⟩
def FnExactMissingNumbers.Goal (K : Nat) (l0 : List S65) (l1 : List S60) : Prop :=
  (∃ (s1 : Int), (laws_szItemS.f l0 1048576 = some s1) ∧ (s1 < 0))
  ∨ (∃ (s1 : Int) (s3 : Int), (laws_szItemS.f l0 1048576 = some s1) ∧ (laws_szArchiveBoxS.f K l1 s1 = some s3) ∧ (0 ≤ s1) ∧ (s3 < 0))
  ∨ (∃ (s1 : Int) (s3 : Int) (t5 : List (S50)) (t10 : List (S62)) (t15 : List Int) (t16 : List Int) (t17 : Bool) (t50 : Int) (t51 : List (S50)) (t54 : Int) (t55 : List (S62)) (t58 : Int) (t59 : List Int) (t62 : Int) (t63 : List Int), (laws_szItemS.f l0 1048576 = some s1) ∧ (laws_szArchiveBoxS.f K l1 s1 = some s3) ∧ (laws_toItemS.f K l0 = some t5) ∧ (laws_toArchiveBoxS.f K l1 = some t10) ∧ (spec_MissingNumbers.f K t5 t10 = some (t15, t16, t17)) ∧ (impl_MissingNumbers.f K t5 t10 = some (t15, t16, t17)) ∧ (laws_eqIntS.f K t15 t15 = some true) ∧ (laws_eqIntS.f K t16 t16 = some true) ∧ (laws_eqItemS.f K t5 t5 = some true) ∧ (laws_eqArchiveBoxS.f K t10 t10 = some true) ∧ (laws_markItemS.f K t5 1 = some (t50, t51)) ∧ (laws_markArchiveBoxS.f t10 t50 = some (t54, t55)) ∧ (laws_markIntS.f K t15 1 = some (t58, t59)) ∧ (laws_markIntS.f K t16 t58 = some (t62, t63)) ∧ (laws_heldIntS.f K t59 1 = some t58) ∧ (laws_heldIntS.f K t63 t58 = some t62) ∧ (0 ≤ s1) ∧ (0 ≤ s3) ∧ (0 ≤ t50) ∧ (0 ≤ t54) ∧ (0 ≤ t58) ∧ (0 ≤ t62))
theorem FnExactMissingNumbers.walk (K : Nat) (A0 : Option Addr) (c0 : Nat) (l0 : List S65) (A1 : Option Addr) (c1 : Nat) (l1 : List S60) (h : FnExactMissingNumbers.Goal K l0 l1) (w : World) (hr0 : Kd.C k65 w A0 l0.length l0) (hc0 : l0.length ≤ c0) (hr1 : Kd.C k60 w A1 l1.length l1) (hc1 : l1.length ≤ c1) :
    Calls Try.prog 3 #[.slice A0 l0.length c0, .slice A1 l1.length c1] w fun e w' => e = .returned (.bool true) ∧ Below w.heap.size w w' := by
  rcases h with ⟨s1, Hf2, G⟩ | ⟨s1, s3, Hf2, Hf4, G0, G⟩ | ⟨s1, s3, t5, t10, t15, t16, t17, t50, t51, t54, t55, t58, t59, t62, t63, Hf2, Hf4, Hf6, Hf11, Hf18, Hf31, Hf40, Hf41, Hf45, Hf49, Hf52, Hf56, Hf60, Hf64, Hf66, Hf67, G0, G1, Pt50, Pt54, Pt58, Pt62⟩
  · exact FnExactMissingNumbers.exit0 K A0 c0 l0 A1 c1 l1 s1 Hf2 G w hr0 hc0 hr1 hc1
  · exact FnExactMissingNumbers.exit1 K A0 c0 l0 A1 c1 l1 s1 s3 Hf2 Hf4 G0 G w hr0 hc0 hr1 hc1
  · exact FnExactMissingNumbers.main K A0 c0 l0 A1 c1 l1 s1 s3 t5 t10 t15 t16 t17 t50 t51 t54 t55 t58 t59 t62 t63 Hf2 Hf4 Hf6 Hf11 Hf18 Hf31 Hf40 Hf41 Hf45 Hf49 Hf52 Hf56 Hf60 Hf64 Hf66 Hf67 G0 G1 Pt50 Pt54 Pt58 Pt62 w hr0 hc0 hr1 hc1
end Go.Proofs.Ytoadgikbbigdlaa.P
