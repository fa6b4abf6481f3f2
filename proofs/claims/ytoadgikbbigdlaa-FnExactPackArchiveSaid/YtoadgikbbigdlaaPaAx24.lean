import Derived.Test.YtoadgikbbigdlaaPaWAb
import Derived.Test.YtoadgikbbigdlaaPaAx0
import Derived.Test.YtoadgikbbigdlaaPaAx12
import Derived.Test.YtoadgikbbigdlaaPaAx14
import Derived.Test.YtoadgikbbigdlaaPaAx18
import Derived.Test.YtoadgikbbigdlaaPaAx19
import Derived.Test.YtoadgikbbigdlaaPaAx22
namespace Go.Proofs.Ytoadgikbbigdlaa.A
open Go.RowKit Go.Proofs.YtoadgikbbigdlaaW.PrintWords Go.Proofs.YtoadgikbbigdlaaW.PrintLast Go.Proofs.YtoadgikbbigdlaaW.PrintMore
attribute [local go_sem] max2_int min2_int max_two min_two max_three min_three max_four min_four   -- for this text's walks alone
set_option linter.unusedVariables false
set_option linter.unusedSimpArgs false
def sortI (l : List Int) : List Int := l.mergeSort fun x y => decide (x ≤ y)
theorem sortI_length (l : List Int) : (sortI l).length = l.length := by simp [sortI]
mutual
def impl_PackArchive.j0 : Nat → Bool → List (S50) → Int → Option ((List (S62)) × Bool)
 | 0, _, _, _ => none
 | k + 1, x30, x289000, x290000 => if x30 = true then (some (([] : List (S62)), false)) else (impl_PackArchive.l0 k (([] : List Int)) (x289000.length : Int) 0 x289000 x290000)
def impl_PackArchive.l0 : Nat → List Int → Int → Int → List (S50) → Int → Option ((List (S62)) × Bool)
 | 0, _, _, _, _, _ => none
 | k + 1, x6, x33, x34, x289000, x290000 => if x34 < x33 then (if x6.length < 17592186044416 then (impl_PackArchive.l0 k (x6 ++ [x34]) x33 (wrap64 (x34 + 1)) x289000 x290000) else (none)) else ((stable_Pack1.f x6 x289000).bind fun t299 => (impl_PackArchive.l1 k (([] : List (List Int))) t299 (x6.length : Int) 0 x289000 x290000))
def impl_PackArchive.l1 : Nat → List (List Int) → List Int → Int → Int → List (S50) → Int → Option ((List (S62)) × Bool)
 | 0, _, _, _, _, _, _ => none
 | k + 1, x8, x46, x47, x48, x289000, x290000 => if x48 < x47 then (if 0 ≤ x48 then (if x48 < (x46.length : Int) then ((idx_Pack2.f k x8 x289000 (rd x46 x48) x290000).bind fun t305 => (if t305 < 0 then (if x8.length < 5864062014805 then ((some (x8 ++ [([] : List Int)] : List (List Int))).bind fun y306 => (if 0 ≤ (x8.length : Int) then (if (x8.length : Int) < (y306.length : Int) then (if (rd_L3 y306 (x8.length : Int)).length < 17592186044416 then (impl_PackArchive.l1 k (y306.set ((x8.length : Int) : Int).toNat ((rd_L3 y306 (x8.length : Int)) ++ [rd x46 x48])) x46 x47 (wrap64 (x48 + 1)) x289000 x290000) else (none)) else (none)) else (none))) else (none)) else (if 0 ≤ t305 then (if t305 < (x8.length : Int) then (if (rd_L3 x8 t305).length < 17592186044416 then (impl_PackArchive.l1 k (x8.set (t305 : Int).toNat ((rd_L3 x8 t305) ++ [rd x46 x48])) x46 x47 (wrap64 (x48 + 1)) x289000 x290000) else (none)) else (none)) else (none)))) else (none)) else (none)) else (impl_PackArchive.l2 k (([] : List (S62))) x8 (x8.length : Int) 0 x289000)
def impl_PackArchive.l2 : Nat → List (S62) → List (List Int) → Int → Int → List (S50) → Option ((List (S62)) × Bool)
 | 0, _, _, _, _, _ => none
 | k + 1, x12, x74, x75, x76, x289000 => if x76 < x75 then (if 0 ≤ x76 then (if x76 < (x74.length : Int) then (if (rd_L3 x74 x76).length < 4611686018427387904 then (impl_PackArchive.l3 k x12 (x74.set (x76 : Int).toNat (sortI (rd_L3 x74 x76))) x75 x76 (sortI (rd_L3 x74 x76)) ((sortI (rd_L3 x74 x76)).length : Int) 0 x289000 (wrap64 (x76 + 1)) ([] : List Int)) else (none)) else (none)) else (none)) else (some (x12, true))
def impl_PackArchive.l3 : Nat → List (S62) → List (List Int) → Int → Int → List Int → Int → Int → List (S50) → Int → List Int → Option ((List (S62)) × Bool)
 | 0, _, _, _, _, _, _, _, _, _, _ => none
 | k + 1, x12, x74, x75, x76, x86, x87, x88, x289000, x324000, x324001 => if x88 < x87 then (if 0 ≤ x88 then (if x88 < (x86.length : Int) then (if 0 ≤ (rd x86 x88) then (if (rd x86 x88) < (x289000.length : Int) then (if x324001.length < 17592186044416 then (impl_PackArchive.l3 k x12 x74 x75 x76 x86 x87 (wrap64 (x88 + 1)) x289000 x324000 (x324001 ++ [(rd_T50 x289000 (rd x86 x88)).f0])) else (none)) else (none)) else (none)) else (none)) else (none)) else (if x12.length < 4398046511104 then (impl_PackArchive.l2 k (x12 ++ [(⟨x324000, x324001⟩ : S62)]) x74 x75 (wrap64 (x76 + 1)) x289000) else (none))
end
def impl_PackArchive.f (k : Nat) (l0 : List (S50)) (a1 : Int) : Option ((List (S62)) × Bool) := (impl_areItems.f k l0).bind fun t290 => (if t290 = true then ((impl_isCapacity.f a1).bind fun t291 => (if t291 = true then ((impl_isTooHeavy.f l0 a1).bind fun t292 => (impl_PackArchive.j0 k t292 l0 a1)) else (impl_PackArchive.j0 k true l0 a1))) else (impl_PackArchive.j0 k true l0 a1))
theorem impl_PackArchive.mono_l : ∀ k, (∀ y0 y1 y2, LeO (impl_PackArchive.j0 k y0 y1 y2) (impl_PackArchive.j0 (k + 1) y0 y1 y2)) ∧ (∀ y0 y1 y2 y3 y4, LeO (impl_PackArchive.l0 k y0 y1 y2 y3 y4) (impl_PackArchive.l0 (k + 1) y0 y1 y2 y3 y4)) ∧ (∀ y0 y1 y2 y3 y4 y5, LeO (impl_PackArchive.l1 k y0 y1 y2 y3 y4 y5) (impl_PackArchive.l1 (k + 1) y0 y1 y2 y3 y4 y5)) ∧ (∀ y0 y1 y2 y3 y4, LeO (impl_PackArchive.l2 k y0 y1 y2 y3 y4) (impl_PackArchive.l2 (k + 1) y0 y1 y2 y3 y4)) ∧ (∀ y0 y1 y2 y3 y4 y5 y6 y7 y8 y9, LeO (impl_PackArchive.l3 k y0 y1 y2 y3 y4 y5 y6 y7 y8 y9) (impl_PackArchive.l3 (k + 1) y0 y1 y2 y3 y4 y5 y6 y7 y8 y9))
 | 0 => ⟨fun _ _ _ r h => by simp [impl_PackArchive.j0] at h, fun _ _ _ _ _ r h => by simp [impl_PackArchive.l0] at h, fun _ _ _ _ _ _ r h => by simp [impl_PackArchive.l1] at h, fun _ _ _ _ _ r h => by simp [impl_PackArchive.l2] at h, fun _ _ _ _ _ _ _ _ _ _ r h => by simp [impl_PackArchive.l3] at h⟩
 | k + 1 => by
  obtain ⟨ih0, ih1, ih2, ih3, ih4⟩ := impl_PackArchive.mono_l k
  refine ⟨?_, ?_, ?_, ?_, ?_⟩
  ·intro y0 y1 y2
   unfold impl_PackArchive.j0
   repeat' first
   | (with_reducible exact ih0 _ _ _)
   | (with_reducible exact ih1 _ _ _ _ _)
   | (with_reducible exact ih2 _ _ _ _ _ _)
   | (with_reducible exact ih3 _ _ _ _ _)
   | (with_reducible exact ih4 _ _ _ _ _ _ _ _ _ _)
   | (with_reducible exact idx_Pack2.mono _ _ _ _ _)
   | (with_reducible exact impl_areItems.mono _ _)
   | (with_reducible exact LeO.refl _)
   | (with_reducible exact LeO.none _)
   | (with_reducible refine LeO.ite ?_ ?_)
   | (with_reducible refine LeO.bind ?_ (fun _ => ?_))
   | exact ih0 _ _ _
   | exact ih1 _ _ _ _ _
   | exact ih2 _ _ _ _ _ _
   | exact ih3 _ _ _ _ _
   | exact ih4 _ _ _ _ _ _ _ _ _ _
   | exact idx_Pack2.mono _ _ _ _ _
   | exact impl_areItems.mono _ _
   | exact LeO.none _
   | refine LeO.ite ?_ ?_
   | refine LeO.bind ?_ (fun _ => ?_)
  ·intro y0 y1 y2 y3 y4
   unfold impl_PackArchive.l0
   repeat' first
   | (with_reducible exact ih0 _ _ _)
   | (with_reducible exact ih1 _ _ _ _ _)
   | (with_reducible exact ih2 _ _ _ _ _ _)
   | (with_reducible exact ih3 _ _ _ _ _)
   | (with_reducible exact ih4 _ _ _ _ _ _ _ _ _ _)
   | (with_reducible exact idx_Pack2.mono _ _ _ _ _)
   | (with_reducible exact impl_areItems.mono _ _)
   | (with_reducible exact LeO.refl _)
   | (with_reducible exact LeO.none _)
   | (with_reducible refine LeO.ite ?_ ?_)
   | (with_reducible refine LeO.bind ?_ (fun _ => ?_))
   | exact ih0 _ _ _
   | exact ih1 _ _ _ _ _
   | exact ih2 _ _ _ _ _ _
   | exact ih3 _ _ _ _ _
   | exact ih4 _ _ _ _ _ _ _ _ _ _
   | exact idx_Pack2.mono _ _ _ _ _
   | exact impl_areItems.mono _ _
   | exact LeO.none _
   | refine LeO.ite ?_ ?_
   | refine LeO.bind ?_ (fun _ => ?_)
  ·intro y0 y1 y2 y3 y4 y5
   unfold impl_PackArchive.l1
   repeat' first
   | (with_reducible exact ih0 _ _ _)
   | (with_reducible exact ih1 _ _ _ _ _)
   | (with_reducible exact ih2 _ _ _ _ _ _)
   | (with_reducible exact ih3 _ _ _ _ _)
   | (with_reducible exact ih4 _ _ _ _ _ _ _ _ _ _)
   | (with_reducible exact idx_Pack2.mono _ _ _ _ _)
   | (with_reducible exact impl_areItems.mono _ _)
   | (with_reducible exact LeO.refl _)
   | (with_reducible exact LeO.none _)
   | (with_reducible refine LeO.ite ?_ ?_)
   | (with_reducible refine LeO.bind ?_ (fun _ => ?_))
   | exact ih0 _ _ _
   | exact ih1 _ _ _ _ _
   | exact ih2 _ _ _ _ _ _
   | exact ih3 _ _ _ _ _
   | exact ih4 _ _ _ _ _ _ _ _ _ _
   | exact idx_Pack2.mono _ _ _ _ _
   | exact impl_areItems.mono _ _
   | exact LeO.none _
   | refine LeO.ite ?_ ?_
   | refine LeO.bind ?_ (fun _ => ?_)
  ·intro y0 y1 y2 y3 y4
   unfold impl_PackArchive.l2
   repeat' first
   | (with_reducible exact ih0 _ _ _)
   | (with_reducible exact ih1 _ _ _ _ _)
   | (with_reducible exact ih2 _ _ _ _ _ _)
   | (with_reducible exact ih3 _ _ _ _ _)
   | (with_reducible exact ih4 _ _ _ _ _ _ _ _ _ _)
   | (with_reducible exact idx_Pack2.mono _ _ _ _ _)
   | (with_reducible exact impl_areItems.mono _ _)
   | (with_reducible exact LeO.refl _)
   | (with_reducible exact LeO.none _)
   | (with_reducible refine LeO.ite ?_ ?_)
   | (with_reducible refine LeO.bind ?_ (fun _ => ?_))
   | exact ih0 _ _ _
   | exact ih1 _ _ _ _ _
   | exact ih2 _ _ _ _ _ _
   | exact ih3 _ _ _ _ _
   | exact ih4 _ _ _ _ _ _ _ _ _ _
   | exact idx_Pack2.mono _ _ _ _ _
   | exact impl_areItems.mono _ _
   | exact LeO.none _
   | refine LeO.ite ?_ ?_
   | refine LeO.bind ?_ (fun _ => ?_)
  ·intro y0 y1 y2 y3 y4 y5 y6 y7 y8 y9
   unfold impl_PackArchive.l3
   repeat' first
   | (with_reducible exact ih0 _ _ _)
   | (with_reducible exact ih1 _ _ _ _ _)
   | (with_reducible exact ih2 _ _ _ _ _ _)
   | (with_reducible exact ih3 _ _ _ _ _)
   | (with_reducible exact ih4 _ _ _ _ _ _ _ _ _ _)
   | (with_reducible exact idx_Pack2.mono _ _ _ _ _)
   | (with_reducible exact impl_areItems.mono _ _)
   | (with_reducible exact LeO.refl _)
   | (with_reducible exact LeO.none _)
   | (with_reducible refine LeO.ite ?_ ?_)
   | (with_reducible refine LeO.bind ?_ (fun _ => ?_))
   | exact ih0 _ _ _
   | exact ih1 _ _ _ _ _
   | exact ih2 _ _ _ _ _ _
   | exact ih3 _ _ _ _ _
   | exact ih4 _ _ _ _ _ _ _ _ _ _
   | exact idx_Pack2.mono _ _ _ _ _
   | exact impl_areItems.mono _ _
   | exact LeO.none _
   | refine LeO.ite ?_ ?_
   | refine LeO.bind ?_ (fun _ => ?_)
theorem impl_PackArchive.mono : ∀ a0 a1 k, LeO (impl_PackArchive.f k a0 a1) (impl_PackArchive.f (k + 1) a0 a1) := by
 intro a0 a1 k
 obtain ⟨ih0, ih1, ih2, ih3, ih4⟩ := impl_PackArchive.mono_l k
 unfold impl_PackArchive.f
 repeat' first
   | (with_reducible exact ih0 _ _ _)
   | (with_reducible exact ih1 _ _ _ _ _)
   | (with_reducible exact ih2 _ _ _ _ _ _)
   | (with_reducible exact ih3 _ _ _ _ _)
   | (with_reducible exact ih4 _ _ _ _ _ _ _ _ _ _)
   | (with_reducible exact idx_Pack2.mono _ _ _ _ _)
   | (with_reducible exact impl_areItems.mono _ _)
   | (with_reducible exact LeO.refl _)
   | (with_reducible exact LeO.none _)
   | (with_reducible refine LeO.ite ?_ ?_)
   | (with_reducible refine LeO.bind ?_ (fun _ => ?_))
   | exact ih0 _ _ _
   | exact ih1 _ _ _ _ _
   | exact ih2 _ _ _ _ _ _
   | exact ih3 _ _ _ _ _
   | exact ih4 _ _ _ _ _ _ _ _ _ _
   | exact idx_Pack2.mono _ _ _ _ _
   | exact impl_areItems.mono _ _
   | exact LeO.none _
   | refine LeO.ite ?_ ?_
   | refine LeO.bind ?_ (fun _ => ?_)
def impl_PackArchive.T18 : Bool × List (List Nat × List Nat) := (true, [([], []), ([], []), ([], []), ([], []), ([2, 3], [2, 3]), ([4], [4]), ([], []), ([6], [6]), ([5, 7], [5, 7]), ([0, 1, 0, 1, 2, 3, 4, 5, 6, 7, 8], [0, 1]), ([9, 8, 8, 0, 1, 2, 3, 4, 5, 6, 7, 8], [8, 9])])
def impl_PackArchive.B18 : List Nat := [0, 0, 0, 0, 12, 28, 0, 64, 252, 511, 1023]
theorem impl_PackArchive.tab18 : rtab .any (opsOf Try.f31 18) = impl_PackArchive.T18 := by kernel_rfl
theorem impl_PackArchive.bits18 : waitsOk impl_PackArchive.T18.2 impl_PackArchive.B18 = true := by kernel_rfl
def impl_PackArchive.T29 : Bool × List (List Nat × List Nat) := (true, [([], []), ([0], [0]), ([], []), ([], []), ([2, 3], [2, 3]), ([4], [4]), ([5], [5]), ([6], [6]), ([1, 7], [1, 7]), ([0, 1, 2, 3, 4, 5, 6, 7, 8], []), ([9, 8, 8, 0, 1, 2, 3, 4, 5, 6, 7, 8], [8, 9])])
def impl_PackArchive.B29 : List Nat := [0, 1, 0, 0, 12, 28, 60, 124, 255, 511, 1023]
theorem impl_PackArchive.tab29 : rtab .any (opsOf Try.f31 29) = impl_PackArchive.T29 := by kernel_rfl
theorem impl_PackArchive.bits29 : waitsOk impl_PackArchive.T29.2 impl_PackArchive.B29 = true := by kernel_rfl
def bYtoadgikbbigdlaaPaAx24_0 : Array Bool := #[false, false, false, false, false, false, false, false, false, false, false]
def bYtoadgikbbigdlaaPaAx24_1 : Array Bool := #[true, false, false, false, false, false, false, false, false, false, false]
def bYtoadgikbbigdlaaPaAx24_2 : Array Bool := #[true, true, false, false, false, false, false, false, false, false, false]
def bYtoadgikbbigdlaaPaAx24_3 : Array Bool := #[true, true, true, false, false, false, false, false, false, false, false]
def bYtoadgikbbigdlaaPaAx24_4 : Array Bool := #[true, true, true, true, false, false, false, false, false, false, false]
def bYtoadgikbbigdlaaPaAx24_5 : Array Bool := #[true, true, true, true, true, false, false, false, false, false, false]
def bYtoadgikbbigdlaaPaAx24_6 : Array Bool := #[true, true, true, true, true, true, false, false, false, false, false]
def bYtoadgikbbigdlaaPaAx24_7 : Array Bool := #[true, true, true, true, true, true, true, false, false, false, false]
def bYtoadgikbbigdlaaPaAx24_8 : Array Bool := #[true, true, true, true, true, true, true, true, false, false, false]
def bYtoadgikbbigdlaaPaAx24_9 : Array Bool := #[true, true, true, true, true, true, true, true, true, false, false]
def bYtoadgikbbigdlaaPaAx24_10 : Array Bool := #[true, true, true, true, true, true, true, true, true, true, false]
def bYtoadgikbbigdlaaPaAx24_11 : Array Bool := #[true, true, true, true, true, true, true, true, true, true, true]
set_option maxHeartbeats 8000000 in
set_option maxRecDepth 100000 in
theorem impl_PackArchive.calls (k : Nat) (A0 : Option Addr) (c0 : Nat) (l0 : List (S50)) (a1 : Int) (r1 : List (S62)) (r2 : Bool) (w : World) (hr0 : Kd.C k50 w A0 l0.length l0) (hc0 : l0.length ≤ c0) (h : impl_PackArchive.f k l0 a1 = some (r1, r2)) :
  Calls Try.prog 31 #[.slice A0 l0.length c0, .int .i64 a1] w fun e w' => ∃ v0_ : Value, e = .returned (.tuple #[v0_, .bool r2]) ∧ Kd.S k62 62 w' w.heap.size (fun _ => True) v0_ r1 ∧ Below w.heap.size w w' := by
 have hu62 := Try.underlying62
 have HR0 := Aside0.mk hr0
 have HC0 := Aside0.mk hc0
 clear hr0 hc0
 have HB := Aside0.mk (Below.refl w.heap.size w)
 have H : ((impl_areItems.f k l0).bind fun t290 => (if t290 = true then ((impl_isCapacity.f a1).bind fun t291 => (if t291 = true then ((impl_isTooHeavy.f l0 a1).bind fun t292 => (impl_PackArchive.j0 k t292 l0 a1)) else (impl_PackArchive.j0 k true l0 a1))) else (impl_PackArchive.j0 k true l0 a1))) = some (r1, r2) := h
 clear h
 have HC3 := Aside0.mk H
 clear H
 go_enter Try.func31, Try.ntmps31
 go_upto_region 1 with (first | ((with_reducible refine gate_dst (N := 2) rfl ?_); refine box_event ?hg (N := 2) ?hd (cs := #[.slice A0 l0.length c0]) (t := 29) ?hr ?_; (case hd => rfl); (case hg => rfl); (case hr => first | (go_simp; done) | (go_simp; rfl)); intro gb288 hg w4 hbox hb; have n0_ := Aside0.mk (below_step yy1 hb); have n1_ := Aside0.mk (hbox); have n2_ := Aside0.mk ((by rw [hg]; exact (below_size yy1) : w.heap.size ≤ gb288)); have n3_ := Aside0.mk ((by rw [hg]; exact (below_size yy1) : w.heap.size ≤ gb288)); clear HB; have HB := n0_; have BK288 := n1_; have GW288 := n2_; have GE288 := n3_; clear n0_ n1_ n2_ n3_; clear hb hbox hg) | ((with_reducible refine gate_dst (N := 3) rfl ?_); refine box_event ?hg (N := 3) ?hd (cs := #[.int .i64 a1]) (t := 3) ?hr ?_; (case hd => rfl); (case hg => rfl); (case hr => first | (go_simp; done) | (go_simp; rfl)); intro gb289 hg w5 hbox hb; have n0_ := Aside0.mk (blk_below (g := gb288) (o := .cells #[.slice A0 l0.length c0] 29 (0, 0)) yy10 hb); have n1_ := Aside0.mk (below_step yy50 hb); have n2_ := Aside0.mk (hbox); have n3_ := Aside0.mk ((by rw [hg]; exact (below_size yy50) : w.heap.size ≤ gb289)); have n4_ := Aside0.mk ((by rw [hg]; exact (below_size yy50) : w.heap.size ≤ gb289)); have n5_ := Aside0.mk ((by rw [hg]; exact Nat.ne_of_lt (blk_lt (g := gb288) (o := .cells #[.slice A0 l0.length c0] 29 (0, 0)) yy10) : gb288 ≠ gb289)); have n6_ := Aside0.mk ((by rw [hg]; exact Nat.ne_of_gt (blk_lt (g := gb288) (o := .cells #[.slice A0 l0.length c0] 29 (0, 0)) yy10) : gb289 ≠ gb288)); clear BK288; clear HB; have BK288 := n0_; have HB := n1_; have BK289 := n2_; have GW289 := n3_; have GE289 := n4_; have NB288_289 := n5_; have NB289_288 := n6_; clear n0_ n1_ n2_ n3_ n4_ n5_ n6_; clear hb hbox hg))
 (try simp only [Act.put, List.setIfInBounds_toArray, List.set_cons_zero, List.set_cons_succ])
 go_cut [30] (fun v30 wc => ∃ (kq : Nat) (x30_2 : Bool), v30 = .bool x30_2 ∧ Aside0 (impl_PackArchive.j0 kq x30_2 l0 a1 = some (r1, r2)) ∧ Aside0 (kq ≤ k) ∧ Aside0 (wc.heap[gb288]? = some (.cells #[(.slice A0 l0.length c0)] 29 (0, 0))) ∧ Aside0 (wc.heap[gb289]? = some (.cells #[.int .i64 a1] 3 (0, 0))) ∧ Aside0 (Below w.heap.size w wc))
 case first =>
  have H := HC3.out
  clear HC3
  replace H := Option.bind_eq_some_iff.mp H
  obtain ⟨t290, A60, H⟩ := H
  replace H : (if t290 = true then ((impl_isCapacity.f a1).bind fun t291 => (if t291 = true then ((impl_isTooHeavy.f l0 a1).bind fun t292 => (impl_PackArchive.j0 k t292 l0 a1)) else (impl_PackArchive.j0 k true l0 a1))) else (impl_PackArchive.j0 k true l0 a1)) = some (r1, r2) := H
  have A6 := Aside0.mk A60
  clear A60
  by_cases c7 : t290 = true
  ·subst c7
   have H1 : ((impl_isCapacity.f a1).bind fun t291 => (if t291 = true then ((impl_isTooHeavy.f l0 a1).bind fun t292 => (impl_PackArchive.j0 k t292 l0 a1)) else (impl_PackArchive.j0 k true l0 a1))) = some (r1, r2) := by rw [if_pos rfl] at H; exact H
   clear H
   have H := H1
   clear H1
   replace H := Option.bind_eq_some_iff.mp H
   obtain ⟨t291, A80, H⟩ := H
   replace H : (if t291 = true then ((impl_isTooHeavy.f l0 a1).bind fun t292 => (impl_PackArchive.j0 k t292 l0 a1)) else (impl_PackArchive.j0 k true l0 a1)) = some (r1, r2) := H
   have A8 := Aside0.mk A80
   clear A80
   by_cases c9 : t291 = true
   ·subst c9
    have H1 : ((impl_isTooHeavy.f l0 a1).bind fun t292 => (impl_PackArchive.j0 k t292 l0 a1)) = some (r1, r2) := by rw [if_pos rfl] at H; exact H
    clear H
    have H := H1
    clear H1
    replace H := Option.bind_eq_some_iff.mp H
    obtain ⟨t292, A100, H⟩ := H
    replace H : (impl_PackArchive.j0 k t292 l0 a1) = some (r1, r2) := H
    have A10 := Aside0.mk A100
    clear A100
    have H' := Aside0.mk H
    clear H
    have hnb11 := NB288_289.out
    have hnc11 := NB289_288.out
    have hcz12_0 : w5.cell? ⟨gb288, 0, none⟩ = some (.slice A0 l0.length c0) := (blk_cell BK288.out 0).trans rfl
    have hfz12_0 := blk_frozen BK288.out 0
    go_wp2_with (first | ((with_reducible refine gate_callee (f := 39) rfl ?_); refine goesL_ (some 19) rfl rfl Try.func39 (by kernel_rfl) rfl #[.slice A0 l0.length c0] rfl yy3 ?_; (with_reducible refine (impl_areItems.calls k _ _ l0 true _ ?side1 ?side2 A6.out).mono ?_); (case side1 => repeat (first | exact (Kd.C_below HR0.out HB.out) | (with_reducible refine Kd.C_alloc ?_ _) | (with_reducible refine Kd.C_drewN ?_ _) | (with_reducible refine Kd.C_drew ?_))); (case side2 => exact HC0.out); rintro e w13 ⟨rfl, hb⟩; refine ⟨_, rfl, ?_⟩; have n0_ := Aside0.mk (blk_below (g := gb288) (o := .cells #[.slice A0 l0.length c0] 29 (0, 0)) yy10 hb); have n1_ := Aside0.mk (blk_below (g := gb289) (o := .cells #[.int .i64 a1] 3 (0, 0)) yy9 hb); have n2_ := Aside0.mk (below_step yy4 hb); clear BK288; clear BK289; clear HB; have BK288 := n0_; have BK289 := n1_; have HB := n2_; clear n0_ n1_ n2_; (try clear hb); (try clear hb2); (try clear hk); (try clear hi); have hcz14_0 : w13.cell? ⟨gb289, 0, none⟩ = some (.int .i64 a1) := (blk_cell BK289.out 0).trans rfl; have hfz14_0 := blk_frozen BK289.out 0) | (go_at_call 57; (with_reducible refine (impl_isCapacity.calls a1 true _ A8.out).mono ?_); rintro e w' ⟨rfl, ⟨nd, rfl⟩⟩; have hcz15_0 : w13.cell? ⟨gb288, 0, none⟩ = some (.slice A0 l0.length c0) := (blk_cell BK288.out 0).trans rfl; have hfz15_0 := blk_frozen BK288.out 0) | (go_at_call 68; (with_reducible refine (impl_isTooHeavy.calls _ _ l0 a1 t292 _ ?side1 ?side2 A10.out).mono ?_); (case side1 => repeat (first | exact (Kd.C_below HR0.out yy4) | (with_reducible refine Kd.C_alloc ?_ _) | (with_reducible refine Kd.C_drewN ?_ _) | (with_reducible refine Kd.C_drew ?_))); (case side2 => exact HC0.out); rintro e w16 ⟨rfl, hb⟩; have n0_ := Aside0.mk (blk_below (g := gb288) (o := .cells #[.slice A0 l0.length c0] 29 (0, 0)) yy10 hb); have n1_ := Aside0.mk (blk_below (g := gb289) (o := .cells #[.int .i64 a1] 3 (0, 0)) yy9 hb); have n2_ := Aside0.mk (below_step yy4 hb); clear BK288; clear BK289; clear HB; have BK288 := n0_; have BK289 := n1_; have HB := n2_; clear n0_ n1_ n2_; (try clear hb); (try clear hb2); (try clear hk); (try clear hi)))
    go_meet
    case rel => exact ⟨_, (t292), yy11, H', ⟨by first | omega | exact Nat.le_refl _⟩, ⟨by (with_reducible repeat (first | refine blk_drewN ?_ _ | refine blk_drew ?_ | refine blk_alloc ?_ _)); exact BK288.out⟩, ⟨by (with_reducible repeat (first | refine blk_drewN ?_ _ | refine blk_drew ?_ | refine blk_alloc ?_ _)); exact BK289.out⟩, ⟨by repeat (first | (with_reducible first | exact HB.out | apply below_alloc | apply pw_below_drewN | apply below_drew1 | refine below_set ?_ GE288.out | refine below_set ?_ GE289.out) | exact HB.out)⟩⟩
   ·replace c9 := Bool.eq_false_iff.mpr c9
    subst c9
    have H1 : (impl_PackArchive.j0 k true l0 a1) = some (r1, r2) := by rw [if_neg (show ¬ (false = true) by decide)] at H; exact H
    clear H
    have H := H1
    clear H1
    have H' := Aside0.mk H
    clear H
    have hnb17 := NB288_289.out
    have hnc17 := NB289_288.out
    have hcz18_0 : w5.cell? ⟨gb288, 0, none⟩ = some (.slice A0 l0.length c0) := (blk_cell BK288.out 0).trans rfl
    have hfz18_0 := blk_frozen BK288.out 0
    go_wp2_with (first | ((with_reducible refine gate_callee (f := 39) rfl ?_); refine goesL_ (some 19) rfl rfl Try.func39 (by kernel_rfl) rfl #[.slice A0 l0.length c0] rfl yy3 ?_; (with_reducible refine (impl_areItems.calls k _ _ l0 true _ ?side1 ?side2 A6.out).mono ?_); (case side1 => repeat (first | exact (Kd.C_below HR0.out HB.out) | (with_reducible refine Kd.C_alloc ?_ _) | (with_reducible refine Kd.C_drewN ?_ _) | (with_reducible refine Kd.C_drew ?_))); (case side2 => exact HC0.out); rintro e w19 ⟨rfl, hb⟩; refine ⟨_, rfl, ?_⟩; have n0_ := Aside0.mk (blk_below (g := gb288) (o := .cells #[.slice A0 l0.length c0] 29 (0, 0)) yy10 hb); have n1_ := Aside0.mk (blk_below (g := gb289) (o := .cells #[.int .i64 a1] 3 (0, 0)) yy9 hb); have n2_ := Aside0.mk (below_step yy4 hb); clear BK288; clear BK289; clear HB; have BK288 := n0_; have BK289 := n1_; have HB := n2_; clear n0_ n1_ n2_; (try clear hb); (try clear hb2); (try clear hk); (try clear hi); have hcz20_0 : w19.cell? ⟨gb289, 0, none⟩ = some (.int .i64 a1) := (blk_cell BK289.out 0).trans rfl; have hfz20_0 := blk_frozen BK289.out 0) | (go_at_call 57; (with_reducible refine (impl_isCapacity.calls a1 false _ A8.out).mono ?_); rintro e w' ⟨rfl, ⟨nd, rfl⟩⟩))
    go_meet
    case rel => exact ⟨_, (true), yy11, H', ⟨by first | omega | exact Nat.le_refl _⟩, ⟨by (with_reducible repeat (first | refine blk_drewN ?_ _ | refine blk_drew ?_ | refine blk_alloc ?_ _)); exact BK288.out⟩, ⟨by (with_reducible repeat (first | refine blk_drewN ?_ _ | refine blk_drew ?_ | refine blk_alloc ?_ _)); exact BK289.out⟩, ⟨by repeat (first | (with_reducible first | exact HB.out | apply below_alloc | apply pw_below_drewN | apply below_drew1 | refine below_set ?_ GE288.out | refine below_set ?_ GE289.out) | exact HB.out)⟩⟩
  ·replace c7 := Bool.eq_false_iff.mpr c7
   subst c7
   have H1 : (impl_PackArchive.j0 k true l0 a1) = some (r1, r2) := by rw [if_neg (show ¬ (false = true) by decide)] at H; exact H
   clear H
   have H := H1
   clear H1
   have H' := Aside0.mk H
   clear H
   have hnb21 := NB288_289.out
   have hnc21 := NB289_288.out
   have hcz22_0 : w5.cell? ⟨gb288, 0, none⟩ = some (.slice A0 l0.length c0) := (blk_cell BK288.out 0).trans rfl
   have hfz22_0 := blk_frozen BK288.out 0
   go_wp2_with (first | ((with_reducible refine gate_callee (f := 39) rfl ?_); refine goesL_ (some 19) rfl rfl Try.func39 (by kernel_rfl) rfl #[.slice A0 l0.length c0] rfl yy3 ?_; (with_reducible refine (impl_areItems.calls k _ _ l0 false _ ?side1 ?side2 A6.out).mono ?_); (case side1 => repeat (first | exact (Kd.C_below HR0.out HB.out) | (with_reducible refine Kd.C_alloc ?_ _) | (with_reducible refine Kd.C_drewN ?_ _) | (with_reducible refine Kd.C_drew ?_))); (case side2 => exact HC0.out); rintro e w23 ⟨rfl, hb⟩; refine ⟨_, rfl, ?_⟩; have n0_ := Aside0.mk (blk_below (g := gb288) (o := .cells #[.slice A0 l0.length c0] 29 (0, 0)) yy10 hb); have n1_ := Aside0.mk (blk_below (g := gb289) (o := .cells #[.int .i64 a1] 3 (0, 0)) yy9 hb); have n2_ := Aside0.mk (below_step yy4 hb); clear BK288; clear BK289; clear HB; have BK288 := n0_; have BK289 := n1_; have HB := n2_; clear n0_ n1_ n2_; (try clear hb); (try clear hb2); (try clear hk); (try clear hi)))
   go_meet
   case rel => exact ⟨_, (true), yy11, H', ⟨by first | omega | exact Nat.le_refl _⟩, ⟨by (with_reducible repeat (first | refine blk_drewN ?_ _ | refine blk_drew ?_ | refine blk_alloc ?_ _)); exact BK288.out⟩, ⟨by (with_reducible repeat (first | refine blk_drewN ?_ _ | refine blk_drew ?_ | refine blk_alloc ?_ _)); exact BK289.out⟩, ⟨by repeat (first | (with_reducible first | exact HB.out | apply below_alloc | apply pw_below_drewN | apply below_drew1 | refine below_set ?_ GE288.out | refine below_set ?_ GE289.out) | exact HB.out)⟩⟩
 case rest =>
  clear HC3
  try clear c1
  try clear c2
  try clear p2
  try clear c3
  try clear c7
  try clear c9
  try clear c11
  try clear c17
  try clear c21
  try clear hcz12_0
  try clear hcz14_0
  try clear hcz15_0
  try clear hcz18_0
  try clear hcz20_0
  try clear hcz22_0
  try clear hfz12_0
  try clear hfz14_0
  try clear hfz15_0
  try clear hfz18_0
  try clear hfz20_0
  try clear hfz22_0
  obtain ⟨kq, x30_2, rfl, HA, HJ2, BK288, BK289, HB⟩ := hcut
  cases kq with
  | zero => exact absurd HA.out (by simp [impl_PackArchive.j0])
  | succ kj2 =>
   have H := HA.out
   clear HA
   simp only [impl_PackArchive.j0] at H
   by_cases c24 : x30_2 = true
   ·subst c24
    have H1 : (some (([] : List (S62)), false)) = some (r1, r2) := by rw [if_pos rfl] at H; exact H
    clear H
    have H := H1
    clear H1
    simp only [Option.some.injEq, Prod.mk.injEq] at H
    obtain ⟨rfl, rfl⟩ := H
    go_wp2
    go_ret2
    exact ⟨_, by first | rfl | (simp [errW_none, errW_some] <;> rfl) | (simp [*, errW_none, errW_some] <;> rfl), by first | exact Kd.S_nil _ _ _ _ _ | exact Kd.N_nil _ _ _ _ _ | exact Kd.V_nil _ _ _ _ _ | exact Kd.Q_nil _ _ _ _ _ | exact Kd.R_nil _ _ _ _ _, by repeat (first | (with_reducible first | exact HB.out | apply below_alloc | apply pw_below_drewN | apply below_drew1 | refine below_set ?_ GE288.out | refine below_set ?_ GE289.out) | exact HB.out)⟩
   ·replace c24 := Bool.eq_false_iff.mpr c24
    subst c24
    have H1 : (impl_PackArchive.l0 kj2 (([] : List Int)) (l0.length : Int) 0 l0 a1) = some (r1, r2) := by rw [if_neg (show ¬ (false = true) by decide)] at H; exact H
    clear H
    have H := H1
    clear H1
    obtain ⟨y293, hy293⟩ : ∃ y_ : List Int, y_ = (([] : List Int)) := ⟨_, rfl⟩
    replace H : (impl_PackArchive.l0 kj2 y293 (l0.length : Int) 0 l0 a1) = some (r1, r2) := by first | (rw [hy293]; with_reducible exact H) | (have H2_ := (Option.bind_some _ _).symm.trans H; rw [hy293]; with_reducible exact H2_) | (have H2_ := (Option.bind_some _ _).symm.trans H; with_reducible exact H2_) | with_reducible exact H | (rw [hy293]; exact H) | exact H
    have Ny293 := Aside0.mk hy293
    clear hy293
    have H' := Aside0.mk H
    clear H
    go_wp2_with (first | ((with_reducible refine gate_dst (N := 31) rfl ?_); refine Kd.R_lit (Kd.int .i64) _ 3 ?hg (N := 31) ?hd (xs := ([] : List Int)) (inner := []) (ok := fun _ => True) (okp := fun _ => True) ?hr ?hp (fun _ hk => hk) trivial (Below.refl _ _) (Nat.le_refl _) (by simp) ?_; (case hd => rfl); (case hg => rfl); (case hr => first | (go_simp; done) | (go_simp; rfl)); (case hp => exact (Reps.none _ _)); intro v294 w25 ho26 hb hg_ hnew_; clear hg_ hnew_; (first | rw [← Ny293.out] at ho26 | (simp only [Int.reduceToNat] at ho26; rw [← Ny293.out] at ho26)); have n0_ := Aside0.mk (Kd.R_lower (Kd.R_newB ho26 (g := gb289) (o := .cells #[.int .i64 a1] 3 (0, 0)) yy9) (below_size yy4)); have n1_ := Aside0.mk (blk_below (g := gb288) (o := .cells #[.slice A0 l0.length c0] 29 (0, 0)) yy10 hb); have n2_ := Aside0.mk (blk_below (g := gb289) (o := .cells #[.int .i64 a1] 3 (0, 0)) yy9 hb); have n3_ := Aside0.mk (below_step yy4 hb); clear BK288; clear BK289; clear HB; have HO295 := n0_; have BK288 := n1_; have BK289 := n2_; have HB := n3_; clear n0_ n1_ n2_ n3_; clear hb ho26; have hnb27 := NB288_289.out; have hnc27 := NB289_288.out; have hcz28_0 : w25.cell? ⟨gb288, 0, none⟩ = some (.slice A0 l0.length c0) := (blk_cell BK288.out 0).trans rfl; have hfz28_0 := blk_frozen BK288.out 0))
    go_loopg [6, 34] kj2 (fun kq v6 v34 w' => ∃ (x6_2 : List Int) (x34_2 : Int), v34 = .int .i64 x34_2 ∧ Aside0 (impl_PackArchive.l0 kq x6_2 (l0.length : Int) x34_2 l0 a1 = some (r1, r2)) ∧ Aside0 (kq ≤ kj2) ∧ Aside0 (Kd.R (Kd.int .i64) 3 w' w.heap.size (fun k_ => k_ ≠ gb289) v6 x6_2) ∧ Aside0 (w'.heap[gb288]? = some (.cells #[(.slice A0 l0.length c0)] 29 (0, 0))) ∧ Aside0 (w'.heap[gb289]? = some (.cells #[.int .i64 a1] 3 (0, 0))) ∧ Aside0 (Below w.heap.size w w'))
    case atStart => exact ⟨(y293), (0), yy11, H', ⟨Nat.le_refl _⟩, ⟨by (with_reducible repeat (first | apply Kd.R_alloc | apply Kd.R_drewN | apply Kd.R_drew)); exact Kd.R_mono HO295.out (fun _ hk => hk.2)⟩, ⟨by (with_reducible repeat (first | refine blk_drewN ?_ _ | refine blk_drew ?_ | refine blk_alloc ?_ _)); exact BK288.out⟩, ⟨by (with_reducible repeat (first | refine blk_drewN ?_ _ | refine blk_drew ?_ | refine blk_alloc ?_ _)); exact BK289.out⟩, ⟨by repeat (first | (with_reducible first | exact HB.out | apply below_alloc | apply pw_below_drewN | apply below_drew1 | refine below_set ?_ GE288.out | refine below_set ?_ GE289.out) | exact HB.out)⟩⟩
    case round =>
     clear H'
     try clear c1
     try clear c2
     try clear p2
     try clear c3
     try clear c7
     try clear c9
     try clear c11
     try clear c17
     try clear c21
     try clear c24
     try clear c27
     try clear hcz12_0
     try clear hcz14_0
     try clear hcz15_0
     try clear hcz18_0
     try clear hcz20_0
     try clear hcz22_0
     try clear hcz28_0
     try clear hfz12_0
     try clear hfz14_0
     try clear hfz15_0
     try clear hfz18_0
     try clear hfz20_0
     try clear hfz22_0
     try clear hfz28_0
     try clear p2
     obtain ⟨x6_2, x34_2, rfl, HA, HK2, HO_6, BK288, BK289, HB⟩ := hrel
     cases gk with
     | zero => exact absurd HA.out (by simp [impl_PackArchive.l0])
     | succ k2 =>
      have H := HA.out
      clear HA
      simp only [impl_PackArchive.l0] at H
      by_cases c29 : x34_2 < (l0.length : Int)
      ·rw [if_pos c29] at H
       have c29b0 : decide (x34_2 < (l0.length : Int)) = true := decide_eq_true c29
       clear c29
       by_cases c30 : x6_2.length < 17592186044416
       ·rw [if_pos c30] at H
        have LMc30 := Aside0.mk c30
        clear c30
        obtain ⟨y296, hy296⟩ : ∃ y_ : List Int, y_ = (x6_2 ++ [x34_2]) := ⟨_, rfl⟩
        replace H : (impl_PackArchive.l0 k2 y296 (l0.length : Int) (wrap64 (x34_2 + 1)) l0 a1) = some (r1, r2) := by first | (rw [hy296]; with_reducible exact H) | (have H2_ := (Option.bind_some _ _).symm.trans H; rw [hy296]; with_reducible exact H2_) | (have H2_ := (Option.bind_some _ _).symm.trans H; with_reducible exact H2_) | with_reducible exact H | (rw [hy296]; exact H) | exact H
        have Ny296 := Aside0.mk hy296
        clear hy296
        have H' := Aside0.mk H
        clear H
        go_wp2_with (first | ((with_reducible refine gate_builtin (b := .append) (xs := #[.tmp 37, .tmp 39]) rfl ?_); at_builtin; refine Kd.R_append (Kd.int .i64) (w0 := w) w.heap.size rfl (.tmp 37) (.tmp 39) 26 3 (.int .i64 0) 8 rfl Try.underlying26 info3 rfl (by decide) (by omega) u6 x6_2 x34_2 [.int .i64 x34_2] (fun k_ => k_ ≠ gb289) (fun _ => False) rfl rfl ?aP (fun _ hk => hk.elim) ?aF ?aO ?aB ?aS ?aL ?_; (case aP => exact rfl); (case aB => exact yy4); (case aF => exact (fun k_ hk => Kd.freshB (g := gb289) (o := .cells #[.int .i64 a1] 3 (0, 0)) yy9 k_ hk)); (case aO => exact yy66); (case aS => exact (below_size yy4)); (case aL => have := LMc30.out; omega); intro v297 w31 ho hb hg hat; rw [← Ny296.out] at ho; have n0_ := Aside0.mk (blk_grown (g := gb288) (o := .cells #[.slice A0 l0.length c0] 29 (0, 0)) yy10 hg (Kd.R_ne HO_6.out BK288.out (by decide))); have n1_ := Aside0.mk (blk_grown (g := gb289) (o := .cells #[.int .i64 a1] 3 (0, 0)) yy9 hg (Kd.R_away HO_6.out (fun _ hk => hk))); have n2_ := Aside0.mk (hb); have n3_ := Aside0.mk (ho); clear BK288; clear BK289; clear HB; clear HO_6; have BK288 := n0_; have BK289 := n1_; have HB := n2_; have HO298 := n3_; clear n0_ n1_ n2_ n3_; clear ho hb hg hat))
        go_roundg k2
        case measure => have := HJ2.out; have := HK2.out; omega
        case rel => exact ⟨(y296), (wrap64 (x34_2 + 1)), yy11, H', ⟨by have := HJ2.out; have := HK2.out; omega⟩, ⟨by (with_reducible repeat (first | apply Kd.R_alloc | apply Kd.R_drewN | apply Kd.R_drew)); exact HO298.out⟩, ⟨by (with_reducible repeat (first | refine blk_drewN ?_ _ | refine blk_drew ?_ | refine blk_alloc ?_ _)); exact BK288.out⟩, ⟨by (with_reducible repeat (first | refine blk_drewN ?_ _ | refine blk_drew ?_ | refine blk_alloc ?_ _)); exact BK289.out⟩, ⟨by repeat (first | (with_reducible first | exact HB.out | apply below_alloc | apply pw_below_drewN | apply below_drew1 | refine below_set ?_ GE288.out | refine below_set ?_ GE289.out) | exact HB.out)⟩⟩
       ·rw [if_neg c30] at H
        exact absurd H (by simp)
      ·rw [if_neg c29] at H
       have c29b0 : decide (x34_2 < (l0.length : Int)) = false := decide_eq_false c29
       clear c29
       replace H := Option.bind_eq_some_iff.mp H
       obtain ⟨t299, A320, H⟩ := H
       replace H : (impl_PackArchive.l1 k2 (([] : List (List Int))) t299 (x6_2.length : Int) 0 l0 a1) = some (r1, r2) := H
       have A32 := Aside0.mk A320
       clear A320
       obtain ⟨y300, hy300⟩ : ∃ y_ : List (List Int), y_ = (([] : List (List Int))) := ⟨_, rfl⟩
       replace H : (impl_PackArchive.l1 k2 y300 t299 (x6_2.length : Int) 0 l0 a1) = some (r1, r2) := by first | (rw [hy300]; with_reducible exact H) | (have H2_ := (Option.bind_some _ _).symm.trans H; rw [hy300]; with_reducible exact H2_) | (have H2_ := (Option.bind_some _ _).symm.trans H; with_reducible exact H2_) | with_reducible exact H | (rw [hy300]; exact H) | exact H
       have Ny300 := Aside0.mk hy300
       clear hy300
       have H' := Aside0.mk H
       clear H
       obtain ⟨Ao33, co33, eo33⟩ := Kd.R_slice HO_6.out
       subst eo33
       go_wp2_with (first | ((with_reducible refine gate_callee (f := 69) rfl ?_); refine goesL_ (some 44) rfl rfl Try.func69 (by kernel_rfl) rfl #[.slice Ao33 x6_2.length co33, .func (.func 70) #[] #[.pointer (some ⟨gb288, 0, none⟩)]] rfl yy3 ?_; (with_reducible refine (stable_Pack1.calls (fun k_ => some k_ = (.slice Ao33 x6_2.length co33 : Value).ownBlock) (.slice Ao33 x6_2.length co33) x6_2 A0 c0 l0 gb288 t299 w _ ?side1 ?side2 ?side3 ?side4 ?side5 ?side6 A32.out).mono ?_); (case side1 => repeat (first | (with_reducible first | exact HB.out | apply below_alloc | apply pw_below_drewN | apply below_drew1 | refine below_set ?_ GE288.out | refine below_set ?_ GE289.out) | exact HB.out)); (case side2 => exact Kd.R_tight rfl HO_6.out); (case side3 => exact Kd.C_kept_came k50_heap HR0.out yy4 (fun k_ hs_ => (fun e_ => Kd.R_base HO_6.out k_ e_.symm) hs_)); (case side4 => exact HC0.out); (case side5 => exact yy10); (case side6 => exact fun hs_ => (fun e_ => (Kd.R_ne HO_6.out BK288.out (by decide)) e_) hs_); rintro e w34 ⟨rfl, hy0, hb, hkp⟩; refine ⟨_, rfl, ?_⟩; have n0_ := Aside0.mk (Kd.R_reok rfl hy0 (fun k_ e_ => HO_6.out.1 k_ e_)); have n1_ := Aside0.mk (blk_kept yy10 hkp (fun hs_ => (fun e_ => (Kd.R_ne HO_6.out BK288.out (by decide)) e_) hs_)); have n2_ := Aside0.mk (blk_kept yy9 hkp (fun hs_ => (fun e_ => (Kd.R_away HO_6.out (fun _ hk => hk)) e_) hs_)); have n3_ := Aside0.mk (hb); clear HO_6; clear BK288; clear BK289; clear HB; have HO_6 := n0_; have BK288 := n1_; have BK289 := n2_; have HB := n3_; clear n0_ n1_ n2_ n3_; (try clear hb); (try clear hkp); (try clear hy0)) | ((with_reducible refine gate_dst (N := 45) rfl ?_); refine Kd.S_lit (Kd.slice 3 (Kd.int .i64)) _ 26 ?hg (N := 45) ?hd (xs := ([] : List (List Int))) (inner := []) (ok := fun _ => True) (okp := fun _ => True) ?hr ?hp (fun _ hk => hk) trivial (Below.refl _ _) (Nat.le_refl _) (by simp) ?_; (case hd => rfl); (case hg => rfl); (case hr => first | (go_simp; done) | (go_simp; rfl)); (case hp => exact (Reps.none _ _)); intro v301 w35 ho36 hb hg_ hnew_; clear hg_ hnew_; (first | rw [← Ny300.out] at ho36 | (simp only [Int.reduceToNat] at ho36; rw [← Ny300.out] at ho36)); have n0_ := Aside0.mk (Kd.R_below yy66 hb); have n1_ := Aside0.mk (Kd.S_lower (Kd.S_newB (Kd.S_new' ho36 (Kd.R_lt yy66)) (g := gb289) (o := .cells #[.int .i64 a1] 3 (0, 0)) yy9) (below_size yy4)); have n2_ := Aside0.mk (blk_below (g := gb288) (o := .cells #[.slice A0 l0.length c0] 29 (0, 0)) yy10 hb); have n3_ := Aside0.mk (blk_below (g := gb289) (o := .cells #[.int .i64 a1] 3 (0, 0)) yy9 hb); have n4_ := Aside0.mk (below_step yy4 hb); clear HO_6; clear BK288; clear BK289; clear HB; have HO_6 := n0_; have HO302 := n1_; have BK288 := n2_; have BK289 := n3_; have HB := n4_; clear n0_ n1_ n2_ n3_ n4_; clear hb ho36))
       go_loopg [8, 48] k2 (fun kq v8 v48 w' => ∃ (x8_3 : List (List Int)) (x48_3 : Int), v48 = .int .i64 x48_3 ∧ Aside0 (impl_PackArchive.l1 kq x8_3 t299 (x6_2.length : Int) x48_3 l0 a1 = some (r1, r2)) ∧ Aside0 (kq ≤ k2) ∧ Aside0 (Kd.S (Kd.slice 3 (Kd.int .i64)) 26 w' w.heap.size (fun k_ => some k_ ≠ ((.slice Ao33 x6_2.length co33) : Value).ownBlock ∧ k_ ≠ gb289) v8 x8_3) ∧ Aside0 (Kd.R (Kd.int .i64) 3 w' w.heap.size (fun k_ => k_ ≠ gb289) (.slice Ao33 x6_2.length co33) t299) ∧ Aside0 (w'.heap[gb288]? = some (.cells #[(.slice A0 l0.length c0)] 29 (0, 0))) ∧ Aside0 (w'.heap[gb289]? = some (.cells #[.int .i64 a1] 3 (0, 0))) ∧ Aside0 (Below w.heap.size w w'))
       case atStart => exact ⟨(y300), (0), yy11, H', ⟨Nat.le_refl _⟩, ⟨by (with_reducible repeat (first | apply Kd.S_alloc | apply Kd.S_drewN | apply Kd.S_drew)); exact Kd.S_mono HO302.out (fun _ hk => ⟨hk.1.2, hk.2⟩)⟩, ⟨by (with_reducible repeat (first | apply Kd.R_alloc | apply Kd.R_drewN | apply Kd.R_drew)); exact HO_6.out⟩, ⟨by (with_reducible repeat (first | refine blk_drewN ?_ _ | refine blk_drew ?_ | refine blk_alloc ?_ _)); exact BK288.out⟩, ⟨by (with_reducible repeat (first | refine blk_drewN ?_ _ | refine blk_drew ?_ | refine blk_alloc ?_ _)); exact BK289.out⟩, ⟨by repeat (first | (with_reducible first | exact HB.out | apply below_alloc | apply pw_below_drewN | apply below_drew1 | refine below_set ?_ GE288.out | refine below_set ?_ GE289.out) | exact HB.out)⟩⟩
       case round =>
        clear H'
        try clear c1
        try clear c2
        try clear p2
        try clear c3
        try clear c6
        try clear p6
        try clear c7
        try clear c9
        try clear c11
        try clear c17
        try clear c21
        try clear c24
        try clear c27
        try clear c29
        try clear c29b0
        try clear c30
        try clear c31
        try clear hcz12_0
        try clear hcz14_0
        try clear hcz15_0
        try clear hcz18_0
        try clear hcz20_0
        try clear hcz22_0
        try clear hcz28_0
        try clear hfz12_0
        try clear hfz14_0
        try clear hfz15_0
        try clear hfz18_0
        try clear hfz20_0
        try clear hfz22_0
        try clear hfz28_0
        try clear p2
        obtain ⟨x8_3, x48_3, rfl, HA, HK3, HO_8, HO_46, BK288, BK289, HB⟩ := hrel
        have hl46_3 := (Kd.R_reads' HO_46.out).1
        rw [hl46_3] at HO_46
        (try simp only [hl46_3])
        (try simp only [hl46_3] at BK288)
        (try simp only [hl46_3] at BK289)
        (try simp only [hl46_3] at HO_8)
        cases gk with
        | zero => exact absurd HA.out (by simp [impl_PackArchive.l1])
        | succ k3 =>
         have H := HA.out
         clear HA
         simp only [impl_PackArchive.l1] at H
         by_cases c37 : x48_3 < (x6_2.length : Int)
         ·rw [if_pos c37] at H
          have c37b0 : decide (x48_3 < (x6_2.length : Int)) = true := decide_eq_true c37
          clear c37
          by_cases c38 : 0 ≤ x48_3
          ·rw [if_pos c38] at H
           have c38b0 : decide (0 ≤ x48_3) = true := decide_eq_true c38
           clear c38
           by_cases c39 : x48_3 < (t299.length : Int)
           ·rw [if_pos c39] at H
            have c39b0 : decide (x48_3 < (t299.length : Int)) = true := decide_eq_true c39
            clear c39
            replace H := Option.bind_eq_some_iff.mp H
            obtain ⟨t305, A400, H⟩ := H
            replace H : (if t305 < 0 then (if x8_3.length < 5864062014805 then ((some (x8_3 ++ [([] : List Int)] : List (List Int))).bind fun y306 => (if 0 ≤ (x8_3.length : Int) then (if (x8_3.length : Int) < (y306.length : Int) then (if (rd_L3 y306 (x8_3.length : Int)).length < 17592186044416 then (impl_PackArchive.l1 k3 (y306.set ((x8_3.length : Int) : Int).toNat ((rd_L3 y306 (x8_3.length : Int)) ++ [rd t299 x48_3])) t299 (x6_2.length : Int) (wrap64 (x48_3 + 1)) l0 a1) else (none)) else (none)) else (none))) else (none)) else (if 0 ≤ t305 then (if t305 < (x8_3.length : Int) then (if (rd_L3 x8_3 t305).length < 17592186044416 then (impl_PackArchive.l1 k3 (x8_3.set (t305 : Int).toNat ((rd_L3 x8_3 t305) ++ [rd t299 x48_3])) t299 (x6_2.length : Int) (wrap64 (x48_3 + 1)) l0 a1) else (none)) else (none)) else (none))) = some (r1, r2) := H
            have A40 := Aside0.mk A400
            clear A400
            by_cases c41 : t305 < 0
            ·rw [if_pos c41] at H
             have c41b0 : decide (t305 < 0) = true := decide_eq_true c41
             clear c41
             by_cases c42 : x8_3.length < 5864062014805
             ·rw [if_pos c42] at H
              have LMc42 := Aside0.mk c42
              clear c42
              obtain ⟨y306, hy306⟩ : ∃ y_ : List (List Int), y_ = (x8_3 ++ [([] : List Int)]) := ⟨_, rfl⟩
              replace H : (if 0 ≤ (x8_3.length : Int) then (if (x8_3.length : Int) < (y306.length : Int) then (if (rd_L3 y306 (x8_3.length : Int)).length < 17592186044416 then (impl_PackArchive.l1 k3 (y306.set ((x8_3.length : Int) : Int).toNat ((rd_L3 y306 (x8_3.length : Int)) ++ [rd t299 x48_3])) t299 (x6_2.length : Int) (wrap64 (x48_3 + 1)) l0 a1) else (none)) else (none)) else (none)) = some (r1, r2) := by first | (rw [hy306]; with_reducible exact H) | (have H2_ := (Option.bind_some _ _).symm.trans H; rw [hy306]; with_reducible exact H2_) | (have H2_ := (Option.bind_some _ _).symm.trans H; with_reducible exact H2_) | with_reducible exact H | (rw [hy306]; exact H) | exact H
              have Ny306 := Aside0.mk hy306
              clear hy306
              by_cases c43 : 0 ≤ (x8_3.length : Int)
              ·rw [if_pos c43] at H
               have c43b0 : decide (0 ≤ (x8_3.length : Int)) = true := decide_eq_true c43
               have c43b1 : decide (0 ≤ x8_3.length) = true := decide_eq_true (by omega)
               clear c43
               by_cases c44 : (x8_3.length : Int) < (y306.length : Int)
               ·rw [if_pos c44] at H
                have c44b0 : decide ((x8_3.length : Int) < (y306.length : Int)) = true := decide_eq_true c44
                have c44b1 : decide (x8_3.length < y306.length) = true := decide_eq_true (Int.ofNat_lt.mp c44)
                clear c44
                by_cases c45 : (rd_L3 y306 (x8_3.length : Int)).length < 17592186044416
                ·rw [if_pos c45] at H
                 have LMc45 := Aside0.mk c45
                 clear c45
                 obtain ⟨y310, hy310⟩ : ∃ y_ : List Int, y_ = ((rd_L3 y306 (x8_3.length : Int)) ++ [rd t299 x48_3]) := ⟨_, rfl⟩
                 replace H : (impl_PackArchive.l1 k3 (y306.set ((x8_3.length : Int) : Int).toNat y310) t299 (x6_2.length : Int) (wrap64 (x48_3 + 1)) l0 a1) = some (r1, r2) := by first | (rw [hy310]; with_reducible exact H) | (have H2_ := (Option.bind_some _ _).symm.trans H; rw [hy310]; with_reducible exact H2_) | (have H2_ := (Option.bind_some _ _).symm.trans H; with_reducible exact H2_) | with_reducible exact H | (rw [hy310]; exact H) | exact H
                 have Ny310 := Aside0.mk hy310
                 clear hy310
                 obtain ⟨y313, hy313⟩ : ∃ y_ : List (List Int), y_ = (y306.set ((x8_3.length : Int) : Int).toNat y310) := ⟨_, rfl⟩
                 replace H : (impl_PackArchive.l1 k3 y313 t299 (x6_2.length : Int) (wrap64 (x48_3 + 1)) l0 a1) = some (r1, r2) := by first | (rw [hy313]; with_reducible exact H) | (have H2_ := (Option.bind_some _ _).symm.trans H; rw [hy313]; with_reducible exact H2_) | (have H2_ := (Option.bind_some _ _).symm.trans H; with_reducible exact H2_) | with_reducible exact H | (rw [hy313]; exact H) | exact H
                 have Ny313 := Aside0.mk hy313
                 clear hy313
                 have H' := Aside0.mk H
                 clear H
                 have p303 : 0 ≤ (x48_3 : Int) := of_decide_eq_true yy2
                 have q303 : x48_3 < (t299.length : Int) := of_decide_eq_true yy2
                 obtain ⟨ad303, e303, hx303_0⟩ := Kd.at_int (Kd.R_reads' HO_46.out).2.2 x48_3 p303 q303
                 cases e303
                 replace p303 := eq_true p303
                 replace q303 := eq_true q303
                 try go_wp2_with (first | ((with_reducible refine gate_dst (N := 10) rfl ?_); refine box_event ?hg (N := 10) ?hd (cs := #[.int .i64 0]) (t := 3) ?hr ?_; (case hd => rfl); (case hg => rfl); (case hr => first | (go_simp; done) | (go_simp; rfl)); intro gb304 hg w47 hbox hb; have n0_ := Aside0.mk (Kd.S_below (Kd.S_elderB yy67 gb304 (Nat.le_of_eq hg.symm)) hb); have n1_ := Aside0.mk (Kd.R_below (Kd.R_elderB yy21 gb304 (Nat.le_of_eq hg.symm)) hb); have n2_ := Aside0.mk (blk_below (g := gb288) (o := .cells #[.slice A0 l0.length c0] 29 (0, 0)) yy10 hb); have n3_ := Aside0.mk (blk_below (g := gb289) (o := .cells #[.int .i64 a1] 3 (0, 0)) yy9 hb); have n4_ := Aside0.mk (below_step yy4 hb); have n5_ := Aside0.mk (hbox); have n6_ := Aside0.mk ((by rw [hg]; exact (below_size yy4) : w.heap.size ≤ gb304)); have n7_ := Aside0.mk ((by rw [hg]; exact (below_size yy4) : w.heap.size ≤ gb304)); have n8_ := Aside0.mk ((by rw [hg]; exact Nat.ne_of_lt (blk_lt (g := gb288) (o := .cells #[.slice A0 l0.length c0] 29 (0, 0)) yy10) : gb288 ≠ gb304)); have n9_ := Aside0.mk ((by rw [hg]; exact Nat.ne_of_gt (blk_lt (g := gb288) (o := .cells #[.slice A0 l0.length c0] 29 (0, 0)) yy10) : gb304 ≠ gb288)); have n10_ := Aside0.mk ((by rw [hg]; exact Nat.ne_of_lt (blk_lt (g := gb289) (o := .cells #[.int .i64 a1] 3 (0, 0)) yy9) : gb289 ≠ gb304)); have n11_ := Aside0.mk ((by rw [hg]; exact Nat.ne_of_gt (blk_lt (g := gb289) (o := .cells #[.int .i64 a1] 3 (0, 0)) yy9) : gb304 ≠ gb289)); clear HO_8; clear HO_46; clear BK288; clear BK289; clear HB; have HO_8 := n0_; have HO_46 := n1_; have BK288 := n2_; have BK289 := n3_; have HB := n4_; have BK304 := n5_; have GW304 := n6_; have GE304 := n7_; have NB288_304 := n8_; have NB304_288 := n9_; have NB289_304 := n10_; have NB304_289 := n11_; clear n0_ n1_ n2_ n3_ n4_ n5_ n6_ n7_ n8_ n9_ n10_ n11_; clear hb hbox hg; have hnb48 := NB304_288.out; have hnc48 := NB288_304.out; have hnb49 := NB304_289.out; have hnc49 := NB289_304.out; have hcz50_0 : w47.cell? ⟨gb304, 0, none⟩ = some (.int .i64 0) := (blk_cell BK304.out 0).trans rfl; have hfz50_0 := blk_frozen BK304.out 0; obtain ⟨Ao51, co51, eo51⟩ := Kd.S_slice HO_8.out; subst eo51) | ((with_reducible refine gate_callee (f := 72) rfl ?_); refine goesL_ (some 54) rfl rfl Try.func72 (by kernel_rfl) rfl #[.slice Ao51 x8_3.length co51, .func (.func 73) #[] #[.pointer (some ⟨gb288, 0, none⟩), .pointer (some ⟨gb304, 0, none⟩), .pointer (some ⟨gb289, 0, none⟩)]] rfl yy3 ?_; (with_reducible refine (idx_Pack2.calls k3 _ _ x8_3 A0 c0 l0 gb288 (rd t299 x48_3) gb304 a1 gb289 t305 _ ?side1 ?side2 ?side3 ?side4 ?side5 ?side6 ?side7 A40.out).mono ?_); (case side1 => refine (Kd.S_reads' (e := 26) (base := w.heap.size) (ok := fun k_ => ((some k_ ≠ (.slice (some ad303) t299.length co33 : Value).ownBlock ∧ k_ ≠ gb289) ∧ k_ ≠ gb304)) (n := x8_3.length) (c := co51) ?_).2.2; exact yy20); (case side2 => exact (Kd.S_reads' HO_8.out).2.1); (case side3 => exact Kd.C_below HR0.out yy12); (case side4 => exact HC0.out); (case side5 => exact yy23); (case side6 => exact yy22); (case side7 => exact yy24); rintro e w52 ⟨rfl, hb⟩; refine ⟨_, rfl, ?_⟩; have n0_ := Aside0.mk (Kd.S_below yy20 hb); have n1_ := Aside0.mk (Kd.R_below yy59 hb); have n2_ := Aside0.mk (blk_below (g := gb288) (o := .cells #[.slice A0 l0.length c0] 29 (0, 0)) yy23 hb); have n3_ := Aside0.mk (blk_below (g := gb289) (o := .cells #[.int .i64 a1] 3 (0, 0)) yy24 hb); have n4_ := Aside0.mk (blk_below (g := gb304) (o := .cells #[.int .i64 (rd t299 x48_3)] 3 (0, 0)) yy22 hb); have n5_ := Aside0.mk (below_step yy12 hb); clear HO_8; clear HO_46; clear BK288; clear BK289; clear BK304; clear HB; have HO_8 := n0_; have HO_46 := n1_; have BK288 := n2_; have BK289 := n3_; have BK304 := n4_; have HB := n5_; clear n0_ n1_ n2_ n3_ n4_ n5_; (try clear hb); (try clear hb2); (try clear hk); (try clear hi)) | ((with_reducible refine gate_builtin (b := .append) (xs := #[.tmp 59, .tmp 60]) rfl ?_); at_builtin; refine Kd.S_append (Kd.slice 3 (Kd.int .i64)) (w0 := w) w.heap.size rfl (.tmp 59) (.tmp 60) 93 26 (.slice none 0 0) 24 rfl Try.underlying93 info26 rfl (by decide) (by omega) (.slice Ao51 x8_3.length co51) x8_3 ([] : List Int) [.slice none 0 0] (fun k_ => some k_ ≠ (.slice (some ad303) t299.length co33 : Value).ownBlock ∧ k_ ≠ gb289 ∧ k_ ≠ gb304) (fun _ => False) rfl rfl ?aP (fun k_ hk_ => hk_.elim) ?aF ?aO ?aB ?aS ?aL ?_; (case aP => exact Kd.M_row (Kd.R_nil _ _ _ _ _)); (case aB => exact yy12); (case aF => exact (fun k_ hk => ⟨Kd.fresh' (Kd.R_lt yy21) k_ hk, Kd.freshB (g := gb289) (o := .cells #[.int .i64 a1] 3 (0, 0)) yy9 k_ hk, Kd.freshB (g := gb304) (o := .cells #[.int .i64 (rd t299 x48_3)] 3 (0, 0)) yy42 k_ hk⟩)); (case aO => exact (by (with_reducible repeat (first | apply Kd.S_alloc | apply Kd.S_drewN | apply Kd.S_drew)); exact Kd.S_mono HO_8.out (fun k_ hk => ⟨⟨hk.1.1, ⟨hk.1.2, hk.2⟩⟩, fun e_ => e_⟩))); (case aS => exact (below_size yy12)); (case aL => have := LMc42.out; omega); intro v307 w53 ho hb hg hat; rw [← Ny306.out] at ho; have n0_ := Aside0.mk (Kd.R_over' yy21 (Kd.S_typed yy67) (by decide) hg); have n1_ := Aside0.mk (blk_grown (g := gb288) (o := .cells #[.slice A0 l0.length c0] 29 (0, 0)) yy10 hg (Kd.S_ne HO_8.out BK288.out (by decide))); have n2_ := Aside0.mk (blk_grown (g := gb289) (o := .cells #[.int .i64 a1] 3 (0, 0)) yy9 hg (Kd.S_ne HO_8.out BK289.out (by decide))); have n3_ := Aside0.mk (blk_grown (g := gb304) (o := .cells #[.int .i64 (rd t299 x48_3)] 3 (0, 0)) yy42 hg (Kd.S_ne HO_8.out BK304.out (by decide))); have n4_ := Aside0.mk (hb); have n5_ := Aside0.mk (ho); clear HO_46; clear BK288; clear BK289; clear BK304; clear HB; clear HO_8; have HO_46 := n0_; have BK288 := n1_; have BK289 := n2_; have BK304 := n3_; have HB := n4_; have HO308 := n5_; clear n0_ n1_ n2_ n3_ n4_ n5_; clear ho hb hg hat))
                 have n0_ := Aside0.mk (Kd.R_drew HO_46.out)
                 have n1_ := Aside0.mk (Kd.S_drew HO308.out)
                 have n2_ := Aside0.mk (blk_drew BK288.out)
                 have n3_ := Aside0.mk (blk_drew BK289.out)
                 have n4_ := Aside0.mk (blk_drew BK304.out)
                 have n5_ := Aside0.mk (below_drew1 HB.out)
                 clear HO_46 HO308 BK288 BK289 BK304 HB
                 have HO_46 := n0_
                 have HO308 := n1_
                 have BK288 := n2_
                 have BK289 := n3_
                 have BK304 := n4_
                 have HB := n5_
                 clear n0_ n1_ n2_ n3_ n4_ n5_
                 obtain ⟨Ao55, co55, eo55⟩ := Kd.S_slice HO308.out
                 (first | subst eo55 | (injection eo55 with f1_ f2_ f3_; have f4_ := f1_.symm; have f5_ := f3_.symm; clear f1_ f2_ f3_; subst f4_; subst f5_))
                 have p309 : 0 ≤ ((x8_3.length : Int) : Int) := of_decide_eq_true yy2
                 have q309 : (x8_3.length : Int) < (y306.length : Int) := of_decide_eq_true yy2
                 obtain ⟨ad309, A309_0, c309_0, e309, hx309_0, hl309_0, hi309_0⟩ := at_L3 (Kd.S_reads' HO308.out).2.2 (x8_3.length : Int) p309 q309
                 cases e309
                 obtain ⟨ce309, hce309, hMe309, hcc309⟩ := Kd.S_get HO308.out [] (x8_3.length : Int) p309 (by first | exact q309 | exact of_decide_eq_true yy2 | (have e_ := (Kd.S_reads' HO308.out).1; omega))
                 obtain ⟨ve309_0, rfl, ge309_0⟩ := hMe309
                 have hv309_0 := hcc309 0 _ rfl
                 rw [Nat.add_zero, show ((Kd.slice 3 (Kd.int .i64))).sz = 1 from rfl, Nat.mul_one] at hv309_0
                 replace hv309_0 := Option.some.inj (hv309_0.symm.trans hx309_0)
                 rw [hv309_0] at ge309_0
                 have HL309_0 := Aside0.mk (show Kd.R (Kd.int .i64) 3 _ _ _ _ (rd_L3 y306 (x8_3.length : Int)) from ge309_0)
                 clear hv309_0 ge309_0
                 have HX309_0 := Aside0.mk hx309_0
                 clear hcc309 hce309
                 have HR309_0 := Aside0.mk hi309_0
                 have HC309_0 := Aside0.mk hl309_0
                 clear hi309_0 hl309_0
                 (try simp only [Go.IntWalk.toNatUp] at hx309_0)
                 (try simp only [hl46_3] at p309)
                 (try simp only [hl46_3] at q309)
                 (try simp only [hl46_3] at hx309_0)
                 replace p309 := eq_true p309
                 replace q309 := eq_true q309
                 obtain ⟨go56, co56, eo56, gb56, gl56, cl56, HG56⟩ := Kd.S_form HO308.out (by have h_ : ((x8_3.length : Int) : Int) < ((y306.length : Int) : Int) := of_decide_eq_true yy2; have h2_ : 0 ≤ ((x8_3.length : Int) : Int) := (of_decide_eq_true yy2); omega)
                 (first | cases eo56 | (injection eo56 with ea_ en_ ec_; (first | subst ea_ | (injection ea_ with ea_; subst ea_)); subst ec_; clear en_))
                 have GB56 := Aside0.mk gb56
                 have GG56 := Aside0.mk HG56
                 clear gb56 gl56 HG56
                 (first | simp only [add_plain] at hx309_0 | skip)
                 obtain ⟨oki56, ce56, hcl56, hM56, hcc56, _, _, hH56⟩ := Kd.S_elem HO308.out [] ((x8_3.length : Int) : Int) (of_decide_eq_true yy2) (by have h_ : ((x8_3.length : Int) : Int) < ((y306.length : Int) : Int) := of_decide_eq_true yy2; first | exact h_ | (have e_ := (Kd.S_reads' HO308.out).1; omega) | simpa using h_)
                 obtain ⟨ve56_0, rfl, ge56_0⟩ := hM56
                 have hv56 := hcc56 0 _ rfl
                 have hX56 := HX309_0.out
                 (try simp only [add_plain] at hX56)
                 (try simp only [Nat.add_zero] at hv56)
                 (try rw [show ((Kd.slice 3 (Kd.int .i64))).sz = 1 from rfl, Nat.mul_one] at hv56)
                 replace hv56 := Option.some.inj (hv56.symm.trans hX56)
                 subst hv56
                 clear hX56 hcc56 hcl56
                 have UU56 := Aside0.mk (show Kd.R (Kd.int .i64) 3 _ w.heap.size oki56 (.slice A309_0 (rd_L3 y306 (x8_3.length : Int)).length c309_0) (rd_L3 y306 (x8_3.length : Int)) from ge56_0)
                 have HH56 := Aside0.mk hH56
                 have HN56 := Aside0.mk (Kd.S_reads' HO308.out).1
                 clear hH56 ge56_0
                 refine start_ (n := 11) (S := fun w' => w'.cell? ⟨gb304, 0, none⟩ = some (.int .i64 (rd t299 x48_3)) ∧ w'.cell? ⟨go56, x8_3.length, none⟩ = some (.slice A309_0 (rd_L3 y306 (x8_3.length : Int)).length c309_0)) (ds := [10]) bYtoadgikbbigdlaaPaAx24_0 (by kernel_rfl) rfl rfl ⟨(blk_cell BK304.out 0).trans rfl, hx309_0⟩ (fun hHeld => ?_); refine with_tabW impl_PackArchive.tab18 impl_PackArchive.bits18 (fun HT_ HW_ => ?_)
                 generalize w53.drew = w54 at HO_46 HO308 BK288 BK289 BK304 HB GG56 HH56 HL309_0 HR309_0 HX309_0 UU56 hx309_0 hHeld ⊢
                 refine pu_ 0 62 bYtoadgikbbigdlaaPaAx24_1 ?_
                 refine pu_ 1 63 bYtoadgikbbigdlaaPaAx24_2 ?_
                 refine pu_ 2 64 bYtoadgikbbigdlaaPaAx24_3 ?_
                 refine pu_ 3 65 bYtoadgikbbigdlaaPaAx24_4 ?_
                 refine pu_ 4 66 bYtoadgikbbigdlaaPaAx24_5 ?_
                 refine t2_ 5 67 bYtoadgikbbigdlaaPaAx24_6 hHeld ?_
                 refine t2_ 6 68 bYtoadgikbbigdlaaPaAx24_7 hHeld ?_
                 refine one_ (i := 7) (N := some 69) bYtoadgikbbigdlaaPaAx24_8 rfl rfl (one_of HT_.out (by kernel_rfl)) (by decide) (fun K hK => ?_)
                 refine value_ (w1 := ?_) (v := ?_) (by rfl) rfl ?_ ?_
                 rotate_left 2
                 ·go_simp
                  constructor
                  ·rfl
                  ·rfl
                 refine hK.out _ _ ⟨(blk_cell (blk_alloc BK304.out _) 0).trans rfl, (World.cell?_alloc_lt _ _ _ (World.block_lt_of_cell? _ _ (hHeld.2))).trans (hHeld.2)⟩ (fun hHeld => ?_)
                 clear hK K
                 refine no_ 69 ?_
                 refine one_ (i := 8) (N := some 70) bYtoadgikbbigdlaaPaAx24_9 rfl rfl (one_of HT_.out (by kernel_rfl)) (by decide) (fun K hK => ?_)
                 refine Kd.R_append_step (Kd.int .i64) (w0 := w) w.heap.size (by rfl) (.tmp 67) (.tmp 69) 26 3 (.int .i64 0) 8 rfl Try.underlying26 info3 rfl (by decide) (by omega) (.slice A309_0 (rd_L3 y306 (x8_3.length : Int)).length c309_0) (rd_L3 y306 (x8_3.length : Int)) (rd t299 x48_3) [.int .i64 (rd t299 x48_3)] (fun k_ => oki56 k_ ∨ ((fun k_ => some k_ ≠ (.slice (some ad303) t299.length co33 : Value).ownBlock ∧ k_ ≠ gb289 ∧ k_ ≠ gb304)) k_ ∧ w54.heap.size ≤ k_) (fun _ => False) rfl rfl ?aP (fun _ hk => hk.elim) ?aF ?aO ?aB ?aS ?aL ?_
                 (case aP => exact rfl)
                 (case aB => exact yy12)
                 (case aF => exact (fun k_ hk => .inr ⟨⟨Kd.fresh' (Kd.R_lt yy21) k_ hk, Kd.freshB (g := gb289) (o := .cells #[.int .i64 a1] 3 (0, 0)) yy9 k_ hk, Kd.freshB (g := gb304) (o := .cells #[.int .i64 (rd t299 x48_3)] 3 (0, 0)) yy42 k_ hk⟩, hk⟩))
                 (case aO => exact (by (with_reducible repeat (first | apply Kd.R_alloc | apply Kd.R_drewN | apply Kd.R_drew)); exact Kd.R_mono UU56.out (fun _ hk => .inl hk)))
                 (case aS => exact (below_size yy12))
                 (case aL => have := LMc45.out; omega)
                 intro v311 w57 ho hb hg hat
                 (first | have HS1_ := cell_grown hg (hHeld.2) yy60 | have HS1_ := cell_grown hg (cell_unalloc (hHeld.2) (by first | (rw [add_block]; exact Kd.S_lt HO308.out _ rfl) | (show (Addr.add _ _).block < _; rw [add_block]; exact Kd.S_lt HO308.out _ rfl) | exact Kd.S_lt HO308.out _ rfl)) yy60)
                 rw [← Ny310.out] at ho
                 have n0_ := Aside0.mk (Kd.R_grown2 yy21 rfl hg (fun k_ e_ => (HL309_0.out.1 k_ e_).1.1))
                 have n1_ := Aside0.mk (blk_grown (g := gb288) (o := .cells #[.slice A0 l0.length c0] 29 (0, 0)) yy10 hg (Kd.R_ne HL309_0.out BK288.out (by decide)))
                 have n2_ := Aside0.mk (blk_grown (g := gb289) (o := .cells #[.int .i64 a1] 3 (0, 0)) yy9 hg (Kd.R_away HL309_0.out (fun _ hk => hk.1.2.1)))
                 have n3_ := Aside0.mk (blk_grown (g := gb304) (o := .cells #[.int .i64 (rd t299 x48_3)] 3 (0, 0)) yy42 hg (Kd.R_away HL309_0.out (fun _ hk => hk.1.2.2)))
                 have n4_ := Aside0.mk (hb)
                 have n5_ := Aside0.mk (Kd.H_grown (Kd.H_widen (by repeat (first | exact HH56.out | refine Kd.H_alloc ?_ _ | refine Kd.H_drewN ?_ _ | refine Kd.H_drew ?_))) hg (fun k_ e_ => .inl (UU56.out.1 k_ e_)))
                 have n6_ := Aside0.mk (ho)
                 clear HO_46 BK288 BK289 BK304 HB HH56 HO308 UU56 HL309_0
                 have HO_46 := n0_
                 have BK288 := n1_
                 have BK289 := n2_
                 have BK304 := n3_
                 have HB := n4_
                 have HH56 := n5_
                 have HO312 := n6_
                 clear n0_ n1_ n2_ n3_ n4_ n5_ n6_ ho hb hg hat
                 have p46 : 0 ≤ ((x8_3.length : Int) : Int) := of_decide_eq_true yy2
                 have q46 : ((x8_3.length : Int) : Int) < ((y306.length : Int) : Int) := of_decide_eq_true yy2
                 replace p46 := eq_true p46
                 replace q46 := eq_true q46
                 obtain ⟨Ao60, co60, eo60⟩ := Kd.R_slice HO312.out
                 (first | subst eo60 | (injection eo60 with f1_ f2_ f3_; have f4_ := f1_.symm; have f5_ := f3_.symm; clear f1_ f2_ f3_; subst f4_; subst f5_))
                 obtain ⟨_, _, hraw58, _, _, hcc58, _⟩ := Kd.H_raw HH56.out (of_decide_eq_true yy2) (by have h_ : ((x8_3.length : Int) : Int) < ((y306.length : Int) : Int) := of_decide_eq_true yy2; first | exact h_ | (have e_ := (HN56.out); omega) | simpa using h_)
                 obtain ⟨_, hfr58⟩ := Kd.H_at HH56.out (of_decide_eq_true yy2) (by have h_ : ((x8_3.length : Int) : Int) < ((y306.length : Int) : Int) := of_decide_eq_true yy2; first | exact h_ | (have e_ := (HN56.out); omega) | simpa using h_)
                 have hx58_0 := hcc58 0 _ rfl
                 have hf58_0 := hfr58 0
                 (try simp only [Nat.add_zero] at hx58_0 hf58_0)
                 (try rw [show ((Kd.slice 3 (Kd.int .i64))).sz = 1 from rfl, Nat.mul_one] at hx58_0)
                 (try rw [show ((Kd.slice 3 (Kd.int .i64))).sz = 1 from rfl, Nat.mul_one] at hf58_0)
                 (try simp only [Int.toNat_natCast] at hx58_0 hf58_0)
                 have HP58 := Kd.S_seg0 HH56.out (of_decide_eq_true yy2) (by have h_ : ((x8_3.length : Int) : Int) < ((y306.length : Int) : Int) := of_decide_eq_true yy2; first | exact h_ | (have e_ := (HN56.out); omega) | simpa using h_) (seg := [.slice Ao60 y310.length co60]) (j := 0) (show 1 ≤ 1 from by decide) (x' := y310) (Kd.M_row HO312.out) (fun _ hk => hk)
                 (try simp only [show ((Kd.slice 3 (Kd.int .i64))).sz = 1 from rfl, Nat.mul_one, Nat.add_zero] at HP58)
                 clear hcc58 hfr58
                 have HNB288_go56 := Aside0.mk (show gb288 ≠ go56 from by have h_ := Kd.R_ne hraw58 BK288.out (by decide); intro e_; exact h_ (by rw [e_]; rfl))
                 have HNB289_go56 := Aside0.mk (show gb289 ≠ go56 from by have h_ := Kd.R_ne hraw58 BK289.out (by decide); intro e_; exact h_ (by rw [e_]; rfl))
                 have HNB304_go56 := Aside0.mk (show gb304 ≠ go56 from by have h_ := Kd.R_ne hraw58 BK304.out (by decide); intro e_; exact h_ (by rw [e_]; rfl))
                 have HS58 := HP58.1
                 rw [← Ny313.out] at HS58
                 have HQ58 := Aside0.mk HS58
                 obtain ⟨_, hgg58⟩ := Kd.R_typed hraw58 go56 rfl
                 have GG58_ := Aside0.mk hgg58
                 clear HP58 HS58 hgg58
                 refine hK.out _ _ ⟨(blk_cell BK304.out 0).trans rfl, HS1_⟩ (fun hHeld => ?_)
                 clear hK K
                 refine no_ 70 ?_
                 refine pu_ 9 71 bYtoadgikbbigdlaaPaAx24_10 ?_
                 refine last_ (i := 10) (N := none) bYtoadgikbbigdlaaPaAx24_11 rfl rfl (one_of HT_.out (by kernel_rfl)) (by decide) (fun K hK => ?_)
                 refine skip_ (w1 := ?_) (by rfl) rfl ?_ ?_
                 rotate_left
                 ·go_simp
                  rfl
                 refine hK.out _ _ ?_
                 clear hK K
                 refine done_ (done_of HT_.out (by kernel_rfl)) ?_
                 try go_wp2
                 (try simp only [← hl46_3])
                 go_roundg k3
                 case measure => have := HJ2.out; have := HK2.out; have := HK3.out; omega
                 case rel => exact ⟨(y313), (wrap64 (x48_3 + 1)), yy11, H', ⟨by have := HJ2.out; have := HK2.out; have := HK3.out; omega⟩, ⟨by (try simp only [hl46_3]); (with_reducible repeat (first | apply Kd.S_alloc | apply Kd.S_drewN | apply Kd.S_drew)); exact Kd.S_mono HQ58.out (fun _ hk => ⟨hk.1, hk.2.1⟩)⟩, ⟨by (try simp only [hl46_3]); (with_reducible repeat (first | apply Kd.R_alloc | apply Kd.R_drewN | apply Kd.R_drew)); exact Kd.R_mono (Kd.R_far (p := ⟨go56, ((x8_3.length : Int) : Int).toNat, none⟩) (Kd.R_types HO_46.out GG58_.out (by decide)) (fun _ hk => hk.2) (.slice Ao60 y310.length co60)) (fun _ hk => hk.1.1)⟩, ⟨by (try simp only [hl46_3]); (with_reducible repeat (first | refine blk_drewN ?_ _ | refine blk_drew ?_ | refine blk_alloc ?_ _)); refine blk_far ?_ HNB288_go56.out _; (with_reducible repeat (first | refine blk_drewN ?_ _ | refine blk_drew ?_ | refine blk_alloc ?_ _)); exact BK288.out⟩, ⟨by (try simp only [hl46_3]); (with_reducible repeat (first | refine blk_drewN ?_ _ | refine blk_drew ?_ | refine blk_alloc ?_ _)); refine blk_far ?_ HNB289_go56.out _; (with_reducible repeat (first | refine blk_drewN ?_ _ | refine blk_drew ?_ | refine blk_alloc ?_ _)); exact BK289.out⟩, ⟨by repeat (first | (with_reducible first | exact HB.out | apply below_alloc | apply pw_below_drewN | apply below_drew1 | refine below_set ?_ GB56.out | refine below_set ?_ GE288.out | refine below_set ?_ GE289.out | refine below_set ?_ GE304.out) | exact HB.out)⟩⟩
                ·rw [if_neg c45] at H
                 exact absurd H (by simp)
               ·rw [if_neg c44] at H
                exact absurd H (by simp)
              ·rw [if_neg c43] at H
               exact absurd H (by simp)
             ·rw [if_neg c42] at H
              exact absurd H (by simp)
            ·rw [if_neg c41] at H
             have c41b0 : decide (t305 < 0) = false := decide_eq_false c41
             clear c41
             by_cases c61 : 0 ≤ t305
             ·rw [if_pos c61] at H
              have c61b0 : decide (0 ≤ t305) = true := decide_eq_true c61
              clear c61
              by_cases c62 : t305 < (x8_3.length : Int)
              ·rw [if_pos c62] at H
               have c62b0 : decide (t305 < (x8_3.length : Int)) = true := decide_eq_true c62
               clear c62
               by_cases c63 : (rd_L3 x8_3 t305).length < 17592186044416
               ·rw [if_pos c63] at H
                have LMc63 := Aside0.mk c63
                clear c63
                obtain ⟨y315, hy315⟩ : ∃ y_ : List Int, y_ = ((rd_L3 x8_3 t305) ++ [rd t299 x48_3]) := ⟨_, rfl⟩
                replace H : (impl_PackArchive.l1 k3 (x8_3.set (t305 : Int).toNat y315) t299 (x6_2.length : Int) (wrap64 (x48_3 + 1)) l0 a1) = some (r1, r2) := by first | (rw [hy315]; with_reducible exact H) | (have H2_ := (Option.bind_some _ _).symm.trans H; rw [hy315]; with_reducible exact H2_) | (have H2_ := (Option.bind_some _ _).symm.trans H; with_reducible exact H2_) | with_reducible exact H | (rw [hy315]; exact H) | exact H
                have Ny315 := Aside0.mk hy315
                clear hy315
                obtain ⟨y318, hy318⟩ : ∃ y_ : List (List Int), y_ = (x8_3.set (t305 : Int).toNat y315) := ⟨_, rfl⟩
                replace H : (impl_PackArchive.l1 k3 y318 t299 (x6_2.length : Int) (wrap64 (x48_3 + 1)) l0 a1) = some (r1, r2) := by first | (rw [hy318]; with_reducible exact H) | (have H2_ := (Option.bind_some _ _).symm.trans H; rw [hy318]; with_reducible exact H2_) | (have H2_ := (Option.bind_some _ _).symm.trans H; with_reducible exact H2_) | with_reducible exact H | (rw [hy318]; exact H) | exact H
                have Ny318 := Aside0.mk hy318
                clear hy318
                have H' := Aside0.mk H
                clear H
                have p303 : 0 ≤ (x48_3 : Int) := of_decide_eq_true yy2
                have q303 : x48_3 < (t299.length : Int) := of_decide_eq_true yy2
                obtain ⟨ad303, e303, hx303_0⟩ := Kd.at_int (Kd.R_reads' HO_46.out).2.2 x48_3 p303 q303
                cases e303
                replace p303 := eq_true p303
                replace q303 := eq_true q303
                try go_wp2_with (first | ((with_reducible refine gate_dst (N := 10) rfl ?_); refine box_event ?hg (N := 10) ?hd (cs := #[.int .i64 0]) (t := 3) ?hr ?_; (case hd => rfl); (case hg => rfl); (case hr => first | (go_simp; done) | (go_simp; rfl)); intro gb304 hg w65 hbox hb; have n0_ := Aside0.mk (Kd.S_below (Kd.S_elderB yy67 gb304 (Nat.le_of_eq hg.symm)) hb); have n1_ := Aside0.mk (Kd.R_below (Kd.R_elderB yy21 gb304 (Nat.le_of_eq hg.symm)) hb); have n2_ := Aside0.mk (blk_below (g := gb288) (o := .cells #[.slice A0 l0.length c0] 29 (0, 0)) yy10 hb); have n3_ := Aside0.mk (blk_below (g := gb289) (o := .cells #[.int .i64 a1] 3 (0, 0)) yy9 hb); have n4_ := Aside0.mk (below_step yy4 hb); have n5_ := Aside0.mk (hbox); have n6_ := Aside0.mk ((by rw [hg]; exact (below_size yy4) : w.heap.size ≤ gb304)); have n7_ := Aside0.mk ((by rw [hg]; exact (below_size yy4) : w.heap.size ≤ gb304)); have n8_ := Aside0.mk ((by rw [hg]; exact Nat.ne_of_lt (blk_lt (g := gb288) (o := .cells #[.slice A0 l0.length c0] 29 (0, 0)) yy10) : gb288 ≠ gb304)); have n9_ := Aside0.mk ((by rw [hg]; exact Nat.ne_of_gt (blk_lt (g := gb288) (o := .cells #[.slice A0 l0.length c0] 29 (0, 0)) yy10) : gb304 ≠ gb288)); have n10_ := Aside0.mk ((by rw [hg]; exact Nat.ne_of_lt (blk_lt (g := gb289) (o := .cells #[.int .i64 a1] 3 (0, 0)) yy9) : gb289 ≠ gb304)); have n11_ := Aside0.mk ((by rw [hg]; exact Nat.ne_of_gt (blk_lt (g := gb289) (o := .cells #[.int .i64 a1] 3 (0, 0)) yy9) : gb304 ≠ gb289)); clear HO_8; clear HO_46; clear BK288; clear BK289; clear HB; have HO_8 := n0_; have HO_46 := n1_; have BK288 := n2_; have BK289 := n3_; have HB := n4_; have BK304 := n5_; have GW304 := n6_; have GE304 := n7_; have NB288_304 := n8_; have NB304_288 := n9_; have NB289_304 := n10_; have NB304_289 := n11_; clear n0_ n1_ n2_ n3_ n4_ n5_ n6_ n7_ n8_ n9_ n10_ n11_; clear hb hbox hg; have hnb66 := NB304_288.out; have hnc66 := NB288_304.out; have hnb67 := NB304_289.out; have hnc67 := NB289_304.out; have hcz68_0 : w65.cell? ⟨gb304, 0, none⟩ = some (.int .i64 0) := (blk_cell BK304.out 0).trans rfl; have hfz68_0 := blk_frozen BK304.out 0; obtain ⟨Ao69, co69, eo69⟩ := Kd.S_slice HO_8.out; subst eo69) | ((with_reducible refine gate_callee (f := 72) rfl ?_); refine goesL_ (some 54) rfl rfl Try.func72 (by kernel_rfl) rfl #[.slice Ao69 x8_3.length co69, .func (.func 73) #[] #[.pointer (some ⟨gb288, 0, none⟩), .pointer (some ⟨gb304, 0, none⟩), .pointer (some ⟨gb289, 0, none⟩)]] rfl yy3 ?_; (with_reducible refine (idx_Pack2.calls k3 _ _ x8_3 A0 c0 l0 gb288 (rd t299 x48_3) gb304 a1 gb289 t305 _ ?side1 ?side2 ?side3 ?side4 ?side5 ?side6 ?side7 A40.out).mono ?_); (case side1 => refine (Kd.S_reads' (e := 26) (base := w.heap.size) (ok := fun k_ => ((some k_ ≠ (.slice (some ad303) t299.length co33 : Value).ownBlock ∧ k_ ≠ gb289) ∧ k_ ≠ gb304)) (n := x8_3.length) (c := co69) ?_).2.2; exact yy20); (case side2 => exact (Kd.S_reads' HO_8.out).2.1); (case side3 => exact Kd.C_below HR0.out yy12); (case side4 => exact HC0.out); (case side5 => exact yy23); (case side6 => exact yy22); (case side7 => exact yy24); rintro e w70 ⟨rfl, hb⟩; refine ⟨_, rfl, ?_⟩; have n0_ := Aside0.mk (Kd.S_below yy20 hb); have n1_ := Aside0.mk (Kd.R_below yy59 hb); have n2_ := Aside0.mk (blk_below (g := gb288) (o := .cells #[.slice A0 l0.length c0] 29 (0, 0)) yy23 hb); have n3_ := Aside0.mk (blk_below (g := gb289) (o := .cells #[.int .i64 a1] 3 (0, 0)) yy24 hb); have n4_ := Aside0.mk (blk_below (g := gb304) (o := .cells #[.int .i64 (rd t299 x48_3)] 3 (0, 0)) yy22 hb); have n5_ := Aside0.mk (below_step yy12 hb); clear HO_8; clear HO_46; clear BK288; clear BK289; clear BK304; clear HB; have HO_8 := n0_; have HO_46 := n1_; have BK288 := n2_; have BK289 := n3_; have BK304 := n4_; have HB := n5_; clear n0_ n1_ n2_ n3_ n4_ n5_; (try clear hb); (try clear hb2); (try clear hk); (try clear hi)))
                have n0_ := Aside0.mk (Kd.S_drew HO_8.out)
                have n1_ := Aside0.mk (Kd.R_drew HO_46.out)
                have n2_ := Aside0.mk (blk_drew BK288.out)
                have n3_ := Aside0.mk (blk_drew BK289.out)
                have n4_ := Aside0.mk (blk_drew BK304.out)
                have n5_ := Aside0.mk (below_drew1 HB.out)
                clear HO_8 HO_46 BK288 BK289 BK304 HB
                have HO_8 := n0_
                have HO_46 := n1_
                have BK288 := n2_
                have BK289 := n3_
                have BK304 := n4_
                have HB := n5_
                clear n0_ n1_ n2_ n3_ n4_ n5_
                have p314 : 0 ≤ (t305 : Int) := of_decide_eq_true yy2
                have q314 : t305 < (x8_3.length : Int) := of_decide_eq_true yy2
                obtain ⟨ad314, A314_0, c314_0, e314, hx314_0, hl314_0, hi314_0⟩ := at_L3 (Kd.S_reads' HO_8.out).2.2 t305 p314 q314
                cases e314
                obtain ⟨ce314, hce314, hMe314, hcc314⟩ := Kd.S_get HO_8.out [] t305 p314 (by first | exact q314 | exact of_decide_eq_true yy2 | (have e_ := (Kd.S_reads' HO_8.out).1; omega))
                obtain ⟨ve314_0, rfl, ge314_0⟩ := hMe314
                have hv314_0 := hcc314 0 _ rfl
                rw [Nat.add_zero, show ((Kd.slice 3 (Kd.int .i64))).sz = 1 from rfl, Nat.mul_one] at hv314_0
                replace hv314_0 := Option.some.inj (hv314_0.symm.trans hx314_0)
                rw [hv314_0] at ge314_0
                have HL314_0 := Aside0.mk (show Kd.R (Kd.int .i64) 3 _ _ _ _ (rd_L3 x8_3 t305) from ge314_0)
                clear hv314_0 ge314_0
                have HX314_0 := Aside0.mk hx314_0
                clear hcc314 hce314
                have HR314_0 := Aside0.mk hi314_0
                have HC314_0 := Aside0.mk hl314_0
                clear hi314_0 hl314_0
                replace p314 := eq_true p314
                replace q314 := eq_true q314
                have n_ := Aside0.mk (Kd.S_mono (ok' := (fun k_ => some k_ ≠ (.slice (some ad303) t299.length co33 : Value).ownBlock ∧ k_ ≠ gb289 ∧ k_ ≠ gb304)) HO_8.out (fun k_ hk => ⟨hk.1.1, ⟨hk.1.2, hk.2⟩⟩))
                clear HO_8
                have HO_8 := n_
                clear n_
                obtain ⟨go72, co72, eo72, gb72, gl72, cl72, HG72⟩ := Kd.S_form HO_8.out (by have h_ : (t305 : Int) < ((x8_3.length : Int) : Int) := of_decide_eq_true yy2; have h2_ : 0 ≤ (t305 : Int) := (of_decide_eq_true yy2); omega)
                (first | cases eo72 | (injection eo72 with ea_ en_ ec_; (first | subst ea_ | (injection ea_ with ea_; subst ea_)); subst ec_; clear en_))
                have GB72 := Aside0.mk gb72
                have GG72 := Aside0.mk HG72
                clear gb72 gl72 HG72
                (first | simp only [add_plain] at hx314_0 | skip)
                obtain ⟨oki72, ce72, hcl72, hM72, hcc72, _, _, hH72⟩ := Kd.S_elem HO_8.out [] (t305 : Int) (of_decide_eq_true yy2) (by have h_ : (t305 : Int) < ((x8_3.length : Int) : Int) := of_decide_eq_true yy2; first | exact h_ | (have e_ := (Kd.S_reads' HO_8.out).1; omega) | simpa using h_)
                obtain ⟨ve72_0, rfl, ge72_0⟩ := hM72
                have hv72 := hcc72 0 _ rfl
                have hX72 := HX314_0.out
                (try simp only [add_plain] at hX72)
                (try simp only [Nat.add_zero] at hv72)
                (try rw [show ((Kd.slice 3 (Kd.int .i64))).sz = 1 from rfl, Nat.mul_one] at hv72)
                replace hv72 := Option.some.inj (hv72.symm.trans hX72)
                subst hv72
                clear hX72 hcc72 hcl72
                have UU72 := Aside0.mk (show Kd.R (Kd.int .i64) 3 _ w.heap.size oki72 (.slice A314_0 (rd_L3 x8_3 t305).length c314_0) (rd_L3 x8_3 t305) from ge72_0)
                have HH72 := Aside0.mk hH72
                have HN72 := Aside0.mk (Kd.S_reads' HO_8.out).1
                clear hH72 ge72_0
                refine start_ (n := 11) (S := fun w' => w'.cell? ⟨gb304, 0, none⟩ = some (.int .i64 (rd t299 x48_3)) ∧ w'.cell? ⟨go72, (t305).toNat, none⟩ = some (.slice A314_0 (rd_L3 x8_3 t305).length c314_0)) (ds := [10]) bYtoadgikbbigdlaaPaAx24_0 (by kernel_rfl) rfl rfl ⟨(blk_cell BK304.out 0).trans rfl, hx314_0⟩ (fun hHeld => ?_); refine with_tabW impl_PackArchive.tab18 impl_PackArchive.bits18 (fun HT_ HW_ => ?_)
                generalize w70.drew = w71 at HO_8 HO_46 BK288 BK289 BK304 HB GG72 HH72 HL314_0 HR314_0 HX314_0 UU72 hx314_0 hHeld ⊢
                refine pu_ 0 62 bYtoadgikbbigdlaaPaAx24_1 ?_
                refine pu_ 1 63 bYtoadgikbbigdlaaPaAx24_2 ?_
                refine pu_ 2 64 bYtoadgikbbigdlaaPaAx24_3 ?_
                refine pu_ 3 65 bYtoadgikbbigdlaaPaAx24_4 ?_
                refine pu_ 4 66 bYtoadgikbbigdlaaPaAx24_5 ?_
                refine t2_ 5 67 bYtoadgikbbigdlaaPaAx24_6 hHeld ?_
                refine t2_ 6 68 bYtoadgikbbigdlaaPaAx24_7 hHeld ?_
                refine one_ (i := 7) (N := some 69) bYtoadgikbbigdlaaPaAx24_8 rfl rfl (one_of HT_.out (by kernel_rfl)) (by decide) (fun K hK => ?_)
                refine value_ (w1 := ?_) (v := ?_) (by rfl) rfl ?_ ?_
                rotate_left 2
                ·go_simp
                 constructor
                 ·rfl
                 ·rfl
                refine hK.out _ _ ⟨(blk_cell (blk_alloc BK304.out _) 0).trans rfl, (World.cell?_alloc_lt _ _ _ (World.block_lt_of_cell? _ _ (hHeld.2))).trans (hHeld.2)⟩ (fun hHeld => ?_)
                clear hK K
                refine no_ 69 ?_
                refine one_ (i := 8) (N := some 70) bYtoadgikbbigdlaaPaAx24_9 rfl rfl (one_of HT_.out (by kernel_rfl)) (by decide) (fun K hK => ?_)
                refine Kd.R_append_step (Kd.int .i64) (w0 := w) w.heap.size (by rfl) (.tmp 67) (.tmp 69) 26 3 (.int .i64 0) 8 rfl Try.underlying26 info3 rfl (by decide) (by omega) (.slice A314_0 (rd_L3 x8_3 t305).length c314_0) (rd_L3 x8_3 t305) (rd t299 x48_3) [.int .i64 (rd t299 x48_3)] (fun k_ => oki72 k_ ∨ ((fun k_ => some k_ ≠ (.slice (some ad303) t299.length co33 : Value).ownBlock ∧ k_ ≠ gb289 ∧ k_ ≠ gb304)) k_ ∧ w71.heap.size ≤ k_) (fun _ => False) rfl rfl ?aP (fun _ hk => hk.elim) ?aF ?aO ?aB ?aS ?aL ?_
                (case aP => exact rfl)
                (case aB => exact yy12)
                (case aF => exact (fun k_ hk => .inr ⟨⟨Kd.fresh' (Kd.R_lt yy21) k_ hk, Kd.freshB (g := gb289) (o := .cells #[.int .i64 a1] 3 (0, 0)) yy9 k_ hk, Kd.freshB (g := gb304) (o := .cells #[.int .i64 (rd t299 x48_3)] 3 (0, 0)) yy42 k_ hk⟩, hk⟩))
                (case aO => exact (by (with_reducible repeat (first | apply Kd.R_alloc | apply Kd.R_drewN | apply Kd.R_drew)); exact Kd.R_mono UU72.out (fun _ hk => .inl hk)))
                (case aS => exact (below_size yy12))
                (case aL => have := LMc63.out; omega)
                intro v316 w73 ho hb hg hat
                (first | have HS1_ := cell_grown hg (hHeld.2) yy61 | have HS1_ := cell_grown hg (cell_unalloc (hHeld.2) (by first | (rw [add_block]; exact Kd.S_lt HO_8.out _ rfl) | (show (Addr.add _ _).block < _; rw [add_block]; exact Kd.S_lt HO_8.out _ rfl) | exact Kd.S_lt HO_8.out _ rfl)) yy61)
                rw [← Ny315.out] at ho
                have n0_ := Aside0.mk (Kd.R_grown2 yy21 rfl hg (fun k_ e_ => (HL314_0.out.1 k_ e_).1.1.1))
                have n1_ := Aside0.mk (blk_grown (g := gb288) (o := .cells #[.slice A0 l0.length c0] 29 (0, 0)) yy10 hg (Kd.R_ne HL314_0.out BK288.out (by decide)))
                have n2_ := Aside0.mk (blk_grown (g := gb289) (o := .cells #[.int .i64 a1] 3 (0, 0)) yy9 hg (Kd.R_away HL314_0.out (fun _ hk => hk.1.1.2)))
                have n3_ := Aside0.mk (blk_grown (g := gb304) (o := .cells #[.int .i64 (rd t299 x48_3)] 3 (0, 0)) yy42 hg (Kd.R_away HL314_0.out (fun _ hk => hk.1.2)))
                have n4_ := Aside0.mk (hb)
                have n5_ := Aside0.mk (Kd.H_grown (Kd.H_widen (by repeat (first | exact HH72.out | refine Kd.H_alloc ?_ _ | refine Kd.H_drewN ?_ _ | refine Kd.H_drew ?_))) hg (fun k_ e_ => .inl (UU72.out.1 k_ e_)))
                have n6_ := Aside0.mk (ho)
                clear HO_46 BK288 BK289 BK304 HB HH72 HO_8 UU72 HL314_0
                have HO_46 := n0_
                have BK288 := n1_
                have BK289 := n2_
                have BK304 := n3_
                have HB := n4_
                have HH72 := n5_
                have HO317 := n6_
                clear n0_ n1_ n2_ n3_ n4_ n5_ n6_ ho hb hg hat
                have p64 : 0 ≤ (t305 : Int) := of_decide_eq_true yy2
                have q64 : (t305 : Int) < ((x8_3.length : Int) : Int) := of_decide_eq_true yy2
                replace p64 := eq_true p64
                replace q64 := eq_true q64
                obtain ⟨Ao76, co76, eo76⟩ := Kd.R_slice HO317.out
                (first | subst eo76 | (injection eo76 with f1_ f2_ f3_; have f4_ := f1_.symm; have f5_ := f3_.symm; clear f1_ f2_ f3_; subst f4_; subst f5_))
                obtain ⟨_, _, hraw74, _, _, hcc74, _⟩ := Kd.H_raw HH72.out (of_decide_eq_true yy2) (by have h_ : (t305 : Int) < ((x8_3.length : Int) : Int) := of_decide_eq_true yy2; first | exact h_ | (have e_ := (HN72.out); omega) | simpa using h_)
                obtain ⟨_, hfr74⟩ := Kd.H_at HH72.out (of_decide_eq_true yy2) (by have h_ : (t305 : Int) < ((x8_3.length : Int) : Int) := of_decide_eq_true yy2; first | exact h_ | (have e_ := (HN72.out); omega) | simpa using h_)
                have hx74_0 := hcc74 0 _ rfl
                have hf74_0 := hfr74 0
                (try simp only [Nat.add_zero] at hx74_0 hf74_0)
                (try rw [show ((Kd.slice 3 (Kd.int .i64))).sz = 1 from rfl, Nat.mul_one] at hx74_0)
                (try rw [show ((Kd.slice 3 (Kd.int .i64))).sz = 1 from rfl, Nat.mul_one] at hf74_0)
                have HP74 := Kd.S_seg0 HH72.out (of_decide_eq_true yy2) (by have h_ : (t305 : Int) < ((x8_3.length : Int) : Int) := of_decide_eq_true yy2; first | exact h_ | (have e_ := (HN72.out); omega) | simpa using h_) (seg := [.slice Ao76 y315.length co76]) (j := 0) (show 1 ≤ 1 from by decide) (x' := y315) (Kd.M_row HO317.out) (fun _ hk => hk)
                (try simp only [show ((Kd.slice 3 (Kd.int .i64))).sz = 1 from rfl, Nat.mul_one, Nat.add_zero] at HP74)
                clear hcc74 hfr74
                have HNB288_go72 := Aside0.mk (show gb288 ≠ go72 from by have h_ := Kd.R_ne hraw74 BK288.out (by decide); intro e_; exact h_ (by rw [e_]; rfl))
                have HNB289_go72 := Aside0.mk (show gb289 ≠ go72 from by have h_ := Kd.R_ne hraw74 BK289.out (by decide); intro e_; exact h_ (by rw [e_]; rfl))
                have HNB304_go72 := Aside0.mk (show gb304 ≠ go72 from by have h_ := Kd.R_ne hraw74 BK304.out (by decide); intro e_; exact h_ (by rw [e_]; rfl))
                have HS74 := HP74.1
                rw [← Ny318.out] at HS74
                have HQ74 := Aside0.mk HS74
                obtain ⟨_, hgg74⟩ := Kd.R_typed hraw74 go72 rfl
                have GG74_ := Aside0.mk hgg74
                clear HP74 HS74 hgg74
                refine hK.out _ _ ⟨(blk_cell BK304.out 0).trans rfl, HS1_⟩ (fun hHeld => ?_)
                clear hK K
                refine no_ 70 ?_
                refine pu_ 9 71 bYtoadgikbbigdlaaPaAx24_10 ?_
                refine last_ (i := 10) (N := none) bYtoadgikbbigdlaaPaAx24_11 rfl rfl (one_of HT_.out (by kernel_rfl)) (by decide) (fun K hK => ?_)
                refine skip_ (w1 := ?_) (by rfl) rfl ?_ ?_
                rotate_left
                ·go_simp
                 rfl
                refine hK.out _ _ ?_
                clear hK K
                refine done_ (done_of HT_.out (by kernel_rfl)) ?_
                try go_wp2
                (try simp only [← hl46_3])
                go_roundg k3
                case measure => have := HJ2.out; have := HK2.out; have := HK3.out; omega
                case rel => exact ⟨(y318), (wrap64 (x48_3 + 1)), yy11, H', ⟨by have := HJ2.out; have := HK2.out; have := HK3.out; omega⟩, ⟨by (try simp only [hl46_3]); (with_reducible repeat (first | apply Kd.S_alloc | apply Kd.S_drewN | apply Kd.S_drew)); exact Kd.S_mono HQ74.out (fun _ hk => ⟨hk.1, hk.2.1⟩)⟩, ⟨by (try simp only [hl46_3]); (with_reducible repeat (first | apply Kd.R_alloc | apply Kd.R_drewN | apply Kd.R_drew)); exact Kd.R_mono (Kd.R_far (p := ⟨go72, (t305 : Int).toNat, none⟩) (Kd.R_types HO_46.out GG74_.out (by decide)) (fun _ hk => hk.2) (.slice Ao76 y315.length co76)) (fun _ hk => hk.1.1)⟩, ⟨by (try simp only [hl46_3]); (with_reducible repeat (first | refine blk_drewN ?_ _ | refine blk_drew ?_ | refine blk_alloc ?_ _)); refine blk_far ?_ HNB288_go72.out _; (with_reducible repeat (first | refine blk_drewN ?_ _ | refine blk_drew ?_ | refine blk_alloc ?_ _)); exact BK288.out⟩, ⟨by (try simp only [hl46_3]); (with_reducible repeat (first | refine blk_drewN ?_ _ | refine blk_drew ?_ | refine blk_alloc ?_ _)); refine blk_far ?_ HNB289_go72.out _; (with_reducible repeat (first | refine blk_drewN ?_ _ | refine blk_drew ?_ | refine blk_alloc ?_ _)); exact BK289.out⟩, ⟨by repeat (first | (with_reducible first | exact HB.out | apply below_alloc | apply pw_below_drewN | apply below_drew1 | refine below_set ?_ GB72.out | refine below_set ?_ GE288.out | refine below_set ?_ GE289.out | refine below_set ?_ GE304.out) | exact HB.out)⟩⟩
               ·rw [if_neg c63] at H
                exact absurd H (by simp)
              ·rw [if_neg c62] at H
               exact absurd H (by simp)
             ·rw [if_neg c61] at H
              exact absurd H (by simp)
           ·rw [if_neg c39] at H
            exact absurd H (by simp)
          ·rw [if_neg c38] at H
           exact absurd H (by simp)
         ·rw [if_neg c37] at H
          have c37b0 : decide (x48_3 < (x6_2.length : Int)) = false := decide_eq_false c37
          have c37c : decide (x48_3 < (t299.length : Int)) = false := by rw [← hl46_3]; exact c37b0
          obtain ⟨N3, hN3⟩ : ∃ N3, N3 = wr.heap.size := ⟨_, rfl⟩
          have HN3 := Aside0.mk hN3
          clear hN3
          have HG289 := Aside0.mk (show gb289 < N3 by rw [HN3.out]; exact blk_lt BK289.out)
          clear c37
          obtain ⟨y319, hy319⟩ : ∃ y_ : List (S62), y_ = (([] : List (S62))) := ⟨_, rfl⟩
          replace H : (impl_PackArchive.l2 k3 y319 x8_3 (x8_3.length : Int) 0 l0) = some (r1, r2) := by first | (rw [hy319]; with_reducible exact H) | (have H2_ := (Option.bind_some _ _).symm.trans H; rw [hy319]; with_reducible exact H2_) | (have H2_ := (Option.bind_some _ _).symm.trans H; with_reducible exact H2_) | with_reducible exact H | (rw [hy319]; exact H) | exact H
          have Ny319 := Aside0.mk hy319
          clear hy319
          have H' := Aside0.mk H
          clear H
          obtain ⟨Ao79, co79, eo79⟩ := Kd.S_slice HO_8.out
          subst eo79
          go_wp2_with (first | ((with_reducible refine gate_dst (N := 73) rfl ?_); refine Kd.S_lit k62 _ 62 ?hg (N := 73) ?hd (xs := ([] : List (S62))) (inner := []) (ok := fun _ => True) (okp := fun _ => True) ?hr ?hp (fun _ hk => hk) trivial (Below.refl _ _) (Nat.le_refl _) (by simp) ?_; (case hd => rfl); (case hg => rfl); (case hr => first | (go_simp; done) | (go_simp; rfl)); (case hp => exact (Reps.none _ _)); intro v320 w77 ho78 hb hg_ hnew_; clear hg_ hnew_; (first | rw [← Ny319.out] at ho78 | (simp only [Int.reduceToNat] at ho78; rw [← Ny319.out] at ho78)); have n0_ : Aside0 (Kd.S (Kd.slice 3 (Kd.int .i64)) 26 w77 w.heap.size (fun k_ => k_ < N3 ∧ k_ ≠ gb289) (.slice Ao79 x8_3.length co79) x8_3) := ⟨Kd.S_below (Kd.S_mono (Kd.S_bound HO_8.out) (fun k_ hk => ⟨by rw [HN3.out]; exact hk.2.2.1, hk.1.2⟩)) hb⟩; have n1_ := Aside0.mk (Kd.R_below yy21 hb); have n2_ : Aside0 (Kd.S k62 62 w77 w.heap.size (fun k_ => N3 ≤ k_) v320 y319) := ⟨Kd.S_lower (Kd.S_mono (Kd.S_bound ho78) (fun k_ hk => by rw [HN3.out]; exact hk.2.1)) (below_size HB.out)⟩; have nz_ : Aside0 (N3 ≤ w77.heap.size) := ⟨by rw [HN3.out]; exact hb.size⟩; have n3_ := Aside0.mk (blk_below (g := gb288) (o := .cells #[.slice A0 l0.length c0] 29 (0, 0)) yy10 hb); have n4_ := Aside0.mk (blk_below (g := gb289) (o := .cells #[.int .i64 a1] 3 (0, 0)) yy9 hb); have n5_ := Aside0.mk (below_step yy4 hb); clear HO_8; clear HO_46; clear BK288; clear BK289; clear HB; have HO_8 := n0_; have HO_46 := n1_; have HO321 := n2_; have BK288 := n3_; have BK289 := n4_; have HB := n5_; have HNZ := nz_; clear nz_; clear n0_ n1_ n2_ n3_ n4_ n5_; clear hb ho78))
          go_loopg [12, 76] k3 (fun kq v12 v76 w' => ∃ (x12_4 : List (S62)) (x74_4 : List (List Int)) (x76_4 : Int), v76 = .int .i64 x76_4 ∧ Aside0 (impl_PackArchive.l2 kq x12_4 x74_4 (x8_3.length : Int) x76_4 l0 = some (r1, r2)) ∧ Aside0 (x74_4.length = x8_3.length) ∧ Aside0 (N3 ≤ w'.heap.size) ∧ Aside0 (kq ≤ k3) ∧ Aside0 (Kd.S k62 62 w' w.heap.size (fun k_ => N3 ≤ k_) v12 x12_4) ∧ Aside0 (Kd.S (Kd.slice 3 (Kd.int .i64)) 26 w' w.heap.size (fun k_ => k_ < N3 ∧ k_ ≠ gb289) (.slice Ao79 x8_3.length co79) x74_4) ∧ Aside0 (w'.heap[gb288]? = some (.cells #[(.slice A0 l0.length c0)] 29 (0, 0))) ∧ Aside0 (w'.heap[gb289]? = some (.cells #[.int .i64 a1] 3 (0, 0))) ∧ Aside0 (Below w.heap.size w w'))
          case atStart => exact ⟨y319, x8_3, 0, rfl, H', ⟨rfl⟩, ⟨by simpa using HNZ.out⟩, ⟨Nat.le_refl _⟩, ⟨HO321.out⟩, ⟨HO_8.out⟩, ⟨BK288.out⟩, ⟨BK289.out⟩, ⟨HB.out⟩⟩
          case round =>
           clear H'
           try clear p2
           try clear c3
           try clear p3
           try clear q3
           try clear hx3
           try clear c4
           try clear p4
           try clear q4
           try clear c5
           try clear hx5
           try clear hf5
           try clear c6
           try clear p6
           try clear q6
           try clear c7
           try clear hx7
           try clear hf7
           try clear c30
           try clear p30
           try clear q30
           try clear hx30
           try clear c31
           try clear p31
           try clear q31
           try clear hx31
           try clear c37
           try clear c37b0
           try clear c38
           try clear c38b0
           try clear c39
           try clear c39b0
           try clear c41
           try clear c41b0
           try clear c42
           try clear c43
           try clear c43b0
           try clear c43b1
           try clear c44
           try clear c44b0
           try clear c44b1
           try clear c45
           try clear p46
           try clear q46
           try clear c48
           try clear c49
           try clear c56
           try clear c58
           try clear hx58
           try clear hf58
           try clear c61
           try clear c61b0
           try clear c62
           try clear c62b0
           try clear c63
           try clear p64
           try clear q64
           try clear c66
           try clear c67
           try clear c72
           try clear c74
           try clear hx74
           try clear hf74
           try clear hcz12_0
           try clear hcz14_0
           try clear hcz15_0
           try clear hcz18_0
           try clear hcz20_0
           try clear hcz22_0
           try clear hcz28_0
           try clear hcz50_0
           try clear hcz68_0
           try clear hfz12_0
           try clear hfz14_0
           try clear hfz15_0
           try clear hfz18_0
           try clear hfz20_0
           try clear hfz22_0
           try clear hfz28_0
           try clear hfz50_0
           try clear hfz68_0
           try clear hx303_0
           try clear hx309_0
           try clear hx314_0
           try clear hx58_0
           try clear hx74_0
           try clear p2
           try clear p303
           try clear p309
           try clear p314
           try clear p46
           try clear p64
           try clear q303
           try clear q309
           try clear q314
           try clear q46
           try clear q64
           obtain ⟨x12_4, x74_4, x76_4, rfl, HA, HXL, HNZ, HK4, HO_12, HO_74, BK288, BK289, HB⟩ := hrel
           cases gk with
           | zero => exact absurd HA.out (by simp [impl_PackArchive.l2])
           | succ k4 =>
            have H := HA.out
            clear HA
            simp only [impl_PackArchive.l2] at H
            by_cases c80 : x76_4 < (x8_3.length : Int)
            ·rw [if_pos c80] at H
             have c80b0 : decide (x76_4 < (x8_3.length : Int)) = true := decide_eq_true c80
             clear c80
             by_cases c81 : 0 ≤ x76_4
             ·rw [if_pos c81] at H
              have c81b0 : decide (0 ≤ x76_4) = true := decide_eq_true c81
              clear c81
              by_cases c82 : x76_4 < (x74_4.length : Int)
              ·rw [if_pos c82] at H
               have c82b0 : decide (x76_4 < (x74_4.length : Int)) = true := decide_eq_true c82
               clear c82
               by_cases c83 : (rd_L3 x74_4 x76_4).length < 4611686018427387904
               ·rw [if_pos c83] at H
                obtain ⟨y83, hy83⟩ : ∃ y_ : List Int, y_ = sortI (rd_L3 x74_4 x76_4) := ⟨_, rfl⟩
                rw [← hy83] at H
                have Ny83 := Aside0.mk hy83
                clear hy83
                obtain ⟨y84, hy84⟩ : ∃ y_ : List (List Int), y_ = x74_4.set (x76_4 : Int).toNat y83 := ⟨_, rfl⟩
                rw [← hy84] at H
                have Ny84 := Aside0.mk hy84
                clear hy84
                have HYL := Aside0.mk (show y84.length = x8_3.length by rw [Ny84.out, List.length_set]; exact HXL.out)
                have HLEN83 := Aside0.mk (show (rd_L3 x74_4 x76_4).length = y83.length by rw [Ny83.out, sortI_length])
                have LMc83 := Aside0.mk c83
                clear c83
                have H' := Aside0.mk H
                clear H
                have p322 : 0 ≤ (x76_4 : Int) := of_decide_eq_true yy2
                have q322 : x76_4 < (x74_4.length : Int) := of_decide_eq_true c82b0
                have q322' : x76_4 < (x8_3.length : Int) := by rw [← HXL.out]; exact q322
                obtain ⟨ad322, A322_0, c322_0, e322, hx322_0, hl322_0, hi322_0⟩ := at_L3 (Kd.S_reads' HO_74.out).2.2 x76_4 p322 q322
                cases e322
                obtain ⟨oki83, ce83, hcl83, hM83, hcc83, hok83, hbk83⟩ := Kd.S_borrow HO_74.out [] x76_4 p322 q322'
                obtain ⟨ve83, rfl, ge83⟩ := hM83
                have hv83 := hcc83 0 _ rfl
                rw [Nat.add_zero, show ((Kd.slice 3 (Kd.int .i64))).sz = 1 from rfl, Nat.mul_one] at hv83
                replace hv83 := Option.some.inj (hv83.symm.trans hx322_0)
                subst hv83
                replace ge83 := (show Kd.R (Kd.int .i64) 3 wr w.heap.size oki83 (.slice A322_0 (rd_L3 x74_4 x76_4).length c322_0) (rd_L3 x74_4 x76_4) from ge83)
                have GE83 := Aside0.mk ge83
                have OK83 := Aside0.mk hok83
                have BK83 := Aside0.mk (@hbk83)
                clear ge83 hok83 hbk83 hcc83 hcl83 hl322_0 hi322_0
                have HSR := Aside0.mk (slices_Sort_int.calls (fun k_ => some k_ = (.slice A322_0 (rd_L3 x74_4 x76_4).length c322_0 : Value).ownBlock) (.slice A322_0 (rd_L3 x74_4 x76_4).length c322_0) (rd_L3 x74_4 x76_4) y83 w wr HB.out (Kd.R_tight rfl GE83.out) (by unfold slices_Sort_int.f; rw [if_pos LMc83.out, Ny83.out]; rfl))
                replace p322 := eq_true p322
                replace q322 := eq_true q322
                replace q322' := eq_true q322'
                have NA := Aside0.mk q322
                go_wp2_with (first | ((with_reducible refine gate_callee (f := 43) rfl ?_); refine goesL_ (some 82) rfl rfl Try.func43 (by kernel_rfl) rfl #[.slice A322_0 (rd_L3 x74_4 x76_4).length c322_0] rfl yy3 ?_; (refine HSR.out.mono ?_); rintro e w83 ⟨rfl, hR83, hb83, hk83⟩; refine ⟨_, rfl, ?_⟩; have hg83 : wr.grownBy w83 (.slice A322_0 (rd_L3 x74_4 x76_4).length c322_0 : Value).ownBlock := ⟨hb83.os.trans HB.out.os.symm, hb83.tape.trans HB.out.tape.symm, hb83.output.trans HB.out.output.symm, hk83.1, fun k hlt hne => hk83.2 k hlt hne⟩; have hz83 : Kd.R (Kd.int .i64) 3 w83 w.heap.size oki83 (.slice A322_0 (rd_L3 x74_4 x76_4).length c322_0) y83 := Kd.R_reok rfl hR83 (fun k_ e_ => GE83.out.1 k_ e_); have hS83 : Kd.S (Kd.slice 3 (Kd.int .i64)) 26 w83 w.heap.size (fun k_ => k_ < N3 ∧ k_ ≠ gb289) (.slice (some ad322) x8_3.length co79) y84 := (by rw [Ny84.out]; exact BK83.out hg83 (fun k_ e_ => GE83.out.1 k_ e_) (Kd.M_row hz83)); have n0_ := Aside0.mk (Kd.S_grown HO_12.out hg83 (fun k_ hk e_ => Nat.not_lt.2 hk (OK83.out k_ (GE83.out.1 k_ e_.symm)).1.1)); have n1_ := Aside0.mk hS83; have n2_ := Aside0.mk (blk_grown (g := gb288) (o := .cells #[.slice A0 l0.length c0] 29 (0, 0)) BK288.out hg83 (Kd.R_ne GE83.out BK288.out (by decide))); have n3_ := Aside0.mk (blk_grown (g := gb289) (o := .cells #[.int .i64 a1] 3 (0, 0)) BK289.out hg83 (fun e_ => (OK83.out gb289 (GE83.out.1 gb289 e_.symm)).1.2 rfl)); have n4_ := Aside0.mk hb83; have n5_ := Aside0.mk (show N3 ≤ w83.heap.size from Nat.le_trans HNZ.out hk83.1); have n6_ : Aside0 (Kd.R (Kd.int .i64) 3 w83 w.heap.size (fun k_ => k_ < N3) (.slice A322_0 (rd_L3 x74_4 x76_4).length c322_0) y83) := ⟨Kd.R_mono hz83 (fun k_ hk => (OK83.out k_ hk).1.1)⟩; clear HO_12 HO_74 BK288 BK289 HB HNZ hg83 hz83 hS83 hR83 hb83 hk83; have HO_12 := n0_; have HO_74 := n1_; have BK288 := n2_; have BK289 := n3_; have HB := n4_; have HNZ := n5_; have HL322_0 := n6_; clear n0_ n1_ n2_ n3_ n4_ n5_ n6_) | ((with_reducible refine gate_dst (N := 15) rfl ?_); refine box_event ?hg (N := 15) ?hd (cs := #[.int .i64 0, .slice none 0 0]) (t := 62) ?hr ?_; (case hd => rfl); (case hg => rfl); (case hr => first | (go_simp; done) | (go_simp; rfl)); intro gb323 hg w84 hbox hb; have n0_ := Aside0.mk (Kd.S_below (Kd.S_elderB (by (with_reducible repeat (first | apply Kd.S_alloc | apply Kd.S_drewN | apply Kd.S_drew)); exact HO_12.out) gb323 (Nat.le_of_eq hg.symm)) hb); have n1_ := Aside0.mk (Kd.S_below (by (with_reducible repeat (first | apply Kd.S_alloc | apply Kd.S_drewN | apply Kd.S_drew)); exact HO_74.out) hb); have n2_ := Aside0.mk (Kd.R_below HL322_0.out hb); have n3_ := Aside0.mk (blk_below (g := gb288) (o := .cells #[.slice A0 l0.length c0] 29 (0, 0)) yy10 hb); have n4_ := Aside0.mk (blk_below (g := gb289) (o := .cells #[.int .i64 a1] 3 (0, 0)) yy9 hb); have n5_ : Aside0 (N3 ≤ w84.heap.size) := ⟨Nat.le_trans HNZ.out hb.size⟩; have n6_ : Aside0 (N3 ≤ gb323) := ⟨by rw [hg]; exact HNZ.out⟩; have n7_ := Aside0.mk (below_step yy4 hb); have n8_ := Aside0.mk (hbox); have n9_ := Aside0.mk ((by rw [hg]; exact (below_size yy4) : w.heap.size ≤ gb323)); have n10_ := Aside0.mk ((by rw [hg]; exact (below_size yy4) : w.heap.size ≤ gb323)); have n11_ := Aside0.mk ((by rw [hg]; exact Nat.ne_of_lt (blk_lt (g := gb288) (o := .cells #[.slice A0 l0.length c0] 29 (0, 0)) yy10) : gb288 ≠ gb323)); have n12_ := Aside0.mk ((by rw [hg]; exact Nat.ne_of_gt (blk_lt (g := gb288) (o := .cells #[.slice A0 l0.length c0] 29 (0, 0)) yy10) : gb323 ≠ gb288)); have n13_ := Aside0.mk ((by rw [hg]; exact Nat.ne_of_lt (blk_lt (g := gb289) (o := .cells #[.int .i64 a1] 3 (0, 0)) yy9) : gb289 ≠ gb323)); have n14_ := Aside0.mk ((by rw [hg]; exact Nat.ne_of_gt (blk_lt (g := gb289) (o := .cells #[.int .i64 a1] 3 (0, 0)) yy9) : gb323 ≠ gb289)); clear HO_12; clear HO_74; clear HL322_0; clear BK288; clear BK289; clear HNZ; clear HB; have HO_12 := n0_; have HO_74 := n1_; have HL322_0 := n2_; have BK288 := n3_; have BK289 := n4_; have HNZ := n5_; have HNB := n6_; have HB := n7_; have BK323 := n8_; have GW323 := n9_; have GE323 := n10_; have NB288_323 := n11_; have NB323_288 := n12_; have NB289_323 := n13_; have NB323_289 := n14_; clear n0_ n1_ n2_ n3_ n4_ n5_ n6_ n7_ n8_ n9_ n10_ n11_ n12_ n13_ n14_; clear hb hbox hg; have hnb85 := NB323_288.out; have hnc85 := NB288_323.out; have hnb86 := NB323_289.out; have hnc86 := NB289_323.out; have hcz87_0 : w84.cell? ⟨gb323, 0, none⟩ = some (.int .i64 0) := (blk_cell BK323.out 0).trans rfl; have hcz87_1 : w84.cell? ⟨gb323, 1, none⟩ = some (.slice none 0 0) := (blk_cell BK323.out 1).trans rfl; have hfz87_0 := blk_frozen BK323.out 0; have hfz87_1 := blk_frozen BK323.out 1))
                go_loopg [88] k4 (fun kq v88 w' => ∃ (x88_5 : Int) (x324001_5 : List Int) (u324001 : Value), v88 = .int .i64 x88_5 ∧ Aside0 (impl_PackArchive.l3 kq x12_4 y84 (x8_3.length : Int) x76_4 y83 (y83.length : Int) x88_5 l0 (wrap64 (x76_4 + 1)) x324001_5 = some (r1, r2)) ∧ Aside0 (N3 ≤ w'.heap.size) ∧ Aside0 (Kd.R (Kd.int .i64) 3 w' w.heap.size (fun k_ => k_ < N3) (.slice A322_0 (rd_L3 x74_4 x76_4).length c322_0) y83) ∧ Aside0 (kq ≤ k4) ∧ Aside0 (Kd.S k62 62 w' w.heap.size (fun k_ => some k_ ≠ (u324001 : Value).ownBlock ∧ N3 ≤ k_ ∧ k_ ≠ gb323) u12 x12_4) ∧ Aside0 (Kd.S (Kd.slice 3 (Kd.int .i64)) 26 w' w.heap.size (fun k_ => some k_ ≠ (u324001 : Value).ownBlock ∧ (k_ < N3 ∧ k_ ≠ gb289)) (.slice (some ad322) x8_3.length co79) y84) ∧ Aside0 (Kd.R (Kd.int .i64) 3 w' w.heap.size (fun k_ => N3 ≤ k_) u324001 x324001_5) ∧ Aside0 (w'.heap[gb288]? = some (.cells #[(.slice A0 l0.length c0)] 29 (0, 0))) ∧ Aside0 (w'.heap[gb289]? = some (.cells #[.int .i64 a1] 3 (0, 0))) ∧ Aside0 (w'.heap[gb323]? = some (.cells #[.int .i64 (wrap64 (x76_4 + 1)), u324001] 62 (0, 0))) ∧ Aside0 (Below w.heap.size w w'))
                case atStart => exact ⟨(0), (([] : List Int)), (.slice none 0 0), rfl, H', ⟨by simpa using HNZ.out⟩, ⟨Kd.R_far (p := ⟨gb323, 1, none⟩) (Kd.R_far (p := ⟨gb323, 0, none⟩) HL322_0.out (fun _ hk => Nat.ne_of_lt (Nat.lt_of_lt_of_le hk HNB.out)) _) (fun _ hk => Nat.ne_of_lt (Nat.lt_of_lt_of_le hk HNB.out)) _⟩, ⟨Nat.le_refl _⟩, ⟨by (try simp only [hl46_3]); (with_reducible repeat (first | apply Kd.S_alloc | apply Kd.S_drewN | apply Kd.S_drew)); exact Kd.S_mono (Kd.S_far (p := ⟨gb323, 1, none⟩) (Kd.S_far (p := ⟨gb323, 0, none⟩) (Kd.S_mono HO_12.out (fun k_ hk => (⟨hk, hk.2⟩ : _ ∧ k_ ≠ gb323))) (fun _ hk => hk.2) (.int .i64 (wrap64 (x76_4 + 1)))) (fun _ hk => hk.2) (.slice none 0 0)) (fun _ hk => ⟨(by simp [Value.ownBlock]), ⟨hk.1.1, hk.1.2⟩⟩)⟩, ⟨by (try simp only [hl46_3]); (with_reducible repeat (first | apply Kd.S_alloc | apply Kd.S_drewN | apply Kd.S_drew)); exact Kd.S_mono (Kd.S_far (p := ⟨gb323, 1, none⟩) (Kd.S_far (p := ⟨gb323, 0, none⟩) (Kd.S_types HO_74.out BK323.out (by decide)) (fun _ hk => hk.2) (.int .i64 (wrap64 (x76_4 + 1)))) (fun _ hk => hk.2) (.slice none 0 0)) (fun _ hk => ⟨(by simp [Value.ownBlock]), hk.1⟩)⟩, ⟨by (try simp only [hl46_3]); first | exact Kd.R_nil _ _ _ _ _ | exact Kd.N_nil _ _ _ _ _ | exact Kd.V_nil _ _ _ _ _ | exact Kd.Q_nil _ _ _ _ _ | exact Kd.S_nil _ _ _ _ _⟩, ⟨by (try simp only [hl46_3]); (with_reducible repeat (first | refine blk_drewN ?_ _ | refine blk_drew ?_ | refine blk_alloc ?_ _)); refine blk_far ?_ NB288_323.out _; (with_reducible repeat (first | refine blk_drewN ?_ _ | refine blk_drew ?_ | refine blk_alloc ?_ _)); refine blk_far ?_ NB288_323.out _; (with_reducible repeat (first | refine blk_drewN ?_ _ | refine blk_drew ?_ | refine blk_alloc ?_ _)); exact BK288.out⟩, ⟨by (try simp only [hl46_3]); (with_reducible repeat (first | refine blk_drewN ?_ _ | refine blk_drew ?_ | refine blk_alloc ?_ _)); refine blk_far ?_ NB289_323.out _; (with_reducible repeat (first | refine blk_drewN ?_ _ | refine blk_drew ?_ | refine blk_alloc ?_ _)); refine blk_far ?_ NB289_323.out _; (with_reducible repeat (first | refine blk_drewN ?_ _ | refine blk_drew ?_ | refine blk_alloc ?_ _)); exact BK289.out⟩, ⟨by (try simp only [hl46_3]); (with_reducible repeat (first | refine blk_drewN ?_ _ | refine blk_drew ?_ | refine blk_alloc ?_ _)); refine blk_put (cs := #[.int .i64 (wrap64 (x76_4 + 1)), .slice none 0 0]) ?_ 1 _ rfl; (with_reducible repeat (first | refine blk_drewN ?_ _ | refine blk_drew ?_ | refine blk_alloc ?_ _)); refine blk_put (cs := #[.int .i64 0, .slice none 0 0]) ?_ 0 _ rfl; (with_reducible repeat (first | refine blk_drewN ?_ _ | refine blk_drew ?_ | refine blk_alloc ?_ _)); exact BK323.out⟩, ⟨by repeat (first | (with_reducible first | exact HB.out | apply below_alloc | apply pw_below_drewN | apply below_drew1 | refine below_set ?_ GE288.out | refine below_set ?_ GE289.out | refine below_set ?_ GE323.out) | exact HB.out)⟩⟩
                case round =>
                 clear H'
                 try clear p2
                 try clear c3
                 try clear p3
                 try clear q3
                 try clear hx3
                 try clear c4
                 try clear p4
                 try clear q4
                 try clear c5
                 try clear hx5
                 try clear hf5
                 try clear c6
                 try clear p6
                 try clear q6
                 try clear c7
                 try clear hx7
                 try clear hf7
                 try clear c8
                 try clear c30
                 try clear p30
                 try clear q30
                 try clear hx30
                 try clear c31
                 try clear p31
                 try clear q31
                 try clear hx31
                 try clear c32
                 try clear p32
                 try clear q32
                 try clear hx32
                 try clear c37
                 try clear c37b0
                 try clear c38
                 try clear c38b0
                 try clear c39
                 try clear c39b0
                 try clear c41
                 try clear c41b0
                 try clear c42
                 try clear c43
                 try clear c43b0
                 try clear c43b1
                 try clear c44
                 try clear c44b0
                 try clear c44b1
                 try clear c45
                 try clear p46
                 try clear q46
                 try clear c48
                 try clear c49
                 try clear c56
                 try clear c58
                 try clear hx58
                 try clear hf58
                 try clear c61
                 try clear c61b0
                 try clear c62
                 try clear c62b0
                 try clear c63
                 try clear p64
                 try clear q64
                 try clear c66
                 try clear c67
                 try clear c72
                 try clear c74
                 try clear hx74
                 try clear hf74
                 try clear c80
                 try clear c80b0
                 try clear c81
                 try clear c81b0
                 try clear c82
                 try clear c82b0
                 try clear c85
                 try clear c86
                 try clear hcz12_0
                 try clear hcz14_0
                 try clear hcz15_0
                 try clear hcz18_0
                 try clear hcz20_0
                 try clear hcz22_0
                 try clear hcz28_0
                 try clear hcz50_0
                 try clear hcz68_0
                 try clear hcz87_0
                 try clear hcz87_1
                 try clear hfz12_0
                 try clear hfz14_0
                 try clear hfz15_0
                 try clear hfz18_0
                 try clear hfz20_0
                 try clear hfz22_0
                 try clear hfz28_0
                 try clear hfz50_0
                 try clear hfz68_0
                 try clear hfz87_0
                 try clear hfz87_1
                 try clear hx303_0
                 try clear hx309_0
                 try clear hx314_0
                 try clear hx322_0
                 try clear hx58_0
                 try clear hx74_0
                 try clear p2
                 try clear p3
                 try clear p30
                 try clear p303
                 try clear p309
                 try clear p31
                 try clear p314
                 try clear p322
                 try clear p4
                 try clear p46
                 try clear p6
                 try clear p64
                 try clear q3
                 try clear q30
                 try clear q303
                 try clear q309
                 try clear q31
                 try clear q314
                 try clear q322
                 try clear q4
                 try clear q46
                 try clear q6
                 try clear q64
                 obtain ⟨x88_5, x324001_5, u324001, rfl, HA, HNZ, HL322_0, HK5, HO_12, HO_74, HO_324001, BK288, BK289, BK323, HB⟩ := hrel
                 cases gk with
                 | zero => exact absurd HA.out (by simp [impl_PackArchive.l3])
                 | succ k5 =>
                  have H := HA.out
                  clear HA
                  simp only [impl_PackArchive.l3] at H
                  by_cases c88 : x88_5 < (y83.length : Int)
                  ·rw [if_pos c88] at H
                   have c88b0 : decide (x88_5 < (y83.length : Int)) = true := decide_eq_true c88
                   have c88c : decide (x88_5 < ((rd_L3 x74_4 x76_4).length : Int)) = true := by rw [HLEN83.out]; exact c88b0
                   clear c88
                   by_cases c89 : 0 ≤ x88_5
                   ·rw [if_pos c89] at H
                    have c89b0 : decide (0 ≤ x88_5) = true := decide_eq_true c89
                    clear c89
                    by_cases c90 : x88_5 < (y83.length : Int)
                    ·rw [if_pos c90] at H
                     have c90b0 : decide (x88_5 < (y83.length : Int)) = true := decide_eq_true c90
                     clear c90
                     by_cases c91 : 0 ≤ (rd y83 x88_5)
                     ·rw [if_pos c91] at H
                      have c91b0 : decide (0 ≤ (rd y83 x88_5)) = true := decide_eq_true c91
                      clear c91
                      by_cases c92 : (rd y83 x88_5) < (l0.length : Int)
                      ·rw [if_pos c92] at H
                       have c92b0 : decide ((rd y83 x88_5) < (l0.length : Int)) = true := decide_eq_true c92
                       clear c92
                       by_cases c93 : x324001_5.length < 17592186044416
                       ·rw [if_pos c93] at H
                        have LMc93 := Aside0.mk c93
                        clear c93
                        obtain ⟨y326, hy326⟩ : ∃ y_ : List Int, y_ = (x324001_5 ++ [(rd_T50 l0 (rd y83 x88_5)).f0]) := ⟨_, rfl⟩
                        replace H : (impl_PackArchive.l3 k5 x12_4 y84 (x8_3.length : Int) x76_4 y83 (y83.length : Int) (wrap64 (x88_5 + 1)) l0 (wrap64 (x76_4 + 1)) y326) = some (r1, r2) := by first | (rw [hy326]; with_reducible exact H) | (have H2_ := (Option.bind_some _ _).symm.trans H; rw [hy326]; with_reducible exact H2_) | (have H2_ := (Option.bind_some _ _).symm.trans H; with_reducible exact H2_) | with_reducible exact H | (rw [hy326]; exact H) | exact H
                        have Ny326 := Aside0.mk hy326
                        clear hy326
                        have H' := Aside0.mk H
                        clear H
                        have p324 : 0 ≤ (x88_5 : Int) := of_decide_eq_true yy2
                        have q324 : x88_5 < (y83.length : Int) := of_decide_eq_true yy2
                        obtain ⟨ad324, e324, hx324_0⟩ := Kd.at_int (Kd.R_reads' HL322_0.out).2.2 x88_5 p324 q324
                        cases e324
                        replace p324 := eq_true p324
                        replace q324 := eq_true q324
                        have q324c := eq_true (show x88_5 < ((rd_L3 x74_4 x76_4).length : Int) by rw [HLEN83.out]; exact of_eq_true q324)
                        try go_wp2
                        have n0_ := Aside0.mk (Kd.S_drew HO_12.out)
                        have n1_ := Aside0.mk (Kd.S_drew HO_74.out)
                        have n2_ := Aside0.mk (Kd.R_drew HO_324001.out)
                        have n3_ := Aside0.mk (blk_drew BK288.out)
                        have n4_ := Aside0.mk (blk_drew BK289.out)
                        have n5_ := Aside0.mk (blk_drew BK323.out)
                        have n6_ := Aside0.mk (below_drew1 HB.out)
                        replace HL322_0 := Aside0.mk (Kd.R_drew HL322_0.out)
                        replace HNZ := Aside0.mk (show N3 ≤ wr.drew.heap.size from HNZ.out)
                        clear HO_12 HO_74 HO_324001 BK288 BK289 BK323 HB
                        have HO_12 := n0_
                        have HO_74 := n1_
                        have HO_324001 := n2_
                        have BK288 := n3_
                        have BK289 := n4_
                        have BK323 := n5_
                        have HB := n6_
                        clear n0_ n1_ n2_ n3_ n4_ n5_ n6_
                        have p325 : 0 ≤ ((rd y83 x88_5) : Int) := of_decide_eq_true yy2
                        have q325 : (rd y83 x88_5) < (l0.length : Int) := of_decide_eq_true yy2
                        obtain ⟨ad325, e325, hx325_0, hx325_1, hx325_2⟩ := at_T50 HR0.out (rd y83 x88_5) p325 q325
                        have hw325_2 := hx325_2
                        have hw325_1 := hx325_1
                        have hw325_0 := hx325_0
                        cases e325
                        replace hx325_0 := (HB.out.cell (World.block_lt_of_cell? w _ hx325_0)).trans hx325_0
                        replace hx325_1 := (HB.out.cell (World.block_lt_of_cell? w _ hx325_1)).trans hx325_1
                        replace hx325_2 := (HB.out.cell (World.block_lt_of_cell? w _ hx325_2)).trans hx325_2
                        replace p325 := eq_true p325
                        replace q325 := eq_true q325
                        refine start_ (n := 11) (S := fun w' => w'.cell? ⟨gb323, 0, none⟩ = some (.int .i64 (wrap64 (x76_4 + 1))) ∧ w'.cell? ⟨gb323, 1, none⟩ = some (u324001) ∧ w'.cell? ⟨gb288, 0, none⟩ = some (.slice (some ad325) l0.length c0) ∧ w'.cell? (ad325.add (((rd y83 x88_5)).toNat * 3)) = some (.int .i64 ((rd_T50 l0 (rd y83 x88_5)).f0)) ∧ w'.cell? ⟨(ad325.add (((rd y83 x88_5)).toNat * 3)).block, (ad325.add (((rd y83 x88_5)).toNat * 3)).off + 1, none⟩ = some (.int .i64 ((rd_T50 l0 (rd y83 x88_5)).f1)) ∧ w'.cell? ⟨(ad325.add (((rd y83 x88_5)).toNat * 3)).block, (ad325.add (((rd y83 x88_5)).toNat * 3)).off + 2, none⟩ = some (.int .i64 ((rd_T50 l0 (rd y83 x88_5)).f2))) (ds := [10]) bYtoadgikbbigdlaaPaAx24_0 (by kernel_rfl) rfl rfl ⟨(blk_cell BK323.out 0).trans rfl, (blk_cell BK323.out 1).trans rfl, (blk_cell BK288.out 0).trans rfl, ((HB.out.cell (World.block_lt_of_cell? w _ hw325_0)).trans hw325_0), ((HB.out.cell (World.block_lt_of_cell? w _ hw325_1)).trans hw325_1), ((HB.out.cell (World.block_lt_of_cell? w _ hw325_2)).trans hw325_2)⟩ (fun hHeld => ?_); refine with_tabW impl_PackArchive.tab29 impl_PackArchive.bits29 (fun HT_ HW_ => ?_)
                        generalize wr.drew = w94 at HNZ HL322_0 HO_12 HO_74 HO_324001 BK288 BK289 BK323 HB hx325_0 hx325_1 hx325_2 hHeld ⊢
                        refine pu_ 0 92 bYtoadgikbbigdlaaPaAx24_1 ?_
                        refine pu_ 3 95 #[true, false, false, true, false, false, false, false, false, false, false] ?_
                        refine t6_ 1 93 #[true, true, false, true, false, false, false, false, false, false, false] hHeld ?_
                        refine t6_ 2 94 bYtoadgikbbigdlaaPaAx24_4 hHeld ?_
                        refine pu_ 4 96 bYtoadgikbbigdlaaPaAx24_5 ?_
                        refine pu_ 5 97 bYtoadgikbbigdlaaPaAx24_6 ?_
                        refine t6_ 6 98 bYtoadgikbbigdlaaPaAx24_7 hHeld ?_
                        refine one_ (i := 7) (N := some 99) bYtoadgikbbigdlaaPaAx24_8 rfl rfl (one_of HT_.out (by kernel_rfl)) (by decide) (fun K hK => ?_)
                        refine value_ (w1 := ?_) (v := ?_) (by rfl) rfl ?_ ?_
                        rotate_left 2
                        ·go_simp
                         constructor
                         ·rfl
                         ·rfl
                        refine hK.out _ _ ⟨(blk_cell (blk_alloc BK323.out _) 0).trans rfl, (blk_cell (blk_alloc BK323.out _) 1).trans rfl, (blk_cell (blk_alloc BK288.out _) 0).trans rfl, (World.cell?_alloc_lt _ _ _ (World.block_lt_of_cell? _ _ (((HB.out.cell (World.block_lt_of_cell? w _ hw325_0)).trans hw325_0)))).trans (((HB.out.cell (World.block_lt_of_cell? w _ hw325_0)).trans hw325_0)), (World.cell?_alloc_lt _ _ _ (World.block_lt_of_cell? _ _ (((HB.out.cell (World.block_lt_of_cell? w _ hw325_1)).trans hw325_1)))).trans (((HB.out.cell (World.block_lt_of_cell? w _ hw325_1)).trans hw325_1)), (World.cell?_alloc_lt _ _ _ (World.block_lt_of_cell? _ _ (((HB.out.cell (World.block_lt_of_cell? w _ hw325_2)).trans hw325_2)))).trans (((HB.out.cell (World.block_lt_of_cell? w _ hw325_2)).trans hw325_2))⟩ (fun hHeld => ?_)
                        clear hK K
                        refine no_ 99 ?_
                        refine one_ (i := 8) (N := some 100) bYtoadgikbbigdlaaPaAx24_9 rfl rfl (one_of HT_.out (by kernel_rfl)) (by decide) (fun K hK => ?_)
                        refine Kd.R_append_step (Kd.int .i64) (w0 := w) w.heap.size (by rfl) (.tmp 93) (.tmp 99) 26 3 (.int .i64 0) 8 rfl Try.underlying26 info3 rfl (by decide) (by omega) u324001 x324001_5 ((rd_T50 l0 (rd y83 x88_5)).f0) [.int .i64 ((rd_T50 l0 (rd y83 x88_5)).f0)] (fun k_ => N3 ≤ k_) (fun _ => False) rfl rfl ?aP (fun _ hk => hk.elim) ?aF ?aO ?aB ?aS ?aL ?_
                        (case aP => exact rfl)
                        (case aB => exact yy30)
                        (case aF => exact (fun k_ hk => Nat.le_trans HNZ.out hk))
                        (case aO => exact (by (with_reducible repeat (first | apply Kd.R_alloc | apply Kd.R_drewN | apply Kd.R_drew)); exact HO_324001.out))
                        (case aS => exact (below_size yy30))
                        (case aL => have := LMc93.out; omega)
                        intro v327 w95 ho hb hg hat
                        rw [← Ny326.out] at ho
                        have n0_ := Aside0.mk (Kd.S_after (ok := (fun k_ => N3 ≤ k_ ∧ k_ ≠ gb323)) (by (with_reducible repeat (first | apply Kd.S_alloc | apply Kd.S_drewN | apply Kd.S_drew)); exact Kd.S_mono HO_12.out (fun _ hk => ⟨⟨hk.2.1, hk.2.2⟩, hk.1⟩)) hg hat)
                        have n1_ := Aside0.mk (Kd.S_after (ok := (fun k_ => k_ < N3 ∧ k_ ≠ gb289)) (by (with_reducible repeat (first | apply Kd.S_alloc | apply Kd.S_drewN | apply Kd.S_drew)); exact Kd.S_mono HO_74.out (fun _ hk => ⟨hk.2, hk.1⟩)) hg hat)
                        have n2_ := Aside0.mk (blk_grown (g := gb288) (o := .cells #[.slice (some ad325) l0.length c0] 29 (0, 0)) yy10 hg (Kd.R_ne HO_324001.out BK288.out (by decide)))
                        have n3_ := Aside0.mk (blk_grown (g := gb289) (o := .cells #[.int .i64 a1] 3 (0, 0)) yy9 hg (Kd.R_away HO_324001.out (fun _ hk => Nat.ne_of_gt (Nat.lt_of_lt_of_le HG289.out hk))))
                        have n4_ := Aside0.mk (blk_grown (g := gb323) (o := .cells #[.int .i64 (wrap64 (x76_4 + 1)), u324001] 62 (0, 0)) yy63 hg (Kd.R_ne HO_324001.out BK323.out (by decide)))
                        have n5_ := Aside0.mk (hb)
                        have n6_ := Aside0.mk (ho)
                        have n7_ := Aside0.mk (Kd.R_grown HL322_0.out hg (fun k_ hk e_ => Nat.not_lt.2 (HO_324001.out.1 k_ e_.symm) hk))
                        have n8_ := Aside0.mk (show N3 ≤ w95.heap.size from Nat.le_trans HNZ.out hg.size)
                        clear HL322_0 HNZ
                        have HL322_0 := n7_
                        have HNZ := n8_
                        clear n7_ n8_ HO_12 HO_74 BK288 BK289 BK323 HB HO_324001
                        have HO_12 := n0_
                        have HO_74 := n1_
                        have BK288 := n2_
                        have BK289 := n3_
                        have BK323 := n4_
                        have HB := n5_
                        have HO328 := n6_
                        clear n0_ n1_ n2_ n3_ n4_ n5_ n6_ ho hb hg hat
                        obtain ⟨Ao96, co96, eo96⟩ := Kd.R_slice HO328.out
                        (first | subst eo96 | (injection eo96 with f1_ f2_ f3_; have f4_ := f1_.symm; have f5_ := f3_.symm; clear f1_ f2_ f3_; subst f4_; subst f5_))
                        refine hK.out _ _ ⟨(blk_cell BK323.out 0).trans rfl, (blk_cell BK323.out 1).trans rfl, (blk_cell BK288.out 0).trans rfl, ((HB.out.cell (World.block_lt_of_cell? w _ hw325_0)).trans hw325_0), ((HB.out.cell (World.block_lt_of_cell? w _ hw325_1)).trans hw325_1), ((HB.out.cell (World.block_lt_of_cell? w _ hw325_2)).trans hw325_2)⟩ (fun hHeld => ?_)
                        clear hK K
                        refine no_ 100 ?_
                        refine pu_ 9 101 bYtoadgikbbigdlaaPaAx24_10 ?_
                        refine last_ (i := 10) (N := none) bYtoadgikbbigdlaaPaAx24_11 rfl rfl (one_of HT_.out (by kernel_rfl)) (by decide) (fun K hK => ?_)
                        have hs97 : w95.cell? ⟨gb323, 1, none⟩ = some (u324001) := (blk_cell BK323.out 1).trans rfl
                        have hfs97 := blk_frozen BK323.out 1
                        have hns97_0 := NB288_323.out
                        have hns97_1 := NB289_323.out
                        have hms97_0 := NB323_288.out
                        have hms97_1 := NB323_289.out
                        refine skip_ (w1 := ?_) (by rfl) rfl ?_ ?_
                        rotate_left
                        ·go_simp
                         rfl
                        refine hK.out _ _ ?_
                        clear hK K
                        refine done_ (done_of HT_.out (by kernel_rfl)) ?_
                        try go_wp2
                        go_roundg k5
                        case measure => have := HJ2.out; have := HK2.out; have := HK3.out; have := HK4.out; have := HK5.out; omega
                        case rel => exact ⟨(wrap64 (x88_5 + 1)), (y326), (.slice Ao96 y326.length co96), rfl, H', ⟨by simpa using HNZ.out⟩, ⟨Kd.R_far (p := ⟨gb323, 1, none⟩) HL322_0.out (fun _ hk => Nat.ne_of_lt (Nat.lt_of_lt_of_le hk HNB.out)) _⟩, ⟨by have := HJ2.out; have := HK2.out; have := HK3.out; have := HK4.out; have := HK5.out; omega⟩, ⟨by (try simp only [hl46_3]); (with_reducible repeat (first | apply Kd.S_alloc | apply Kd.S_drewN | apply Kd.S_drew)); exact Kd.S_mono (Kd.S_far (p := ⟨gb323, 1, none⟩) (Kd.S_mono HO_12.out (fun k_ hk => (⟨hk, hk.1.2⟩ : _ ∧ k_ ≠ gb323))) (fun _ hk => hk.2) (.slice Ao96 y326.length co96)) (fun _ hk => ⟨hk.1.2, ⟨hk.1.1.1, hk.1.1.2⟩⟩)⟩, ⟨by (try simp only [hl46_3]); (with_reducible repeat (first | apply Kd.S_alloc | apply Kd.S_drewN | apply Kd.S_drew)); exact Kd.S_mono (Kd.S_far (p := ⟨gb323, 1, none⟩) (Kd.S_types HO_74.out BK323.out (by decide)) (fun _ hk => hk.2) (.slice Ao96 y326.length co96)) (fun _ hk => ⟨hk.1.2, hk.1.1⟩)⟩, ⟨by (try simp only [hl46_3]); (with_reducible repeat (first | apply Kd.R_alloc | apply Kd.R_drewN | apply Kd.R_drew)); exact Kd.R_mono (Kd.R_far (p := ⟨gb323, 1, none⟩) (Kd.R_types HO328.out BK323.out (by decide)) (fun _ hk => hk.2) (.slice Ao96 y326.length co96)) (fun _ hk => hk.1)⟩, ⟨by (try simp only [hl46_3]); (with_reducible repeat (first | refine blk_drewN ?_ _ | refine blk_drew ?_ | refine blk_alloc ?_ _)); refine blk_far ?_ NB288_323.out _; (with_reducible repeat (first | refine blk_drewN ?_ _ | refine blk_drew ?_ | refine blk_alloc ?_ _)); exact BK288.out⟩, ⟨by (try simp only [hl46_3]); (with_reducible repeat (first | refine blk_drewN ?_ _ | refine blk_drew ?_ | refine blk_alloc ?_ _)); refine blk_far ?_ NB289_323.out _; (with_reducible repeat (first | refine blk_drewN ?_ _ | refine blk_drew ?_ | refine blk_alloc ?_ _)); exact BK289.out⟩, ⟨by (try simp only [hl46_3]); (with_reducible repeat (first | refine blk_drewN ?_ _ | refine blk_drew ?_ | refine blk_alloc ?_ _)); refine blk_put (cs := #[.int .i64 (wrap64 (x76_4 + 1)), u324001]) ?_ 1 _ rfl; (with_reducible repeat (first | refine blk_drewN ?_ _ | refine blk_drew ?_ | refine blk_alloc ?_ _)); exact BK323.out⟩, ⟨by repeat (first | (with_reducible first | exact HB.out | apply below_alloc | apply pw_below_drewN | apply below_drew1 | refine below_set ?_ GE288.out | refine below_set ?_ GE289.out | refine below_set ?_ GE323.out) | exact HB.out)⟩⟩
                       ·rw [if_neg c93] at H
                        exact absurd H (by simp)
                      ·rw [if_neg c92] at H
                       exact absurd H (by simp)
                     ·rw [if_neg c91] at H
                      exact absurd H (by simp)
                    ·rw [if_neg c90] at H
                     exact absurd H (by simp)
                   ·rw [if_neg c89] at H
                    exact absurd H (by simp)
                  ·rw [if_neg c88] at H
                   have c88b0 : decide (x88_5 < (y83.length : Int)) = false := decide_eq_false c88
                   have c88c : decide (x88_5 < ((rd_L3 x74_4 x76_4).length : Int)) = false := by rw [HLEN83.out]; exact c88b0
                   clear c88
                   by_cases c98 : x12_4.length < 4398046511104
                   ·rw [if_pos c98] at H
                    have LMc98 := Aside0.mk c98
                    clear c98
                    obtain ⟨y329, hy329⟩ : ∃ y_ : List (S62), y_ = (x12_4 ++ [(⟨(wrap64 (x76_4 + 1)), x324001_5⟩ : S62)]) := ⟨_, rfl⟩
                    replace H : (impl_PackArchive.l2 k5 y329 y84 (x8_3.length : Int) (wrap64 (x76_4 + 1)) l0) = some (r1, r2) := by first | (rw [hy329]; with_reducible exact H) | (have H2_ := (Option.bind_some _ _).symm.trans H; rw [hy329]; with_reducible exact H2_) | (have H2_ := (Option.bind_some _ _).symm.trans H; with_reducible exact H2_) | with_reducible exact H | (rw [hy329]; exact H) | exact H
                    have Ny329 := Aside0.mk hy329
                    clear hy329
                    have H' := Aside0.mk H
                    clear H
                    have hnb99 := NB323_288.out
                    have hnc99 := NB288_323.out
                    have hnb100 := NB323_289.out
                    have hnc100 := NB289_323.out
                    have hcz101_0 : wr.cell? ⟨gb323, 0, none⟩ = some (.int .i64 (wrap64 (x76_4 + 1))) := (blk_cell BK323.out 0).trans rfl
                    have hcz101_1 : wr.cell? ⟨gb323, 1, none⟩ = some (u324001) := (blk_cell BK323.out 1).trans rfl
                    have hfz101_0 := blk_frozen BK323.out 0
                    have hfz101_1 := blk_frozen BK323.out 1
                    obtain ⟨Ao103, co103, eo103⟩ := Kd.R_slice HO_324001.out
                    subst eo103
                    go_wp2_with (first | ((with_reducible refine gate_builtin (b := .append) (xs := #[.tmp 103, .tmp 105]) rfl ?_); at_builtin; refine Kd.S_append k62 (w0 := w) w.heap.size rfl (.tmp 103) (.tmp 105) 31 62 (.agg #[(.int .i64 0), (.slice none 0 0)]) 32 rfl Try.underlying31 info62 rfl (by decide) (by omega) u12 x12_4 (⟨(wrap64 (x76_4 + 1)), x324001_5⟩ : S62) [.int .i64 (wrap64 (x76_4 + 1)), .slice Ao103 x324001_5.length co103] (fun k_ => N3 ≤ k_ ∧ k_ ≠ gb323) (fun k_ => some k_ = (.slice Ao103 x324001_5.length co103 : Value).ownBlock) rfl rfl ?aP (fun k_ hk_ => ((Kd.R_mono (ok' := fun k_ => ((fun k_ => N3 ≤ k_ ∧ k_ ≠ gb323)) k_ ∧ some k_ ≠ (u12 : Value).ownBlock) (Kd.R_types (Kd.R_apart' (HO_324001.out) (Kd.S_typed HO_12.out) (by decide)) BK323.out (by decide)) (fun k_ hk => ⟨⟨hk.1.1, hk.2⟩, hk.1.2⟩))).1 k_ hk_.symm) ?aF ?aO ?aB ?aS ?aL ?_; (case aP => exact k62_mkM _ _ _ (⟨(wrap64 (x76_4 + 1)), x324001_5⟩ : S62) (Kd.R_mono (Kd.R_tight rfl (Kd.R_mono (ok' := fun k_ => ((fun k_ => N3 ≤ k_ ∧ k_ ≠ gb323)) k_ ∧ some k_ ≠ (u12 : Value).ownBlock) (Kd.R_types (Kd.R_apart' (HO_324001.out) (Kd.S_typed HO_12.out) (by decide)) BK323.out (by decide)) (fun k_ hk => ⟨⟨hk.1.1, hk.2⟩, hk.1.2⟩))) (fun _ h_ => h_))); (case aB => exact yy30); (case aF => exact (fun k_ hk => ⟨Nat.le_trans HNZ.out (Nat.le_trans (by simp) hk), Kd.freshB (g := gb323) (o := .cells #[.int .i64 (wrap64 (x76_4 + 1)), .slice Ao103 x324001_5.length co103] 62 (0, 0)) yy63 k_ hk⟩)); (case aO => exact (by (with_reducible repeat (first | apply Kd.S_alloc | apply Kd.S_drewN | apply Kd.S_drew)); exact Kd.S_mono HO_12.out (fun k_ hk => ⟨⟨hk.2.1, hk.2.2⟩, fun e_ => hk.1 e_⟩))); (case aS => exact (below_size yy30)); (case aL => have := LMc98.out; omega); intro v330 w102 ho hb hg hat; rw [← Ny329.out] at ho; have n0_ := Aside0.mk (Kd.S_over' (by (with_reducible repeat (first | apply Kd.S_alloc | apply Kd.S_drewN | apply Kd.S_drew)); exact HO_74.out) (Kd.S_typed (by (with_reducible repeat (first | apply Kd.S_alloc | apply Kd.S_drewN | apply Kd.S_drew)); exact HO_12.out)) (by decide) hg); have n1_ := Aside0.mk (blk_grown (g := gb288) (o := .cells #[.slice A0 l0.length c0] 29 (0, 0)) yy10 hg (Kd.S_ne HO_12.out BK288.out (by decide))); have n2_ := Aside0.mk (blk_grown (g := gb289) (o := .cells #[.int .i64 a1] 3 (0, 0)) yy9 hg (Kd.S_ne HO_12.out BK289.out (by decide))); have n3_ := Aside0.mk (blk_grown (g := gb323) (o := .cells #[.int .i64 (wrap64 (x76_4 + 1)), .slice Ao103 x324001_5.length co103] 62 (0, 0)) yy63 hg (Kd.S_away HO_12.out (fun _ hk => hk.2.2))); have n4_ := Aside0.mk (hb); have n5_ := Aside0.mk (ho); have n6_ := Aside0.mk (show N3 ≤ w102.heap.size from Nat.le_trans HNZ.out (Nat.le_trans (by simp) hg.size)); clear HO_74; clear BK288; clear BK289; clear BK323; clear HB; clear HO_12; clear HO_324001; have HO_74 := n0_; have BK288 := n1_; have BK289 := n2_; have BK323 := n3_; have HB := n4_; have HO331 := n5_; clear HNZ; have HNZ := n6_; clear n6_; clear n0_ n1_ n2_ n3_ n4_ n5_; clear ho hb hg hat))
                    go_roundg k5
                    case measure => have := HJ2.out; have := HK2.out; have := HK3.out; have := HK4.out; have := HK5.out; omega
                    case rel => exact ⟨y329, y84, (wrap64 (x76_4 + 1)), rfl, H', ⟨HYL.out⟩, ⟨by simpa using HNZ.out⟩, ⟨by have := HJ2.out; have := HK2.out; have := HK3.out; have := HK4.out; have := HK5.out; omega⟩, ⟨by (try simp only [hl46_3]); (with_reducible repeat (first | apply Kd.S_alloc | apply Kd.S_drewN | apply Kd.S_drew)); exact Kd.S_mono HO331.out (fun _ hk => hk.1)⟩, ⟨by (try simp only [hl46_3]); (with_reducible repeat (first | apply Kd.S_alloc | apply Kd.S_drewN | apply Kd.S_drew)); exact Kd.S_mono HO_74.out (fun _ hk => hk.2)⟩, ⟨by (try simp only [hl46_3]); (with_reducible repeat (first | refine blk_drewN ?_ _ | refine blk_drew ?_ | refine blk_alloc ?_ _)); exact BK288.out⟩, ⟨by (try simp only [hl46_3]); (with_reducible repeat (first | refine blk_drewN ?_ _ | refine blk_drew ?_ | refine blk_alloc ?_ _)); exact BK289.out⟩, ⟨by repeat (first | (with_reducible first | exact HB.out | apply below_alloc | apply pw_below_drewN | apply below_drew1 | refine below_set ?_ GE288.out | refine below_set ?_ GE289.out | refine below_set ?_ GE323.out) | exact HB.out)⟩⟩
                   ·rw [if_neg c98] at H
                    exact absurd H (by simp)
               ·rw [if_neg c83] at H
                exact absurd H (by simp)
              ·rw [if_neg c82] at H
               exact absurd H (by simp)
             ·rw [if_neg c81] at H
              exact absurd H (by simp)
            ·rw [if_neg c80] at H
             have c80b0 : decide (x76_4 < (x8_3.length : Int)) = false := decide_eq_false c80
             clear c80
             simp only [Option.some.injEq, Prod.mk.injEq] at H
             obtain ⟨rfl, rfl⟩ := H
             go_wp2
             go_ret2
             exact ⟨_, by first | rfl | (simp [errW_none, errW_some] <;> rfl) | (simp [*, errW_none, errW_some] <;> rfl), by (with_reducible repeat (first | apply Kd.S_alloc | apply Kd.S_drewN | apply Kd.S_drew)); exact Kd.S_mono HO_12.out (fun _ hk => trivial), by repeat (first | (with_reducible first | exact HB.out | apply below_alloc | apply pw_below_drewN | apply below_drew1 | refine below_set ?_ GE288.out | refine below_set ?_ GE289.out) | exact HB.out)⟩
end Go.Proofs.Ytoadgikbbigdlaa.A
