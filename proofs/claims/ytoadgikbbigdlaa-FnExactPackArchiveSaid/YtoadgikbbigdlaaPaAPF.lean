import Derived.Test.YtoadgikbbigdlaaPaAPK
import Derived.Test.YtoadgikbbigdlaaPaAx1
import Derived.Test.YtoadgikbbigdlaaPaAx2
import Derived.Test.YtoadgikbbigdlaaPaAx3
import Derived.Test.YtoadgikbbigdlaaPaAx10
namespace Go.Proofs.Ytoadgikbbigdlaa.A
open Go.RowKit Go.Proofs.YtoadgikbbigdlaaW.PrintWords Go.Proofs.YtoadgikbbigdlaaW.PrintLast Go.Proofs.YtoadgikbbigdlaaW.PrintMore
set_option linter.unusedVariables false
theorem szItemS_le {l : List S65} {a : Int} (ha : a ≤ 1048576) (h0 : 0 ≤ a) (hl : l.length ≤ 9223372036854775807) : (laws_szItemS.f l a = some (-1)) ∨ ∃ s, laws_szItemS.f l a = some s ∧ 0 ≤ s ∧ s ≤ a ∧ (l.length : Int) ≤ a := by
 unfold laws_szItemS.f
 split
 ·exact .inl rfl
 ·rename_i h
  unfold wrap64 at h ⊢
  exact .inr ⟨_, rfl, by omega, by omega, by omega⟩
def cv65 (x : S65) : S50 := ⟨x.f0, x.f1, x.f2⟩
theorem toItemS_ev {l : List S65} (hl : (l.length : Int) ≤ 1048576) : Ev (fun k => laws_toItemS.f k l) (l.map cv65) := by
 have key : ∀ i, i ≤ l.length → Ev (fun k => laws_toItemS.l0 k l ((l.take i).map cv65 ++ List.replicate (l.length - i) z50) i) (l.map cv65) := by
  refine down ?_ ?_
  ·refine Ev.succ ?_
   simp only [laws_toItemS.l0, Int.lt_irrefl, if_false, List.take_length, Nat.sub_self, List.replicate_zero, List.append_nil]
   exact Ev.now _
  ·intro i hi ih
   have hi' : (i : Int) < (l.length : Int) := by omega
   refine Ev.succ ?_
   simp only [laws_toItemS.l0, if_pos hi', if_pos (Int.natCast_nonneg i), rd_T65, Int.toNat_natCast, laws_toItem.f, Option.bind_some, w1 hi (show l.length ≤ 9223372036854775807 by omega)]
   rw [set_fill' (m := l.length - (i + 1)) (by simp; omega) (by omega)]
   have hlen : (i : Int) < ((List.map cv65 (l.take i) ++ List.replicate (l.length - i) z50).length : Int) := by simp; omega
   simp only [if_pos hlen]
   rw [take_snoc z65 hi, List.map_append] at ih
   exact ih
 unfold laws_toItemS.f
 simp only [if_pos (Int.natCast_nonneg l.length), Int.toNat_natCast, if_pos (show l.length ≤ 11728124029610 by omega)]
 simpa using key 0 (by omega)
theorem eqIntS_ev {l : List Int} (hl : l.length ≤ 9223372036854775807) : Ev (fun k => laws_eqIntS.f k l l) true := by
 have key : ∀ i, i ≤ l.length → Ev (fun k => laws_eqIntS.l0 k l l i) true := by
  refine down ?_ ?_
  ·refine Ev.succ ?_
   simp only [laws_eqIntS.l0, Int.lt_irrefl, if_false]
   exact Ev.now _
  ·intro i hi ih
   have hi' : (i : Int) < (l.length : Int) := by omega
   refine Ev.succ ?_
   simp only [laws_eqIntS.l0, if_pos hi', if_pos (Int.natCast_nonneg i), if_true, w1 hi hl]
   exact ih
 unfold laws_eqIntS.f
 simp only [if_true]
 exact key 0 (by omega)
theorem eqItemS_ev {l : List S50} (hl : l.length ≤ 9223372036854775807) : Ev (fun k => laws_eqItemS.f k l l) true := by
 have key : ∀ i, i ≤ l.length → Ev (fun k => laws_eqItemS.l0 k l l i) true := by
  refine down ?_ ?_
  ·refine Ev.succ ?_
   simp only [laws_eqItemS.l0, Int.lt_irrefl, if_false]
   exact Ev.now _
  ·intro i hi ih
   have hi' : (i : Int) < (l.length : Int) := by omega
   refine Ev.succ ?_
   simp only [laws_eqItemS.l0, if_pos hi', if_pos (Int.natCast_nonneg i), laws_eqItem.f, if_true, Option.bind_some, w1 hi hl]
   exact ih
 unfold laws_eqItemS.f
 simp only [if_true]
 exact key 0 (by omega)
theorem eqArchiveBoxS_ev {l : List S62} (hl : l.length ≤ 9223372036854775807) (hx : ∀ x ∈ l, x.f1.length ≤ 9223372036854775807) : Ev (fun k => laws_eqArchiveBoxS.f k l l) true := by
 have key : ∀ i, i ≤ l.length → Ev (fun k => laws_eqArchiveBoxS.l0 k l l i) true := by
  refine down ?_ ?_
  ·refine Ev.succ ?_
   simp only [laws_eqArchiveBoxS.l0, Int.lt_irrefl, if_false]
   exact Ev.now _
  ·intro i hi ih
   have hi' : (i : Int) < (l.length : Int) := by omega
   refine Ev.succ ?_
   simp only [laws_eqArchiveBoxS.l0, if_pos hi', if_pos (Int.natCast_nonneg i), w1 hi hl]
   have e : Ev (fun k => laws_eqArchiveBox.f k (rd_T62 l i).f0 (rd_T62 l i).f1 (rd_T62 l i).f0 (rd_T62 l i).f1) true := by
    unfold laws_eqArchiveBox.f
    simp only [if_true]
    refine Ev.bind (eqIntS_ev (hx _ (by simpa only [rd_T62, Int.toNat_natCast] using getD_mem z62 hi))) ?_
    simp only [if_true]
    exact Ev.now _
   refine Ev.bind e ?_
   simp only [if_true]
   exact ih
 unfold laws_eqArchiveBoxS.f
 simp only [if_true]
 exact key 0 (by omega)
theorem markItemS_ev {l : List S50} {a : Int} (h0 : 0 ≤ a) (hl : a + 3 * (l.length : Int) ≤ 4611686018427387904) : ∃ l', Ev (fun k => laws_markItemS.f k l a) (a + 3 * l.length, l') := by
 have key : ∀ i, i ≤ l.length → ∀ l' : List S50, l'.length = l.length → ∃ r, Ev (fun k => laws_markItemS.l0 k l' (a + 3 * i) i) (a + 3 * l.length, r) := by
  refine down ?_ ?_
  ·intro l' hl'
   refine ⟨l', Ev.succ ?_⟩
   simp only [laws_markItemS.l0, hl', Int.lt_irrefl, if_false]
   exact Ev.now _
  ·intro i hi ih l' hl'
   have hi' : (i : Int) < (l'.length : Int) := by omega
   have e1 : wrap64 (a + 3 * i + 1) = a + 3 * i + 1 := by unfold wrap64; omega
   have e2 : wrap64 (a + 3 * i + 1 + 1) = a + 3 * i + 2 := by unfold wrap64; omega
   have e3 : wrap64 (a + 3 * i + 2 + 1) = a + 3 * ((i + 1 : Nat) : Int) := by unfold wrap64; omega
   have hw : wrap64 ((i : Int) + 1) = ((i + 1 : Nat) : Int) := by unfold wrap64; omega
   suffices h : ∃ r, Ev (fun k => laws_markItemS.l0 (k + 1) l' (a + 3 * i) i) (a + 3 * l.length, r) from h.imp fun r hr => Ev.succ hr
   simp only [laws_markItemS.l0, if_pos hi', if_pos (Int.natCast_nonneg i), Option.bind_some, e1, e2, e3, hw]
   exact ih _ (by simp [hl'])
 obtain ⟨r, hr⟩ := key 0 (by omega) l rfl
 exact ⟨r, by simpa [laws_markItemS.f] using hr⟩
theorem markI_snd : ∀ (l : List Int) (a : Int), 0 ≤ a → a + (l.length : Int) ≤ 4611686018427387904 → (markI l a).2 = a + l.length
 | [], a, _, _ => by simp [markI]
 | _ :: t, a, h0, h => by
  simp only [List.length_cons] at h
  have e : wrap64 (a + 1) = a + 1 := by unfold wrap64; omega
  simp only [markI, e]
  rw [markI_snd t (a + 1) (by omega) (by omega)]
  simp
  omega
theorem markI_get : ∀ (l : List Int) (a : Int) (i : Nat), 0 ≤ a → a + (l.length : Int) ≤ 4611686018427387904 → i < l.length → (markI l a).1.getD i 0 = a + i
 | [], a, i, _, _, h => by simp at h
 | _ :: t, a, 0, _, _, _ => by simp [markI]
 | _ :: t, a, i + 1, h0, hl, h => by
  simp only [List.length_cons] at hl h
  have e : wrap64 (a + 1) = a + 1 := by unfold wrap64; omega
  simp only [markI, e, List.getD_cons_succ]
  rw [markI_get t (a + 1) i (by omega) (by omega) (by omega)]
  omega
theorem heldIntS_ev {l : List Int} {a : Int} (h0 : 0 ≤ a) (hl : a + (l.length : Int) ≤ 4611686018427387904) : Ev (fun k => laws_heldIntS.f k (markI l a).1 a) (a + l.length) := by
 have hlen := markI_length l a
 have key : ∀ i, i ≤ l.length → Ev (fun k => laws_heldIntS.l0 k (markI l a).1 (a + i) i) (a + l.length) := by
  refine down ?_ ?_
  ·refine Ev.succ ?_
   simp only [laws_heldIntS.l0, hlen, Int.lt_irrefl, if_false]
   exact Ev.now _
  ·intro i hi ih
   have hi' : (i : Int) < ((markI l a).1.length : Int) := by omega
   have e1 : wrap64 (a + i + 1) = a + ((i + 1 : Nat) : Int) := by unfold wrap64; omega
   refine Ev.succ ?_
   simp only [laws_heldIntS.l0, if_pos hi', if_pos (Int.natCast_nonneg i), rd, Int.toNat_natCast, markI_get l a i h0 hl hi, if_true, e1, w1 hi (show l.length ≤ 9223372036854775807 by omega)]
   exact ih
 unfold laws_heldIntS.f
 simpa using key 0 (by omega)
theorem markB_snd : ∀ (l : List S62) (a : Int), 0 ≤ a → (∀ x ∈ l, (x.f1.length : Int) ≤ 1048576) → a + (l.length : Int) * 1048577 ≤ 4611686018427387904 → a ≤ (markB l a).2 ∧ (markB l a).2 ≤ a + (l.length : Int) * 1048577
 | [], a, _, _, _ => by simp [markB]
 | x :: t, a, h0, hx, h => by
  simp only [List.length_cons] at h ⊢
  have hl := hx x (by simp)
  have e : wrap64 (a + 1) = a + 1 := by unfold wrap64; omega
  have e2 := markI_snd x.f1 (a + 1) (by omega) (by omega)
  have := markB_snd t (a + 1 + x.f1.length) (by omega) (fun y hy => hx y (by simp [hy])) (by omega)
  simp only [markB, e, e2]
  omega
theorem markB_sndL : ∀ (l : List S62) (a : Int), 0 ≤ a → (∀ x ∈ l, (x.f1.length : Int) ≤ 4194304) → a + (l.length : Int) * 4194305 ≤ 4611686018427387904 → a ≤ (markB l a).2 ∧ (markB l a).2 ≤ a + (l.length : Int) * 4194305
 | [], a, _, _, _ => by simp [markB]
 | x :: t, a, h0, hx, h => by
  simp only [List.length_cons] at h ⊢
  have hl := hx x (by simp)
  have e : wrap64 (a + 1) = a + 1 := by unfold wrap64; omega
  have e2 := markI_snd x.f1 (a + 1) (by omega) (by omega)
  have := markB_sndL t (a + 1 + x.f1.length) (by omega) (fun y hy => hx y (by simp [hy])) (by omega)
  simp only [markB, e, e2]
  omega
theorem markB_at : ∀ (l : List S62) (a : Int) (i : Nat), i < l.length → (markB l a).1.getD i z62 = ⟨(markB (l.take i) a).2, (markI (l.getD i z62).f1 (wrap64 ((markB (l.take i) a).2 + 1))).1⟩ ∧ (markB (l.take (i + 1)) a).2 = (markI (l.getD i z62).f1 (wrap64 ((markB (l.take i) a).2 + 1))).2
 | [], _, _, h => by simp at h
 | x :: t, a, 0, _ => by simp [markB]
 | x :: t, a, i + 1, h => by
  have := markB_at t (markI x.f1 (wrap64 (a + 1))).2 i (by simpa using h)
  simpa [markB] using this
theorem heldArchiveBoxS_ev {l : List S62} {a : Int} (h0 : 0 ≤ a) (hx : ∀ x ∈ l, (x.f1.length : Int) ≤ 4194304) (hl : a + (l.length : Int) * 4194305 ≤ 4611686018427387904) : Ev (fun k => laws_heldArchiveBoxS.f k (markB l a).1 a) (markB l a).2 := by
 have hlen := markB_length l a
 have key : ∀ i, i ≤ l.length → Ev (fun k => laws_heldArchiveBoxS.l0 k (markB l a).1 (markB (l.take i) a).2 i) (markB l a).2 := by
  refine down ?_ ?_
  ·refine Ev.succ ?_
   simp only [laws_heldArchiveBoxS.l0, hlen, Int.lt_irrefl, if_false, List.take_length]
   exact Ev.now _
  ·intro i hi ih
   have hi' : (i : Int) < ((markB l a).1.length : Int) := by omega
   obtain ⟨e1, e2⟩ := markB_at l a i hi
   have hb := hx _ (getD_mem z62 hi)
   have hti : (l.take i).length = i := by simp; omega
   have hB := markB_sndL (l.take i) a h0 (fun x hx' => hx x (List.mem_of_mem_take hx')) (by rw [hti]; omega)
   rw [hti] at hB
   have hw : wrap64 ((markB (l.take i) a).2 + 1) = (markB (l.take i) a).2 + 1 := by unfold wrap64; omega
   rw [hw] at e1 e2
   have e3 := markI_snd (l.getD i z62).f1 ((markB (l.take i) a).2 + 1) (by omega) (by omega)
   have e4 := heldIntS_ev (l := (l.getD i z62).f1) (a := (markB (l.take i) a).2 + 1) (by omega) (by omega)
   refine Ev.succ ?_
   simp only [laws_heldArchiveBoxS.l0, if_pos hi', if_pos (Int.natCast_nonneg i), rd_T62, Int.toNat_natCast, e1, if_true, hw, w1 hi (show l.length ≤ 9223372036854775807 by omega)]
   refine Ev.bind e4 ?_
   rw [e2, e3] at ih
   simp only [if_neg (show ¬ (markB (l.take i) a).2 + 1 + ((l.getD i z62).f1.length : Int) < 0 by omega)]
   exact ih
 simpa [laws_heldArchiveBoxS.f, markB] using key 0 (by omega)
end Go.Proofs.Ytoadgikbbigdlaa.A
