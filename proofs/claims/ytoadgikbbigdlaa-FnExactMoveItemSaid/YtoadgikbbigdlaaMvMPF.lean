import Derived.Test.YtoadgikbbigdlaaMvMPC
namespace Go.Proofs.Ytoadgikbbigdlaa.M
open Go.RowKit Go.Proofs.YtoadgikbbigdlaaW.PrintWords Go.Proofs.YtoadgikbbigdlaaW.PrintLast Go.Proofs.YtoadgikbbigdlaaW.PrintMore
set_option linter.unusedVariables false
theorem szItemS_le {l : List S65} {a : Int} (ha : a ≤ 1048576) (h0 : 0 ≤ a) (hl : l.length ≤ 9223372036854775807) : (laws_szItemS.f l a = some (-1)) ∨ ∃ s, laws_szItemS.f l a = some s ∧ 0 ≤ s ∧ s ≤ a ∧ (l.length : Int) ≤ a := by
 unfold laws_szItemS.f
 split
 ·exact .inl rfl
 ·rename_i h
  unfold wrap64 at h ⊢
  exact .inr ⟨_, rfl, by omega, by omega, by omega⟩
theorem szIntS_le {l : List Int} {a : Int} (ha : a ≤ 1048576) (h0 : 0 ≤ a) (hl : l.length ≤ 9223372036854775807) : (laws_szIntS.f l a = some (-1)) ∨ ∃ s, laws_szIntS.f l a = some s ∧ 0 ≤ s ∧ s ≤ a ∧ (l.length : Int) ≤ a := by
 unfold laws_szIntS.f
 split
 ·exact .inl rfl
 ·rename_i h
  unfold wrap64 at h ⊢
  exact .inr ⟨_, rfl, by omega, by omega, by omega⟩
theorem szArchiveBoxS_le {l : List S60} {a : Int} (ha : a ≤ 1048576) (h0 : 0 ≤ a) (hl : l.length ≤ 9223372036854775807) (hx : ∀ x ∈ l, x.f1.length ≤ 9223372036854775807) :
  Ev (fun k => laws_szArchiveBoxS.f k l a) (-1) ∨ ∃ s, Ev (fun k => laws_szArchiveBoxS.f k l a) s ∧ 0 ≤ s ∧ s ≤ a ∧ (l.length : Int) ≤ a ∧ ∀ x ∈ l, (x.f1.length : Int) ≤ a := by
 unfold laws_szArchiveBoxS.f
 by_cases h : wrap64 (a - l.length) < 0
 ·exact .inl (by simp only [if_pos h]; exact Ev.now _)
 ·simp only [if_neg h]
  have hb : 0 ≤ wrap64 (a - l.length) ∧ wrap64 (a - l.length) ≤ a ∧ (l.length : Int) ≤ a := by unfold wrap64 at h ⊢; omega
  generalize wrap64 (a - l.length) = b at hb
  have key : ∀ i, i ≤ l.length → ∀ b : Int, 0 ≤ b → b ≤ 1048576 → Ev (fun k => laws_szArchiveBoxS.l0 k l b i) (-1) ∨ ∃ s, Ev (fun k => laws_szArchiveBoxS.l0 k l b i) s ∧ 0 ≤ s ∧ s ≤ b ∧ ∀ x ∈ l.drop i, (x.f1.length : Int) ≤ b := by
   refine down ?_ ?_
   ·intro b h0 hb
    refine .inr ⟨b, Ev.succ ?_, h0, Int.le_refl _, by simp⟩
    simp only [laws_szArchiveBoxS.l0, Int.lt_irrefl, if_false]
    exact Ev.now _
   ·intro i hi ih b h0 hb
    have hi' : (i : Int) < (l.length : Int) := by omega
    have hm := getD_mem z60 hi
    rcases szIntS_le hb h0 (hx _ hm) with h1 | ⟨s, h1, h2, h3, h4⟩
    ·refine .inl (Ev.succ ?_)
     simp only [laws_szArchiveBoxS.l0, if_pos hi', if_pos (Int.natCast_nonneg i), rd_T60, Int.toNat_natCast, laws_szArchiveBox.f, h1, Option.bind_some]
     exact Ev.now _
    ·have e : ∀ r, Ev (fun k => laws_szArchiveBoxS.l0 k l s ((i + 1 : Nat) : Int)) r → Ev (fun k => laws_szArchiveBoxS.l0 k l b i) r := fun r hr => by
      refine Ev.succ ?_
      simp only [laws_szArchiveBoxS.l0, if_pos hi', if_pos (Int.natCast_nonneg i), rd_T60, Int.toNat_natCast, laws_szArchiveBox.f, h1, Option.bind_some, if_neg (Int.not_lt.2 h2), w1 hi hl]
      exact hr
     rcases ih s h2 (by omega) with h5 | ⟨s', h5, h6, h7, h8⟩
     ·exact .inl (e _ h5)
     ·refine .inr ⟨s', e _ h5, h6, by omega, fun x hx' => ?_⟩
      rw [drop_cons z60 hi] at hx'
      rcases List.mem_cons.1 hx' with rfl | hx'
      ·exact h4
      ·have := h8 x hx'
       omega
  rcases key 0 (by omega) b hb.1 (by omega) with h1 | ⟨s, h1, h2, h3, h4⟩
  ·exact .inl h1
  ·refine .inr ⟨s, h1, h2, by omega, hb.2.2, fun x hx' => ?_⟩
   have := h4 x (by simpa using hx')
   omega
def cv65 (x : S65) : S50 := ⟨x.f0, x.f1, x.f2⟩
theorem toItemS_ev {l : List S65} (hl : (l.length : Int) ≤ 1048576) : Ev (fun k => laws_toItemS.f k l) (l.map cv65) := by
 have key : ∀ i, i ≤ l.length → Ev (fun k => laws_toItemS.l0 k l ((l.take i).map cv65 ++ List.replicate (l.length - i) z50) i) (l.map cv65) := by
  refine down ?_ ?_
  ·refine Ev.succ ?_
   simp only [laws_toItemS.l0, Int.lt_irrefl, if_false, List.take_length, Nat.sub_self, List.replicate_zero, List.append_nil]
   exact Ev.now _
  ·intro i hi ih
   have hi' : (i : Int) < (l.length : Int) := by omega
   refine Ev.succ ?_
   simp only [laws_toItemS.l0, if_pos hi', if_pos (Int.natCast_nonneg i), rd_T65, Int.toNat_natCast, laws_toItem.f, Option.bind_some, w1 hi (show l.length ≤ 9223372036854775807 by omega)]
   rw [set_fill' (m := l.length - (i + 1)) (by simp; omega) (by omega)]
   have hlen : (i : Int) < ((List.map cv65 (l.take i) ++ List.replicate (l.length - i) z50).length : Int) := by simp; omega
   simp only [if_pos hlen]
   rw [take_snoc z65 hi, List.map_append] at ih
   exact ih
 unfold laws_toItemS.f
 simp only [if_pos (Int.natCast_nonneg l.length), Int.toNat_natCast, if_pos (show l.length ≤ 11728124029610 by omega)]
 simpa using key 0 (by omega)
def cv60 (x : S60) : S62 := ⟨x.f0, x.f1⟩
theorem toIntS_ev {l : List Int} (hl : (l.length : Int) ≤ 1048576) : Ev (fun k => laws_toIntS.f k l) l := by
 have key : ∀ i, i ≤ l.length → Ev (fun k => laws_toIntS.l0 k l (l.take i ++ List.replicate (l.length - i) 0) i) l := by
  refine down ?_ ?_
  ·refine Ev.succ ?_
   simp only [laws_toIntS.l0, Int.lt_irrefl, if_false, List.take_length, Nat.sub_self, List.replicate_zero, List.append_nil]
   exact Ev.now _
  ·intro i hi ih
   have hi' : (i : Int) < (l.length : Int) := by omega
   refine Ev.succ ?_
   simp only [laws_toIntS.l0, if_pos hi', if_pos (Int.natCast_nonneg i), rd, Int.toNat_natCast, w1 hi (show l.length ≤ 9223372036854775807 by omega)]
   rw [set_fill' (m := l.length - (i + 1)) (by simp; omega) (by omega)]
   have hlen : (i : Int) < ((l.take i ++ List.replicate (l.length - i) (0 : Int)).length : Int) := by simp; omega
   simp only [if_pos hlen]
   rw [take_snoc 0 hi] at ih
   exact ih
 unfold laws_toIntS.f
 simp only [if_pos (Int.natCast_nonneg l.length), Int.toNat_natCast, if_pos (show l.length ≤ 35184372088832 by omega)]
 simpa using key 0 (by omega)
theorem toArchiveBoxS_ev {l : List S60} (hl : (l.length : Int) ≤ 1048576) (hx : ∀ x ∈ l, (x.f1.length : Int) ≤ 1048576) : Ev (fun k => laws_toArchiveBoxS.f k l) (l.map cv60) := by
 have key : ∀ i, i ≤ l.length → Ev (fun k => laws_toArchiveBoxS.l0 k l ((l.take i).map cv60 ++ List.replicate (l.length - i) z62) i) (l.map cv60) := by
  refine down ?_ ?_
  ·refine Ev.succ ?_
   simp only [laws_toArchiveBoxS.l0, Int.lt_irrefl, if_false, List.take_length, Nat.sub_self, List.replicate_zero, List.append_nil]
   exact Ev.now _
  ·intro i hi ih
   have hi' : (i : Int) < (l.length : Int) := by omega
   have hm := getD_mem z60 hi
   refine Ev.succ ?_
   simp only [laws_toArchiveBoxS.l0, if_pos hi', if_pos (Int.natCast_nonneg i), rd_T60, Int.toNat_natCast, w1 hi (show l.length ≤ 9223372036854775807 by omega)]
   have e : Ev (fun k => laws_toArchiveBox.f k (l.getD i z60).f0 (l.getD i z60).f1) ((l.getD i z60).f0, (l.getD i z60).f1) := by
    unfold laws_toArchiveBox.f
    exact Ev.bind (toIntS_ev (hx _ hm)) (Ev.now _)
   refine Ev.bind e ?_
   rw [set_fill' (m := l.length - (i + 1)) (by simp; omega) (by omega)]
   have hlen : (i : Int) < ((List.map cv60 (l.take i) ++ List.replicate (l.length - i) z62).length : Int) := by simp; omega
   simp only [if_pos hlen]
   rw [take_snoc z60 hi, List.map_append] at ih
   exact ih
 unfold laws_toArchiveBoxS.f
 simp only [if_pos (Int.natCast_nonneg l.length), Int.toNat_natCast, if_pos (show l.length ≤ 8796093022208 by omega)]
 simpa using key 0 (by omega)
theorem eqIntS_ev {l : List Int} (hl : l.length ≤ 9223372036854775807) : Ev (fun k => laws_eqIntS.f k l l) true := by
 have key : ∀ i, i ≤ l.length → Ev (fun k => laws_eqIntS.l0 k l l i) true := by
  refine down ?_ ?_
  ·refine Ev.succ ?_
   simp only [laws_eqIntS.l0, Int.lt_irrefl, if_false]
   exact Ev.now _
  ·intro i hi ih
   have hi' : (i : Int) < (l.length : Int) := by omega
   refine Ev.succ ?_
   simp only [laws_eqIntS.l0, if_pos hi', if_pos (Int.natCast_nonneg i), if_true, w1 hi hl]
   exact ih
 unfold laws_eqIntS.f
 simp only [if_true]
 exact key 0 (by omega)
theorem eqItemS_ev {l : List S50} (hl : l.length ≤ 9223372036854775807) : Ev (fun k => laws_eqItemS.f k l l) true := by
 have key : ∀ i, i ≤ l.length → Ev (fun k => laws_eqItemS.l0 k l l i) true := by
  refine down ?_ ?_
  ·refine Ev.succ ?_
   simp only [laws_eqItemS.l0, Int.lt_irrefl, if_false]
   exact Ev.now _
  ·intro i hi ih
   have hi' : (i : Int) < (l.length : Int) := by omega
   refine Ev.succ ?_
   simp only [laws_eqItemS.l0, if_pos hi', if_pos (Int.natCast_nonneg i), laws_eqItem.f, if_true, Option.bind_some, w1 hi hl]
   exact ih
 unfold laws_eqItemS.f
 simp only [if_true]
 exact key 0 (by omega)
theorem eqArchiveBoxS_ev {l : List S62} (hl : l.length ≤ 9223372036854775807) (hx : ∀ x ∈ l, x.f1.length ≤ 9223372036854775807) : Ev (fun k => laws_eqArchiveBoxS.f k l l) true := by
 have key : ∀ i, i ≤ l.length → Ev (fun k => laws_eqArchiveBoxS.l0 k l l i) true := by
  refine down ?_ ?_
  ·refine Ev.succ ?_
   simp only [laws_eqArchiveBoxS.l0, Int.lt_irrefl, if_false]
   exact Ev.now _
  ·intro i hi ih
   have hi' : (i : Int) < (l.length : Int) := by omega
   refine Ev.succ ?_
   simp only [laws_eqArchiveBoxS.l0, if_pos hi', if_pos (Int.natCast_nonneg i), w1 hi hl]
   have e : Ev (fun k => laws_eqArchiveBox.f k (rd_T62 l i).f0 (rd_T62 l i).f1 (rd_T62 l i).f0 (rd_T62 l i).f1) true := by
    unfold laws_eqArchiveBox.f
    simp only [if_true]
    refine Ev.bind (eqIntS_ev (hx _ (by simpa only [rd_T62, Int.toNat_natCast] using getD_mem z62 hi))) ?_
    simp only [if_true]
    exact Ev.now _
   refine Ev.bind e ?_
   simp only [if_true]
   exact ih
 unfold laws_eqArchiveBoxS.f
 simp only [if_true]
 exact key 0 (by omega)
theorem markItemS_ev {l : List S50} {a : Int} (h0 : 0 ≤ a) (hl : a + 3 * (l.length : Int) ≤ 4611686018427387904) : ∃ l', Ev (fun k => laws_markItemS.f k l a) (a + 3 * l.length, l') := by
 have key : ∀ i, i ≤ l.length → ∀ l' : List S50, l'.length = l.length → ∃ r, Ev (fun k => laws_markItemS.l0 k l' (a + 3 * i) i) (a + 3 * l.length, r) := by
  refine down ?_ ?_
  ·intro l' hl'
   refine ⟨l', Ev.succ ?_⟩
   simp only [laws_markItemS.l0, hl', Int.lt_irrefl, if_false]
   exact Ev.now _
  ·intro i hi ih l' hl'
   have hi' : (i : Int) < (l'.length : Int) := by omega
   have e1 : wrap64 (a + 3 * i + 1) = a + 3 * i + 1 := by unfold wrap64; omega
   have e2 : wrap64 (a + 3 * i + 1 + 1) = a + 3 * i + 2 := by unfold wrap64; omega
   have e3 : wrap64 (a + 3 * i + 2 + 1) = a + 3 * ((i + 1 : Nat) : Int) := by unfold wrap64; omega
   have hw : wrap64 ((i : Int) + 1) = ((i + 1 : Nat) : Int) := by unfold wrap64; omega
   suffices h : ∃ r, Ev (fun k => laws_markItemS.l0 (k + 1) l' (a + 3 * i) i) (a + 3 * l.length, r) from h.imp fun r hr => Ev.succ hr
   simp only [laws_markItemS.l0, if_pos hi', if_pos (Int.natCast_nonneg i), Option.bind_some, e1, e2, e3, hw]
   exact ih _ (by simp [hl'])
 obtain ⟨r, hr⟩ := key 0 (by omega) l rfl
 exact ⟨r, by simpa [laws_markItemS.f] using hr⟩
theorem markI_snd : ∀ (l : List Int) (a : Int), 0 ≤ a → a + (l.length : Int) ≤ 4611686018427387904 → (markI l a).2 = a + l.length
 | [], a, _, _ => by simp [markI]
 | _ :: t, a, h0, h => by
  simp only [List.length_cons] at h
  have e : wrap64 (a + 1) = a + 1 := by unfold wrap64; omega
  simp only [markI, e]
  rw [markI_snd t (a + 1) (by omega) (by omega)]
  simp
  omega
theorem markI_get : ∀ (l : List Int) (a : Int) (i : Nat), 0 ≤ a → a + (l.length : Int) ≤ 4611686018427387904 → i < l.length → (markI l a).1.getD i 0 = a + i
 | [], a, i, _, _, h => by simp at h
 | _ :: t, a, 0, _, _, _ => by simp [markI]
 | _ :: t, a, i + 1, h0, hl, h => by
  simp only [List.length_cons] at hl h
  have e : wrap64 (a + 1) = a + 1 := by unfold wrap64; omega
  simp only [markI, e, List.getD_cons_succ]
  rw [markI_get t (a + 1) i (by omega) (by omega) (by omega)]
  omega
theorem heldIntS_ev {l : List Int} {a : Int} (h0 : 0 ≤ a) (hl : a + (l.length : Int) ≤ 4611686018427387904) : Ev (fun k => laws_heldIntS.f k (markI l a).1 a) (a + l.length) := by
 have hlen := markI_length l a
 have key : ∀ i, i ≤ l.length → Ev (fun k => laws_heldIntS.l0 k (markI l a).1 (a + i) i) (a + l.length) := by
  refine down ?_ ?_
  ·refine Ev.succ ?_
   simp only [laws_heldIntS.l0, hlen, Int.lt_irrefl, if_false]
   exact Ev.now _
  ·intro i hi ih
   have hi' : (i : Int) < ((markI l a).1.length : Int) := by omega
   have e1 : wrap64 (a + i + 1) = a + ((i + 1 : Nat) : Int) := by unfold wrap64; omega
   refine Ev.succ ?_
   simp only [laws_heldIntS.l0, if_pos hi', if_pos (Int.natCast_nonneg i), rd, Int.toNat_natCast, markI_get l a i h0 hl hi, if_true, e1, w1 hi (show l.length ≤ 9223372036854775807 by omega)]
   exact ih
 unfold laws_heldIntS.f
 simpa using key 0 (by omega)
theorem markB_snd : ∀ (l : List S62) (a : Int), 0 ≤ a → (∀ x ∈ l, (x.f1.length : Int) ≤ 1048576) → a + (l.length : Int) * 1048577 ≤ 4611686018427387904 → a ≤ (markB l a).2 ∧ (markB l a).2 ≤ a + (l.length : Int) * 1048577
 | [], a, _, _, _ => by simp [markB]
 | x :: t, a, h0, hx, h => by
  simp only [List.length_cons] at h ⊢
  have hl := hx x (by simp)
  have e : wrap64 (a + 1) = a + 1 := by unfold wrap64; omega
  have e2 := markI_snd x.f1 (a + 1) (by omega) (by omega)
  have := markB_snd t (a + 1 + x.f1.length) (by omega) (fun y hy => hx y (by simp [hy])) (by omega)
  simp only [markB, e, e2]
  omega
end Go.Proofs.Ytoadgikbbigdlaa.M
