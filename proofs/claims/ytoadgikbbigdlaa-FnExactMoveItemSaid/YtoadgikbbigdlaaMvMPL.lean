import Derived.Test.YtoadgikbbigdlaaMvMPF
namespace Go.Proofs.Ytoadgikbbigdlaa.M
open Go.RowKit Go.Proofs.YtoadgikbbigdlaaW.PrintWords Go.Proofs.YtoadgikbbigdlaaW.PrintLast Go.Proofs.YtoadgikbbigdlaaW.PrintMore
set_option linter.unusedVariables false
theorem markB_sndL : ∀ (l : List S62) (a : Int), 0 ≤ a → (∀ x ∈ l, (x.f1.length : Int) ≤ 4194304) → a + (l.length : Int) * 4194305 ≤ 4611686018427387904 → a ≤ (markB l a).2 ∧ (markB l a).2 ≤ a + (l.length : Int) * 4194305
 | [], a, _, _, _ => by simp [markB]
 | x :: t, a, h0, hx, h => by
  simp only [List.length_cons] at h ⊢
  have hl := hx x (by simp)
  have e : wrap64 (a + 1) = a + 1 := by unfold wrap64; omega
  have e2 := markI_snd x.f1 (a + 1) (by omega) (by omega)
  have := markB_sndL t (a + 1 + x.f1.length) (by omega) (fun y hy => hx y (by simp [hy])) (by omega)
  simp only [markB, e, e2]
  omega
theorem markB_at : ∀ (l : List S62) (a : Int) (i : Nat), i < l.length → (markB l a).1.getD i z62 = ⟨(markB (l.take i) a).2, (markI (l.getD i z62).f1 (wrap64 ((markB (l.take i) a).2 + 1))).1⟩ ∧ (markB (l.take (i + 1)) a).2 = (markI (l.getD i z62).f1 (wrap64 ((markB (l.take i) a).2 + 1))).2
 | [], _, _, h => by simp at h
 | x :: t, a, 0, _ => by simp [markB]
 | x :: t, a, i + 1, h => by
  have := markB_at t (markI x.f1 (wrap64 (a + 1))).2 i (by simpa using h)
  simpa [markB] using this
theorem heldArchiveBoxS_ev {l : List S62} {a : Int} (h0 : 0 ≤ a) (hx : ∀ x ∈ l, (x.f1.length : Int) ≤ 4194304) (hl : a + (l.length : Int) * 4194305 ≤ 4611686018427387904) : Ev (fun k => laws_heldArchiveBoxS.f k (markB l a).1 a) (markB l a).2 := by
 have hlen := markB_length l a
 have key : ∀ i, i ≤ l.length → Ev (fun k => laws_heldArchiveBoxS.l0 k (markB l a).1 (markB (l.take i) a).2 i) (markB l a).2 := by
  refine down ?_ ?_
  ·refine Ev.succ ?_
   simp only [laws_heldArchiveBoxS.l0, hlen, Int.lt_irrefl, if_false, List.take_length]
   exact Ev.now _
  ·intro i hi ih
   have hi' : (i : Int) < ((markB l a).1.length : Int) := by omega
   obtain ⟨e1, e2⟩ := markB_at l a i hi
   have hb := hx _ (getD_mem z62 hi)
   have hti : (l.take i).length = i := by simp; omega
   have hB := markB_sndL (l.take i) a h0 (fun x hx' => hx x (List.mem_of_mem_take hx')) (by rw [hti]; omega)
   rw [hti] at hB
   have hw : wrap64 ((markB (l.take i) a).2 + 1) = (markB (l.take i) a).2 + 1 := by unfold wrap64; omega
   rw [hw] at e1 e2
   have e3 := markI_snd (l.getD i z62).f1 ((markB (l.take i) a).2 + 1) (by omega) (by omega)
   have e4 := heldIntS_ev (l := (l.getD i z62).f1) (a := (markB (l.take i) a).2 + 1) (by omega) (by omega)
   refine Ev.succ ?_
   simp only [laws_heldArchiveBoxS.l0, if_pos hi', if_pos (Int.natCast_nonneg i), rd_T62, Int.toNat_natCast, e1, if_true, hw, w1 hi (show l.length ≤ 9223372036854775807 by omega)]
   refine Ev.bind e4 ?_
   rw [e2, e3] at ih
   simp only [if_neg (show ¬ (markB (l.take i) a).2 + 1 + ((l.getD i z62).f1.length : Int) < 0 by omega)]
   exact ih
 simpa [laws_heldArchiveBoxS.f, markB] using key 0 (by omega)
end Go.Proofs.Ytoadgikbbigdlaa.M
