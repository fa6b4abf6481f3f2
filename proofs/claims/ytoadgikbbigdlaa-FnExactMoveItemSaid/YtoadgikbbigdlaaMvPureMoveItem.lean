import Derived.Test.YtoadgikbbigdlaaMvMPM
import Derived.Test.YtoadgikbbigdlaaMvMPL
import Derived.Test.YtoadgikbbigdlaaMvRMoveItem
namespace Go.Proofs.Ytoadgikbbigdlaa.M
open Go.RowKit Go.Proofs.YtoadgikbbigdlaaW.PrintWords Go.Proofs.YtoadgikbbigdlaaW.PrintLast Go.Proofs.YtoadgikbbigdlaaW.PrintMore
set_option linter.unusedVariables false
theorem FnExactMoveItem.pure (l0 : List S65) (l1 : List S60) (a2 : Int) (a3 : Int) (a4 : Int) (w0 : (fun l => l.length ≤ 9223372036854775807 ∧ ∀ x ∈ l, Q65 x) l0) (w1 : (fun l => l.length ≤ 9223372036854775807 ∧ ∀ x ∈ l, Q60 x) l1) (_ : (fun n : Int => (Lit.int .i64 n).wf = true) a2) (_ : (fun n : Int => (Lit.int .i64 n).wf = true) a3) (_ : (fun n : Int => (Lit.int .i64 n).wf = true) a4) : ∃ K, FnExactMoveItem.Goal K l0 l1 a2 a3 a4 := by
 obtain ⟨L0, _⟩ := w0
 obtain ⟨L1, X1⟩ := w1
 rcases szItemS_le (l := l0) (a := 1048576) (by omega) (by omega) L0 with e1 | ⟨s1, e1, p1, b1, c1⟩
 ·exact ⟨0, .inl ⟨_, e1, by omega⟩⟩
 rcases szArchiveBoxS_le (l := l1) (a := s1) (by omega) p1 L1 (fun x hx => (X1 x hx).2.1) with ⟨K, e2⟩ | ⟨s3, e2, p2, b2, c2, d2⟩
 ·exact ⟨K, .inr (.inl ⟨s1, _, e1, e2 K (Nat.le_refl _), p1, by omega⟩)⟩
 have hx0 : ((l0.map cv65).length : Int) ≤ 1048576 := by simpa using c1
 have hx1 : ((l1.map cv60).length : Int) ≤ 1048576 := by simp; omega
 have hx2 : ∀ x ∈ l1.map cv60, (x.f1.length : Int) ≤ 1048576 := by
  intro x hx
  obtain ⟨y, hy, rfl⟩ := List.mem_map.1 hx
  have := d2 y hy
  simp only [cv60]
  omega
 obtain ⟨r, b, hr, hrx, E1, E2⟩ := move_sides hx0 hx1 hx2 a2 a3 a4
 obtain ⟨t51, E3⟩ := markItemS_ev (l := l0.map cv65) (a := 1) (by omega) (by omega)
 obtain ⟨K0, a0⟩ := e2
 obtain ⟨K1, q1⟩ := toItemS_ev (l := l0) (by omega)
 obtain ⟨K2, q2⟩ := toArchiveBoxS_ev (l := l1) (by omega) (fun x hx => by have := d2 x hx; omega)
 obtain ⟨K3, q3⟩ := E1
 obtain ⟨K4, q4⟩ := E2
 obtain ⟨K5, q5⟩ := eqArchiveBoxS_ev (l := r) (by omega) (fun x hx => by have := hrx x hx; omega)
 obtain ⟨K7, q7⟩ := eqItemS_ev (l := l0.map cv65) (by omega)
 obtain ⟨K8, q8⟩ := eqArchiveBoxS_ev (l := l1.map cv60) (by omega) (fun x hx => by have := hx2 x hx; omega)
 obtain ⟨K9, q9⟩ := E3
 obtain ⟨K10, q10⟩ := heldArchiveBoxS_ev (l := r) (a := 1) (by omega) hrx (by omega)
 have M := markB_snd (l1.map cv60) (1 + 3 * (l0.map cv65).length) (by omega) hx2 (by omega)
 have M2 := markB_sndL r 1 (by omega) hrx (by omega)
 obtain ⟨K, hK⟩ : ∃ K, K0 ≤ K ∧ K1 ≤ K ∧ K2 ≤ K ∧ K3 ≤ K ∧ K4 ≤ K ∧ K5 ≤ K ∧ K7 ≤ K ∧ K8 ≤ K ∧ K9 ≤ K ∧ K10 ≤ K := ⟨K0 + K1 + K2 + K3 + K4 + K5 + K7 + K8 + K9 + K10, by omega⟩
 exact ⟨K, .inr (.inr ⟨s1, s3, _, _, r, b, _, t51, _, _, _, _, e1, a0 K (by omega), q1 K (by omega), q2 K (by omega), q3 K (by omega), q4 K (by omega), q5 K (by omega), q7 K (by omega), q8 K (by omega), q9 K (by omega), rfl, rfl, q10 K (by omega), p1, p2, by omega, by omega, by omega⟩)⟩
end Go.Proofs.Ytoadgikbbigdlaa.M
