import Derived.Test.YtoadgikbbigdlaaPaGPackArchive
import Derived.WalkKit
import Derived.ProofKit
import Derived.OpenShut
import Derived.ShutString
import Derived.ChangeOld
import Derived.Below
import Derived.SizedLaws
import Derived.Deep.Slices
import Derived.ChangeArms
namespace Go.Proofs.Ytoadgikbbigdlaa.A
open Go.RowKit Go.Proofs.YtoadgikbbigdlaaW.PrintWords Go.Proofs.YtoadgikbbigdlaaW.PrintLast Go.Proofs.YtoadgikbbigdlaaW.PrintMore
set_option linter.unusedVariables false
section
variable {H : Type} {enc : TypeId × Value → H} {P : Program} {w : World} {α : Type}
def Rds (enc : TypeId × Value → H) (P : Program) (w : World) (T : TypeId) (d : Kd α) (Q : α → Prop) : Prop :=
 ∀ fuel cs x, DataW.trod enc P w 0 (fun _ => true) true fuel T cs = some x → ∃ a : α, d.K w a cs ∧ Q a
theorem list_of {n : Nat} {p : Nat → α → Prop} (h : ∀ i, i < n → ∃ a, p i a) : ∃ l : List α, l.length = n ∧ ∀ j a, l[j]? = some a → p j a := by
 induction n with
 | zero => exact ⟨[], rfl, fun j a h => by simp at h⟩
 | succ n ih =>
  obtain ⟨l, hl, hp⟩ := ih (fun i hi => h i (by omega))
  obtain ⟨a, ha⟩ := h n (by omega)
  refine ⟨l ++ [a], by simp [hl], fun j b hb => ?_⟩
  rcases Nat.lt_or_ge j n with hj | hj
  ·rw [List.getElem?_append_left (by omega)] at hb
   exact hp j b hb
  ·rw [List.getElem?_append_right (by omega)] at hb
   have : j - l.length = 0 := by
    have := (List.getElem?_eq_some_iff.1 hb).1
    simp at this
    omega
   rw [this] at hb
   simp at hb
   obtain rfl : j = n := by omega
   rw [← hb]
   exact ha
theorem rds_int {T : TypeId} {k : IntKind} (ht : P.underlying T = some (.int k)) : Rds enc P w T (Kd.int k) (fun n => (Lit.int k n).wf = true) := fun _ _ _ h => by
 obtain ⟨n, rfl, _, hw⟩ := DataW.trod_int ht h
 exact ⟨n, rfl, hw⟩
theorem rds_slice {T E : TypeId} {d : Kd α} {Q : α → Prop} (ht : P.underlying T = some (.slice E)) (hE : P.cellsOf E = d.sz) (h : Rds enc P w E d Q) : Rds enc P w T (Kd.slice E d) (fun l => l.length ≤ 9223372036854775807 ∧ ∀ x ∈ l, Q x) := fun _ _ _ hx => by
 rcases Go.Deep.open_slice ht hx with ⟨rfl, _⟩ | ⟨a, len, cap, m, n, D, Pl, rfl, _, hl, hm, hmc, _, hi⟩
 ·exact ⟨[], ⟨none, 0, rfl, Nat.le_refl _, Kd.C_nil _ _⟩, by simp, fun _ h => by simp at h⟩
 ·have hmc' : m = cap := by simpa using hmc
  obtain ⟨l, hll, hp⟩ := list_of (n := len) (p := fun i x => ∃ cs', w.cells? 0 (a.add (i * P.cellsOf E)) (P.cellsOf E) = some cs' ∧ d.K w x cs' ∧ Q x) (fun i hi' => by
   obtain ⟨cs', h1, h2⟩ := hi i (by omega)
   obtain ⟨x, h3, h4⟩ := h _ _ _ h2
   exact ⟨x, cs', h1, h3, h4⟩)
  refine ⟨l, ⟨some a, cap, by rw [hll], by omega, rfl, ?_, fun _ => ⟨a, rfl, fun j p hj => ?_⟩⟩, ?_, fun x hx => ?_⟩
  ·rw [hll]
   simp only [maxLen] at hm
   omega
  ·obtain ⟨cs', h1, h2, _⟩ := hp j p hj
   obtain ⟨_, hlen, hc⟩ := World.cells?_some h1
   refine ⟨cs', by rw [hlen, hE], h2, fun i u hu => ?_⟩
   have hi' : i < P.cellsOf E := by
    have := (List.getElem?_eq_some_iff.1 hu).1
    omega
   rw [← hE, ← Go.Deep.add_add, hc i hi', hu]
  ·rw [hll]
   simp only [maxLen] at hm
   omega
  ·obtain ⟨j, hj⟩ := List.getElem?_of_mem hx
   obtain ⟨_, _, _, h4⟩ := hp j x hj
   exact h4
theorem rds_arg {T E : TypeId} {d : Kd α} {Q' : List α → Prop} {v : Value} {x : DataW H} {ps : List MemPlace} (h : Rds enc P w T (Kd.slice E d) Q') (ht : DataW.Trod enc P w 0 (fun _ => true) true T v x ps) (hv : ∃ a n c, v = .slice a n c) :
  ∃ A c l, v = .slice A (l : List α).length c ∧ l.length ≤ c ∧ d.C w A l.length l ∧ Q' l := by
 obtain ⟨a, n, c, rfl⟩ := hv
 obtain ⟨fuel, hf⟩ := ht
 obtain ⟨l, ⟨A, c', he, hl, hC⟩, hQ⟩ := h _ _ _ hf
 simp [Value.cells] at he
 obtain ⟨rfl, rfl, rfl⟩ := he
 exact ⟨_, _, l, rfl, hl, hC, hQ⟩
theorem len_cons {β : Type} {l : List β} {n : Nat} (h : l.length = n + 1) : ∃ a t, l = a :: t ∧ t.length = n := by
 match l, h with
 | a :: t, h => exact ⟨a, t, rfl, by simpa using h⟩
theorem fld {fs : Array Field} {n : Nat} {cs cs' : List Value} {xs : List (DataW H × List MemPlace)} {y : DataW H × List MemPlace} (hf : ∀ (i : Nat) (f : Field), fs[i]? = some f → DataW.trod enc P w 0 (fun _ => true) true n f.type ((cs.drop f.offset).take (P.cellsOf f.type)) = xs[i]?)
  (i : Nat) (T : TypeId) (o z : Nat) (h1 : (fs[i]?).map (fun f => (f.type, f.offset)) = some (T, o)) (h2 : P.cellsOf T = z) (h3 : (cs.drop o).take z = cs') (h4 : xs[i]? = some y) : DataW.trod enc P w 0 (fun _ => true) true n T cs' = some y := by
 obtain ⟨f, h5, h6⟩ := Option.map_eq_some_iff.1 h1
 obtain ⟨rfl, rfl⟩ := Prod.mk.inj h6
 have h7 := hf i f h5
 rw [h2, h3, h4] at h7
 exact h7
end
def Q65 (x : S65) : Prop := (fun n : Int => (Lit.int .i64 n).wf = true) x.f0 ∧ (fun n : Int => (Lit.int .i64 n).wf = true) x.f1 ∧ (fun n : Int => (Lit.int .i64 n).wf = true) x.f2
theorem rds_S65 {H : Type} {enc : TypeId × Value → H} {w : World} : Rds enc Try.prog w 65 k65 Q65 := fun _ cs _ h => by
 obtain ⟨xs, n, _, _, hl, hlen, hf⟩ := DataW.trod_struct Try.underlying65 h
 have g0 : cs.length = 3 := hl.trans (by kernel_rfl)
 have z0 : xs.length = 3 := hlen.trans (by kernel_rfl)
 obtain ⟨c0, r0, rfl, g1⟩ := len_cons g0
 obtain ⟨c1, r1, rfl, g2⟩ := len_cons g1
 obtain ⟨c2, r2, rfl, g3⟩ := len_cons g2
 obtain rfl := List.length_eq_zero_iff.1 g3
 obtain ⟨y0, u0, rfl, z1⟩ := len_cons z0
 obtain ⟨y1, u1, rfl, z2⟩ := len_cons z1
 obtain ⟨y2, u2, rfl, z3⟩ := len_cons z2
 obtain rfl := List.length_eq_zero_iff.1 z3
 have h0 := fld hf 0 3 0 1 (cs' := [c0]) (y := y0) (by kernel_rfl) (by kernel_rfl) rfl rfl
 obtain ⟨a0, k0, q0⟩ := (rds_int Try.underlying3) _ _ _ h0
 have h1 := fld hf 1 3 1 1 (cs' := [c1]) (y := y1) (by kernel_rfl) (by kernel_rfl) rfl rfl
 obtain ⟨a1, k1, q1⟩ := (rds_int Try.underlying3) _ _ _ h1
 have h2 := fld hf 2 3 2 1 (cs' := [c2]) (y := y2) (by kernel_rfl) (by kernel_rfl) rfl rfl
 obtain ⟨a2, k2, q2⟩ := (rds_int Try.underlying3) _ _ _ h2
 exact ⟨⟨a0, a1, a2⟩, ⟨[c0], [c1, c2], rfl, k0, ⟨[c1], [c2], rfl, k1, k2⟩⟩, ⟨q0, q1, q2⟩⟩
end Go.Proofs.Ytoadgikbbigdlaa.A
