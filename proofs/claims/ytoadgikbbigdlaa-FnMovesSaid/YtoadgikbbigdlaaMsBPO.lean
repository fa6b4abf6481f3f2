import Derived.Test.YtoadgikbbigdlaaMsBPG
namespace Go.Proofs.Ytoadgikbbigdlaa.B
open Go.RowKit Go.Proofs.YtoadgikbbigdlaaW.PrintWords Go.Proofs.YtoadgikbbigdlaaW.PrintLast Go.Proofs.YtoadgikbbigdlaaW.PrintMore
set_option linter.unusedVariables false
def insr {α : Type} (p : α → Bool) (x : α) : List α → List α → List α
 | [],B => x :: B
 | y :: R,B => if p y = true then insr p x R (y :: B) else (y :: R).reverse ++ x :: B
theorem insr_perm {α : Type} (p : α → Bool) (x : α) : ∀ (R B : List α),(insr p x R B).Perm (x :: (R ++ B))
 | [],B => List.Perm.refl _
 | y :: R,B => by
  unfold insr
  split
  ·refine (insr_perm p x R (y :: B)).trans ?_;refine List.Perm.cons x ?_;exact List.perm_middle
  ·refine List.perm_middle.trans (List.Perm.cons x ?_);exact List.Perm.append_right B (List.reverse_perm _)
def ordN (l0 : List S50) : Nat → List Nat
 | 0 => []
 | i + 1 => insr (fun a => decide ((l0.getD a z50).f2 < (l0.getD i z50).f2)) i (ordN l0 i).reverse []
theorem ordN_perm (l0 : List S50) : ∀ i,(ordN l0 i).Perm (List.range i)
 | 0 => List.Perm.refl _
 | i + 1 => by
  refine (insr_perm _ i _ []).trans ?_;rw [List.append_nil,List.range_succ];refine List.Perm.trans (List.Perm.cons i ((List.reverse_perm _).trans (ordN_perm l0 i))) ?_;exact (List.perm_append_singleton i _).symm
theorem ordN_lt (l0 : List S50) {i a : Nat} (h : a ∈ ordN l0 i) : a < i := by
 have := (ordN_perm l0 i).mem_iff.1 h
 simpa using this
theorem ordN_len (l0 : List S50) (i : Nat) : (ordN l0 i).length = i := by
 rw [(ordN_perm l0 i).length_eq,List.length_range]
def nm (l0 : List S50) (j : Nat) : Int := (l0.getD j z50).f0
theorem spec_back {l0 : List S50} (hI : ItemsOK l0) (i : Nat) (hi : i < l0.length) (r : List Int) : ∀ (R B : List Nat),(∀ a ∈ R,a < l0.length) → R.length + B.length ≤ 12 →
  Ev (fun k => spec_l26Order.l0 k l0 ((insr (fun a => decide ((l0.getD a z50).f2 < (l0.getD i z50).f2)) i R B).map (nm l0)) ((i + 1 : Nat) : Int)) r →
  Ev (fun k => spec_l26Order.l1 k l0 ((R.reverse ++ B).map (nm l0)) i (R.length : Int)) r
 | R,B,hR,hlen,h => by
  have hL := hI.1;have hi' : (i : Int) < (l0.length : Int) := by omega
  have hw1 : wrap64 ((i : Int) + 1) = ((i + 1 : Nat) : Int) := w1 hi (by omega);have stop : ∀ (R B : List Nat),R.length + B.length ≤ 12 → Ev (fun k => spec_l26Order.l0 k l0 ((R.reverse ++ i :: B).map (nm l0)) ((i + 1 : Nat) : Int)) r → Ev (fun k => (some (([] : List Int) : List Int)).bind fun y202 => (if 0 ≤ (R.length : Int) then (if (R.length : Int) ≤ (((R.reverse ++ B).map (nm l0)).length : Int) then ((some (((R.reverse ++ B).map (nm l0)).take ((R.length : Int) : Int).toNat : List Int)).bind fun y205 => (if y202.length + y205.length < 17592186044416 then ((some (y202 ++ y205 : List Int)).bind fun y210 => ((some (([(rd_T50 l0 i).f0] : List Int) : List Int)).bind fun y214 => (if y210.length + y214.length < 17592186044416 then ((some (y210 ++ y214 : List Int)).bind fun y217 => ((some (((R.reverse ++ B).map (nm l0)).drop ((R.length : Int) : Int).toNat : List Int)).bind fun y220 => (if y217.length + y220.length < 17592186044416 then (spec_l26Order.l0 k l0 (y217 ++ y220) (wrap64 ((i : Int) + 1))) else (none)))) else (none)))) else (none))) else (none)) else (none))) r := by
   intro R B hlen h;have e1 : ((R.reverse ++ B).map (nm l0)).take R.length = R.reverse.map (nm l0) := by rw [List.map_append,List.take_left' (by simp)]
   have e2 : ((R.reverse ++ B).map (nm l0)).drop R.length = B.map (nm l0) := by rw [List.map_append,List.drop_left' (by simp)]
   simp only [Option.bind_some,if_pos (Int.natCast_nonneg R.length),Int.toNat_natCast,e1,e2,hw1,List.nil_append,List.length_nil,Nat.zero_add,List.length_map,List.length_append,List.length_reverse,List.length_singleton];simp only [if_pos (show (R.length : Int) ≤ ((R.length + B.length : Nat) : Int) by omega),if_pos (show R.length < 17592186044416 by omega),if_pos (show R.length + 1 < 17592186044416 by omega),if_pos (show R.length + 1 + B.length < 17592186044416 by omega)];rw [List.map_append,List.map_cons] at h
   simpa [rd_T50,nm] using h
  cases R with
  | nil =>
   refine Ev.succ ?_;simp only [spec_l26Order.l1,List.length_nil];rw [show ((0 : Nat) : Int) = 0 from rfl];simp only [Int.lt_irrefl,gt_iff_lt,if_false];have h2 := stop [] B hlen (by simpa [insr] using h);simp only [List.length_nil,Int.natCast_nonneg,if_true,hi',if_pos] at h2 ⊢;exact h2
  | cons y R =>
   have hy := hR y (by simp);have e3 : wrap64 (((y :: R).length : Int) - 1) = (R.length : Int) := by simp only [List.length_cons]; simp only [List.length_cons] at hlen; unfold wrap64; omega
   have e4 : rd (((y :: R).reverse ++ B).map (nm l0)) (R.length : Int) = nm l0 y := by
    simp only [rd,Int.toNat_natCast,List.reverse_cons,List.map_append,List.append_assoc];rw [List.getD_eq_getElem?_getD,List.getElem?_append_right (by simp)];simp
   have hF := l26Find_ix hI (nm l0 y);rw [show ix l0 (nm l0 y) = (y : Int) from ix_of hI hy] at hF;refine Ev.succ ?_;simp only [spec_l26Order.l1,gt_iff_lt,if_pos (show (0 : Int) < ((y :: R).length : Int) by simp only [List.length_cons]; omega),e3,if_pos (Int.natCast_nonneg R.length),e4];refine Ev.pos (show (R.length : Int) < ((((y :: R).reverse ++ B).map (nm l0)).length : Int) by simp; omega) ?_;refine Ev.bind hF ?_;simp only [if_pos (Int.natCast_nonneg y),if_pos (show (y : Int) < (l0.length : Int) by omega),if_pos (Int.natCast_nonneg i),if_pos hi',rd_T50,Int.toNat_natCast];by_cases hp : (l0.getD y z50).f2 < (l0.getD i z50).f2
   ·refine Ev.pos hp ?_;have h2 : Ev (fun k => spec_l26Order.l0 k l0 ((insr (fun a => decide ((l0.getD a z50).f2 < (l0.getD i z50).f2)) i R (y :: B)).map (nm l0)) ((i + 1 : Nat) : Int)) r := by
     simpa only [insr,decide_eq_true hp,if_true] using h
    have := spec_back hI i hi r R (y :: B) (fun a ha => hR a (by simp [ha])) (by simp only [List.length_cons] at hlen ⊢; omega) h2
    simpa using this
   ·refine Ev.neg hp ?_;have h2 := stop (y :: R) B hlen (by simpa only [insr,decide_eq_false hp,Bool.false_eq_true,if_false] using h)
    simpa only [rd_T50,Int.toNat_natCast] using h2
termination_by R => R.length
theorem spec_order_ev {l0 : List S50} (hI : ItemsOK l0) : Ev (fun k => spec_l26Order.f k l0) ((ordN l0 l0.length).map (nm l0)) := by
 have hL := hI.1;have key : ∀ i,i ≤ l0.length → Ev (fun k => spec_l26Order.l0 k l0 ((ordN l0 i).map (nm l0)) i) ((ordN l0 l0.length).map (nm l0)) := by
  refine down ?_ ?_
  ·refine Ev.succ ?_;simp only [spec_l26Order.l0,Int.lt_irrefl,if_false];exact Ev.now _
  ·intro i hi ih;have hi' : (i : Int) < (l0.length : Int) := by omega
   refine Ev.succ ?_;simp only [spec_l26Order.l0,if_pos hi'];have h := spec_back hI i hi _ (ordN l0 i).reverse [] (fun a ha => by have := ordN_lt l0 (List.mem_reverse.1 ha); omega) (by simp [ordN_len]; omega) ih
   simpa [ordN_len] using h
 exact key 0 (by omega)
section
open Go.Sort
end
end Go.Proofs.Ytoadgikbbigdlaa.B
