import Derived.Test.YtoadgikbbigdlaaMsBPS
namespace Go.Proofs.Ytoadgikbbigdlaa.B
open Go.RowKit Go.Proofs.YtoadgikbbigdlaaW.PrintWords Go.Proofs.YtoadgikbbigdlaaW.PrintLast Go.Proofs.YtoadgikbbigdlaaW.PrintMore
set_option linter.unusedVariables false
theorem findI_ge {α : Type} (p : α → Bool) : ∀ (l : List α) (i : Int),0 ≤ i → (0 ≤ findI p l i ↔ l.any p = true)
 | [],i,_ => by simp [findI]
 | x :: t,i,h => by
  unfold findI;by_cases hp : p x = true
  ·simp [hp,h]
  ·simp [hp,findI_ge p t (i + 1) (by omega)]
theorem l26Find_ev {l : List S50} (n : Int) (hl : l.length ≤ 9223372036854775807) : Ev (fun k => spec_l26Find.f k l n) (findI (fun x => x.f0 == n) l 0) := by
 have key : ∀ i,i ≤ l.length → Ev (fun k => spec_l26Find.l0 k l n i) (findI (fun x => x.f0 == n) (l.drop i) i) := by
  refine down ?_ ?_
  ·refine Ev.succ ?_;simp only [spec_l26Find.l0,Int.lt_irrefl,if_false,findI_end];exact Ev.now _
  ·intro i hi ih;have hi' : (i : Int) < (l.length : Int) := by omega
   refine Ev.succ ?_;simp only [spec_l26Find.l0,if_pos hi',if_pos (Int.natCast_nonneg i),rd_T50,Int.toNat_natCast,w1 hi hl];rw [findI_drop _ l z50 i hi];by_cases h : (l.getD i z50).f0 = n
   ·simp only [h,if_true,beq_self_eq_true];exact Ev.now _
   ·simp only [if_neg h,beq_iff_eq];exact ih
 exact key 0 (by omega)
theorem l1Has_ev {l : List Int} (n : Int) (hl : l.length ≤ 9223372036854775807) : Ev (fun k => spec_l1Has.f k l n) (l.any (· == n)) := by
 have key : ∀ i,i ≤ l.length → Ev (fun k => spec_l1Has.l0 k l n i) ((l.drop i).any (· == n)) := by
  refine down ?_ ?_
  ·refine Ev.succ ?_;simp only [spec_l1Has.l0,Int.lt_irrefl,if_false,List.drop_length,List.any_nil];exact Ev.now _
  ·intro i hi ih;have hi' : (i : Int) < (l.length : Int) := by omega
   refine Ev.succ ?_;simp only [spec_l1Has.l0,if_pos hi',if_pos (Int.natCast_nonneg i),rd,Int.toNat_natCast,w1 hi hl];rw [drop_cons 0 hi,List.any_cons];by_cases h : l.getD i 0 = n
   ·simp only [h,if_true,beq_self_eq_true,Bool.true_or];exact Ev.now _
   ·simp only [if_neg h,beq_eq_false_iff_ne.2 h,Bool.false_or];exact ih
 exact key 0 (by omega)
theorem l26Box_ev {l : List S62} (n : Int) (hl : l.length ≤ 9223372036854775807) (hx : ∀ x ∈ l,x.f1.length ≤ 9223372036854775807) : Ev (fun k => spec_l26Box.f k l n) (findI (fun x => x.f1.any (· == n)) l 0) := by
 have key : ∀ i,i ≤ l.length → Ev (fun k => spec_l26Box.l0 k l n i) (findI (fun x => x.f1.any (· == n)) (l.drop i) i) := by
  refine down ?_ ?_
  ·refine Ev.succ ?_;simp only [spec_l26Box.l0,Int.lt_irrefl,if_false,findI_end];exact Ev.now _
  ·intro i hi ih;have hi' : (i : Int) < (l.length : Int) := by omega
   refine Ev.succ ?_;simp only [spec_l26Box.l0,if_pos hi',if_pos (Int.natCast_nonneg i),rd_T62,Int.toNat_natCast,w1 hi hl];rw [findI_drop _ l z62 i hi];refine Ev.bind (l1Has_ev n (hx _ (getD_mem z62 hi))) ?_;by_cases h : (l.getD i z62).f1.any (· == n) = true
   ·simp only [if_pos h];exact Ev.now _
   ·simp only [if_neg h];exact ih
 exact key 0 (by omega)
theorem Index_ev {l : List Int} (n : Int) (hl : l.length ≤ 9223372036854775807) : Ev (fun k => slices_Index_int_int.f k l n) (findI (· == n) l 0) := by
 have key : ∀ i,i ≤ l.length → Ev (fun k => slices_Index_int_int.l0 k l n l.length i) (findI (· == n) (l.drop i) i) := by
  refine down ?_ ?_
  ·refine Ev.succ ?_;simp only [slices_Index_int_int.l0,Int.lt_irrefl,if_false,findI_end];exact Ev.now _
  ·intro i hi ih;have hi' : (i : Int) < (l.length : Int) := by omega
   refine Ev.succ ?_;simp only [slices_Index_int_int.l0,if_pos hi',if_pos (Int.natCast_nonneg i),rd,Int.toNat_natCast,w1 hi hl];rw [findI_drop _ l 0 i hi];by_cases h : n = l.getD i 0
   ·simp only [beq_iff_eq,h.symm,if_true];exact Ev.now _
   ·simp only [if_neg h,beq_iff_eq,if_neg (Ne.symm h)];exact ih
 exact key 0 (by omega)
theorem Contains_ev {l : List Int} (n : Int) (hl : l.length ≤ 9223372036854775807) : Ev (fun k => slices_Contains_int_int.f k l n) (l.any (· == n)) := by
 unfold slices_Contains_int_int.f;refine Ev.bind (Index_ev n hl) (Ev.some ?_);rw [Bool.eq_iff_iff,decide_eq_true_iff];exact findI_ge _ l 0 (by omega)
theorem within_eq (a b c : Int) : impl_within.f a b c = some (decide (b ≤ a) && decide (a ≤ c)) := by
 unfold impl_within.f;by_cases h : b ≤ a <;> simp [h]
theorem l1In_eq (a b c : Int) : spec_l1In.f a b c = some (decide (b ≤ a) && decide (a ≤ c)) := by
 unfold spec_l1In.f;by_cases h : b ≤ a <;> simp [h]
theorem areItems_eq (l : List S50) (hl : l.length ≤ 9223372036854775807) : ∀ (k : Nat) (i : Int),0 ≤ i → impl_areItems.l0 k l l l.length i = spec_l26Items.l0 k l i := by
 intro k
 induction k with
 | zero => intro i _; rfl
 | succ k ih =>
  intro i h0;by_cases h1 : i < (l.length : Int)
  ·have hw : wrap64 (i + 1) = i + 1 := by unfold wrap64; omega
   have hn := ih (i + 1) (by omega);simp only [impl_areItems.l0,spec_l26Items.l0,impl_isBoxNumber.f,impl_isMaterial.f,within_eq,l1In_eq,Option.bind_some,if_pos h1,if_pos h0,hw,hn,ge_iff_le]
  ·simp only [impl_areItems.l0,spec_l26Items.l0,if_neg h1]
theorem l1Put_ev {l : List Int} (a : Int) (hl : l.length < 17592186044415) : Ev (fun k => spec_l1Put.f k l a) (put l a) := by
 have key : ∀ i,i ≤ l.length → Ev (fun k => spec_l1Put.l0 k l a i) (l.take i ++ put (l.drop i) a) := by
  refine down ?_ ?_
  ·refine Ev.succ ?_;simp only [spec_l1Put.l0,Int.lt_irrefl,if_false,Option.bind_some,if_pos (Int.natCast_nonneg l.length),if_pos (Int.le_refl (l.length : Int)),Int.toNat_natCast,List.take_length,List.drop_length,List.nil_append,List.append_nil,List.length_nil,List.length_append,List.length_singleton,Nat.zero_add,Nat.add_zero,put];simp only [if_pos (show l.length < 17592186044416 by omega),if_pos (show l.length + 1 < 17592186044416 by omega)];exact Ev.now _
  ·intro i hi ih;have hi' : (i : Int) < (l.length : Int) := by omega
   refine Ev.succ ?_;simp only [spec_l1Put.l0,if_pos hi',if_pos (Int.natCast_nonneg i),rd,Int.toNat_natCast,w1 hi (show l.length ≤ 9223372036854775807 by omega)];rw [drop_cons 0 hi];unfold put;by_cases h1 : l.getD i 0 < a
   ·simp only [if_pos h1];rw [take_snoc 0 hi,List.append_assoc] at ih;exact ih
   ·simp only [if_neg h1];by_cases h2 : l.getD i 0 = a
    ·simp only [if_pos h2];rw [← drop_cons 0 hi,List.take_append_drop];exact Ev.now _
    ·have e1 : (l.take i).length = i := by simp; omega
     rw [← drop_cons 0 hi];simp only [if_neg h2,Option.bind_some,if_pos (show (i : Int) ≤ (l.length : Int) by omega),List.nil_append,List.length_nil,List.length_append,List.length_singleton,Nat.zero_add,e1];simp only [if_pos (show i < 17592186044416 by omega),if_pos (show i + 1 < 17592186044416 by omega),if_pos (show i + 1 + (l.drop i).length < 17592186044416 by rw [List.length_drop]; omega)];exact Ev.some (by simp)
 have h := key 0 (by omega)
 simpa [spec_l1Put.f] using h
end Go.Proofs.Ytoadgikbbigdlaa.B
