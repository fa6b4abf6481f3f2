import Derived.Test.YtoadgikbbigdlaaMsBPH
namespace Go.Proofs.Ytoadgikbbigdlaa.B
open Go.RowKit Go.Proofs.YtoadgikbbigdlaaW.PrintWords Go.Proofs.YtoadgikbbigdlaaW.PrintLast Go.Proofs.YtoadgikbbigdlaaW.PrintMore
set_option linter.unusedVariables false
theorem impl_outer {l0 : List S50} {l1 : List S62} (hI : ItemsOK l0) (h1 : (l1.length : Int) ≤ 1048576) (hx : ∀ x ∈ l1,(x.f1.length : Int) ≤ 4194304) (cap : Int) (hc0 : 0 ≤ cap) :
  ∀ i,i ≤ l1.length → ∀ (seen : List Int) used,seen.length ≤ i * 4194304 → UsedOK l0 seen used → ∃ b,Ev (fun k => impl_IsValidArchive.l0 k l0 l1 cap (seen.length : Int) used l1 l1.length i) b ∧ (b = true ↔ ALL l0 cap seen (pvo l1 i) (l1.drop i)) := by
 refine down ?_ ?_
 ·intro seen used hs hU;refine ⟨(seen.length : Int) == (l0.length : Int),Ev.succ ?_,?_⟩
  ·simp only [impl_IsValidArchive.l0,Int.lt_irrefl,if_false];exact Ev.now _
  ·rw [List.drop_length,beq_iff_eq];exact Iff.rfl
 ·intro i hi ih seen used hs hU;have hi' : (i : Int) < (l1.length : Int) := by omega
  have hlen := hx _ (getD_mem z62 hi);rw [drop_cons z62 hi];have inner := impl_inner hI (by omega) hx cap i hi seen hs (fun used' hU' => by
   obtain ⟨b,hb,hp⟩ := ih (seen ++ (l1.getD i z62).f1) used' (by rw [List.length_append]; omega) hU';refine ⟨b,hb,hp.trans ?_⟩;rw [show pvo l1 (i + 1) = some (l1.getD i z62).f0 from by simp [pvo]]) 0 (by omega) used (by simpa using hU) ⟨by simp,by simp,by simp,by simpa [sumW] using hc0⟩
  ·obtain ⟨b,hb,hp⟩ := inner;simp only [List.take_zero,List.map_nil,Int.ofNat_zero,Int.add_zero] at hb;have fin : ∀ c : Bool,(c = true ↔ ¬ ((∀ p,pvo l1 i = some p → p < (l1.getD i z62).f0) ∧ (1 ≤ (l1.getD i z62).f0 ∧ (l1.getD i z62).f0 ≤ 9999))) →
     ∃ b,Ev (fun k => impl_IsValidArchive.j2 k l0 l1 cap seen.length used l1 l1.length i c (l1.getD i z62).f0 (l1.getD i z62).f1) b ∧ (b = true ↔ ALL l0 cap seen (pvo l1 i) (l1.getD i z62 :: l1.drop (i + 1))) := by
    intro c hc;cases c with
    | true =>
     refine ⟨false,Ev.succ ?_,?_⟩
     ·simp only [impl_IsValidArchive.j2,if_true];exact Ev.now _
     ·simp only [Bool.false_eq_true,false_iff];exact fun h => hc.1 rfl ⟨h.2.1,h.1⟩
    | false =>
     refine ⟨b,Ev.succ ?_,?_⟩
     ·simp only [impl_IsValidArchive.j2,Bool.false_eq_true,if_false];exact hb
     ·rw [hp];have hc' : (∀ p,pvo l1 i = some p → p < (l1.getD i z62).f0) ∧ (1 ≤ (l1.getD i z62).f0 ∧ (l1.getD i z62).f0 ≤ 9999) := Classical.byContradiction fun h => by have := hc.2 h; cases this
      exact ⟨fun h => ⟨hc'.2,hc'.1,h.1,h.2⟩,fun h => h.2.2⟩
   suffices H : ∃ b,Ev (fun k => impl_IsValidArchive.l0 (k + 1) l0 l1 cap (seen.length : Int) used l1 l1.length i) b ∧ (b = true ↔ ALL l0 cap seen (pvo l1 i) (l1.getD i z62 :: l1.drop (i + 1))) from H.imp fun b hb => ⟨Ev.succ hb.1,hb.2⟩
   simp only [impl_IsValidArchive.l0,if_pos hi',if_pos (Int.natCast_nonneg i),impl_isBoxNumber.f,within_eq,Option.bind_some,rd_T62,Int.toNat_natCast];by_cases c1 : (decide (1 ≤ (l1.getD i z62).f0) && decide ((l1.getD i z62).f0 ≤ 9999)) = true
   ·simp only [if_pos c1];simp only [Bool.and_eq_true,decide_eq_true_eq] at c1;by_cases hp0 : (i : Int) > 0
    ·have e1 : wrap64 ((i : Int) - 1) = ((i - 1 : Nat) : Int) := by unfold wrap64; omega
     simp only [if_pos hp0,e1,if_pos (Int.natCast_nonneg (i - 1)),if_pos (show ((i - 1 : Nat) : Int) < (l1.length : Int) by omega),Int.toNat_natCast];refine fin _ ?_;rw [pvo_lt,decide_eq_true_iff]
     constructor
     ·exact fun h g => by have := g.1 (by omega); omega
     ·exact fun h => Classical.byContradiction fun g => h ⟨fun _ => by omega,c1⟩
    ·simp only [if_neg hp0];refine fin _ ?_;rw [pvo_lt];simp only [Bool.false_eq_true,false_iff,Classical.not_not];exact ⟨fun h => by omega,c1⟩
   ·simp only [if_neg c1];refine fin _ ?_;simp only [Bool.and_eq_true,decide_eq_true_eq] at c1;simp only [true_iff];exact fun h => c1 h.2
theorem Rising_ev {ns : List Int} (hl : ns.length ≤ 9223372036854775807) : ∃ b,Ev (fun k => spec_l1Rising.f k ns 1 9999) b ∧ (b = true ↔ ns.Pairwise (· < ·) ∧ ∀ n ∈ ns,1 ≤ n ∧ n ≤ 9999) := by
 have key : ∀ i,i ≤ ns.length → ∃ b,Ev (fun k => spec_l1Rising.l0 k ns 1 9999 i) b ∧ (b = true ↔ ∀ j,i ≤ j → j < ns.length → (1 ≤ ns.getD j 0 ∧ ns.getD j 0 ≤ 9999) ∧ (0 < j → ns.getD (j - 1) 0 < ns.getD j 0)) := by
  refine down ?_ ?_
  ·refine ⟨true,Ev.succ ?_,?_⟩
   ·simp only [spec_l1Rising.l0,Int.lt_irrefl,if_false];exact Ev.now _
   ·simp only [true_iff];exact fun j h1 h2 => by omega
  ·intro i hi ih;have hi' : (i : Int) < (ns.length : Int) := by omega
   obtain ⟨b,hb,hp⟩ := ih;have no : ∀ q : Prop,¬ q → ∃ b,Ev (fun _ : Nat => some false) b ∧ (b = true ↔ q) := fun q hq => ⟨false,Ev.now _,by simp [hq]⟩
   suffices H : ∃ b,Ev (fun k => spec_l1Rising.l0 (k + 1) ns 1 9999 i) b ∧ (b = true ↔ ∀ j,i ≤ j → j < ns.length → (1 ≤ ns.getD j 0 ∧ ns.getD j 0 ≤ 9999) ∧ (0 < j → ns.getD (j - 1) 0 < ns.getD j 0)) from H.imp fun b hb => ⟨Ev.succ hb.1,hb.2⟩
   simp only [spec_l1Rising.l0,if_pos hi',if_pos (Int.natCast_nonneg i),l1In_eq,Option.bind_some,rd,Int.toNat_natCast,w1 hi hl];by_cases c1 : (decide (1 ≤ ns.getD i 0) && decide (ns.getD i 0 ≤ 9999)) = true
   ·simp only [if_pos c1];simp only [Bool.and_eq_true,decide_eq_true_eq] at c1;have go : (0 < i → ns.getD (i - 1) 0 < ns.getD i 0) → (b = true ↔ ∀ j,i ≤ j → j < ns.length → (1 ≤ ns.getD j 0 ∧ ns.getD j 0 ≤ 9999) ∧ (0 < j → ns.getD (j - 1) 0 < ns.getD j 0)) := by
     intro hlt;rw [hp]
     constructor
     ·intro h j h1 h2;by_cases ej : j = i
      ·subst ej; exact ⟨c1,hlt⟩
      ·exact h j (by omega) h2
     ·exact fun h j h1 h2 => h j (by omega) h2
    by_cases hp0 : (i : Int) > 0
    ·have e1 : wrap64 ((i : Int) - 1) = ((i - 1 : Nat) : Int) := by unfold wrap64; omega
     simp only [if_pos hp0,e1,if_pos (Int.natCast_nonneg (i - 1)),if_pos (show ((i - 1 : Nat) : Int) < (ns.length : Int) by omega),Int.toNat_natCast];by_cases hle : ns.getD (i - 1) 0 ≥ ns.getD i 0
     ·simp only [if_pos hle];exact no _ fun h => by have := (h i (Nat.le_refl _) hi).2 (by omega); omega
     ·simp only [if_neg hle];exact ⟨b,hb,go fun _ => by omega⟩
    ·simp only [if_neg hp0];exact ⟨b,hb,go fun h => by omega⟩
   ·simp only [if_neg c1];simp only [Bool.and_eq_true,decide_eq_true_eq] at c1;exact no _ fun h => c1 (h i (Nat.le_refl _) hi).1
 obtain ⟨b,hb,hp⟩ := key 0 (by omega);refine ⟨b,hb,hp.trans ?_⟩
 constructor
 ·intro h;have step : ∀ j,j + 1 < ns.length → ns.getD j 0 < ns.getD (j + 1) 0 := fun j hj => by simpa using (h (j + 1) (by omega) hj).2 (by omega)
  have far : ∀ d i,i + d + 1 < ns.length → ns.getD i 0 < ns.getD (i + d + 1) 0 := by
   intro d
   induction d with
   | zero => intro i hi; exact step i hi
   | succ d ih =>
    intro i hi;have a := ih i (by omega);have b := step (i + d + 1) (by omega);rw [show i + (d + 1) + 1 = i + d + 1 + 1 from by omega];omega
  refine ⟨List.pairwise_iff_getElem.2 fun i j hi hj hij => ?_,fun n hn => ?_⟩
  ·have := far (j - i - 1) i (by omega);rw [show i + (j - i - 1) + 1 = j from by omega] at this
   simpa [List.getD_eq_getElem?_getD,List.getElem?_eq_getElem hi,List.getElem?_eq_getElem hj] using this
  ·obtain ⟨j,hj,rfl⟩ := List.getElem_of_mem hn;have := (h j (by omega) hj).1
   simpa [List.getD_eq_getElem?_getD,List.getElem?_eq_getElem hj] using this
 ·rintro ⟨h1,h2⟩ j _ hj;refine ⟨h2 _ (getD_mem 0 hj),fun hj0 => ?_⟩;have := List.pairwise_iff_getElem.1 h1 (j - 1) j (by omega) hj (by omega)
  simpa [List.getD_eq_getElem?_getD,List.getElem?_eq_getElem hj,List.getElem?_eq_getElem (show j - 1 < ns.length by omega)] using this
theorem findI_first {α : Type} (z : α) (p : α → Bool) : ∀ (l : List α) (i : Int) (j : Nat),j < l.length → p (l.getD j z) = true → (findI p l i = i + j ↔ ∀ x ∈ l.take j,¬ p x = true)
 | [],_,_,h,_ => by simp at h
 | x :: t,i,0,_,hp => by
  have : p x = true := by simpa using hp
  simp [findI,this]
 | x :: t,i,j + 1,h,hp => by
  unfold findI;by_cases hx : p x = true
  ·simp only [if_pos hx,List.take_succ_cons,List.mem_cons,forall_eq_or_imp]
   constructor
   ·intro e; push_cast at e; omega
   ·exact fun h => absurd hx h.1
  ·simp only [if_neg hx,List.take_succ_cons,List.mem_cons,forall_eq_or_imp];have := findI_first z p t (i + 1) j (by simpa using h) (by simpa using hp);rw [show i + ((j + 1 : Nat) : Int) = i + 1 + (j : Int) from by push_cast; omega,this];exact ⟨fun h => ⟨hx,h⟩,fun h => h.2⟩
end Go.Proofs.Ytoadgikbbigdlaa.B
