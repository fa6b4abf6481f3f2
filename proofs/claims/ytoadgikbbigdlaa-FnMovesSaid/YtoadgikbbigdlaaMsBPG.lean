import Derived.Test.YtoadgikbbigdlaaMsBPV
namespace Go.Proofs.Ytoadgikbbigdlaa.B
open Go.RowKit Go.Proofs.YtoadgikbbigdlaaW.PrintWords Go.Proofs.YtoadgikbbigdlaaW.PrintLast Go.Proofs.YtoadgikbbigdlaaW.PrintMore
set_option linter.unusedVariables false
theorem impl_fits_ev {l0 : List S50} (hI : ItemsOK l0) (ins : List Int) (n cap : Int) (hins : ∀ m ∈ ins,0 ≤ ix l0 m) (hn : 0 ≤ ix l0 n) (hl : ins.length ≤ 4194304) :
  ∃ b,Ev (fun k => impl_fits.f k l0 (ins.map (ix l0)) (ix l0 n) cap) b ∧ (b = true ↔ (∀ m ∈ ins,shareB (mt l0 m) (mt l0 n) = true) ∧ wt l0 n + sumW l0 ins ≤ cap) := by
 obtain ⟨jn,hjn,en,_⟩ := ix_known hn;have hL := hI.1;have key : ∀ i,i ≤ ins.length → ∀ s : Int,s = wt l0 n + sumW l0 (ins.take i) → ∃ b,Ev (fun k => impl_fits.l0 k l0 (ix l0 n) cap s (ins.map (ix l0)) ins.length i) b ∧ (b = true ↔ (∀ m ∈ ins.drop i,shareB (mt l0 m) (mt l0 n) = true) ∧ s + sumW l0 (ins.drop i) ≤ cap) := by
  refine down ?_ ?_
  ·intro s hs;refine ⟨decide (s ≤ cap),Ev.succ ?_,?_⟩
   ·simp only [impl_fits.l0,Int.lt_irrefl,if_false];exact Ev.now _
   ·simp [sumW]
  ·intro i hi ih s hs;have hi' : (i : Int) < (ins.length : Int) := by omega
   have hm : 0 ≤ ix l0 (ins.getD i 0) := hins _ (getD_mem 0 hi);obtain ⟨j,hj,e,_⟩ := ix_known hm;have hrd : rd (ins.map (ix l0)) (i : Int) = (j : Int) := by
    have : (ins.map (ix l0)).getD i 0 = ix l0 (ins.getD i 0) := by
     simp [List.getD_eq_getElem?_getD,List.getElem?_eq_getElem hi]
    simp only [rd,Int.toNat_natCast];rw [this,e]
   have hw := wt_ok hI hm;have hb := sumW_bound hI (ins.take i) (fun m hm => hins m (List.mem_of_mem_take hm));have hwn := wt_ok hI hn;have hti : (ins.take i).length = i := by simp; omega
   have hs1 : wrap64 (s + (l0.getD j z50).f2) = s + wt l0 (ins.getD i 0) := by
    have : wt l0 (ins.getD i 0) = (l0.getD j z50).f2 := by unfold wt; rw [e,Int.toNat_natCast]
    rw [← this];unfold wrap64;omega
   obtain ⟨b,hb1,hb2⟩ := ih (s + wt l0 (ins.getD i 0)) (by rw [take_snoc 0 hi,sumW_snoc,hs]; omega);have hmt : mt l0 (ins.getD i 0) = (l0.getD j z50).f1 := by unfold mt; rw [e,Int.toNat_natCast]
   have hmn : mt l0 n = (l0.getD jn z50).f1 := by unfold mt; rw [en,Int.toNat_natCast]
   rw [drop_cons 0 hi,sumW_cons];by_cases hsh : shareB (mt l0 (ins.getD i 0)) (mt l0 n) = true
   ·refine ⟨b,Ev.succ ?_,?_⟩
    ·simp only [impl_fits.l0,List.length_map,if_pos hi',if_pos (Int.natCast_nonneg i),hrd,if_pos (Int.natCast_nonneg j),if_pos (show (j : Int) < (l0.length : Int) by omega),en,if_pos (Int.natCast_nonneg jn),if_pos (show (jn : Int) < (l0.length : Int) by omega),mayShare_eq,Option.bind_some,rd_T50,Int.toNat_natCast,← hmt,← hmn,hsh,if_true,hs1,w1 hi (show ins.length ≤ 9223372036854775807 by omega)];rw [en] at hb1;exact hb1
    ·rw [hb2];simp only [List.mem_cons,forall_eq_or_imp,hsh,true_and]
     constructor
     ·rintro ⟨a,b⟩; exact ⟨a,by omega⟩
     ·rintro ⟨a,b⟩; exact ⟨a,by omega⟩
   ·refine ⟨false,Ev.succ ?_,?_⟩
    ·simp only [impl_fits.l0,List.length_map,if_pos hi',if_pos (Int.natCast_nonneg i),hrd,if_pos (Int.natCast_nonneg j),if_pos (show (j : Int) < (l0.length : Int) by omega),en,if_pos (Int.natCast_nonneg jn),if_pos (show (jn : Int) < (l0.length : Int) by omega),mayShare_eq,Option.bind_some,rd_T50,Int.toNat_natCast,← hmt,← hmn];simp only [if_neg hsh];exact Ev.now _
    ·simp only [Bool.false_eq_true,false_iff,List.mem_cons,forall_eq_or_imp];exact fun h => hsh h.1.1
 obtain ⟨b,h1,h2⟩ := key 0 (by omega) (wt l0 n) (by simp [sumW]);refine ⟨b,?_,by simpa using h2⟩;unfold impl_fits.f;have e1 : ((rd_T50 l0 (ix l0 n)).f2) = wt l0 n := rfl;simp only [if_pos hn,if_pos (show ix l0 n < (l0.length : Int) by omega),e1,List.length_map];exact h1
theorem l26Find_ix {l0 : List S50} (hI : ItemsOK l0) (n : Int) : Ev (fun k => spec_l26Find.f k l0 n) (ix l0 n) := l26Find_ev n (by have := hI.1; omega)
theorem spec_fits_ev {l0 : List S50} (hI : ItemsOK l0) (ns : List Int) (cap : Int) (hns : ∀ m ∈ ns,0 ≤ ix l0 m) (hl : ns.length ≤ 4194304) :
  ∃ b,Ev (fun k => spec_l26Fits.f k l0 ns cap) b ∧ (b = true ↔ (∀ i j,i < j → j < ns.length → shareB (mt l0 (ns.getD j 0)) (mt l0 (ns.getD i 0)) = true) ∧ sumW l0 ns ≤ cap) := by
 have hL := hI.1;have key : ∀ i,i ≤ ns.length → ∀ s : Int,s = sumW l0 (ns.take i) → ∃ b,Ev (fun k => spec_l26Fits.l0 k l0 ns cap s i) b ∧ (b = true ↔ (∀ j,i ≤ j → j < ns.length → ∀ p,p < j → shareB (mt l0 (ns.getD j 0)) (mt l0 (ns.getD p 0)) = true) ∧ s + sumW l0 (ns.drop i) ≤ cap) := by
  refine down ?_ ?_
  ·intro s hs;refine ⟨decide (s ≤ cap),Ev.succ ?_,?_⟩
   ·simp only [spec_l26Fits.l0,Int.lt_irrefl,if_false];exact Ev.now _
   ·simp [sumW];intro _ j h1 h2;omega
  ·intro i hi ih s hs;have hi' : (i : Int) < (ns.length : Int) := by omega
   have hm : 0 ≤ ix l0 (ns.getD i 0) := hns _ (getD_mem 0 hi);obtain ⟨j,hj,e,_⟩ := ix_known hm;have hw := wt_ok hI hm;have hb := sumW_bound hI (ns.take i) (fun m hm => hns m (List.mem_of_mem_take hm));have hti : (ns.take i).length = i := by simp; omega
   have hs1 : wrap64 (s + (l0.getD j z50).f2) = s + wt l0 (ns.getD i 0) := by
    have : wt l0 (ns.getD i 0) = (l0.getD j z50).f2 := by unfold wt; rw [e,Int.toNat_natCast]
    rw [← this];unfold wrap64;omega
   have hmt : mt l0 (ns.getD i 0) = (l0.getD j z50).f1 := by unfold mt; rw [e,Int.toNat_natCast]
   obtain ⟨b,hb1,hb2⟩ := ih (s + wt l0 (ns.getD i 0)) (by rw [take_snoc 0 hi,sumW_snoc,hs]);have inner : ∀ p,p ≤ i → ∃ b,Ev (fun k => spec_l26Fits.l1 k l0 ns cap (s + wt l0 (ns.getD i 0)) i p (l0.getD j z50).f0 (l0.getD j z50).f1 (l0.getD j z50).f2) b ∧ (b = true ↔ (∀ q,p ≤ q → q < i → shareB (mt l0 (ns.getD i 0)) (mt l0 (ns.getD q 0)) = true) ∧ (∀ j,i + 1 ≤ j → j < ns.length → ∀ p,p < j → shareB (mt l0 (ns.getD j 0)) (mt l0 (ns.getD p 0)) = true) ∧ s + wt l0 (ns.getD i 0) + sumW l0 (ns.drop (i + 1)) ≤ cap) := by
    refine down ?_ ?_
    ·refine ⟨b,Ev.succ ?_,?_⟩
     ·simp only [spec_l26Fits.l1,Int.lt_irrefl,if_false,w1 hi (show ns.length ≤ 9223372036854775807 by omega)];exact hb1
     ·rw [hb2]
      constructor
      ·exact fun h => ⟨fun q h1 h2 => by omega,h⟩
      ·exact fun h => h.2
    ·intro p hp ihp;have hmp : 0 ≤ ix l0 (ns.getD p 0) := hns _ (getD_mem 0 (by omega));obtain ⟨jp,hjp,ep,_⟩ := ix_known hmp;have hmtp : mt l0 (ns.getD p 0) = (l0.getD jp z50).f1 := by unfold mt; rw [ep,Int.toNat_natCast]
     obtain ⟨b',hb3,hb4⟩ := ihp;have hF := l26Find_ix hI (ns.getD p 0);rw [ep] at hF;by_cases hsh : shareB (mt l0 (ns.getD i 0)) (mt l0 (ns.getD p 0)) = true
     ·refine ⟨b',Ev.succ ?_,?_⟩
      ·simp only [spec_l26Fits.l1,if_pos (show (p : Int) < (i : Int) by omega),if_pos (Int.natCast_nonneg p),if_pos (show (p : Int) < (ns.length : Int) by omega),rd,Int.toNat_natCast];refine Ev.bind hF ?_;simp only [if_pos (Int.natCast_nonneg jp),if_pos (show (jp : Int) < (l0.length : Int) by omega),l26Share_eq,Option.bind_some,rd_T50,Int.toNat_natCast,← hmtp,← hmt,hsh,if_true,w1 hp (show i ≤ 9223372036854775807 by omega)];rw [← hmt] at hb3;exact hb3
      ·rw [hb4]
       constructor
       ·rintro ⟨h1,h2⟩;refine ⟨fun q h3 h4 => ?_,h2⟩;by_cases eq : q = p
        ·subst eq; exact hsh
        ·exact h1 q (by omega) h4
       ·rintro ⟨h1,h2⟩;exact ⟨fun q h3 h4 => h1 q (by omega) h4,h2⟩
     ·refine ⟨false,Ev.succ ?_,?_⟩
      ·simp only [spec_l26Fits.l1,if_pos (show (p : Int) < (i : Int) by omega),if_pos (Int.natCast_nonneg p),if_pos (show (p : Int) < (ns.length : Int) by omega),rd,Int.toNat_natCast];refine Ev.bind hF ?_;simp only [if_pos (Int.natCast_nonneg jp),if_pos (show (jp : Int) < (l0.length : Int) by omega),l26Share_eq,Option.bind_some,rd_T50,Int.toNat_natCast,← hmtp,← hmt];simp only [if_neg hsh];exact Ev.now _
      ·simp only [Bool.false_eq_true,false_iff];exact fun h => hsh (h.1 p (Nat.le_refl _) hp)
   obtain ⟨b',hb3,hb4⟩ := inner 0 (by omega);have hF := l26Find_ix hI (ns.getD i 0);rw [e] at hF;refine ⟨b',Ev.succ ?_,?_⟩
   ·simp only [spec_l26Fits.l0,if_pos hi',if_pos (Int.natCast_nonneg i),rd,Int.toNat_natCast];refine Ev.bind hF ?_;simp only [if_pos (Int.natCast_nonneg j),if_pos (show (j : Int) < (l0.length : Int) by omega),rd_T50,Int.toNat_natCast,hs1];exact hb3
   ·rw [hb4,drop_cons 0 hi,sumW_cons]
    constructor
    ·rintro ⟨h1,h2,h3⟩;refine ⟨fun j h4 h5 p h6 => ?_,by omega⟩;by_cases ej : j = i
     ·subst ej; exact h1 p (by omega) h6
     ·exact h2 j (by omega) h5 p h6
    ·rintro ⟨h1,h2⟩;exact ⟨fun q _ h4 => h1 i (Nat.le_refl _) hi q h4,fun j h4 h5 p h6 => h1 j (by omega) h5 p h6,by omega⟩
 obtain ⟨b,h1,h2⟩ := key 0 (by omega) 0 (by simp [sumW]);refine ⟨b,h1,h2.trans ?_⟩;simp only [List.drop_zero,Int.zero_add]
 constructor
 ·rintro ⟨h3,h4⟩;exact ⟨fun i j hij hj => h3 j (by omega) hj i hij,h4⟩
 ·rintro ⟨h3,h4⟩;exact ⟨fun j _ hj p hp => h3 p j hp hj,h4⟩
end Go.Proofs.Ytoadgikbbigdlaa.B
