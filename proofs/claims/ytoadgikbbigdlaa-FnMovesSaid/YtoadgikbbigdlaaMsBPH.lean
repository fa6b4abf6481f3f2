import Derived.Test.YtoadgikbbigdlaaMsBPG
namespace Go.Proofs.Ytoadgikbbigdlaa.B
open Go.RowKit Go.Proofs.YtoadgikbbigdlaaW.PrintWords Go.Proofs.YtoadgikbbigdlaaW.PrintLast Go.Proofs.YtoadgikbbigdlaaW.PrintMore
set_option linter.unusedVariables false
def BX (l0 : List S50) (cap : Int) (seen ns : List Int) : Prop := ns.Pairwise (· < ·) ∧ (∀ n ∈ ns,0 ≤ ix l0 n ∧ n ∉ seen) ∧ ns.Pairwise (fun a b => shareB (mt l0 b) (mt l0 a) = true) ∧ sumW l0 ns ≤ cap
theorem sumW_append (l0 : List S50) (a b : List Int) : sumW l0 (a ++ b) = sumW l0 a + sumW l0 b := by simp [sumW]
theorem BX_prefix {l0 : List S50} (hI : ItemsOK l0) {cap : Int} {seen a b : List Int} (h : BX l0 cap seen (a ++ b)) : BX l0 cap seen a := by
 obtain ⟨h1,h2,h3,h4⟩ := h;have hb := sumW_bound hI b (fun n hn => (h2 n (by simp [hn])).1);rw [sumW_append] at h4;exact ⟨(List.pairwise_append.1 h1).1,fun n hn => h2 n (by simp [hn]),(List.pairwise_append.1 h3).1,by omega⟩
theorem BX_snoc {l0 : List S50} {cap : Int} {seen a : List Int} {n : Int} : BX l0 cap seen (a ++ [n]) ↔ (a.Pairwise (· < ·) ∧ (∀ m ∈ a,0 ≤ ix l0 m ∧ m ∉ seen) ∧ a.Pairwise (fun a b => shareB (mt l0 b) (mt l0 a) = true)) ∧ 0 ≤ ix l0 n ∧ n ∉ seen ∧ (∀ m ∈ a,m < n) ∧ (∀ m ∈ a,shareB (mt l0 m) (mt l0 n) = true) ∧ wt l0 n + sumW l0 a ≤ cap := by
 unfold BX;rw [List.pairwise_append,List.pairwise_append,sumW_snoc]
 constructor
 ·rintro ⟨⟨p1,_,p2⟩,k,⟨q1,_,q2⟩,s⟩;exact ⟨⟨p1,fun m hm => k m (by simp [hm]),q1⟩,(k n (by simp)).1,(k n (by simp)).2,fun m hm => p2 m hm n (by simp),fun m hm => by rw [share_symm]; exact q2 m hm n (by simp),by omega⟩
 ·rintro ⟨⟨p1,k,q1⟩,k1,k2,p2,q2,s⟩;refine ⟨⟨p1,by simp,fun m hm x hx => by rw [List.mem_singleton.1 hx]; exact p2 m hm⟩,fun m hm => ?_,⟨q1,by simp,fun m hm x hx => by rw [List.mem_singleton.1 hx,share_symm]; exact q2 m hm⟩,by omega⟩
  rcases List.mem_append.1 hm with h | h
  ·exact k m h
  ·rw [List.mem_singleton.1 h]; exact ⟨k1,k2⟩
def ALL (l0 : List S50) (cap : Int) : List Int → Option Int → List S62 → Prop
 | seen,_,[] => (seen.length : Int) = l0.length
 | seen,pv,b :: t => (1 ≤ b.f0 ∧ b.f0 ≤ 9999) ∧ (∀ p,pv = some p → p < b.f0) ∧ BX l0 cap seen b.f1 ∧ ALL l0 cap (seen ++ b.f1) (some b.f0) t
def pvo (l1 : List S62) (i : Nat) : Option Int := if i = 0 then none else some (l1.getD (i - 1) z62).f0
theorem pvo_lt {l1 : List S62} {i : Nat} {n : Int} : (∀ p,pvo l1 i = some p → p < n) ↔ (0 < i → (l1.getD (i - 1) z62).f0 < n) := by
 unfold pvo;by_cases h : i = 0
 ·simp [h]
 ·simp only [if_neg h,Option.some.injEq,forall_eq'];exact ⟨fun a _ => a,fun a => a (by omega)⟩
def UsedOK (l0 : List S50) (seen : List Int) (used : List Bool) : Prop := used.length = l0.length ∧ ∀ j,j < l0.length → (used.getD j false = true ↔ (l0.getD j z50).f0 ∈ seen)
theorem impl_inner {l0 : List S50} {l1 : List S62} (hI : ItemsOK l0) (h1 : (l1.length : Int) ≤ 4194304) (hx : ∀ x ∈ l1,(x.f1.length : Int) ≤ 4194304) (cap : Int) (i : Nat) (hi : i < l1.length) (seen : List Int) (hsn : seen.length ≤ i * 4194304)
  (next : ∀ used,UsedOK l0 (seen ++ (l1.getD i z62).f1) used → ∃ b,Ev (fun k => impl_IsValidArchive.l0 k l0 l1 cap ((seen ++ (l1.getD i z62).f1).length : Int) used l1 l1.length ((i + 1 : Nat) : Int)) b ∧ (b = true ↔ ALL l0 cap (seen ++ (l1.getD i z62).f1) (some (l1.getD i z62).f0) (l1.drop (i + 1)))) :
  ∀ p,p ≤ (l1.getD i z62).f1.length → ∀ used,UsedOK l0 (seen ++ (l1.getD i z62).f1.take p) used → BX l0 cap seen ((l1.getD i z62).f1.take p) →
   ∃ b,Ev (fun k => impl_IsValidArchive.l1 k l0 l1 cap ((seen.length : Int) + p) used (((l1.getD i z62).f1.take p).map (ix l0)) l1 l1.length i (l1.getD i z62).f1 (l1.getD i z62).f1.length p (l1.getD i z62).f0 (l1.getD i z62).f1) b ∧
    (b = true ↔ BX l0 cap seen (l1.getD i z62).f1 ∧ ALL l0 cap (seen ++ (l1.getD i z62).f1) (some (l1.getD i z62).f0) (l1.drop (i + 1))) := by
 have hlen := hx _ (getD_mem z62 hi);have hL := hI.1;generalize hns : (l1.getD i z62).f1 = ns at *;generalize (l1.getD i z62).f0 = num at *;have no : ∀ q : Prop,¬ q → ∃ b,Ev (fun _ : Nat => some false) b ∧ (b = true ↔ q) := fun q hq => ⟨false,Ev.now _,by simp [hq]⟩
 refine down ?_ ?_
 ·intro used hU hB;rw [List.take_length] at hU hB;obtain ⟨b,hb,hp⟩ := next used hU;refine ⟨b,Ev.succ ?_,?_⟩
  ·simp only [impl_IsValidArchive.l1,Int.lt_irrefl,if_false,w1 hi (show l1.length ≤ 9223372036854775807 by omega)];rw [List.length_append] at hb
   push_cast at hb
   exact hb
  ·rw [hp];exact ⟨fun h => ⟨hB,h⟩,fun h => h.2⟩
 ·intro p hp ih used hU hB;have hp' : (p : Int) < (ns.length : Int) := by omega
  have hts := take_snoc (0 : Int) hp;have hspl : ns = ns.take p ++ [ns.getD p 0] ++ ns.drop (p + 1) := by rw [← hts,List.take_append_drop]
  have hpre : BX l0 cap seen ns → BX l0 cap seen (ns.take p ++ [ns.getD p 0]) := fun h => by rw [hspl] at h; exact BX_prefix hI h
  suffices H : ∃ b,Ev (fun k => impl_IsValidArchive.l1 (k + 1) l0 l1 cap ((seen.length : Int) + p) used ((ns.take p).map (ix l0)) l1 l1.length i ns ns.length p num ns) b ∧ (b = true ↔ BX l0 cap seen ns ∧ ALL l0 cap (seen ++ ns) (some num) (l1.drop (i + 1))) from H.imp fun b hb => ⟨Ev.succ hb.1,hb.2⟩
  simp only [impl_IsValidArchive.l1,if_pos hp',if_pos (Int.natCast_nonneg p),rd,Int.toNat_natCast,impl_itemOf.f,Option.bind_some]
  change ∃ b,Ev (fun k => if ix l0 (ns.getD p 0) < 0 then _ else _) b ∧ _
  by_cases hk : ix l0 (ns.getD p 0) < 0
  ·simp only [if_pos hk];exact no _ fun h => by have := (BX_snoc.1 (hpre h.1)).2.1; omega
  ·simp only [if_neg hk];obtain ⟨j,hj,ej,fj⟩ := ix_known (Int.not_lt.1 hk);have hfit := impl_fits_ev hI (ns.take p) (ns.getD p 0) cap (fun m hm => (hB.2.1 m hm).1) (Int.not_lt.1 hk) (by rw [List.length_take]; omega);obtain ⟨fb,hf1,hf2⟩ := hfit
   change ∃ b,Ev (fun k => if 0 ≤ ix l0 (ns.getD p 0) then _ else _) b ∧ _
   have hju : (j : Int) < (used.length : Int) := by rw [hU.1]; omega
   have hiff := hU.2 j hj;rw [fj] at hiff;have e0 : findI (fun x : S50 => x.f0 == ns.getD p 0) l0 0 = (j : Int) := ej;simp only [if_pos (Int.not_lt.1 hk),e0,if_pos hju,rdOf,Int.toNat_natCast];by_cases hu : used.getD j false = true
   ·simp only [if_pos hu];refine no _ fun h => ?_
    have hs := (BX_snoc.1 (hpre h.1)).2
    rcases List.mem_append.1 (hiff.1 hu) with hm | hm
    ·exact hs.2.1 hm
    ·have := hs.2.2.1 _ hm; omega
   ·simp only [if_neg hu];have hnin : ns.getD p 0 ∉ seen ++ ns.take p := fun hm => hu (hiff.2 hm)
    have cont : (∀ m ∈ ns.take p,m < ns.getD p 0) → ∃ b,Ev (fun k => (impl_fits.f k l0 ((ns.take p).map (ix l0)) (j : Int) cap).bind fun t => if t = true then (if ((ns.take p).map (ix l0)).length < 17592186044416 then (impl_IsValidArchive.l1 k l0 l1 cap (wrap64 ((seen.length : Int) + p + 1)) (used.set j true) ((ns.take p).map (ix l0) ++ [(j : Int)]) l1 l1.length i ns ns.length (wrap64 ((p : Int) + 1)) num ns) else none) else some false) b ∧ (b = true ↔ BX l0 cap seen ns ∧ ALL l0 cap (seen ++ ns) (some num) (l1.drop (i + 1))) := by
     intro hlt;rw [ej] at hf1;cases fb with
     | false =>
      refine ⟨false,Ev.bind hf1 ?_,?_⟩
      ·simp only [Bool.false_eq_true,if_false];exact Ev.now _
      ·simp only [Bool.false_eq_true,false_iff] at hf2 ⊢;exact fun h => hf2 ⟨(BX_snoc.1 (hpre h.1)).2.2.2.2.1,(BX_snoc.1 (hpre h.1)).2.2.2.2.2⟩
     | true =>
      have hf := hf2.1 rfl;have hB' : BX l0 cap seen (ns.take (p + 1)) := by
       rw [hts];exact BX_snoc.2 ⟨⟨hB.1,hB.2.1,hB.2.2.1⟩,Int.not_lt.1 hk,fun hm => hnin (List.mem_append.2 (.inl hm)),hlt,hf.1,hf.2⟩
      have hU' : UsedOK l0 (seen ++ ns.take (p + 1)) (used.set j true) := by
       refine ⟨by rw [List.length_set]; exact hU.1,fun q hq => ?_⟩;rw [hts,← List.append_assoc,List.mem_append,List.mem_singleton];by_cases eq : q = j
       ·subst eq;rw [fj];simp [List.getD_eq_getElem?_getD,List.getElem?_set_self (show q < used.length by rw [hU.1]; exact hq)]
       ·have hne : (l0.getD q z50).f0 ≠ ns.getD p 0 := fun e => by
         have h1 := ix_of hI hq;rw [e,ej] at h1;omega
        rw [List.getD_eq_getElem?_getD,List.getElem?_set_ne (by omega),← List.getD_eq_getElem?_getD,hU.2 q hq];exact ⟨.inl,fun h => h.resolve_right hne⟩
      obtain ⟨b,hb1,hb2⟩ := ih (used.set j true) hU' hB';refine ⟨b,Ev.bind hf1 ?_,hb2⟩;have hw : wrap64 ((seen.length : Int) + p + 1) = (seen.length : Int) + ((p + 1 : Nat) : Int) := by unfold wrap64; omega
      simp only [if_true,List.length_map,if_pos (show (ns.take p).length < 17592186044416 by rw [List.length_take]; omega),hw,w1 hp (show ns.length ≤ 9223372036854775807 by omega)];rw [hts,List.map_append] at hb1;simp only [List.map_cons,List.map_nil,ej] at hb1;exact hb1
    by_cases hp0 : (p : Int) > 0
    ·have e1 : wrap64 ((p : Int) - 1) = ((p - 1 : Nat) : Int) := by unfold wrap64; omega
     simp only [if_pos hp0,e1,if_pos (Int.natCast_nonneg (p - 1)),if_pos (show ((p - 1 : Nat) : Int) < (ns.length : Int) by omega),Int.toNat_natCast];have htp := take_snoc (0 : Int) (show p - 1 < ns.length by omega);rw [show p - 1 + 1 = p from by omega] at htp;by_cases hle : ns.getD p 0 ≤ ns.getD (p - 1) 0
     ·simp only [if_pos hle];refine no _ fun h => ?_
      have := (BX_snoc.1 (hpre h.1)).2.2.2.1 (ns.getD (p - 1) 0) (by rw [htp]; simp);omega
     ·simp only [if_neg hle];refine cont fun m hm => ?_
      rw [htp] at hm
      rcases List.mem_append.1 hm with h | h
      ·have := hB.1;rw [htp,List.pairwise_append] at this;have := this.2.2 m h (ns.getD (p - 1) 0) (by simp);omega
      ·rw [List.mem_singleton.1 h]; omega
    ·simp only [if_neg hp0];obtain rfl : p = 0 := by omega
     exact cont fun m hm => by simp at hm
end Go.Proofs.Ytoadgikbbigdlaa.B
