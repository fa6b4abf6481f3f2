import Derived.Test.YtoadgikbbigdlaaMsBPI
namespace Go.Proofs.Ytoadgikbbigdlaa.B
open Go.RowKit Go.Proofs.YtoadgikbbigdlaaW.PrintWords Go.Proofs.YtoadgikbbigdlaaW.PrintLast Go.Proofs.YtoadgikbbigdlaaW.PrintMore
set_option linter.unusedVariables false
theorem spec_inner {l0 : List S50} {l1 : List S62} (hI : ItemsOK l0) (h1 : (l1.length : Int) ≤ 1048576) (hx : ∀ x ∈ l1,(x.f1.length : Int) ≤ 4194304) (cap : Int) (i : Nat) (hi : i < l1.length) (seen : List Int) (hsn : seen.length ≤ i * 4194304) (hseen : seen = (l1.take i).flatMap (·.f1))
  (hR : (l1.getD i z62).f1.Pairwise (· < ·))
  (next : ∃ b,Ev (fun k => spec_l26Good.l0 k l0 l1 cap ((seen ++ (l1.getD i z62).f1).length : Int) ((i + 1 : Nat) : Int)) b ∧ (b = true ↔ ALL l0 cap (seen ++ (l1.getD i z62).f1) (some (l1.getD i z62).f0) (l1.drop (i + 1)))) :
  ∀ p,p ≤ (l1.getD i z62).f1.length → (∀ q,q < p → 0 ≤ ix l0 ((l1.getD i z62).f1.getD q 0) ∧ (l1.getD i z62).f1.getD q 0 ∉ seen) →
   ∃ b,Ev (fun k => spec_l26Good.l1 k l0 l1 cap seen.length i p (l1.getD i z62).f0 (l1.getD i z62).f1) b ∧
    (b = true ↔ BX l0 cap seen (l1.getD i z62).f1 ∧ ALL l0 cap (seen ++ (l1.getD i z62).f1) (some (l1.getD i z62).f0) (l1.drop (i + 1))) := by
 have hlen := hx _ (getD_mem z62 hi);have hL := hI.1;have hbox : ∀ q,q < (l1.getD i z62).f1.length → (findI (fun x : S62 => x.f1.any (· == (l1.getD i z62).f1.getD q 0)) l1 0 = (i : Int) ↔ (l1.getD i z62).f1.getD q 0 ∉ seen) := by
  intro q hq;have := findI_first z62 (fun x : S62 => x.f1.any (· == (l1.getD i z62).f1.getD q 0)) l1 0 i hi (List.any_eq_true.2 ⟨_,getD_mem 0 hq,by simp⟩);rw [Int.zero_add] at this;rw [this,hseen];simp only [List.mem_flatMap,List.any_eq_true,beq_iff_eq,not_exists,not_and]
  constructor
  ·exact fun h x hx' hm => h x hx' _ hm rfl
  ·exact fun h x hx' y hy e => h x hx' (e ▸ hy)
 generalize hns : (l1.getD i z62).f1 = ns at *;generalize (l1.getD i z62).f0 = num at *;have no : ∀ q : Prop,¬ q → ∃ b,Ev (fun _ : Nat => some false) b ∧ (b = true ↔ q) := fun q hq => ⟨false,Ev.now _,by simp [hq]⟩
 refine down ?_ ?_
 ·intro hall;have hkn : ∀ m ∈ ns,0 ≤ ix l0 m ∧ m ∉ seen := fun m hm => by
   obtain ⟨q,hq,rfl⟩ := List.getElem_of_mem hm;have := hall q hq
   simpa [List.getD_eq_getElem?_getD,List.getElem?_eq_getElem hq] using this
  obtain ⟨fb,hf1,hf2⟩ := spec_fits_ev hI ns cap (fun m hm => (hkn m hm).1) (by omega);have hpw : (∀ i j,i < j → j < ns.length → shareB (mt l0 (ns.getD j 0)) (mt l0 (ns.getD i 0)) = true) ↔ ns.Pairwise (fun a b => shareB (mt l0 b) (mt l0 a) = true) := by
   rw [List.pairwise_iff_getElem]
   constructor
   ·intro h i j hi hj hij;have := h i j hij hj
    simpa [List.getD_eq_getElem?_getD,List.getElem?_eq_getElem hi,List.getElem?_eq_getElem hj] using this
   ·intro h i j hij hj;have := h i j (by omega) hj hij
    simpa [List.getD_eq_getElem?_getD,List.getElem?_eq_getElem hj,List.getElem?_eq_getElem (show i < ns.length by omega)] using this
  rw [hpw] at hf2;obtain ⟨b,hb,hp⟩ := next;cases fb with
  | false =>
   refine ⟨false,Ev.succ ?_,?_⟩
   ·simp only [spec_l26Good.l1,Int.lt_irrefl,if_false];refine Ev.bind hf1 ?_;simp only [Bool.false_eq_true,if_false];exact Ev.now _
   ·simp only [Bool.false_eq_true,false_iff] at hf2 ⊢;exact fun h => hf2 ⟨h.1.2.2.1,h.1.2.2.2⟩
  | true =>
   have hf := hf2.1 rfl;refine ⟨b,Ev.succ ?_,?_⟩
   ·simp only [spec_l26Good.l1,Int.lt_irrefl,if_false];refine Ev.bind hf1 ?_;have hw : wrap64 ((seen.length : Int) + (ns.length : Int)) = ((seen ++ ns).length : Int) := by rw [List.length_append]; unfold wrap64; omega
    simp only [if_true,hw,w1 hi (show l1.length ≤ 9223372036854775807 by omega)];exact hb
   ·rw [hp];exact ⟨fun h => ⟨⟨hR,hkn,hf.1,hf.2⟩,h⟩,fun h => h.2⟩
 ·intro p hp ih hall;have hp' : (p : Int) < (ns.length : Int) := by omega
  have hm := getD_mem (0 : Int) hp;have hF := l26Find_ix hI (ns.getD p 0);have hB := l26Box_ev (l := l1) (ns.getD p 0) (by omega) (fun x hx' => by have := hx x hx'; omega)
  suffices H : ∃ b,Ev (fun k => spec_l26Good.l1 (k + 1) l0 l1 cap seen.length i p num ns) b ∧ (b = true ↔ BX l0 cap seen ns ∧ ALL l0 cap (seen ++ ns) (some num) (l1.drop (i + 1))) from H.imp fun b hb => ⟨Ev.succ hb.1,hb.2⟩
  simp only [spec_l26Good.l1,if_pos hp',if_pos (Int.natCast_nonneg p),rd,Int.toNat_natCast];by_cases hk : ix l0 (ns.getD p 0) < 0
  ·refine ⟨false,Ev.bind hF ?_,?_⟩
   ·simp only [if_pos hk];exact Ev.now _
   ·simp only [Bool.false_eq_true,false_iff];exact fun h => by have := (h.1.2.1 _ hm).1; omega
  ·by_cases hs : ns.getD p 0 ∈ seen
   ·refine ⟨false,Ev.bind hF ?_,?_⟩
    ·simp only [if_neg hk];refine Ev.bind hB ?_;simp only [if_neg (fun e => (hbox p hp).1 e hs)];exact Ev.now _
    ·simp only [Bool.false_eq_true,false_iff];exact fun h => (h.1.2.1 _ hm).2 hs
   ·obtain ⟨b,hb,hpp⟩ := ih (fun q hq => by
     by_cases eq : q = p
     ·subst eq; exact ⟨Int.not_lt.1 hk,hs⟩
     ·exact hall q (by omega))
    refine ⟨b,Ev.bind hF ?_,hpp⟩;simp only [if_neg hk];refine Ev.bind hB ?_;simp only [if_pos ((hbox p hp).2 hs),w1 hp (show ns.length ≤ 9223372036854775807 by omega)];exact hb
theorem spec_outer {l0 : List S50} {l1 : List S62} (hI : ItemsOK l0) (h1 : (l1.length : Int) ≤ 1048576) (hx : ∀ x ∈ l1,(x.f1.length : Int) ≤ 4194304) (cap : Int) :
  ∀ i,i ≤ l1.length → ∀ (seen : List Int),seen.length ≤ i * 4194304 → seen = (l1.take i).flatMap (·.f1) → ∃ b,Ev (fun k => spec_l26Good.l0 k l0 l1 cap (seen.length : Int) i) b ∧ (b = true ↔ ALL l0 cap seen (pvo l1 i) (l1.drop i)) := by
 refine down ?_ ?_
 ·intro seen hs _;refine ⟨(seen.length : Int) == (l0.length : Int),Ev.succ ?_,?_⟩
  ·simp only [spec_l26Good.l0,Int.lt_irrefl,if_false];exact Ev.now _
  ·rw [List.drop_length,beq_iff_eq];exact Iff.rfl
 ·intro i hi ih seen hs hseen;have hi' : (i : Int) < (l1.length : Int) := by omega
  have hlen := hx _ (getD_mem z62 hi);rw [drop_cons z62 hi];obtain ⟨rb,hr1,hr2⟩ := Rising_ev (ns := (l1.getD i z62).f1) (by omega);have hno : ∃ b,Ev (fun k => spec_l26Good.j2 k l0 l1 cap seen.length i true (l1.getD i z62).f0 (l1.getD i z62).f1) b ∧ b = false := by
   refine ⟨false,Ev.succ ?_,rfl⟩;simp only [spec_l26Good.j2,if_true];exact Ev.now _
  have hyes : rb = true → ∃ b,Ev (fun k => spec_l26Good.j2 k l0 l1 cap seen.length i false (l1.getD i z62).f0 (l1.getD i z62).f1) b ∧ (b = true ↔ BX l0 cap seen (l1.getD i z62).f1 ∧ ALL l0 cap (seen ++ (l1.getD i z62).f1) (some (l1.getD i z62).f0) (l1.drop (i + 1))) := by
   intro hrb;obtain ⟨b,hb,hp⟩ := spec_inner hI h1 hx cap i hi seen hs hseen (hr2.1 hrb).1 (by
    obtain ⟨b,hb,hp⟩ := ih (seen ++ (l1.getD i z62).f1) (by rw [List.length_append]; omega) (by rw [take_snoc z62 hi,List.flatMap_append,← hseen]; simp);exact ⟨b,hb,hp.trans (by rw [show pvo l1 (i + 1) = some (l1.getD i z62).f0 from by simp [pvo]])⟩) 0 (by omega) (fun q hq => by omega)
   refine ⟨b,Ev.succ ?_,hp⟩;simp only [spec_l26Good.j2,Bool.false_eq_true,if_false];exact hb
  have hrb : rb = false → ¬ BX l0 cap seen (l1.getD i z62).f1 := by
   intro e hB;have : rb = true := hr2.2 ⟨hB.1,fun n hn => by
    obtain ⟨j,hj,_,fj⟩ := ix_known (hB.2.1 n hn).1;have := hI.2.1 _ (getD_mem z50 hj);rw [fj] at this;exact ⟨this.1,this.2.1⟩⟩
   rw [e] at this;cases this
  have fin : ((1 ≤ (l1.getD i z62).f0 ∧ (l1.getD i z62).f0 ≤ 9999) ∧ (∀ p,pvo l1 i = some p → p < (l1.getD i z62).f0)) →
    ∃ b,Ev (fun k => (spec_l1Rising.f k (l1.getD i z62).f1 1 9999).bind fun t => spec_l26Good.j2 k l0 l1 cap seen.length i (!t) (l1.getD i z62).f0 (l1.getD i z62).f1) b ∧ (b = true ↔ ALL l0 cap seen (pvo l1 i) (l1.getD i z62 :: l1.drop (i + 1))) := by
   intro hc;cases rb with
   | false =>
    obtain ⟨b,hb,rfl⟩ := hno;refine ⟨false,Ev.bind hr1 hb,?_⟩;simp only [Bool.false_eq_true,false_iff];exact fun h => hrb rfl h.2.2.1
   | true =>
    obtain ⟨b,hb,hp⟩ := hyes rfl;refine ⟨b,Ev.bind hr1 hb,?_⟩;rw [hp];exact ⟨fun h => ⟨hc.1,hc.2,h.1,h.2⟩,fun h => h.2.2⟩
  obtain ⟨nb,hnb,hnf⟩ := hno;subst hnf
  suffices H : ∃ b,Ev (fun k => spec_l26Good.l0 (k + 1) l0 l1 cap (seen.length : Int) i) b ∧ (b = true ↔ ALL l0 cap seen (pvo l1 i) (l1.getD i z62 :: l1.drop (i + 1))) from H.imp fun b hb => ⟨Ev.succ hb.1,hb.2⟩
  simp only [spec_l26Good.l0,if_pos hi',if_pos (Int.natCast_nonneg i),l1In_eq,Option.bind_some,rd_T62,Int.toNat_natCast];by_cases c1 : (decide (1 ≤ (l1.getD i z62).f0) && decide ((l1.getD i z62).f0 ≤ 9999)) = true
  ·simp only [if_pos c1];simp only [Bool.and_eq_true,decide_eq_true_eq] at c1;by_cases hp0 : (i : Int) > 0
   ·have e1 : wrap64 ((i : Int) - 1) = ((i - 1 : Nat) : Int) := by unfold wrap64; omega
    simp only [if_pos hp0,e1,if_pos (Int.natCast_nonneg (i - 1)),if_pos (show ((i - 1 : Nat) : Int) < (l1.length : Int) by omega),Int.toNat_natCast];by_cases hle : (l1.getD (i - 1) z62).f0 ≥ (l1.getD i z62).f0
    ·simp only [if_pos hle];refine ⟨false,hnb,?_⟩;simp only [Bool.false_eq_true,false_iff];exact fun h => by have := pvo_lt.1 h.2.1 (by omega); omega
    ·simp only [if_neg hle];exact fin ⟨c1,pvo_lt.2 fun _ => by omega⟩
   ·simp only [if_neg hp0];exact fin ⟨c1,pvo_lt.2 fun h => by omega⟩
  ·simp only [if_neg c1];simp only [Bool.and_eq_true,decide_eq_true_eq] at c1;refine ⟨false,hnb,?_⟩;simp only [Bool.false_eq_true,false_iff];exact fun h => c1 h.1
theorem valid_sides {l0 : List S50} {l1 : List S62} (h0 : (l0.length : Int) ≤ 1048576) (h1 : (l1.length : Int) ≤ 1048576) (hx : ∀ x ∈ l1,(x.f1.length : Int) ≤ 4194304) (cap : Int) :
  ∃ b,Ev (fun k => impl_IsValidArchive.f k l0 l1 cap) b ∧ Ev (fun k => spec_l26Good.f k l0 l1 cap) b ∧ (b = true → ItemsOK l0 ∧ l1.length ≤ 12 ∧ ALL l0 cap [] none l1) := by
 obtain ⟨ib,hi1,hi2⟩ := items_true (l := l0) (by omega);have hi3 : Ev (fun k => impl_areItems.f k l0) ib := Ev.congr (fun k => areItems_eq l0 (by omega) k 0 (by omega)) hi1;have jT : Ev (fun k => impl_IsValidArchive.j0 k l0 l1 cap true) false := by
  refine Ev.succ ?_;simp only [impl_IsValidArchive.j0,if_true];exact Ev.now _
 have jS : Ev (fun k => spec_l26Good.j0 k l0 l1 cap true) false := by
  refine Ev.succ ?_;simp only [spec_l26Good.j0,if_true];exact Ev.now _
 cases ib with
 | false =>
  refine ⟨false,?_,?_,fun h => by cases h⟩
  ·unfold impl_IsValidArchive.f;refine Ev.bind hi3 ?_;simp only [Bool.false_eq_true,if_false];exact jT
  ·unfold spec_l26Good.f;refine Ev.bind hi1 ?_;simp only [Bool.false_eq_true,if_false];exact jS
 | true =>
  have hI := hi2 rfl;by_cases hq : ¬ (l1.length : Int) > 12 ∧ (decide (1 ≤ cap) && decide (cap ≤ 10000)) = true
  ·obtain ⟨q1,q2⟩ := hq;have q3 := q2;simp only [Bool.and_eq_true,decide_eq_true_eq] at q3;obtain ⟨b1,e1,p1⟩ := impl_outer hI h1 hx cap (by omega) 0 (by omega) [] (List.replicate l0.length false) (by simp) ⟨by simp,fun j hj => by simp [List.getD_eq_getElem?_getD,List.getElem?_replicate,hj]⟩;obtain ⟨b2,e2,p2⟩ := spec_outer hI h1 hx cap 0 (by omega) [] (by simp) (by simp);have eb : b1 = b2 := by
    rw [Bool.eq_iff_iff,p1,p2]
   subst eb;refine ⟨b1,?_,?_,fun h => ⟨hI,by omega,by simpa [pvo] using p1.1 h⟩⟩
   ·unfold impl_IsValidArchive.f;refine Ev.bind hi3 ?_;simp only [if_true,impl_isCapacity.f,within_eq,Option.bind_some,if_pos q2,decide_eq_false q1];refine Ev.succ ?_;simp only [impl_IsValidArchive.j0,Bool.false_eq_true,if_false,if_pos (Int.natCast_nonneg l0.length),Int.toNat_natCast,if_pos (show l0.length ≤ 281474976710656 by omega)];exact e1
   ·unfold spec_l26Good.f;refine Ev.bind hi1 ?_;simp only [if_true,if_neg q1,l1In_eq,Option.bind_some,q2,Bool.not_true];refine Ev.succ ?_;simp only [spec_l26Good.j0,Bool.false_eq_true,if_false];exact e2
  ·refine ⟨false,?_,?_,fun h => by cases h⟩
   ·unfold impl_IsValidArchive.f;refine Ev.bind hi3 ?_;simp only [if_true,impl_isCapacity.f,within_eq,Option.bind_some];by_cases q2 : (decide (1 ≤ cap) && decide (cap ≤ 10000)) = true
    ·have q1 : (l1.length : Int) > 12 := Classical.byContradiction fun q1 => hq ⟨q1,q2⟩
     simp only [if_pos q2,decide_eq_true q1];exact jT
    ·simp only [if_neg q2];exact jT
   ·unfold spec_l26Good.f;refine Ev.bind hi1 ?_;simp only [if_true,l1In_eq,Option.bind_some];by_cases q1 : (l1.length : Int) > 12
    ·simp only [if_pos q1];exact jS
    ·have q2 : (decide (1 ≤ cap) && decide (cap ≤ 10000)) = false := by
      cases h : (decide (1 ≤ cap) && decide (cap ≤ 10000)) with
      | false => rfl
      | true => exact absurd ⟨q1,h⟩ hq
     simp only [if_neg q1,q2,Bool.not_false];exact jS
end Go.Proofs.Ytoadgikbbigdlaa.B
