import Derived.Test.YtoadgikbbigdlaaMsBPC
namespace Go.Proofs.Ytoadgikbbigdlaa.B
open Go.RowKit Go.Proofs.YtoadgikbbigdlaaW.PrintWords Go.Proofs.YtoadgikbbigdlaaW.PrintLast Go.Proofs.YtoadgikbbigdlaaW.PrintMore
set_option linter.unusedVariables false
def ItemsOK (l0 : List S50) : Prop := l0.length ≤ 12 ∧ (∀ x ∈ l0,1 ≤ x.f0 ∧ x.f0 ≤ 9999 ∧ 1 ≤ x.f2 ∧ x.f2 ≤ 1000) ∧ l0.Pairwise (fun x y => x.f0 < y.f0)
theorem items_true {l : List S50} (hl : l.length ≤ 9223372036854775807) : ∃ b,Ev (fun k => spec_l26Items.f k l) b ∧ (b = true → ItemsOK l) := by
 have key : ∀ i,i ≤ l.length → ∃ b,Ev (fun k => spec_l26Items.l0 k l i) b ∧ (b = true → l.length ≤ 12 ∧ ∀ j,i ≤ j → j < l.length → (1 ≤ (l.getD j z50).f0 ∧ (l.getD j z50).f0 ≤ 9999 ∧ 1 ≤ (l.getD j z50).f2 ∧ (l.getD j z50).f2 ≤ 1000) ∧ (0 < j → (l.getD (j - 1) z50).f0 < (l.getD j z50).f0)) := by
  refine down ?_ ?_
  ·refine ⟨decide ((l.length : Int) ≤ 12),Ev.succ ?_,fun h => ⟨by have := of_decide_eq_true h; omega,fun j h1 h2 => by omega⟩⟩;simp only [spec_l26Items.l0,Int.lt_irrefl,if_false];exact Ev.now _
  ·intro i hi ih;have hi' : (i : Int) < (l.length : Int) := by omega
   suffices h : ∃ b,Ev (fun k => spec_l26Items.l0 (k + 1) l i) b ∧ (b = true → l.length ≤ 12 ∧ ∀ j,i ≤ j → j < l.length → (1 ≤ (l.getD j z50).f0 ∧ (l.getD j z50).f0 ≤ 9999 ∧ 1 ≤ (l.getD j z50).f2 ∧ (l.getD j z50).f2 ≤ 1000) ∧ (0 < j → (l.getD (j - 1) z50).f0 < (l.getD j z50).f0)) from h.imp fun r hr => ⟨Ev.succ hr.1,hr.2⟩
   simp only [spec_l26Items.l0,if_pos hi',if_pos (Int.natCast_nonneg i),w1 hi hl,l1In_eq,Option.bind_some,rd_T50,Int.toNat_natCast];have no : ∀ p : Prop,∃ b,Ev (fun _ : Nat => some false) b ∧ (b = true → p) := fun p => ⟨false,Ev.now _,fun h => by cases h⟩
   by_cases c1 : (decide (1 ≤ (l.getD i z50).f0) && decide ((l.getD i z50).f0 ≤ 9999)) = true
   ·simp only [if_pos c1];by_cases c2 : (decide (1 ≤ (l.getD i z50).f1) && decide ((l.getD i z50).f1 ≤ 4)) = true
    ·simp only [if_pos c2];by_cases c3 : (decide (1 ≤ (l.getD i z50).f2) && decide ((l.getD i z50).f2 ≤ 1000)) = true
     ·simp only [if_pos c3];simp only [Bool.and_eq_true,decide_eq_true_eq] at c1 c3;obtain ⟨b,hb,hp⟩ := ih;by_cases hp0 : (i : Int) > 0
      ·have e : wrap64 ((i : Int) - 1) = ((i - 1 : Nat) : Int) := by unfold wrap64; omega
       simp only [if_pos hp0,e,if_pos (Int.natCast_nonneg (i - 1)),if_pos (show ((i - 1 : Nat) : Int) < (l.length : Int) by omega),Int.toNat_natCast];by_cases c4 : (l.getD (i - 1) z50).f0 ≥ (l.getD i z50).f0
       ·exact (no _).imp fun b hb => ⟨Ev.pos c4 hb.1,hb.2⟩
       ·refine ⟨b,Ev.neg c4 hb,fun h => ⟨(hp h).1,fun j h1 h2 => ?_⟩⟩;by_cases ej : j = i
        ·subst ej;exact ⟨⟨c1.1,c1.2,c3.1,c3.2⟩,fun _ => by omega⟩
        ·exact (hp h).2 j (by omega) h2
      ·simp only [if_neg hp0];refine ⟨b,hb,fun h => ⟨(hp h).1,fun j h1 h2 => ?_⟩⟩;by_cases ej : j = i
       ·subst ej;exact ⟨⟨c1.1,c1.2,c3.1,c3.2⟩,fun _ => by omega⟩
       ·exact (hp h).2 j (by omega) h2
     ·simp only [if_neg c3];exact no _
    ·simp only [if_neg c2];exact no _
   ·simp only [if_neg c1];exact no _
 obtain ⟨b,hb,hp⟩ := key 0 (by omega);refine ⟨b,hb,fun h => ?_⟩;obtain ⟨h1,h2⟩ := hp h;refine ⟨h1,fun x hx => ?_,?_⟩
 ·obtain ⟨j,hj,rfl⟩ := List.getElem_of_mem hx;have := (h2 j (by omega) hj).1
  simpa [List.getD_eq_getElem?_getD,List.getElem?_eq_getElem hj] using this
 ·have step : ∀ j,j + 1 < l.length → (l.getD j z50).f0 < (l.getD (j + 1) z50).f0 := fun j hj => by simpa using (h2 (j + 1) (by omega) hj).2 (by omega)
  have far : ∀ d i,i + d + 1 < l.length → (l.getD i z50).f0 < (l.getD (i + d + 1) z50).f0 := by
   intro d
   induction d with
   | zero => intro i hi; exact step i hi
   | succ d ih =>
    intro i hi;have a := ih i (by omega);have b := step (i + d + 1) (by omega);rw [show i + (d + 1) + 1 = i + d + 1 + 1 from by omega];omega
  refine List.pairwise_iff_getElem.2 fun i j hi hj hij => ?_
  have := far (j - i - 1) i (by omega);rw [show i + (j - i - 1) + 1 = j from by omega] at this
  simpa [List.getD_eq_getElem?_getD,List.getElem?_eq_getElem hi,List.getElem?_eq_getElem hj] using this
def ix (l0 : List S50) (n : Int) : Int := findI (fun x => x.f0 == n) l0 0
def wt (l0 : List S50) (n : Int) : Int := (l0.getD (ix l0 n).toNat z50).f2
def mt (l0 : List S50) (n : Int) : Int := (l0.getD (ix l0 n).toNat z50).f1
theorem findI_at {α : Type} (z : α) (p : α → Bool) : ∀ (l : List α) (i : Int),0 ≤ findI p l i → 0 ≤ i → ∃ j : Nat,j < l.length ∧ findI p l i = i + j ∧ p (l.getD j z) = true
 | [],i,h,_ => by simp [findI] at h
 | x :: t,i,h,h0 => by
  unfold findI at h ⊢;by_cases hp : p x = true
  ·exact ⟨0,by simp,by simp [hp],by simpa using hp⟩
  ·simp only [if_neg hp] at h ⊢;obtain ⟨j,h1,h2,h3⟩ := findI_at z p t (i + 1) h (by omega);exact ⟨j + 1,by simpa using h1,by rw [h2]; push_cast; omega,by simpa using h3⟩
theorem ix_known {l0 : List S50} {n : Int} (h : 0 ≤ ix l0 n) : ∃ j : Nat,j < l0.length ∧ ix l0 n = j ∧ (l0.getD j z50).f0 = n := by
 obtain ⟨j,h1,h2,h3⟩ := findI_at z50 _ l0 0 h (by omega);exact ⟨j,h1,by unfold ix; rw [h2]; omega,by simpa using h3⟩
theorem ix_of {l0 : List S50} (hI : ItemsOK l0) {j : Nat} (hj : j < l0.length) : ix l0 (l0.getD j z50).f0 = j := by
 have h0 : 0 ≤ ix l0 (l0.getD j z50).f0 := (findI_ge _ l0 0 (by omega)).2 (List.any_eq_true.2 ⟨_,getD_mem z50 hj,by simp⟩);obtain ⟨k,hk,e,hn⟩ := ix_known h0;have inj : ∀ a b,a < b → b < l0.length → (l0.getD a z50).f0 < (l0.getD b z50).f0 := fun a b hab hb => by
  have := List.pairwise_iff_getElem.1 hI.2.2 a b (by omega) hb hab
  simpa [List.getD_eq_getElem?_getD,List.getElem?_eq_getElem hb,List.getElem?_eq_getElem (show a < l0.length by omega)] using this
 rw [e]
 rcases Nat.lt_trichotomy k j with h | h | h
 ·have := inj k j h hj; omega
 ·rw [h]
 ·have := inj j k h hk; omega
theorem wt_ok {l0 : List S50} (hI : ItemsOK l0) {n : Int} (h : 0 ≤ ix l0 n) : 1 ≤ wt l0 n ∧ wt l0 n ≤ 1000 := by
 obtain ⟨j,hj,e,_⟩ := ix_known h;have := hI.2.1 _ (getD_mem z50 hj);unfold wt;rw [e,Int.toNat_natCast];exact ⟨this.2.2.1,this.2.2.2⟩
def shareB (a b : Int) : Bool := if ((a == 2) != (b == 2)) = true then false else (if a = 3 then (if b = 4 then false else (if a = 4 then !(b == 3) else true)) else (if a = 4 then !(b == 3) else true))
theorem mayShare_eq (a b : Int) : impl_mayShare.f a b = some (shareB a b) := by
 unfold impl_mayShare.f shareB;repeat' split
 all_goals simp_all
theorem l26Share_eq (a b : Int) : spec_l26Share.f a b = some (shareB a b) := by
 unfold spec_l26Share.f shareB;repeat' split
 all_goals simp_all
theorem share_symm (a b : Int) : shareB a b = shareB b a := by
 unfold shareB;by_cases a2 : a = 2 <;> by_cases b2 : b = 2 <;> by_cases a3 : a = 3 <;> by_cases b3 : b = 3 <;> by_cases a4 : a = 4 <;> by_cases b4 : b = 4 <;> first | (simp_all; done) | (simp_all; exact ⟨Eq.symm,Eq.symm⟩)
def sumW (l0 : List S50) (ns : List Int) : Int := (ns.map (wt l0)).sum
theorem sumW_snoc (l0 : List S50) (ns : List Int) (n : Int) : sumW l0 (ns ++ [n]) = sumW l0 ns + wt l0 n := by simp [sumW]
theorem sumW_cons (l0 : List S50) (ns : List Int) (n : Int) : sumW l0 (n :: ns) = wt l0 n + sumW l0 ns := by simp [sumW]
theorem sumW_bound {l0 : List S50} (hI : ItemsOK l0) : ∀ ns : List Int,(∀ n ∈ ns,0 ≤ ix l0 n) → 0 ≤ sumW l0 ns ∧ sumW l0 ns ≤ 1000 * ns.length
 | [],_ => by simp [sumW]
 | n :: t,h => by
  have h1 := sumW_bound hI t (fun m hm => h m (by simp [hm]));have h2 := wt_ok hI (h n (by simp));rw [sumW_cons];simp only [List.length_cons];omega
end Go.Proofs.Ytoadgikbbigdlaa.B
