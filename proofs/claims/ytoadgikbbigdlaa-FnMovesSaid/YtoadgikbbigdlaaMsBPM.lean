import Derived.Test.YtoadgikbbigdlaaMsBPJ
namespace Go.Proofs.Ytoadgikbbigdlaa.B
open Go.RowKit Go.Proofs.YtoadgikbbigdlaaW.PrintWords Go.Proofs.YtoadgikbbigdlaaW.PrintLast Go.Proofs.YtoadgikbbigdlaaW.PrintMore
set_option linter.unusedVariables false
theorem ALL_rising {l0 : List S50} {cap : Int} : ∀ (l : List S62) (seen : List Int) (p : Option Int),ALL l0 cap seen p l → ∀ x ∈ l,x.f1.Pairwise (· < ·)
 | [],_,_,_,x,hx => by simp at hx
 | y :: t,seen,p,h,x,hx => by
  rcases List.mem_cons.1 hx with rfl | hx
  ·exact h.2.2.1.1
  ·exact ALL_rising t _ _ h.2.2.2 x hx
theorem sort_put (ll : List Int) (n : Int) (h : ll.Pairwise (· < ·)) (hn : n ∉ ll) : ((ll ++ [n]).mergeSort fun a b => decide (a ≤ b)) = put ll n := by
 have hp : ((ll ++ [n]).mergeSort fun x y => decide (x ≤ y)).Pairwise (· ≤ ·) := by
  have := List.pairwise_mergeSort (le := fun x y : Int => decide (x ≤ y)) (fun a b c h1 h2 => by simp only [decide_eq_true_eq] at *; omega) (fun a b => by simp only [Bool.or_eq_true,decide_eq_true_eq]; omega) (ll ++ [n]);exact this.imp (by simp)
 have hperm := List.mergeSort_perm (ll ++ [n]) fun x y => decide (x ≤ y)
 have hnd : (ll ++ [n]).Nodup := by
  refine List.nodup_append.2 ⟨h.imp (fun h => Int.ne_of_lt h),by simp,fun a ha b hb => ?_⟩;rw [List.mem_singleton.1 hb];exact fun e => hn (e ▸ ha)
 have hnd2 := hperm.nodup_iff.2 hnd;refine sorted_ext _ _ ?_ (put_sorted ll n h) fun x => ?_
 ·exact (hp.and hnd2).imp fun h => by have h1 := h.1; have h2 := h.2; omega
 ·rw [hperm.mem_iff,mem_put];simp [or_comm]
def movedS (n m : Int) (x : S62) : S62 := ⟨x.f0,if x.f0 = m then put (x.f1.filter fun y => !(y == n)) n else x.f1.filter fun y => !(y == n)⟩
theorem moved_eq (n m : Int) (x : S62) (h : x.f1.Pairwise (· < ·)) : moved1 n m x = movedS n m x := by
 unfold moved1 movedS;by_cases e : x.f0 = m
 ·simp only [if_pos e];rw [sort_put _ n (h.sublist List.filter_sublist) (by simp)]
 ·simp only [if_neg e]
theorem movedS_len (n m : Int) (x : S62) : (movedS n m x).f1.length ≤ x.f1.length + 1 := by
 have h := List.length_filter_le (fun y => !(y == n)) x.f1;unfold movedS;by_cases e : x.f0 = m
 ·simp only [if_pos e];have := put_length (x.f1.filter fun y => !(y == n)) n;omega
 ·simp only [if_neg e];omega
theorem spec_move_ev {l0 : List S50} {l1 : List S62} (h1 : (l1.length : Int) ≤ 1048576) (hx : ∀ x ∈ l1,(x.f1.length : Int) ≤ 1048576) (cap n m : Int) (u : Bool) (hu : Ev (fun k => spec_l26Good.f k l0 (l1.map (movedS n m)) cap) u) :
  ∀ i,i ≤ l1.length → Ev (fun k => spec_MoveItem.l0 k l0 l1 cap n m ((l1.take i).map (movedS n m)) ((l1.take i).any fun x => x.f0 == m) i)
   (if (l1.any fun x => x.f0 == m) = true then (if u = true then (l1.map (movedS n m),true) else ([],false)) else ([],false)) := by
 refine down ?_ ?_
 ·refine Ev.succ ?_;simp only [spec_MoveItem.l0,Int.lt_irrefl,if_false,List.take_length];by_cases hf : (l1.any fun x => x.f0 == m) = true
  ·simp only [if_pos hf];refine Ev.bind hu ?_;cases u <;> simp only [Bool.false_eq_true,if_false,if_true] <;> exact Ev.now _
  ·simp only [if_neg hf];exact Ev.now _
 ·intro i hi ih;have hi' : (i : Int) < (l1.length : Int) := by omega
  have hlen := hx _ (getD_mem z62 hi);have hti : (l1.take i).length = i := by simp; omega
  refine Ev.succ ?_;simp only [spec_MoveItem.l0,if_pos hi'];have inner : ∀ p,p ≤ (l1.getD i z62).f1.length → Ev (fun k => spec_MoveItem.l1 k l0 l1 cap n m ((l1.take i).map (movedS n m)) ((l1.take i).any fun x => x.f0 == m) i (((l1.getD i z62).f1.take p).filter fun y => !(y == n)) p)
    (if (l1.any fun x => x.f0 == m) = true then (if u = true then (l1.map (movedS n m),true) else ([],false)) else ([],false)) := by
   refine down ?_ ?_
   ·refine Ev.succ ?_;have hlf := List.length_filter_le (fun y => !(y == n)) (l1.getD i z62).f1;simp only [spec_MoveItem.l1,if_pos hi',if_pos (Int.natCast_nonneg i),rd_T62,Int.toNat_natCast,Int.lt_irrefl,if_false,List.take_length,List.length_map,hti,if_pos (show i < 4398046511104 by omega),w1 hi (show l1.length ≤ 9223372036854775807 by omega)];rw [take_snoc z62 hi,List.map_append,List.any_append] at ih;by_cases e : (l1.getD i z62).f0 = m
    ·simp only [if_pos e];refine Ev.bind (l1Put_ev n (by omega)) ?_;have e1 : movedS n m (l1.getD i z62) = ⟨(l1.getD i z62).f0,put ((l1.getD i z62).f1.filter fun y => !(y == n)) n⟩ := by unfold movedS; rw [if_pos e]
     have e2 : ([l1.getD i z62].any fun x => x.f0 == m) = true := by simp only [List.any_cons,List.any_nil,Bool.or_false,e,beq_self_eq_true]
     rw [List.map_cons,List.map_nil,e1,e2,Bool.or_true] at ih;rw [← e] at ih ⊢;exact ih
    ·simp only [if_neg e];have e1 : movedS n m (l1.getD i z62) = ⟨(l1.getD i z62).f0,(l1.getD i z62).f1.filter fun y => !(y == n)⟩ := by unfold movedS; rw [if_neg e]
     have e2 : ([l1.getD i z62].any fun x => x.f0 == m) = false := by simp only [List.any_cons,List.any_nil,Bool.or_false,beq_eq_false_iff_ne.2 e]
     rw [List.map_cons,List.map_nil,e1,e2,Bool.or_false] at ih;exact ih
   ·intro p hp ihp;have hp' : (p : Int) < ((l1.getD i z62).f1.length : Int) := by omega
    have hlf := List.length_filter_le (fun y => !(y == n)) ((l1.getD i z62).f1.take p);rw [List.length_take] at hlf;rw [take_snoc (0 : Int) hp,List.filter_append] at ihp;refine Ev.succ ?_;simp only [spec_MoveItem.l1,if_pos hi',if_pos (Int.natCast_nonneg i),rd_T62,rd,Int.toNat_natCast,if_pos hp',if_pos (Int.natCast_nonneg p),w1 hp (show (l1.getD i z62).f1.length ≤ 9223372036854775807 by omega)];by_cases e : (l1.getD i z62).f1.getD p 0 = n
    ·simp only [if_pos e];have e1 : ([(l1.getD i z62).f1.getD p 0].filter fun y => !(y == n)) = [] := by rw [e]; simp
     rw [e1,List.append_nil] at ihp;exact ihp
    ·simp only [if_neg e,if_pos (show (((l1.getD i z62).f1.take p).filter fun y => !(y == n)).length < 17592186044416 by omega)];have e1 : ([(l1.getD i z62).f1.getD p 0].filter fun y => !(y == n)) = [(l1.getD i z62).f1.getD p 0] := by simp only [List.filter_cons,List.filter_nil,beq_eq_false_iff_ne.2 e,Bool.not_false,if_true]
     rw [e1] at ihp;exact ihp
  simpa using inner 0 (by omega)
end Go.Proofs.Ytoadgikbbigdlaa.B
