import Derived.Test.YtoadgikbbigdlaaMsBPP
namespace Go.Proofs.Ytoadgikbbigdlaa.B
open Go.RowKit Go.Proofs.YtoadgikbbigdlaaW.PrintWords Go.Proofs.YtoadgikbbigdlaaW.PrintLast Go.Proofs.YtoadgikbbigdlaaW.PrintMore
set_option linter.unusedVariables false
theorem own_eq (l : List Int) (h : l.length < 17592186044416) : spec_l1Own.f l = some l := by
 unfold spec_l1Own.f;simp only [Option.bind_some,List.length_nil,Nat.zero_add,if_pos h,List.nil_append]
theorem spec_put_ev {l0 : List S50} {cap n : Int} {Ts : List (List Int)} {left : List Int} (hP : PK l0 cap Ts (n :: left)) {T : List Int} (hT : T ∈ Ts) : (sortedOf T).length < 17592186044415 ∧ T.length ≤ 12 := by
 have h1 := len_flat Ts T hT;have h2 := hP.few;have h3 := (sortedOf_perm (hP.nodupAll hT)).length_eq;simp only [List.length_cons] at h2;omega
theorem L15 : 17592186044415 ≤ 17592186044416 := by omega
theorem Z16 : ([] : List Int).length < 17592186044416 := by rw [List.length_nil]; omega
theorem Z15 : ([] : List Int).length < 17592186044415 := by rw [List.length_nil]; omega
set_option maxHeartbeats 1000000 in
theorem spec_place {l0 : List S50} (hI : ItemsOK l0) {cap n : Int} {Ts : List (List Int)} {left : List Int} (hP : PK l0 cap Ts (n :: left)) (N : List Int) (i : Nat) (hi : i < N.length) (hN : N.length ≤ 12) (hn : N.getD i 0 = n) (r : List S62 × Bool)
  (h : Ev (fun k => spec_PackArchive.l0 k l0 cap (boxesOf (place l0 cap n Ts) 0) N ((i + 1 : Nat) : Int)) r) : Ev (fun k => spec_PackArchive.l0 k l0 cap (boxesOf Ts 0) N (i : Int)) r := by
 have hi' : (i : Int) < (N.length : Int) := by omega
 have hw : wrap64 ((i : Int) + 1) = ((i + 1 : Nat) : Int) := w1 hi (by omega);have hB := hP.boxes;have hL : (boxesOf Ts 0).length = Ts.length := boxesOf_length Ts 0;simp only [List.length_cons] at hB;have hrd : rd N (i : Int) = n := by simpa [rd] using hn
 have full : ∀ j,j < Ts.length → place l0 cap n Ts = Ts.set j (Ts.getD j [] ++ [n]) → Ev (fun k => spec_PackArchive.j2 k l0 cap (boxesOf Ts 0) N (i : Int) (j : Int)) r := by
  intro j hj he;have hm := getD_mem ([] : List Int) hj;obtain ⟨hl,_⟩ := spec_put_ev hP hm;have hat := boxesOf_at Ts 0 j hj;rw [Nat.zero_add] at hat;have hj1 : wrap64 ((j : Int) + 1) = (j : Int) + 1 := by unfold wrap64; omega
  refine Ev.succ ?_;simp only [spec_PackArchive.j2,hL,if_neg (Int.ne_of_lt (Int.ofNat_lt.2 hj)),if_pos (Int.natCast_nonneg j),if_pos (Int.ofNat_lt.2 hj),rd_T62,Int.toNat_natCast,hat,own_eq _ (Nat.lt_of_lt_of_le hl L15),Option.bind_some,if_pos (Int.natCast_nonneg i),if_pos hi',hrd];refine Ev.bind (l1Put_ev n hl) ?_;simp only [hw,hj1];rw [he,← boxesOf_set,Nat.zero_add,sortedOf_snoc] at h;exact h
 have fresh : place l0 cap n Ts = Ts ++ [[n]] → Ev (fun k => spec_PackArchive.j2 k l0 cap (boxesOf Ts 0) N (i : Int) (Ts.length : Int)) r := by
  intro he;have hj1 : wrap64 ((Ts.length : Int) + 1) = (Ts.length : Int) + 1 := by unfold wrap64; omega
  have hat : (boxesOf Ts 0 ++ [(⟨(Ts.length : Int) + 1,([] : List Int)⟩ : S62)]).getD Ts.length z62 = ⟨(Ts.length : Int) + 1,[]⟩ := by
   rw [List.getD_eq_getElem?_getD,List.getElem?_append_right (by omega)];simp [hL]
  refine Ev.succ ?_;simp only [spec_PackArchive.j2,hL,if_true,if_pos (show Ts.length < 4398046511104 by omega),Option.bind_some,if_pos (Int.natCast_nonneg Ts.length),List.length_append,List.length_singleton,if_pos (show (Ts.length : Int) < ((Ts.length + 1 : Nat) : Int) by omega),hj1,rd_T62,Int.toNat_natCast,hat,own_eq [] Z16,if_pos (Int.natCast_nonneg i),if_pos hi',hrd];refine Ev.bind (l1Put_ev n Z15) ?_;simp only [hw,put];rw [he,boxesOf_snoc,Nat.zero_add] at h;rw [List.set_append_right _ _ (by omega)]
  simpa [hL,sortedOf,put] using h
 have step : ∀ j,j < Ts.length → fitB l0 cap n (Ts.getD j []) = false → Ev (fun k => spec_PackArchive.l1 k l0 cap (boxesOf Ts 0) N (i : Int) ((j + 1 : Nat) : Int)) r → Ev (fun k => spec_PackArchive.l1 k l0 cap (boxesOf Ts 0) N (i : Int) (j : Int)) r := by
  intro j hj hf hr;have hm := getD_mem ([] : List Int) hj;obtain ⟨hl,h12⟩ := spec_put_ev hP hm;have hat := boxesOf_at Ts 0 j hj;refine Ev.succ ?_;simp only [spec_PackArchive.l1,hL,if_pos (Int.ofNat_lt.2 hj),if_pos (Int.natCast_nonneg j),rd_T62,Int.toNat_natCast,hat,own_eq _ (Nat.lt_of_lt_of_le hl L15),Option.bind_some,if_pos (Int.natCast_nonneg i),if_pos hi',hrd];refine Ev.bind (l1Put_ev n hl) ?_;refine Ev.bind (fit_spec hI cap (hP.each _ hm).2 (hP.known n (by simp)) h12 (hP.each _ hm).1 (hP.nodupT hm)) ?_;simp only [hf,Bool.false_eq_true,if_false,w1 hj (show Ts.length ≤ 9223372036854775807 by omega)];exact hr
 have hit : ∀ j,j < Ts.length → fitB l0 cap n (Ts.getD j []) = true → place l0 cap n Ts = Ts.set j (Ts.getD j [] ++ [n]) → Ev (fun k => spec_PackArchive.l1 k l0 cap (boxesOf Ts 0) N (i : Int) (j : Int)) r := by
  intro j hj hf he;have hm := getD_mem ([] : List Int) hj;obtain ⟨hl,h12⟩ := spec_put_ev hP hm;have hat := boxesOf_at Ts 0 j hj;refine Ev.succ ?_;simp only [spec_PackArchive.l1,hL,if_pos (Int.ofNat_lt.2 hj),if_pos (Int.natCast_nonneg j),rd_T62,Int.toNat_natCast,hat,own_eq _ (Nat.lt_of_lt_of_le hl L15),Option.bind_some,if_pos (Int.natCast_nonneg i),if_pos hi',hrd];refine Ev.bind (l1Put_ev n hl) ?_;refine Ev.bind (fit_spec hI cap (hP.each _ hm).2 (hP.known n (by simp)) h12 (hP.each _ hm).1 (hP.nodupT hm)) ?_;simp only [hf,if_true];exact full j hj he
 have fin : place l0 cap n Ts = Ts ++ [[n]] → Ev (fun k => spec_PackArchive.l1 k l0 cap (boxesOf Ts 0) N (i : Int) (Ts.length : Int)) r := by
  intro he;refine Ev.succ ?_;simp only [spec_PackArchive.l1,hL,Int.lt_irrefl,if_false];exact fresh he
 refine Ev.succ ?_;simp only [spec_PackArchive.l0,if_pos hi']
 rcases place_find l0 cap n Ts 0 (by omega) with ⟨_,h2,h3⟩ | ⟨j,h1,_,h3,h4,h5⟩
 ·have := down (p := fun j => Ev (fun k => spec_PackArchive.l1 k l0 cap (boxesOf Ts 0) N (i : Int) (j : Int)) r) (fin h2) (fun j hj ih => step j hj (h3 j hj) ih) 0 (by omega);exact this
 ·have := down (p := fun j => Ev (fun k => spec_PackArchive.l1 k l0 cap (boxesOf Ts 0) N (i : Int) (j : Int)) r) (hit j h1 h4 h3) (fun m hm ih => step m (by omega) (h5 m hm) ih) 0 (by omega);exact this
theorem spec_pack_ev {l0 : List S50} (hI : ItemsOK l0) (cap : Int) (N : List Int) (hN : N.length ≤ 12) : ∀ (left : List Int) (i : Nat) (Ts : List (List Int)),N.drop i = left → i ≤ N.length → PK l0 cap Ts left →
  Ev (fun k => spec_PackArchive.l0 k l0 cap (boxesOf Ts 0) N (i : Int)) (boxesOf (placeAll l0 cap Ts left) 0,true)
 | [],i,Ts,hd,hi,hP => by
  have : i = N.length := by
   have := congrArg List.length hd;rw [List.length_drop] at this;simp at this;omega
  subst this;refine Ev.succ ?_;simp only [spec_PackArchive.l0,Int.lt_irrefl,if_false,placeAll];exact Ev.now _
 | n :: left,i,Ts,hd,hi,hP => by
  have hi2 : i < N.length := by
   rcases Nat.lt_or_ge i N.length with h | h
   ·exact h
   ·rw [List.drop_of_length_le h] at hd;cases hd
  rw [drop_cons 0 hi2] at hd;injection hd with h1 h2
  exact spec_place hI hP N i hi2 hN h1 _ (spec_pack_ev hI cap N hN left (i + 1) (place l0 cap n Ts) h2 (by omega) hP.next)
theorem ready_ev {l0 : List S50} (hl : l0.length ≤ 9223372036854775807) (cap : Int) (b : Bool) (hb : Ev (fun k => spec_l26Items.f k l0) b) :
  Ev (fun k => spec_l26Ready.f k l0 cap) (if (l0.any fun x => decide (cap < x.f2)) = true then false else if b = true then (decide (1 ≤ cap) && decide (cap ≤ 10000)) else false) := by
 have key : ∀ i,i ≤ l0.length → Ev (fun k => spec_l26Ready.l0 k l0 cap i) (if ((l0.drop i).any fun x => decide (cap < x.f2)) = true then false else if b = true then (decide (1 ≤ cap) && decide (cap ≤ 10000)) else false) := by
  refine down ?_ ?_
  ·refine Ev.succ ?_;simp only [spec_l26Ready.l0,Int.lt_irrefl,if_false,List.drop_length,List.any_nil,Bool.false_eq_true];refine Ev.bind hb ?_;cases b with
   | true => simp only [if_true,l1In_eq,Option.bind_some]; exact Ev.now _
   | false => simp only [Bool.false_eq_true,if_false]; exact Ev.now _
  ·intro i hi ih;refine Ev.succ ?_;rw [drop_cons z50 hi,List.any_cons];simp only [spec_l26Ready.l0,if_pos (Int.ofNat_lt.2 hi),if_pos (Int.natCast_nonneg i),rd_T50,Int.toNat_natCast,w1 hi hl];by_cases h : (l0.getD i z50).f2 > cap
   ·have h' : decide (cap < (l0.getD i z50).f2) = true := decide_eq_true h;simp only [if_pos h,h',Bool.true_or,if_true];exact Ev.now _
   ·have h' : decide (cap < (l0.getD i z50).f2) = false := decide_eq_false h;simp only [if_neg h,h',Bool.false_or];exact ih
 have h := key 0 (by omega);rw [List.drop_zero] at h;exact h
theorem pack_spec {l0 : List S50} (h0 : (l0.length : Int) ≤ 1048576) (cap : Int) : ∃ (r : List S62) (b : Bool),r.length ≤ 12 ∧ (∀ x ∈ r,(x.f1.length : Int) ≤ 12) ∧ Ev (fun k => spec_PackArchive.f k l0 cap) (r,b) := by
 obtain ⟨b,hb,hOK⟩ := items_true (l := l0) (by omega);have hR := ready_ev (by omega) cap b hb;have no : (if (l0.any fun x => decide (cap < x.f2)) = true then false else if b = true then (decide (1 ≤ cap) && decide (cap ≤ 10000)) else false) = false → ∃ (r : List S62) (b : Bool),r.length ≤ 12 ∧ (∀ x ∈ r,(x.f1.length : Int) ≤ 12) ∧ Ev (fun k => spec_PackArchive.f k l0 cap) (r,b) := by
  intro hn;refine ⟨[],false,by simp,by simp,?_⟩
  ·rw [hn] at hR;unfold spec_PackArchive.f;simp only [Option.bind_some];refine Ev.bind hR ?_;simp only [Bool.false_eq_true,if_false];exact Ev.now _
 by_cases hh : (l0.any fun x => decide (cap < x.f2)) = true
 ·exact no (by rw [if_pos hh])
 cases b with
 | false => exact no (by rw [if_neg hh]; rfl)
 | true =>
  by_cases hc : (decide (1 ≤ cap) && decide (cap ≤ 10000)) = true
  ·have hI := hOK rfl;have hL := hI.1;have hk : ∀ m ∈ (ordN l0 l0.length).map (nm l0),0 ≤ ix l0 m := fun m hm => by
    obtain ⟨j,hj,rfl⟩ := List.mem_map.1 hm;unfold nm;rw [ix_of hI (ordN_lt l0 hj)];omega
   have hnd : ((ordN l0 l0.length).map (nm l0)).Nodup := by
    have h1 : (ordN l0 l0.length).Nodup := (ordN_perm l0 l0.length).nodup_iff.2 List.nodup_range;unfold List.Nodup;rw [List.pairwise_map];refine List.Pairwise.imp_of_mem (fun ha hb hne e => hne ?_) h1;have e1 := ix_of hI (ordN_lt l0 ha);have e2 := ix_of hI (ordN_lt l0 hb);unfold nm at e;rw [e] at e1;omega
   have hP : PK l0 cap [] ((ordN l0 l0.length).map (nm l0)) := ⟨fun T h => by simp at h,by simpa using hnd,hk,by simp [ordN_len]; omega,by simp [ordN_len]; omega⟩;have hlen : ((ordN l0 l0.length).map (nm l0)).length ≤ 12 := by simp [ordN_len]; omega
   have hS := spec_pack_ev hI cap _ hlen _ 0 [] rfl (by omega) hP;have hPall : ∀ (left : List Int) (Ts : List (List Int)),PK l0 cap Ts left → PK l0 cap (placeAll l0 cap Ts left) [] := by
    intro left
    induction left with
    | nil => intro Ts h; exact h
    | cons n t ih => intro Ts h; exact ih _ h.next
   have hQ := hPall _ _ hP;have hq1 := hQ.boxes;have hq2 := hQ.few;simp only [List.length_nil] at hq1 hq2;refine ⟨boxesOf (placeAll l0 cap [] ((ordN l0 l0.length).map (nm l0))) 0,true,by rw [boxesOf_length]; omega,fun x hx => ?_,?_⟩
   ·obtain ⟨j,hj⟩ := List.getElem?_of_mem hx;have hjl := (List.getElem?_eq_some_iff.1 hj).1;rw [boxesOf_length] at hjl;have he := boxesOf_at _ 0 j hjl;rw [List.getD_eq_getElem?_getD,hj] at he;simp only [Option.getD_some] at he;have hm := getD_mem ([] : List Int) hjl;have := len_flat _ _ hm;have := (sortedOf_perm (hQ.nodupAll hm)).length_eq;rw [he]
    show ((sortedOf _).length : Int) ≤ 12
    omega
   ·rw [if_neg hh,if_pos rfl,hc] at hR;unfold spec_PackArchive.f;simp only [Option.bind_some];refine Ev.bind hR ?_;simp only [if_true];refine Ev.bind (spec_order_ev hI) ?_;exact hS
  ·exact no (by rw [if_neg hh,if_pos rfl]; simpa using hc)
end Go.Proofs.Ytoadgikbbigdlaa.B
