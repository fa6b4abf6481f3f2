import Derived.Test.YtoadgikbbigdlaaMsBPO
namespace Go.Proofs.Ytoadgikbbigdlaa.B
open Go.RowKit Go.Proofs.YtoadgikbbigdlaaW.PrintWords Go.Proofs.YtoadgikbbigdlaaW.PrintLast Go.Proofs.YtoadgikbbigdlaaW.PrintMore
set_option linter.unusedVariables false
theorem sumW_perm {l0 : List S50} {a b : List Int} (h : a.Perm b) : sumW l0 a = sumW l0 b := by
 induction h with
 | nil => rfl
 | cons x _ ih => rw [sumW_cons,sumW_cons,ih]
 | swap x y l => simp only [sumW_cons]; omega
 | trans _ _ h1 h2 => rw [h1,h2]
theorem put_perm : ∀ (S : List Int) (n : Int),n ∉ S → (put S n).Perm (n :: S)
 | [],n,_ => List.Perm.refl _
 | x :: t,n,h => by
  unfold put
  split
  ·exact (List.Perm.cons x (put_perm t n (fun h2 => h (by simp [h2])))).trans (List.Perm.swap n x t)
  ·split
   ·rename_i h2;exact absurd (by simp [h2]) h
   ·exact List.Perm.refl _
def sortedOf (T : List Int) : List Int := T.foldl put []
theorem puts_perm : ∀ (T S : List Int),(S ++ T).Nodup → (T.foldl put S).Perm (S ++ T)
 | [],S,_ => by simp
 | n :: t,S,h => by
  have hn : n ∉ S := fun h2 => by
   have := (List.nodup_append.1 h).2.2 n h2 n (by simp);exact this rfl
  have hp := put_perm S n hn;have h3 : (put S n ++ t).Perm (S ++ n :: t) := (List.Perm.append_right t hp).trans (by
   rw [List.cons_append];exact (List.perm_middle).symm)
  exact (puts_perm t (put S n) (h3.nodup_iff.2 h)).trans h3
theorem sortedOf_perm {T : List Int} (h : T.Nodup) : (sortedOf T).Perm T := by
 unfold sortedOf
 simpa using puts_perm T [] (by simpa using h)
theorem sortedOf_snoc (T : List Int) (n : Int) : sortedOf (T ++ [n]) = put (sortedOf T) n := by simp [sortedOf]
theorem pw_idx {l0 : List S50} {ns : List Int} : (∀ i j,i < j → j < ns.length → shareB (mt l0 (ns.getD j 0)) (mt l0 (ns.getD i 0)) = true) ↔ ns.Pairwise (fun a b => shareB (mt l0 a) (mt l0 b) = true) := by
 rw [List.pairwise_iff_getElem]
 constructor
 ·intro h i j hi hj hij;have := h i j hij hj;rw [share_symm]
  simpa [List.getD_eq_getElem?_getD,List.getElem?_eq_getElem hi,List.getElem?_eq_getElem hj] using this
 ·intro h i j hij hj;have := h i j (by omega) hj hij;rw [share_symm]
  simpa [List.getD_eq_getElem?_getD,List.getElem?_eq_getElem hj,List.getElem?_eq_getElem (show i < ns.length by omega)] using this
def fitB (l0 : List S50) (cap : Int) (n : Int) (T : List Int) : Bool := (T.all fun m => shareB (mt l0 m) (mt l0 n)) && decide (wt l0 n + sumW l0 T ≤ cap)
theorem fitB_iff {l0 : List S50} {cap n : Int} {T : List Int} : fitB l0 cap n T = true ↔ (∀ m ∈ T,shareB (mt l0 m) (mt l0 n) = true) ∧ wt l0 n + sumW l0 T ≤ cap := by
 simp [fitB]
theorem fit_spec {l0 : List S50} (hI : ItemsOK l0) {T : List Int} {n : Int} (cap : Int) (hT : ∀ m ∈ T,0 ≤ ix l0 m) (hn : 0 ≤ ix l0 n) (hl : T.length ≤ 12) (hs : T.Pairwise (fun a b => shareB (mt l0 a) (mt l0 b) = true)) (hd : (n :: T).Nodup) :
  Ev (fun k => spec_l26Fits.f k l0 (put (sortedOf T) n) cap) (fitB l0 cap n T) := by
 obtain ⟨h1,h2⟩ := List.nodup_cons.1 hd;have hp : (put (sortedOf T) n).Perm (n :: T) := by
  have hq := sortedOf_perm h2;exact (put_perm _ n (fun h3 => h1 (hq.mem_iff.1 h3))).trans (List.Perm.cons n hq)
 obtain ⟨b,hb,hi⟩ := spec_fits_ev hI (put (sortedOf T) n) cap (fun m hm => by
  rcases List.mem_cons.1 (hp.mem_iff.1 hm) with rfl | h3
  ·exact hn
  ·exact hT m h3) (by rw [hp.length_eq,List.length_cons]; omega)
 have e : b = fitB l0 cap n T := by
  rw [Bool.eq_iff_iff,hi,fitB_iff,pw_idx,hp.pairwise_iff (fun {x y} h => by rw [share_symm]; exact h),List.pairwise_cons,sumW_perm hp,sumW_cons]
  constructor
  ·rintro ⟨⟨h3,_⟩,h4⟩;exact ⟨fun m hm => by rw [share_symm]; exact h3 m hm,h4⟩
  ·rintro ⟨h3,h4⟩;exact ⟨⟨fun m hm => by rw [share_symm]; exact h3 m hm,hs⟩,h4⟩
 rw [← e];exact hb
def place (l0 : List S50) (cap n : Int) : List (List Int) → List (List Int)
 | [] => [[n]]
 | T :: r => if fitB l0 cap n T = true then (T ++ [n]) :: r else T :: place l0 cap n r
theorem place_find (l0 : List S50) (cap n : Int) : ∀ (Ts : List (List Int)) (i : Int),0 ≤ i →
  (findI (fitB l0 cap n) Ts i = -1 ∧ place l0 cap n Ts = Ts ++ [[n]] ∧ ∀ m,m < Ts.length → fitB l0 cap n (Ts.getD m []) = false) ∨
  (∃ j,j < Ts.length ∧ findI (fitB l0 cap n) Ts i = i + j ∧ place l0 cap n Ts = Ts.set j (Ts.getD j [] ++ [n]) ∧ fitB l0 cap n (Ts.getD j []) = true ∧ ∀ m,m < j → fitB l0 cap n (Ts.getD m []) = false)
 | [],i,_ => .inl ⟨rfl,rfl,fun m h => by simp at h⟩
 | T :: r,i,hi => by
  by_cases h : fitB l0 cap n T = true
  ·exact .inr ⟨0,by simp,by simp [findI,h],by simp [place,h],by simpa using h,fun m hm => by omega⟩
  ·simp only [Bool.not_eq_true] at h
   rcases place_find l0 cap n r (i + 1) (by omega) with ⟨h1,h2,h3⟩ | ⟨j,h1,h2,h3,h4,h5⟩
   ·refine .inl ⟨by simp [findI,h,h1],by simp [place,h,h2],fun m hm => ?_⟩;cases m with
    | zero => simpa using h
    | succ m => simpa using h3 m (by simpa using hm)
   ·refine .inr ⟨j + 1,by simpa using h1,by simp only [findI,h,Bool.false_eq_true,if_false,h2]; push_cast; omega,by simp [place,h,h3],by simpa using h4,fun m hm => ?_⟩;cases m with
    | zero => simpa using h
    | succ m => simpa using h5 m (by omega)
theorem place_flat (l0 : List S50) (cap n : Int) : ∀ Ts : List (List Int),(place l0 cap n Ts).flatten.Perm (n :: Ts.flatten)
 | [] => by simp [place]
 | T :: r => by
  unfold place
  split
  ·simp only [List.flatten_cons,List.append_assoc];exact List.perm_middle
  ·simp only [List.flatten_cons];exact (List.Perm.append_left T (place_flat l0 cap n r)).trans List.perm_middle
theorem place_len (l0 : List S50) (cap n : Int) : ∀ Ts : List (List Int),(place l0 cap n Ts).length ≤ Ts.length + 1
 | [] => by simp [place]
 | T :: r => by
  unfold place;have := place_len l0 cap n r
  split <;> simp <;> omega
structure PK (l0 : List S50) (cap : Int) (Ts : List (List Int)) (left : List Int) : Prop where
 each : ∀ T ∈ Ts,T.Pairwise (fun a b => shareB (mt l0 a) (mt l0 b) = true) ∧ ∀ m ∈ T,0 ≤ ix l0 m
 nodup : (Ts.flatten ++ left).Nodup
 known : ∀ m ∈ left,0 ≤ ix l0 m
 few : Ts.flatten.length + left.length ≤ 12
 boxes : Ts.length + left.length ≤ 12
theorem len_flat : ∀ (Ts : List (List Int)) T,T ∈ Ts → T.length ≤ Ts.flatten.length
 | [],T,h => by simp at h
 | U :: r,T,h => by
  rw [List.flatten_cons,List.length_append]
  rcases List.mem_cons.1 h with rfl | h
  ·omega
  ·have := len_flat r T h;omega
theorem PK.next {l0 : List S50} {cap n : Int} {Ts : List (List Int)} {left : List Int} (h : PK l0 cap Ts (n :: left)) : PK l0 cap (place l0 cap n Ts) left := by
 have hp := place_flat l0 cap n Ts;have hn := h.known n (by simp);have each : ∀ Us : List (List Int),(∀ T ∈ Us,T.Pairwise (fun a b => shareB (mt l0 a) (mt l0 b) = true) ∧ ∀ m ∈ T,0 ≤ ix l0 m) → ∀ T ∈ place l0 cap n Us,T.Pairwise (fun a b => shareB (mt l0 a) (mt l0 b) = true) ∧ ∀ m ∈ T,0 ≤ ix l0 m := by
  intro Us
  induction Us with
  | nil =>
   intro _ T hT;simp only [place,List.mem_singleton] at hT;subst hT;exact ⟨by simp,fun m hm => by rw [List.mem_singleton.1 hm]; exact hn⟩
  | cons U r ih =>
   intro hU T hT;unfold place at hT
   split at hT
   ·rename_i hf
    rcases List.mem_cons.1 hT with rfl | hT
    ·obtain ⟨a,b⟩ := hU U (by simp);refine ⟨List.pairwise_append.2 ⟨a,by simp,fun x hx y hy => ?_⟩,fun m hm => ?_⟩
     ·rw [List.mem_singleton.1 hy];exact (fitB_iff.1 hf).1 x hx
     ·rcases List.mem_append.1 hm with hm | hm
      ·exact b m hm
      ·rw [List.mem_singleton.1 hm]; exact hn
    ·exact hU T (by simp [hT])
   ·rcases List.mem_cons.1 hT with rfl | hT
    ·exact hU T (by simp)
    ·exact ih (fun V hV => hU V (by simp [hV])) T hT
 refine ⟨each Ts h.each,?_,fun m hm => h.known m (by simp [hm]),?_,?_⟩
 ·have h2 : ((place l0 cap n Ts).flatten ++ left).Perm (Ts.flatten ++ n :: left) := (List.Perm.append_right left hp).trans List.perm_middle.symm;exact h2.nodup_iff.2 h.nodup
 ·have := h.few;rw [hp.length_eq];simp only [List.length_cons] at this ⊢;omega
 ·have := h.boxes;have := place_len l0 cap n Ts;simp only [List.length_cons] at *;omega
theorem PK.nodupT {l0 : List S50} {cap : Int} {Ts : List (List Int)} {n : Int} {left : List Int} (h : PK l0 cap Ts (n :: left)) {T : List Int} (hT : T ∈ Ts) : (n :: T).Nodup := by
 obtain ⟨h1,h2,h3⟩ := List.nodup_append.1 h.nodup;refine List.nodup_cons.2 ⟨fun hm => h3 n (List.mem_flatten.2 ⟨T,hT,hm⟩) n (by simp) rfl,?_⟩;exact (List.sublist_flatten_of_mem hT).nodup h1
theorem PK.nodupAll {l0 : List S50} {cap : Int} {Ts : List (List Int)} {left : List Int} (h : PK l0 cap Ts left) {T : List Int} (hT : T ∈ Ts) : T.Nodup := (List.sublist_flatten_of_mem hT).nodup (List.nodup_append.1 h.nodup).1
def placeAll (l0 : List S50) (cap : Int) (Ts : List (List Int)) : List Int → List (List Int)
 | [] => Ts
 | n :: t => placeAll l0 cap (place l0 cap n Ts) t
def boxesOf : List (List Int) → Nat → List S62
 | [],_ => []
 | T :: r,b => ⟨(b : Int) + 1,sortedOf T⟩ :: boxesOf r (b + 1)
theorem boxesOf_length : ∀ (Ts : List (List Int)) (b : Nat),(boxesOf Ts b).length = Ts.length
 | [],_ => rfl
 | T :: r,b => by simp [boxesOf,boxesOf_length r]
theorem boxesOf_at : ∀ (Ts : List (List Int)) (b j : Nat),j < Ts.length → (boxesOf Ts b).getD j z62 = ⟨((b + j : Nat) : Int) + 1,sortedOf (Ts.getD j [])⟩
 | [],_,_,h => by simp at h
 | T :: r,b,0,_ => by simp [boxesOf]
 | T :: r,b,j + 1,h => by
  have := boxesOf_at r (b + 1) j (by simpa using h);simp only [boxesOf,List.getD_cons_succ,this];rw [show b + 1 + j = b + (j + 1) from by omega]
theorem boxesOf_set : ∀ (Ts : List (List Int)) (b j : Nat) (T : List Int),(boxesOf Ts b).set j ⟨((b + j : Nat) : Int) + 1,sortedOf T⟩ = boxesOf (Ts.set j T) b
 | [],_,_,_ => by simp [boxesOf]
 | U :: r,b,0,T => by simp [boxesOf]
 | U :: r,b,j + 1,T => by
  have := boxesOf_set r (b + 1) j T;simp only [boxesOf,List.set_cons_succ];rw [show b + (j + 1) = b + 1 + j from by omega,this]
theorem boxesOf_snoc : ∀ (Ts : List (List Int)) (b : Nat) (T : List Int),boxesOf (Ts ++ [T]) b = boxesOf Ts b ++ [⟨((b + Ts.length : Nat) : Int) + 1,sortedOf T⟩]
 | [],b,T => by simp [boxesOf]
 | U :: r,b,T => by
  have := boxesOf_snoc r (b + 1) T;simp only [List.cons_append,boxesOf,this,List.length_cons];rw [show b + (r.length + 1) = b + 1 + r.length from by omega]
end Go.Proofs.Ytoadgikbbigdlaa.B
