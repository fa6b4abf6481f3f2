import Derived.Test.YtoadgikbbigdlaaMsBx0
namespace Go.Proofs.Ytoadgikbbigdlaa.B
open Go.RowKit Go.Proofs.YtoadgikbbigdlaaW.PrintWords Go.Proofs.YtoadgikbbigdlaaW.PrintLast Go.Proofs.YtoadgikbbigdlaaW.PrintMore
attribute [local go_sem] max2_int min2_int max_two min_two max_three min_three max_four min_four   -- for this text's walks alone
set_option linter.unusedVariables false
set_option linter.unusedSimpArgs false
section
open Go.Lib Go.Sort
theorem row_open {α : Type} [Inhabited α] {enc : α → Value} {h1 : ∀ x,(enc x).oneCell' = true} {e : Nat} {w : World} {base : Nat} {ok : Nat → Prop} {v : Value} {xs : List α} (h : (Kd.scalar enc h1).R e w base ok v xs) (hp : 0 < xs.length) :
  ∃ g cap,v = .slice (some ⟨g,0,none⟩) xs.length cap ∧ xs.length ≤ cap ∧ base ≤ g ∧ g < w.heap.size ∧ ok g ∧ Holds enc w g 0 xs.toArray := by
 obtain ⟨g,cap,rfl,hb,hl,_⟩ := Kd.R_form h hp;refine ⟨g,cap,rfl,(Kd.R_reads' h).2.1,hb,hl,h.1 g rfl,fun j hj => ?_⟩;have hj' : j < xs.length := by simpa using hj
 have hc := Kd.R_cell (default : α) h (j : Int) (by omega) (by omega);rw [Nat.zero_add];have he : rdOf (default : α) xs (j : Int) = xs.toArray[j]! := by
  rw [getElem!_pos xs.toArray j hj];simp [rdOf,List.getD_eq_getElem?_getD,List.getElem?_eq_getElem hj']
 rw [← he];exact hc
theorem row_put {α : Type} [Inhabited α] {enc : α → Value} {h1 : ∀ x,(enc x).oneCell' = true} {e : Nat} {w : World} {base : Nat} {ok : Nat → Prop} {g cap : Nat} {xs ys : List α}
  (h : (Kd.scalar enc h1).R e w base ok (.slice (some ⟨g,0,none⟩) xs.length cap) xs) (hl : ys.length = xs.length) (n : Nat) (os : Array Obj) :
  (Kd.scalar enc h1).R e (grow (putRow enc (Sort.ahead w n) g 0 ys.toArray) os) base ok (.slice (some ⟨g,0,none⟩) xs.length cap) ys := by
 have hok := h.1;obtain ⟨_,ho⟩ := Kd.own_of_R h
 rcases ho with ⟨hv,_⟩ | ⟨g',cap',cur,hv,hb,hh,h2,h3,h4,h5⟩
 ·cases hv
 ·injection hv with hA _ hc
  injection hA with hA
  injection hA with hA
  subst hA;subst hc;rw [← hl];refine Kd.R_of_own ⟨by simp [encs_length],.inr ⟨g,cap,putCells enc 0 ys.toArray cur,rfl,hb,?_,by omega,h3,by simpa [putCells] using h4,?_⟩⟩ (fun k hk => hok k hk)
  ·have hlt := (Array.getElem?_eq_some_iff.1 hh).1
   show ((w.heap.modify g (onCells (putCells enc 0 ys.toArray))) ++ os)[g]? = _
   rw [Array.getElem?_append_left (by simpa using hlt),Array.getElem?_modify,if_pos rfl,hh];rfl
  ·apply List.ext_getElem
   ·simp [encs_length,putCells];omega
   ·intro i i1 i2;have hi : i < ys.length := by simpa [encs_length] using i2
    simp [encs,putCells,hi]
theorem row_kept {α : Type} [Inhabited α] (enc : α → Value) (w : World) (g : Nat) (ys : Array α) (n : Nat) (os : Array Obj) : Kept w (grow (putRow enc (Sort.ahead w n) g 0 ys) os) (fun k => k = g) := by
 refine ⟨?_,fun i hi hn => ?_⟩
 ·show w.heap.size ≤ ((w.heap.modify g (onCells (putCells enc 0 ys))) ++ os).size
  simp
 ·show ((w.heap.modify g (onCells (putCells enc 0 ys))) ++ os)[i]? = _
  rw [Array.getElem?_append_left (by simpa using hi),Array.getElem?_modify,if_neg (by omega)]
theorem row_below {α : Type} [Inhabited α] (enc : α → Value) {w0 w : World} (hB : Below w0.heap.size w0 w) {g : Nat} (hg : w0.heap.size ≤ g) (ys : Array α) (n : Nat) (os : Array Obj) : Below w0.heap.size w0 (grow (putRow enc (Sort.ahead w n) g 0 ys) os) := by
 have hk := row_kept enc w g ys n os;exact hB.trans ⟨rfl,rfl,rfl,hk.1,fun k hk2 => hk.2 k (Nat.lt_of_lt_of_le hk2 hB.size) (by omega)⟩
end
def slices_Sort_int.f (l0 : List Int) : Option (List Int) := if l0.length < 4611686018427387904 then some (l0.mergeSort fun x y => decide (x ≤ y)) else none
theorem slices_Sort_int.calls (P0_ : Nat → Prop) (u9000_ : Value) (l0 : List Int) (r : List Int) (w0 w : World) (hB : Below w0.heap.size w0 w) (ho0 : Kd.R (Kd.int .i64) 3 w w0.heap.size P0_ u9000_ l0) (h : slices_Sort_int.f l0 = some r) :
  Calls Try.prog 43 #[u9000_] w fun e w' => e = .returned (.tuple #[]) ∧ Kd.R (Kd.int .i64) 3 w' w0.heap.size (fun k_ => (P0_ k_ ∨ w.heap.size ≤ k_)) u9000_ r ∧ Below w0.heap.size w0 w' ∧ Kept w w' (fun k_ => P0_ k_) := by
 unfold slices_Sort_int.f at h
 split at h
 ·rename_i hlt;obtain rfl := Option.some.inj h
  rcases Nat.eq_zero_or_pos l0.length with h0 | h0
  ·obtain rfl := List.eq_nil_of_length_eq_zero h0;obtain ⟨A,c,rfl⟩ := Kd.R_slice ho0;refine (Try.slices_Sort_int_none A c w).mono ?_;rintro e w' ⟨rfl,rfl⟩;rw [List.mergeSort_nil];exact ⟨rfl,Kd.R_mono ho0 (fun _ hk => .inl hk),hB,Kept.refl _ _⟩
  ·obtain ⟨g,cap,rfl,hc,hb,hl,hok,hH⟩ := row_open ho0 h0;refine (Try.slices_Sort_int g 0 cap l0 w hH hl hlt).mono ?_;rintro e w' ⟨rfl,n,os,rfl⟩;exact ⟨rfl,Kd.R_mono (row_put ho0 (by simp) n os) (fun _ hk => .inl hk),row_below _ hB hb _ n os,(row_kept _ w g _ n os).mono (fun k hk => by rw [hk]; exact hok)⟩
 ·cases h
theorem compactUpTo_le (d : Array Int) : ∀ m,(Lib.compactUpTo d m).length ≤ m
 | 0 => by simp [Lib.compactUpTo]
 | m + 1 => by
  have := compactUpTo_le d m;rw [Lib.compactUpTo_succ,List.length_append]
  split <;> simp <;> omega
theorem compact_le (l : List Int) : (Lib.compact l).length ≤ l.length := by
 have := compactUpTo_le l.toArray l.toArray.size
 simpa [Lib.compact] using this
def slices_Compact_int.f (l0 : List Int) : Option (List Int) := some (Lib.compact l0)
theorem slices_Compact_int.calls (P0_ : Nat → Prop) (u9000_ : Value) (l0 : List Int) (r : List Int) (w0 w : World) (hB : Below w0.heap.size w0 w) (ho0 : Kd.R (Kd.int .i64) 3 w w0.heap.size P0_ u9000_ l0) (h : slices_Compact_int.f l0 = some r) :
  Calls Try.prog 44 #[u9000_] w fun e w' => ∃ v0_ : Value,e = .returned (v0_) ∧ Kd.R (Kd.int .i64) 3 w' w0.heap.size (fun k_ => (P0_ k_ ∨ w.heap.size ≤ k_)) v0_ r ∧ Below w0.heap.size w0 w' ∧ Kept w w' (fun k_ => P0_ k_) := by
 obtain rfl := Option.some.inj h
 rcases Nat.eq_zero_or_pos l0.length with h0 | h0
 ·obtain rfl := List.eq_nil_of_length_eq_zero h0;obtain ⟨A,c,rfl⟩ := Kd.R_slice ho0;refine (Try.slices_Compact_int_empty A c w).mono ?_;rintro e w' ⟨rfl,rfl⟩;exact ⟨_,rfl,Kd.R_mono ho0 (fun _ hk => .inl hk),hB,Kept.refl _ _⟩
 ·obtain ⟨g,cap,rfl,hc,hb,hl,hok,hH⟩ := row_open ho0 h0;refine (Try.slices_Compact_int g 0 cap l0 w hH (Kd.C_max (Kd.R_reads' ho0).2.2) hc).mono ?_;rintro e w' ⟨rfl,n,rfl⟩;have hlen : (Lib.compact l0).length ≤ l0.length := compact_le l0;have hp := row_put ho0 (ys := Lib.compact l0 ++ List.replicate (l0.length - (Lib.compact l0).length) 0) (by simp; omega) n #[];have hk := row_kept (Value.int .i64) w g (Lib.compact l0 ++ List.replicate (l0.length - (Lib.compact l0).length) 0).toArray n #[];have hbl := row_below (Value.int .i64) hB hb (Lib.compact l0 ++ List.replicate (l0.length - (Lib.compact l0).length) 0).toArray n #[];simp only [Go.Sort.grow_empty] at hp hk hbl;have ht := Kd.R_take hp (m := (Lib.compact l0).length) (by simp);rw [List.take_left] at ht;exact ⟨_,rfl,Kd.R_mono ht (fun _ hk => .inl hk),hbl,hk.mono (fun k hk => by rw [hk]; exact hok)⟩
end Go.Proofs.Ytoadgikbbigdlaa.B
