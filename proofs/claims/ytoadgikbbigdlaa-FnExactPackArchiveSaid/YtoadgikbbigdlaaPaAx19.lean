import Derived.Test.YtoadgikbbigdlaaPaAx0
import Derived.Test.YtoadgikbbigdlaaPaAx14
namespace Go.Proofs.Ytoadgikbbigdlaa.A
open Go.RowKit Go.Proofs.YtoadgikbbigdlaaW.PrintWords Go.Proofs.YtoadgikbbigdlaaW.PrintLast Go.Proofs.YtoadgikbbigdlaaW.PrintMore
attribute [local go_sem] max2_int min2_int max_two min_two max_three min_three max_four min_four   -- for this text's walks alone
set_option linter.unusedVariables false
set_option linter.unusedSimpArgs false
section
open Go.Lib Go.Sort Go.Shelf
theorem map_bang {α β : Type} [Inhabited α] [Inhabited β] (f : α → β) (hd : f default = default) (d : Array α) (j : Nat) : (d.map f)[j]! = f d[j]! := by
 by_cases h : j < d.size
 ·rw [getElem!_pos _ j (by simpa using h), getElem!_pos d j h]
  simp
 ·rw [getElem!_neg _ j (by simpa using h), getElem!_neg d j h, hd]
theorem swp_map {α β : Type} [Inhabited α] [Inhabited β] (f : α → β) (hd : f default = default) (d : Array α) (i j : Nat) : (swp d i j).map f = swp (d.map f) i j := by
 unfold swp
 rw [map_bang f hd, map_bang f hd]
 simp
theorem insInner_map {α β : Type} [Inhabited α] [Inhabited β] (f : α → β) (hd : f default = default) (lt' : α → α → Bool) (lt : β → β → Bool) (hl : ∀ x y, lt' x y = lt (f x) (f y)) (a : Nat) : ∀ (j : Nat) (d : Array α), (insInner lt' a j d).map f = insInner lt a j (d.map f)
 | 0, d => by simp [insInner]
 | j + 1, d => by
  unfold insInner
  rw [hl, ← map_bang f hd, ← map_bang f hd]
  split
  ·rw [insInner_map f hd lt' lt hl a j, swp_map f hd]
  ·rfl
theorem insOuter_map {α β : Type} [Inhabited α] [Inhabited β] (f : α → β) (hd : f default = default) (lt' : α → α → Bool) (lt : β → β → Bool) (hl : ∀ x y, lt' x y = lt (f x) (f y)) (a b : Nat) : ∀ (n i : Nat) (d : Array α), b - i = n → (insOuter lt' a b i d).map f = insOuter lt a b i (d.map f)
 | 0, i, d, hn => by rw [insOuter_stop lt' a b i d (by omega), insOuter_stop lt a b i (d.map f) (by omega)]
 | n + 1, i, d, hn => by rw [insOuter_go lt' a b i d (by omega), insOuter_go lt a b i (d.map f) (by omega), insOuter_map f hd lt' lt hl a b n (i + 1) _ (by omega), insInner_map f hd lt' lt hl]
theorem insertionSort_map {α β : Type} [Inhabited α] [Inhabited β] (f : α → β) (hd : f default = default) (lt' : α → α → Bool) (lt : β → β → Bool) (hl : ∀ x y, lt' x y = lt (f x) (f y)) (d : Array α) (a b : Nat) : (Sort.insertionSort lt' d a b).map f = Sort.insertionSort lt (d.map f) a b := insOuter_map f hd lt' lt hl a b _ _ d rfl
theorem size_insertionSort {α : Type} [Inhabited α] (lt : α → α → Bool) (a b : Nat) (d : Array α) : (Sort.insertionSort lt d a b).size = d.size := by
 have inner : ∀ (j : Nat) (d : Array α), (insInner lt a j d).size = d.size := by
  intro j
  induction j with
  | zero => intro d; simp [insInner]
  | succ j ih =>
   intro d
   unfold insInner
   split
   ·rw [ih, size_swp]
   ·rfl
 have outer : ∀ (n i : Nat) (d : Array α), b - i = n → (insOuter lt a b i d).size = d.size := by
  intro n
  induction n with
  | zero => intro i d hn; rw [insOuter_stop lt a b i d (by omega)]
  | succ n ih => intro i d hn; rw [insOuter_go lt a b i d (by omega), ih (i + 1) _ (by omega), inner]
 exact outer _ _ d rfl
def wtAt (l1 : List S50) (x : Int) : Int := (rd_T50 l1 x).f2
theorem pack1_gives (A1 : Option Addr) (c1 : Nat) (l1 : List S50) (B : Nat) (x y : Int) (hx : 0 ≤ x ∧ x < (l1.length : Int)) (hy : 0 ≤ y ∧ y < (l1.length : Int)) (W : World) (hC : Kd.C k50 W A1 l1.length l1) (hb : W.cell? ⟨B, 0, none⟩ = some (.slice A1 l1.length c1)) :
  Calls Try.prog 70 #[.int .i64 x, .int .i64 y, .pointer (some ⟨B, 0, none⟩)] W fun e w' => e = .returned (.int .i64 (Lib.compareInt (wtAt l1 y) (wtAt l1 x))) ∧ ∃ q, w' = W.drewN q := by
 obtain ⟨hx0, hx1⟩ := hx
 obtain ⟨hy0, hy1⟩ := hy
 obtain ⟨ad, rfl, _, _, f2⟩ := at_T50 hC x hx0 hx1
 obtain ⟨ad', e', _, _, g2⟩ := at_T50 hC y hy0 hy1
 obtain rfl := Option.some.inj e'
 have hm := Kd.C_max hC
 clear hC e'
 have hcc := fun W => Try.cmp_Compare_int (wtAt l1 y) (wtAt l1 x) W
 have HCC := Aside0.mk hcc
 clear hcc
 have f2' : W.cell? ⟨(ad.add (x.toNat * 3)).block, (ad.add (x.toNat * 3)).off + 2, none⟩ = some (.int .i64 (wtAt l1 x)) := f2
 have g2' : W.cell? ⟨(ad.add (y.toNat * 3)).block, (ad.add (y.toNat * 3)).off + 2, none⟩ = some (.int .i64 (wtAt l1 y)) := g2
 clear f2 g2
 generalize wtAt l1 x = u at f2' HCC ⊢
 generalize wtAt l1 y = v at g2' HCC ⊢
 generalize Lib.compareInt v u = r at HCC ⊢
 go_enter Try.func70, Try.ntmps70
 go_wp2_with fail
 go_quiet ((go_at_call 71; exact Calls.quiet_of_same (HCC.out _)))
 go_wp2_with fail
 go_ret
 exact ⟨rfl, _, rfl⟩
theorem stableNil (A : Option Addr) (c : Nat) (fv : Value) (w : World) :
  Calls Try.prog 69 #[.slice A 0 c, fv] w fun e w' => e = .returned (.tuple #[]) ∧ w' = w := by
 have h105 : ∀ W, Calls Try.prog 105 #[.slice A 0 c, .int .i64 0, .int .i64 0, fv] W fun e w' => e = .returned (.tuple #[]) ∧ w' = W := by
  intro W
  go_enter Try.func105, Try.ntmps105
  go_wp2
  refine wp_loop_rounds 1 ?_
  rw [rounds_succ]
  go_wp2
  go_end0
  exact ⟨rfl, rfl⟩
 have H105 := Aside0.mk h105
 clear h105
 have h92 : ∀ W, Calls Try.prog 92 #[.slice A 0 c, .int .i64 0, fv] W fun e w' => e = .returned (.tuple #[]) ∧ w' = W := by
  intro W
  go_enter Try.func92, Try.ntmps92
  go_wp2
  refine wp_loop_rounds 1 ?_
  rw [rounds_succ]
  go_wp2_with (go_at_call 105; refine (H105.out _).mono ?_; rintro e w' ⟨rfl, rfl⟩)
  refine wp_loop_rounds 1 ?_
  rw [rounds_succ]
  go_wp2
  go_end0
  exact ⟨rfl, rfl⟩
 have H92 := Aside0.mk h92
 clear h92
 go_enter Try.func69, Try.ntmps69
 go_wp2_with (go_at_call 92; refine (H92.out _).mono ?_; rintro e w' ⟨rfl, rfl⟩)
 go_end0
 exact ⟨rfl, rfl⟩
theorem stableSmall (g cap n : Nat) (fv : Value) (w : World) (Q : World → Prop) (hn : n < 20)
  (h105 : Calls Try.prog 105 #[.slice (some ⟨g, 0, none⟩) n cap, .int .i64 0, .int .i64 n, fv] w fun e w' => e = .returned (.tuple #[]) ∧ Q w') :
  Calls Try.prog 69 #[.slice (some ⟨g, 0, none⟩) n cap, fv] w fun e w' => e = .returned (.tuple #[]) ∧ Q w' := by
 have H105 := Aside0.mk h105
 clear h105
 have hn1 : ¬ (20 : Int) ≤ (n : Int) := by omega
 have hn2 : ¬ (20 : Int) < (n : Int) := by omega
 have h92 : Calls Try.prog 92 #[.slice (some ⟨g, 0, none⟩) n cap, .int .i64 n, fv] w fun e w' => e = .returned (.tuple #[]) ∧ Q w' := by
  go_enter Try.func92, Try.ntmps92
  go_wp2
  refine wp_loop_rounds 1 ?_
  rw [rounds_succ]
  go_wp2_with (go_at_call 105; refine H105.out.mono ?_; rintro e w' ⟨rfl, hq⟩; have HQ := Aside0.mk hq; clear hq)
  refine wp_loop_rounds 1 ?_
  rw [rounds_succ]
  go_wp2
  go_end0
  exact ⟨rfl, HQ.out⟩
 have H92 := Aside0.mk h92
 clear h92
 go_enter Try.func69, Try.ntmps69
 go_wp2_with (go_at_call 92; refine H92.out.mono ?_; rintro e w' ⟨rfl, hq⟩; have HQ := Aside0.mk hq; clear hq)
 go_end0
 exact ⟨rfl, HQ.out⟩
def stable_Pack1.f (l0 : List Int) (l1 : List S50) : Option (List Int) := if l0.length < 20 ∧ ∀ x ∈ l0, 0 ≤ x ∧ x < (l1.length : Int) then some (Sort.insertionSort (fun x y => decide (wtAt l1 x > wtAt l1 y)) l0.toArray 0 l0.length).toList else none
theorem sub_list {p : Int → Prop} : ∀ (l : List Int), (∀ x ∈ l, p x) → ∃ d : List {z : Int // p z}, d.map Subtype.val = l
 | [], _ => ⟨[], rfl⟩
 | x :: t, h => by
  obtain ⟨d, hd⟩ := sub_list t (fun y hy => h y (by simp [hy]))
  exact ⟨⟨x, h x (by simp)⟩ :: d, by simp [hd]⟩
theorem putRow_val {p : Int → Prop} [Inhabited {z : Int // p z}] (hd : (default : {z : Int // p z}).1 = 0) (w : World) (blk : Nat) (d : Array {z : Int // p z}) : putRow (fun z : {z : Int // p z} => Value.int .i64 z.1) w blk 0 d = putRow (Value.int .i64) w blk 0 (d.map Subtype.val) := by
 unfold putRow
 congr 1
 funext c
 unfold putCells
 congr 1
 funext k x
 rw [map_bang Subtype.val hd]
 simp
theorem stable_Pack1.calls (P0_ : Nat → Prop) (u9000_ : Value) (l0 : List Int) (A1 : Option Addr) (c1 : Nat) (l1 : List S50) (B : Nat) (r : List Int) (w0 w : World) (hB : Below w0.heap.size w0 w) (ho0 : Kd.R (Kd.int .i64) 3 w w0.heap.size P0_ u9000_ l0)
  (hr1 : ∀ W', Kept w W' P0_ → Kd.C k50 W' A1 l1.length l1) (hc1 : l1.length ≤ c1) (hb : w.heap[B]? = some (.cells #[.slice A1 l1.length c1] 29 (0, 0))) (hnb : ¬ P0_ B) (h : stable_Pack1.f l0 l1 = some r) :
  Calls Try.prog 69 #[u9000_, .func (.func 70) #[] #[.pointer (some ⟨B, 0, none⟩)]] w fun e w' => e = .returned (.tuple #[]) ∧ Kd.R (Kd.int .i64) 3 w' w0.heap.size (fun k_ => (P0_ k_ ∨ w.heap.size ≤ k_)) u9000_ r ∧ Below w0.heap.size w0 w' ∧ Kept w w' (fun k_ => P0_ k_) := by
 unfold stable_Pack1.f at h
 split at h
 ·rename_i hg
  obtain ⟨hl, hall⟩ := hg
  obtain rfl := Option.some.inj h
  rcases Nat.eq_zero_or_pos l0.length with h0 | h0
  ·obtain rfl := List.eq_nil_of_length_eq_zero h0
   obtain ⟨A, c, rfl⟩ := Kd.R_slice ho0
   refine (stableNil A c _ w).mono ?_
   rintro e w' ⟨rfl, rfl⟩
   refine ⟨rfl, ?_, hB, Kept.refl _ _⟩
   rw [show (Sort.insertionSort (fun x y => decide (wtAt l1 x > wtAt l1 y)) ([] : List Int).toArray 0 ([] : List Int).length).toList = [] from by
    apply List.eq_nil_of_length_eq_zero
    rw [Array.length_toList, size_insertionSort]
    rfl]
   exact Kd.R_mono ho0 (fun _ hk => .inl hk)
  ·obtain ⟨g, cap, rfl, hc, hbb, hlt, hok, hH⟩ := row_open ho0 h0
   have hn : 0 < l1.length := by
    obtain ⟨x, hx⟩ : ∃ x, x ∈ l0 := ⟨l0[0], List.getElem_mem h0⟩
    have := hall x hx
    omega
   letI : Inhabited {z : Int // 0 ≤ z ∧ z < (l1.length : Int)} := ⟨⟨0, by omega, by omega⟩⟩
   have hd0 : (default : {z : Int // 0 ≤ z ∧ z < (l1.length : Int)}).1 = 0 := rfl
   obtain ⟨dl, hdl⟩ := sub_list (p := fun z => 0 ≤ z ∧ z < (l1.length : Int)) l0 hall
   have hds : dl.toArray.size = l0.length := by rw [← hdl]; simp
   have hdm : dl.toArray.map Subtype.val = l0.toArray := by rw [← hdl]; simp
   have hH' : Holds (fun z : {z : Int // 0 ≤ z ∧ z < (l1.length : Int)} => Value.int .i64 z.1) w g 0 dl.toArray := fun j hj => by
    have := hH j (by rw [hds] at hj; simpa using hj)
    rw [← hdm, map_bang Subtype.val hd0] at this
    exact this
   have hread : CmpReads Try.prog 70 #[.pointer (some ⟨B, 0, none⟩)] (fun z : {z : Int // 0 ≤ z ∧ z < (l1.length : Int)} => Value.int .i64 z.1) (fun x y => Lib.compareInt (wtAt l1 y.1) (wtAt l1 x.1)) g 0 dl.toArray.size w := fun m os dk _ x y => by
    have hk := (row_kept (fun z : {z : Int // 0 ≤ z ∧ z < (l1.length : Int)} => Value.int .i64 z.1) w g dk m os).mono (S' := P0_) (fun k hk => by rw [hk]; exact hok)
    have hcell : (sortWorld (fun z : {z : Int // 0 ≤ z ∧ z < (l1.length : Int)} => Value.int .i64 z.1) w g 0 m dk os).heap[B]? = some (.cells #[.slice A1 l1.length c1] 29 (0, 0)) := (hk.2 B (blk_lt hb) hnb).trans hb
    exact pack1_gives A1 c1 l1 B x.1 y.1 x.2 y.2 _ (hr1 _ hk) ((blk_cell hcell 0).trans rfl)
   have hsort := Any.insertionSortCmpFunc_one (P := Try.prog) (ρ := Try.lays105_ren) Try.lays105 (fun z : {z : Int // 0 ≤ z ∧ z < (l1.length : Int)} => Value.int .i64 z.1) (fun _ => rfl) (fun x y => Lib.compareInt (wtAt l1 y.1) (wtAt l1 x.1)) 70 #[.pointer (some ⟨B, 0, none⟩)] g 0 cap 0 dl.toArray.size dl.toArray w
    (enters_of Try.func70 (by kernel_rfl) rfl) hread hH' (Nat.zero_le _) (Nat.le_refl _) (by rw [hds]; omega)
   rw [hds] at hsort
   refine (stableSmall g cap l0.length _ w _ hl hsort).mono ?_
   rintro e w' ⟨rfl, n, rfl⟩
   have hmap : (Sort.insertionSort (ltOf fun x y : {z : Int // 0 ≤ z ∧ z < (l1.length : Int)} => Lib.compareInt (wtAt l1 y.1) (wtAt l1 x.1)) dl.toArray 0 l0.length).map Subtype.val = Sort.insertionSort (fun x y => decide (wtAt l1 x > wtAt l1 y)) l0.toArray 0 l0.length := by
    rw [insertionSort_map Subtype.val hd0 _ (fun x y => decide (wtAt l1 x > wtAt l1 y)) (fun x y => ?_), hdm]
    unfold ltOf Lib.compareInt
    by_cases h1 : wtAt l1 y.1 < wtAt l1 x.1
    ·simp [h1]
    ·by_cases h2 : wtAt l1 y.1 > wtAt l1 x.1 <;> simp [h1, h2]
   rw [putRow_val hd0, hmap]
   have hsz : (Sort.insertionSort (fun x y => decide (wtAt l1 x > wtAt l1 y)) l0.toArray 0 l0.length).toList.length = l0.length := by rw [Array.length_toList, size_insertionSort]; simp
   have hp := row_put ho0 (ys := (Sort.insertionSort (fun x y => decide (wtAt l1 x > wtAt l1 y)) l0.toArray 0 l0.length).toList) hsz 0 #[]
   have hk := row_kept (Value.int .i64) w g (Sort.insertionSort (fun x y => decide (wtAt l1 x > wtAt l1 y)) l0.toArray 0 l0.length) 0 #[]
   have hbl := row_below (Value.int .i64) hB hbb (Sort.insertionSort (fun x y => decide (wtAt l1 x > wtAt l1 y)) l0.toArray 0 l0.length) 0 #[]
   simp only [Go.Sort.grow_empty, Go.Sort.ahead_zero, Array.toArray_toList] at hp hk hbl
   exact ⟨rfl, Kd.R_mono (Kd.R_drewN hp n) (fun _ hk => .inl hk), pw_below_drewN hbl n, (Kept.drewN hk n).mono (fun k hk => by rw [hk]; exact hok)⟩
 ·cases h
end
end Go.Proofs.Ytoadgikbbigdlaa.A
