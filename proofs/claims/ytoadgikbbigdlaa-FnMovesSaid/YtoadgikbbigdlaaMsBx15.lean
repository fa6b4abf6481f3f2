import Derived.Test.YtoadgikbbigdlaaMsWAb
import Derived.Test.YtoadgikbbigdlaaMsBx0
import Derived.Test.YtoadgikbbigdlaaMsBx12
import Derived.Test.YtoadgikbbigdlaaMsBx13
import Derived.Test.YtoadgikbbigdlaaMsBx14
namespace Go.Proofs.Ytoadgikbbigdlaa.B
open Go.RowKit Go.Proofs.YtoadgikbbigdlaaW.PrintWords Go.Proofs.YtoadgikbbigdlaaW.PrintLast Go.Proofs.YtoadgikbbigdlaaW.PrintMore
attribute [local go_sem] max2_int min2_int max_two min_two max_three min_three max_four min_four   -- for this text's walks alone
set_option linter.unusedVariables false
set_option linter.unusedSimpArgs false
set_option maxHeartbeats 8000000 in
set_option maxRecDepth 100000 in
theorem idx_ArchiveBox (A0 : Option Addr) (c0 : Nat) (l0 : List (S62)) (g : Nat) (lb : Array Value) (p : S62 → Bool) (w : World) (hr0 : Kd.C k62 w A0 l0.length l0)
  (eg : ∀ args w,(callFunc g args).run Try.prog w = .ok (.enter g args) w)
  (hp : ∀ (W : World) (x : S62) (A1 : Option Addr) (c1 : Nat),x.f1.length ≤ c1 → Kd.C (Kd.int .i64) W A1 x.f1.length x.f1 → Below w.heap.size w W → Calls Try.prog g (#[.agg #[.int .i64 x.f0,.slice A1 x.f1.length c1]] ++ lb) W fun e w' => e = .returned (.bool (p x)) ∧ Below W.heap.size W w') :
  Calls Try.prog 78 #[.slice A0 l0.length c0,.func (.func g) #[] lb] w fun e w' => e = .returned (.int .i64 (findI p l0 0)) ∧ Below w.heap.size w w' := by
 have HM := Aside0.mk (Kd.C_max hr0);have HR0 := Aside0.mk hr0;have HP := Aside0.mk hp;clear hr0 hp;go_enter Try.func78,Try.ntmps78;go_wp2
 go_loopg [5,8] l0.length (fun gg _ s8 wr => ∃ kk : Nat,kk ≤ l0.length ∧ l0.length - kk ≤ gg ∧ s8 = .int .i64 kk ∧ Aside0 (Below w.heap.size w wr) ∧ Aside0 (findI p (l0.drop kk) kk = findI p l0 0))
 case atStart => exact ⟨0,Nat.zero_le _,by omega,rfl,⟨Below.refl _ _⟩,⟨rfl⟩⟩
 case round =>
  obtain ⟨kk,hkk,hg,rfl,BW,A⟩ := hrel;by_cases hlt : kk < l0.length
  ·have hltz : (kk : Int) < (l0.length : Int) := by omega
   obtain ⟨ad,A1,c1,ead,h0,h1,ll1,g1⟩ := at_T62 HR0.out (kk : Int) (by omega) (by omega);have D : Aside0 (findI p (l0.drop kk) (kk : Int) = if p (rd_T62 l0 (kk : Int)) = true then (kk : Int) else findI p (l0.drop (kk + 1)) ((kk : Int) + 1)) := ⟨findI_drop p l0 z62 kk hlt kk⟩;have hx := Aside0.mk (HP.out wr (rd_T62 l0 (kk : Int)) A1 c1 ll1 (Kd.C_below g1 BW.out) BW.out);clear ll1 g1;cases ead;simp only [Int.toNat_natCast] at h0 h1;replace h0 := (BW.out.cell (World.block_lt_of_cell? w _ h0)).trans h0;replace h1 := (BW.out.cell (World.block_lt_of_cell? w _ h1)).trans h1;have hM := HM.out;cases hq : p (rd_T62 l0 (kk : Int)) with
   | true =>
    rw [hq] at hx;have HQ := Aside0.mk hq;clear hq;go_wp2_with (go_at_fn g; refine hx.out.mono ?_; rintro e w' ⟨rfl,hb'⟩)
    go_ret;refine ⟨?_,BW.out.trans (hb'.mono BW.out.size)⟩;rw [← A.out,D.out,if_pos HQ.out];rfl
   | false =>
    rw [hq] at hx;have HQ := Aside0.mk hq;clear hq;go_wp2_with (go_at_fn g; refine hx.out.mono ?_; rintro e w' ⟨rfl,hb'⟩)
    go_roundg (l0.length - (kk + 1))
    case measure => omega
    case rel =>
     refine ⟨kk + 1,by omega,by omega,by go_num,⟨BW.out.trans (hb'.mono BW.out.size)⟩,⟨?_⟩⟩;rw [← A.out,D.out,if_neg (by rw [HQ.out]; simp)];rfl
  ·have hltz : ¬ (kk : Int) < (l0.length : Int) := by omega
   have hk : kk = l0.length := by omega
   subst hk;have hM := HM.out;go_wp2;go_ret;refine ⟨?_,BW.out⟩;rw [← A.out,findI_end];rfl
set_option maxHeartbeats 1000000 in
theorem any_ArchiveBox (A0 : Option Addr) (c0 : Nat) (l0 : List (S62)) (g : Nat) (lb : Array Value) (p : S62 → Bool) (w : World) (hr0 : Kd.C k62 w A0 l0.length l0)
  (eg : ∀ args w,(callFunc g args).run Try.prog w = .ok (.enter g args) w)
  (hp : ∀ (W : World) (x : S62) (A1 : Option Addr) (c1 : Nat),x.f1.length ≤ c1 → Kd.C (Kd.int .i64) W A1 x.f1.length x.f1 → Below w.heap.size w W → Calls Try.prog g (#[.agg #[.int .i64 x.f0,.slice A1 x.f1.length c1]] ++ lb) W fun e w' => e = .returned (.bool (p x)) ∧ Below W.heap.size W w') :
  Calls Try.prog 40 #[.slice A0 l0.length c0,.func (.func g) #[] lb] w fun e w' => e = .returned (.bool (decide (0 ≤ findI p l0 0))) ∧ Below w.heap.size w w' := by
 have hx := Aside0.mk (idx_ArchiveBox A0 c0 l0 g lb p w hr0 eg hp);clear hr0 eg hp;go_enter Try.func40,Try.ntmps40;go_wp2_with (go_at_call 78; refine hx.out.mono ?_; rintro e w' ⟨rfl,hb'⟩)
 go_ret;exact ⟨rfl,hb'⟩
theorem cell_spot {w : World} {a : Addr} {v : Value} (h : w.cell? a = some v) : a = ⟨a.block,a.off,none⟩ := by
 obtain ⟨b,o,s⟩ := a;cases s with
 | none => rfl
 | some q =>
  unfold World.cell? at h
  split at h
  ·simp at h
  ·cases h
def slices_Clone_int.f (l0 : List Int) : Option (List Int) := if l0.length ≤ 17592186044416 then some l0 else none
theorem slices_Clone_int.calls (A0 : Option Addr) (c0 : Nat) (l0 : List Int) (r : List Int) (w : World) (hr0 : Kd.C (Kd.int .i64) w A0 l0.length l0) (hc0 : l0.length ≤ c0) (h : slices_Clone_int.f l0 = some r) :
  Calls Try.prog 53 #[.slice A0 l0.length c0] w fun e w' => ∃ v0_ : Value,e = .returned (v0_) ∧ Kd.R (Kd.int .i64) 3 w' w.heap.size (fun _ => True) v0_ r ∧ Below w.heap.size w w' := by
 unfold slices_Clone_int.f at h
 split at h
 ·rename_i hlt;obtain rfl := Option.some.inj h
  rcases Nat.eq_zero_or_pos l0.length with h0 | h0
  ·obtain rfl := List.eq_nil_of_length_eq_zero h0;cases A0 with
   | none =>
    refine (AnyG.slices_Clone_int_nil Try.lays53 0 c0 w).mono ?_;rintro e w' ⟨rfl,rfl⟩;exact ⟨_,rfl,Kd.R_nil _ _ _ _ _,Below.refl _ _⟩
   | some a =>
    refine (AnyG.slices_Clone_int_zero Try.lays53 a c0 w).mono ?_;rintro e w' ⟨v',rfl,ho,_,hb⟩;exact ⟨v',rfl,Kd.R_of_own (xs := []) ho (fun _ _ => trivial),hb⟩
  ·obtain ⟨ad,rfl,hz⟩ := Kd.at_int hr0 0 (by omega) (by omega);have hs := cell_spot hz;have e0 : ad.spot = none := by
    have := congrArg Addr.spot hs
    simpa [Addr.add] using this
   obtain ⟨b,off,s⟩ := ad;simp only at e0;subst e0;refine (AnyG.slices_Clone_int Try.lays53 b off l0.length c0 l0 w (Nat.le_refl _) (by omega) (fun j hj => ?_)).mono ?_
   ·obtain ⟨ad',e',hj'⟩ := Kd.at_int hr0 (j : Int) (by omega) (by omega);obtain rfl := Option.some.inj e';rw [Addr.add_lit] at hj'
    simpa [rd] using hj'
   ·rintro e w' ⟨v',rfl,ho,_,hb⟩;rw [List.take_length] at ho;exact ⟨v',rfl,Kd.R_of_own (xs := l0) ho (fun _ _ => trivial),hb⟩
 ·cases h
section
open Go.Lib Go.Sort Go.Shelf
theorem moved_gives (n x : Int) (B : Nat) (W : World) (hc : W.cell? ⟨B,0,none⟩ = some (.int .i64 n)) :
  FnGives Try.prog 54 #[.pointer (some ⟨B,0,none⟩)] #[.int .i64 x] (.bool (x == n)) W := by
 show Calls Try.prog 54 #[.int .i64 x,.pointer (some ⟨B,0,none⟩)] W _
 go_enter Try.func54,Try.ntmps54;go_wp2;go_ret;exact ⟨rfl,0,rfl⟩
theorem delEmpty (A : Option Addr) (c : Nat) (fv : Value) (w : World) :
  Calls Try.prog 52 #[.slice A 0 c,fv] w fun e w' => e = .returned (.slice A 0 c) ∧ w' = w := by
 have hx := Aside0.mk (AnyE.slices_IndexFunc_empty (P := Try.prog) (ρ := Try.lays52_ren) { Try.lays52 with } A c fv w);go_enter Try.func52,Try.ntmps52;go_wp2_with (go_at_call 87; refine hx.out.mono ?_; rintro e w' ⟨rfl,rfl⟩)
 go_ret;exact ⟨rfl,rfl⟩
theorem delMoved.calls (P0_ : Nat → Prop) (u : Value) (l0 : List Int) (n : Int) (B : Nat) (w0 w : World) (hB : Below w0.heap.size w0 w) (ho0 : Kd.R (Kd.int .i64) 3 w w0.heap.size P0_ u l0)
  (hcell : w.cell? ⟨B,0,none⟩ = some (.int .i64 n)) (hne : ¬ P0_ B) :
  Calls Try.prog 52 #[u,.func (.func 54) #[] #[.pointer (some ⟨B,0,none⟩)]] w fun e w' => ∃ v0_ : Value,e = .returned (v0_) ∧ Kd.R (Kd.int .i64) 3 w' w0.heap.size P0_ v0_ (l0.filter fun x => !(x == n)) ∧ Below w0.heap.size w0 w' ∧ Kept w w' P0_ := by
 rcases Nat.eq_zero_or_pos l0.length with h0 | h0
 ·obtain rfl := List.eq_nil_of_length_eq_zero h0;obtain ⟨A,c,rfl⟩ := Kd.R_slice ho0;refine (delEmpty A c _ w).mono ?_;rintro e w' ⟨rfl,rfl⟩;exact ⟨_,rfl,ho0,hB,Kept.refl _ _⟩
 ·obtain ⟨g,cap,rfl,hc,hb,hl,hok,hH⟩ := row_open ho0 h0;have hBl : B < w.heap.size := World.block_lt_of_cell? w _ hcell;have hBg : B ≠ g := fun e => hne (e ▸ hok)
  refine (AnyE.slices_DeleteFunc Try.lays52 (Value.int .i64) (fun _ => rfl) (fun x => x == n) 54 #[.pointer (some ⟨B,0,none⟩)] (enters_of Try.func54 (by kernel_rfl) rfl) 0 Try.zeroValue3 g 0 cap l0.toArray w
   (fun W x hW => moved_gives n x B W ((hW.cell (p := ⟨B,0,none⟩) hBl).trans hcell)) (fun q os dk x _ => moved_gives n x B _ ?_) hH (by simpa using Kd.C_max (Kd.R_reads' ho0).2.2) (by simpa using hc)).mono ?_
  ·unfold sortWorld;rw [cell?_grow _ _ _ (by show B < (Sort.putRow _ _ _ _ _).heap.size; rw [size_putRow]; exact hBl),cell?_putRow_other _ _ g 0 _ _ (Or.inl hBg)];exact hcell
  ·rintro e w' ⟨rfl,q,rfl⟩;have hlen : (l0.filter fun x => !(x == n)).length ≤ l0.length := List.length_filter_le _ _;have hp := row_put ho0 (ys := (l0.filter fun x => !(x == n)) ++ List.replicate (l0.length - (l0.filter fun x => !(x == n)).length) 0) (by simp; omega) q #[];have hk := row_kept (Value.int .i64) w g ((l0.filter fun x => !(x == n)) ++ List.replicate (l0.length - (l0.filter fun x => !(x == n)).length) 0).toArray q #[];have hbl := row_below (Value.int .i64) hB hb ((l0.filter fun x => !(x == n)) ++ List.replicate (l0.length - (l0.filter fun x => !(x == n)).length) 0).toArray q #[];simp only [Go.Sort.grow_empty] at hp hk hbl;have ht := Kd.R_take hp (m := (l0.filter fun x => !(x == n)).length) (by simp);rw [List.take_left] at ht;exact ⟨_,rfl,ht,hbl,hk.mono (fun k hk => by rw [hk]; exact hok)⟩
end
theorem moveTo_pred (x : S62) (A1 : Option Addr) (c1 : Nat) (b : Nat) (n : Int) (W : World) (hb : W.cell? ⟨b,0,none⟩ = some (.int .i64 n)) :
  Calls Try.prog 50 (#[.agg #[.int .i64 x.f0,.slice A1 x.f1.length c1]] ++ #[.pointer (some ⟨b,0,none⟩)]) W fun e w' => e = .returned (.bool (x.f0 == n)) ∧ Below W.heap.size W w' := by
 have hlt : b < W.heap.size := World.block_lt_of_cell? W ⟨b,0,none⟩ hb
 show Calls _ _ #[.agg #[.int .i64 x.f0,.slice A1 x.f1.length c1],.pointer (some ⟨b,0,none⟩)] _ _
 go_enter Try.func50,Try.ntmps50;go_wp2;go_ret;exact ⟨rfl,(Below.refl _ _).alloc (Nat.le_refl _) _⟩
def moved1 (n m : Int) (x : S62) : S62 := ⟨x.f0,if x.f0 = m then ((x.f1.filter fun y => !(y == n)) ++ [n]).mergeSort (fun a b => decide (a ≤ b)) else x.f1.filter fun y => !(y == n)⟩
def mixK (f : Nat → Nat) : Kd ((S62 × Nat) ⊕ List Value) where
 sz := 2
 E := k62.E
 K := fun w x cs => match x with | .inl p => k62.K w p.1 cs | .inr c => cs = c ∧ cs.length = 2 ∧ ∀ u ∈ cs,u.oneCell' = true
 M := fun w base ok x cs => match x with | .inl p => k62.M w base (fun k => ok k ∧ f k = p.2) p.1 cs | .inr c => cs = c ∧ cs.length = 2 ∧ ∀ u ∈ cs,u.oneCell' = true
 K_len := fun {w x cs} h => by cases x with | inl p => exact k62.K_len h | inr c => exact h.2.1
 K_one := fun {w x cs} h => by cases x with | inl p => exact k62.K_one h | inr c => exact h.2.2
 K_below := fun {w w1 x cs} hb h => by cases x with | inl p => exact k62.K_below hb h | inr c => exact h
 K_of_M := fun {w base ok x cs} h => by cases x with | inl p => exact k62.K_of_M h | inr c => exact h
 M_mono := fun {w base ok ok' x cs} hk h => by cases x with | inl p => exact k62.M_mono (fun k hh => ⟨hk k hh.1,hh.2⟩) h | inr c => exact h
 M_bound := fun {w base ok x cs} h => by
  cases x with
  | inl p => exact k62.M_mono (fun _ hk => ⟨⟨hk.1.1,hk.2⟩,hk.1.2⟩) (k62.M_bound h)
  | inr c => exact h
 M_move := fun {w w1 base ok x cs} hm h => by cases x with | inl p => exact k62.M_move (fun k hk => hm k hk.1) h | inr c => exact h
 M_lower := fun {w base base' ok x cs} hb h => by cases x with | inl p => exact k62.M_lower hb h | inr c => exact h
theorem mix_clone (A : Option Addr) (c0 : Nat) (l : List S62) (w : World) (hr : Kd.C k62 w A l.length l) (hp : 0 < l.length) (hlim : l.length ≤ 4398046511104) :
  Calls Try.prog 51 #[.slice A l.length c0] w fun e w' => ∃ (g cap : Nat) (news : List (List Value)),e = .returned (.slice (some ⟨g,0,none⟩) l.length cap) ∧ (∀ f,(mixK f).R 62 w' w.heap.size (fun _ => True) (.slice (some ⟨g,0,none⟩) l.length cap) (news.map Sum.inr)) ∧
   news.length = l.length ∧ (∀ (j : Nat) x,l[j]? = some x → ∃ A1 c1,news[j]? = some [.int .i64 x.f0,.slice A1 x.f1.length c1] ∧ x.f1.length ≤ c1 ∧ (Kd.int .i64).C w A1 x.f1.length x.f1) ∧ Below w.heap.size w w' := by
 obtain ⟨ad,rfl,hall⟩ := hr.2.2 (by omega);obtain ⟨news,hnl,hnews⟩ : ∃ news : List (List Value),news.length = l.length ∧ ∀ (j : Nat) c,news[j]? = some c → ∃ x,l[j]? = some x ∧ c.length = 2 ∧ k62.K w x c ∧ ∀ i u,c[i]? = some u → w.cell? (ad.add (j * 2 + i)) = some u := by
  have key : ∀ m,m ≤ l.length → ∃ news : List (List Value),news.length = m ∧ ∀ (j : Nat) c,news[j]? = some c → ∃ x,l[j]? = some x ∧ c.length = 2 ∧ k62.K w x c ∧ ∀ i u,c[i]? = some u → w.cell? (ad.add (j * 2 + i)) = some u := by
   intro m
   induction m with
   | zero => intro _; exact ⟨[],rfl,fun j c h => by simp at h⟩
   | succ m ih =>
    intro hm;obtain ⟨news,h1,h2⟩ := ih (by omega);obtain ⟨c,h3,h4,h5⟩ := hall m _ (List.getElem?_eq_getElem (show m < l.length by omega));refine ⟨news ++ [c],by simp [h1],fun j c' hj => ?_⟩;by_cases e : j < m
    ·rw [List.getElem?_append_left (by omega)] at hj;exact h2 j c' hj
    ·rw [List.getElem?_append_right (by omega)] at hj;have hz : j - news.length = 0 := by
      have := (List.getElem?_eq_some_iff.1 hj).1;simp at this;omega
     rw [hz] at hj;obtain rfl : c = c' := by simpa using hj
     obtain rfl : j = m := by omega
     exact ⟨_,List.getElem?_eq_getElem (by omega),h3,h4,h5⟩
  exact key l.length (Nat.le_refl _)
 have hone : ∀ c ∈ news,c.length = 2 ∧ ∀ u ∈ c,u.oneCell' = true := fun c hc => by
  obtain ⟨j,hj⟩ := List.getElem?_of_mem hc;obtain ⟨x,_,h1,h2,_⟩ := hnews j c hj;exact ⟨h1,k62.K_one h2⟩
 have hflat : ∀ (ns : List (List Value)),(∀ c ∈ ns,c.length = 2) → ns.flatten.length = ns.length * 2 ∧ ∀ (j : Nat) c,ns[j]? = some c → (ns.flatten.drop (j * 2)).take 2 = c := by
  intro ns
  induction ns with
  | nil => intro _; exact ⟨rfl,fun j c h => by simp at h⟩
  | cons a t ih =>
   intro h;obtain ⟨h1,h2⟩ := ih (fun c hc => h c (by simp [hc]));have ha := h a (by simp);refine ⟨by simp [h1,ha]; omega,fun j c hj => ?_⟩;cases j with
   | zero =>
    obtain rfl : a = c := by simpa using hj
    simp [List.take_append_of_le_length,ha,List.take_of_length_le]
   | succ j =>
    have hj' : t[j]? = some c := by simpa using hj
    rw [List.flatten_cons,show (j + 1) * 2 = 2 + j * 2 from by omega,← List.drop_drop,List.drop_left' ha];exact h2 j c hj'
 obtain ⟨hfl,hfd⟩ := hflat news (fun c hc => (hone c hc).1);have hcell : ∀ (j : Nat) u,news.flatten[j]? = some u → w.cell? (ad.add j) = some u := by
  intro j u hj;have hjl := (List.getElem?_eq_some_iff.1 hj).1;rw [hfl] at hjl;have hq : j / 2 < news.length := by omega
  have h1 := hfd (j / 2) _ (List.getElem?_eq_getElem hq);obtain ⟨x,_,h2,_,h3⟩ := hnews (j / 2) _ (List.getElem?_eq_getElem hq);have h4 := h3 (j % 2) u (by
   rw [← h1,List.getElem?_take_of_lt (by omega),List.getElem?_drop,show j / 2 * 2 + j % 2 = j from by omega];exact hj)
  rw [show j / 2 * 2 + j % 2 = j from by omega] at h4;exact h4
 have hsp : ad.spot = none := by
  have h0 : ∃ u,news.flatten[0]? = some u := ⟨_,List.getElem?_eq_getElem (by omega)⟩
  obtain ⟨u,hu⟩ := h0;have := congrArg Addr.spot (cell_spot (hcell 0 u hu))
  simpa [Addr.add] using this
 obtain ⟨b,off,s⟩ := ad;simp only at hsp;subst hsp;obtain ⟨i0,hi0,hzz⟩ := Option.map_eq_some_iff.1 info62;simp only [Prod.mk.injEq] at hzz;obtain ⟨hz0,hz1,hz2⟩ := hzz;refine (AnyE.slices_Clone Try.lays51 i0 (.agg #[.int .i64 0,.slice none 0 0]) 2 32 hi0 hz0 hz1 hz2 rfl (by omega) Try.sizeOf62 b off l.length c0 news.flatten w (by rw [hfl,hnl]) (by simp only [maxLen]; omega) (by omega) (fun j u hj => ?_) (fun u hu => ?_)).mono ?_
 ·have := hcell j u hj
  rwa [Addr.add_lit] at this
 ·obtain ⟨c,hc,huc⟩ := List.mem_flatten.1 hu;exact (hone c hc).2 u huc
 ·rintro e w' ⟨v',rfl,ho,hnn,hb⟩
  rcases ho.2 with ⟨_,h0⟩ | ⟨g,cap,cur,rfl,hrest⟩
  ·omega
  refine ⟨g,cap,news,rfl,fun f => ⟨fun _ _ => trivial,news.flatten,?_,?_⟩,hnl,fun j x hj => ?_,hb⟩
  ·rw [List.length_map,hnl];exact ho
  ·refine ⟨(by rw [List.length_map,hfl]; rfl),fun j p hj => ?_⟩;obtain ⟨c,hc,rfl⟩ := Option.map_eq_some_iff.1 (by simpa using hj);have hm := List.mem_of_getElem? hc;exact ⟨hfd j c hc,(by rw [show (mixK f).sz = 2 from rfl,hfd j c hc]; exact (hone c hm).1),(by rw [show (mixK f).sz = 2 from rfl,hfd j c hc]; exact (hone c hm).2)⟩
  ·have hjl : j < news.length := by
    have := (List.getElem?_eq_some_iff.1 hj).1;omega
   obtain ⟨x',hx',_,hK,_⟩ := hnews j _ (List.getElem?_eq_getElem hjl);rw [hj] at hx';obtain rfl := Option.some.inj hx';obtain ⟨A1,c1,he,hl,hC⟩ := k62_open hK;exact ⟨A1,c1,(by rw [List.getElem?_eq_getElem hjl,he]),hl,hC⟩
theorem mix_end {f : Nat → Nat} {w : World} {base : Nat} {ok : Nat → Prop} {v : Value} {l : List S62} (h : (mixK f).R 62 w base ok v (l.zipIdx.map Sum.inl)) : Kd.S k62 62 w base ok v l := by
 obtain ⟨h0,inner,ho,hr⟩ := h;refine ⟨f,h0,inner,?_,?_⟩
 ·rw [List.length_map] at ho;exact ho
 ·refine ⟨(by have := hr.1; rw [List.length_map] at this; exact this),fun j p hj => ?_⟩;exact hr.2 j (.inl p) (by rw [List.getElem?_map,hj]; rfl)
theorem mix_tag {f : Nat → Nat} {w : World} {base : Nat} {ok : Nat → Prop} {v : Value} {L : List ((S62 × Nat) ⊕ List Value)} (N k : Nat) (hN : w.heap.size ≤ N) (h : (mixK f).R 62 w base ok v L) : (mixK (fun b => if b < N then f b else k)).R 62 w base ok v L := by
 obtain ⟨h0,inner,ho,hr⟩ := Kd.R_bound h;refine ⟨fun k hk => (h0 k hk).1,inner,ho,hr.imp_ fun p c hp => ?_⟩;cases p with
 | inl p =>
  refine k62.M_mono (fun b hb => ?_) hp;obtain ⟨⟨⟨h1,_,h2,_⟩,h3⟩,h4⟩ := hb;exact ⟨⟨h1,h3⟩,(by show (if b < N then f b else k) = p.2; rw [if_pos (by omega)]; exact h4)⟩
 | inr c' => exact hp
theorem mix_list (l1 : List S62) (news : List (List Value)) (n m : Int) (kk : Nat) (x : S62) (hx : l1[kk]? = some x) (hl : news.length = l1.length) :
  ((((l1.map (moved1 n m)).zipIdx.take kk).map Sum.inl) ++ (news.drop kk).map Sum.inr).set kk (Sum.inl (moved1 n m x,kk)) = ((((l1.map (moved1 n m)).zipIdx.take (kk + 1)).map Sum.inl) ++ (news.drop (kk + 1)).map Sum.inr : List ((S62 × Nat) ⊕ List Value)) := by
 obtain ⟨hk,e⟩ := List.getElem?_eq_some_iff.1 hx;rw [List.set_append_right _ _ (by simp; omega)];have h1 : kk - (((l1.map (moved1 n m)).zipIdx.take kk).map (Sum.inl (β := List Value))).length = 0 := by simp; omega
 rw [h1,List.drop_eq_getElem_cons (show kk < news.length by omega),List.map_cons,List.set_cons_zero];rw [List.take_succ_eq_append_getElem (show kk < ((l1.map (moved1 n m)).zipIdx).length by simpa using hk),List.map_append,List.append_assoc];simp [e]
def impl_MoveItem.f (k : Nat) (l0 : List S50) (l1 : List S62) (a2 a3 a4 : Int) : Option (List S62 × Bool) :=
 (impl_IsValidArchive.f k l0 l1 a2).bind fun t => if t = true ∧ 0 ≤ findI (fun x => x.f0 == a3) l0 0 ∧ 0 ≤ findI (fun x => x.f0 == a4) l1 0 then
  (if l1.length ≤ 4398046511104 ∧ ∀ x ∈ l1,x.f1.length < 17592186044416 then (impl_IsValidArchive.f k l0 (l1.map (moved1 a3 a4)) a2).bind fun u => some (if u = true then l1.map (moved1 a3 a4) else [],u) else none) else some ([],false)
set_option maxHeartbeats 4000000 in
set_option maxRecDepth 100000 in
theorem impl_MoveItem.exit (K : Nat) (A0 : Option Addr) (c0 : Nat) (l0 : List S50) (A1 : Option Addr) (c1 : Nat) (l1 : List S62) (a2 a3 a4 : Int) (t : Bool) (w : World)
  (hr0 : Kd.C k50 w A0 l0.length l0) (hc0 : l0.length ≤ c0) (hr1 : Kd.C k62 w A1 l1.length l1) (hc1 : l1.length ≤ c1)
  (b1 : impl_IsValidArchive.f K l0 l1 a2 = some t) (hn : ¬ (t = true ∧ 0 ≤ findI (fun x => x.f0 == a3) l0 0 ∧ 0 ≤ findI (fun x => x.f0 == a4) l1 0)) :
  Calls Try.prog 22 #[.slice A0 l0.length c0,.slice A1 l1.length c1,.int .i64 a2,.int .i64 a3,.int .i64 a4] w fun e w' => ∃ v0_ : Value,e = .returned (.tuple #[v0_,.bool false]) ∧ Kd.S k62 62 w' w.heap.size (fun _ => True) v0_ [] ∧ Below w.heap.size w w' := by
 replace b1 := Aside0.mk b1;replace hn := Aside0.mk hn;have HR0 := Aside0.mk hr0;have HC0 := Aside0.mk hc0;clear hr0 hc0;have HR1 := Aside0.mk hr1;have HC1 := Aside0.mk hc1;clear hr1 hc1;obtain ⟨wa,hwa⟩ : ∃ wa,wa = (w.alloc (.cells #[.int .i64 a3] 3)).alloc (.cells #[.int .i64 a4] 3) := ⟨_,rfl⟩
 have BA : Aside0 (Below w.heap.size w wa) := ⟨(by rw [hwa]; exact ((Below.refl _ _).alloc (Nat.le_refl _) _).alloc (by simp) _)⟩;have CA : Aside0 (wa.cell? ⟨w.heap.size,0,none⟩ = some (.int .i64 a3)) := ⟨by rw [hwa]; simp⟩;have CB : Aside0 (wa.cell? ⟨w.heap.size + 1,0,none⟩ = some (.int .i64 a4)) := ⟨by rw [hwa]; simp⟩;have SA : Aside0 (wa.heap.size = w.heap.size + 2) := ⟨by rw [hwa]; simp⟩;subst hwa;go_enter Try.func22,Try.ntmps22;go_wp2_with fail
 refine (impl_IsValidArchive.calls K _ _ l0 _ _ l1 a2 _ _ (Kd.C_below HR0.out BA.out) HC0.out (Kd.C_below HR1.out BA.out) HC1.out b1.out).mono ?_;rintro e w1 ⟨rfl,hb⟩;have B1 := Aside0.mk (BA.out.trans (hb.mono BA.out.size));have CA1 := Aside0.mk ((hb.cell (p := ⟨w.heap.size,0,none⟩) (show w.heap.size < _ by rw [SA.out]; omega)).trans CA.out);have CB1 := Aside0.mk ((hb.cell (p := ⟨w.heap.size + 1,0,none⟩) (show w.heap.size + 1 < _ by rw [SA.out]; omega)).trans CB.out);have S1 := Aside0.mk (show w.heap.size + 2 ≤ w1.heap.size from by rw [← SA.out]; exact hb.size);clear hb SA CA CB BA;cases t with
 | false =>
  go_wp2_with fail
  go_ret2
  exact ⟨_,rfl,⟨fun _ => 0,Kd.R_nil _ _ _ _ _⟩,B1.out⟩
 | true =>
  have hca := CA1.out;go_wp2_with fail
  clear hca;refine (impl_itemOf.calls _ _ l0 a3 _ _ (Kd.C_below HR0.out B1.out) HC0.out rfl).mono ?_;rintro e w2 ⟨rfl,hb⟩;have B2 := Aside0.mk (B1.out.trans (hb.mono B1.out.size));have CB2 := Aside0.mk ((hb.cell (p := ⟨w.heap.size + 1,0,none⟩) (show w.heap.size + 1 < _ from by have := S1.out; omega)).trans CB1.out);have S2 := Aside0.mk (Nat.le_trans S1.out hb.size);clear hb S1 CA1 CB1 B1
  rcases Int.lt_or_le (findI (fun x : S50 => x.f0 == a3) l0 0) 0 with hq | hq
  ·clear hn;generalize findI (fun x : S50 => x.f0 == a3) l0 0 = q at hq;go_wp2_with fail
   go_ret2
   exact ⟨_,rfl,⟨fun _ => 0,Kd.R_nil _ _ _ _ _⟩,B2.out⟩
  ·have h3 := Aside0.mk (show ¬ 0 ≤ findI (fun x : S62 => x.f0 == a4) l1 0 from fun h => hn.out (by first | exact ⟨rfl,hq,h⟩ | exact ⟨trivial,hq,h⟩));clear hn;generalize findI (fun x : S50 => x.f0 == a3) l0 0 = q at hq;go_wp2_with fail
   refine (any_ArchiveBox _ _ l1 50 #[.pointer (some ⟨w.heap.size + 1,0,none⟩)] (fun x => x.f0 == a4) w2 (Kd.C_below HR1.out B2.out) (enters_of Try.func50 (by kernel_rfl) rfl)
    (fun W x A1' c1' _ _ hW => moveTo_pred x A1' c1' _ a4 W ((hW.cell (p := ⟨w.heap.size + 1,0,none⟩) (show w.heap.size + 1 < _ from by have := S2.out; omega)).trans CB2.out))).mono ?_
   rintro e w3 ⟨rfl,hb⟩;have B3 := Aside0.mk (B2.out.trans (hb.mono B2.out.size));rw [decide_eq_false (by have := h3.out; omega)];go_wp2_with fail
   go_ret2
   exact ⟨_,rfl,⟨fun _ => 0,Kd.R_nil _ _ _ _ _⟩,B3.out⟩
theorem and_left_ {p : Prop} (h : p ∧ True) : p := h.1
set_option maxHeartbeats 4000000 in
set_option maxRecDepth 100000 in
theorem impl_MoveItem.main (K : Nat) (A0 : Option Addr) (c0 : Nat) (l0 : List S50) (A1 : Option Addr) (c1 : Nat) (l1 : List S62) (a2 a3 a4 : Int) (u : Bool) (w : World)
  (hr0 : Kd.C k50 w A0 l0.length l0) (hc0 : l0.length ≤ c0) (hr1 : Kd.C k62 w A1 l1.length l1) (hc1 : l1.length ≤ c1)
  (b1 : impl_IsValidArchive.f K l0 l1 a2 = some true) (b2 : 0 ≤ findI (fun x => x.f0 == a3) l0 0) (b3 : 0 ≤ findI (fun x => x.f0 == a4) l1 0) (hlim : l1.length ≤ 4398046511104) (hlim2 : ∀ x ∈ l1,x.f1.length < 17592186044416)
  (b4 : impl_IsValidArchive.f K l0 (l1.map (moved1 a3 a4)) a2 = some u) :
  Calls Try.prog 22 #[.slice A0 l0.length c0,.slice A1 l1.length c1,.int .i64 a2,.int .i64 a3,.int .i64 a4] w fun e w' => ∃ v0_ : Value,e = .returned (.tuple #[v0_,.bool u]) ∧ Kd.S k62 62 w' w.heap.size (fun _ => True) v0_ (if u = true then l1.map (moved1 a3 a4) else []) ∧ Below w.heap.size w w' := by
 have hp : 0 < l1.length := by
  rcases Nat.eq_zero_or_pos l1.length with h | h
  ·rw [List.eq_nil_of_length_eq_zero h] at b3;simp [findI] at b3
  ·exact h
 replace b1 := Aside0.mk b1;replace b2 := Aside0.mk b2;replace b3 := Aside0.mk b3;replace b4 := Aside0.mk b4;replace hlim := Aside0.mk hlim;replace hlim2 := Aside0.mk hlim2;replace hp := Aside0.mk hp;have HR0 := Aside0.mk hr0;have HC0 := Aside0.mk hc0;clear hr0 hc0;have HR1 := Aside0.mk hr1;have HC1 := Aside0.mk hc1;clear hr1 hc1;obtain ⟨wa,hwa⟩ : ∃ wa,wa = (w.alloc (.cells #[.int .i64 a3] 3)).alloc (.cells #[.int .i64 a4] 3) := ⟨_,rfl⟩
 have BA : Aside0 (Below w.heap.size w wa) := ⟨(by rw [hwa]; exact ((Below.refl _ _).alloc (Nat.le_refl _) _).alloc (by simp) _)⟩;have CA : Aside0 (wa.cell? ⟨w.heap.size,0,none⟩ = some (.int .i64 a3)) := ⟨by rw [hwa]; simp⟩;have CB : Aside0 (wa.cell? ⟨w.heap.size + 1,0,none⟩ = some (.int .i64 a4)) := ⟨by rw [hwa]; simp⟩;have SA : Aside0 (wa.heap.size = w.heap.size + 2) := ⟨by rw [hwa]; simp⟩;subst hwa;obtain ⟨res,hres⟩ : ∃ res,(if u = true then l1.map (moved1 a3 a4) else []) = res := ⟨_,rfl⟩
 rw [hres];replace hres := Aside0.mk hres;go_enter Try.func22,Try.ntmps22;go_wp2_with fail
 refine (impl_IsValidArchive.calls K _ _ l0 _ _ l1 a2 _ _ (Kd.C_below HR0.out BA.out) HC0.out (Kd.C_below HR1.out BA.out) HC1.out b1.out).mono ?_;rintro e w1 ⟨rfl,hb⟩;have B1 := Aside0.mk (BA.out.trans (hb.mono BA.out.size));have CA1 := Aside0.mk ((hb.cell (p := ⟨w.heap.size,0,none⟩) (show w.heap.size < _ by rw [SA.out]; omega)).trans CA.out);have CB1 := Aside0.mk ((hb.cell (p := ⟨w.heap.size + 1,0,none⟩) (show w.heap.size + 1 < _ by rw [SA.out]; omega)).trans CB.out);have S1 := Aside0.mk (show w.heap.size + 2 ≤ w1.heap.size from by rw [← SA.out]; exact hb.size);clear hb SA CA CB BA;have hca := CA1.out;go_wp2_with fail
 clear hca;refine (impl_itemOf.calls _ _ l0 a3 _ _ (Kd.C_below HR0.out B1.out) HC0.out rfl).mono ?_;rintro e w2 ⟨rfl,hb⟩;have B2 := Aside0.mk (B1.out.trans (hb.mono B1.out.size));have CA2 := Aside0.mk ((hb.cell (p := ⟨w.heap.size,0,none⟩) (show w.heap.size < _ from by have := S1.out; omega)).trans CA1.out);have CB2 := Aside0.mk ((hb.cell (p := ⟨w.heap.size + 1,0,none⟩) (show w.heap.size + 1 < _ from by have := S1.out; omega)).trans CB1.out);have S2 := Aside0.mk (Nat.le_trans S1.out hb.size);clear hb S1 CA1 CB1 B1;have hq : 0 ≤ findI (fun x : S50 => x.f0 == a3) l0 0 := b2.out;generalize findI (fun x : S50 => x.f0 == a3) l0 0 = q at hq;go_wp2_with fail
 refine (any_ArchiveBox _ _ l1 50 #[.pointer (some ⟨w.heap.size + 1,0,none⟩)] (fun x => x.f0 == a4) w2 (Kd.C_below HR1.out B2.out) (enters_of Try.func50 (by kernel_rfl) rfl)
  (fun W x A1' c1' _ _ hW => moveTo_pred x A1' c1' _ a4 W ((hW.cell (p := ⟨w.heap.size + 1,0,none⟩) (show w.heap.size + 1 < _ from by have := S2.out; omega)).trans CB2.out))).mono ?_
 rintro e w3 ⟨rfl,hb⟩;have B3 := Aside0.mk (B2.out.trans (hb.mono B2.out.size));have CA3 := Aside0.mk ((hb.cell (p := ⟨w.heap.size,0,none⟩) (show w.heap.size < _ from by have := S2.out; omega)).trans CA2.out);have CB3 := Aside0.mk ((hb.cell (p := ⟨w.heap.size + 1,0,none⟩) (show w.heap.size + 1 < _ from by have := S2.out; omega)).trans CB2.out);have S3 := Aside0.mk (Nat.le_trans S2.out hb.size);clear hb S2 CA2 CB2 B2;rw [decide_eq_true b3.out];go_wp2_with fail
 clear hq;refine (mix_clone A1 c1 l1 w3 (Kd.C_below HR1.out B3.out) hp.out hlim.out).mono ?_;rintro e w4 ⟨g,cap,news,rfl,hR,hnl,hnews,hb⟩;have HN := Aside0.mk hnews;have HL := Aside0.mk hnl;clear hnews hnl;have BX := Aside0.mk hb;have HX0 := Aside0.mk (hR fun _ => 0);clear hb hR;have hg : w3.heap.size ≤ g := Kd.R_base HX0.out g (by simp [Value.ownBlock]);have HG := Aside0.mk hg;clear hg;have hM := Aside0.mk (show l1.length ≤ 9223372036854775807 by have := hlim.out; omega);go_wp2_with fail
 go_loopg [13,14,15,37] l1.length (fun gg s13 s14 s15 s37 wr => ∃ kk : Nat,kk ≤ l1.length ∧ l1.length - kk ≤ gg ∧ s37 = .int .i64 kk ∧
  Aside0 (∃ f,(mixK f).R 62 wr w3.heap.size (fun _ => True) (.slice (some ⟨g,0,none⟩) l1.length cap) ((((l1.map (moved1 a3 a4)).zipIdx.take kk).map Sum.inl) ++ (news.drop kk).map Sum.inr)) ∧ Aside0 (Below w3.heap.size w3 wr))
 case atStart => exact ⟨0,Nat.zero_le _,by omega,rfl,⟨_,by simpa using HX0.out⟩,BX⟩
 case round =>
  clear HX0 BX;obtain ⟨kk,hkk,hg,rfl,HX,BX⟩ := hrel;by_cases hlt : kk < l1.length
  ·have hltz : (kk : Int) < (l1.length : Int) := by omega
   have hMx := hM.out;obtain ⟨f,HF0⟩ := HX.out;have HF := Aside0.mk HF0;obtain ⟨x,hx⟩ : ∃ x,l1[kk]? = some x := ⟨_,List.getElem?_eq_getElem hlt⟩
   obtain ⟨Ax,cx,hnx,hlx,hCx⟩ := HN.out kk x hx;obtain ⟨cc,hcl,hMM,hcc,hfr⟩ := Kd.R_elem HF0 (.inr []) (kk : Int) (by omega) (by omega);have hgd : ((((l1.map (moved1 a3 a4)).zipIdx.take kk).map Sum.inl) ++ (news.drop kk).map Sum.inr).getD ((kk : Int)).toNat (.inr []) = (Sum.inr [.int .i64 x.f0,.slice Ax x.f1.length cx] : (S62 × Nat) ⊕ List Value) := by
    rw [Int.toNat_natCast,List.getD_eq_getElem?_getD,List.getElem?_append_right (by simp; omega)];simp [Nat.min_eq_left hkk,hnx]
   rw [hgd] at hMM;obtain ⟨rfl,_,_⟩ := hMM;simp only [Int.toNat_natCast,show (mixK f).sz = 2 from rfl] at hcc hfr;have f0 : wr.cell? ⟨g,kk * 2,none⟩ = some (.int .i64 x.f0) := hcc 0 _ rfl;have f1 : wr.cell? ⟨g,kk * 2 + 1,none⟩ = some (.slice Ax x.f1.length cx) := hcc 1 _ rfl;have z1 : wr.frozen? ⟨g,kk * 2 + 1,none⟩ = false := hfr 1;have HXX := Aside0.mk hx;have HLX := Aside0.mk hlx;have HCX := Aside0.mk hCx;have F0 := Aside0.mk f0;have F1 := Aside0.mk f1;have Z1 := Aside0.mk z1;have HCC := Aside0.mk hcc;clear hcc hfr hgd hcl HX HF0 hx hnx hlx hCx z1;obtain ⟨wq,hwq⟩ : ∃ wq,wq = wr.alloc (.cells #[.int .i64 x.f0,.slice Ax x.f1.length cx] 62) := ⟨_,rfl⟩
   have GL := Aside0.mk (show g < wr.heap.size from Kd.R_lt HF.out g (by simp [Value.ownBlock]));have BR : Aside0 (Below wr.heap.size wr wq) := ⟨(by rw [hwq]; exact (Below.refl _ _).alloc (Nat.le_refl _) _)⟩;have BQ := Aside0.mk (BX.out.trans (BR.out.mono BX.out.size));have CQ : Aside0 (wq.cell? ⟨wr.heap.size,0,none⟩ = some (.int .i64 x.f0)) := ⟨by rw [hwq]; simp⟩;have SQ := Aside0.mk BR.out.size;have SQ1 : Aside0 (wr.heap.size < wq.heap.size) := ⟨by rw [hwq]; simp⟩;have HLM := Aside0.mk (hlim2.out x (List.mem_of_getElem? HXX.out));go_wp2_with fail
   rw [← hwq];refine (slices_Clone_int.calls _ _ x.f1 x.f1 _ (Kd.C_below HCX.out BQ.out) HLX.out (by unfold slices_Clone_int.f; rw [if_pos (by have := HLM.out; omega)])).mono ?_;rintro e w5 ⟨v5,rfl,hR5,hb5⟩;have HR5 := Aside0.mk (Kd.R_mono (Kd.R_bound hR5) (ok' := fun k => wq.heap.size ≤ k) (fun k hk => hk.2.1));have HB5 := Aside0.mk hb5;obtain ⟨A5,c5,rfl⟩ := Kd.R_slice hR5;clear hR5 hb5;go_wp2_with fail
   refine (delMoved.calls (fun k => wq.heap.size ≤ k) _ x.f1 a3 w.heap.size wq w5 HB5.out HR5.out ((HB5.out.cell (p := ⟨w.heap.size,0,none⟩) (show w.heap.size < _ from by have := S3.out; have := BQ.out.size; omega)).trans ((BQ.out.cell (p := ⟨w.heap.size,0,none⟩) (show w.heap.size < _ from by have := S3.out; omega)).trans CA3.out)) (by have := S3.out; have := BQ.out.size; omega)).mono ?_;rintro e w6 ⟨v6,rfl,hR6,hb6,_⟩;have HR6 := Aside0.mk hR6;have HB6 := Aside0.mk hb6;clear hR6 hb6 HR5 HB5;have hlf : (x.f1.filter fun y => !(y == a3)).length ≤ x.f1.length := List.length_filter_le _ _;obtain ⟨ll,hll⟩ : ∃ ll,(x.f1.filter fun y => !(y == a3)) = ll := ⟨_,rfl⟩
   rw [hll] at HR6 hlf;have HLF := Aside0.mk hlf;have HLL := Aside0.mk hll;clear hlf hll;have q0 : w6.cell? ⟨wr.heap.size,0,none⟩ = some (.int .i64 x.f0) := (HB6.out.cell (p := ⟨wr.heap.size,0,none⟩) (show wr.heap.size < _ from SQ1.out)).trans CQ.out;have q1 : w6.cell? ⟨w.heap.size + 1,0,none⟩ = some (.int .i64 a4) := (HB6.out.cell (p := ⟨w.heap.size + 1,0,none⟩) (show w.heap.size + 1 < _ from by have := S3.out; have := BQ.out.size; omega)).trans ((BQ.out.cell (p := ⟨w.heap.size + 1,0,none⟩) (show w.heap.size + 1 < _ from by have := S3.out; omega)).trans CB3.out);have q2 : w6.cell? ⟨w.heap.size,0,none⟩ = some (.int .i64 a3) := (HB6.out.cell (p := ⟨w.heap.size,0,none⟩) (show w.heap.size < _ from by have := S3.out; have := BQ.out.size; omega)).trans ((BQ.out.cell (p := ⟨w.heap.size,0,none⟩) (show w.heap.size < _ from by have := S3.out; omega)).trans CA3.out);by_cases hto : x.f0 = a4
   ·go_wp2_with (with_reducible refine gate_builtin (b := .append) (xs := #[.tmp 51,.tmp 53]) rfl ?_; refine and_left_ ?_)
    refine ⟨?_,trivial⟩
    at_builtin
    refine Kd.R_append (Kd.int .i64) (w0 := wq) wq.heap.size rfl (.tmp 51) (.tmp 53) 26 3 (.int .i64 0) 8 rfl Try.underlying26 info3 rfl (by decide) (by omega) v6 ll a3 [.int .i64 a3] (fun k => wq.heap.size ≤ k) (fun _ => False) rfl rfl ?aP (fun _ hk => hk.elim) ?aF ?aO ?aB ?aS ?aL ?_
    case aP => exact rfl
    case aB => exact HB6.out
    case aF => exact fun k hk => Nat.le_trans HB6.out.size hk
    case aO => exact HR6.out
    case aS => exact HB6.out.size
    case aL => have := HLF.out; have := HLM.out; omega
    intro v7 w7 ho hb hg hat;have HR7 := Aside0.mk ho;have HB7 := Aside0.mk hb;clear ho hb hg hat HR6 HB6;obtain ⟨A9,c9,he⟩ := Kd.R_slice HR7.out;obtain ⟨n9,hn9⟩ : ∃ n9,n9 = (ll ++ [a3]).length := ⟨_,rfl⟩
    rw [← hn9] at he;subst he;clear hn9;go_wp2_with fail
    refine (slices_Sort_int.calls (fun k => wq.heap.size ≤ k) _ (ll ++ [a3]) _ wq w7 HB7.out HR7.out (by unfold slices_Sort_int.f; rw [if_pos (by have := HLF.out; have := HLM.out; simp; omega)])).mono ?_;rintro e w9 ⟨rfl,hR9,hb9,_⟩;have HR9 := Aside0.mk hR9;have HB9 := Aside0.mk (BR.out.trans (hb9.mono BR.out.size));have E9 : Aside0 ((moved1 a3 a4 x).f1 = (ll ++ [a3]).mergeSort fun a b => decide (a ≤ b)) := ⟨(by simp [moved1,hto,HLL.out])⟩;clear hR9 hb9 HR7 HB7;have hbW := HB9.out;have hcg : w9.cell? ⟨g,kk * 2 + 1,none⟩ = some (.slice Ax x.f1.length cx) := (hbW.cell (p := ⟨g,kk * 2 + 1,none⟩) (show g < _ from GL.out)).trans F1.out;have hzg : w9.frozen? ⟨g,kk * 2 + 1,none⟩ = false := (hbW.frozen (p := ⟨g,kk * 2 + 1,none⟩) (show g < _ from GL.out)).trans Z1.out;go_wp2_with fail
    go_roundg (l1.length - (kk + 1))
    case measure => omega
    case rel =>
     have hT := Kd.R_below (mix_tag wr.heap.size kk (Nat.le_refl _) HF.out) hbW;have hcc7 : ∀ (j : Nat) u,([.int .i64 x.f0,.slice Ax x.f1.length cx] : List Value)[j]? = some u → w9.cell? ⟨g,(kk : Int).toNat * 2 + j,none⟩ = some u := fun j u hj => (hbW.cell (p := ⟨g,kk * 2 + j,none⟩) (show g < _ from GL.out)).trans (HCC.out j u hj)
     have hR9 : (Kd.int .i64).R 3 w9 w3.heap.size (fun k => wr.heap.size ≤ k ∧ (if k < wr.heap.size then f k else kk) = kk) (.slice A9 n9 c9) (moved1 a3 a4 x).f1 := by
      rw [E9.out];exact Kd.R_lower (Kd.R_mono (Kd.R_bound HR9.out) (fun k hk => ⟨Nat.le_trans SQ.out hk.2.1,(by rw [if_neg (by have := Nat.le_trans SQ.out hk.2.1; omega)])⟩)) (Nat.le_trans BX.out.size SQ.out)
     have hM7 := k62_mkM w9 w3.heap.size (fun k => wr.heap.size ≤ k ∧ (if k < wr.heap.size then f k else kk) = kk) (moved1 a3 a4 x) hR9;have hS := Kd.R_seg hT (kk : Int) (by omega) (by omega) (c := [.int .i64 x.f0,.slice Ax x.f1.length cx]) (seg := [.slice A9 n9 c9]) (j := 1) rfl hcc7 (by show 1 + 1 ≤ 2; omega) (x' := .inl (moved1 a3 a4 x,kk)) (okp := fun k => wr.heap.size ≤ k) hM7 (fun k hk => ⟨trivial,by have := GL.out; omega⟩);refine ⟨kk + 1,by omega,by omega,by go_num,⟨(fun b => if b < wr.heap.size then f b else kk),?_⟩,⟨(BX.out.trans (hbW.mono BX.out.size)).setCell (p := ⟨g,kk * 2 + 1,none⟩) HG.out _⟩⟩;have := hS.1;rw [Int.toNat_natCast] at this;rw [← mix_list l1 news a3 a4 kk x HXX.out HL.out];exact this
   ·obtain ⟨A9,c9,he⟩ := Kd.R_slice HR6.out;obtain ⟨n9,hn9⟩ : ∃ n9,n9 = ll.length := ⟨_,rfl⟩
    rw [← hn9] at he;subst he;clear hn9;have HR9 := HR6;have HB9 := Aside0.mk (BR.out.trans (HB6.out.mono BR.out.size));have E9 : Aside0 ((moved1 a3 a4 x).f1 = ll) := ⟨(by simp [moved1,hto,HLL.out])⟩;clear HR6 HB6;have hbW := HB9.out;have hcg : w6.cell? ⟨g,kk * 2 + 1,none⟩ = some (.slice Ax x.f1.length cx) := (hbW.cell (p := ⟨g,kk * 2 + 1,none⟩) (show g < _ from GL.out)).trans F1.out;have hzg : w6.frozen? ⟨g,kk * 2 + 1,none⟩ = false := (hbW.frozen (p := ⟨g,kk * 2 + 1,none⟩) (show g < _ from GL.out)).trans Z1.out;go_wp2_with fail
    go_roundg (l1.length - (kk + 1))
    case measure => omega
    case rel =>
     have hT := Kd.R_below (mix_tag wr.heap.size kk (Nat.le_refl _) HF.out) hbW;have hcc7 : ∀ (j : Nat) u,([.int .i64 x.f0,.slice Ax x.f1.length cx] : List Value)[j]? = some u → w6.cell? ⟨g,(kk : Int).toNat * 2 + j,none⟩ = some u := fun j u hj => (hbW.cell (p := ⟨g,kk * 2 + j,none⟩) (show g < _ from GL.out)).trans (HCC.out j u hj)
     have hR9 : (Kd.int .i64).R 3 w6 w3.heap.size (fun k => wr.heap.size ≤ k ∧ (if k < wr.heap.size then f k else kk) = kk) (.slice A9 n9 c9) (moved1 a3 a4 x).f1 := by
      rw [E9.out];exact Kd.R_lower (Kd.R_mono (Kd.R_bound HR9.out) (fun k hk => ⟨Nat.le_trans SQ.out hk.2.1,(by rw [if_neg (by have := Nat.le_trans SQ.out hk.2.1; omega)])⟩)) (Nat.le_trans BX.out.size SQ.out)
     have hM7 := k62_mkM w6 w3.heap.size (fun k => wr.heap.size ≤ k ∧ (if k < wr.heap.size then f k else kk) = kk) (moved1 a3 a4 x) hR9;have hS := Kd.R_seg hT (kk : Int) (by omega) (by omega) (c := [.int .i64 x.f0,.slice Ax x.f1.length cx]) (seg := [.slice A9 n9 c9]) (j := 1) rfl hcc7 (by show 1 + 1 ≤ 2; omega) (x' := .inl (moved1 a3 a4 x,kk)) (okp := fun k => wr.heap.size ≤ k) hM7 (fun k hk => ⟨trivial,by have := GL.out; omega⟩);refine ⟨kk + 1,by omega,by omega,by go_num,⟨(fun b => if b < wr.heap.size then f b else kk),?_⟩,⟨(BX.out.trans (hbW.mono BX.out.size)).setCell (p := ⟨g,kk * 2 + 1,none⟩) HG.out _⟩⟩;have := hS.1;rw [Int.toNat_natCast] at this;rw [← mix_list l1 news a3 a4 kk x HXX.out HL.out];exact this
  ·have hk : kk = l1.length := by omega
   subst hk;have hlm : (l1.map (moved1 a3 a4)).length = l1.length := by simp
   obtain ⟨f,HF⟩ := HX.out;rw [show ((l1.map (moved1 a3 a4)).zipIdx.take l1.length) = (l1.map (moved1 a3 a4)).zipIdx from List.take_of_length_le (by simp),show news.drop l1.length = [] from by rw [← HL.out,List.drop_length]] at HF;simp only [List.map_nil,List.append_nil] at HF;have HS := Aside0.mk (mix_end HF);clear HX HF;have BW := Aside0.mk (B3.out.trans (BX.out.mono B3.out.size));go_wp2_with fail
   refine calls_of_args (args' := #[.slice A0 l0.length c0,.slice (some ⟨g,0,none⟩) (l1.map (moved1 a3 a4)).length cap,.int .i64 a2]) (by simp) ?_;refine (impl_IsValidArchive.calls K _ _ l0 _ _ (l1.map (moved1 a3 a4)) a2 _ _ (Kd.C_below HR0.out BW.out) HC0.out (Kd.S_reads' HS.out).2.2 (by rw [hlm]; exact (Kd.S_reads' HS.out).2.1) b4.out).mono ?_;rintro e w5 ⟨rfl,hb⟩;have BE := Aside0.mk (BW.out.trans (hb.mono BW.out.size));have HE := Aside0.mk (Kd.S_lower (Kd.S_below HS.out hb) B3.out.size);clear hb;cases u with
   | true =>
    go_wp2_with fail
    go_ret2
    have e : l1.map (moved1 a3 a4) = res := by simpa using hres.out
    rw [← e];exact ⟨_,rfl,HE.out,BE.out⟩
   | false =>
    go_wp2_with fail
    go_ret2
    have e : [] = res := by simpa using hres.out
    rw [← e];exact ⟨_,rfl,⟨fun _ => 0,Kd.R_nil _ _ _ _ _⟩,BE.out⟩
theorem impl_MoveItem.calls (k : Nat) (A0 : Option Addr) (c0 : Nat) (l0 : List S50) (A1 : Option Addr) (c1 : Nat) (l1 : List S62) (a2 : Int) (a3 : Int) (a4 : Int) (r1 : List S62) (r2 : Bool) (w : World) (hr0 : Kd.C k50 w A0 l0.length l0) (hc0 : l0.length ≤ c0) (hr1 : Kd.C k62 w A1 l1.length l1) (hc1 : l1.length ≤ c1) (h : impl_MoveItem.f k l0 l1 a2 a3 a4 = some (r1,r2)) :
  Calls Try.prog 22 #[.slice A0 l0.length c0,.slice A1 l1.length c1,.int .i64 a2,.int .i64 a3,.int .i64 a4] w fun e w' => ∃ v0_ : Value,e = .returned (.tuple #[v0_,.bool r2]) ∧ Kd.S k62 62 w' w.heap.size (fun _ => True) v0_ r1 ∧ Below w.heap.size w w' := by
 obtain ⟨t,b1,h1⟩ := Option.bind_eq_some_iff.1 h
 split at h1
 ·rename_i hc;obtain ⟨rfl,b2,b3⟩ := hc
  split at h1
  ·rename_i hl;obtain ⟨u,b4,h2⟩ := Option.bind_eq_some_iff.1 h1;injection h2 with h2
   injection h2 with e1 e2
   subst e1 e2;exact impl_MoveItem.main k A0 c0 l0 A1 c1 l1 a2 a3 a4 u w hr0 hc0 hr1 hc1 b1 b2 b3 hl.1 hl.2 b4
  ·cases h1
 ·rename_i hc;injection h1 with h1
  injection h1 with e1 e2
  subst e1 e2;exact impl_MoveItem.exit k A0 c0 l0 A1 c1 l1 a2 a3 a4 t w hr0 hc0 hr1 hc1 b1 hc
def spec_l1Has.l0 : Nat → List Int → Int → Int → Option (Bool)
 | 0,_,_,_ => none
 | k + 1,x0,x1,x5 => if x5 < (x0.length : Int) then (if 0 ≤ x5 then (if (rd x0 x5) = x1 then (some true) else (spec_l1Has.l0 k x0 x1 (wrap64 (x5 + 1)))) else (none)) else (some false)
def spec_l1Has.f (k : Nat) (l0 : List Int) (a1 : Int) : Option (Bool) := spec_l1Has.l0 k l0 a1 0
theorem spec_l1Has.mono_l : ∀ k,(∀ y0 y1 y2,LeO (spec_l1Has.l0 k y0 y1 y2) (spec_l1Has.l0 (k + 1) y0 y1 y2))
 | 0 => fun _ _ _ r h => by simp [spec_l1Has.l0] at h
 | k + 1 => by
  have ih0 := spec_l1Has.mono_l k
  ·intro y0 y1 y2;unfold spec_l1Has.l0;repeat' first
   | (with_reducible exact ih0 _ _ _)
   | (with_reducible exact LeO.refl _)
   | (with_reducible exact LeO.none _)
   | (with_reducible refine LeO.ite ?_ ?_)
   | (with_reducible refine LeO.bind ?_ (fun _ => ?_))
   | exact ih0 _ _ _
   | exact LeO.none _
   | refine LeO.ite ?_ ?_
   | refine LeO.bind ?_ (fun _ => ?_)
theorem spec_l1Has.mono : ∀ a0 a1 k,LeO (spec_l1Has.f k a0 a1) (spec_l1Has.f (k + 1) a0 a1) := by
 intro a0 a1 k;have ih0 := spec_l1Has.mono_l k;unfold spec_l1Has.f;repeat' first
   | (with_reducible exact ih0 _ _ _)
   | (with_reducible exact LeO.refl _)
   | (with_reducible exact LeO.none _)
   | (with_reducible refine LeO.ite ?_ ?_)
   | (with_reducible refine LeO.bind ?_ (fun _ => ?_))
   | exact ih0 _ _ _
   | exact LeO.none _
   | refine LeO.ite ?_ ?_
   | refine LeO.bind ?_ (fun _ => ?_)
set_option maxHeartbeats 8000000 in
set_option maxRecDepth 100000 in
theorem spec_l1Has.calls (k : Nat) (A0 : Option Addr) (c0 : Nat) (l0 : List Int) (a1 : Int) (r : Bool) (w : World) (hr0 : Kd.C (Kd.int .i64) w A0 l0.length l0) (hc0 : l0.length ≤ c0) (h : spec_l1Has.f k l0 a1 = some r) :
  Calls Try.prog 75 #[.slice A0 l0.length c0,.int .i64 a1] w fun e w' => e = .returned (.bool r) ∧ Drawn0 w w' := by
 have HR0 := Aside0.mk hr0;have HC0 := Aside0.mk hc0;clear hr0 hc0;have H : (spec_l1Has.l0 k l0 a1 0) = some r := h;clear h;have H' := Aside0.mk H;clear H;go_enter Try.func75,Try.ntmps75;go_wp2
 go_loopg [5] k (fun kq v5 w' => ∃ (x5_1 : Int),v5 = .int .i64 x5_1 ∧ Aside0 (spec_l1Has.l0 kq l0 a1 x5_1 = some r) ∧ Aside0 (kq ≤ k) ∧ Drawn0 w w')
 case atStart => exact ⟨(0),yy12,H',⟨Nat.le_refl _⟩,yy26⟩
 case round =>
  clear H'
  try clear p2
  obtain ⟨x5_1,rfl,HA,HK1,⟨m1,rfl⟩⟩ := hrel;cases gk with
  | zero => exact absurd HA.out (by simp [spec_l1Has.l0])
  | succ k1 =>
   have H := HA.out;clear HA;simp only [spec_l1Has.l0] at H;by_cases c3 : x5_1 < (l0.length : Int)
   ·rw [if_pos c3] at H;have c3b0 : decide (x5_1 < (l0.length : Int)) = true := decide_eq_true c3;clear c3;by_cases c4 : 0 ≤ x5_1
    ·rw [if_pos c4] at H;have c4b0 : decide (0 ≤ x5_1) = true := decide_eq_true c4;clear c4;by_cases c5 : (rd l0 x5_1) = a1
     ·rw [if_pos c5] at H;have c5b0 : ((rd l0 x5_1) == a1) = true := beq_iff_eq.mpr c5;have c5b1 : ((rd l0 x5_1) != a1) = false := bne_eq_false_iff_eq.mpr c5;clear c5;obtain rfl := Option.some.inj H;have p497 : 0 ≤ (x5_1 : Int) := of_decide_eq_true yy2;have q497 : x5_1 < (l0.length : Int) := of_decide_eq_true yy2;obtain ⟨ad497,e497,hx497_0⟩ := Kd.at_int HR0.out x5_1 p497 q497;cases e497;replace p497 := eq_true p497;replace q497 := eq_true q497;go_wp2;go_ret;exact ⟨yy12,yy26⟩
     ·rw [if_neg c5] at H;have c5b0 : ((rd l0 x5_1) == a1) = false := beq_eq_false_iff_ne.mpr c5;have c5b1 : ((rd l0 x5_1) != a1) = true := bne_iff_ne.mpr c5;have H' := Aside0.mk H;clear H;have p497 : 0 ≤ (x5_1 : Int) := of_decide_eq_true yy2;have q497 : x5_1 < (l0.length : Int) := of_decide_eq_true yy2;obtain ⟨ad497,e497,hx497_0⟩ := Kd.at_int HR0.out x5_1 p497 q497;cases e497;replace p497 := eq_true p497;replace q497 := eq_true q497;go_wp2
      go_roundg k1
      case measure => have := HK1.out; omega
      case rel => exact ⟨(wrap64 (x5_1 + 1)),yy12,H',⟨by have := HK1.out; omega⟩,yy26⟩
    ·rw [if_neg c4] at H;exact absurd H (by simp)
   ·rw [if_neg c3] at H;have c3b0 : decide (x5_1 < (l0.length : Int)) = false := decide_eq_false c3;clear c3;obtain rfl := Option.some.inj H;go_wp2;go_ret;exact ⟨yy12,yy26⟩
def spec_l26Box.l0 : Nat → List (S62) → Int → Int → Option (Int)
 | 0,_,_,_ => none
 | k + 1,x0,x1,x5 => if x5 < (x0.length : Int) then (if 0 ≤ x5 then ((spec_l1Has.f k ((rd_T62 x0 x5).f1) x1).bind fun t499 => (if t499 = true then (some x5) else (spec_l26Box.l0 k x0 x1 (wrap64 (x5 + 1))))) else (none)) else (some (-1))
def spec_l26Box.f (k : Nat) (l0 : List (S62)) (a1 : Int) : Option (Int) := spec_l26Box.l0 k l0 a1 0
theorem spec_l26Box.mono_l : ∀ k,(∀ y0 y1 y2,LeO (spec_l26Box.l0 k y0 y1 y2) (spec_l26Box.l0 (k + 1) y0 y1 y2))
 | 0 => fun _ _ _ r h => by simp [spec_l26Box.l0] at h
 | k + 1 => by
  have ih0 := spec_l26Box.mono_l k
  ·intro y0 y1 y2;unfold spec_l26Box.l0;repeat' first
   | (with_reducible exact ih0 _ _ _)
   | (with_reducible exact spec_l1Has.mono _ _ _)
   | (with_reducible exact LeO.refl _)
   | (with_reducible exact LeO.none _)
   | (with_reducible refine LeO.ite ?_ ?_)
   | (with_reducible refine LeO.bind ?_ (fun _ => ?_))
   | exact ih0 _ _ _
   | exact spec_l1Has.mono _ _ _
   | exact LeO.none _
   | refine LeO.ite ?_ ?_
   | refine LeO.bind ?_ (fun _ => ?_)
theorem spec_l26Box.mono : ∀ a0 a1 k,LeO (spec_l26Box.f k a0 a1) (spec_l26Box.f (k + 1) a0 a1) := by
 intro a0 a1 k;have ih0 := spec_l26Box.mono_l k;unfold spec_l26Box.f;repeat' first
   | (with_reducible exact ih0 _ _ _)
   | (with_reducible exact spec_l1Has.mono _ _ _)
   | (with_reducible exact LeO.refl _)
   | (with_reducible exact LeO.none _)
   | (with_reducible refine LeO.ite ?_ ?_)
   | (with_reducible refine LeO.bind ?_ (fun _ => ?_))
   | exact ih0 _ _ _
   | exact spec_l1Has.mono _ _ _
   | exact LeO.none _
   | refine LeO.ite ?_ ?_
   | refine LeO.bind ?_ (fun _ => ?_)
set_option maxHeartbeats 8000000 in
set_option maxRecDepth 100000 in
theorem spec_l26Box.calls (k : Nat) (A0 : Option Addr) (c0 : Nat) (l0 : List (S62)) (a1 : Int) (r : Int) (w : World) (hr0 : Kd.C k62 w A0 l0.length l0) (hc0 : l0.length ≤ c0) (h : spec_l26Box.f k l0 a1 = some r) :
  Calls Try.prog 36 #[.slice A0 l0.length c0,.int .i64 a1] w fun e w' => e = .returned (.int .i64 r) ∧ Drawn0 w w' := by
 have HR0 := Aside0.mk hr0;have HC0 := Aside0.mk hc0;clear hr0 hc0;have H : (spec_l26Box.l0 k l0 a1 0) = some r := h;clear h;have H' := Aside0.mk H;clear H;go_enter Try.func36,Try.ntmps36;go_wp2
 go_loopg [5] k (fun kq v5 w' => ∃ (x5_1 : Int),v5 = .int .i64 x5_1 ∧ Aside0 (spec_l26Box.l0 kq l0 a1 x5_1 = some r) ∧ Aside0 (kq ≤ k) ∧ Drawn0 w w')
 case atStart => exact ⟨(0),yy12,H',⟨Nat.le_refl _⟩,yy26⟩
 case round =>
  clear H'
  try clear p2
  obtain ⟨x5_1,rfl,HA,HK1,⟨m1,rfl⟩⟩ := hrel;cases gk with
  | zero => exact absurd HA.out (by simp [spec_l26Box.l0])
  | succ k1 =>
   have H := HA.out;clear HA;simp only [spec_l26Box.l0] at H;by_cases c3 : x5_1 < (l0.length : Int)
   ·rw [if_pos c3] at H;have c3b0 : decide (x5_1 < (l0.length : Int)) = true := decide_eq_true c3;clear c3;by_cases c4 : 0 ≤ x5_1
    ·rw [if_pos c4] at H;have c4b0 : decide (0 ≤ x5_1) = true := decide_eq_true c4;clear c4;replace H := Option.bind_eq_some_iff.mp H;obtain ⟨t499,A50,H⟩ := H;replace H : (if t499 = true then (some x5_1) else (spec_l26Box.l0 k1 l0 a1 (wrap64 (x5_1 + 1)))) = some r := H;have A5 := Aside0.mk A50;clear A50;by_cases c6 : t499 = true
     ·subst c6;have H1 : (some x5_1) = some r := by rw [if_pos rfl] at H; exact H
      clear H;have H := H1;clear H1;obtain rfl := Option.some.inj H;have p498 : 0 ≤ (x5_1 : Int) := of_decide_eq_true yy2;have q498 : x5_1 < (l0.length : Int) := of_decide_eq_true yy2;obtain ⟨ad498,A498_1,c498_1,e498,hx498_0,hx498_1,hl498_1,hi498_1⟩ := at_T62 HR0.out x5_1 p498 q498;cases e498;have HR498_1 := Aside0.mk hi498_1;have HC498_1 := Aside0.mk hl498_1;clear hi498_1 hl498_1;replace p498 := eq_true p498;replace q498 := eq_true q498;go_wp2_with (first | ((with_reducible refine gate_callee (f := 75) rfl ?_); refine goesL_ (some 18) rfl rfl Try.func75 (by kernel_rfl) rfl #[.slice A498_1 ((rd_T62 l0 x5_1).f1).length c498_1,.int .i64 a1] rfl yy3 ?_; (with_reducible refine (spec_l1Has.calls k1 _ _ ((rd_T62 l0 x5_1).f1) a1 true _ ?side1 ?side2 A5.out).mono ?_); (case side1 => repeat (first | exact HR498_1.out | (with_reducible refine Kd.C_alloc ?_ _) | (with_reducible refine Kd.C_drewN ?_ _) | (with_reducible refine Kd.C_drew ?_))); (case side2 => exact HC498_1.out); rintro e w' ⟨rfl,⟨nd,rfl⟩⟩; refine ⟨_,rfl,?_⟩))
      go_ret;exact ⟨yy12,yy26⟩
     ·replace c6 := Bool.eq_false_iff.mpr c6;subst c6;have H1 : (spec_l26Box.l0 k1 l0 a1 (wrap64 (x5_1 + 1))) = some r := by rw [if_neg (show ¬ (false = true) by decide)] at H; exact H
      clear H;have H := H1;clear H1;have H' := Aside0.mk H;clear H;have p498 : 0 ≤ (x5_1 : Int) := of_decide_eq_true yy2;have q498 : x5_1 < (l0.length : Int) := of_decide_eq_true yy2;obtain ⟨ad498,A498_1,c498_1,e498,hx498_0,hx498_1,hl498_1,hi498_1⟩ := at_T62 HR0.out x5_1 p498 q498;cases e498;have HR498_1 := Aside0.mk hi498_1;have HC498_1 := Aside0.mk hl498_1;clear hi498_1 hl498_1;replace p498 := eq_true p498;replace q498 := eq_true q498;go_wp2_with (first | ((with_reducible refine gate_callee (f := 75) rfl ?_); refine goesL_ (some 18) rfl rfl Try.func75 (by kernel_rfl) rfl #[.slice A498_1 ((rd_T62 l0 x5_1).f1).length c498_1,.int .i64 a1] rfl yy3 ?_; (with_reducible refine (spec_l1Has.calls k1 _ _ ((rd_T62 l0 x5_1).f1) a1 false _ ?side1 ?side2 A5.out).mono ?_); (case side1 => repeat (first | exact HR498_1.out | (with_reducible refine Kd.C_alloc ?_ _) | (with_reducible refine Kd.C_drewN ?_ _) | (with_reducible refine Kd.C_drew ?_))); (case side2 => exact HC498_1.out); rintro e w' ⟨rfl,⟨nd,rfl⟩⟩; refine ⟨_,rfl,?_⟩))
      go_roundg k1
      case measure => have := HK1.out; omega
      case rel => exact ⟨(wrap64 (x5_1 + 1)),yy12,H',⟨by have := HK1.out; omega⟩,yy26⟩
    ·rw [if_neg c4] at H;exact absurd H (by simp)
   ·rw [if_neg c3] at H;have c3b0 : decide (x5_1 < (l0.length : Int)) = false := decide_eq_false c3;clear c3;obtain rfl := Option.some.inj H;go_wp2;go_ret;exact ⟨yy12,yy26⟩
end Go.Proofs.Ytoadgikbbigdlaa.B
