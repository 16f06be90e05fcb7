/- A part of the proof: words, contracts of functions, and their walks. -/
import Derived.Deep.QuietTactic
import Derived.BigQuiet
import Derived.OrdersIn
import Derived.TacticsIn
import Derived.Test.YtfijblhfgfefoaaGreatDoorQLess3
import Derived.Test.YtfijblhfgfefoaaGreatDoorQLess5
set_option linter.unusedVariables false
set_option linter.unusedSimpArgs false
section
namespace Go.Proofs.YtfijblhfgfefoaaGreatDoor.Rv
open Go.RowKit Go.Shelf Go.IntWalk Go.Proofs.YtfijblhfgfefoaaGreatDoor.PAll Go.Proofs.YtfijblhfgfefoaaGreatDoorW.PrintWords Go.Proofs.YtfijblhfgfefoaaGreatDoorW.PrintLast
theorem own_cell {w : World} {base e sz g n cap : Nat} {cs : List Value} (h : w.ownsRow base e sz (.slice (some ⟨g, 0, none⟩) n cap) n cs) (i : Nat) (u : Value) (hu : cs[i]? = some u) : w.cell? ⟨g, i, none⟩ = some u ∧ w.frozen? ⟨g, i, none⟩ = false := by
 constructor
 ·have := h.cells (g := g) rfl i u hu
  rwa [add_plain] at this
 ·rcases h.2 with ⟨h', _⟩ | ⟨g', cap', cur, h', _, hh, _⟩
  ·cases h'
  ·have : g = g' := by injection h' with h'; injection h' with h'; injection h' with h'
   subst this
   simp [World.frozen?, hh]
theorem own47_set {w : World} {base g n cap : Nat} {xs : List S47} (h : w.ownsRow base 47 2 (.slice (some ⟨g, 0, none⟩) n cap) n (flat47 xs)) (j : Nat) (m : S47) :
 ((w.setCell ⟨g, j * 2, none⟩ (.int .i64 m.f0)).setCell ⟨g, j * 2 + 1, none⟩ (.int .i64 m.f1)).ownsRow base 47 2 (.slice (some ⟨g, 0, none⟩) n cap) n (flat47 (xs.set j m)) := by
 rw [flat47_set]
 exact ((h.stored (j * 2) (.int .i64 m.f0)).1.stored (j * 2 + 1) (.int .i64 m.f1)).1
theorem own47_at {w : World} {base g n cap : Nat} {xs : List S47} (h : w.ownsRow base 47 2 (.slice (some ⟨g, 0, none⟩) n cap) n (flat47 xs)) (j : Nat) (hj : j < xs.length) :
 w.cell? ⟨g, j * 2, none⟩ = some (.int .i64 (xs.getD j z47).f0) ∧ w.cell? ⟨g, j * 2 + 1, none⟩ = some (.int .i64 (xs.getD j z47).f1) ∧ w.frozen? ⟨g, j * 2, none⟩ = false ∧ w.frozen? ⟨g, j * 2 + 1, none⟩ = false := by
 have h1 := flat47_get xs j hj
 have e : xs.getD j z47 = xs[j] := by simp [List.getD_eq_getElem?_getD, hj]
 rw [e]
 exact ⟨(own_cell h _ _ h1.1).1, (own_cell h _ _ h1.2).1, (own_cell h _ _ h1.1).2, (own_cell h _ _ h1.2).2⟩
theorem own_F {α : Type} {d : Kd α} {w : World} {base e n : Nat} {v : Value} {ok : Nat → Prop} {xs : List α} {cs : List Value} (h : w.ownsRow base e d.sz v n cs) (hr : Reps (fun x c => Kd.FK d w ok x c) d.sz xs cs) (hn : xs.length = n) :
 ∃ A c, v = .slice A n c ∧ n ≤ c ∧ Kd.F d w (fun k => ok k ∨ some k = v.ownBlock) A n xs := by
 obtain ⟨A, c, rfl, hRR⟩ := own_reads_row h hr hn
 refine ⟨A, c, rfl, own_le h, fun W' hW => ?_⟩
 have hm : W'.ownsRow base e d.sz (.slice A n c) n cs := own_move h (fun k hk => hW k (.inr hk.symm) (own_lt h k hk))
 obtain ⟨A', c', e', hRR'⟩ := own_reads_row (R := d.K W') hm (hr.imp_ fun x c hx => hx W' (fun k hk hlt => hW k (.inl hk) hlt)) hn
 cases e'
 exact hRR'
theorem reps_setOne {α : Type} {R : α → List Value → Prop} {xs : List α} {cs : List Value} (h : Reps R 1 xs cs) (j : Nat) (x : α) (u : Value) (hx : R x [u]) : Reps R 1 (xs.set j x) (cs.set j u) := by
 refine ⟨by simpa using h.1, fun i p hi => ?_⟩
 have hl := h.1
 rw [List.getElem?_set] at hi
 split at hi
 ·rename_i e
  subst e
  split at hi
  ·rename_i hj
   cases hi
   have : ((cs.set j u).drop (j * 1)).take 1 = [u] := by
    rw [Nat.mul_one, List.drop_eq_getElem_cons (by simp; omega)]
    simp
   rw [this]
   exact hx
  ·cases hi
 ·rename_i hne
  have := h.2 i p hi
  have e : ((cs.set j u).drop (i * 1)).take 1 = (cs.drop (i * 1)).take 1 := by
   have hil := (List.getElem?_eq_some_iff.1 hi).1
   have h1 : i < (cs.set j u).length := by simp; omega
   have h2 : i < cs.length := by omega
   rw [Nat.mul_one, List.drop_eq_getElem_cons h1, List.drop_eq_getElem_cons h2]
   simp only [List.take_succ_cons, List.take_zero, List.getElem_set_ne hne]
  rw [e]
  exact this
theorem F_reps {α : Type} {d : Kd α} {w : World} {ok : Nat → Prop} {A : Option Addr} {n : Nat} {xs : List α} (h : Kd.F d w ok A n xs) : ∃ cells, Raw w A n d.sz cells ∧ Reps (fun x c => Kd.FK d w ok x c) d.sz xs cells := by
 have hr := Kd.F_rows h
 rcases Nat.eq_zero_or_pos n with h0 | h0
 ·subst h0
  obtain rfl : xs = [] := List.eq_nil_of_length_eq_zero hr.1
  exact ⟨[], ⟨by simp, by simp, fun h => absurd h (Nat.lt_irrefl 0)⟩, Reps.none _ _⟩
 ·obtain ⟨ad, rfl, _⟩ := hr.2.2 h0
  obtain ⟨news, hp, hc⟩ := ReadsRow.inner_ hr
  refine ⟨news, ⟨by rw [hp.1, hr.1], ?_, fun _ => ⟨ad, rfl, hc⟩⟩, hp⟩
  intro u hu
  obtain ⟨j, hj, rfl⟩ := List.getElem_of_mem hu
  have hsz : 0 < d.sz := by
   rcases Nat.eq_zero_or_pos d.sz with h1 | h1
   ·have := hp.1; rw [h1] at this; simp at this; subst this; simp at hj
   ·exact h1
  have hlt : j / d.sz < xs.length := by
   have := hp.1
   exact Nat.div_lt_of_lt_mul (by rw [Nat.mul_comm]; omega)
  have hk := Kd.FK_now (hp.2 (j / d.sz) _ (List.getElem?_eq_getElem hlt))
  refine d.K_one hk _ ?_
  have hm := Nat.div_add_mod j d.sz
  have hmod := Nat.mod_lt j hsz
  rw [List.mem_take_iff_getElem]
  refine ⟨j % d.sz, ?_, ?_⟩
  ·rw [List.length_drop]; rw [Nat.mul_comm] at hm; omega
  ·rw [List.getElem_drop]; congr 1; rw [Nat.mul_comm]; exact hm
def setAll : Act → List (Option Tmp) → (Nat → Value) → Nat → Act
 |A, [], _, _ => A
 |A, d :: ds, u, k => setAll (A.put d (u k)) ds u (k + 1)
def upf (u : Nat → Value) (i : Nat) (v : Value) : Nat → Value := fun j => if j = i then v else u j
theorem upf_self (u : Nat → Value) (i : Nat) (v : Value) : upf u i v i = v := by simp [upf]
theorem upf_ne {u : Nat → Value} {i j : Nat} {v : Value} (h : j ≠ i) : upf u i v j = u j := by simp [upf, h]
def oldAt (A : Act) (d : Option Tmp) : Value := match d with
 |none => undef
 |some t => A.tmps.getD t undef
theorem put_old (A : Act) (d : Option Tmp) : A.put d (oldAt A d) = A := by
 cases d with
 |none => rfl
 |some t =>
  cases A with
  |mk tmps defers =>
   simp only [Act.put, oldAt, Act.mk.injEq, and_true]
   rcases Nat.lt_or_ge t tmps.size with h | h
   ·apply Array.ext
    ·simp
    ·intro i h1 h2
     rw [Array.getElem_setIfInBounds]
     split
     ·rename_i e
      subst e
      simp [Array.getD_eq_getD_getElem?, h]
     ·rfl
   ·exact Array.setIfInBounds_eq_of_size_le h
theorem setAll_old (A : Act) (ds : List (Option Tmp)) (u : Nat → Value) (k : Nat) (h : ∀ j d, ds[j]? = some d → u (k + j) = oldAt A d) : setAll A ds u k = A := by
 induction ds generalizing k with
 |nil => rfl
 |cons d ds ih =>
  simp only [setAll]
  have h0 := h 0 d rfl
  rw [Nat.add_zero] at h0
  rw [h0, put_old]
  exact ih (k + 1) fun j e he => by
   have := h (j + 1) e (by simpa using he)
   rw [show k + 1 + j = k + (j + 1) from by omega]
   exact this
theorem one_mono {P : Program} {ops : Array Oper} {Q : Exit → Act → World → Prop} {o : Oper} {a : Act} {w : World} {K K' : Act → World → Prop} (h : ∀ a w, K a w → K' a w) (hh : wpList P ops (Exit.then K Q) [o] a w) : wpList P ops (Exit.then K' Q) [o] a w := by
 simp only [wpList] at hh ⊢
 split at hh
 ·rename_i hw
  simp only [hw, if_true]
  exact hh.imp (Oper.wp_mono (fun a w h' => h a w h')) (fun x => x)
 ·rename_i hw
  simp only [hw, if_false]
  exact h _ _ hh
theorem region_reads {P : Program} {id : Nat} {l : List Oper} {Q : Exit → Act → World → Prop} {a : Act} {w : World} (n : Nat) (D : List (List Nat)) (vals : List (Option Value)) (Mem : (Nat → Bool) → (Nat → Value) → World → Prop)
 (hm : P.follows .mixedOrders = true) (hD : headOk l.toArray D (masks l) n = true) (hn : n ≤ l.length)
 (h0 : ∀ u w2, Same w w2 → Mem (fun _ => false) u w2)
 (hM : ∀ i v b u w, vals.getD i none = some v → Mem b u w → Mem (upd b i) (upf u i v) w)
 (hq : ∀ i o v, i < n → l[i]? = some o → vals.getD i none = some v → ∀ b u w, Mem b u w → (∀ j, j ∈ D.getD i [] → b j = true) → (∀ j v, j ∈ D.getD i [] → vals.getD j none = some v → u j = v) →
   wpList P l.toArray (Exit.then (fun a' w' => a' = setAll a ((l.take n).map (·.dst)) (upf u i v) 0 ∧ w' = w) Q) [o] (setAll a ((l.take n).map (·.dst)) u 0) w)
 (he : ∀ i o, i < n → l[i]? = some o → vals.getD i none = none → ∀ b u w, Mem b u w → b i = false → (∀ j, j ∈ D.getD i [] → b j = true) → (∀ d, d < n → i ∈ D.getD d [] → b d = false) → (∀ j v, j ∈ D.getD i [] → vals.getD j none = some v → u j = v) →
   wpList P l.toArray (Exit.then (fun a' w' => ∃ v, a' = setAll a ((l.take n).map (·.dst)) (upf u i v) 0 ∧ Mem (upd b i) (upf u i v) w') Q) [o] (setAll a ((l.take n).map (·.dst)) u 0) w)
 (hend : ∀ b u w, (∀ i, i < n → b i = true) → Mem b u w → (∀ j v, j < n → vals.getD j none = some v → u j = v) → wpList P l.toArray Q (l.drop n) (setAll a ((l.take n).map (·.dst)) u 0) w) :
 (Code.region id l.toArray true).wp P Q a w := by
 refine region_head n D (fun b a' W => ∃ u, a' = setAll a ((l.take n).map (·.dst)) u 0 ∧ Mem b u W ∧ ∀ j v, b j = true → vals.getD j none = some v → u j = v) hm hD hn ?_ ?_ ?_
 ·intro w2 hw
  refine ⟨fun j => match ((l.take n).map (·.dst))[j]? with | none => undef | some d => oldAt a d, ?_, h0 _ w2 hw, fun j v h => by cases h⟩
  refine (setAll_old _ _ _ _ fun j d hj => ?_).symm
  rw [Nat.zero_add]
  simp only [hj]
 ·intro i o hi ho b a' W hI hb hd hq'
  obtain ⟨u, rfl, hMem, hv⟩ := hI
  cases hvi : vals.getD i none with
  |some v =>
   refine one_mono ?_ (hq i o v hi ho hvi b u W hMem hd (fun j v hj hjv => hv j v (hd j hj) hjv))
   intro a' w' hx
   obtain ⟨rfl, rfl⟩ := hx
   refine ⟨upf u i v, rfl, hM i v b u w' hvi hMem, fun j v' hj hjv => ?_⟩
   by_cases e : j = i
   ·subst e
    rw [hvi] at hjv
    cases hjv
    exact upf_self _ _ _
   ·rw [upf_ne e]
    rw [upd_ne e] at hj
    exact hv j v' hj hjv
  |none =>
   refine one_mono ?_ (he i o hi ho hvi b u W hMem hb hd hq' (fun j v hj hjv => hv j v (hd j hj) hjv))
   intro a' w' hx
   obtain ⟨v, rfl, hMem'⟩ := hx
   refine ⟨upf u i v, rfl, hMem', fun j v' hj hjv => ?_⟩
   by_cases e : j = i
   ·subst e
    rw [hvi] at hjv
    cases hjv
   ·rw [upf_ne e]
    rw [upd_ne e] at hj
    exact hv j v' hj hjv
 ·intro b a' W hall hI
  obtain ⟨u, rfl, hMem, hv⟩ := hI
  exact hend b u W hall hMem (fun j v hj hjv => hv j v (hall j hj) hjv)
theorem region_lit {P : Program} {id : Nat} {l : List Oper} {Q : Exit → Act → World → Prop} {a : Act} {w : World} {lit : (Nat → Value) → Act} (n : Nat) (D : List (List Nat)) (vals : List (Option Value)) (Mem : (Nat → Bool) → (Nat → Value) → World → Prop)
 (hlit : ∀ u, setAll a ((l.take n).map (·.dst)) u 0 = lit u)
 (hm : P.follows .mixedOrders = true) (hD : headOk l.toArray D (masks l) n = true) (hn : n ≤ l.length)
 (h0 : ∀ u w2, Same w w2 → Mem (fun _ => false) u w2)
 (hM : ∀ i v b u w, vals.getD i none = some v → Mem b u w → Mem (upd b i) (upf u i v) w)
 (hq : ∀ i o v, i < n → l[i]? = some o → vals.getD i none = some v → ∀ b u w, Mem b u w → (∀ j, j ∈ D.getD i [] → b j = true) → (∀ j v, j ∈ D.getD i [] → vals.getD j none = some v → u j = v) →
   wpList P l.toArray (Exit.then (fun a' w' => a' = lit (upf u i v) ∧ w' = w) Q) [o] (lit u) w)
 (he : ∀ i o, i < n → l[i]? = some o → vals.getD i none = none → ∀ b u w, Mem b u w → b i = false → (∀ j, j ∈ D.getD i [] → b j = true) → (∀ d, d < n → i ∈ D.getD d [] → b d = false) → (∀ j v, j ∈ D.getD i [] → vals.getD j none = some v → u j = v) →
   wpList P l.toArray (Exit.then (fun a' w' => ∃ v, a' = lit (upf u i v) ∧ Mem (upd b i) (upf u i v) w') Q) [o] (lit u) w)
 (hend : ∀ b u w, (∀ i, i < n → b i = true) → Mem b u w → (∀ j v, j < n → vals.getD j none = some v → u j = v) → wpList P l.toArray Q (l.drop n) (lit u) w) :
 (Code.region id l.toArray true).wp P Q a w :=
 region_reads n D vals Mem hm hD hn h0 hM
  (fun i o v hi ho hv b u w h1 h2 h3 => by rw [hlit, hlit]; exact hq i o v hi ho hv b u w h1 h2 h3)
  (fun i o hi ho hv b u w h1 h2 h3 h4 h5 => by
    have := he i o hi ho hv b u w h1 h2 h3 h4 h5
    rw [hlit]
    refine one_mono ?_ this
    rintro a' w' ⟨v, rfl, h⟩
    exact ⟨v, (hlit _).symm, h⟩)
  (fun b u w h1 h2 h3 => by rw [hlit]; exact hend b u w h1 h2 h3)
end Go.Proofs.YtfijblhfgfefoaaGreatDoor.Rv
end
section
namespace Go.Proofs.YtfijblhfgfefoaaGreatDoor.Rv
open Go.RowKit Go.Shelf Go.IntWalk Go.Proofs.YtfijblhfgfefoaaGreatDoor.PAll Go.Proofs.YtfijblhfgfefoaaGreatDoorW.PrintWords Go.Proofs.YtfijblhfgfefoaaGreatDoorW.PrintLast
theorem wpAnyIn_inv {F : Fence} {nf : Nat} {P : Program} {ops : Array Oper} {Q : Exit → Act → World → Prop} {D : List (List Nat)} (hD : depsOk ops D = true) (I : (Nat → Bool) → Act → World → Prop)
 (hs : ∀ i, i < ops.size → ∀ b a w, I b a w → b i = false → (∀ j, j ∈ D.getD i [] → b j = true) → (∀ o, ops[i]? = some o → ∀ e ∈ o.after, Region.binds .any e = true → b e.on = true) → (∀ d o, ops[d]? = some o → b d = true → ∀ e ∈ o.after, Region.binds .any e = true → b e.on = true) → wpOpIn F nf P ops Q i (fun a' w' => I (upd b i) a' w') a w)
 (hend : ∀ b a w, (∀ i, i < ops.size → b i = true) → I b a w → Q .normal a w) :
 ∀ (fuel : Nat) (listed : Array Bool) (a : Act) (w : World), listed.size = ops.size → ((List.range ops.size).filter fun i => !listed.getD i false).length ≤ fuel →
  (∀ d o, ops[d]? = some o → listed.getD d false = true → ∀ e ∈ o.after, Region.binds .any e = true → listed.getD e.on false = true) →
  I (fun i => listed.getD i false) a w → wpAnyIn F nf P .any ops Q fuel listed a w := by
 have all_done : ∀ (listed : Array Bool), listed.size = ops.size → Region.ready .any ops listed = [] → ∀ i, i < ops.size → listed.getD i false = true := by
  intro listed hsz hr
  have key : ∀ n i, i < n → i < ops.size → listed.getD i false = true := by
   intro n
   induction n with
   |zero => intro i h; omega
   |succ n ih =>
    intro i hi hlt
    cases hc : listed.getD i false with
    |true => rfl
    |false =>
     exfalso
     have hm : i ∈ Region.ready .any ops listed := by
      refine mem_ready.2 ⟨?_, ops[i], Array.getElem?_eq_getElem hlt, fun e he hb => ?_⟩
      ·have : i < listed.size := by omega
       simp only [Array.getD_eq_getD_getElem?, Array.getElem?_eq_getElem this, Option.getD_some] at hc ⊢
       exact hc
      ·have := (depsOk_at hD (Array.getElem?_eq_getElem hlt)).2 e he hb
       exact ih e.on (by omega) (by omega)
     rw [hr] at hm
     cases hm
  exact fun i hi => key (i + 1) i (by omega) hi
 intro fuel
 induction fuel with
 |zero =>
  intro listed a w hsz hcnt hcl hI
  have hnil : ((List.range ops.size).filter fun i => !listed.getD i false) = [] := List.eq_nil_of_length_eq_zero (by omega)
  have hall : ∀ i, i < ops.size → listed.getD i false = true := by
   intro i hi
   have := List.filter_eq_nil_iff.1 hnil i (List.mem_range.2 hi)
   simpa using this
  refine ⟨?_, hend _ a w hall hI⟩
  cases hr : Region.ready .any ops listed with
  |nil => rfl
  |cons i rs =>
   exfalso
   have hm : i ∈ Region.ready .any ops listed := by rw [hr]; exact List.mem_cons_self
   obtain ⟨h0, o, ho, _⟩ := mem_ready.1 hm
   have hi : i < ops.size := (Array.getElem?_eq_some_iff.1 ho).1
   have h1 := hall i hi
   have : i < listed.size := by omega
   simp only [Array.getD_eq_getD_getElem?, Array.getElem?_eq_getElem this, Option.getD_some] at h0 h1
   rw [h0] at h1; cases h1
 |succ fuel ih =>
  intro listed a w hsz hcnt hcl hI
  refine ⟨fun hr => hend _ a w (all_done listed hsz hr) hI, fun i him => ?_⟩
  obtain ⟨h0, o, ho, hw⟩ := mem_ready.1 him
  have hi : i < ops.size := (Array.getElem?_eq_some_iff.1 ho).1
  have hil : i < listed.size := by omega
  have h0' : listed.getD i false = false := by
   simp only [Array.getD_eq_getD_getElem?, Array.getElem?_eq_getElem hil, Option.getD_some] at h0 ⊢
   exact h0
  refine wpOpIn_mono (fun a' w' hI' => ih (listed.setIfInBounds i true) a' w' (by simpa using hsz) ?_ ?_ ?_) (hs i hi _ a w hI h0' ?_ ?_ ?_)
  ·have hf : ((List.range ops.size).filter fun j => !(listed.setIfInBounds i true).getD j false) = ((List.range ops.size).filter fun j => !listed.getD j false).filter fun j => !(j == i) := by
    rw [List.filter_filter]
    apply List.filter_congr
    intro j hj
    by_cases e : j = i
    ·subst e
     simp [hil]
    ·rw [getD_set_ne false (Ne.symm e)]
     simp [e]
   rw [hf]
   have hmem : i ∈ ((List.range ops.size).filter fun j => !listed.getD j false) := List.mem_filter.2 ⟨List.mem_range.2 hi, by rw [h0']; rfl⟩
   have hlt : (((List.range ops.size).filter fun j => !listed.getD j false).filter fun j => !(j == i)).length < ((List.range ops.size).filter fun j => !listed.getD j false).length :=
    List.length_filter_lt_length_iff_exists.2 ⟨i, hmem, by simp⟩
   omega
  ·intro d od hod hd e he hb
   by_cases ed : d = i
   ·subst ed
    rw [ho] at hod; cases hod
    exact getD_set_true (hw e he hb)
   ·rw [getD_set_ne false (Ne.symm ed)] at hd
    exact getD_set_true (hcl d od hod hd e he hb)
  ·have : (fun j => (listed.setIfInBounds i true).getD j false) = upd (fun j => listed.getD j false) i := by
    funext j
    by_cases e : j = i
    ·subst e; rw [upd_self]; simp [hil]
    ·rw [upd_ne e, getD_set_ne false (Ne.symm e)]
   rw [this]
   exact hI'
  ·intro j hj
   obtain ⟨e, he, hb, rfl⟩ := (depsOk_at hD ho).1 j hj
   exact hw e he hb
  ·intro o' ho' e he hb
   rw [ho] at ho'; cases ho'
   exact hw e he hb
  ·exact fun d o' ho' hd => hcl d o' ho' hd
theorem region_invIn {F : Fence} {nf : Nat} {P : Program} {id : Nat} {ops : Array Oper} {Q : Exit → Act → World → Prop} {a : Act} {w : World} (D : List (List Nat)) (I : (Nat → Bool) → Act → World → Prop)
 (hm : P.follows .mixedOrders = true) (hD : depsOk ops D = true) (h0 : ∀ w2, Same w w2 → I (fun _ => false) a w2)
 (hs : ∀ i, i < ops.size → ∀ b a w, I b a w → b i = false → (∀ j, j ∈ D.getD i [] → b j = true) → (∀ o, ops[i]? = some o → ∀ e ∈ o.after, Region.binds .any e = true → b e.on = true) → (∀ d o, ops[d]? = some o → b d = true → ∀ e ∈ o.after, Region.binds .any e = true → b e.on = true) → wpOpIn F nf P ops Q i (fun a' w' => I (upd b i) a' w') a w)
 (hend : ∀ b a w, (∀ i, i < ops.size → b i = true) → I b a w → Q .normal a w) : (Code.region id ops true).wpIn F nf P Q a w := by
 refine wpIn_region_any hm (wpAnyIn_inv hD I hs hend ops.size _ a _ (by simp) ?_ ?_ ?_)
 ·exact Nat.le_trans (List.length_filter_le _ _) (by simp)
 ·intro d o ho hd
  simp [Array.getElem?_replicate] at hd
  split at hd <;> simp at hd
 ·have : (fun i => (Array.replicate ops.size false).getD i false) = fun _ => false := by
   funext i
   simp [Array.getElem?_replicate]
   split <;> simp
  rw [this]
  exact h0 _ (same_drew w)
variable {F : Fence} {nf : Nat} {P : Program} {ops : Array Oper} {Q : Exit → Act → World → Prop} {D : List (List Nat)} {M : List Nat} {n : Nat}
theorem region_headIn {id : Nat} {l : List Oper} {a : Act} {w : World} (n : Nat) (D : List (List Nat)) (I : (Nat → Bool) → Act → World → Prop)
 (hm : P.follows .mixedOrders = true) (hD : headOk l.toArray D (masks l) n = true) (hn : n ≤ l.length) (h0 : ∀ w2, Same w w2 → I (fun _ => false) a w2)
 (hs : ∀ i o, i < n → l[i]? = some o → ∀ b a w, I b a w → b i = false → (∀ j, j ∈ D.getD i [] → b j = true) → (∀ d, d < n → i ∈ D.getD d [] → b d = false) → wpListIn F nf P l.toArray (Exit.then (fun a' w' => I (upd b i) a' w') Q) [o] a w)
 (hend : ∀ b a w, (∀ i, i < n → b i = true) → I b a w → wpListIn F nf P l.toArray Q (l.drop n) a w) : (Code.region id l.toArray true).wpIn F nf P Q a w := by
 have hsz : l.toArray.size = l.length := by simp
 have hbits : ∀ i, i < l.toArray.size → (∀ j, j ∈ D.getD i [] → ((masks l).getD i 0).testBit j = true ∧ j < l.toArray.size) ∧ (n ≤ i → ∀ j, j < i → ((masks l).getD i 0).testBit j = true) := by
  intro i hi
  unfold headOk at hD
  simp only [Bool.and_eq_true] at hD
  have h1 := List.all_eq_true.1 hD.1.2 i (List.mem_range.2 hi)
  have h2 := List.all_eq_true.1 hD.2 i (List.mem_range.2 hi)
  refine ⟨fun j hj => ?_, fun hni j hj => ?_⟩
  ·have := List.all_eq_true.1 h1 j hj
   simpa using this
  ·simp only [Bool.or_eq_true, decide_eq_true_eq] at h2
   rcases h2 with h2 | h2
   ·omega
   ·exact List.all_eq_true.1 h2 j (List.mem_range.2 hj)
 let C : (Nat → Bool) → Prop := fun b => ∀ d o, l.toArray[d]? = some o → b d = true → ∀ e ∈ o.after, Region.binds .any e = true → b e.on = true
 let J : (Nat → Bool) → Act → World → Prop := fun b a w => C b ∧
  ((∀ d, n ≤ d → d < l.length → b d = false) ∧ I b a w ∨
   ∃ k, n < k ∧ k ≤ l.length ∧ (∀ d, d < l.length → (b d = true ↔ d < k)) ∧ wpListIn F nf P l.toArray Q (l.drop k) a w)
 refine region_invIn (D := []) J hm (headOk_depsOk hD) (fun w2 hw => ⟨fun d o _ h => (by cases h), .inl ⟨fun _ _ _ => rfl, h0 w2 hw⟩⟩) ?_ ?_
 ·intro i hi b a w ⟨hC, hI⟩ hbi _ hready hclosed
  have hil : i < l.length := by omega
  have ho : l.toArray[i]? = some l[i] := by simp [hil]
  have hC' : C (upd b i) := by
   intro d o hod hd e he hb
   by_cases ed : d = i
   ·subst ed
    have := hready o hod e he hb
    by_cases ee : e.on = d
    ·rw [ee, upd_self]
    ·rw [upd_ne ee]; exact this
   ·rw [upd_ne ed] at hd
    have := hC d o hod hd e he hb
    by_cases ee : e.on = i
    ·rw [ee, upd_self]
    ·rw [upd_ne ee]; exact this
  have hmask := mask_done hD hclosed (i + 1) i (by omega) hi hready
  rcases hI with ⟨hfree, hI⟩ | ⟨k, hk, hkl, hbk, hlist⟩
  ·rcases Nat.lt_or_ge i n with hin | hin
   ·have := hs i l[i] hin (by simp [hil]) b a w hI hbi (fun j hj => hmask j ((hbits i hi).1 j hj).2 ((hbits i hi).1 j hj).1) (fun d hd hdi => by
     cases hbd : b d with
     |false => rfl
     |true =>
      exfalso
      have hdl : d < l.length := by omega
      have := mask_done hD hclosed (d + 1) d (by omega) (by simpa using hdl) (fun o ho e he hb => hclosed d o ho hbd e he hb) i hi ((hbits d (by simpa using hdl)).1 i hdi).1
      rw [hbi] at this; cases this)
    unfold wpOpIn
    rw [ho]
    simp only [wpListIn] at this
    have up : ∀ a' w', I (upd b i) a' w' → J (upd b i) a' w' := fun a' w' h => ⟨hC', .inl ⟨fun d hd hdl => by rw [upd_ne (by omega)]; exact hfree d hd hdl, h⟩⟩
    split at this
    ·rename_i hw
     simp only [hw, if_true]
     exact Oper.wpIn_mono up this
    ·rename_i hw
     simp only [hw, if_false]
     exact ⟨this.1, up _ _ this.2⟩
   ·have hall : ∀ j, j < i → b j = true := fun j hj => hmask j (by omega) ((hbits i hi).2 hin j hj)
    have hine : i = n := by
     rcases Nat.lt_or_ge n i with h1 | h1
     ·have := hall n h1
      rw [hfree n (Nat.le_refl _) (by omega)] at this; cases this
     ·omega
    subst hine
    have hl := hend b a w hall hI
    rw [List.drop_eq_getElem_cons hil] at hl
    have hbk : ∀ d, d < l.length → (upd b i d = true ↔ d < i + 1) := by
     intro d hd
     by_cases ed : d = i
     ·subst ed; simp [upd_self]
     ·rw [upd_ne ed]
      rcases Nat.lt_or_ge d i with h1 | h1
      ·simp [hall d h1]; omega
      ·rw [hfree d h1 hd]; simp; omega
    have up : ∀ a' w', wpListIn F nf P l.toArray Q (l.drop (i + 1)) a' w' → J (upd b i) a' w' := fun a' w' h => ⟨hC', .inr ⟨i + 1, by omega, by omega, hbk, h⟩⟩
    unfold wpOpIn
    rw [ho]
    simp only [wpListIn] at hl
    split at hl
    ·rename_i hw
     simp only [hw, if_true]
     exact Oper.wpIn_mono up hl
    ·rename_i hw
     simp only [hw, if_false]
     exact ⟨hl.1, up _ _ hl.2⟩
  ·have hki : k ≤ i := by
    rcases Nat.lt_or_ge i k with h1 | h1
    ·have := (hbk i hil).2 h1
     rw [hbi] at this; cases this
    ·exact h1
   have hall : ∀ j, j < i → b j = true := fun j hj => hmask j (by omega) ((hbits i hi).2 (by omega) j hj)
   have hke : i = k := by
    rcases Nat.lt_or_ge k i with h1 | h1
    ·have := (hbk k (by omega)).1 (hall k h1); omega
    ·omega
   subst hke
   rw [List.drop_eq_getElem_cons hil] at hlist
   have hbk' : ∀ d, d < l.length → (upd b i d = true ↔ d < i + 1) := by
    intro d hd
    by_cases ed : d = i
    ·subst ed; simp [upd_self]
    ·rw [upd_ne ed, hbk d hd]; omega
   have up : ∀ a' w', wpListIn F nf P l.toArray Q (l.drop (i + 1)) a' w' → J (upd b i) a' w' := fun a' w' h => ⟨hC', .inr ⟨i + 1, by omega, by omega, hbk', h⟩⟩
   unfold wpOpIn
   rw [ho]
   simp only [wpListIn] at hlist
   split at hlist
   ·rename_i hw
    simp only [hw, if_true]
    exact Oper.wpIn_mono up hlist
   ·rename_i hw
    simp only [hw, if_false]
    exact ⟨hlist.1, up _ _ hlist.2⟩
 ·intro b a w hall ⟨_, hI⟩
  rcases hI with ⟨hfree, hI⟩ | ⟨k, hk, hkl, hbk, hlist⟩
  ·have hnl : n = l.length := by
    rcases Nat.lt_or_ge n l.length with h1 | h1
    ·have := hall n (by omega)
     rw [hfree n (Nat.le_refl _) h1] at this; cases this
    ·omega
   have := hend b a w (fun i hi => hall i (by omega)) hI
   rw [hnl, List.drop_length] at this
   exact this
  ·have hkl2 : k = l.length := by
    rcases Nat.lt_or_ge k l.length with h1 | h1
    ·have := (hbk k h1).1 (hall k (by omega)); omega
    ·omega
   rw [hkl2, List.drop_length] at hlist
   exact hlist
theorem one_monoIn {F : Fence} {nf : Nat} {P : Program} {ops : Array Oper} {Q : Exit → Act → World → Prop} {o : Oper} {a : Act} {w : World} {K K' : Act → World → Prop} (h : ∀ a w, K a w → K' a w) (hh : wpListIn F nf P ops (Exit.then K Q) [o] a w) : wpListIn F nf P ops (Exit.then K' Q) [o] a w := by
 simp only [wpListIn] at hh ⊢
 split at hh
 ·rename_i hw
  simp only [hw, if_true]
  exact Oper.wpIn_mono (fun a w h' => h a w h') hh
 ·rename_i hw
  simp only [hw, if_false]
  exact ⟨hh.1, h _ _ hh.2⟩
theorem region_readsIn {F : Fence} {nf : Nat} {P : Program} {id : Nat} {l : List Oper} {Q : Exit → Act → World → Prop} {a : Act} {w : World} (n : Nat) (D : List (List Nat)) (vals : List (Option Value)) (Mem : (Nat → Bool) → (Nat → Value) → World → Prop)
 (hm : P.follows .mixedOrders = true) (hD : headOk l.toArray D (masks l) n = true) (hn : n ≤ l.length)
 (h0 : ∀ u w2, Same w w2 → Mem (fun _ => false) u w2)
 (hM : ∀ i v b u w, vals.getD i none = some v → Mem b u w → Mem (upd b i) (upf u i v) w)
 (hq : ∀ i o v, i < n → l[i]? = some o → vals.getD i none = some v → ∀ b u w, Mem b u w → (∀ j, j ∈ D.getD i [] → b j = true) → (∀ j v, j ∈ D.getD i [] → vals.getD j none = some v → u j = v) →
   wpListIn F nf P l.toArray (Exit.then (fun a' w' => a' = setAll a ((l.take n).map (·.dst)) (upf u i v) 0 ∧ w' = w) Q) [o] (setAll a ((l.take n).map (·.dst)) u 0) w)
 (he : ∀ i o, i < n → l[i]? = some o → vals.getD i none = none → ∀ b u w, Mem b u w → b i = false → (∀ j, j ∈ D.getD i [] → b j = true) → (∀ d, d < n → i ∈ D.getD d [] → b d = false) → (∀ j v, j ∈ D.getD i [] → vals.getD j none = some v → u j = v) →
   wpListIn F nf P l.toArray (Exit.then (fun a' w' => ∃ v, a' = setAll a ((l.take n).map (·.dst)) (upf u i v) 0 ∧ Mem (upd b i) (upf u i v) w') Q) [o] (setAll a ((l.take n).map (·.dst)) u 0) w)
 (hend : ∀ b u w, (∀ i, i < n → b i = true) → Mem b u w → (∀ j v, j < n → vals.getD j none = some v → u j = v) → wpListIn F nf P l.toArray Q (l.drop n) (setAll a ((l.take n).map (·.dst)) u 0) w) :
 (Code.region id l.toArray true).wpIn F nf P Q a w := by
 refine region_headIn n D (fun b a' W => ∃ u, a' = setAll a ((l.take n).map (·.dst)) u 0 ∧ Mem b u W ∧ ∀ j v, b j = true → vals.getD j none = some v → u j = v) hm hD hn ?_ ?_ ?_
 ·intro w2 hw
  refine ⟨fun j => match ((l.take n).map (·.dst))[j]? with | none => undef | some d => oldAt a d, ?_, h0 _ w2 hw, fun j v h => by cases h⟩
  refine (setAll_old _ _ _ _ fun j d hj => ?_).symm
  rw [Nat.zero_add]
  simp only [hj]
 ·intro i o hi ho b a' W hI hb hd hq'
  obtain ⟨u, rfl, hMem, hv⟩ := hI
  cases hvi : vals.getD i none with
  |some v =>
   refine one_monoIn ?_ (hq i o v hi ho hvi b u W hMem hd (fun j v hj hjv => hv j v (hd j hj) hjv))
   intro a' w' hx
   obtain ⟨rfl, rfl⟩ := hx
   refine ⟨upf u i v, rfl, hM i v b u w' hvi hMem, fun j v' hj hjv => ?_⟩
   by_cases e : j = i
   ·subst e
    rw [hvi] at hjv
    cases hjv
    exact upf_self _ _ _
   ·rw [upf_ne e]
    rw [upd_ne e] at hj
    exact hv j v' hj hjv
  |none =>
   refine one_monoIn ?_ (he i o hi ho hvi b u W hMem hb hd hq' (fun j v hj hjv => hv j v (hd j hj) hjv))
   intro a' w' hx
   obtain ⟨v, rfl, hMem'⟩ := hx
   refine ⟨upf u i v, rfl, hMem', fun j v' hj hjv => ?_⟩
   by_cases e : j = i
   ·subst e
    rw [hvi] at hjv
    cases hjv
   ·rw [upf_ne e]
    rw [upd_ne e] at hj
    exact hv j v' hj hjv
 ·intro b a' W hall hI
  obtain ⟨u, rfl, hMem, hv⟩ := hI
  exact hend b u W hall hMem (fun j v hj hjv => hv j v (hall j hj) hjv)
theorem region_litIn {F : Fence} {nf : Nat} {P : Program} {id : Nat} {l : List Oper} {Q : Exit → Act → World → Prop} {a : Act} {w : World} {lit : (Nat → Value) → Act} (n : Nat) (D : List (List Nat)) (vals : List (Option Value)) (Mem : (Nat → Bool) → (Nat → Value) → World → Prop)
 (hlit : ∀ u, setAll a ((l.take n).map (·.dst)) u 0 = lit u)
 (hm : P.follows .mixedOrders = true) (hD : headOk l.toArray D (masks l) n = true) (hn : n ≤ l.length)
 (h0 : ∀ u w2, Same w w2 → Mem (fun _ => false) u w2)
 (hM : ∀ i v b u w, vals.getD i none = some v → Mem b u w → Mem (upd b i) (upf u i v) w)
 (hq : ∀ i o v, i < n → l[i]? = some o → vals.getD i none = some v → ∀ b u w, Mem b u w → (∀ j, j ∈ D.getD i [] → b j = true) → (∀ j v, j ∈ D.getD i [] → vals.getD j none = some v → u j = v) →
   wpListIn F nf P l.toArray (Exit.then (fun a' w' => a' = lit (upf u i v) ∧ w' = w) Q) [o] (lit u) w)
 (he : ∀ i o, i < n → l[i]? = some o → vals.getD i none = none → ∀ b u w, Mem b u w → b i = false → (∀ j, j ∈ D.getD i [] → b j = true) → (∀ d, d < n → i ∈ D.getD d [] → b d = false) → (∀ j v, j ∈ D.getD i [] → vals.getD j none = some v → u j = v) →
   wpListIn F nf P l.toArray (Exit.then (fun a' w' => ∃ v, a' = lit (upf u i v) ∧ Mem (upd b i) (upf u i v) w') Q) [o] (lit u) w)
 (hend : ∀ b u w, (∀ i, i < n → b i = true) → Mem b u w → (∀ j v, j < n → vals.getD j none = some v → u j = v) → wpListIn F nf P l.toArray Q (l.drop n) (lit u) w) :
 (Code.region id l.toArray true).wpIn F nf P Q a w :=
 region_readsIn n D vals Mem hm hD hn h0 hM
  (fun i o v hi ho hv b u w h1 h2 h3 => by rw [hlit, hlit]; exact hq i o v hi ho hv b u w h1 h2 h3)
  (fun i o hi ho hv b u w h1 h2 h3 h4 h5 => by
    have := he i o hi ho hv b u w h1 h2 h3 h4 h5
    rw [hlit]
    refine one_monoIn ?_ this
    rintro a' w' ⟨v, rfl, h⟩
    exact ⟨v, (hlit _).symm, h⟩)
  (fun b u w h1 h2 h3 => by rw [hlit]; exact hend b u w h1 h2 h3)
end Go.Proofs.YtfijblhfgfefoaaGreatDoor.Rv
end
