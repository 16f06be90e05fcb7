/- A part of the proof: words, contracts of functions, and their walks. -/
import Derived.Maps.OwnIn
import Derived.LoopIn
import Derived.Test.YtfijblhfgfefoaaGreatDoorQLess3
import Derived.Test.YtfijblhfgfefoaaGreatDoorQLess4
import Derived.Test.YtfijblhfgfefoaaGreatDoorQLess13
import Derived.Test.YtfijblhfgfefoaaGreatDoorQLess24
import Derived.Test.YtfijblhfgfefoaaGreatDoorQLess25
import Derived.Test.YtfijblhfgfefoaaGreatDoorQLess35
set_option linter.unusedVariables false
set_option linter.unusedSimpArgs false
section
namespace Go.Proofs.YtfijblhfgfefoaaGreatDoor.Rv
open Go.RowKit Go.Shelf Go.IntWalk Go.Proofs.YtfijblhfgfefoaaGreatDoor.PAll Go.Proofs.YtfijblhfgfefoaaGreatDoorW.PrintWords Go.Proofs.YtfijblhfgfefoaaGreatDoorW.PrintLast
def goodT (years : Int) (rivers : List S43) (L : S114) (T : S174) : Bool := (river_good.f 100 years rivers L.f0 L.f1 L.f2 L.f3 T.f0 T.f1.f0 T.f1.f1 T.f2).getD false
theorem good_l0 (rivers : List S43) (years a0 : Int) (a1 a2 a3 : Int) (h0 : 0 ≤ a0 ∧ a0 < rivers.length) : ∀ (d : Nat) (y : Int), 0 ≤ y → a2 < y + d → a2 ≤ 1000 → ∀ k, d < k → ∃ r, river_good.l0 k y years rivers a0 a1 a2 a3 = some r
 |0, y, hy, hd, h2, k, hk => by
  obtain ⟨k', rfl⟩ : ∃ k', k = k' + 1 := ⟨k - 1, by omega⟩
  exact ⟨true, by simp only [river_good.l0]; rw [if_neg (by omega)]⟩
 |d + 1, y, hy, hd, h2, k, hk => by
  obtain ⟨k', rfl⟩ : ∃ k', k = k' + 1 := ⟨k - 1, by omega⟩
  by_cases hle : y ≤ a2
  ·simp only [river_good.l0]
   rw [if_pos hle, if_pos h0.1, if_pos h0.2]
   have hh : ∃ b, river_has.f (rd_T43 rivers a0).f2 y = some b := ⟨_, by unfold river_has.f; rw [if_pos hy]⟩
   obtain ⟨b, hb⟩ := hh
   rw [hb, Option.bind_some]
   cases b with
   |true => exact ⟨false, rfl⟩
   |false =>
    rw [wrap64_in _ (by omega)]
    obtain ⟨r, hr⟩ := good_l0 rivers years a0 a1 a2 a3 h0 d (y + 1) (by omega) (by omega) h2 k' (by omega)
    exact ⟨r, by simp [hr]⟩
  ·exact ⟨true, by simp only [river_good.l0]; rw [if_neg hle]⟩
theorem good_some (years : Int) (rivers : List S43) (L : S114) (T : S174) (h0 : 0 ≤ T.f0 ∧ T.f0 < rivers.length) (h1 : 0 ≤ T.f1.f0) (h2 : T.f1.f1 ≤ 50) :
 river_good.f 100 years rivers L.f0 L.f1 L.f2 L.f3 T.f0 T.f1.f0 T.f1.f1 T.f2 = some (goodT years rivers L T) := by
 have hj : ∀ b, ∃ r, river_good.j0 100 b years rivers T.f0 T.f1.f0 T.f1.f1 T.f2 = some r := by
  intro b
  cases b with
  |true => exact ⟨false, rfl⟩
  |false =>
   obtain ⟨r, hr⟩ := good_l0 rivers years T.f0 T.f1.f0 T.f1.f1 T.f2 h0 60 T.f1.f0 h1 (by omega) (by omega) 99 (by omega)
   exact ⟨r, by simp only [river_good.j0]; simpa using hr⟩
 have hs : ∃ r, river_good.f 100 years rivers L.f0 L.f1 L.f2 L.f3 T.f0 T.f1.f0 T.f1.f1 T.f2 = some r := by
  unfold river_good.f
  split
  ·split
   ·exact hj _
   ·exact hj _
  ·exact hj _
 obtain ⟨r, hr⟩ := hs
 unfold goodT
 rw [hr]
 rfl
abbrev Dl := List Int × Int
structure Lt where
 years : Int
 A1 : Option Addr
 c1 : Nat
 rivers : List S43
 A2 : Option Addr
 c2 : Nat
 lics : List S114
 A3 : Option Addr
 c3 : Nat
 takes : List S174
def Lt.cells1 (s : Lt) : Array Value := #[.int .i64 s.years, .slice s.A1 s.rivers.length s.c1]
def takeAt (s : Lt) (i : Nat) : S174 := s.takes.getD i z174
def licAt (s : Lt) (k : Nat) : S114 := s.lics.getD k z114
def fitsL (s : Lt) (used : List Int) (i k : Nat) : Bool := goodT s.years s.rivers (licAt s k) (takeAt s i) && decide (used.getD k 0 + (takeAt s i).f2 ≤ (licAt s k).f3)
def dealsFrom (s : Lt) : Nat → Dl → List Int → List Dl
 |0, x, _ => [x]
 |d + 1, x, used => dealsFrom s d (x.1 ++ [-1], x.2 + (takeAt s x.1.length).f2) used ++ (List.range s.lics.length).flatMap fun k =>
   if fitsL s used x.1.length k = true then dealsFrom s d (x.1 ++ [(k : Int)], x.2) (used.set k (used.getD k 0 + (takeAt s x.1.length).f2)) else []
def dealsOf (s : Lt) : List Dl := dealsFrom s s.takes.length ([], 0) (List.replicate s.lics.length 0)
structure LtGood (s : Lt) : Prop where
 nl : s.lics.length ≤ 4
 nt : s.takes.length ≤ 6
 rivers : s.rivers.length ≤ 3
 take : ∀ t ∈ s.takes, (0 ≤ t.f0 ∧ t.f0 < s.rivers.length) ∧ (0 ≤ t.f1.f0 ∧ t.f1.f1 ≤ 50) ∧ (0 ≤ t.f2 ∧ t.f2 ≤ 100)
 lic : ∀ l ∈ s.lics, 0 ≤ l.f3 ∧ l.f3 ≤ 100
structure DlOk (s : Lt) (x : Dl) (used : List Int) : Prop where
 len : x.1.length ≤ s.takes.length
 rest : 0 ≤ x.2 ∧ x.2 ≤ 100 * x.1.length
 n : used.length = s.lics.length
 used : ∀ u ∈ used, 0 ≤ u ∧ u ≤ 100
theorem LtGood.at_ {s : Lt} (h : LtGood s) (i : Nat) (hi : i < s.takes.length) : (0 ≤ (takeAt s i).f0 ∧ (takeAt s i).f0 < s.rivers.length) ∧ (0 ≤ (takeAt s i).f1.f0 ∧ (takeAt s i).f1.f1 ≤ 50) ∧ (0 ≤ (takeAt s i).f2 ∧ (takeAt s i).f2 ≤ 100) := by
 have e : takeAt s i = s.takes[i] := by simp [takeAt, List.getD_eq_getElem?_getD, hi]
 rw [e]
 exact h.take _ (List.getElem_mem hi)
theorem LtGood.lat {s : Lt} (h : LtGood s) (k : Nat) (hk : k < s.lics.length) : 0 ≤ (licAt s k).f3 ∧ (licAt s k).f3 ≤ 100 := by
 have e : licAt s k = s.lics[k] := by simp [licAt, List.getD_eq_getElem?_getD, hk]
 rw [e]
 exact h.lic _ (List.getElem_mem hk)
theorem DlOk.none_ {s : Lt} (hs : LtGood s) {x : Dl} {used : List Int} (h : DlOk s x used) (hi : x.1.length < s.takes.length) : DlOk s (x.1 ++ [-1], x.2 + (takeAt s x.1.length).f2) used := by
 have h1 := (hs.at_ _ hi).2.2
 refine ⟨by simp; omega, ?_, h.n, h.used⟩
 have := h.rest
 simp only [List.length_append, List.length_singleton]
 omega
theorem DlOk.some_ {s : Lt} (hs : LtGood s) {x : Dl} {used : List Int} (h : DlOk s x used) (hi : x.1.length < s.takes.length) (k : Nat) (hk : k < s.lics.length) (hf : fitsL s used x.1.length k = true) : DlOk s (x.1 ++ [(k : Int)], x.2) (used.set k (used.getD k 0 + (takeAt s x.1.length).f2)) := by
 have h1 := (hs.at_ _ hi).2.2
 have h2 := hs.lat k hk
 unfold fitsL at hf
 simp only [Bool.and_eq_true, decide_eq_true_eq] at hf
 have hku : k < used.length := by rw [h.n]; exact hk
 have e : used.getD k 0 = used[k] := by simp [List.getD_eq_getElem?_getD, hku]
 have h3 := h.used _ (List.getElem_mem hku)
 refine ⟨by simp; omega, ?_, by simpa using h.n, fun u hu => ?_⟩
 ·have := h.rest
  simp only [List.length_append, List.length_singleton]
  omega
 ·rcases List.mem_or_eq_of_mem_set hu with h4 | rfl
  ·exact h.used u h4
  ·rw [e] at hf ⊢
   omega
end Go.Proofs.YtfijblhfgfefoaaGreatDoor.Rv
end
section
namespace Go.Proofs.YtfijblhfgfefoaaGreatDoor.Rv
open Go.RowKit Go.Shelf Go.IntWalk Go.Proofs.YtfijblhfgfefoaaGreatDoor.PAll Go.Proofs.YtfijblhfgfefoaaGreatDoorW.PrintWords Go.Proofs.YtfijblhfgfefoaaGreatDoorW.PrintLast
attribute [local go_sem] Oper.semAt_some wide_fn wide_depth
def dlV (x : Dl) (A : Option Addr) (c : Nat) : Value := .agg #[.slice A x.1.length c, .int .i64 x.2]
structure DAt (own : Nat → Prop) (N : Nat) (W : World) (l : List Int) (A : Option Addr) (c : Nat) : Prop where
 f : Kd.F (Kd.int .i64) W (Low own N) A l.length l
 c : l.length ≤ c
theorem DAt.moved {own own' : Nat → Prop} {N : Nat} {W W' : World} {x : List Int} {A : Option Addr} {c : Nat} (h : DAt own N W x A c) (m : Moved own W own' W') : DAt own' N W' x A c := ⟨m.Fl h.f, h.c⟩
theorem DAt.raise {own : Nat → Prop} {N N' : Nat} {W : World} {x : List Int} {A : Option Addr} {c : Nat} (h : DAt own N W x A c) (hN : N ≤ N') : DAt own N' W x A c := ⟨F_raise h.f hN, h.c⟩
structure MovedD (D own : Nat → Prop) (W : World) (own' : Nat → Prop) (W' : World) : Prop where
 ow : ∀ k, own' k → own k ∨ W.heap.size ≤ k ∨ D k
 chg : Chg own W W'
theorem MovedD.of {D own own' : Nat → Prop} {W W' : World} (h : Moved own W own' W') : MovedD D own W own' W' := ⟨fun k hk => (h.ow k hk).imp id .inl, h.chg⟩
theorem MovedD.after {D o1 o2 o3 : Nat → Prop} {W1 W2 W3 : World} (h : Moved o1 W1 o2 W2) (k : MovedD D o2 W2 o3 W3) : MovedD D o1 W1 o3 W3 := by
 refine ⟨fun i hi => ?_, ?_⟩
 ·rcases k.ow i hi with h1 | h1 | h1
  ·exact (h.ow i h1).imp id .inl
  ·exact .inr (.inl (Nat.le_trans h.chg.size h1))
  ·exact .inr (.inr h1)
 ·exact (h.trans (o3 := o2) ⟨fun _ hk => .inl hk, k.chg⟩).chg
theorem MovedD.up {D own own' : Nat → Prop} {W0 W W' : World} {own0 : Nat → Prop} (h0 : Moved own0 W0 own W) (h : MovedD D own W own' W') (hD : ∀ k, D k → W0.heap.size ≤ k) : Moved own0 W0 own' W' :=
 ⟨fun i hi => by
  rcases (MovedD.after h0 h).ow i hi with h1 | h1 | h1
  ·exact .inl h1
  ·exact .inr h1
  ·exact .inr (hD i h1), (MovedD.after h0 h).chg⟩
theorem MovedD.stay {D own own' : Nat → Prop} {W W' : World} (h : MovedD D own W own' W') {B : Nat} {o : Obj} (hb : W.heap[B]? = some o) (hn : ¬ own B) (hD : ¬ D B) : W'.heap[B]? = some o ∧ ¬ own' B := by
 have hlt := blk_lt hb
 refine ⟨(h.chg.block B hlt hn).trans hb, fun h1 => ?_⟩
 rcases h.ow B h1 with h2 | h2 | h2
 ·exact hn h2
 ·omega
 ·exact hD h2
theorem MovedD.Fl {D own own' : Nat → Prop} {W W' : World} {N : Nat} (h : MovedD D own W own' W') (hD : ∀ k, D k → N ≤ k) {α : Type} {d : Kd α} {A : Option Addr} {n : Nat} {xs : List α} (hf : Kd.F d W (Low own N) A n xs) : Kd.F d W' (Low own' N) A n xs :=
 Kd.F_mono (Kd.F_step (Kd.F_bound hf) (fun k hk hlt => h.chg.block k hlt hk.1.1)) (fun k hk => ⟨fun h1 => by
  rcases h.ow k h1 with h2 | h2 | h2
  ·exact hk.1.1 h2
  ·have := hk.2; omega
  ·have := hD k h2; have := hk.1.2; omega, hk.1.2⟩)
structure DAx (D own : Nat → Prop) (N : Nat) (W : World) (l : List Int) (A : Option Addr) (c : Nat) : Prop where
 f : Kd.F (Kd.int .i64) W D A l.length l
 d : ∀ k, D k → ¬ own k ∧ k < N
 c : l.length ≤ c
theorem DAx.movedD {D D' own own' : Nat → Prop} {N : Nat} {W W' : World} {x : List Int} {A : Option Addr} {c : Nat} (h : DAx D own N W x A c) (m : MovedD D' own W own' W') (hN : N ≤ W.heap.size) (hD : ∀ k, D' k → N ≤ k) : DAx D own' N W' x A c :=
 ⟨Kd.F_step h.f (fun k hk hlt => m.chg.block k hlt (h.d k hk).1), fun k hk => ⟨fun h1 => by
  have := (h.d k hk).2
  rcases m.ow k h1 with h2 | h2 | h2
  ·exact (h.d k hk).1 h2
  ·omega
  ·have := hD k h2; omega, (h.d k hk).2⟩, h.c⟩
theorem DAx.moved {D own own' : Nat → Prop} {N : Nat} {W W' : World} {x : List Int} {A : Option Addr} {c : Nat} (h : DAx D own N W x A c) (m : Moved own W own' W') (hN : N ≤ W.heap.size) : DAx D own' N W' x A c :=
 h.movedD (D' := fun _ => False) (.of m) hN (fun k h => h.elim)
theorem DAx.raise {D own : Nat → Prop} {N N' : Nat} {W : World} {x : List Int} {A : Option Addr} {c : Nat} (h : DAx D own N W x A c) (hN : N ≤ N') : DAx D own N' W x A c := ⟨h.f, fun k hk => ⟨(h.d k hk).1, Nat.lt_of_lt_of_le (h.d k hk).2 hN⟩, h.c⟩
structure EatsD (l N : Nat) (all : List Dl) (J : List Dl → (Nat → Prop) → World → Prop) : Prop where
 lt : ∀ pre own W, J pre own W → ∀ k, own k → k < W.heap.size
 stab : ∀ pre own W W2, J pre own W → Chg (fun k => N ≤ k ∧ ¬ own k) W W2 → J pre own W2
 eat : ∀ m pre x own W D A c, J pre own W → x ∈ all → DAx D own W.heap.size W x.1 A c → (∀ k, D k → N ≤ k) → YieldAt Fence.wide m Tryz.prog l #[dlV x A c] W fun e W' => e = .returned (.bool true) ∧ ∃ own', MovedD D own W own' W' ∧ J (pre ++ [x]) own' W'
structure EnvD (s : Lt) (B1 B2 B3 B4 B5 l : Nat) (own : Nat → Prop) (N : Nat) (W : World) : Prop where
 f1 : Kd.F k43 W (Low own N) s.A1 s.rivers.length s.rivers
 f2 : Kd.F k114 W (Low own N) s.A2 s.lics.length s.lics
 f3 : Kd.F k174 W (Low own N) s.A3 s.takes.length s.takes
 c : s.rivers.length ≤ s.c1 ∧ s.lics.length ≤ s.c2 ∧ s.takes.length ≤ s.c3
 b1 : W.heap[B1]? = some (.cells #[.slice s.A3 s.takes.length s.c3] 100 (0, 0))
 b2 : W.heap[B2]? = some (.cells #[.func (.yield l) #[] #[]] 229 (0, 0))
 b3 : W.heap[B3]? = some (.cells #[.func (.func 160) #[] #[.pointer (some ⟨B1, 0, none⟩), .pointer (some ⟨B2, 0, none⟩), .pointer (some ⟨B3, 0, none⟩), .pointer (some ⟨B4, 0, none⟩), .pointer (some ⟨B5, 0, none⟩)]] 230 (0, 0))
 b4 : W.heap[B4]? = some (.cells #[.slice s.A2 s.lics.length s.c2] 99 (0, 0))
 b5 : W.heap[B5]? = some (.cells #[.int .i64 s.years, .slice s.A1 s.rivers.length s.c1] 24 (0, 0))
 n : ¬ own B1 ∧ ¬ own B2 ∧ ¬ own B3 ∧ ¬ own B4 ∧ ¬ own B5
 lt : B1 < N ∧ B2 < N ∧ B3 < N ∧ B4 < N ∧ B5 < N
theorem EnvD.moved {s : Lt} {B1 B2 B3 B4 B5 l : Nat} {own own' : Nat → Prop} {N : Nat} {W W' : World} (h : EnvD s B1 B2 B3 B4 B5 l own N W) (m : Moved own W own' W') : EnvD s B1 B2 B3 B4 B5 l own' N W' :=
 ⟨m.Fl h.f1, m.Fl h.f2, m.Fl h.f3, h.c, (m.stay h.b1 h.n.1).1, (m.stay h.b2 h.n.2.1).1, (m.stay h.b3 h.n.2.2.1).1, (m.stay h.b4 h.n.2.2.2.1).1, (m.stay h.b5 h.n.2.2.2.2).1, ⟨(m.stay h.b1 h.n.1).2, (m.stay h.b2 h.n.2.1).2, (m.stay h.b3 h.n.2.2.1).2, (m.stay h.b4 h.n.2.2.2.1).2, (m.stay h.b5 h.n.2.2.2.2).2⟩, h.lt⟩
theorem EnvD.movedD {s : Lt} {B1 B2 B3 B4 B5 l : Nat} {D own own' : Nat → Prop} {N : Nat} {W W' : World} (h : EnvD s B1 B2 B3 B4 B5 l own N W) (m : MovedD D own W own' W') (hD : ∀ k, D k → N ≤ k) : EnvD s B1 B2 B3 B4 B5 l own' N W' := by
 have hl := h.lt
 have nd : ∀ B, B < N → ¬ D B := fun B hB hd => by have := hD B hd; omega
 exact ⟨m.Fl hD h.f1, m.Fl hD h.f2, m.Fl hD h.f3, h.c, (m.stay h.b1 h.n.1 (nd _ hl.1)).1, (m.stay h.b2 h.n.2.1 (nd _ hl.2.1)).1, (m.stay h.b3 h.n.2.2.1 (nd _ hl.2.2.1)).1, (m.stay h.b4 h.n.2.2.2.1 (nd _ hl.2.2.2.1)).1, (m.stay h.b5 h.n.2.2.2.2 (nd _ hl.2.2.2.2)).1,
  ⟨(m.stay h.b1 h.n.1 (nd _ hl.1)).2, (m.stay h.b2 h.n.2.1 (nd _ hl.2.1)).2, (m.stay h.b3 h.n.2.2.1 (nd _ hl.2.2.1)).2, (m.stay h.b4 h.n.2.2.2.1 (nd _ hl.2.2.2.1)).2, (m.stay h.b5 h.n.2.2.2.2 (nd _ hl.2.2.2.2)).2⟩, h.lt⟩
theorem EnvD.raise {s : Lt} {B1 B2 B3 B4 B5 l : Nat} {own : Nat → Prop} {N N' : Nat} {W : World} (h : EnvD s B1 B2 B3 B4 B5 l own N W) (hN : N ≤ N') : EnvD s B1 B2 B3 B4 B5 l own N' W :=
 ⟨F_raise h.f1 hN, F_raise h.f2 hN, F_raise h.f3 hN, h.c, h.b1, h.b2, h.b3, h.b4, h.b5, h.n, by have := h.lt; omega⟩
theorem deal_ret {m : Nat} {tm : Array Value} {W : World} {R : Ending → World → Prop} (v : Value) (h9 : tm.getD 9 undef = v) (hR : R (.returned v) W) : LeavesInM Fence.wide m Tryz.prog Tryz.f160 tm R [] .returning W := by
 refine ⟨_, ?_, hR⟩
 have hp : tm[9]?.getD undef = v := by simpa using h9
 have hrs : Tryz.f160.results = #[.tmp 9] := rfl
 simp [results, hrs, hp, go_sem]
def DealPost (J : List Dl → (Nat → Prop) → World → Prop) (pre : List Dl) (D own : Nat → Prop) (W : World) (e : Ending) (W' : World) : Prop := e = .returned (.bool true) ∧ ∃ own', MovedD D own W own' W' ∧ J pre own' W'
set_option maxRecDepth 100000 in
set_option maxHeartbeats 2000000 in
theorem deal_full (s : Lt) (B1 B2 B3 B4 B5 l N : Nat) (all : List Dl) (J : List Dl → (Nat → Prop) → World → Prop) (HE : EatsD l N all J)
 (x : Dl) (D : Nat → Prop) (A : Option Addr) (c : Nat) (V : Value) (pre : List Dl) (own : Nat → Prop) (W : World) (m : Nat) (hN : N ≤ W.heap.size) (hd : x.1.length = s.takes.length) (hE : EnvD s B1 B2 B3 B4 B5 l own W.heap.size W) (hS : DAx D own W.heap.size W x.1 A c) (hJ : J pre own W) (hall : x ∈ all) (hDN : ∀ k, D k → N ≤ k) :
 CallsIn Fence.wide m Tryz.prog 160 #[dlV x A c, V, .pointer (some ⟨B1, 0, none⟩), .pointer (some ⟨B2, 0, none⟩), .pointer (some ⟨B3, 0, none⟩), .pointer (some ⟨B4, 0, none⟩), .pointer (some ⟨B5, 0, none⟩)] W (DealPost J (pre ++ [x]) D own W) := by
 have HN := zk hN
 have HEV := zk hE
 have HSV := zk hS
 have HJ := zk hJ
 have HALL := zk hall
 have H1 := zk hE.b1
 have H2 := zk hE.b2
 have hu177 := Tryz.underlying177
 clear hN hE hS hJ hall
 refine callsIn_of_wp_marks Tryz.func160 rfl trivial ?_ rfl
 simp only [Tryz.ntmps160, List.size_toArray, List.length_cons, List.length_nil, Nat.reduceAdd, Nat.reduceSub, Array.replicate_succ, Array.replicate_zero, List.push_toArray, List.append_toArray, List.nil_append, List.cons_append, dlV]
 obtain ⟨c_B1_0, f_B1_0, l_B1⟩ := cl1 (W := W) (p := B1) (a := .slice s.A3 s.takes.length s.c3) H1.out
 obtain ⟨c_B2_0, f_B2_0, l_B2⟩ := cl1 (W := W) (p := B2) (a := .func (.yield l) #[] #[]) H2.out
 have hbe : ((x.1.length : Int) == (s.takes.length : Int)) = true := by simp [hd]
 replace hd := zk hd
 have HB := zk (below1 (w := W) (.cells #[.slice A x.1.length c, .int .i64 x.2] 177))
 obtain ⟨W1, hW1⟩ : ∃ W1, W1 = W.alloc (.cells #[.slice A x.1.length c, .int .i64 x.2] 177) := ⟨_, rfl⟩
 have HM := zk (Moved.of_below (own := own) HB.out)
 rw [← hW1] at HM
 obtain ⟨fn, tmps, assign, body, hyield, hRd⟩ := HE.eat (m - 1) pre x own W1 D A c (HE.stab _ _ _ _ HJ.out (by rw [hW1]; exact Chg.fresh HB.out)) HALL.out ((HSV.out.moved HM.out (Nat.le_refl _)).raise HM.out.size) hDN
 unfold dlV at hyield
 have HRd := zk hRd
 rw [hW1] at hyield
 have HW1 := zk hW1
 clear hRd H1 H2 hW1
 gi_wp2
 rw [← HW1.out]
 refine HRd.out.mono ?_
 rintro e W3 ⟨rfl, own', hm, hJ'⟩
 have HM3 := zk (MovedD.after HM.out hm)
 have HJ3 := zk hJ'
 clear hm hJ'
 gi_wp2
 exact deal_ret (.bool true) rfl ⟨rfl, own', HM3.out, HJ3.out⟩
end Go.Proofs.YtfijblhfgfefoaaGreatDoor.Rv
end
section
namespace Go.Proofs.YtfijblhfgfefoaaGreatDoor.Rv
open Go.RowKit Go.Shelf Go.IntWalk Go.Proofs.YtfijblhfgfefoaaGreatDoor.PAll Go.Proofs.YtfijblhfgfefoaaGreatDoorW.PrintWords Go.Proofs.YtfijblhfgfefoaaGreatDoorW.PrintLast
structure InD (s : Lt) (B1 B2 B3 B4 B5 l : Nat) (W0 : World) (own0 Dx : Nat → Prop) (x : Dl) (A : Option Addr) (c : Nat) (used : List Int) (Au : Option Addr) (cu p7 p11 : Nat) (T : S174) (own : Nat → Prop) (W : World) : Prop where
 mv : Moved own0 W0 own W
 env : EnvD s B1 B2 B3 B4 B5 l own W0.heap.size W
 st : DAx Dx own W0.heap.size W x.1 A c
 us : DAt own W0.heap.size W used Au cu
 h7 : W.heap[p7]? = some (.cells #[.slice A x.1.length c, .int .i64 x.2] 177 (0, 0))
 h11 : W.heap[p11]? = some (.cells #[.int .i64 T.f0, .int .i64 T.f1.f0, .int .i64 T.f1.f1, .int .i64 T.f2] 174 (0, 0))
 n : ¬ own p7 ∧ ¬ own p11
theorem InD.moved {s : Lt} {B1 B2 B3 B4 B5 l : Nat} {W0 : World} {own0 Dx : Nat → Prop} {x : Dl} {A : Option Addr} {c : Nat} {used : List Int} {Au : Option Addr} {cu p7 p11 : Nat} {T : S174} {own own' : Nat → Prop} {W W' : World}
 (h : InD s B1 B2 B3 B4 B5 l W0 own0 Dx x A c used Au cu p7 p11 T own W) (m : Moved own W own' W') : InD s B1 B2 B3 B4 B5 l W0 own0 Dx x A c used Au cu p7 p11 T own' W' :=
 ⟨h.mv.trans m, h.env.moved m, h.st.moved m h.mv.size, h.us.moved m, (m.stay h.h7 h.n.1).1, (m.stay h.h11 h.n.2).1, ⟨(m.stay h.h7 h.n.1).2, (m.stay h.h11 h.n.2).2⟩⟩
theorem InD.movedD {s : Lt} {B1 B2 B3 B4 B5 l : Nat} {W0 : World} {own0 Dx : Nat → Prop} {x : Dl} {A : Option Addr} {c : Nat} {used : List Int} {Au : Option Addr} {cu p7 p11 : Nat} {T : S174} {D own own' : Nat → Prop} {W W' : World}
 (h : InD s B1 B2 B3 B4 B5 l W0 own0 Dx x A c used Au cu p7 p11 T own W) (m : MovedD D own W own' W') (hD : ∀ k, D k → W0.heap.size ≤ k) (n7 : ¬ D p7) (n11 : ¬ D p11) : InD s B1 B2 B3 B4 B5 l W0 own0 Dx x A c used Au cu p7 p11 T own' W' :=
 ⟨MovedD.up h.mv m hD, h.env.movedD m hD, h.st.movedD m h.mv.size hD, ⟨m.Fl hD h.us.f, h.us.c⟩, (m.stay h.h7 h.n.1 n7).1, (m.stay h.h11 h.n.2 n11).1, ⟨(m.stay h.h7 h.n.1 n7).2, (m.stay h.h11 h.n.2 n11).2⟩⟩
theorem InD.below {s : Lt} {B1 B2 B3 B4 B5 l : Nat} {W0 : World} {own0 Dx : Nat → Prop} {x : Dl} {A : Option Addr} {c : Nat} {used : List Int} {Au : Option Addr} {cu p7 p11 : Nat} {T : S174} {own : Nat → Prop} {W W' : World}
 (h : InD s B1 B2 B3 B4 B5 l W0 own0 Dx x A c used Au cu p7 p11 T own W) (hb : Below W.heap.size W W') : InD s B1 B2 B3 B4 B5 l W0 own0 Dx x A c used Au cu p7 p11 T own W' := h.moved (Moved.of_below hb)
structure AdMem (i3 i4 i5 i11 : Nat) (li : List Int) (e rv : Int) (W0 : World) (f : Nat → Bool) (u : Nat → Value) (W : World) : Prop where
 bw : Below W0.heap.size W0 W
 m3 : f i3 = true → f i5 = false → W.ownsRow W0.heap.size 3 1 (u i3) li.length (nums64 li)
 m4 : f i4 = true → f i5 = false → ∃ g, u i4 = .slice (some ⟨g, 0, none⟩) 1 1 ∧ W.heap[g]? = some (.cells #[.int .i64 e] 3 (0, 0))
 m5 : f i5 = true → ∃ A c, u i5 = .slice A (li ++ [e]).length c ∧ (li ++ [e]).length ≤ c ∧ Kd.F (Kd.int .i64) W (fun k => W0.heap.size ≤ k) A (li ++ [e]).length (li ++ [e])
 m11 : f i11 = true → u i11 = .agg #[u i5, .int .i64 rv]
def Apart4 (a b c d : Nat) : Prop := a ≠ b ∧ a ≠ c ∧ a ≠ d ∧ b ≠ c ∧ b ≠ d ∧ c ≠ d
instance (a b c d : Nat) : Decidable (Apart4 a b c d) := by unfold Apart4; infer_instance
variable {i3 i4 i5 i11 : Nat} {li : List Int} {e rv : Int} {W0 W W9 : World} {f : Nat → Bool} {u : Nat → Value}
theorem AdMem.start (hb : Below W0.heap.size W0 W) : AdMem i3 i4 i5 i11 li e rv W0 (fun _ => false) u W := ⟨hb, fun h => (by cases h), fun h => (by cases h), fun h => (by cases h), fun h => (by cases h)⟩
theorem AdMem.other (h : AdMem i3 i4 i5 i11 li e rv W0 f u W) (i : Nat) (v : Value) (h3 : i3 ≠ i) (h4 : i4 ≠ i) (h5 : i5 ≠ i) (h11 : i11 ≠ i) : AdMem i3 i4 i5 i11 li e rv W0 (upd f i) (upf u i v) W := by
 refine ⟨h.bw, ?_, ?_, ?_, ?_⟩
 ·rw [upd_ne h3, upd_ne h5, upf_ne h3]; exact h.m3
 ·rw [upd_ne h4, upd_ne h5, upf_ne h4]; exact h.m4
 ·rw [upd_ne h5, upf_ne h5]; exact h.m5
 ·rw [upd_ne h11, upf_ne h11, upf_ne h5]; exact h.m11
theorem AdMem.clone (h : AdMem i3 i4 i5 i11 li e rv W0 f u W) (ha : Apart4 i3 i4 i5 i11) (f5 : f i5 = false) (f11 : f i11 = false) {v : Value} (ho : W9.ownsRow W.heap.size 3 1 v li.length (nums64 li)) (hb : Below W.heap.size W W9) : AdMem i3 i4 i5 i11 li e rv W0 (upd f i3) (upf u i3 v) W9 := by
 obtain ⟨a, b, c, d, e', f'⟩ := ha
 refine ⟨bt h.bw hb, fun _ _ => ?_, fun h4 _ => ?_, fun h5 => ?_, fun h11 => ?_⟩
 ·rw [upf_self]; exact own_weaken ho h.bw.size
 ·rw [upd_ne a.symm] at h4
  obtain ⟨g, g1, g2⟩ := h.m4 h4 f5
  exact ⟨g, by rw [upf_ne a.symm]; exact g1, blk_below g2 hb⟩
 ·rw [upd_ne b.symm, f5] at h5; cases h5
 ·rw [upd_ne c.symm, f11] at h11; cases h11
theorem AdMem.build (h : AdMem i3 i4 i5 i11 li e rv W0 f u W) (ha : Apart4 i3 i4 i5 i11) (f5 : f i5 = false) (f11 : f i11 = false) : AdMem i3 i4 i5 i11 li e rv W0 (upd f i4) (upf u i4 (.slice (some ⟨W.heap.size, 0, none⟩) 1 1)) (W.alloc (.cells #[.int .i64 e] 3)) := by
 obtain ⟨a, b, c, d, e', f'⟩ := ha
 refine ⟨below_alloc h.bw _, fun h3 _ => ?_, fun _ _ => ⟨W.heap.size, upf_self _ _ _, blk_new _ _⟩, fun h5 => ?_, fun h11 => ?_⟩
 ·rw [upd_ne a] at h3
  rw [upf_ne a]
  exact pw_own_below (h.m3 h3 f5) (below1 _)
 ·rw [upd_ne d.symm, f5] at h5; cases h5
 ·rw [upd_ne e'.symm, f11] at h11; cases h11
theorem AdMem.append (h : AdMem i3 i4 i5 i11 li e rv W0 f u W) (ha : Apart4 i3 i4 i5 i11) (f3 : f i3 = true) (f5 : f i5 = false) (f11 : f i11 = false) {v : Value} (ho : W9.ownsRow W0.heap.size 3 1 v (li.length + 1) (nums64 li ++ [.int .i64 e])) (hg : W.grownBy W9 (u i3).ownBlock) : AdMem i3 i4 i5 i11 li e rv W0 (upd f i5) (upf u i5 v) W9 := by
 obtain ⟨a, b, c, d, e', f'⟩ := ha
 have h3 := h.m3 f3 f5
 refine ⟨h.bw.grown hg h.bw.size (own_base h3), fun _ h5 => ?_, fun _ h5 => ?_, fun _ => ?_, fun h11 => ?_⟩
 ·rw [upd_self] at h5; cases h5
 ·rw [upd_self] at h5; cases h5
 ·have ho' : W9.ownsRow W0.heap.size 3 1 v (li ++ [e]).length (nums64 (li ++ [e])) := by
   rw [List.length_append]
   simpa [nums64] using ho
  obtain ⟨A, c, ev, _, hle, hF⟩ := ownI_F ho'
  exact ⟨A, c, by rw [upf_self]; exact ev, hle, Kd.F_mono hF (fun k hk => own_base ho' k hk.symm)⟩
 ·rw [upd_ne f'.symm, f11] at h11; cases h11
theorem AdMem.pack (h : AdMem i3 i4 i5 i11 li e rv W0 f u W) (ha : Apart4 i3 i4 i5 i11) : AdMem i3 i4 i5 i11 li e rv W0 (upd f i11) (upf u i11 (.agg #[u i5, .int .i64 rv])) W := by
 obtain ⟨a, b, c, d, e', f'⟩ := ha
 refine ⟨h.bw, ?_, ?_, ?_, fun _ => ?_⟩
 ·rw [upd_ne c, upd_ne f', upf_ne c]; exact h.m3
 ·rw [upd_ne e', upd_ne f', upf_ne e']; exact h.m4
 ·rw [upd_ne f', upf_ne f']; exact h.m5
 ·rw [upf_self, upf_ne f']
end Go.Proofs.YtfijblhfgfefoaaGreatDoor.Rv
end
