/- A part of the proof: words, contracts of functions, and their walks. -/
import Derived.Test.YtfijblhfgfefoaaGreatDoorQLess3
import Derived.Test.YtfijblhfgfefoaaGreatDoorQLess7
import Derived.Test.YtfijblhfgfefoaaGreatDoorQLess10
import Derived.Test.YtfijblhfgfefoaaGreatDoorQLess11
set_option linter.unusedVariables false
set_option linter.unusedSimpArgs false
section
namespace Go.Proofs.YtfijblhfgfefoaaGreatDoor.Rv
open Go.RowKit Go.Shelf Go.IntWalk Go.Proofs.YtfijblhfgfefoaaGreatDoor.PAll Go.Proofs.YtfijblhfgfefoaaGreatDoorW.PrintWords Go.Proofs.YtfijblhfgfefoaaGreatDoorW.PrintLast
abbrev St := List S27 × List (List S47)
structure Sk where
 years : Int
 A1 : Option Addr
 c1 : Nat
 rivers : List S43
 A2 : Option Addr
 c2 : Nat
 shells : List S45
 A3 : Option Addr
 c3 : Nat
 tests : List S59
def Sk.cells (s : Sk) : Array Value := #[.int .i64 s.years, .slice s.A1 s.rivers.length s.c1, .slice s.A2 s.shells.length s.c2, .slice s.A3 s.tests.length s.c3]
def stepS (rivers : List S43) (x : St) (sh : S45) (o : S27) : Option St :=
 (narrowRow ((rd_T43 rivers o.f0).f1 + sh.f1) (rd_L2 x.2 o.f0) (o.f1 - sh.f0.length + 1).toNat sh.f0).map fun row => (x.1 ++ [o], x.2.set o.f0.toNat row)
def nextS (rivers : List S43) (tests : List S59) (x : St) (sh : S45) (o : S27) : Option St :=
 if testedB rivers tests x.1.length o = true then stepS rivers x sh o else none
def truthsFrom (years : Int) (rivers : List S43) (shells : List S45) (tests : List S59) : Nat → St → List St
 |0, x => [x]
 |d + 1, x => (originsL rivers.length (shells.getD x.1.length z45).f0.length years).flatMap fun o => match nextS rivers tests x (shells.getD x.1.length z45) o with
  |none => []
  |some y => truthsFrom years rivers shells tests d y
def kids (s : Sk) (d : Nat) (x : St) (sh : S45) (o : S27) : List St := match nextS s.rivers s.tests x sh o with
 |none => []
 |some y => truthsFrom s.years s.rivers s.shells s.tests d y
structure Good (s : Sk) : Prop where
 years : 0 ≤ s.years ∧ s.years ≤ 1000
 rivers : s.rivers.length ≤ 1000
 grow : ∀ r ∈ s.rivers, (r.f0.length : Int) = s.years
 vary : ∀ r ∈ s.rivers, 0 ≤ r.f1 ∧ r.f1 ≤ 1000
 shells : s.shells.length ≤ 1000
 rings : ∀ x ∈ s.shells, 1 ≤ x.f0.length ∧ x.f0.length ≤ 1000 ∧ ∀ n ∈ x.f0, 0 ≤ n ∧ n ≤ 1000
 off : ∀ x ∈ s.shells, 0 ≤ x.f1 ∧ x.f1 ≤ 1000
structure WFst (s : Sk) (x : St) : Prop where
 rows : x.2.length = s.rivers.length
 row : ∀ r ∈ x.2, (r.length : Int) = s.years
 len : x.1.length ≤ s.shells.length
theorem step_WF {s : Sk} {x y : St} {sh : S45} {o : S27} (h : WFst s x) (ho : 0 ≤ o.f0 ∧ o.f0 < s.rivers.length) (hl : x.1.length < s.shells.length) (hs : stepS s.rivers x sh o = some y) : WFst s y ∧ y.1 = x.1 ++ [o] := by
 unfold stepS at hs
 obtain ⟨row, hr, rfl⟩ := Option.map_eq_some_iff.1 hs
 refine ⟨⟨by simpa using h.rows, fun r hm => ?_, by simp; omega⟩, rfl⟩
 rcases List.mem_or_eq_of_mem_set hm with h1 | rfl
 ·exact h.row r h1
 ·rw [narrowRow_length _ _ _ _ _ hr]
  have h2 : o.f0.toNat < x.2.length := by have := h.rows; omega
  have : rd_L2 x.2 o.f0 = x.2[o.f0.toNat] := by simp [rd_L2, List.getD_eq_getElem?_getD, h2]
  rw [this]
  exact h.row _ (List.getElem_mem h2)
theorem mem_originsL {R : Nat} {n years : Int} {o : S27} (h : o ∈ originsL R n years) : 0 ≤ o.f0 ∧ o.f0 < R ∧ n - 1 ≤ o.f1 ∧ o.f1 < years := by
 unfold originsL riverOrigins yearsOf at h
 simp only [List.mem_flatMap, List.mem_range, List.mem_map] at h
 obtain ⟨r, hr, y, ⟨i, hi, rfl⟩, rfl⟩ := h
 refine ⟨?_, ?_, ?_, ?_⟩ <;> simp <;> omega
structure Moved (own : Nat → Prop) (W : World) (own' : Nat → Prop) (W' : World) : Prop where
 ow : ∀ k, own' k → own k ∨ W.heap.size ≤ k
 chg : Chg own W W'
theorem Moved.refl (own : Nat → Prop) (W : World) : Moved own W own W := ⟨fun _ h => .inl h, Chg.refl _ _⟩
theorem Moved.trans {o1 o2 o3 : Nat → Prop} {W1 W2 W3 : World} (h : Moved o1 W1 o2 W2) (k : Moved o2 W2 o3 W3) : Moved o1 W1 o3 W3 :=
 ⟨fun i hi => by
  rcases k.ow i hi with h1 | h1
  ·exact h.ow i h1
  ·exact .inr (Nat.le_trans h.chg.size h1),
  ⟨k.chg.os.trans h.chg.os, k.chg.tape.trans h.chg.tape, k.chg.output.trans h.chg.output, Nat.le_trans h.chg.size k.chg.size, fun i hi hn => by
   refine (k.chg.block i (Nat.lt_of_lt_of_le hi h.chg.size) (fun h2 => ?_)).trans (h.chg.block i hi hn)
   rcases h.ow i h2 with h3 | h3
   ·exact hn h3
   ·omega⟩⟩
theorem Moved.below {o1 o2 : Nat → Prop} {W1 W2 W3 : World} (h : Moved o1 W1 o2 W2) (hb : Below W1.heap.size W2 W3) : Moved o1 W1 o2 W3 :=
 ⟨h.ow, ⟨hb.os.trans h.chg.os, hb.tape.trans h.chg.tape, hb.output.trans h.chg.output, Nat.le_trans h.chg.size hb.size, fun i hi hn => (hb.block i hi).trans (h.chg.block i hi hn)⟩⟩
theorem Moved.of_below {own : Nat → Prop} {W W' : World} (hb : Below W.heap.size W W') : Moved own W own W' := (Moved.refl own W).below hb
theorem Moved.size {o1 o2 : Nat → Prop} {W1 W2 : World} (h : Moved o1 W1 o2 W2) : W1.heap.size ≤ W2.heap.size := h.chg.size
theorem Moved.stay {own own' : Nat → Prop} {W W' : World} (h : Moved own W own' W') {B : Nat} {o : Obj} (hb : W.heap[B]? = some o) (hn : ¬ own B) : W'.heap[B]? = some o ∧ ¬ own' B := by
 have hlt := blk_lt hb
 refine ⟨(h.chg.block B hlt hn).trans hb, fun h1 => ?_⟩
 rcases h.ow B h1 with h2 | h2
 ·exact hn h2
 ·omega
theorem stab_below {S : Nat → Prop} {W W' : World} (hb : Below W.heap.size W W') : Chg S W W' := Chg.fresh hb
def Low (own : Nat → Prop) (N : Nat) : Nat → Prop := fun k => ¬ own k ∧ k < N
theorem Moved.Fl {own own' : Nat → Prop} {W W' : World} {N : Nat} (h : Moved own W own' W') {α : Type} {d : Kd α} {A : Option Addr} {n : Nat} {xs : List α} (hf : Kd.F d W (Low own N) A n xs) : Kd.F d W' (Low own' N) A n xs :=
 Kd.F_mono (Kd.F_step (Kd.F_bound hf) (fun k hk hlt => h.chg.block k hlt hk.1.1)) (fun k hk => ⟨fun h1 => by
  rcases h.ow k h1 with h2 | h2
  ·exact hk.1.1 h2
  ·have := hk.2; omega, hk.1.2⟩)
theorem F_raise {own : Nat → Prop} {W : World} {N N' : Nat} {α : Type} {d : Kd α} {A : Option Addr} {n : Nat} {xs : List α} (hf : Kd.F d W (Low own N) A n xs) (h : N ≤ N') : Kd.F d W (Low own N') A n xs :=
 Kd.F_mono hf (fun k hk => ⟨hk.1, by have := hk.2; omega⟩)
theorem F_local {own : Nat → Prop} {W W' : World} {N : Nat} {α : Type} {d : Kd α} {A : Option Addr} {n : Nat} {xs : List α} (hf : Kd.F d W (Low own N) A n xs) (hb : Below N W W') : Kd.F d W' (Low own N) A n xs :=
 Kd.F_step hf (fun k hk _ => hb.block k hk.2)
structure Env (s : Sk) (B1 B2 B3 l : Nat) (own : Nat → Prop) (N : Nat) (W : World) : Prop where
 f1 : Kd.F k43 W (Low own N) s.A1 s.rivers.length s.rivers
 f2 : Kd.F k45 W (Low own N) s.A2 s.shells.length s.shells
 f3 : Kd.F k59 W (Low own N) s.A3 s.tests.length s.tests
 c : s.rivers.length ≤ s.c1 ∧ s.shells.length ≤ s.c2 ∧ s.tests.length ≤ s.c3
 b1 : W.heap[B1]? = some (.cells s.cells 138 (0, 0))
 b2 : W.heap[B2]? = some (.cells #[.func (.yield l) #[] #[]] 209 (0, 0))
 b3 : W.heap[B3]? = some (.cells #[.func (.func 141) #[] #[.pointer (some ⟨B1, 0, none⟩), .pointer (some ⟨B2, 0, none⟩), .pointer (some ⟨B3, 0, none⟩)]] 209 (0, 0))
 n : ¬ own B1 ∧ ¬ own B2 ∧ ¬ own B3
 lt : B1 < N ∧ B2 < N ∧ B3 < N
theorem Env.moved {s : Sk} {B1 B2 B3 l : Nat} {own own' : Nat → Prop} {N : Nat} {W W' : World} (h : Env s B1 B2 B3 l own N W) (m : Moved own W own' W') : Env s B1 B2 B3 l own' N W' :=
 ⟨m.Fl h.f1, m.Fl h.f2, m.Fl h.f3, h.c, (m.stay h.b1 h.n.1).1, (m.stay h.b2 h.n.2.1).1, (m.stay h.b3 h.n.2.2).1, ⟨(m.stay h.b1 h.n.1).2, (m.stay h.b2 h.n.2.1).2, (m.stay h.b3 h.n.2.2).2⟩, h.lt⟩
theorem Env.raise {s : Sk} {B1 B2 B3 l : Nat} {own : Nat → Prop} {N N' : Nat} {W : World} (h : Env s B1 B2 B3 l own N W) (hN : N ≤ N') : Env s B1 B2 B3 l own N' W :=
 ⟨F_raise h.f1 hN, F_raise h.f2 hN, F_raise h.f3 hN, h.c, h.b1, h.b2, h.b3, h.n, by have := h.lt; omega⟩
theorem Env.local {s : Sk} {B1 B2 B3 l : Nat} {own : Nat → Prop} {N : Nat} {W W' : World} (h : Env s B1 B2 B3 l own N W) (hb : Below N W W') : Env s B1 B2 B3 l own N W' :=
 ⟨F_local h.f1 hb, F_local h.f2 hb, F_local h.f3 hb, h.c, (hb.block _ h.lt.1).trans h.b1, (hb.block _ h.lt.2.1).trans h.b2, (hb.block _ h.lt.2.2).trans h.b3, h.n, h.lt⟩
structure SAt (own : Nat → Prop) (N : Nat) (W : World) (x : St) (A A' : Option Addr) (c c' : Nat) : Prop where
 f : Kd.F k27 W (Low own N) A x.1.length x.1
 g : Kd.F (Kd.slice 47 k47) W (Low own N) A' x.2.length x.2
 c : x.1.length ≤ c ∧ x.2.length ≤ c'
theorem SAt.moved {own own' : Nat → Prop} {N : Nat} {W W' : World} {x : St} {A A' : Option Addr} {c c' : Nat} (h : SAt own N W x A A' c c') (m : Moved own W own' W') : SAt own' N W' x A A' c c' := ⟨m.Fl h.f, m.Fl h.g, h.c⟩
theorem SAt.raise {own : Nat → Prop} {N N' : Nat} {W : World} {x : St} {A A' : Option Addr} {c c' : Nat} (h : SAt own N W x A A' c c') (hN : N ≤ N') : SAt own N' W x A A' c c' := ⟨F_raise h.f hN, F_raise h.g hN, h.c⟩
theorem SAt.local {own : Nat → Prop} {N : Nat} {W W' : World} {x : St} {A A' : Option Addr} {c c' : Nat} (h : SAt own N W x A A' c c') (hb : Below N W W') : SAt own N W' x A A' c c' := ⟨F_local h.f hb, F_local h.g hb, h.c⟩
def stV (x : St) (A A' : Option Addr) (c c' : Nat) : Value := .agg #[.slice A x.1.length c, .slice A' x.2.length c']
structure InS (s : Sk) (B1 B2 B3 l : Nat) (W0 : World) (own0 : Nat → Prop) (x : St) (A A' : Option Addr) (c c' : Nat) (sh : S45) (A0 : Option Addr) (c0 b4 b5 b6 k1 k2 D : Nat) (own : Nat → Prop) (W : World) : Prop where
 mv : Moved own0 W0 own W
 env : Env s B1 B2 B3 l own W0.heap.size W
 st : SAt own W0.heap.size W x A A' c c'
 h4 : W.heap[b4]? = some (.cells #[.slice A x.1.length c, .slice A' x.2.length c'] 149 (0, 0))
 h5 : W.heap[b5]? = some (.cells #[.bool false] 4 (0, 0))
 h6 : W.heap[b6]? = some (.cells #[.int .i64 x.1.length] 3 (0, 0))
 hk1 : W.heap[k1]? = some (.cells s.cells 138 (0, 0))
 hk2 : W.heap[k2]? = some (.cells #[.slice A0 sh.f0.length c0, .int .i64 sh.f1] 45 (0, 0))
 hD : W.heap[D]? = some (.deferred (some []))
 n : ¬ own b4 ∧ ¬ own b5 ∧ ¬ own b6 ∧ ¬ own k1 ∧ ¬ own k2 ∧ ¬ own D
 lo : W0.heap.size ≤ b4 ∧ W0.heap.size ≤ b5 ∧ W0.heap.size ≤ b6 ∧ W0.heap.size ≤ k1 ∧ W0.heap.size ≤ k2 ∧ W0.heap.size ≤ D
theorem InS.moved {s : Sk} {B1 B2 B3 l : Nat} {W0 : World} {own0 : Nat → Prop} {x : St} {A A' : Option Addr} {c c' : Nat} {sh : S45} {A0 : Option Addr} {c0 b4 b5 b6 k1 k2 D : Nat} {own own' : Nat → Prop} {W W' : World}
 (h : InS s B1 B2 B3 l W0 own0 x A A' c c' sh A0 c0 b4 b5 b6 k1 k2 D own W) (m : Moved own W own' W') : InS s B1 B2 B3 l W0 own0 x A A' c c' sh A0 c0 b4 b5 b6 k1 k2 D own' W' :=
 ⟨h.mv.trans m, h.env.moved m, h.st.moved m, (m.stay h.h4 h.n.1).1, (m.stay h.h5 h.n.2.1).1, (m.stay h.h6 h.n.2.2.1).1, (m.stay h.hk1 h.n.2.2.2.1).1, (m.stay h.hk2 h.n.2.2.2.2.1).1, (m.stay h.hD h.n.2.2.2.2.2).1,
  ⟨(m.stay h.h4 h.n.1).2, (m.stay h.h5 h.n.2.1).2, (m.stay h.h6 h.n.2.2.1).2, (m.stay h.hk1 h.n.2.2.2.1).2, (m.stay h.hk2 h.n.2.2.2.2.1).2, (m.stay h.hD h.n.2.2.2.2.2).2⟩, h.lo⟩
theorem InS.put {s : Sk} {B1 B2 B3 l : Nat} {W0 : World} {own0 : Nat → Prop} {x : St} {A A' : Option Addr} {c c' : Nat} {sh : S45} {A0 : Option Addr} {c0 b4 b5 b6 k1 k2 D : Nat} {own : Nat → Prop} {W W' : World} (l2 : Nat)
 (h : InS s B1 B2 B3 l W0 own0 x A A' c c' sh A0 c0 b4 b5 b6 k1 k2 D own W) (hl : W0.heap.size ≤ l2) (hn : b4 ≠ l2 ∧ b5 ≠ l2 ∧ b6 ≠ l2 ∧ k1 ≠ l2 ∧ k2 ≠ l2 ∧ D ≠ l2) (hc : Chg (fun k => k = l2) W W') : InS s B1 B2 B3 l W0 own0 x A A' c c' sh A0 c0 b4 b5 b6 k1 k2 D own W' := by
 have hb : Below W0.heap.size W W' := hc.below (fun i e => by omega) h.mv.size
 have st : ∀ {B : Nat} {o : Obj}, W.heap[B]? = some o → B ≠ l2 → W'.heap[B]? = some o := fun hB hne => (hc.block _ (blk_lt hB) hne).trans hB
 exact ⟨h.mv.below hb, h.env.local hb, h.st.local hb, st h.h4 hn.1, st h.h5 hn.2.1, st h.h6 hn.2.2.1, st h.hk1 hn.2.2.2.1, st h.hk2 hn.2.2.2.2.1, st h.hD hn.2.2.2.2.2, h.n, h.lo⟩
theorem origins_calls (V1 V2 : Array Value) (w : World) :
 Calls Tryz.prog 142 #[.agg V1, .agg V2] w fun e w' => e = .returned (.func (.func 178) #[] #[.pointer (some ⟨w.heap.size, 0, none⟩), .pointer (some ⟨w.heap.size + 1, 0, none⟩)]) ∧ w' = (w.alloc (.cells V1 138)).alloc (.cells V2 45) := by
 have hmf : ∀ (fn : Fn) (first cap : Array Value) (w : World), (Instr.makeFunc fn first cap).run Tryz.prog w = .ok (.func fn first cap) w := fun _ _ _ _ => rfl
 go_enter Tryz.func142, Tryz.ntmps142
 go_wp2
 go_ret
 exact ⟨rfl, rfl⟩
def WithIs (s : Sk) (x : St) (sh : S45) (o : S27) (ft : Nat → Prop) (A3 : Option Addr) (n3 c3 : Nat) (A4 : Option Addr) (n4 c4 : Nat) (bb : Bool) (W : World) : Prop :=
 (bb = false ∧ stepS s.rivers x sh o = none) ∨ (bb = true ∧ ∃ y, stepS s.rivers x sh o = some y ∧ n3 = y.1.length ∧ n4 = y.2.length ∧ n3 ≤ c3 ∧ n4 ≤ c4 ∧ Kd.F k27 W ft A3 n3 y.1 ∧ Kd.F (Kd.slice 47 k47) W ft A4 n4 y.2)
theorem WithIs.step {s : Sk} {x : St} {sh : S45} {o : S27} {ft ft' : Nat → Prop} {A3 : Option Addr} {n3 c3 : Nat} {A4 : Option Addr} {n4 c4 : Nat} {bb : Bool} {W W' : World} (h : WithIs s x sh o ft A3 n3 c3 A4 n4 c4 bb W) (hm : ∀ k, ft k → k < W.heap.size → W'.heap[k]? = W.heap[k]?) (hf : ∀ k, ft k → k < W.heap.size → ft' k) : WithIs s x sh o ft' A3 n3 c3 A4 n4 c4 bb W' := by
 rcases h with h | ⟨hb, y, h1, h2, h3, h4, h5, h6, h7⟩
 ·exact .inl h
 ·exact .inr ⟨hb, y, h1, h2, h3, h4, h5, Kd.F_mono (Kd.F_step (Kd.F_bound h6) (fun k hk hlt => hm k hk.1 hlt)) (fun k hk => hf k hk.1 hk.2), Kd.F_mono (Kd.F_step (Kd.F_bound h7) (fun k hk hlt => hm k hk.1 hlt)) (fun k hk => hf k hk.1 hk.2)⟩
theorem with_search (s : Sk) (hs : Good s) (x : St) (hwf : WFst s x) (sh : S45) (hsh : sh ∈ s.shells) (o : S27) (ho : 0 ≤ o.f0 ∧ o.f0 < s.rivers.length ∧ (sh.f0.length : Int) - 1 ≤ o.f1 ∧ o.f1 < s.years) (A A' A5 : Option Addr) (c c' c5 : Nat) (V2 V3 : Value) (own : Nat → Prop) (N : Nat) (W : World)
 (hF1 : Kd.C k43 W s.A1 s.rivers.length s.rivers) (hO : Kd.C k27 W A x.1.length x.1) (hW : Kd.F (Kd.slice 47 k47) W (Low own N) A' x.2.length x.2) (hR : (Kd.int .i64).C W A5 sh.f0.length sh.f0) :
 Calls Tryz.prog 143 #[.agg #[.int .i64 s.years, .slice s.A1 s.rivers.length s.c1, V2, V3], .agg #[.slice A x.1.length c, .slice A' x.2.length c'], .agg #[.slice A5 sh.f0.length c5, .int .i64 sh.f1], .agg #[.int .i64 o.f0, .int .i64 o.f1]] W
  fun e W' => Below W.heap.size W W' ∧ ∃ A3 n3 c3 A4 n4 c4 bb, e = .returned (.tuple #[.agg #[.slice A3 n3 c3, .slice A4 n4 c4], .bool bb]) ∧ WithIs s x sh o (fun k => Low own N k ∨ W.heap.size ≤ k) A3 n3 c3 A4 n4 c4 bb W' := by
 have hrow := hwf.rows
 have hlen := hwf.len
 have hring := hs.rings sh hsh
 have hrm : rd_T43 s.rivers o.f0 ∈ s.rivers := by
  have h : o.f0.toNat < s.rivers.length := by omega
  have e : rd_T43 s.rivers o.f0 = s.rivers[o.f0.toNat] := by simp [rd_T43, List.getD_eq_getElem?_getD, h]
  rw [e]
  exact List.getElem_mem h
 have hwm : rd_L2 x.2 o.f0 ∈ x.2 := by
  have h : o.f0.toNat < x.2.length := by omega
  have e : rd_L2 x.2 o.f0 = x.2[o.f0.toNat] := by simp [rd_L2, List.getD_eq_getElem?_getD, h]
  rw [e]
  exact List.getElem_mem h
 have hrl := hwf.row _ hwm
 have hy := hs.years
 have hsl := hs.shells
 have hrs := hs.rivers
 refine with_t s.years s.A1 s.c1 s.rivers.length V2 V3 A A' A5 c x.2.length c' sh.f0.length c5 sh.f1 o.f0 o.f1 W _ x.1 s.rivers x.2 sh.f0 (Low own N) (o.f1 - sh.f0.length + 1).toNat hF1 hO hW hR ho.1 ho.2.1 (by omega) (hs.vary _ hrm) (hs.off _ hsh) hring.2.2 (by omega) (by omega) hring.1 hring.2.1 (by omega) (by omega) (by omega) ⟨?_, ?_⟩
 ·intro hno W' hb
  refine ⟨hb, none, 0, 0, none, 0, 0, false, rfl, .inl ⟨rfl, ?_⟩⟩
  unfold stepS
  rw [hno]
  rfl
 ·intro row hro W' hb A3 c3 A4 c4 h3 h4 hf3 hf4
  refine ⟨hb, A3, _, c3, A4, _, c4, true, rfl, .inr ⟨rfl, (x.1 ++ [o], x.2.set o.f0.toNat row), ?_, rfl, rfl, by simpa using h3, by simpa using h4, Kd.F_mono hf3 (fun k hk => .inr hk), hf4⟩⟩
  unfold stepS
  rw [hro]
  rfl
end Go.Proofs.YtfijblhfgfefoaaGreatDoor.Rv
end
