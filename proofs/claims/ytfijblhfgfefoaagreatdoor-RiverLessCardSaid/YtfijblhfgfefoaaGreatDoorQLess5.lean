/- A part of the proof: words, contracts of functions, and their walks. -/
import Derived.WalkLawsBesides
import Derived.RangeFuncRecord
import Derived.Deep.RegionWith
import Derived.Orders
import Derived.Tactics
import Derived.Test.YtfijblhfgfefoaaGreatDoorQLess2
import Derived.Test.YtfijblhfgfefoaaGreatDoorQLess3
import Derived.Test.YtfijblhfgfefoaaGreatDoorQLess4
set_option linter.unusedVariables false
set_option linter.unusedSimpArgs false
section
namespace Go.Proofs.YtfijblhfgfefoaaGreatDoor.Rv
open Go.RowKit Go.Shelf Go.IntWalk Go.Proofs.YtfijblhfgfefoaaGreatDoor.PAll Go.Proofs.YtfijblhfgfefoaaGreatDoorW.PrintWords Go.Proofs.YtfijblhfgfefoaaGreatDoorW.PrintLast
open Go.Proofs.YtfijblhfgfefoaaGreatDoorW.PrintMore
theorem max2_mx (k k' : IntKind) (x y : Int) : Builtin.max2 (.int k x) (.int k' y) = pure (.int k (mx x y)) := max2_int k k' x y
theorem min2_mn (k k' : IntKind) (x y : Int) : Builtin.min2 (.int k x) (.int k' y) = pure (.int k (mn x y)) := min2_int k k' x y
attribute [local go_sem] max2_mx min2_mn max_two min_two
def meetLo (a b : S47) : Int := mx a.f0 b.f0
def meetHi (a b : S47) : Int := mn a.f1 b.f1
def outAt (a b : S47) (k : Nat) : S47 := if k < 2 then a else ⟨meetLo a b, meetHi a b⟩
def ab (a b : S47) (k : Nat) : S47 := if k = 0 then a else b
theorem outAt_lo (a b : S47) (k : Nat) (h : k < 2) : (outAt a b (k + 1)).f0 = mx (outAt a b k).f0 (ab a b k).f0 := by
 have : k = 0 ∨ k = 1 := by omega
 rcases this with rfl | rfl <;> simp [outAt, ab, meetLo, mx]
theorem outAt_hi (a b : S47) (k : Nat) (h : k < 2) : (outAt a b (k + 1)).f1 = mn (outAt a b k).f1 (ab a b k).f1 := by
 have : k = 0 ∨ k = 1 := by omega
 rcases this with rfl | rfl <;> simp [outAt, ab, meetHi, mn]
theorem outAt_two (a b : S47) : outAt a b 2 = ⟨meetLo a b, meetHi a b⟩ := by simp [outAt]
def NarrowPost (r y : Int) (a b : S47) (w : World) (e : Ending) (w' : World) : Prop :=
 Below w.heap.size w w' ∧ ((meetLo a b ≤ meetHi a b ∧ e = .returned (.agg #[.int .i64 (meetLo a b), .int .i64 (meetHi a b)])) ∨
  (meetHi a b < meetLo a b ∧ e = .panicked [{ v := .iface 245 (.agg #[.int .i64 r, .int .i64 y]), recovered := false }]))
set_option maxRecDepth 100000 in
set_option maxHeartbeats 2000000 in
theorem narrow_calls (r y : Int) (g c : Nat) (a b : S47) (w : World) (h : ∀ k : Nat, k < 2 → w.cell? ⟨g, k * 2, none⟩ = some (.int .i64 (ab a b k).f0) ∧ w.cell? ⟨g, k * 2 + 1, none⟩ = some (.int .i64 (ab a b k).f1)) :
 Calls Tryz.prog 182 #[.int .i64 r, .int .i64 y, .slice (some ⟨g, 0, none⟩) 2 c] w (NarrowPost r y a b w) := by
 have hg : g < w.heap.size := World.block_lt_of_cell? w _ (h 0 (by omega)).1
 have h00 := (h 0 (by omega)).1
 have h01 := (h 0 (by omega)).2
 simp only [ab, Nat.zero_mul, Nat.zero_add] at h00 h01
 have HH := zk h
 clear h
 have hg1 : g < w.heap.size + 1 := by omega
 have hg2 : g < w.heap.size + 1 + 1 := by omega
 have hu47 := Tryz.underlying47
 go_enter Tryz.func182, Tryz.ntmps182
 go_wp2
 go_loopg [9, 15] 2 (fun gg _ v15 wr => ∃ kk : Nat, kk ≤ 2 ∧ 2 - kk ≤ gg ∧ v15 = .int .i64 kk ∧ Aside0 (Below w.heap.size w wr) ∧ Aside0 (wr.heap[w.heap.size]? = some (.cells #[.int .i64 0, .int .i64 0] 47 (0, 0))) ∧ Aside0 (wr.heap[w.heap.size + 1]? = some (.cells #[.int .i64 (outAt a b kk).f0, .int .i64 (outAt a b kk).f1] 47 (0, 0))))
 case atStart => exact ⟨0, by omega, by omega, rfl, ⟨(below1 _).alloc (by simp) _⟩, ⟨blk_alloc (blk_new _ _) _⟩, ⟨by have h := blk_new (w.alloc (.cells #[.int .i64 0, .int .i64 0] 47)) (.cells #[.int .i64 a.f0, .int .i64 a.f1] 47); rw [World.size_alloc] at h; exact h⟩⟩
 case round =>
  clear h00 h01 hg1 hg2
  obtain ⟨kk, hkk, hgg, rfl, BW, B6, B7⟩ := hrel
  have c0 : wr.cell? ⟨w.heap.size + 1, 0, none⟩ = some (.int .i64 (outAt a b kk).f0) := blk_cell B7.out 0
  have c1 : wr.cell? ⟨w.heap.size + 1, 1, none⟩ = some (.int .i64 (outAt a b kk).f1) := blk_cell B7.out 1
  have f0 : wr.frozen? ⟨w.heap.size + 1, 0, none⟩ = false := blk_frozen B7.out 0
  have f1 : wr.frozen? ⟨w.heap.size + 1, 1, none⟩ = false := blk_frozen B7.out 1
  have l7 : w.heap.size + 1 < wr.heap.size := blk_lt B7.out
  have d0 : wr.cell? ⟨w.heap.size, 0, none⟩ = some (.int .i64 0) := blk_cell B6.out 0
  have d1 : wr.cell? ⟨w.heap.size, 1, none⟩ = some (.int .i64 0) := blk_cell B6.out 1
  have e0 : wr.frozen? ⟨w.heap.size, 0, none⟩ = false := blk_frozen B6.out 0
  have e1 : wr.frozen? ⟨w.heap.size, 1, none⟩ = false := blk_frozen B6.out 1
  have l6 : w.heap.size < wr.heap.size := blk_lt B6.out
  by_cases hlt : kk < 2
  ·have hltz : decide ((kk : Int) < 2) = true := by simp; omega
   have s0 := (BW.out.cell (p := ⟨g, kk * 2, none⟩) hg).trans (HH.out kk hlt).1
   have s1 := (BW.out.cell (p := ⟨g, kk * 2 + 1, none⟩) hg).trans (HH.out kk hlt).2
   have hgr : g < wr.heap.size := by omega
   have E0 := zk (outAt_lo a b kk hlt)
   have E1 := zk (outAt_hi a b kk hlt)
   have HLT := zk hlt
   go_wp2
   all_goals
    go_roundg (2 - (kk + 1))
    case measure => have := HLT.out; omega
    case rel =>
     refine ⟨kk + 1, by have := HLT.out; omega, by omega, by go_num, ?_, ?_, ?_⟩
     ·exact ⟨((BW.out.setCell (p := ⟨w.heap.size + 1, 0, none⟩) (by simp) _).setCell (p := ⟨w.heap.size + 1, 1, none⟩) (by simp) _).alloc (by have := BW.out.size; simp; omega) _⟩
     ·exact ⟨blk_alloc (blk_far (blk_far B6.out (p := ⟨w.heap.size + 1, 0, none⟩) (by simp) _) (p := ⟨w.heap.size + 1, 1, none⟩) (by simp) _) _⟩
     ·refine ⟨?_⟩
      rw [E0.out, E1.out]
      exact blk_alloc (blk_put (blk_put B7.out 0 _ rfl) 1 _ rfl) _
  ·have hltz : decide ((kk : Int) < 2) = false := by simp; omega
   have hk2 : kk = 2 := by omega
   clear hlt hltz
   subst hk2
   rw [outAt_two] at B7 c0 c1
   dsimp only at B7 c0 c1
   by_cases hq : meetHi a b < meetLo a b
   ·go_wp2
    exact ⟨rfl, BW.out, .inr ⟨hq, rfl⟩⟩
   ·go_wp2
    refine bodyPost_ret (results_cell_row rfl _ _ w.heap.size 47 #[.int .i64 (meetLo a b), .int .i64 (meetHi a b)] (0, 0) _ rfl (blk_put (blk_put B6.out 0 _ rfl) 1 _ rfl) Tryz.underlying47 rfl (by kernel_rfl)) rfl ⟨?_, .inl ⟨by omega, rfl⟩⟩
    exact (BW.out.setCell (p := ⟨w.heap.size, 0, none⟩) (by simp) _).setCell (p := ⟨w.heap.size, 1, none⟩) (by simp) _
end Go.Proofs.YtfijblhfgfefoaaGreatDoor.Rv
end
section
namespace Go.Proofs.YtfijblhfgfefoaaGreatDoor.Rv
open Go.RowKit Go.Shelf Go.IntWalk Go.Proofs.YtfijblhfgfefoaaGreatDoor.PAll Go.Proofs.YtfijblhfgfefoaaGreatDoorW.PrintWords Go.Proofs.YtfijblhfgfefoaaGreatDoorW.PrintLast
structure Chg (S : Nat → Prop) (w w' : World) : Prop where
 os : w'.os = w.os
 tape : w'.tape = w.tape
 output : w'.output = w.output
 size : w.heap.size ≤ w'.heap.size
 block : ∀ i, i < w.heap.size → ¬ S i → w'.heap[i]? = w.heap[i]?
theorem Chg.refl (S : Nat → Prop) (w : World) : Chg S w w := ⟨rfl, rfl, rfl, Nat.le_refl _, fun _ _ _ => rfl⟩
theorem Chg.trans {S : Nat → Prop} {a b c : World} (h : Chg S a b) (k : Chg S b c) : Chg S a c :=
 ⟨k.os.trans h.os, k.tape.trans h.tape, k.output.trans h.output, Nat.le_trans h.size k.size, fun i hi hs => (k.block i (Nat.lt_of_lt_of_le hi h.size) hs).trans (h.block i hi hs)⟩
theorem Chg.mono {S T : Nat → Prop} {a b : World} (h : Chg S a b) (hs : ∀ i, i < a.heap.size → S i → T i) : Chg T a b :=
 ⟨h.os, h.tape, h.output, h.size, fun i hi ht => h.block i hi (fun k => ht (hs i hi k))⟩
theorem Chg.of_below {S : Nat → Prop} {n : Nat} {a b : World} (h : Below n a b) (hs : ∀ i, i < a.heap.size → n ≤ i → S i) : Chg S a b :=
 ⟨h.os, h.tape, h.output, h.size, fun i hi ht => h.block i (Nat.lt_of_not_le (fun k => ht (hs i hi k)))⟩
theorem Chg.fresh {S : Nat → Prop} {a b : World} (h : Below a.heap.size a b) : Chg S a b := .of_below h (fun i hi k => absurd hi (Nat.not_lt_of_le k))
theorem Chg.below {S : Nat → Prop} {n : Nat} {a b : World} (h : Chg S a b) (hs : ∀ i, S i → n ≤ i) (hn : n ≤ a.heap.size) : Below n a b :=
 ⟨h.os, h.tape, h.output, h.size, fun i hi => h.block i (by omega) (fun k => by have := hs i k; omega)⟩
theorem Chg.alloc {S : Nat → Prop} {a b : World} (h : Chg S a b) (o : Obj) : Chg S a (b.alloc o) := h.trans (.fresh ((Below.refl _ b).alloc (Nat.le_refl _) o))
theorem Chg.setCell {S : Nat → Prop} {a b : World} (h : Chg S a b) {p : Addr} (hp : S p.block) (v : Value) : Chg S a (b.setCell p v) :=
 ⟨h.os, h.tape, h.output, by simpa [World.setCell] using h.size, fun i hi hs => (Below.heap_setCell b p v i (fun e => hs (by rw [e]; exact hp))).trans (h.block i hi hs)⟩
theorem Chg.putObj {S : Nat → Prop} {a b : World} (h : Chg S a b) {r : Nat} (hr : S r) (o : Obj) : Chg S a (b.putObj r o) :=
 ⟨h.os, h.tape, h.output, by simpa using h.size, fun i hi hs => (World.putObj_heap_other (fun e => hs (by rw [e]; exact hr))).trans (h.block i hi hs)⟩
theorem catch_idle (p8 p9 : Nat) (w : World) :
 CallsD Tryz.prog 179 #[.pointer (some ⟨p8, 0, none⟩), .pointer (some ⟨p9, 0, none⟩)] .returning w fun e u' w' => e = .returned (.tuple #[]) ∧ u' = .returning ∧ w' = w := by
 refine callsD_of_wpS Tryz.func179 rfl fun c₀ cs hu => ?_
 apply wpS_seq
 apply wpS_region
 simp [wpOpsS, go_sem, recoverD, hu, Tryz.ntmps179, Exit.thenS]
 refine wpS_of_wp ?_
 go_wp2
 cases c₀
 simp_all [bodyPostS, results, Tryz.results179]
def CatchPost (p8 p9 : Nat) (x : Value) (older : List PanicEntry) (w : World) (e : Ending) (u' : FrameMode) (w' : World) : Prop :=
 e = .returned (.tuple #[]) ∧ u' = .panicking ({ v := .iface 245 x, recovered := true } :: older) ∧ Chg (fun k => k = p8 ∨ k = p9) w w' ∧ w'.heap[p8]? = some (.cells #[.slice none 0 0, .slice none 0 0] 149 (0, 0)) ∧ w'.heap[p9]? = some (.cells #[.bool false] 4 (0, 0))
set_option maxRecDepth 100000 in
theorem catch_panicking (p8 p9 : Nat) (x : Value) (r y : Int) (hx : x = .agg #[.int .i64 r, .int .i64 y]) (older : List PanicEntry) (w : World) (v0 v1 v2 : Value)
 (h8 : w.heap[p8]? = some (.cells #[v0, v1] 149 (0, 0))) (h9 : w.heap[p9]? = some (.cells #[v2] 4 (0, 0))) :
 CallsD Tryz.prog 179 #[.pointer (some ⟨p8, 0, none⟩), .pointer (some ⟨p9, 0, none⟩)] (.panicking ({ v := .iface 245 x, recovered := false } :: older)) w (CatchPost p8 p9 x older w) := by
 subst hx
 have a8 : w.cell? ⟨p8, 0, none⟩ = some v0 := blk_cell h8 0
 have b8 : w.cell? ⟨p8, 1, none⟩ = some v1 := blk_cell h8 1
 have a9 : w.cell? ⟨p9, 0, none⟩ = some v2 := blk_cell h9 0
 have f8 : w.frozen? ⟨p8, 0, none⟩ = false := blk_frozen h8 0
 have g8 : w.frozen? ⟨p8, 1, none⟩ = false := blk_frozen h8 1
 have f9 : w.frozen? ⟨p9, 0, none⟩ = false := blk_frozen h9 0
 have l8 := blk_lt h8
 have l9 := blk_lt h9
 have hu149 := Tryz.underlying149
 have hu245 := Tryz.underlying245
 have hu20 := Tryz.underlying20
 have hta : ∀ (v : Value) (W : World), (Instr.typeAssert (.iface 245 v) 20 245 true).run Tryz.prog W = .ok (.tuple #[v, .bool true]) W := fun v W => by rfl
 have hne : p8 ≠ p9 := blk_ne h8 h9 (by decide)
 have hne2 : p9 ≠ p8 := hne.symm
 have H8 := zk h8
 have H9 := zk h9
 clear h8 h9
 refine callsD_of_wpS Tryz.func179 rfl fun c₀ cs hu => ?_
 apply wpS_seq
 apply wpS_region
 simp [wpOpsS, go_sem, recoverD, hu, Tryz.ntmps179, Exit.thenS]
 refine wpS_of_wp ?_
 change Code.wp Tryz.prog _ _ { tmps := #[.pointer (some ⟨p8, 0, none⟩), .pointer (some ⟨p9, 0, none⟩), undef, undef, undef, .iface 245 (.agg #[.int .i64 r, .int .i64 y]), undef, undef, undef, undef, undef, undef], defers := [] } w
 go_wp2
 refine ⟨rfl, ⟨_, rfl, _, results_none rfl _ _ _, rfl, rfl, ?_, ?_, ?_⟩⟩
 ·with_reducible (repeat (first | exact Chg.refl _ _ | refine Chg.alloc ?_ _ | refine Chg.setCell ?_ ?_ _)) <;> simp
 ·exact blk_alloc (blk_far (blk_put (blk_put H8.out 0 _ rfl) 1 _ rfl) (p := ⟨p9, 0, none⟩) hne _) _
 ·exact blk_alloc (blk_put (blk_far (blk_far H9.out (p := ⟨p8, 0, none⟩) hne2 _) (p := ⟨p8, 1, none⟩) hne2 _) 0 _ rfl) _
theorem reps_cells {α : Type} {d : Kd α} {w : World} {A : Option Addr} {n : Nat} {xs : List α} (h : d.C w A n xs) : ∃ cells, Raw w A n d.sz cells ∧ Reps (d.K w) d.sz xs cells := by
 rcases Nat.eq_zero_or_pos n with h0 | h0
 ·subst h0
  obtain rfl : xs = [] := List.eq_nil_of_length_eq_zero h.1
  exact ⟨[], ⟨by simp, by simp, fun h => absurd h (Nat.lt_irrefl 0)⟩, Reps.none _ _⟩
 ·obtain ⟨ad, rfl, _⟩ := h.2.2 h0
  obtain ⟨news, hr, hc⟩ := ReadsRow.inner_ h
  refine ⟨news, ⟨by rw [hr.1, h.1], ?_, fun _ => ⟨ad, rfl, hc⟩⟩, hr⟩
  intro u hu
  obtain ⟨j, hj, rfl⟩ := List.getElem_of_mem hu
  have hsz : 0 < d.sz := by
   rcases Nat.eq_zero_or_pos d.sz with h1 | h1
   ·have := hr.1; rw [h1] at this; simp at this; subst this; simp at hj
   ·exact h1
  have hlt : j / d.sz < xs.length := by
   have := hr.1
   exact Nat.div_lt_of_lt_mul (by rw [Nat.mul_comm]; omega)
  have hk := hr.2 (j / d.sz) _ (List.getElem?_eq_getElem hlt)
  refine d.K_one hk _ ?_
  have hm := Nat.div_add_mod j d.sz
  have hmod := Nat.mod_lt j hsz
  rw [List.mem_take_iff_getElem]
  refine ⟨j % d.sz, ?_, ?_⟩
  ·rw [List.length_drop]; rw [Nat.mul_comm] at hm; omega
  ·rw [List.getElem_drop]; congr 1; rw [Nat.mul_comm]; exact hm
def depsOk (ops : Array Oper) (D : List (List Nat)) : Bool :=
 (List.range ops.size).all fun i => match ops[i]? with
   |none => false
   |some o => (D.getD i []).all (fun j => o.after.toList.any fun e => Region.binds .any e && e.on == j) && o.after.toList.all fun e => !Region.binds .any e || decide (e.on < i)
def upd (b : Nat → Bool) (i : Nat) : Nat → Bool := fun j => if j = i then true else b j
theorem upd_self (b : Nat → Bool) (i : Nat) : upd b i i = true := by simp [upd]
theorem upd_ne {b : Nat → Bool} {i j : Nat} (h : j ≠ i) : upd b i j = b j := by simp [upd, h]
theorem depsOk_at {ops : Array Oper} {D : List (List Nat)} (h : depsOk ops D = true) {i : Nat} {o : Oper} (ho : ops[i]? = some o) :
 (∀ j, j ∈ D.getD i [] → ∃ e ∈ o.after, Region.binds .any e = true ∧ e.on = j) ∧ ∀ e ∈ o.after, Region.binds .any e = true → e.on < i := by
 have hi : i < ops.size := (Array.getElem?_eq_some_iff.1 ho).1
 have h1 := List.all_eq_true.1 h i (List.mem_range.2 hi)
 rw [ho] at h1
 simp only [Bool.and_eq_true, List.all_eq_true, List.any_eq_true, Bool.or_eq_true, Bool.not_eq_true', decide_eq_true_eq, beq_iff_eq] at h1
 refine ⟨fun j hj => ?_, fun e he hb => ?_⟩
 ·obtain ⟨e, he, hb, hj⟩ := h1.1 j hj
  exact ⟨e, Array.mem_toList_iff.1 he, hb, hj⟩
 ·rcases h1.2 e (Array.mem_toList_iff.2 he) with h2 | h2
  ·rw [hb] at h2; cases h2
  ·exact h2
theorem wpAny_inv {P : Program} {ops : Array Oper} {Q : Exit → Act → World → Prop} {D : List (List Nat)} (hD : depsOk ops D = true) (I : (Nat → Bool) → Act → World → Prop)
 (hs : ∀ i, i < ops.size → ∀ b a w, I b a w → b i = false → (∀ j, j ∈ D.getD i [] → b j = true) → (∀ o, ops[i]? = some o → ∀ e ∈ o.after, Region.binds .any e = true → b e.on = true) → (∀ d o, ops[d]? = some o → b d = true → ∀ e ∈ o.after, Region.binds .any e = true → b e.on = true) → wpOp P ops Q i (fun a' w' => I (upd b i) a' w') a w)
 (hend : ∀ b a w, (∀ i, i < ops.size → b i = true) → I b a w → Q .normal a w) :
 ∀ (fuel : Nat) (listed : Array Bool) (a : Act) (w : World), listed.size = ops.size → ((List.range ops.size).filter fun i => !listed.getD i false).length ≤ fuel →
  (∀ d o, ops[d]? = some o → listed.getD d false = true → ∀ e ∈ o.after, Region.binds .any e = true → listed.getD e.on false = true) →
  I (fun i => listed.getD i false) a w → wpAny P .any ops Q fuel listed a w := by
 have all_done : ∀ (listed : Array Bool), listed.size = ops.size → Region.ready .any ops listed = [] → ∀ i, i < ops.size → listed.getD i false = true := by
  intro listed hsz hr
  have key : ∀ n i, i < n → i < ops.size → listed.getD i false = true := by
   intro n
   induction n with
   |zero => intro i h; omega
   |succ n ih =>
    intro i hi hlt
    cases hc : listed.getD i false with
    |true => rfl
    |false =>
     exfalso
     have hm : i ∈ Region.ready .any ops listed := by
      refine mem_ready.2 ⟨?_, ops[i], Array.getElem?_eq_getElem hlt, fun e he hb => ?_⟩
      ·have : i < listed.size := by omega
       simp only [Array.getD_eq_getD_getElem?, Array.getElem?_eq_getElem this, Option.getD_some] at hc ⊢
       exact hc
      ·have := (depsOk_at hD (Array.getElem?_eq_getElem hlt)).2 e he hb
       exact ih e.on (by omega) (by omega)
     rw [hr] at hm
     cases hm
  exact fun i hi => key (i + 1) i (by omega) hi
 intro fuel
 induction fuel with
 |zero =>
  intro listed a w hsz hcnt hcl hI
  have hnil : ((List.range ops.size).filter fun i => !listed.getD i false) = [] := List.eq_nil_of_length_eq_zero (by omega)
  have hall : ∀ i, i < ops.size → listed.getD i false = true := by
   intro i hi
   have := List.filter_eq_nil_iff.1 hnil i (List.mem_range.2 hi)
   simpa using this
  refine ⟨?_, hend _ a w hall hI⟩
  cases hr : Region.ready .any ops listed with
  |nil => rfl
  |cons i rs =>
   exfalso
   have hm : i ∈ Region.ready .any ops listed := by rw [hr]; exact List.mem_cons_self
   obtain ⟨h0, o, ho, _⟩ := mem_ready.1 hm
   have hi : i < ops.size := (Array.getElem?_eq_some_iff.1 ho).1
   have h1 := hall i hi
   have : i < listed.size := by omega
   simp only [Array.getD_eq_getD_getElem?, Array.getElem?_eq_getElem this, Option.getD_some] at h0 h1
   rw [h0] at h1; cases h1
 |succ fuel ih =>
  intro listed a w hsz hcnt hcl hI
  refine ⟨fun hr => hend _ a w (all_done listed hsz hr) hI, fun i him => ?_⟩
  obtain ⟨h0, o, ho, hw⟩ := mem_ready.1 him
  have hi : i < ops.size := (Array.getElem?_eq_some_iff.1 ho).1
  have hil : i < listed.size := by omega
  have h0' : listed.getD i false = false := by
   simp only [Array.getD_eq_getD_getElem?, Array.getElem?_eq_getElem hil, Option.getD_some] at h0 ⊢
   exact h0
  refine wpOp_mono (fun a' w' hI' => ih (listed.setIfInBounds i true) a' w' (by simpa using hsz) ?_ ?_ ?_) (hs i hi _ a w hI h0' ?_ ?_ ?_)
  ·have hf : ((List.range ops.size).filter fun j => !(listed.setIfInBounds i true).getD j false) = ((List.range ops.size).filter fun j => !listed.getD j false).filter fun j => !(j == i) := by
    rw [List.filter_filter]
    apply List.filter_congr
    intro j hj
    by_cases e : j = i
    ·subst e
     simp [hil]
    ·rw [getD_set_ne false (Ne.symm e)]
     simp [e]
   rw [hf]
   have hmem : i ∈ ((List.range ops.size).filter fun j => !listed.getD j false) := List.mem_filter.2 ⟨List.mem_range.2 hi, by rw [h0']; rfl⟩
   have hlt : (((List.range ops.size).filter fun j => !listed.getD j false).filter fun j => !(j == i)).length < ((List.range ops.size).filter fun j => !listed.getD j false).length :=
    List.length_filter_lt_length_iff_exists.2 ⟨i, hmem, by simp⟩
   omega
  ·intro d od hod hd e he hb
   by_cases ed : d = i
   ·subst ed
    rw [ho] at hod; cases hod
    exact getD_set_true (hw e he hb)
   ·rw [getD_set_ne false (Ne.symm ed)] at hd
    exact getD_set_true (hcl d od hod hd e he hb)
  ·have : (fun j => (listed.setIfInBounds i true).getD j false) = upd (fun j => listed.getD j false) i := by
    funext j
    by_cases e : j = i
    ·subst e; rw [upd_self]; simp [hil]
    ·rw [upd_ne e, getD_set_ne false (Ne.symm e)]
   rw [this]
   exact hI'
  ·intro j hj
   obtain ⟨e, he, hb, rfl⟩ := (depsOk_at hD ho).1 j hj
   exact hw e he hb
  ·intro o' ho' e he hb
   rw [ho] at ho'; cases ho'
   exact hw e he hb
  ·exact fun d o' ho' hd => hcl d o' ho' hd
theorem region_inv {P : Program} {id : Nat} {ops : Array Oper} {Q : Exit → Act → World → Prop} {a : Act} {w : World} (D : List (List Nat)) (I : (Nat → Bool) → Act → World → Prop)
 (hm : P.follows .mixedOrders = true) (hD : depsOk ops D = true) (h0 : ∀ w2, Same w w2 → I (fun _ => false) a w2)
 (hs : ∀ i, i < ops.size → ∀ b a w, I b a w → b i = false → (∀ j, j ∈ D.getD i [] → b j = true) → (∀ o, ops[i]? = some o → ∀ e ∈ o.after, Region.binds .any e = true → b e.on = true) → (∀ d o, ops[d]? = some o → b d = true → ∀ e ∈ o.after, Region.binds .any e = true → b e.on = true) → wpOp P ops Q i (fun a' w' => I (upd b i) a' w') a w)
 (hend : ∀ b a w, (∀ i, i < ops.size → b i = true) → I b a w → Q .normal a w) : (Code.region id ops true).wp P Q a w := by
 refine wp_region_any hm (wpAny_inv hD I hs hend ops.size _ a _ (by simp) ?_ ?_ ?_)
 ·exact Nat.le_trans (List.length_filter_le _ _) (by simp)
 ·intro d o ho hd
  simp [Array.getElem?_replicate] at hd
  split at hd <;> simp at hd
 ·have : (fun i => (Array.replicate ops.size false).getD i false) = fun _ => false := by
   funext i
   simp [Array.getElem?_replicate]
   split <;> simp
  rw [this]
  exact h0 _ (same_drew w)
end Go.Proofs.YtfijblhfgfefoaaGreatDoor.Rv
end
section
namespace Go.Proofs.YtfijblhfgfefoaaGreatDoor.Rv
open Go.RowKit Go.Shelf Go.IntWalk Go.Proofs.YtfijblhfgfefoaaGreatDoor.PAll Go.Proofs.YtfijblhfgfefoaaGreatDoorW.PrintWords Go.Proofs.YtfijblhfgfefoaaGreatDoorW.PrintLast
def masks (ops : List Oper) : List Nat :=
 ops.foldl (fun ms o => ms ++ [o.after.toList.foldl (fun s e => if Region.binds .any e then s ||| 2 ^ e.on ||| ms.getD e.on 0 else s) 0]) []
def headOk (ops : Array Oper) (D : List (List Nat)) (M : List Nat) (n : Nat) : Bool :=
 ((List.range ops.size).all fun i => match ops[i]? with
   |none => false
   |some o => (List.range ops.size).all (fun j => !(M.getD i 0).testBit j || (decide (j < i) && o.after.toList.any fun e => Region.binds .any e && (e.on == j || (M.getD e.on 0).testBit j)))
     && o.after.toList.all (fun e => !Region.binds .any e || decide (e.on < i))) &&
 ((List.range ops.size).all fun i => (D.getD i []).all fun j => (M.getD i 0).testBit j && decide (j < ops.size)) &&
 ((List.range ops.size).all fun i => decide (i < n) || (List.range i).all fun j => (M.getD i 0).testBit j)
variable {P : Program} {ops : Array Oper} {Q : Exit → Act → World → Prop} {D : List (List Nat)} {M : List Nat} {n : Nat}
theorem headOk_depsOk (h : headOk ops D M n = true) : depsOk ops [] = true := by
 unfold headOk at h
 simp only [Bool.and_eq_true] at h
 unfold depsOk
 rw [List.all_eq_true]
 intro i hi
 have h1 := List.all_eq_true.1 h.1.1 i hi
 cases ho : ops[i]? with
 |none => rw [ho] at h1; cases h1
 |some o =>
  rw [ho] at h1
  simp only [Bool.and_eq_true] at h1 ⊢
  exact ⟨by simp, h1.2⟩
theorem mask_done (h : headOk ops D M n = true) {b : Nat → Bool} (hc : ∀ d o, ops[d]? = some o → b d = true → ∀ e ∈ o.after, Region.binds .any e = true → b e.on = true) :
 ∀ (m i : Nat), i < m → i < ops.size → (∀ o, ops[i]? = some o → ∀ e ∈ o.after, Region.binds .any e = true → b e.on = true) → ∀ j, j < ops.size → (M.getD i 0).testBit j = true → b j = true := by
 intro m
 induction m with
 |zero => intro i hi; omega
 |succ m ih =>
  intro i hi hlt hb j hj ht
  unfold headOk at h
  have hh := h
  simp only [Bool.and_eq_true] at h
  have h1 := List.all_eq_true.1 h.1.1 i (List.mem_range.2 hlt)
  cases ho : ops[i]? with
  |none => rw [ho] at h1; cases h1
  |some o =>
   rw [ho] at h1
   simp only [Bool.and_eq_true] at h1
   have h2 := List.all_eq_true.1 h1.1 j (List.mem_range.2 hj)
   rw [ht] at h2
   simp only [Bool.not_true, Bool.false_or, Bool.and_eq_true, decide_eq_true_eq, List.any_eq_true, Bool.or_eq_true, beq_iff_eq] at h2
   obtain ⟨hji, e, he, hbi, he2⟩ := h2
   have he' : e ∈ o.after := Array.mem_toList_iff.1 he
   have hdone := hb o ho e he' hbi
   rcases he2 with rfl | he2
   ·exact hdone
   ·have hlt2 : e.on < i := by
     have := List.all_eq_true.1 h1.2 e he
     rw [hbi] at this
     simpa using this
    exact ih e.on (by omega) (by omega) (fun o' ho' e' he2' hb2 => hc e.on o' ho' hdone e' he2' hb2) j hj he2
theorem region_head {id : Nat} {l : List Oper} {a : Act} {w : World} (n : Nat) (D : List (List Nat)) (I : (Nat → Bool) → Act → World → Prop)
 (hm : P.follows .mixedOrders = true) (hD : headOk l.toArray D (masks l) n = true) (hn : n ≤ l.length) (h0 : ∀ w2, Same w w2 → I (fun _ => false) a w2)
 (hs : ∀ i o, i < n → l[i]? = some o → ∀ b a w, I b a w → b i = false → (∀ j, j ∈ D.getD i [] → b j = true) → (∀ d, d < n → i ∈ D.getD d [] → b d = false) → wpList P l.toArray (Exit.then (fun a' w' => I (upd b i) a' w') Q) [o] a w)
 (hend : ∀ b a w, (∀ i, i < n → b i = true) → I b a w → wpList P l.toArray Q (l.drop n) a w) : (Code.region id l.toArray true).wp P Q a w := by
 have hsz : l.toArray.size = l.length := by simp
 have hbits : ∀ i, i < l.toArray.size → (∀ j, j ∈ D.getD i [] → ((masks l).getD i 0).testBit j = true ∧ j < l.toArray.size) ∧ (n ≤ i → ∀ j, j < i → ((masks l).getD i 0).testBit j = true) := by
  intro i hi
  unfold headOk at hD
  simp only [Bool.and_eq_true] at hD
  have h1 := List.all_eq_true.1 hD.1.2 i (List.mem_range.2 hi)
  have h2 := List.all_eq_true.1 hD.2 i (List.mem_range.2 hi)
  refine ⟨fun j hj => ?_, fun hni j hj => ?_⟩
  ·have := List.all_eq_true.1 h1 j hj
   simpa using this
  ·simp only [Bool.or_eq_true, decide_eq_true_eq] at h2
   rcases h2 with h2 | h2
   ·omega
   ·exact List.all_eq_true.1 h2 j (List.mem_range.2 hj)
 let C : (Nat → Bool) → Prop := fun b => ∀ d o, l.toArray[d]? = some o → b d = true → ∀ e ∈ o.after, Region.binds .any e = true → b e.on = true
 let J : (Nat → Bool) → Act → World → Prop := fun b a w => C b ∧
  ((∀ d, n ≤ d → d < l.length → b d = false) ∧ I b a w ∨
   ∃ k, n < k ∧ k ≤ l.length ∧ (∀ d, d < l.length → (b d = true ↔ d < k)) ∧ wpList P l.toArray Q (l.drop k) a w)
 refine region_inv (D := []) J hm (headOk_depsOk hD) (fun w2 hw => ⟨fun d o _ h => (by cases h), .inl ⟨fun _ _ _ => rfl, h0 w2 hw⟩⟩) ?_ ?_
 ·intro i hi b a w ⟨hC, hI⟩ hbi _ hready hclosed
  have hil : i < l.length := by omega
  have ho : l.toArray[i]? = some l[i] := by simp [hil]
  have hC' : C (upd b i) := by
   intro d o hod hd e he hb
   by_cases ed : d = i
   ·subst ed
    have := hready o hod e he hb
    by_cases ee : e.on = d
    ·rw [ee, upd_self]
    ·rw [upd_ne ee]; exact this
   ·rw [upd_ne ed] at hd
    have := hC d o hod hd e he hb
    by_cases ee : e.on = i
    ·rw [ee, upd_self]
    ·rw [upd_ne ee]; exact this
  have hmask := mask_done hD hclosed (i + 1) i (by omega) hi hready
  rcases hI with ⟨hfree, hI⟩ | ⟨k, hk, hkl, hbk, hlist⟩
  ·rcases Nat.lt_or_ge i n with hin | hin
   ·have := hs i l[i] hin (by simp [hil]) b a w hI hbi (fun j hj => hmask j ((hbits i hi).1 j hj).2 ((hbits i hi).1 j hj).1) (fun d hd hdi => by
     cases hbd : b d with
     |false => rfl
     |true =>
      exfalso
      have hdl : d < l.length := by omega
      have := mask_done hD hclosed (d + 1) d (by omega) (by simpa using hdl) (fun o ho e he hb => hclosed d o ho hbd e he hb) i hi ((hbits d (by simpa using hdl)).1 i hdi).1
      rw [hbi] at this; cases this)
    unfold wpOp
    rw [ho]
    simp only [wpList] at this
    have up : ∀ a' w', I (upd b i) a' w' → J (upd b i) a' w' := fun a' w' h => ⟨hC', .inl ⟨fun d hd hdl => by rw [upd_ne (by omega)]; exact hfree d hd hdl, h⟩⟩
    split at this
    ·rename_i hw
     simp only [hw, if_true]
     exact this.imp (Oper.wp_mono up) (fun x => x)
    ·rename_i hw
     simp only [hw, if_false]
     exact up _ _ this
   ·have hall : ∀ j, j < i → b j = true := fun j hj => hmask j (by omega) ((hbits i hi).2 hin j hj)
    have hine : i = n := by
     rcases Nat.lt_or_ge n i with h1 | h1
     ·have := hall n h1
      rw [hfree n (Nat.le_refl _) (by omega)] at this; cases this
     ·omega
    subst hine
    have hl := hend b a w hall hI
    rw [List.drop_eq_getElem_cons hil] at hl
    have hbk : ∀ d, d < l.length → (upd b i d = true ↔ d < i + 1) := by
     intro d hd
     by_cases ed : d = i
     ·subst ed; simp [upd_self]
     ·rw [upd_ne ed]
      rcases Nat.lt_or_ge d i with h1 | h1
      ·simp [hall d h1]; omega
      ·rw [hfree d h1 hd]; simp; omega
    have up : ∀ a' w', wpList P l.toArray Q (l.drop (i + 1)) a' w' → J (upd b i) a' w' := fun a' w' h => ⟨hC', .inr ⟨i + 1, by omega, by omega, hbk, h⟩⟩
    unfold wpOp
    rw [ho]
    simp only [wpList] at hl
    split at hl
    ·rename_i hw
     simp only [hw, if_true]
     exact hl.imp (Oper.wp_mono up) (fun x => x)
    ·rename_i hw
     simp only [hw, if_false]
     exact up _ _ hl
  ·have hki : k ≤ i := by
    rcases Nat.lt_or_ge i k with h1 | h1
    ·have := (hbk i hil).2 h1
     rw [hbi] at this; cases this
    ·exact h1
   have hall : ∀ j, j < i → b j = true := fun j hj => hmask j (by omega) ((hbits i hi).2 (by omega) j hj)
   have hke : i = k := by
    rcases Nat.lt_or_ge k i with h1 | h1
    ·have := (hbk k (by omega)).1 (hall k h1); omega
    ·omega
   subst hke
   rw [List.drop_eq_getElem_cons hil] at hlist
   have hbk' : ∀ d, d < l.length → (upd b i d = true ↔ d < i + 1) := by
    intro d hd
    by_cases ed : d = i
    ·subst ed; simp [upd_self]
    ·rw [upd_ne ed, hbk d hd]; omega
   have up : ∀ a' w', wpList P l.toArray Q (l.drop (i + 1)) a' w' → J (upd b i) a' w' := fun a' w' h => ⟨hC', .inr ⟨i + 1, by omega, by omega, hbk', h⟩⟩
   unfold wpOp
   rw [ho]
   simp only [wpList] at hlist
   split at hlist
   ·rename_i hw
    simp only [hw, if_true]
    exact hlist.imp (Oper.wp_mono up) (fun x => x)
   ·rename_i hw
    simp only [hw, if_false]
    exact up _ _ hlist
 ·intro b a w hall ⟨_, hI⟩
  rcases hI with ⟨hfree, hI⟩ | ⟨k, hk, hkl, hbk, hlist⟩
  ·have hnl : n = l.length := by
    rcases Nat.lt_or_ge n l.length with h1 | h1
    ·have := hall n (by omega)
     rw [hfree n (Nat.le_refl _) h1] at this; cases this
    ·omega
   have := hend b a w (fun i hi => hall i (by omega)) hI
   rw [hnl, List.drop_length] at this
   exact this
  ·have hkl2 : k = l.length := by
    rcases Nat.lt_or_ge k l.length with h1 | h1
    ·have := (hbk k h1).1 (hall k (by omega)); omega
    ·omega
   rw [hkl2, List.drop_length] at hlist
   exact hlist
def sel (c : Bool) (v : Value) : Value := if c = true then v else undef
theorem sel_true (v : Value) : sel true v = v := rfl
theorem sel_self (b : Nat → Bool) (i : Nat) (v : Value) : sel (upd b i i) v = v := by rw [upd_self]; rfl
theorem sel_ne (b : Nat → Bool) (i j : Nat) (v : Value) (h : j ≠ i) : sel (upd b i j) v = sel (b j) v := by rw [upd_ne h]
def flat47 : List S47 → List Value
 | [] => []
 |s :: l => .int .i64 s.f0 :: .int .i64 s.f1 :: flat47 l
def flat27 : List S27 → List Value
 | [] => []
 |s :: l => .int .i64 s.f0 :: .int .i64 s.f1 :: flat27 l
theorem flat47_length (l : List S47) : (flat47 l).length = l.length * 2 := by
 induction l with
 |nil => rfl
 |cons s l ih => simp [flat47, ih]; omega
theorem flat27_length (l : List S27) : (flat27 l).length = l.length * 2 := by
 induction l with
 |nil => rfl
 |cons s l ih => simp [flat27, ih]; omega
theorem flat27_append (l m : List S27) : flat27 (l ++ m) = flat27 l ++ flat27 m := by
 induction l with
 |nil => rfl
 |cons s l ih => simp [flat27, ih]
theorem flat47_get (l : List S47) (j : Nat) (h : j < l.length) : (flat47 l)[j * 2]? = some (.int .i64 l[j].f0) ∧ (flat47 l)[j * 2 + 1]? = some (.int .i64 l[j].f1) := by
 induction l generalizing j with
 |nil => simp at h
 |cons s l ih =>
  cases j with
  |zero => simp [flat47]
  |succ j =>
   have := ih j (by simpa using h)
   simp only [flat47, show (j + 1) * 2 = j * 2 + 1 + 1 from by omega, List.getElem?_cons_succ, List.getElem_cons_succ]
   exact this
theorem flat27_get (l : List S27) (j : Nat) (h : j < l.length) : (flat27 l)[j * 2]? = some (.int .i64 l[j].f0) ∧ (flat27 l)[j * 2 + 1]? = some (.int .i64 l[j].f1) := by
 induction l generalizing j with
 |nil => simp at h
 |cons s l ih =>
  cases j with
  |zero => simp [flat27]
  |succ j =>
   have := ih j (by simpa using h)
   simp only [flat27, show (j + 1) * 2 = j * 2 + 1 + 1 from by omega, List.getElem?_cons_succ, List.getElem_cons_succ]
   exact this
theorem flat47_set (l : List S47) (j : Nat) (m : S47) : flat47 (l.set j m) = ((flat47 l).set (j * 2) (.int .i64 m.f0)).set (j * 2 + 1) (.int .i64 m.f1) := by
 induction l generalizing j with
 |nil => simp [flat47]
 |cons s l ih =>
  cases j with
  |zero => simp [flat47]
  |succ j =>
   simp only [List.set_cons_succ, flat47, show (j + 1) * 2 = j * 2 + 1 + 1 from by omega]
   rw [ih j]
theorem reps47 {w : World} {xs : List S47} {cs : List Value} (h : Reps (k47.K w) 2 xs cs) : cs = flat47 xs := by
 induction xs generalizing cs with
 |nil => exact List.eq_nil_of_length_eq_zero (by simpa using h.1)
 |cons x xs ih =>
  have h0 := k47_open (h.2 0 x rfl)
  have hl := h.1
  match cs, hl with
  |a :: b :: cs, hl =>
   simp at h0
   obtain ⟨rfl, rfl⟩ := h0
   simp only [flat47, List.cons.injEq, true_and]
   refine ih ⟨by simp at hl; omega, fun j p hj => ?_⟩
   have := h.2 (j + 1) p (by simpa using hj)
   rw [show (j + 1) * 2 = j * 2 + 1 + 1 from by omega] at this
   simpa using this
  | [], hl => simp at hl
  | [a], hl => simp at hl; omega
theorem reps27 {w : World} {xs : List S27} {cs : List Value} (h : Reps (k27.K w) 2 xs cs) : cs = flat27 xs := by
 induction xs generalizing cs with
 |nil => exact List.eq_nil_of_length_eq_zero (by simpa using h.1)
 |cons x xs ih =>
  have h0 := k27_open (h.2 0 x rfl)
  have hl := h.1
  match cs, hl with
  |a :: b :: cs, hl =>
   simp at h0
   obtain ⟨rfl, rfl⟩ := h0
   simp only [flat27, List.cons.injEq, true_and]
   refine ih ⟨by simp at hl; omega, fun j p hj => ?_⟩
   have := h.2 (j + 1) p (by simpa using hj)
   rw [show (j + 1) * 2 = j * 2 + 1 + 1 from by omega] at this
   simpa using this
  | [], hl => simp at hl
  | [a], hl => simp at hl; omega
theorem repsOf47 (w : World) (xs : List S47) : Reps (k47.K w) 2 xs (flat47 xs) := by
 induction xs with
 |nil => exact Reps.none _ _
 |cons x xs ih =>
  have h1 : Reps (k47.K w) 2 [x] [.int .i64 x.f0, .int .i64 x.f1] := by
   have := (Reps.none (k47.K w) 2).snoc (k47_mk w x) rfl
   simpa using this
  have := Kd.reps_append h1 ih
  simpa [flat47] using this
theorem repsOf27 (w : World) (xs : List S27) : Reps (k27.K w) 2 xs (flat27 xs) := by
 induction xs with
 |nil => exact Reps.none _ _
 |cons x xs ih =>
  have h1 : Reps (k27.K w) 2 [x] [.int .i64 x.f0, .int .i64 x.f1] := by
   have := (Reps.none (k27.K w) 2).snoc (k27_mk w x) rfl
   simpa using this
  have := Kd.reps_append h1 ih
  simpa [flat27] using this
theorem own47_F {w : World} {base n : Nat} {v : Value} {xs : List S47} (h : w.ownsRow base 47 2 v n (flat47 xs)) : ∃ A c, v = .slice A n c ∧ n = xs.length ∧ n ≤ c ∧ Kd.F k47 w (fun k => some k = v.ownBlock) A xs.length xs := by
 have hn : n = xs.length := by have := h.1; rw [flat47_length] at this; omega
 have hR : Kd.R k47 47 w base (fun k => some k = v.ownBlock) v xs := ⟨fun k hk => hk.symm, flat47 xs, by rw [← hn]; exact h, repsOf47 w xs⟩
 obtain ⟨A, c, rfl, hle, _⟩ := Kd.R_reads hR
 exact ⟨A, c, by rw [hn], hn, by omega, by have := Kd.R_F hR; simpa using this⟩
theorem own27_F {w : World} {base n : Nat} {v : Value} {xs : List S27} (h : w.ownsRow base 27 2 v n (flat27 xs)) : ∃ A c, v = .slice A n c ∧ n = xs.length ∧ n ≤ c ∧ Kd.F k27 w (fun k => some k = v.ownBlock) A xs.length xs := by
 have hn : n = xs.length := by have := h.1; rw [flat27_length] at this; omega
 have hR : Kd.R k27 27 w base (fun k => some k = v.ownBlock) v xs := ⟨fun k hk => hk.symm, flat27 xs, by rw [← hn]; exact h, repsOf27 w xs⟩
 obtain ⟨A, c, rfl, hle, _⟩ := Kd.R_reads hR
 exact ⟨A, c, by rw [hn], hn, by omega, by have := Kd.R_F hR; simpa using this⟩
end Go.Proofs.YtfijblhfgfefoaaGreatDoor.Rv
end
