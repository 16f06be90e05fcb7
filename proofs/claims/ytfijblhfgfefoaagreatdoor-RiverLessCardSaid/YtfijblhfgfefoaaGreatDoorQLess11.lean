/- A part of the proof: words, contracts of functions, and their walks. -/
import Derived.Test.YtfijblhfgfefoaaGreatDoorQLess3
import Derived.Test.YtfijblhfgfefoaaGreatDoorQLess10
set_option linter.unusedVariables false
set_option linter.unusedSimpArgs false
section
namespace Go.Proofs.YtfijblhfgfefoaaGreatDoor.Rv
open Go.RowKit Go.Shelf Go.IntWalk Go.Proofs.YtfijblhfgfefoaaGreatDoor.PAll Go.Proofs.YtfijblhfgfefoaaGreatDoorW.PrintWords Go.Proofs.YtfijblhfgfefoaaGreatDoorW.PrintLast
def narrowRow (off : Int) : List S47 → Nat → List Int → Option (List S47)
 |row, _, [] => some row
 |row, j, n :: ns => if mx (row.getD j z47).f0 (n - off) ≤ mn (row.getD j z47).f1 (n + off) then narrowRow off (row.set j ⟨mx (row.getD j z47).f0 (n - off), mn (row.getD j z47).f1 (n + off)⟩) (j + 1) ns else none
theorem narrowRow_length (off : Int) : ∀ (ns : List Int) (row row' : List S47) (j : Nat), narrowRow off row j ns = some row' → row'.length = row.length
 | [], row, row', j, h => by simp [narrowRow] at h; rw [h]
 |n :: ns, row, row', j, h => by
  simp only [narrowRow] at h
  split at h
  ·rw [narrowRow_length off ns _ _ _ h]; simp
  ·cases h
theorem six (w : World) (o4 o5 o6 o7 o8 o9 : Obj) : ∃ (p4 p5 p6 p7 p8 p9 : Nat) (w1 : World), p4 = w.heap.size ∧ p5 = w.heap.size + 1 ∧ p6 = w.heap.size + 1 + 1 ∧ p7 = w.heap.size + 1 + 1 + 1 ∧ p8 = w.heap.size + 1 + 1 + 1 + 1 ∧ p9 = w.heap.size + 1 + 1 + 1 + 1 + 1 ∧
 w1 = (((((w.alloc o4).alloc o5).alloc o6).alloc o7).alloc o8).alloc o9 ∧ Below w.heap.size w w1 ∧ w1.heap[p4]? = some o4 ∧ w1.heap[p5]? = some o5 ∧ w1.heap[p6]? = some o6 ∧ w1.heap[p7]? = some o7 ∧ w1.heap[p8]? = some o8 ∧ w1.heap[p9]? = some o9 := by
 refine ⟨_, _, _, _, _, _, _, rfl, rfl, rfl, rfl, rfl, rfl, rfl, bl0, ?_, ?_, ?_, ?_, ?_, ?_⟩
 ·iterate 5 refine blk_alloc ?_ _
  exact blk_new _ _
 ·iterate 4 refine blk_alloc ?_ _
  have h := blk_new (w.alloc o4) o5
  simpa only [World.size_alloc] using h
 ·iterate 3 refine blk_alloc ?_ _
  have h := blk_new ((w.alloc o4).alloc o5) o6
  simpa only [World.size_alloc] using h
 ·iterate 2 refine blk_alloc ?_ _
  have h := blk_new (((w.alloc o4).alloc o5).alloc o6) o7
  simpa only [World.size_alloc] using h
 ·refine blk_alloc ?_ _
  have h := blk_new ((((w.alloc o4).alloc o5).alloc o6).alloc o7) o8
  simpa only [World.size_alloc] using h
 ·have h := blk_new (((((w.alloc o4).alloc o5).alloc o6).alloc o7).alloc o8) o9
  simpa only [World.size_alloc] using h
def wA (years : Int) (A1 : Option Addr) (n1 c1 : Nat) (V2 V3 : Value) (AO : Option Addr) (nO cO : Nat) (AW : Option Addr) (nW cW : Nat) (AR : Option Addr) (nR cR : Nat) (offR r y : Int) (p4 p5 p6 p7 p8 p9 : Nat) (v10 v11 v12 v17 v18 v19 v20 v21 : Value) : Act :=
 { tmps := #[.agg #[.int .i64 years, .slice A1 n1 c1, V2, V3], .agg #[.slice AO nO cO, .slice AW nW cW], .agg #[.slice AR nR cR, .int .i64 offR], .agg #[.int .i64 r, .int .i64 y], (.pointer (some { block := p4, off := 0 })), (.pointer (some { block := p5, off := 0 })), (.pointer (some { block := p6, off := 0 })), (.pointer (some { block := p7, off := 0 })), (.pointer (some { block := p8, off := 0 })), (.pointer (some { block := p9, off := 0 })), v10, v11, v12, undef, undef, undef, .func (.func 179) #[] #[(.pointer (some { block := p8, off := 0 })), (.pointer (some { block := p9, off := 0 }))], v17, v18, v19, v20, v21, undef, undef, undef, undef, undef, undef, undef, undef, undef, undef, undef, undef, undef, undef, undef, undef, undef, undef, undef, undef, undef, undef, undef, undef, undef, undef, undef, undef, undef, undef, undef, undef, undef, undef, undef, undef, undef, undef, undef, undef, undef, undef, undef, undef, undef, undef, undef, undef, undef, undef, undef, undef, undef, undef, undef, undef, undef, undef, undef, undef, undef, undef, undef, undef, undef, undef, undef, undef, undef, undef, undef, undef, undef], defers := [{ target := .fn (.func 179) #[(.pointer (some { block := p8, off := 0 })), (.pointer (some { block := p9, off := 0 }))], args := #[] }] }
structure Fr (w W : World) (p4 p5 p6 p7 p8 p9 : Nat) (a4 a5 a6 a7 : Array Value) (v80 v81 : Value) : Prop where
 b : Below w.heap.size w W
 lo : w.heap.size ≤ p4 ∧ w.heap.size ≤ p5 ∧ w.heap.size ≤ p6 ∧ w.heap.size ≤ p7 ∧ w.heap.size ≤ p8 ∧ w.heap.size ≤ p9
 ne : p4 ≠ p8 ∧ p5 ≠ p8 ∧ p6 ≠ p8 ∧ p7 ≠ p8 ∧ p9 ≠ p8
 h4 : W.heap[p4]? = some (.cells a4 138 (0, 0))
 h5 : W.heap[p5]? = some (.cells a5 149 (0, 0))
 h6 : W.heap[p6]? = some (.cells a6 45 (0, 0))
 h7 : W.heap[p7]? = some (.cells a7 27 (0, 0))
 h8 : W.heap[p8]? = some (.cells #[v80, v81] 149 (0, 0))
 h9 : W.heap[p9]? = some (.cells #[.bool false] 4 (0, 0))
theorem Fr.step {w W W' : World} {p4 p5 p6 p7 p8 p9 : Nat} {a4 a5 a6 a7 : Array Value} {v80 v81 : Value} (h : Fr w W p4 p5 p6 p7 p8 p9 a4 a5 a6 a7 v80 v81) (hB : Below W.heap.size W W') : Fr w W' p4 p5 p6 p7 p8 p9 a4 a5 a6 a7 v80 v81 :=
 ⟨bt h.b hB, h.lo, h.ne, blk_below h.h4 hB, blk_below h.h5 hB, blk_below h.h6 hB, blk_below h.h7 hB, blk_below h.h8 hB, blk_below h.h9 hB⟩
theorem Fr.set0 {w W : World} {p4 p5 p6 p7 p8 p9 : Nat} {a4 a5 a6 a7 : Array Value} {v80 v81 : Value} (h : Fr w W p4 p5 p6 p7 p8 p9 a4 a5 a6 a7 v80 v81) (u : Value) : Fr w (W.setCell ⟨p8, 0, none⟩ u) p4 p5 p6 p7 p8 p9 a4 a5 a6 a7 u v81 :=
 ⟨h.b.setCell (p := ⟨p8, 0, none⟩) h.lo.2.2.2.2.1 _, h.lo, h.ne, blk_far h.h4 (p := ⟨p8, 0, none⟩) h.ne.1 _, blk_far h.h5 (p := ⟨p8, 0, none⟩) h.ne.2.1 _, blk_far h.h6 (p := ⟨p8, 0, none⟩) h.ne.2.2.1 _, blk_far h.h7 (p := ⟨p8, 0, none⟩) h.ne.2.2.2.1 _, blk_put h.h8 0 _ rfl, blk_far h.h9 (p := ⟨p8, 0, none⟩) h.ne.2.2.2.2 _⟩
theorem Fr.set1 {w W : World} {p4 p5 p6 p7 p8 p9 : Nat} {a4 a5 a6 a7 : Array Value} {v80 v81 : Value} (h : Fr w W p4 p5 p6 p7 p8 p9 a4 a5 a6 a7 v80 v81) (u : Value) : Fr w (W.setCell ⟨p8, 1, none⟩ u) p4 p5 p6 p7 p8 p9 a4 a5 a6 a7 v80 u :=
 ⟨h.b.setCell (p := ⟨p8, 1, none⟩) h.lo.2.2.2.2.1 _, h.lo, h.ne, blk_far h.h4 (p := ⟨p8, 1, none⟩) h.ne.1 _, blk_far h.h5 (p := ⟨p8, 1, none⟩) h.ne.2.1 _, blk_far h.h6 (p := ⟨p8, 1, none⟩) h.ne.2.2.1 _, blk_far h.h7 (p := ⟨p8, 1, none⟩) h.ne.2.2.2.1 _, blk_put h.h8 1 _ rfl, blk_far h.h9 (p := ⟨p8, 1, none⟩) h.ne.2.2.2.2 _⟩
theorem Fr.far {w W : World} {p4 p5 p6 p7 p8 p9 : Nat} {a4 a5 a6 a7 : Array Value} {v80 v81 : Value} (h : Fr w W p4 p5 p6 p7 p8 p9 a4 a5 a6 a7 v80 v81) (p : Addr) (hp : w.heap.size ≤ p.block) (hn : p4 ≠ p.block ∧ p5 ≠ p.block ∧ p6 ≠ p.block ∧ p7 ≠ p.block ∧ p8 ≠ p.block ∧ p9 ≠ p.block) (u : Value) : Fr w (W.setCell p u) p4 p5 p6 p7 p8 p9 a4 a5 a6 a7 v80 v81 :=
 ⟨h.b.setCell hp _, h.lo, h.ne, blk_far h.h4 hn.1 _, blk_far h.h5 hn.2.1 _, blk_far h.h6 hn.2.2.1 _, blk_far h.h7 hn.2.2.2.1 _, blk_far h.h8 hn.2.2.2.2.1 _, blk_far h.h9 hn.2.2.2.2.2 _⟩
structure WLoop (w wr : World) (p4 p5 p6 p7 p8 p9 : Nat) (a4 a5 a6 a7 : Array Value) (v80 v81 : Value) (nO nW : Nat) (cO cW : List Value) (g c m : Nat) (off : Int) (f : Nat) (ns : List Int) (row0 : List S47) (k : Nat) (row : List S47) : Prop where
 fr : Fr w wr p4 p5 p6 p7 p8 p9 a4 a5 a6 a7 v80 v81
 o22 : wr.ownsRow w.heap.size 27 2 v80 nO cO
 o26 : wr.ownsRow w.heap.size 41 1 v81 nW cW
 o34 : wr.ownsRow w.heap.size 47 2 (.slice (some ⟨g, 0, none⟩) m c) m (flat47 row)
 len : row.length = m
 nar : narrowRow off row (f + k) (ns.drop k) = narrowRow off row0 f ns
theorem WLoop.step {w wr W' : World} {p4 p5 p6 p7 p8 p9 : Nat} {a4 a5 a6 a7 : Array Value} {v80 v81 : Value} {nO nW : Nat} {cO cW : List Value} {g c m : Nat} {off : Int} {f : Nat} {ns : List Int} {row0 : List S47} {k : Nat} {row : List S47}
 (h : WLoop w wr p4 p5 p6 p7 p8 p9 a4 a5 a6 a7 v80 v81 nO nW cO cW g c m off f ns row0 k row) (hB : Below wr.heap.size wr W') : WLoop w W' p4 p5 p6 p7 p8 p9 a4 a5 a6 a7 v80 v81 nO nW cO cW g c m off f ns row0 k row :=
 ⟨h.fr.step hB, pw_own_below h.o22 hB, pw_own_below h.o26 hB, pw_own_below h.o34 hB, h.len, h.nar⟩
theorem WLoop.store {w wr : World} {p4 p5 p6 p7 p8 p9 : Nat} {a4 a5 a6 a7 : Array Value} {v80 v81 : Value} {nO nW : Nat} {cO cW : List Value} {g c m : Nat} {off : Int} {f : Nat} {ns : List Int} {row0 : List S47} {k : Nat} {row : List S47}
 (h : WLoop w wr p4 p5 p6 p7 p8 p9 a4 a5 a6 a7 v80 v81 nO nW cO cW g c m off f ns row0 k row) (s : S47) (x : Int) (hk : ns[k]? = some x) (hs : meetLo (row.getD (f + k) z47) ⟨x - off, x + off⟩ = s.f0 ∧ meetHi (row.getD (f + k) z47) ⟨x - off, x + off⟩ = s.f1) (hle : s.f0 ≤ s.f1) :
 WLoop w ((wr.setCell ⟨g, (f + k) * 2, none⟩ (.int .i64 s.f0)).setCell ⟨g, (f + k) * 2 + 1, none⟩ (.int .i64 s.f1)) p4 p5 p6 p7 p8 p9 a4 a5 a6 a7 v80 v81 nO nW cO cW g c m off f ns row0 (k + 1) (row.set (f + k) s) := by
 have hg : w.heap.size ≤ g := own_base h.o34 g rfl
 have n4 : some p4 ≠ some g := own_ne h.o34 h.fr.h4 (by decide)
 have n5 : some p5 ≠ some g := own_ne h.o34 h.fr.h5 (by decide)
 have n6 : some p6 ≠ some g := own_ne h.o34 h.fr.h6 (by decide)
 have n7 : some p7 ≠ some g := own_ne h.o34 h.fr.h7 (by decide)
 have n8 : some p8 ≠ some g := own_ne h.o34 h.fr.h8 (by decide)
 have n9 : some p9 ≠ some g := own_ne h.o34 h.fr.h9 (by decide)
 have nO : some g ≠ v80.ownBlock := fun e => by
  obtain ⟨cells, hc⟩ := own_typed h.o22 g e.symm
  exact own_ne h.o34 hc (by decide) rfl
 have nW : some g ≠ v81.ownBlock := fun e => by
  obtain ⟨cells, hc⟩ := own_typed h.o26 g e.symm
  exact own_ne h.o34 hc (by decide) rfl
 have hne : p4 ≠ g ∧ p5 ≠ g ∧ p6 ≠ g ∧ p7 ≠ g ∧ p8 ≠ g ∧ p9 ≠ g := ⟨fun e => n4 (by rw [e]), fun e => n5 (by rw [e]), fun e => n6 (by rw [e]), fun e => n7 (by rw [e]), fun e => n8 (by rw [e]), fun e => n9 (by rw [e])⟩
 refine ⟨(h.fr.far ⟨g, (f + k) * 2, none⟩ hg hne _).far ⟨g, (f + k) * 2 + 1, none⟩ hg hne _, own_setCell (own_setCell h.o22 (p := ⟨g, (f + k) * 2, none⟩) nO _) (p := ⟨g, (f + k) * 2 + 1, none⟩) nO _, own_setCell (own_setCell h.o26 (p := ⟨g, (f + k) * 2, none⟩) nW _) (p := ⟨g, (f + k) * 2 + 1, none⟩) nW _, own47_set h.o34 _ _, by simpa using h.len, ?_⟩
 rw [← h.nar]
 have hd : ns.drop k = x :: ns.drop (k + 1) := by
  obtain ⟨hlt, rfl⟩ := List.getElem?_eq_some_iff.1 hk
  exact List.drop_eq_getElem_cons hlt
 rw [hd]
 simp only [narrowRow]
 obtain ⟨h1, h2⟩ := hs
 unfold meetLo at h1
 unfold meetHi at h2
 rw [h1, h2, if_pos hle]
 rfl
theorem WLoop.fails {w wr : World} {p4 p5 p6 p7 p8 p9 : Nat} {a4 a5 a6 a7 : Array Value} {v80 v81 : Value} {nO nW : Nat} {cO cW : List Value} {g c m : Nat} {off : Int} {f : Nat} {ns : List Int} {row0 : List S47} {k : Nat} {row : List S47}
 (h : WLoop w wr p4 p5 p6 p7 p8 p9 a4 a5 a6 a7 v80 v81 nO nW cO cW g c m off f ns row0 k row) (x : Int) (hk : ns[k]? = some x) (hlt : meetHi (row.getD (f + k) z47) ⟨x - off, x + off⟩ < meetLo (row.getD (f + k) z47) ⟨x - off, x + off⟩) : narrowRow off row0 f ns = none := by
 rw [← h.nar]
 have hd : ns.drop k = x :: ns.drop (k + 1) := by
  obtain ⟨hl, rfl⟩ := List.getElem?_eq_some_iff.1 hk
  exact List.drop_eq_getElem_cons hl
 rw [hd]
 simp only [narrowRow]
 unfold meetLo meetHi at hlt
 dsimp only at hlt
 rw [if_neg (by have := hlt; omega)]
structure RMem (w0 W : World) (s0 s1 : S47) (b18 b19 b20 : Bool) (u18 u19 u20 : Value) : Prop where
 b : Below w0.heap.size w0 W
 m18 : b18 = true → ∃ g, u18 = .slice (some ⟨g, 0, none⟩) 2 2 ∧ W.heap[g]? = some (.cells #[.int .i64 s0.f0, .int .i64 s0.f1, .int .i64 s1.f0, .int .i64 s1.f1] 47 (0, 0))
 m19 : b19 = true → meetLo s0 s1 ≤ meetHi s0 s1 ∧ u19 = .agg #[.int .i64 (meetLo s0 s1), .int .i64 (meetHi s0 s1)]
 m20 : b20 = true → ∃ g, u20 = .pointer (some ⟨g, 0, none⟩) ∧ w0.heap.size ≤ g ∧ W.heap[g]? = some (.cells #[.int .i64 0, .int .i64 0] 47 (0, 0))
def WithR (R : Ending → World → Prop) (os : List S27) (ws : List (List S47)) (off : Int) (f : Nat) (r y : Int) (ns : List Int) (ok : Nat → Prop) (w : World) : Prop :=
 (narrowRow off (rd_L2 ws r) f ns = none → ∀ w', Below w.heap.size w w' → R (.returned (.tuple #[.agg #[.slice none 0 0, .slice none 0 0], .bool false])) w') ∧
 ∀ row, narrowRow off (rd_L2 ws r) f ns = some row → ∀ w', Below w.heap.size w w' → ∀ A c A' c', os.length + 1 ≤ c → ws.length ≤ c' → Kd.F k27 w' (fun k => w.heap.size ≤ k) A (os ++ [(⟨r, y⟩ : S27)]).length (os ++ [(⟨r, y⟩ : S27)]) → Kd.F (Kd.slice 47 k47) w' (fun k => ok k ∨ w.heap.size ≤ k) A' (ws.set r.toNat row).length (ws.set r.toNat row) →
  R (.returned (.tuple #[.agg #[.slice A (os ++ [(⟨r, y⟩ : S27)]).length c, .slice A' (ws.set r.toNat row).length c'], .bool true])) w'
theorem info27 : (Tryz.prog.info? 27).map (fun i => (i.zero, i.size, i.bytes)) = some (some (.agg #[.int .i64 0, .int .i64 0]), 2, 16) := by kernel_rfl
set_option maxRecDepth 100000 in
set_option maxHeartbeats 1000000 in
theorem with_t (years : Int) (A1 : Option Addr) (c1 n1 : Nat) (V2 V3 : Value) (AO AW AR : Option Addr) (cO nW cW nR cR : Nat) (offR r y : Int) (w : World) (R : Ending → World → Prop) (xo : List S27) (rivers : List S43) (ws : List (List S47)) (ns : List Int) (ok : Nat → Prop) (f : Nat)
 (hB : Kd.C k43 w A1 n1 rivers) (hO : Kd.C k27 w AO xo.length xo) (hW : Kd.F (Kd.slice 47 k47) w ok AW nW ws) (hR : (Kd.int .i64).C w AR nR ns)
 (hr0 : 0 ≤ r) (hr1 : r < n1) (hrw : r < nW) (hvary : 0 ≤ (rd_T43 rivers r).f1 ∧ (rd_T43 rivers r).f1 ≤ 1000) (hoff : 0 ≤ offR ∧ offR ≤ 1000) (hns : ∀ x ∈ ns, 0 ≤ x ∧ x ≤ 1000) (hf : y - nR + 1 = f) (hy : y < (rd_L2 ws r).length) (hnR1 : 1 ≤ nR) (hnR : nR ≤ 1000) (hnr : (rd_L2 ws r).length ≤ 1000) (hnW : nW ≤ 1000)
 (hnO : xo.length ≤ 1000) (hQ : WithR R xo ws ((rd_T43 rivers r).f1 + offR) f r y ns ok w) :
 Calls Tryz.prog 143 #[.agg #[.int .i64 years, .slice A1 n1 c1, V2, V3], .agg #[.slice AO xo.length cO, .slice AW nW cW], .agg #[.slice AR nR cR, .int .i64 offR], .agg #[.int .i64 r, .int .i64 y]] w R := by
 obtain ⟨cellsO, hRO, hRepsO⟩ := reps_cells hO
 obtain rfl := reps27 hRepsO
 clear hRepsO hO
 obtain ⟨cellsW, hRW, hPW⟩ := F_reps hW
 obtain ⟨adW, A0, c0, rfl, hcW, hlc, hC0⟩ := at_L2 (Kd.F_now hW) r hr0 hrw
 obtain ⟨cells0, hR0, hP0⟩ := reps_cells hC0
 obtain rfl := reps47 hP0
 obtain ⟨adB, A2, c2, rfl, _, hcB, _, _, _⟩ := at_T43 hB r hr0 hr1
 have hwr : IntKind.i64.wrap ((rd_T43 rivers r).f1 + offR) = (rd_T43 rivers r).f1 + offR := Go.IntWalk.i64_in _ (by first | omega | (have := HY.out; omega))
 have HWR := zk hwr
 obtain ⟨off, eoff⟩ : ∃ off, off = (rd_T43 rivers r).f1 + offR := ⟨_, rfl⟩
 have hoffb : 0 ≤ off ∧ off ≤ 2000 := by omega
 have HOFF := zk hoffb
 have EOFF := zk eoff
 clear hwr hoffb
 have HW := zk hW
 have HRW := zk hRW
 have HPW := zk hPW
 have HCW := zk hcW
 have HR0 := zk hR0
 have HCB := zk hcB
 obtain ⟨adR, rfl, _⟩ := Kd.at_int hR 0 (by omega) (by omega)
 have HRING := zk (fun (k : Nat) (hk : k < nR) => Kd.at_int hR k (by omega) (by omega))
 have HNL := zk (show ns.length = nR from hR.1)
 have HNS := zk hns
 have HQ := zk (eoff ▸ hQ)
 have HY := zk (And.intro hf (And.intro hy (And.intro hnR (And.intro hnr (And.intro hnW hnO)))))
 clear hW hRW hPW hcW hR0 hcB hR hB hP0 hC0 hns hQ hf hy hnR hnr hnW hnO eoff
 have hmf : ∀ (fn : Fn) (first cap : Array Value) (w : World), (Instr.makeFunc fn first cap).run Tryz.prog w = .ok (.func fn first cap) w := fun _ _ _ _ => rfl
 have HRO := zk hRO
 clear hRO
 have hu27 := Tryz.underlying27
 have hu149 := Tryz.underlying149
 have hu138 := Tryz.underlying138
 have hu45 := Tryz.underlying45
 go_enter_defers Tryz.func143, Tryz.ntmps143
 go_wp2
 obtain ⟨p4, p5, p6, p7, p8, p9, w1, e4, e5, e6, e7, e8, e9, ew, hB1, h4, h5, h6, h7, h8, h9⟩ := six w (.cells #[.int .i64 years, .slice (some adB) n1 c1, V2, V3] 138) (.cells #[.slice AO xo.length cO, .slice (some adW) nW cW] 149) (.cells #[.slice (some adR) nR cR, .int .i64 offR] 45) (.cells #[.int .i64 r, .int .i64 y] 27) (.cells #[.slice none 0 0, .slice none 0 0] 149) (.cells #[.bool false] 4)
 rw [← ew, ← e9, ← e8, ← e7, ← e6, ← e5, ← e4]
 have HB1 := zk hB1
 have H4 := zk h4
 have H5 := zk h5
 have H6 := zk h6
 have H7 := zk h7
 have H8 := zk h8
 have H9 := zk h9
 have FR := zk (show Fr w w1 p4 p5 p6 p7 p8 p9 _ _ _ _ _ _ from ⟨hB1, by omega, by omega, h4, h5, h6, h7, h8, h9⟩)
 have LO := zk (show w.heap.size ≤ p4 ∧ w.heap.size ≤ p5 ∧ w.heap.size ≤ p6 ∧ w.heap.size ≤ p7 ∧ w.heap.size ≤ p8 ∧ w.heap.size ≤ p9 from by omega)
 clear ew hB1 h4 h5 h6 h7 h8 h9 e4 e5 e6 e7 e8 e9
 refine region_head 5 [[], [0], [1], [], [3]] (fun b a W => ∃ v19 g21, a = wA years (some adB) n1 c1 V2 V3 AO xo.length cO (some adW) nW cW (some adR) nR cR offR r y p4 p5 p6 p7 p8 p9 undef undef undef (sel (b 0) (.pointer (some { block := p5, off := 0 }))) (sel (b 1) (.slice AO xo.length cO)) (sel (b 2) v19) (sel (b 3) (.agg #[.int .i64 r, .int .i64 y])) (sel (b 4) (.slice (some ⟨g21, 0, none⟩) 1 1)) ∧ Aside0 (Below w1.heap.size w1 W) ∧ Aside0 (b 2 = true → W.ownsRow w1.heap.size 27 2 v19 xo.length (flat27 xo)) ∧ Aside0 (b 4 = true → W.heap[g21]? = some (.cells #[.int .i64 r, .int .i64 y] 27 (0, 0)) ∧ w1.heap.size ≤ g21) ∧ Aside0 (b 2 = true → b 4 = true → some g21 ≠ v19.ownBlock)) (by kernel_rfl) (by kernel_rfl) (by decide) ?_ ?_ ?_
 ·intro w2 hw
  exact ⟨undef, 0, rfl, ⟨hw.below _⟩, ⟨fun h => by cases h⟩, ⟨fun h => by cases h⟩, ⟨fun h => by cases h⟩⟩
 ·intro i o hi ho b a W hI hb hd hq
  obtain ⟨v19, g21, rfl, HB, HO, HG, HN⟩ := hI
  replace hb := zk hb
  replace hd := zk hd
  replace hq := zk hq
  match i, hi with
  |0, _ =>
   cases ho
   unfold wA
   go_wp2
   exact ⟨v19, g21, rfl, HB, ⟨fun h => HO.out h⟩, ⟨fun h => HG.out h⟩, ⟨fun h h' => HN.out h h'⟩⟩
  |1, _ =>
   cases ho
   have h1 := zk (show b 0 = true from hd.out 0 (by decide))
   have HW := zk (blk_below H5.out HB.out)
   obtain ⟨c_p5_0, f_p5_0, c_p5_1, f_p5_1, l_p5⟩ := cl2 (W := W) (p := p5) (a := .slice AO xo.length cO) (b := .slice (some adW) nW cW) HW.out
   unfold wA
   simp only [h1.out, sel_true]
   go_wp2
   refine ⟨v19, g21, ?_, HB, ⟨fun h => HO.out h⟩, ⟨fun h => HG.out h⟩, ⟨fun h h' => HN.out h h'⟩⟩
   simp (discharger := decide) only [wA, sel_self, sel_ne, h1.out, sel_true]
  |2, _ =>
   cases ho
   have h1 := zk (show b 1 = true from hd.out 1 (by decide))
   have HR := zk ((HRO.out.below HB1.out).below HB.out)
   unfold wA
   simp only [h1.out, sel_true]
   go_wp2_with (go_at_call 180; (with_reducible refine (clone180 _ _ _ _ _ HR.out (by have := HY.out; omega)).mono ?_); rintro e w' ⟨v, rfl, hown, hB⟩)
   refine ⟨v, g21, ?_, ⟨bt HB.out hB⟩, ⟨fun _ => own_weaken hown HB.out.size⟩, ⟨fun h => ⟨blk_below (HG.out h).1 hB, (HG.out h).2⟩⟩, ⟨fun _ h h' => ?_⟩⟩
   ·simp (discharger := decide) only [wA, sel_self, sel_ne, h1.out, sel_true]
   ·have := own_base hown _ h'.symm
    have := blk_lt (HG.out h).1
    omega
  |3, _ =>
   cases ho
   have HW := zk (blk_below H7.out HB.out)
   obtain ⟨c_p7_0, f_p7_0, c_p7_1, f_p7_1, l_p7⟩ := cl2 (W := W) (p := p7) (a := .int .i64 r) (b := .int .i64 y) HW.out
   unfold wA
   go_wp2
   exact ⟨v19, g21, rfl, HB, ⟨fun h => HO.out h⟩, ⟨fun h => HG.out h⟩, ⟨fun h h' => HN.out h h'⟩⟩
  |4, _ =>
   cases ho
   have h1 := zk (show b 3 = true from hd.out 3 (by decide))
   unfold wA
   simp only [h1.out, sel_true]
   go_wp2
   refine ⟨v19, W.heap.size, ?_, ⟨bt HB.out (below1 _)⟩, ⟨fun h => pw_own_below (HO.out h) (below1 _)⟩, ⟨fun h => ⟨blk_new _ _, HB.out.size⟩⟩, ⟨fun h _ h' => ?_⟩⟩
   ·simp (discharger := decide) only [wA, sel_self, sel_ne, h1.out, sel_true]
   ·have := own_lt (HO.out h) _ h'.symm
    omega
 ·intro b a W hall hI
  obtain ⟨v19, g21, rfl, HB, HO, HG, HN⟩ := hI
  have b0 := hall 0 (by decide)
  have b1 := hall 1 (by decide)
  have b2 := hall 2 (by decide)
  have b3 := hall 3 (by decide)
  have b4 := hall 4 (by decide)
  clear hall
  unfold wA
  simp only [b0, b1, b2, b3, b4, sel_true]
  replace HO := zk (HO.out b2)
  replace HG := zk (HG.out b4)
  replace HN := zk (HN.out b2 b4)
  clear b0 b1 b2 b3 b4
  simp only [List.drop]
  have HG0 := zk HG.out.1
  obtain ⟨c_g21_0, f_g21_0, c_g21_1, f_g21_1, l_g21⟩ := cl2 (W := W) (p := g21) (a := .int .i64 r) (b := .int .i64 y) HG0.out
  obtain ⟨i0, hi, hzz⟩ := Option.map_eq_some_iff.1 info27
  simp only [Prod.mk.injEq] at hzz
  obtain ⟨hz0, hz1, hz2⟩ := hzz
  have HI := zk (And.intro hi (And.intro hz0 (And.intro hz1 hz2)))
  clear hi hz0 hz1 hz2
  have HC := zk (show ∀ (j : Nat) (u : Value), [Value.int .i64 r, Value.int .i64 y][j]? = some u → W.cell? ((⟨g21, 0, none⟩ : Addr).add j) = some u from fun j u hj => by
   rw [add_plain]
   match j, hj with
   |0, hj => cases hj; exact c_g21_0
   |1, hj => cases hj; exact c_g21_1)
  clear c_g21_0 f_g21_0 c_g21_1 f_g21_1 l_g21
  have H8W := zk (blk_below H8.out HB.out)
  refine wpList_append_own _ rfl (.tmp 19) (.tmp 21) 31 rfl w1.heap.size 27 i0 _ 2 16 Tryz.underlying31 HI.out.1 HI.out.2.1 HI.out.2.2.1 HI.out.2.2.2 rfl (by decide) _ xo.length (flat27 xo) rfl HO.out ⟨g21, 0, none⟩ 1 1 [.int .i64 r, .int .i64 y] rfl rfl HC.out (by intro u hu; simp at hu; rcases hu with rfl | rfl <;> rfl) (by have := HY.out; simp only [maxLen]; omega) (by have := HY.out; omega) HB.out.size ?_
  intro v22 W2 hown hg _
  have hB2 : Below w1.heap.size w1 W2 := HB.out.grown hg HB.out.size (own_base HO.out)
  have HO2 := zk (show W2.ownsRow w1.heap.size 27 2 v22 (xo.length + 1) (flat27 (xo ++ [⟨r, y⟩])) from by rw [flat27_append]; exact hown)
  clear hown hg HO HG HG0 HN HC H8W HI
  replace HB := zk hB2
  clear hB2
  have FR2 := zk (FR.out.step HB.out)
  clear H4 H5 H6 H7 H8 H9
  have h58 : p5 ≠ p8 := FR.out.ne.2.1
  have h85 : p8 ≠ p5 := h58.symm
  have h78 : p7 ≠ p8 := FR.out.ne.2.2.2.1
  have h87 : p8 ≠ p7 := h78.symm
  have H8W := zk FR2.out.h8
  have H5W := zk FR2.out.h5
  obtain ⟨c_p8_0, f_p8_0, c_p8_1, f_p8_1, l_p8⟩ := cl2 (W := W2) (p := p8) (a := .slice none 0 0) (b := .slice none 0 0) H8W.out
  obtain ⟨c_p5_0, f_p5_0, c_p5_1, f_p5_1, l_p5⟩ := cl2 (W := W2) (p := p5) (a := .slice AO xo.length cO) (b := .slice (some adW) nW cW) H5W.out
  obtain ⟨A22, c22, rfl⟩ := own_slice HO2.out
  have HO2' := zk (FR2.out.b.size)
  have hr2 : r < (nW : Int) := hrw
  go_wp2_with (first
   |(go_at_call 181
     (with_reducible refine (clone181 _ _ _ _ _ (HRW.out.below (FR2.out.set0 _).b) (by have := HY.out; omega)).mono ?_)
     rintro e W4 ⟨v26, rfl, hown26, hB4⟩
     have FR4 := zk ((FR2.out.set0 (.slice A22 (xo.length + 1) c22)).step hB4)
     have HO26 := zk hown26
     have H8V := zk FR4.out.h8
     have H5V := zk FR4.out.h5
     have H7V := zk FR4.out.h7
     clear c_p8_0 f_p8_0 c_p8_1 f_p8_1 l_p8 c_p5_0 f_p5_0 c_p5_1 f_p5_1 l_p5
     obtain ⟨c_p8_0, f_p8_0, c_p8_1, f_p8_1, l_p8⟩ := cl2 (W := W4) (p := p8) (a := .slice A22 (xo.length + 1) c22) (b := .slice none 0 0) H8V.out
     obtain ⟨c_p5_0, f_p5_0, c_p5_1, f_p5_1, l_p5⟩ := cl2 (W := W4) (p := p5) (a := .slice AO xo.length cO) (b := .slice (some adW) nW cW) H5V.out
     obtain ⟨c_p7_0, f_p7_0, c_p7_1, f_p7_1, l_p7⟩ := cl2 (W := W4) (p := p7) (a := .int .i64 r) (b := .int .i64 y) H7V.out
     have hcw : ∀ u, (W4.setCell ⟨p8, 1, none⟩ u).cell? (adW.add r.toNat) = some (.slice A0 (rd_L2 ws r).length c0) := fun u => pw_cell_below (FR4.out.set1 u).b HCW.out
     have HB4 := zk hB4
     obtain ⟨A26, c26, rfl⟩ := own_slice hown26
     clear hown26 hB4)
   |(go_at_call 88
     (with_reducible refine (clone88 _ _ _ _ _ (HR0.out.below (FR4.out.set1 _).b) (by have := HY.out; omega)).mono ?_)
     rintro e W6 ⟨v34, rfl, hown34, hB6⟩
     have FR6 := zk ((FR4.out.set1 (.slice A26 nW c26)).step hB6)
     have HO34 := zk hown34
     have HB6 := zk hB6
     have H4U := zk FR6.out.h4
     have H6U := zk FR6.out.h6
     have H7U := zk FR6.out.h7
     clear c_p8_0 f_p8_0 c_p8_1 f_p8_1 l_p8 c_p5_0 f_p5_0 c_p5_1 f_p5_1 l_p5 c_p7_0 f_p7_0 c_p7_1 f_p7_1 l_p7
     obtain ⟨c_p4_0, f_p4_0, c_p4_1, f_p4_1, c_p4_2, f_p4_2, c_p4_3, f_p4_3, l_p4⟩ := cl4 (W := W6) (p := p4) (a := .int .i64 years) (b := .slice (some adB) n1 c1) (c := V2) (d := V3) H4U.out
     obtain ⟨c_p6_0, f_p6_0, c_p6_1, f_p6_1, l_p6⟩ := cl2 (W := W6) (p := p6) (a := .slice (some adR) nR cR) (b := .int .i64 offR) H6U.out
     obtain ⟨c_p7_0, f_p7_0, c_p7_1, f_p7_1, l_p7⟩ := cl2 (W := W6) (p := p7) (a := .int .i64 r) (b := .int .i64 y) H7U.out
     have hcb : W6.cell? ⟨(adB.add (r.toNat * 3)).block, (adB.add (r.toNat * 3)).off + 1, none⟩ = some (.int .i64 (rd_T43 rivers r).f1) := pw_cell_below FR6.out.b HCB.out
     obtain ⟨A34, c34, rfl⟩ := own_slice hown34
     clear hown34 hB6 hcw))
  clear hvary hoff
  have hwr := HWR.out
  go_quiet (fail)
  clear hwr
  rw [← EOFF.out]
  have hy0 : y - nR + 1 = f := HY.out.1
  have hy1 : y < 1000 := by have := HY.out; omega
  have hn1 : (nR : Int) ≤ 1000 := by have := HY.out; omega
  go_wp2
  have hm0 : 0 < (rd_L2 ws r).length := by have := HY.out; omega
  obtain ⟨g, c, e34⟩ : ∃ g c, Value.slice A34 (rd_L2 ws r).length c34 = .slice (some ⟨g, 0, none⟩) (rd_L2 ws r).length c := by
   obtain ⟨g, c, h, _⟩ := HO34.out.form hm0
   exact ⟨g, c, h⟩
  cases e34
  have s8 : ∀ {W : World} {base e sz n : Nat} {v : Value} {cs : List Value} {cells : Array Value} (i : Nat) (u : Value), W.ownsRow base e sz v n cs → W.heap[p8]? = some (.cells cells 149 (0, 0)) → e ≠ 149 → (W.setCell ⟨p8, i, none⟩ u).ownsRow base e sz v n cs := fun i u h hb hne => own_setCell h (p := ⟨p8, i, none⟩) (own_ne h hb hne) u
  have HL := zk (show WLoop w (W6.drewN nq) p4 p5 p6 p7 p8 p9 _ _ _ _ _ _ _ _ _ _ g c34 _ off f ns (rd_L2 ws r) 0 (rd_L2 ws r) from
   ⟨FR6.out.step (pw_below_drewN (Below.refl _ _) _),
    pw_own_drewN (pw_own_below (s8 1 _ (pw_own_below (s8 0 _ (own_weaken HO2.out FR.out.b.size) FR2.out.h8 (by decide)) HB4.out) FR4.out.h8 (by decide)) HB6.out) _,
    pw_own_drewN (pw_own_below (s8 1 _ (own_weaken HO26.out (FR2.out.set0 _).b.size) FR4.out.h8 (by decide)) HB6.out) _,
    pw_own_drewN (own_weaken HO34.out (FR4.out.set1 _).b.size) _, rfl, by simp⟩)
  clear s8 H4U H6U H7U HB6 HO34 HO26 HO2 H8V H5V H7V FR6 FR4 HB4 FR2 hy0
  clear c_p4_0 f_p4_0 c_p4_1 f_p4_1 c_p4_2 f_p4_2 c_p4_3 f_p4_3 l_p4 c_p6_0 f_p6_0 c_p6_1 f_p6_1 l_p6 c_p7_0 f_p7_0 c_p7_1 f_p7_1 l_p7
  clear HCW HR0 HCB HO2' hcb HRW HRO HWR h58 h85 h78 h87 hu149 hu138 HB i0 hmf
  generalize W6.drewN nq = wL at HL ⊢
  have HP := zk (show ∀ (y' : Int) (tm : Array Value) (W : World) (a4 a5 a6 a7 : Array Value) (v80 v81 : Value), tm.getD 8 undef = (.pointer (some { block := p8, off := 0 })) → tm.getD 9 undef = (.pointer (some { block := p9, off := 0 })) → Fr w W p4 p5 p6 p7 p8 p9 a4 a5 a6 a7 v80 v81 → narrowRow off (rd_L2 ws r) f ns = none → Leaves Tryz.prog Tryz.f143 tm R [{ target := .fn (.func 179) #[(.pointer (some { block := p8, off := 0 })), (.pointer (some { block := p9, off := 0 }))], args := #[] }] (.panicking [{ v := .iface 245 (.agg #[.int .i64 r, .int .i64 y']), recovered := false }]) W from
   fun y' tm W a4 a5 a6 a7 v80 v81 t8 t9 hF hno => with_panics tm W p8 p9 _ _ _ r y' R t8 t9 hF.h8 hF.h9 fun W' hC => HQ.out.1 hno W' (hF.b.trans (hC.below (fun i hi => by have := hF.lo; omega) hF.b.size)))
  go_loopg [56] nR (fun gg v56 wr => ∃ (k : Nat) (row : List S47), k ≤ nR ∧ nR - k ≤ gg ∧ v56 = .int .i64 k ∧ Aside0 (WLoop w wr p4 p5 p6 p7 p8 p9 #[.int .i64 years, .slice (some adB) n1 c1, V2, V3] #[.slice AO xo.length cO, .slice (some adW) nW cW] #[.slice (some adR) nR cR, .int .i64 offR] #[.int .i64 r, .int .i64 y] (.slice A22 (xo.length + 1) c22) (.slice A26 nW c26) (xo.length + 1) nW (flat27 (xo ++ [⟨r, y⟩])) cellsW g c34 (rd_L2 ws r).length off f ns (rd_L2 ws r) k row))
  case atStart => exact ⟨0, _, by omega, by omega, rfl, HL⟩
  case round =>
   obtain ⟨k, row, hk, hgg, rfl, HI⟩ := hrel
   by_cases hlt : k < nR
   ·have hltz : decide ((k : Int) < nR) = true := by simp; omega
    obtain ⟨_, e, hring⟩ := HRING.out k hlt
    cases e
    obtain ⟨x, ex⟩ : ∃ x, x = rd ns k := ⟨_, rfl⟩
    have c_ring : wr.cell? (adR.add k) = some (.int .i64 x) := by have := pw_cell_below HI.out.fr.b hring; rw [ex]; simpa using this
    have hx0 : 0 ≤ x ∧ x ≤ 1000 := by
     have hkl : k < ns.length := by rw [HNL.out]; exact hlt
     refine HNS.out x ?_
     rw [ex, rd]
     simp only [Int.toNat_natCast, List.getD_eq_getElem?_getD, List.getElem?_eq_getElem hkl, Option.getD_some]
     exact List.getElem_mem hkl
    have EX := zk ex
    have HX := zk (show ns[k]? = some x from by
     have hkl : k < ns.length := by rw [HNL.out]; exact hlt
     rw [ex, rd]
     simp [hkl])
    clear ex
    have hfk : f + k < (rd_L2 ws r).length := by have := HY.out; omega
    clear hring
    go_wp2
    obtain ⟨s0, es0⟩ : ∃ s0, s0 = row.getD (f + k) z47 := ⟨_, rfl⟩
    have HS := zk es0
    clear es0
    have hwfk : IntKind.i64.wrap ((f : Int) + k) = (f : Int) + k := Go.IntWalk.i64_in _ (by first | omega | (have := HY.out; omega))
    have hwm : IntKind.i64.wrap (x - off) = x - off := Go.IntWalk.i64_in _ (by have := HOFF.out; omega)
    have hwp : IntKind.i64.wrap (x + off) = x + off := Go.IntWalk.i64_in _ (by have := HOFF.out; omega)
    refine region_lit (lit := ?lit) 21 [[],[0],[],[],[2,3],[],[],[],[6,7],[5,8],[9],[],[],[11,12],[],[],[14,15],[13,16],[10,17],[1,4,18],[]]
     [some (.pointer (some { block := p7, off := 0 })), some (.int .i64 r), some (.int .i64 f), some (.int .i64 k), some (.int .i64 (f + k)), some (.slice (some ⟨g, 0, none⟩) (rd_L2 ws r).length c34), some (.int .i64 f), some (.int .i64 k), some (.int .i64 (f + k)), some (.pointer (some ⟨g, (f + k) * 2, none⟩)), some (.agg #[.int .i64 s0.f0, .int .i64 s0.f1]), some (.int .i64 x), some (.int .i64 off), some (.int .i64 (x - off)), some (.int .i64 x), some (.int .i64 off), some (.int .i64 (x + off)), some (.agg #[.int .i64 (x - off), .int .i64 (x + off)]), none, none, none]
     (fun b u W => Aside0 (RMem wr W s0 ⟨x - off, x + off⟩ (b 18) (b 19) (b 20) (u 18) (u 19) (u 20))) ?hlit (by kernel_rfl) (by kernel_rfl) (by decide) ?_ ?_ ?_ ?_ ?_
    case hlit =>
     intro u
     simp only [List.take_succ_cons, List.take_zero, List.map_cons, List.map_nil, setAll, Nat.reduceAdd, Act.put, List.setIfInBounds_toArray, List.set_cons_succ, List.set_cons_zero]
     rfl
    ·intro u w2 hw
     exact zk ⟨hw.below _, fun h => (by cases h), fun h => (by cases h), fun h => (by cases h)⟩
    ·intro i v b u W hv h
     have h18 : (18 : Nat) ≠ i := by rintro rfl; cases hv
     have h19 : (19 : Nat) ≠ i := by rintro rfl; cases hv
     have h20 : (20 : Nat) ≠ i := by rintro rfl; cases hv
     rw [upd_ne h18, upd_ne h19, upd_ne h20, upf_ne h18, upf_ne h19, upf_ne h20]
     exact h
    ·intro i o v hi ho hv b u W hM _ hd
     have H7W := zk (blk_below HI.out.fr.h7 hM.out.b)
     obtain ⟨c_p7_0, f_p7_0, c_p7_1, f_p7_1, l_p7⟩ := cl2 (W := W) (p := p7) (a := .int .i64 r) (b := .int .i64 y) H7W.out
     obtain ⟨c_r0, c_r1, _, _⟩ := own47_at (pw_own_below HI.out.o34 hM.out.b) (f + k) (by rw [HI.out.len]; exact hfk)
     rw [← HS.out] at c_r0 c_r1
     clear H7W hM
     match i, hi with
     |0, _ =>
      cases ho
      cases zs hv
      clear hd hv
      go_wp2
      exact zt
     |1, _ =>
      cases ho
      cases zs hv
      have e0 := hd 0 _ (by decide) rfl
      clear hd hv
      go_wp2
      exact zt
     |2, _ =>
      cases ho
      cases zs hv
      clear hd hv
      go_wp2
      exact zt
     |3, _ =>
      cases ho
      cases zs hv
      clear hd hv
      go_wp2
      exact zt
     |4, _ =>
      cases ho
      cases zs hv
      have e2 := hd 2 _ (by decide) rfl
      have e3 := hd 3 _ (by decide) rfl
      clear hd hv
      go_wp2
      exact zt
     |5, _ =>
      cases ho
      cases zs hv
      clear hd hv
      go_wp2
      exact zt
     |6, _ =>
      cases ho
      cases zs hv
      clear hd hv
      go_wp2
      exact zt
     |7, _ =>
      cases ho
      cases zs hv
      clear hd hv
      go_wp2
      exact zt
     |8, _ =>
      cases ho
      cases zs hv
      have e6 := hd 6 _ (by decide) rfl
      have e7 := hd 7 _ (by decide) rfl
      clear hd hv
      go_wp2
      exact zt
     |9, _ =>
      cases ho
      cases zs hv
      have e5 := hd 5 _ (by decide) rfl
      have e8 := hd 8 _ (by decide) rfl
      clear hd hv
      go_wp2
      exact zt
     |10, _ =>
      cases ho
      cases zs hv
      have e9 := hd 9 _ (by decide) rfl
      clear hd hv
      go_wp2
      exact zt
     |11, _ =>
      cases ho
      cases zs hv
      clear hd hv
      go_wp2
      exact zt
     |12, _ =>
      cases ho
      cases zs hv
      clear hd hv
      go_wp2
      exact zt
     |13, _ =>
      cases ho
      cases zs hv
      have e11 := hd 11 _ (by decide) rfl
      have e12 := hd 12 _ (by decide) rfl
      clear hd hv
      go_wp2
      exact zt
     |14, _ =>
      cases ho
      cases zs hv
      clear hd hv
      go_wp2
      exact zt
     |15, _ =>
      cases ho
      cases zs hv
      clear hd hv
      go_wp2
      exact zt
     |16, _ =>
      cases ho
      cases zs hv
      have e14 := hd 14 _ (by decide) rfl
      have e15 := hd 15 _ (by decide) rfl
      clear hd hv
      go_wp2
      exact zt
     |17, _ =>
      cases ho
      cases zs hv
      have e13 := hd 13 _ (by decide) rfl
      have e16 := hd 16 _ (by decide) rfl
      clear hd hv
      go_wp2
      exact zt
     |18, _ =>
      cases hv
     |19, _ =>
      cases hv
     |20, _ =>
      cases hv
    ·intro i o hi ho hv b u W hM hb hdep hq hd
     match i, hi with
     |0, _ => cases hv
     |1, _ => cases hv
     |2, _ => cases hv
     |3, _ => cases hv
     |4, _ => cases hv
     |5, _ => cases hv
     |6, _ => cases hv
     |7, _ => cases hv
     |8, _ => cases hv
     |9, _ => cases hv
     |10, _ => cases hv
     |11, _ => cases hv
     |12, _ => cases hv
     |13, _ => cases hv
     |14, _ => cases hv
     |15, _ => cases hv
     |16, _ => cases hv
     |17, _ => cases hv
     |18, _ =>
      cases ho
      have e10 := hd 10 _ (by decide) rfl
      have e17 := hd 17 _ (by decide) rfl
      have h19 : b 19 = false := hq 19 (by decide) (by decide)
      replace h19 := zk h19
      clear hd hv hq hdep hb
      go_wp2
      refine ⟨_, rfl, zk ⟨bt hM.out.b (below1 _), fun _ => ⟨W.heap.size, upf_self _ _ _, blk_new _ _⟩, fun h => ?_, fun h => ?_⟩⟩
      ·have h' : b 19 = true := h
       rw [h19.out] at h'
       cases h'
      ·obtain ⟨g', e, hle, hb⟩ := hM.out.m20 h
       exact ⟨g', e, hle, blk_alloc hb _⟩
     |19, _ =>
      cases ho
      have e1 := hd 1 _ (by decide) rfl
      have e4 := hd 4 _ (by decide) rfl
      obtain ⟨g18, e18, hb18⟩ := hM.out.m18 (hdep 18 (by decide))
      have HC := zk (show ∀ k' : Nat, k' < 2 → W.cell? ⟨g18, k' * 2, none⟩ = some (.int .i64 (ab s0 ⟨x - off, x + off⟩ k').f0) ∧ W.cell? ⟨g18, k' * 2 + 1, none⟩ = some (.int .i64 (ab s0 ⟨x - off, x + off⟩ k').f1) from fun k' hk' => by
       match k', hk' with
       |0, _ => exact ⟨blk_cell hb18 0, blk_cell hb18 1⟩
       |1, _ => exact ⟨blk_cell hb18 2, blk_cell hb18 3⟩)
      replace hb18 := zk hb18
      clear hd hv hq hdep hb
      go_wp2_with (go_at_call 182; (with_reducible refine (narrow_calls _ _ _ _ _ _ _ HC.out).mono ?_); rintro e w' ⟨hB, ⟨hle, rfl⟩ | ⟨hlt', rfl⟩⟩)
      ·refine ⟨.agg #[.int .i64 (meetLo s0 ⟨x - off, x + off⟩), .int .i64 (meetHi s0 ⟨x - off, x + off⟩)], by simp [upf, e1, e4, e18], zk ⟨bt hM.out.b hB, fun _ => ⟨g18, e18, blk_below hb18.out hB⟩, fun _ => ⟨hle, upf_self _ _ _⟩, fun h => ?_⟩⟩
       obtain ⟨g', e, hle', hb⟩ := hM.out.m20 h
       exact ⟨g', e, hle', blk_below hb hB⟩
      ·exact HP.out _ _ w' _ _ _ _ _ _ rfl rfl (HI.out.fr.step (bt hM.out.b hB)) (HI.out.fails x HX.out (by rw [← HS.out]; exact hlt'))
     |20, _ =>
      cases ho
      clear hd hv hq hdep hb
      go_wp2
      refine ⟨_, rfl, zk ⟨bt hM.out.b (below1 _), fun h => ?_, fun h => hM.out.m19 h, fun _ => ⟨W.heap.size, upf_self _ _ _, hM.out.b.size, blk_new _ _⟩⟩⟩
      obtain ⟨g', e, hb⟩ := hM.out.m18 h
      exact ⟨g', e, blk_alloc hb _⟩
     |j + 21, hi => exact absurd hi (by omega)
    ·intro b u W hall hM hd
     have e18 := (hM.out.m18 (hall 18 (by decide)))
     have e19 := (hM.out.m19 (hall 19 (by decide)))
     obtain ⟨g20, e20, hle20, hb20⟩ := (hM.out.m20 (hall 20 (by decide)))
     clear hall hd e18
     have HL1 := HI.out.step hM.out.b
     obtain ⟨_, _, f_r0, f_r1⟩ := own47_at HL1.o34 (f + k) (by rw [HI.out.len]; exact hfk)
     obtain ⟨c_q0, c_q1, _, _⟩ := own47_at HL1.o34 (f + k) (by rw [HI.out.len]; exact hfk)
     have lg : g < W.heap.size := own_lt HL1.o34 g rfl
     have l20 : g20 < W.heap.size := blk_lt hb20
     have hgne : g20 ≠ g := by have := own_lt HI.out.o34 g rfl; omega
     have hgne' : g ≠ g20 := hgne.symm
     have HB20 := zk hb20
     have HL1 := zk HL1
     clear hb20
     obtain ⟨c_g20_0, f_g20_0, c_g20_1, f_g20_1, l_g20⟩ := cl2 (W := W) (p := g20) (a := .int .i64 0) (b := .int .i64 0) HB20.out
     obtain ⟨hle19, e19⟩ := e19
     have hfz : ∀ (u v : Value), ((W.setCell ⟨g20, 0, none⟩ u).setCell ⟨g20, 1, none⟩ v).frozen? ⟨g, (f + k) * 2, none⟩ = false := fun u v => by simp [f_r0]
     have HLE := zk hle19
     have HBW := zk hM.out.b
     have HG20 := zk hle20
     clear hle19 hle20 hM
     go_wp2
     go_roundg (nR - (k + 1))
     case measure => omega
     case rel =>
      refine ⟨k + 1, row.set (f + k) ⟨meetLo s0 ⟨x - off, x + off⟩, meetHi s0 ⟨x - off, x + off⟩⟩, by omega, by omega, by go_num, ?_⟩
      exact zk ((HI.out.step ((HBW.out.setCell (p := ⟨g20, 0, none⟩) HG20.out _).setCell (p := ⟨g20, 1, none⟩) HG20.out _)).store ⟨meetLo s0 ⟨x - off, x + off⟩, meetHi s0 ⟨x - off, x + off⟩⟩ x HX.out ⟨by rw [← HS.out], by rw [← HS.out]⟩ HLE.out)
   ·have hltz : decide ((k : Int) < nR) = false := by simp; omega
    obtain rfl : k = nR := by omega
    obtain ⟨g26, c26', e26⟩ : ∃ g c, Value.slice A26 nW c26 = .slice (some ⟨g, 0, none⟩) nW c := by
     obtain ⟨g, c, h, _⟩ := HI.out.o26.form (by omega)
     exact ⟨g, c, h⟩
    cases e26
    have hnone : narrowRow off (rd_L2 ws r) f ns = some row := by
     rw [← HI.out.nar, List.drop_of_length_le (by rw [HNL.out]; exact Nat.le_refl _)]
     rfl
    have H8 := zk HI.out.fr.h8
    have H7 := zk HI.out.fr.h7
    have H9 := zk HI.out.fr.h9
    obtain ⟨c_p8_0, f_p8_0, c_p8_1, f_p8_1, l_p8⟩ := cl2 (W := wr) (p := p8) (a := .slice A22 (xo.length + 1) c22) (b := .slice (some ⟨g26, 0, none⟩) nW c26) H8.out
    obtain ⟨c_p7_0, f_p7_0, c_p7_1, f_p7_1, l_p7⟩ := cl2 (W := wr) (p := p7) (a := .int .i64 r) (b := .int .i64 y) H7.out
    obtain ⟨c_p9_0, f_p9_0, l_p9⟩ := cl1 (W := wr) (p := p9) (a := .bool false) H9.out
    have hlenW : cellsW.length = nW := by have := HI.out.o26.1; omega
    obtain ⟨c_w, f_w⟩ := own_cell HI.out.o26 r.toNat _ (List.getElem?_eq_getElem (by rw [hlenW]; omega))
    have l26 : g26 < wr.heap.size := own_lt HI.out.o26 g26 rfl
    have d8 : p8 ≠ g26 := fun e => own_ne HI.out.o26 HI.out.fr.h8 (by decide) (by rw [e]; rfl)
    have d9 : p9 ≠ g26 := fun e => own_ne HI.out.o26 HI.out.fr.h9 (by decide) (by rw [e]; rfl)
    have d98 : p9 ≠ p8 := HI.out.fr.ne.2.2.2.2
    have d8' := d8.symm
    have d9' := d9.symm
    have d98' := d98.symm
    have hnone := zk hnone
    have hu149 := Tryz.underlying149
    clear HP HRING HNS
    go_wp2
    clear c_w f_w
    have hlo := HI.out.fr.lo
    have hg26 : w.heap.size ≤ g26 := own_base HI.out.o26 g26 rfl
    have hg : w.heap.size ≤ g := own_base HI.out.o34 g rfl
    have nOg : some g26 ≠ (Value.slice A22 (xo.length + 1) c22).ownBlock := fun e => by
     obtain ⟨cells, hc⟩ := own_typed HI.out.o22 g26 e.symm
     exact own_ne HI.out.o26 hc (by decide) rfl
    have nO8 := own_ne HI.out.o22 HI.out.fr.h8 (by decide)
    have nO9 := own_ne HI.out.o22 HI.out.fr.h9 (by decide)
    have nW8 := own_ne HI.out.o26 HI.out.fr.h8 (by decide)
    have nW9 := own_ne HI.out.o26 HI.out.fr.h9 (by decide)
    have nRg : some g26 ≠ (Value.slice (some ⟨g, 0, none⟩) (rd_L2 ws r).length c34).ownBlock := fun e => by
     obtain ⟨cells, hc⟩ := own_typed HI.out.o34 g26 e.symm
     exact own_ne HI.out.o26 hc (by decide) rfl
    have nR8 := own_ne HI.out.o34 HI.out.fr.h8 (by decide)
    have nR9 := own_ne HI.out.o34 HI.out.fr.h9 (by decide)
    have hbf : ∀ u v x y, Below w.heap.size w ((((wr.setCell ⟨g26, r.toNat, none⟩ u).setCell ⟨p8, 0, none⟩ v).setCell ⟨p8, 1, none⟩ x).setCell ⟨p9, 0, none⟩ y) := fun u v x y =>
     (((HI.out.fr.b.setCell (p := ⟨g26, r.toNat, none⟩) hg26 _).setCell (p := ⟨p8, 0, none⟩) hlo.2.2.2.2.1 _).setCell (p := ⟨p8, 1, none⟩) hlo.2.2.2.2.1 _).setCell (p := ⟨p9, 0, none⟩) hlo.2.2.2.2.2 _
    refine with_done _ _ p8 p9 (.slice A22 (xo.length + 1) c22) (.slice (some ⟨g26, 0, none⟩) nW c26) true R rfl rfl ?_ ?_ ?_
    ·exact blk_far (blk_put (blk_put (blk_far HI.out.fr.h8 (p := ⟨g26, r.toNat, none⟩) d8 _) 0 _ rfl) 1 _ rfl) (p := ⟨p9, 0, none⟩) d98' _
    ·exact blk_put (blk_far (blk_far (blk_far HI.out.fr.h9 (p := ⟨g26, r.toNat, none⟩) d9 _) (p := ⟨p8, 0, none⟩) d98 _) (p := ⟨p8, 1, none⟩) d98 _) 0 _ rfl
    ·have o22f := own_setCell (own_setCell (own_setCell (own_setCell HI.out.o22 (p := ⟨g26, r.toNat, none⟩) nOg (.slice (some ⟨g, 0, none⟩) (rd_L2 ws r).length c34)) (p := ⟨p8, 0, none⟩) nO8 (.slice A22 (xo.length + 1) c22)) (p := ⟨p8, 1, none⟩) nO8 (.slice (some ⟨g26, 0, none⟩) nW c26)) (p := ⟨p9, 0, none⟩) nO9 (.bool true)
     have o34f := own_setCell (own_setCell (own_setCell (own_setCell HI.out.o34 (p := ⟨g26, r.toNat, none⟩) nRg (.slice (some ⟨g, 0, none⟩) (rd_L2 ws r).length c34)) (p := ⟨p8, 0, none⟩) nR8 (.slice A22 (xo.length + 1) c22)) (p := ⟨p8, 1, none⟩) nR8 (.slice (some ⟨g26, 0, none⟩) nW c26)) (p := ⟨p9, 0, none⟩) nR9 (.bool true)
     have o26f := own_setCell (own_setCell (own_setCell (HI.out.o26.stored r.toNat (.slice (some ⟨g, 0, none⟩) (rd_L2 ws r).length c34)).1 (p := ⟨p8, 0, none⟩) nW8 (.slice A22 (xo.length + 1) c22)) (p := ⟨p8, 1, none⟩) nW8 (.slice (some ⟨g26, 0, none⟩) nW c26)) (p := ⟨p9, 0, none⟩) nW9 (.bool true)
     obtain ⟨A, c, e, hn, hle, hF⟩ := own27_F o22f
     cases e
     obtain ⟨A', c', e, hn', hle', hF'⟩ := own47_F o34f
     cases e
     have hlw : ws.length = nW := Kd.F_len HW.out
     have hfk := Kd.FK_slice_mk (e := 47) (d := k47) (ok := fun k => ok k ∨ w.heap.size ≤ k) (c := c34) (l := row) (by omega) (Kd.F_mono hF' (fun k hk => .inr (by cases hk; exact hg)))
     rw [← hn'] at hfk
     have hreps := reps_setOne (HPW.out.imp_ (fun x c h => Kd.FK_mono (Kd.FK_below h (hbf (.slice (some ⟨g, 0, none⟩) (rd_L2 ws r).length c34) (.slice A22 (xo.length + 1) c22) (.slice (some ⟨g26, 0, none⟩) nW c26) (.bool true))) (ok' := fun k => ok k ∨ w.heap.size ≤ k) (fun k hk => .inl hk))) r.toNat row _ hfk
     obtain ⟨A3, c3, e, hle3, hF3⟩ := own_F (d := Kd.slice 47 k47) o26f hreps (by simpa using hlw)
     cases e
     have e1 : (ws.set r.toNat row).length = nW := by simpa using hlw
     have := HQ.out.2 row hnone.out _ (hbf (.slice (some ⟨g, 0, none⟩) (rd_L2 ws r).length c34) (.slice A22 (xo.length + 1) c22) (.slice (some ⟨g26, 0, none⟩) nW c26) (.bool true)) A22 c22 (some ⟨g26, 0, none⟩) c26 hle (by omega) (Kd.F_mono hF (fun k hk => own_base HI.out.o22 k hk.symm)) (by
      rw [e1]
      exact Kd.F_mono hF3 (fun k hk => by
       rcases hk with hk | hk
       ·exact hk
       ·cases hk; exact .inr hg26))
     rw [e1, ← hn] at this
     exact this
end Go.Proofs.YtfijblhfgfefoaaGreatDoor.Rv
end
