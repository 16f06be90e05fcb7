/- A part of the proof: words, contracts of functions, and their walks. -/
import Derived.Test.YtfijblhfgfefoaaGreatDoorQLess3
import Derived.Test.YtfijblhfgfefoaaGreatDoorQLess5
import Derived.Test.YtfijblhfgfefoaaGreatDoorQLess6
import Derived.Test.YtfijblhfgfefoaaGreatDoorQLess8
import Derived.Test.YtfijblhfgfefoaaGreatDoorQLess16
import Derived.Test.YtfijblhfgfefoaaGreatDoorQLess22
import Derived.Test.YtfijblhfgfefoaaGreatDoorQLess23
import Derived.Test.YtfijblhfgfefoaaGreatDoorQLess25
import Derived.Test.YtfijblhfgfefoaaGreatDoorQLess27
import Derived.Test.YtfijblhfgfefoaaGreatDoorQLess28
import Derived.Test.YtfijblhfgfefoaaGreatDoorQLess29
set_option linter.unusedVariables false
set_option linter.unusedSimpArgs false
section
namespace Go.Proofs.YtfijblhfgfefoaaGreatDoor.Rv
open Go.RowKit Go.Shelf Go.IntWalk Go.Proofs.YtfijblhfgfefoaaGreatDoor.PAll Go.Proofs.YtfijblhfgfefoaaGreatDoorW.PrintWords Go.Proofs.YtfijblhfgfefoaaGreatDoorW.PrintLast
attribute [local go_sem] Oper.semAt_some wide_fn wide_depth
set_option maxRecDepth 100000 in
set_option maxHeartbeats 4000000 in
theorem weather_err (s : Sk) (hc : s.rivers.length ≤ s.c1 ∧ s.shells.length ≤ s.c2 ∧ s.tests.length ≤ s.c3) (hE : askedE s.years s.rivers s.shells s.tests true ≠ 0) (w : World)
 (f1 : Kd.C k43 w s.A1 s.rivers.length s.rivers) (f2 : Kd.C k45 w s.A2 s.shells.length s.shells) (f3 : Kd.C k59 w s.A3 s.tests.length s.tests) :
 Calls Tryz.prog 34 #[.agg #[.int .i64 s.years, .slice s.A1 s.rivers.length s.c1], .agg #[.slice s.A2 s.shells.length s.c2, .slice s.A3 s.tests.length s.c3]] w fun e w' =>
  e = .returned (.tuple #[.slice none 0 0, .int .i64 (askedE s.years s.rivers s.shells s.tests true)]) ∧ Below w.heap.size w w' := by
 rw [← callsIn_wide (n := 0)]
 have hu24 := Tryz.underlying24
 have hu39 := Tryz.underlying39
 have hu138 := Tryz.underlying138
 have HF1 := zk f1
 have HF2 := zk f2
 have HF3 := zk f3
 have HASK := zk (fun (W : World) (h1 : Kd.C k43 W s.A1 s.rivers.length s.rivers) (h2 : Kd.C k45 W s.A2 s.shells.length s.shells) (h3 : Kd.C k59 W s.A3 s.tests.length s.tests) => (asked_calls s true hc W h1 h2 h3).mono (fun e w' h => show e = .returned (.tuple #[.agg #[.int .i64 0, .slice none 0 0, .slice none 0 0, .slice none 0 0], .int .i64 (askedE s.years s.rivers s.shells s.tests true)]) ∧ Below W.heap.size W w' by
  obtain ⟨hb, ⟨ha, _⟩ | ⟨_, rfl⟩⟩ := h
  ·exact absurd ha hE
  ·exact ⟨rfl, hb⟩))
 obtain ⟨E, eE⟩ : ∃ E, E = askedE s.years s.rivers s.shells s.tests true := ⟨_, rfl⟩
 rw [← eE] at HASK hE ⊢
 have hEb : (E != 0) = true := by simpa using hE
 clear f1 f2 f3 hE eE
 refine callsIn_of_wp_marks Tryz.func34 rfl trivial ?_ rfl
 simp only [Tryz.ntmps34, List.size_toArray, List.length_cons, List.length_nil, Nat.reduceAdd, Nat.reduceSub, Array.replicate_succ, Array.replicate_zero, List.push_toArray, List.append_toArray, List.nil_append, List.cons_append]
 have HB0 := zk ((below1 (w := w) (.cells #[.int .i64 s.years, .slice s.A1 s.rivers.length s.c1] 24)).alloc (by simp) (.cells #[.slice s.A2 s.shells.length s.c2, .slice s.A3 s.tests.length s.c3] 39))
 gi_wp2_with (first
  |(gi_at_call 85
    refine (callsIn_wide.2 (HASK.out _ (Kd.C_below HF1.out HB0.out) (Kd.C_below HF2.out HB0.out) (Kd.C_below HF3.out HB0.out))).mono ?_
    rintro e wa ⟨rfl, hba⟩
    have HBA := zk (bt HB0.out hba)
    clear hba))
 refine weather_early (.slice none 0 0) (.int .i64 E) rfl rfl ⟨rfl, ?_⟩
 exact below_alloc HBA.out _
theorem asked_book {s : Sk} {fine : Bool} (h : askedE s.years s.rivers s.shells s.tests fine = 0) : isBookB s.years s.rivers = true := by
 unfold askedE at h
 split at h
 ·rename_i hc
  simp only [Bool.and_eq_true] at hc
  exact hc.1.1
 ·cases h
end Go.Proofs.YtfijblhfgfefoaaGreatDoor.Rv
namespace Go.Proofs.YtfijblhfgfefoaaGreatDoor.PAll
open Go.RowKit Go.Proofs.YtfijblhfgfefoaaGreatDoor.Rv Go.Proofs.YtfijblhfgfefoaaGreatDoorW.PrintWords Go.Proofs.YtfijblhfgfefoaaGreatDoorW.PrintLast
def river_Weather.f (a0_0 : Int) (l0_1 : List (S43)) (l1_0 : List (S45)) (l1_1 : List (S59)) : Option ((List (List (S47))) × Int) :=
 if askedE a0_0 l0_1 l1_0 l1_1 true = 0 then some (accW (truthsOf (sk a0_0 l0_1 l1_0 l1_1)), 0) else some ([], askedE a0_0 l0_1 l1_0 l1_1 true)
theorem river_Weather.calls (a0_0 : Int) (A0_1 : Option Addr) (c0_1 : Nat) (l0_1 : List (S43)) (A1_0 : Option Addr) (c1_0 : Nat) (l1_0 : List (S45)) (A1_1 : Option Addr) (c1_1 : Nat) (l1_1 : List (S59)) (r1 : List (List (S47))) (r2 : Int) (w : World) (hr0_1 : Kd.C k43 w A0_1 l0_1.length l0_1) (hc0_1 : l0_1.length ≤ c0_1) (hr1_0 : Kd.C k45 w A1_0 l1_0.length l1_0) (hc1_0 : l1_0.length ≤ c1_0) (hr1_1 : Kd.C k59 w A1_1 l1_1.length l1_1) (hc1_1 : l1_1.length ≤ c1_1) (h : river_Weather.f a0_0 l0_1 l1_0 l1_1 = some (r1, r2)) :
 Calls Tryz.prog 34 #[.agg #[.int .i64 a0_0, .slice A0_1 l0_1.length c0_1], .agg #[.slice A1_0 l1_0.length c1_0, .slice A1_1 l1_1.length c1_1]] w fun e w' => ∃ v0_ : Value, e = .returned (.tuple #[v0_, .int .i64 r2]) ∧ Kd.V (Kd.slice 47 k47) 41 w' w.heap.size (fun k_ => (w.heap.size ≤ k_)) v0_ r1 ∧ Below w.heap.size w w' := by
 unfold river_Weather.f at h
 split at h
 ·rename_i hE
  cases h
  have hE' : askedE (Sk.mk a0_0 A0_1 c0_1 l0_1 A1_0 c1_0 l1_0 A1_1 c1_1 l1_1).years (Sk.mk a0_0 A0_1 c0_1 l0_1 A1_0 c1_0 l1_0 A1_1 c1_1 l1_1).rivers (Sk.mk a0_0 A0_1 c0_1 l0_1 A1_0 c1_0 l1_0 A1_1 c1_1 l1_1).shells (Sk.mk a0_0 A0_1 c0_1 l0_1 A1_0 c1_0 l1_0 A1_1 c1_1 l1_1).tests true = 0 := hE
  obtain ⟨hy, hn, _⟩ := Go.Proofs.YtfijblhfgfefoaaGreatDoor.Rv.book_facts (asked_book hE')
  exact weather_main ⟨a0_0, A0_1, c0_1, l0_1, A1_0, c1_0, l1_0, A1_1, c1_1, l1_1⟩ (asked_good hE').1 hn hy ⟨hc0_1, hc1_0, hc1_1⟩ hE w hr0_1 hr1_0 hr1_1
 ·rename_i hE
  cases h
  refine (weather_err ⟨a0_0, A0_1, c0_1, l0_1, A1_0, c1_0, l1_0, A1_1, c1_1, l1_1⟩ ⟨hc0_1, hc1_0, hc1_1⟩ hE w hr0_1 hr1_0 hr1_1).mono ?_
  rintro e w' ⟨rfl, hb⟩
  exact ⟨_, rfl, Kd.V_nil _ _ _ _ _, hb⟩
end Go.Proofs.YtfijblhfgfefoaaGreatDoor.PAll
end
section
namespace Go.Proofs.YtfijblhfgfefoaaGreatDoor.Rv
open Go.RowKit Go.Shelf Go.IntWalk Go.Proofs.YtfijblhfgfefoaaGreatDoor.PAll Go.Proofs.YtfijblhfgfefoaaGreatDoorW.PrintWords Go.Proofs.YtfijblhfgfefoaaGreatDoorW.PrintLast
open Go.Proofs.YtfijblhfgfefoaaGreatDoorW.PrintMore
attribute [local go_sem] max2_mx min2_mn max_two min_two
def manyS (s : S47) (m : Int) : S47 := ⟨mn s.f0 (manyI m), mx s.f1 (manyI m)⟩
def closedR (years : Int) (rivers : List S43) (shells : List S45) (tests : List S59) : S47 × Int :=
 if askedE years rivers shells tests true = 0 then ((patternsL (sk years rivers shells tests)).foldl manyS ⟨shells.length, 0⟩, 0) else (⟨0, 0⟩, askedE years rivers shells tests true)
structure ClSt (w : World) (base p4 p8 : Nat) (v : Value) (l : List Int) (q : S47) (wr : World) : Prop where
 b : Below w.heap.size w wr
 h4 : wr.heap[p4]? = some (.cells #[.int .i64 0, .int .i64 0] 47 (0, 0))
 h8 : wr.heap[p8]? = some (.cells #[.int .i64 q.f0, .int .i64 q.f1] 47 (0, 0))
 r : Kd.R (Kd.int .i64) 3 wr base (fun k => base ≤ k ∧ k < wr.heap.size) v l
theorem ClSt.below {w wr W : World} {base p4 p8 : Nat} {v : Value} {l : List Int} {q : S47} (h : ClSt w base p4 p8 v l q wr) (hb : Below wr.heap.size wr W) : ClSt w base p4 p8 v l q W :=
 ⟨h.b.trans (hb.mono h.b.size), blk_below h.h4 hb, blk_below h.h8 hb, Kd.R_mono (Kd.R_move h.r (fun k hk => hb.block k hk.2)) (fun k hk => ⟨hk.1, Nat.lt_of_lt_of_le hk.2 hb.size⟩)⟩
theorem ClSt.set {w wr : World} {base p4 p8 : Nat} {v : Value} {l : List Int} {q : S47} (h : ClSt w base p4 p8 v l q wr) (hp : w.heap.size ≤ p8 ∧ p8 < base ∧ p4 ≠ p8) (q' : S47) : ClSt w base p4 p8 v l q' ((wr.setCell ⟨p8, 0, none⟩ (.int .i64 q'.f0)).setCell ⟨p8, 1, none⟩ (.int .i64 q'.f1)) := by
 have hne : ∀ k, k ≠ p8 → ((wr.setCell ⟨p8, 0, none⟩ (.int .i64 q'.f0)).setCell ⟨p8, 1, none⟩ (.int .i64 q'.f1)).heap[k]? = wr.heap[k]? := fun k hk =>
  (Below.heap_setCell _ ⟨p8, 1, none⟩ _ k hk).trans (Below.heap_setCell _ ⟨p8, 0, none⟩ _ k hk)
 have hs : ((wr.setCell ⟨p8, 0, none⟩ (.int .i64 q'.f0)).setCell ⟨p8, 1, none⟩ (.int .i64 q'.f1)).heap.size = wr.heap.size := by simp [World.setCell]
 exact ⟨below_set (below_set h.b hp.1) hp.1, (hne p4 hp.2.2).trans h.h4, blk_put (blk_put h.h8 0 _ rfl) 1 _ rfl, Kd.R_mono (Kd.R_move h.r (fun k hk => hne k (by omega))) (fun k hk => ⟨hk.1, by rw [hs]; exact hk.2⟩)⟩
theorem ClSt.c {w wr : World} {base p4 p8 : Nat} {A : Option Addr} {c : Nat} {l : List Int} {q : S47} (h : ClSt w base p4 p8 (.slice A l.length c) l q wr) : Kd.C (Kd.int .i64) wr A l.length l := by
 obtain ⟨A', c', e, _, hC⟩ := Kd.R_reads h.r
 cases e
 exact hC
theorem foldS_snoc (q : S47) (l : List Int) (kk : Nat) (h : kk < l.length) : (l.take (kk + 1)).foldl manyS q = manyS ((l.take kk).foldl manyS q) l[kk] := by
 rw [List.take_succ_eq_append_getElem h, List.foldl_append]
 rfl
structure MnMem (g a b : Int) (W0 : World) (f : Nat → Bool) (u : Nat → Value) (W : World) : Prop where
 bw : Below W0.heap.size W0 W
 m3 : f 3 = true → u 3 = .int .i64 g
 m4 : f 4 = true → u 4 = .int .i64 (mn a g)
 m8 : f 8 = true → u 8 = .int .i64 g
 m9 : f 9 = true → u 9 = .int .i64 (mx b g)
 m10 : f 10 = true → u 10 = .agg #[.int .i64 (mn a g), .int .i64 (mx b g)]
theorem manyI_bounds (m : Int) : 0 ≤ manyI m ∧ manyI m ≤ 4 := by
 unfold manyI
 have := List.length_filter_le (fun i => m.toNat.testBit i) (List.range 4)
 simp at this ⊢
 omega
set_option maxRecDepth 100000 in
set_option maxHeartbeats 4000000 in
theorem Closed_calls (s : Sk) (hc : s.rivers.length ≤ s.c1 ∧ s.shells.length ≤ s.c2 ∧ s.tests.length ≤ s.c3) (w : World)
 (f1 : Kd.C k43 w s.A1 s.rivers.length s.rivers) (f2 : Kd.C k45 w s.A2 s.shells.length s.shells) (f3 : Kd.C k59 w s.A3 s.tests.length s.tests) :
 Calls Tryz.prog 49 #[.agg #[.int .i64 s.years, .slice s.A1 s.rivers.length s.c1], .agg #[.slice s.A2 s.shells.length s.c2, .slice s.A3 s.tests.length s.c3]] w fun e w' =>
  e = .returned (.tuple #[.agg #[.int .i64 (closedR s.years s.rivers s.shells s.tests).1.f0, .int .i64 (closedR s.years s.rivers s.shells s.tests).1.f1], .int .i64 (closedR s.years s.rivers s.shells s.tests).2]) ∧ Below w.heap.size w w' := by
 have hu24 := Tryz.underlying24
 have hu39 := Tryz.underlying39
 have hu47 := Tryz.underlying47
 have hu138 := Tryz.underlying138
 have HC := zk hc
 obtain ⟨y, B1, B2, B3, n1, n2, n3, d1, d2, d3, hval, hask⟩ := asked_one s true hc
 have HR := zk (show closedR s.years s.rivers s.shells s.tests = if askedE s.years s.rivers s.shells s.tests true = 0 then ((patternsL (sk s.years s.rivers s.shells s.tests)).foldl manyS ⟨s.shells.length, 0⟩, 0) else (⟨0, 0⟩, askedE s.years s.rivers s.shells s.tests true) from rfl)
 have HGO := zk (asked_good (s := s) (fine := true))
 obtain ⟨E, eE⟩ : ∃ E, E = askedE s.years s.rivers s.shells s.tests true := ⟨_, rfl⟩
 obtain ⟨q, eq⟩ : ∃ q, q = closedR s.years s.rivers s.shells s.tests := ⟨_, rfl⟩
 rw [← eE] at hval hask HR HGO
 rw [← eq] at HR ⊢
 have HVAL := zk hval
 have HASK := zk hask
 have HF1 := zk f1
 have HF2 := zk f2
 have HF3 := zk f3
 have h4 := blk_alloc (blk_new (w.alloc (.cells #[.int .i64 s.years, .slice s.A1 s.rivers.length s.c1] 24)) (.cells #[.slice s.A2 s.shells.length s.c2, .slice s.A3 s.tests.length s.c3] 39)) (.cells #[.int .i64 0, .int .i64 0] 47)
 have h5 := blk_new ((w.alloc (.cells #[.int .i64 s.years, .slice s.A1 s.rivers.length s.c1] 24)).alloc (.cells #[.slice s.A2 s.shells.length s.c2, .slice s.A3 s.tests.length s.c3] 39)) (.cells #[.int .i64 0, .int .i64 0] 47)
 simp only [World.size_alloc] at h4 h5
 have H40 := zk h4
 have H50 := zk h5
 have hsl := Kd.C_max f2
 clear hc hval hask f1 f2 f3 eE eq h4 h5
 by_cases hE : E = 0
 ·subst hE
  obtain ⟨v1, v2, v3, v4, v5, v6, v7, v8, v9, v10⟩ := HVAL.out rfl
  subst v1 v2 v3 v4 v5 v6 v7 v8 v9 v10
  obtain ⟨hgood, hs4⟩ := HGO.out rfl
  have HPT := zk (fun (V : World) (h1 : Kd.C k43 V s.A1 s.rivers.length s.rivers) (h2 : Kd.C k45 V s.A2 s.shells.length s.shells) (h3 : Kd.C k59 V s.A3 s.tests.length s.tests) => patterns_calls s hgood hs4 HC.out V h1 h2 h3)
  unfold Sk.cells at HPT
  have HCAN := zk (canon_patterns s)
  rw [if_pos rfl] at HR
  change Aside0 (q = ((patternsL s).foldl manyS ⟨s.shells.length, 0⟩, 0)) at HR
  obtain ⟨l, el⟩ : ∃ l, l = patternsL s := ⟨_, rfl⟩
  rw [← el] at HPT HCAN HR
  have HL16 := zk HCAN.out.length
  have HS4 := zk hs4
  clear el hgood hs4
  go_enter Tryz.func49, Tryz.ntmps49
  go_wp2_with (first
   |((go_at_call 85; (with_reducible refine (HASK.out _ (Kd.C_alloc (Kd.C_alloc (Kd.C_alloc HF1.out _) _) _) (Kd.C_alloc (Kd.C_alloc (Kd.C_alloc HF2.out _) _) _) (Kd.C_alloc (Kd.C_alloc (Kd.C_alloc HF3.out _) _) _)).mono ?_); rintro e W1 ⟨rfl, hB⟩; have HB := zk (bt ((((below1 (w := w) (.cells #[.int .i64 s.years, .slice s.A1 s.rivers.length s.c1] 24)).alloc (by simp) (.cells #[.slice s.A2 s.shells.length s.c2, .slice s.A3 s.tests.length s.c3] 39)).alloc (by simp; omega) (.cells #[.int .i64 0, .int .i64 0] 47))) hB); have H4 := zk (blk_below H40.out hB); have H5 := zk (blk_below H50.out hB); obtain ⟨p3, e3⟩ : ∃ p3, p3 = w.heap.size + 1 := ⟨_, rfl⟩; obtain ⟨p4, e4⟩ : ∃ p4, p4 = w.heap.size + 1 + 1 := ⟨_, rfl⟩; rw [← e4] at H5; rw [← e3] at H4; rw [← e4, ← e3]; have HP4 := zk (show w.heap.size ≤ p4 by omega); clear hB e3 e4)
     obtain ⟨c_p3_0, f_p3_0, c_p3_1, f_p3_1, l_p3⟩ := cl2 (W := W1) (p := p3) (a := .slice s.A2 s.shells.length s.c2) (b := .slice s.A3 s.tests.length s.c3) H4.out
     skip)
   |(go_at_call 89
     (with_reducible refine (HPT.out _ (Kd.C_alloc (Kd.C_alloc (Kd.C_below HF1.out HB.out) _) _) (Kd.C_alloc (Kd.C_alloc (Kd.C_below HF2.out HB.out) _) _) (Kd.C_alloc (Kd.C_alloc (Kd.C_below HF3.out HB.out) _) _)).mono ?_)
     rintro e W2 ⟨v, rfl, hR, hb2⟩
     obtain ⟨A, c, rfl, hle, hCl⟩ := Kd.R_reads hR
     have hb3 := below_then (below_alloc (below_alloc HB.out (.cells #[.int .i64 s.years, .slice s.A1 s.rivers.length s.c1, .slice s.A2 s.shells.length s.c2, .slice s.A3 s.tests.length s.c3] 138)) (.cells #[.int .i64 s.shells.length, .int .i64 0] 47)) (below_alloc (below_alloc HB.out (.cells #[.int .i64 s.years, .slice s.A1 s.rivers.length s.c1, .slice s.A2 s.shells.length s.c2, .slice s.A3 s.tests.length s.c3] 138)) (.cells #[.int .i64 s.shells.length, .int .i64 0] 47)).size hb2
     have h9 := blk_below (blk_new (W1.alloc (.cells #[.int .i64 s.years, .slice s.A1 s.rivers.length s.c1, .slice s.A2 s.shells.length s.c2, .slice s.A3 s.tests.length s.c3] 138)) (.cells #[.int .i64 s.shells.length, .int .i64 0] 47)) hb2
     have hr2 := Kd.R_mono (Kd.R_bound hR) (ok' := fun k => W1.heap.size + 1 + 1 ≤ k ∧ k < W2.heap.size) (fun k hk => ⟨by have := hk.2.1; simpa using this, hk.2.2.1⟩)
     have hr3 := Kd.R_lower hr2 (show W1.heap.size + 1 + 1 ≤ ((W1.alloc (.cells #[.int .i64 s.years, .slice s.A1 s.rivers.length s.c1, .slice s.A2 s.shells.length s.c2, .slice s.A3 s.tests.length s.c3] 138)).alloc (.cells #[.int .i64 s.shells.length, .int .i64 0] 47)).heap.size by simp)
     simp only [World.size_alloc] at h9
     have HS := zk (show ClSt w (W1.heap.size + 1 + 1) p4 (W1.heap.size + 1) (.slice A l.length c) l ⟨s.shells.length, 0⟩ W2 from ⟨hb3, blk_below (blk_alloc (blk_alloc H5.out _) _) hb2, h9, hr3⟩)
     have HP8 := zk (show w.heap.size ≤ W1.heap.size + 1 ∧ W1.heap.size + 1 < W1.heap.size + 1 + 1 ∧ p4 ≠ W1.heap.size + 1 by have h1 := HB.out.size; have h2 := blk_lt H5.out; omega)
     generalize W1.heap.size + 1 + 1 = base at HS HP8 ⊢
     generalize W1.heap.size + 1 = p8 at HS HP8 ⊢
     clear hR hle hCl hb2 hb3 h9 hr2 hr3))
  go_loopg [10, 28] l.length (fun gg _ v28 wr => ∃ kk : Nat, kk ≤ l.length ∧ l.length - kk ≤ gg ∧ v28 = .int .i64 kk ∧ Aside0 (ClSt w base p4 p8 (.slice A l.length c) l ((l.take kk).foldl manyS ⟨s.shells.length, 0⟩) wr))
  case atStart => exact ⟨0, by omega, by omega, rfl, HS⟩
  case round =>
   obtain ⟨kk, hkk, hgg, rfl, BW⟩ := hrel
   by_cases hlt : kk < l.length
   ·have hltz : (kk : Int) < (l.length : Int) := by omega
    obtain ⟨ad, hA, d0⟩ := Kd.at_int BW.out.c (kk : Int) (by omega) (by omega)
    subst hA
    have hx : l[kk] = rd l (kk : Int) := by simp [rd, List.getD_eq_getElem?_getD, List.getElem?_eq_getElem hlt]
    obtain ⟨m, hm⟩ : ∃ m, rd l (kk : Int) = m := ⟨_, rfl⟩
    rw [hm] at d0 hx
    simp only [Int.toNat_natCast] at d0
    have S1 := zk (foldS_snoc ⟨s.shells.length, 0⟩ l kk hlt)
    rw [hx] at S1
    have HM := zk (many_nat m (HCAN.out.mem (by rw [← hx]; exact List.getElem_mem hlt)))
    obtain ⟨q0, eq0⟩ : ∃ q0, q0 = (l.take kk).foldl manyS ⟨s.shells.length, 0⟩ := ⟨_, rfl⟩
    rw [← eq0] at S1 BW
    obtain ⟨a0, b0⟩ := q0
    change Aside0 (List.foldl manyS ⟨s.shells.length, 0⟩ (l.take (kk + 1)) = ⟨mn a0 (manyI m), mx b0 (manyI m)⟩) at S1
    have HLT := zk hlt
    have hgb := manyI_bounds m
    obtain ⟨g, eg⟩ : ∃ g, g = manyI m := ⟨_, rfl⟩
    rw [← eg] at S1 HM hgb
    clear hx hm hlt eq0 eg
    go_wp2
    refine region_lit (lit := ?lit) 11 [[],[0],[],[2],[1,3],[],[5],[],[7],[6,8],[4,9]]
     [some (.pointer (some ⟨p8, 0, none⟩)), some (.int .i64 a0), some (.int .i64 m), none, none, some (.pointer (some ⟨p8, 1, none⟩)), some (.int .i64 b0), some (.int .i64 m), none, none, none]
     (fun f u W' => Aside0 (MnMem g a0 b0 wr f u W')) ?hlit (by kernel_rfl) (by kernel_rfl) (by decide) ?_ ?_ ?_ ?_ ?_
    case hlit =>
     intro u
     simp only [List.take_succ_cons, List.take_zero, List.map_cons, List.map_nil, setAll, Nat.reduceAdd, Act.put, List.setIfInBounds_toArray, List.set_cons_succ, List.set_cons_zero]
     try rfl
    ·intro u w2 hw
     exact zk ⟨hw.below _, fun h => (by cases h), fun h => (by cases h), fun h => (by cases h), fun h => (by cases h), fun h => (by cases h)⟩
    ·intro i v f u W' hv h
     have k3 : (3 : Nat) ≠ i := by rintro rfl; cases hv
     have k4 : (4 : Nat) ≠ i := by rintro rfl; cases hv
     have k8 : (8 : Nat) ≠ i := by rintro rfl; cases hv
     have k9 : (9 : Nat) ≠ i := by rintro rfl; cases hv
     have k10 : (10 : Nat) ≠ i := by rintro rfl; cases hv
     obtain ⟨⟨a0, a3, a4, a8, a9, a10⟩⟩ := h
     refine ⟨⟨a0, ?_, ?_, ?_, ?_, ?_⟩⟩
     ·rw [upd_ne k3, upf_ne k3]; exact a3
     ·rw [upd_ne k4, upf_ne k4]; exact a4
     ·rw [upd_ne k8, upf_ne k8]; exact a8
     ·rw [upd_ne k9, upf_ne k9]; exact a9
     ·rw [upd_ne k10, upf_ne k10]; exact a10
    ·intro i o' v hi ho hv f u W' hM hdep hd
     have H8 := zk (blk_below BW.out.h8 hM.out.bw)
     obtain ⟨c_p8_0, f_p8_0, c_p8_1, f_p8_1, l_p8⟩ := cl2 (W := W') (p := p8) (a := .int .i64 a0) (b := .int .i64 b0) H8.out
     clear H8 hM hdep
     replace hi : i < 11 := hi
     match i, hi with
     |0, _ =>
      cases ho
      cases zs hv
      clear hd hv
      go_wp2
      exact zt
     |1, _ =>
      cases ho
      cases zs hv
      have e0 := hd 0 _ (by decide) rfl
      clear hd hv
      go_wp2
      exact zt
     |2, _ =>
      cases ho
      cases zs hv
      clear hd hv
      go_wp2
      exact zt
     |3, _ =>
      cases hv
     |4, _ =>
      cases hv
     |5, _ =>
      cases ho
      cases zs hv
      clear hd hv
      go_wp2
      exact zt
     |6, _ =>
      cases ho
      cases zs hv
      have e5 := hd 5 _ (by decide) rfl
      clear hd hv
      go_wp2
      exact zt
     |7, _ =>
      cases ho
      cases zs hv
      clear hd hv
      go_wp2
      exact zt
     |8, _ =>
      cases hv
     |9, _ =>
      cases hv
     |10, _ =>
      cases hv
     |j + 11, hi => exact absurd hi (by omega)
    ·intro i o' hi ho hv f u W' hM hb hdep hq hd
     obtain ⟨⟨a0', a3, a4, a8, a9, a10⟩⟩ := hM
     have A := zk (And.intro a0' (And.intro a3 (And.intro a4 (And.intro a8 (And.intro a9 a10)))))
     match i, hi with
     |0, _ => cases hv
     |1, _ => cases hv
     |2, _ => cases hv
     |5, _ => cases hv
     |6, _ => cases hv
     |7, _ => cases hv
     |3, _ =>
      cases ho
      have e2' := hd 2 _ (by decide) rfl
      clear hd hv hq hdep hb a0' a3 a4 a8 a9 a10
      go_wp2_with (go_at_call 104; (with_reducible refine (river_many.calls _ _ _ _ HM.out).mono ?_); rintro e W9 ⟨rfl, hB9'⟩; have hB9 : Below W'.heap.size W' W9 := by first | exact hB9'.below | exact hB9'.below _)
      obtain ⟨a0', a3, a4, a8, a9, a10⟩ := A.out
      refine ⟨_, by simp [upf, e2'], zk ⟨bt a0' hB9, fun _ => upf_self _ _ _, ?_, ?_, ?_, ?_⟩⟩
      ·rw [upd_ne (by decide), upf_ne (by decide)]; exact a4
      ·rw [upd_ne (by decide), upf_ne (by decide)]; exact a8
      ·rw [upd_ne (by decide), upf_ne (by decide)]; exact a9
      ·rw [upd_ne (by decide), upf_ne (by decide)]; exact a10
     |4, _ =>
      cases ho
      have e1' := hd 1 _ (by decide) rfl
      have e3' := a3 (hdep 3 (by decide))
      clear hd hv hq hdep hb a0' a3 a4 a8 a9 a10
      go_wp2
      obtain ⟨a0', a3, a4, a8, a9, a10⟩ := A.out
      refine ⟨.int .i64 (mn a0 g), by simp [upf, e1', e3'], zk ⟨a0', ?_, fun _ => upf_self _ _ _, ?_, ?_, ?_⟩⟩
      ·rw [upd_ne (by decide), upf_ne (by decide)]; exact a3
      ·rw [upd_ne (by decide), upf_ne (by decide)]; exact a8
      ·rw [upd_ne (by decide), upf_ne (by decide)]; exact a9
      ·rw [upd_ne (by decide), upf_ne (by decide)]; exact a10
     |8, _ =>
      cases ho
      have e7' := hd 7 _ (by decide) rfl
      clear hd hv hq hdep hb a0' a3 a4 a8 a9 a10
      go_wp2_with (go_at_call 104; (with_reducible refine (river_many.calls _ _ _ _ HM.out).mono ?_); rintro e W9 ⟨rfl, hB9'⟩; have hB9 : Below W'.heap.size W' W9 := by first | exact hB9'.below | exact hB9'.below _)
      obtain ⟨a0', a3, a4, a8, a9, a10⟩ := A.out
      refine ⟨_, by simp [upf, e7'], zk ⟨bt a0' hB9, ?_, ?_, fun _ => upf_self _ _ _, ?_, ?_⟩⟩
      ·rw [upd_ne (by decide), upf_ne (by decide)]; exact a3
      ·rw [upd_ne (by decide), upf_ne (by decide)]; exact a4
      ·rw [upd_ne (by decide), upf_ne (by decide)]; exact a9
      ·rw [upd_ne (by decide), upf_ne (by decide)]; exact a10
     |9, _ =>
      cases ho
      have e6' := hd 6 _ (by decide) rfl
      have e8' := a8 (hdep 8 (by decide))
      clear hd hv hq hdep hb a0' a3 a4 a8 a9 a10
      go_wp2
      obtain ⟨a0', a3, a4, a8, a9, a10⟩ := A.out
      refine ⟨.int .i64 (mx b0 g), by simp [upf, e6', e8'], zk ⟨a0', ?_, ?_, ?_, fun _ => upf_self _ _ _, ?_⟩⟩
      ·rw [upd_ne (by decide), upf_ne (by decide)]; exact a3
      ·rw [upd_ne (by decide), upf_ne (by decide)]; exact a4
      ·rw [upd_ne (by decide), upf_ne (by decide)]; exact a8
      ·rw [upd_ne (by decide), upf_ne (by decide)]; exact a10
     |10, _ =>
      cases ho
      have e4' := a4 (hdep 4 (by decide))
      have e9' := a9 (hdep 9 (by decide))
      clear hd hv hq hdep hb a0' a3 a4 a8 a9 a10
      go_wp2
      obtain ⟨a0', a3, a4, a8, a9, a10⟩ := A.out
      refine ⟨.agg #[.int .i64 (mn a0 g), .int .i64 (mx b0 g)], by simp [upf, e4', e9'], zk ⟨a0', ?_, ?_, ?_, ?_, fun _ => upf_self _ _ _⟩⟩
      ·rw [upd_ne (by decide), upf_ne (by decide)]; exact a3
      ·rw [upd_ne (by decide), upf_ne (by decide)]; exact a4
      ·rw [upd_ne (by decide), upf_ne (by decide)]; exact a8
      ·rw [upd_ne (by decide), upf_ne (by decide)]; exact a9
     |j + 11, hi => exact absurd hi (by omega)
    ·intro f u W' hall hM hd
     have e10' := hM.out.m10 (hall 10 (by decide))
     have HBW := zk (BW.out.below hM.out.bw)
     have H8 := zk HBW.out.h8
     obtain ⟨c_p8_0, f_p8_0, c_p8_1, f_p8_1, l_p8⟩ := cl2 (W := W') (p := p8) (a := .int .i64 a0) (b := .int .i64 b0) H8.out
     clear hall hd hM
     go_wp2
     go_roundg (l.length - (kk + 1))
     case measure => omega
     case rel =>
      refine ⟨kk + 1, by have := HLT.out; omega, by have := HLT.out; omega, by rw [wrap64_in _ (by have := HLT.out; have := HL16.out; omega)]; rfl, ⟨?_⟩⟩
      rw [S1.out]
      exact HBW.out.set HP8.out ⟨mn a0 g, mx b0 g⟩
   ·have hltz : decide ((kk : Int) < (l.length : Int)) = false := by simpa using hlt
    have hk2 : kk = l.length := by omega
    subst hk2
    have ht : l.take l.length = l := List.take_length
    rw [ht] at BW
    obtain ⟨q0, eq0⟩ : ∃ q0, q0 = l.foldl manyS ⟨s.shells.length, 0⟩ := ⟨_, rfl⟩
    rw [← eq0] at BW HR
    obtain ⟨a0, b0⟩ := q0
    have H8 := zk BW.out.h8
    have H5W := zk BW.out.h4
    obtain ⟨c_p8_0, f_p8_0, c_p8_1, f_p8_1, l_p8⟩ := cl2 (W := wr) (p := p8) (a := .int .i64 a0) (b := .int .i64 b0) H8.out
    obtain ⟨c_p4_0, f_p4_0, c_p4_1, f_p4_1, l_p4⟩ := cl2 (W := wr) (p := p4) (a := .int .i64 0) (b := .int .i64 0) H5W.out
    clear hlt eq0 ht
    go_wp2
    refine bodyPost_ret (results_ct rfl _ _ p4 47 #[.int .i64 a0, .int .i64 b0] (0, 0) _ rfl (blk_put (blk_put H5W.out 0 _ rfl) 1 _ rfl) Tryz.underlying47 rfl (by kernel_rfl)) rfl ⟨by rw [HR.out]; rfl, ?_⟩
    exact below_set (below_set BW.out.b HP4.out) HP4.out
 ·have hEb : (E != 0) = true := by simpa using hE
  rw [if_neg hE] at HR
  clear hE
  go_enter Tryz.func49, Tryz.ntmps49
  go_wp2_with (first
   |((go_at_call 85; (with_reducible refine (HASK.out _ (Kd.C_alloc (Kd.C_alloc (Kd.C_alloc HF1.out _) _) _) (Kd.C_alloc (Kd.C_alloc (Kd.C_alloc HF2.out _) _) _) (Kd.C_alloc (Kd.C_alloc (Kd.C_alloc HF3.out _) _) _)).mono ?_); rintro e W1 ⟨rfl, hB⟩; have HB := zk (bt ((((below1 (w := w) (.cells #[.int .i64 s.years, .slice s.A1 s.rivers.length s.c1] 24)).alloc (by simp) (.cells #[.slice s.A2 s.shells.length s.c2, .slice s.A3 s.tests.length s.c3] 39)).alloc (by simp; omega) (.cells #[.int .i64 0, .int .i64 0] 47))) hB); have H4 := zk (blk_below H40.out hB); have H5 := zk (blk_below H50.out hB); obtain ⟨p3, e3⟩ : ∃ p3, p3 = w.heap.size + 1 := ⟨_, rfl⟩; obtain ⟨p4, e4⟩ : ∃ p4, p4 = w.heap.size + 1 + 1 := ⟨_, rfl⟩; rw [← e4] at H5; rw [← e3] at H4; rw [← e4, ← e3]; have HP4 := zk (show w.heap.size ≤ p4 by omega); clear hB e3 e4)
     obtain ⟨c_p4_0, f_p4_0, c_p4_1, f_p4_1, l_p4⟩ := cl2 (W := W1) (p := p4) (a := .int .i64 0) (b := .int .i64 0) H5.out
     skip))
  refine bodyPost_ret (results_ct rfl _ _ p4 47 #[.int .i64 0, .int .i64 0] (0, 0) _ rfl (blk_alloc (blk_put (blk_put H5.out 0 _ rfl) 1 _ rfl) _) Tryz.underlying47 rfl (by kernel_rfl)) rfl ⟨by rw [HR.out]; rfl, ?_⟩
  exact below_alloc (below_set (below_set HB.out HP4.out) HP4.out) _
end Go.Proofs.YtfijblhfgfefoaaGreatDoor.Rv
namespace Go.Proofs.YtfijblhfgfefoaaGreatDoor.PAll
open Go.RowKit Go.Proofs.YtfijblhfgfefoaaGreatDoor.Rv Go.Proofs.YtfijblhfgfefoaaGreatDoorW.PrintWords Go.Proofs.YtfijblhfgfefoaaGreatDoorW.PrintLast
def river_Closed.f (a0_0 : Int) (l0_1 : List (S43)) (l1_0 : List (S45)) (l1_1 : List (S59)) : Option (Int × Int × Int) := some ((closedR a0_0 l0_1 l1_0 l1_1).1.f0, (closedR a0_0 l0_1 l1_0 l1_1).1.f1, (closedR a0_0 l0_1 l1_0 l1_1).2)
theorem river_Closed.calls (a0_0 : Int) (A0_1 : Option Addr) (c0_1 : Nat) (l0_1 : List (S43)) (A1_0 : Option Addr) (c1_0 : Nat) (l1_0 : List (S45)) (A1_1 : Option Addr) (c1_1 : Nat) (l1_1 : List (S59)) (r1 : Int) (r2 : Int) (r3 : Int) (w : World) (hr0_1 : Kd.C k43 w A0_1 l0_1.length l0_1) (hc0_1 : l0_1.length ≤ c0_1) (hr1_0 : Kd.C k45 w A1_0 l1_0.length l1_0) (hc1_0 : l1_0.length ≤ c1_0) (hr1_1 : Kd.C k59 w A1_1 l1_1.length l1_1) (hc1_1 : l1_1.length ≤ c1_1) (h : river_Closed.f a0_0 l0_1 l1_0 l1_1 = some (r1, r2, r3)) :
 Calls Tryz.prog 49 #[.agg #[.int .i64 a0_0, .slice A0_1 l0_1.length c0_1], .agg #[.slice A1_0 l1_0.length c1_0, .slice A1_1 l1_1.length c1_1]] w fun e w' => e = .returned (.tuple #[.agg #[.int .i64 r1, .int .i64 r2], .int .i64 r3]) ∧ Below w.heap.size w w' := by
 cases h
 exact Closed_calls ⟨a0_0, A0_1, c0_1, l0_1, A1_0, c1_0, l1_0, A1_1, c1_1, l1_1⟩ ⟨hc0_1, hc1_0, hc1_1⟩ w hr0_1 hr1_0 hr1_1
end Go.Proofs.YtfijblhfgfefoaaGreatDoor.PAll
end
section
namespace Go.Proofs.YtfijblhfgfefoaaGreatDoor.PAll
open Go.RowKit Go.Proofs.YtfijblhfgfefoaaGreatDoor.Rv Go.Proofs.YtfijblhfgfefoaaGreatDoorW.PrintWords Go.Proofs.YtfijblhfgfefoaaGreatDoorW.PrintLast
def river_Tests.f (a0_0 : Int) (l0_1 : List (S43)) (l1_0 : List (S45)) (l1_1 : List (S59)) (a2 : Int) : Option (Int × Int × Int) := some (testsR a0_0 l0_1 l1_0 l1_1 a2)
theorem river_Tests.calls (a0_0 : Int) (A0_1 : Option Addr) (c0_1 : Nat) (l0_1 : List (S43)) (A1_0 : Option Addr) (c1_0 : Nat) (l1_0 : List (S45)) (A1_1 : Option Addr) (c1_1 : Nat) (l1_1 : List (S59)) (a2 : Int) (r1 : Int) (r2 : Int) (r3 : Int) (w : World) (hr0_1 : Kd.C k43 w A0_1 l0_1.length l0_1) (hc0_1 : l0_1.length ≤ c0_1) (hr1_0 : Kd.C k45 w A1_0 l1_0.length l1_0) (hc1_0 : l1_0.length ≤ c1_0) (hr1_1 : Kd.C k59 w A1_1 l1_1.length l1_1) (hc1_1 : l1_1.length ≤ c1_1) (h : river_Tests.f a0_0 l0_1 l1_0 l1_1 a2 = some (r1, r2, r3)) :
 Calls Tryz.prog 35 #[.agg #[.int .i64 a0_0, .slice A0_1 l0_1.length c0_1], .agg #[.slice A1_0 l1_0.length c1_0, .slice A1_1 l1_1.length c1_1], .int .i64 a2] w fun e w' => e = .returned (.tuple #[.int .i64 r1, .int .i64 r2, .int .i64 r3]) ∧ Below w.heap.size w w' := by
 have h' : testsR a0_0 l0_1 l1_0 l1_1 a2 = (r1, r2, r3) := Option.some.inj h
 have := Tests_calls ⟨a0_0, A0_1, c0_1, l0_1, A1_0, c1_0, l1_0, A1_1, c1_1, l1_1⟩ a2 ⟨hc0_1, hc1_0, hc1_1⟩ w hr0_1 hr1_0 hr1_1
 simp only [h'] at this
 exact this
end Go.Proofs.YtfijblhfgfefoaaGreatDoor.PAll
end
section
namespace Go.Proofs.YtfijblhfgfefoaaGreatDoor.Rv
open Go.RowKit Go.Shelf Go.IntWalk Go.Proofs.YtfijblhfgfefoaaGreatDoor.PAll Go.Proofs.YtfijblhfgfefoaaGreatDoorW.PrintWords Go.Proofs.YtfijblhfgfefoaaGreatDoorW.PrintLast
def leastY (r : S43) (y : Int) : Int := mx 0 ((rd_T47 r.f0 y).f0 - r.f1)
def greatY (r : S43) (y : Int) : Int := (rd_T47 r.f0 y).f1 + r.f1
set_option maxRecDepth 100000 in
set_option maxHeartbeats 1000000 in
theorem great_calls (A : Option Addr) (c : Nat) (l : List S47) (v cl y : Int) (w : World) (hr : Kd.C k47 w A l.length l) (h0 : 0 ≤ y) (h1 : y < l.length) (hb : -1000 ≤ (rd_T47 l y).f1 + v ∧ (rd_T47 l y).f1 + v ≤ 1000) :
 Calls Tryz.prog 99 #[.agg #[.slice A l.length c, .int .i64 v, .int .i64 cl], .int .i64 y] w fun e w' => e = .returned (.int .i64 ((rd_T47 l y).f1 + v)) ∧ Below w.heap.size w w' := by
 have hu165 := Tryz.underlying165
 obtain ⟨ad, hA, d0, d1⟩ := at_T47 hr y h0 h1
 subst hA
 have hbig := Kd.C_max hr
 obtain ⟨x1, e1⟩ : ∃ x1, x1 = (rd_T47 l y).f1 := ⟨_, rfl⟩
 rw [← e1] at d1 hb ⊢
 clear e1 hr
 have hn : y.toNat < l.length := by omega
 obtain ⟨n, rfl⟩ : ∃ n : Nat, y = n := ⟨y.toNat, by omega⟩
 simp only [Int.toNat_natCast] at d0 d1 hn
 go_enter Tryz.func99, Tryz.ntmps99
 go_wp2
 have HB := zk (below1 (w := w) (.cells #[.slice (some ad) l.length c, .int .i64 v, .int .i64 cl] 165))
 have b2 := blk_new w (.cells #[.slice (some ad) l.length c, .int .i64 v, .int .i64 cl] 165)
 replace d0 := (HB.out.cell (World.block_lt_of_cell? w _ d0)).trans d0
 replace d1 := (HB.out.cell (World.block_lt_of_cell? w _ d1)).trans d1
 generalize w.alloc (.cells #[.slice (some ad) l.length c, .int .i64 v, .int .i64 cl] 165) = w1 at HB b2 d0 d1 ⊢
 obtain ⟨p2, e2⟩ : ∃ p2, p2 = w.heap.size := ⟨_, rfl⟩
 rw [← e2] at b2 ⊢
 have H2 := zk b2
 clear b2 e2
 obtain ⟨c_p2_0, f_p2_0, c_p2_1, f_p2_1, c_p2_2, f_p2_2, l_p2⟩ := cl3 (W := w1) (p := p2) (a := .slice (some ad) l.length c) (b := .int .i64 v) (c := .int .i64 cl) H2.out
 repeat (go_quiet (first | (go_at_call 1000)); try go_wp2)
 go_ret
 exact ⟨rfl, pw_below_drewN HB.out _⟩
end Go.Proofs.YtfijblhfgfefoaaGreatDoor.Rv
end
