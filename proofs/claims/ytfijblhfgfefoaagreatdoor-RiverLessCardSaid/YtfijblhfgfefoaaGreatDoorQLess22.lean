/- A part of the proof: words, contracts of functions, and their walks. -/
import Derived.Test.YtfijblhfgfefoaaGreatDoorQLess3
import Derived.Test.YtfijblhfgfefoaaGreatDoorQLess6
import Derived.Test.YtfijblhfgfefoaaGreatDoorQLess16
import Derived.Test.YtfijblhfgfefoaaGreatDoorQLess21
set_option linter.unusedVariables false
set_option linter.unusedSimpArgs false
section
namespace Go.Proofs.YtfijblhfgfefoaaGreatDoor.Rv
open Go.RowKit Go.Shelf Go.IntWalk Go.Proofs.YtfijblhfgfefoaaGreatDoor.PAll Go.Proofs.YtfijblhfgfefoaaGreatDoorW.PrintWords Go.Proofs.YtfijblhfgfefoaaGreatDoorW.PrintLast
def akT (y : Int) (B1 B2 B3 : Option Addr) (n1 n2 n3 d1 d2 d3 : Nat) : Value := .agg #[.int .i64 y, .slice B1 n1 d1, .slice B2 n2 d2, .slice B3 n3 d3]
def akC (y : Int) (B1 B2 B3 : Option Addr) (n1 n2 n3 d1 d2 d3 : Nat) : Obj := .cells #[.int .i64 y, .slice B1 n1 d1, .slice B2 n2 d2, .slice B3 n3 d3] 138 (0, 0)
structure AkO (o : Nat) (y : Int) (B1 B2 B3 : Option Addr) (n1 n2 n3 d1 d2 d3 : Nat) (E : Int) (W0 : World) (b : Nat → Bool) (u : Nat → Value) (W : World) : Prop where
 bw : Below W0.heap.size W0 W
 m0 : b o = true → u o = .tuple #[akT y B1 B2 B3 n1 n2 n3 d1 d2 d3, .int .i64 E]
 m1 : b (o + 1) = true → u (o + 1) = .tuple #[akT y B1 B2 B3 n1 n2 n3 d1 d2 d3, .int .i64 E]
 m2 : b (o + 2) = true → u (o + 2) = akT y B1 B2 B3 n1 n2 n3 d1 d2 d3
 m3 : b (o + 3) = true → u (o + 3) = .int .i64 E
 m4 : b (o + 4) = true → ∃ p, u (o + 4) = .pointer (some ⟨p, 0, none⟩) ∧ W0.heap.size ≤ p ∧ (b (o + 5) = false → W.heap[p]? = some (akC 0 none none none 0 0 0 0 0 0)) ∧ (b (o + 5) = true → W.heap[p]? = some (akC y B1 B2 B3 n1 n2 n3 d1 d2 d3))
section
variable {o : Nat} {y : Int} {B1 B2 B3 : Option Addr} {n1 n2 n3 d1 d2 d3 : Nat} {E : Int} {W0 : World} {b : Nat → Bool} {u : Nat → Value} {W : World}
theorem AkO.init (h : Below W0.heap.size W0 W) (hb : ∀ i, o ≤ i → i ≤ o + 4 → b i = false) : AkO o y B1 B2 B3 n1 n2 n3 d1 d2 d3 E W0 b u W := by
 refine ⟨h, fun h => ?_, fun h => ?_, fun h => ?_, fun h => ?_, fun h => ?_⟩ <;> rw [hb _ (by omega) (by omega)] at h <;> cases h
theorem AkO.other (h : AkO o y B1 B2 B3 n1 n2 n3 d1 d2 d3 E W0 b u W) {i : Nat} (v : Value) (hi : i < o ∨ o + 5 < i) : AkO o y B1 B2 B3 n1 n2 n3 d1 d2 d3 E W0 (upd b i) (upf u i v) W := by
 refine ⟨h.bw, ?_, ?_, ?_, ?_, ?_⟩
 ·rw [upd_ne (by omega), upf_ne (by omega)]; exact h.m0
 ·rw [upd_ne (by omega), upf_ne (by omega)]; exact h.m1
 ·rw [upd_ne (by omega), upf_ne (by omega)]; exact h.m2
 ·rw [upd_ne (by omega), upf_ne (by omega)]; exact h.m3
 ·rw [upd_ne (by omega), upd_ne (by omega), upf_ne (by omega)]; exact h.m4
theorem AkO.s0 (h : AkO o y B1 B2 B3 n1 n2 n3 d1 d2 d3 E W0 b u W) {W' : World} (hB : Below W.heap.size W W') : AkO o y B1 B2 B3 n1 n2 n3 d1 d2 d3 E W0 (upd b o) (upf u o (.tuple #[akT y B1 B2 B3 n1 n2 n3 d1 d2 d3, .int .i64 E])) W' := by
 refine ⟨bt h.bw hB, fun _ => upf_self _ _ _, ?_, ?_, ?_, ?_⟩
 ·rw [upd_ne (by omega), upf_ne (by omega)]; exact h.m1
 ·rw [upd_ne (by omega), upf_ne (by omega)]; exact h.m2
 ·rw [upd_ne (by omega), upf_ne (by omega)]; exact h.m3
 ·rw [upd_ne (by omega), upd_ne (by omega), upf_ne (by omega)]
  intro hh
  obtain ⟨p, g1, g2, g3, g4⟩ := h.m4 hh
  exact ⟨p, g1, g2, fun h => blk_below (g3 h) hB, fun h => blk_below (g4 h) hB⟩
theorem AkO.s1 (h : AkO o y B1 B2 B3 n1 n2 n3 d1 d2 d3 E W0 b u W) : AkO o y B1 B2 B3 n1 n2 n3 d1 d2 d3 E W0 (upd b (o + 1)) (upf u (o + 1) (.tuple #[akT y B1 B2 B3 n1 n2 n3 d1 d2 d3, .int .i64 E])) W := by
 refine ⟨h.bw, ?_, fun _ => upf_self _ _ _, ?_, ?_, ?_⟩
 ·rw [upd_ne (by omega), upf_ne (by omega)]; exact h.m0
 ·rw [upd_ne (by omega), upf_ne (by omega)]; exact h.m2
 ·rw [upd_ne (by omega), upf_ne (by omega)]; exact h.m3
 ·rw [upd_ne (by omega), upd_ne (by omega), upf_ne (by omega)]; exact h.m4
theorem AkO.s2 (h : AkO o y B1 B2 B3 n1 n2 n3 d1 d2 d3 E W0 b u W) : AkO o y B1 B2 B3 n1 n2 n3 d1 d2 d3 E W0 (upd b (o + 2)) (upf u (o + 2) (akT y B1 B2 B3 n1 n2 n3 d1 d2 d3)) W := by
 refine ⟨h.bw, ?_, ?_, fun _ => upf_self _ _ _, ?_, ?_⟩
 ·rw [upd_ne (by omega), upf_ne (by omega)]; exact h.m0
 ·rw [upd_ne (by omega), upf_ne (by omega)]; exact h.m1
 ·rw [upd_ne (by omega), upf_ne (by omega)]; exact h.m3
 ·rw [upd_ne (by omega), upd_ne (by omega), upf_ne (by omega)]; exact h.m4
theorem AkO.s3 (h : AkO o y B1 B2 B3 n1 n2 n3 d1 d2 d3 E W0 b u W) : AkO o y B1 B2 B3 n1 n2 n3 d1 d2 d3 E W0 (upd b (o + 3)) (upf u (o + 3) (.int .i64 E)) W := by
 refine ⟨h.bw, ?_, ?_, ?_, fun _ => upf_self _ _ _, ?_⟩
 ·rw [upd_ne (by omega), upf_ne (by omega)]; exact h.m0
 ·rw [upd_ne (by omega), upf_ne (by omega)]; exact h.m1
 ·rw [upd_ne (by omega), upf_ne (by omega)]; exact h.m2
 ·rw [upd_ne (by omega), upd_ne (by omega), upf_ne (by omega)]; exact h.m4
theorem AkO.s4 (h : AkO o y B1 B2 B3 n1 n2 n3 d1 d2 d3 E W0 b u W) (h9 : b (o + 5) = false) : AkO o y B1 B2 B3 n1 n2 n3 d1 d2 d3 E W0 (upd b (o + 4)) (upf u (o + 4) (.pointer (some ⟨W.heap.size, 0, none⟩))) (W.alloc (.cells #[.int .i64 0, .slice none 0 0, .slice none 0 0, .slice none 0 0] 138)) := by
 refine ⟨below_alloc h.bw _, ?_, ?_, ?_, ?_, fun _ => ⟨W.heap.size, upf_self _ _ _, h.bw.size, fun _ => blk_new _ _, fun hh => ?_⟩⟩
 ·rw [upd_ne (by omega), upf_ne (by omega)]; exact h.m0
 ·rw [upd_ne (by omega), upf_ne (by omega)]; exact h.m1
 ·rw [upd_ne (by omega), upf_ne (by omega)]; exact h.m2
 ·rw [upd_ne (by omega), upf_ne (by omega)]; exact h.m3
 ·rw [upd_ne (by omega), h9] at hh; cases hh
theorem AkO.s5 (h : AkO o y B1 B2 B3 n1 n2 n3 d1 d2 d3 E W0 b u W) {p : Nat} (v : Value) (h8 : u (o + 4) = .pointer (some ⟨p, 0, none⟩)) (hp : W0.heap.size ≤ p) (hz : W.heap[p]? = some (akC 0 none none none 0 0 0 0 0 0)) :
 AkO o y B1 B2 B3 n1 n2 n3 d1 d2 d3 E W0 (upd b (o + 5)) (upf u (o + 5) v) ((((W.setCell ⟨p, 0, none⟩ (.int .i64 y)).setCell ⟨p, 1, none⟩ (.slice B1 n1 d1)).setCell ⟨p, 2, none⟩ (.slice B2 n2 d2)).setCell ⟨p, 3, none⟩ (.slice B3 n3 d3)) := by
 refine ⟨below_set (below_set (below_set (below_set h.bw hp) hp) hp) hp, ?_, ?_, ?_, ?_, fun _ => ⟨p, ?_, hp, fun hh => ?_, fun _ => ?_⟩⟩
 ·rw [upd_ne (by omega), upf_ne (by omega)]; exact h.m0
 ·rw [upd_ne (by omega), upf_ne (by omega)]; exact h.m1
 ·rw [upd_ne (by omega), upf_ne (by omega)]; exact h.m2
 ·rw [upd_ne (by omega), upf_ne (by omega)]; exact h.m3
 ·rw [upf_ne (by omega)]; exact h8
 ·rw [upd_self] at hh; cases hh
 ·exact blk_put (blk_put (blk_put (blk_put hz 0 _ rfl) 1 _ rfl) 2 _ rfl) 3 _ rfl
end
def AkVal (s : Sk) (E y : Int) (B1 B2 B3 : Option Addr) (n1 n2 n3 d1 d2 d3 : Nat) : Prop :=
 E = 0 → y = s.years ∧ B1 = s.A1 ∧ B2 = s.A2 ∧ B3 = s.A3 ∧ n1 = s.rivers.length ∧ n2 = s.shells.length ∧ n3 = s.tests.length ∧ d1 = s.c1 ∧ d2 = s.c2 ∧ d3 = s.c3
theorem asked_one (s : Sk) (fine : Bool) (hc : s.rivers.length ≤ s.c1 ∧ s.shells.length ≤ s.c2 ∧ s.tests.length ≤ s.c3) : ∃ (y : Int) (B1 B2 B3 : Option Addr) (n1 n2 n3 d1 d2 d3 : Nat), AkVal s (askedE s.years s.rivers s.shells s.tests fine) y B1 B2 B3 n1 n2 n3 d1 d2 d3 ∧
 ∀ w : World, Kd.C k43 w s.A1 s.rivers.length s.rivers → Kd.C k45 w s.A2 s.shells.length s.shells → Kd.C k59 w s.A3 s.tests.length s.tests →
  Calls Tryz.prog 85 #[.agg #[.int .i64 s.years, .slice s.A1 s.rivers.length s.c1], .agg #[.slice s.A2 s.shells.length s.c2, .slice s.A3 s.tests.length s.c3], .bool fine] w fun e w' =>
   e = .returned (.tuple #[.agg #[.int .i64 y, .slice B1 n1 d1, .slice B2 n2 d2, .slice B3 n3 d3], .int .i64 (askedE s.years s.rivers s.shells s.tests fine)]) ∧ Below w.heap.size w w' := by
 by_cases h : askedE s.years s.rivers s.shells s.tests fine = 0
 ·refine ⟨s.years, s.A1, s.A2, s.A3, s.rivers.length, s.shells.length, s.tests.length, s.c1, s.c2, s.c3, fun _ => ⟨rfl, rfl, rfl, rfl, rfl, rfl, rfl, rfl, rfl, rfl⟩, fun w f1 f2 f3 => (asked_calls s fine hc w f1 f2 f3).mono ?_⟩
  rintro e w' ⟨hb, ⟨ha, rfl⟩ | ⟨ha, rfl⟩⟩
  ·exact ⟨by rw [ha]; rfl, hb⟩
  ·exact absurd h ha
 ·refine ⟨0, none, none, none, 0, 0, 0, 0, 0, 0, fun h' => absurd h' h, fun w f1 f2 f3 => (asked_calls s fine hc w f1 f2 f3).mono ?_⟩
  rintro e w' ⟨hb, ⟨ha, rfl⟩ | ⟨ha, rfl⟩⟩
  ·exact absurd ha h
  ·exact ⟨rfl, hb⟩
theorem asked_good {s : Sk} {fine : Bool} (h : askedE s.years s.rivers s.shells s.tests fine = 0) : Good s ∧ s.shells.length ≤ 4 := by
 unfold askedE at h
 split at h
 ·rename_i hc
  simp only [Bool.and_eq_true] at hc
  refine ⟨good_of (goodB_of hc.1.1 hc.1.2), ?_⟩
  have h2 := hc.1.2
  unfold isSackB at h2
  simp only [Bool.and_eq_true, inB_iff] at h2
  omega
 ·cases h
end Go.Proofs.YtfijblhfgfefoaaGreatDoor.Rv
end
section
namespace Go.Proofs.YtfijblhfgfefoaaGreatDoor.Rv
open Go.RowKit Go.Shelf Go.IntWalk Go.Proofs.YtfijblhfgfefoaaGreatDoor.PAll Go.Proofs.YtfijblhfgfefoaaGreatDoorW.PrintWords Go.Proofs.YtfijblhfgfefoaaGreatDoorW.PrintLast
def originsR (years : Int) (rivers : List S43) (shells : List S45) (tests : List S59) (n : Int) : List S27 × Int :=
 if askedE years rivers shells tests (inB n 0 ((shells.length : Int) - 1)) = 0 then (couldL (sk years rivers shells tests) n.toNat, 0) else ([], askedE years rivers shells tests (inB n 0 ((shells.length : Int) - 1)))
theorem asked_fine {s : Sk} {fine : Bool} (h : askedE s.years s.rivers s.shells s.tests fine = 0) : fine = true := by
 unfold askedE at h
 split at h
 ·rename_i hc
  simp only [Bool.and_eq_true] at hc
  exact hc.2
 ·cases h
set_option maxRecDepth 100000 in
set_option maxHeartbeats 4000000 in
theorem Origins_calls (s : Sk) (n : Int) (hc : s.rivers.length ≤ s.c1 ∧ s.shells.length ≤ s.c2 ∧ s.tests.length ≤ s.c3) (w : World)
 (f1 : Kd.C k43 w s.A1 s.rivers.length s.rivers) (f2 : Kd.C k45 w s.A2 s.shells.length s.shells) (f3 : Kd.C k59 w s.A3 s.tests.length s.tests) :
 Calls Tryz.prog 32 #[.agg #[.int .i64 s.years, .slice s.A1 s.rivers.length s.c1], .agg #[.slice s.A2 s.shells.length s.c2, .slice s.A3 s.tests.length s.c3], .int .i64 n] w fun e w' =>
  ∃ v, e = .returned (.tuple #[v, .int .i64 (originsR s.years s.rivers s.shells s.tests n).2]) ∧ Kd.R k27 27 w' w.heap.size (fun _ => True) v (originsR s.years s.rivers s.shells s.tests n).1 ∧ Below w.heap.size w w' := by
 have hu24 := Tryz.underlying24
 have hu39 := Tryz.underlying39
 have hu138 := Tryz.underlying138
 have hmax := Kd.C_max f2
 have HC := zk hc
 have hwr : wrap64 ((s.shells.length : Int) - 1) = (s.shells.length : Int) - 1 := wrap64_in _ (by omega)
 obtain ⟨y, B1, B2, B3, n1, n2, n3, d1, d2, d3, hval, hask⟩ := asked_one s (inB n 0 ((s.shells.length : Int) - 1)) hc
 have HR := zk (show originsR s.years s.rivers s.shells s.tests n = if askedE s.years s.rivers s.shells s.tests (inB n 0 ((s.shells.length : Int) - 1)) = 0 then (couldL (sk s.years s.rivers s.shells s.tests) n.toNat, 0) else ([], askedE s.years s.rivers s.shells s.tests (inB n 0 ((s.shells.length : Int) - 1))) from rfl)
 have HGO := zk (asked_good (s := s) (fine := inB n 0 ((s.shells.length : Int) - 1)))
 have HFI := zk (asked_fine (s := s) (fine := inB n 0 ((s.shells.length : Int) - 1)))
 obtain ⟨E, eE⟩ : ∃ E, E = askedE s.years s.rivers s.shells s.tests (inB n 0 ((s.shells.length : Int) - 1)) := ⟨_, rfl⟩
 obtain ⟨q, eq⟩ : ∃ q, q = originsR s.years s.rivers s.shells s.tests n := ⟨_, rfl⟩
 rw [← eE] at hval hask HR HGO HFI
 rw [← eq] at HR ⊢
 have HVAL := zk hval
 have HASK := zk hask
 have HF1 := zk f1
 have HF2 := zk f2
 have HF3 := zk f3
 have HWR := zk hwr
 clear hc hval hask f1 f2 f3 eE eq hwr
 go_enter Tryz.func32, Tryz.ntmps32
 go_wp2
 have HB := zk ((below1 (w := w) (.cells #[.int .i64 s.years, .slice s.A1 s.rivers.length s.c1] 24)).alloc (by simp) (.cells #[.slice s.A2 s.shells.length s.c2, .slice s.A3 s.tests.length s.c3] 39))
 have H3 := zk (blk_alloc (blk_new w (.cells #[.int .i64 s.years, .slice s.A1 s.rivers.length s.c1] 24)) (.cells #[.slice s.A2 s.shells.length s.c2, .slice s.A3 s.tests.length s.c3] 39))
 have h4 := blk_new (w.alloc (.cells #[.int .i64 s.years, .slice s.A1 s.rivers.length s.c1] 24)) (.cells #[.slice s.A2 s.shells.length s.c2, .slice s.A3 s.tests.length s.c3] 39)
 simp only [World.size_alloc] at h4
 have H4 := zk h4
 clear h4
 generalize (w.alloc (.cells #[.int .i64 s.years, .slice s.A1 s.rivers.length s.c1] 24)).alloc (.cells #[.slice s.A2 s.shells.length s.c2, .slice s.A3 s.tests.length s.c3] 39) = W0 at HB H3 H4 ⊢
 obtain ⟨p3, e3⟩ : ∃ p3, p3 = w.heap.size := ⟨_, rfl⟩
 obtain ⟨p4, e4⟩ : ∃ p4, p4 = w.heap.size + 1 := ⟨_, rfl⟩
 rw [← e4] at H4
 rw [← e3] at H3
 rw [← e4, ← e3]
 clear e3 e4
 refine region_lit (lit := ?lit) 14 [[],[],[],[],[3],[4],[5],[2,6],[0,1,7],[8],[9],[9],[],[0,1,2,3,4,5,6,7,8,9,10,12]]
  [some (.agg #[.int .i64 s.years, .slice s.A1 s.rivers.length s.c1]), some (.agg #[.slice s.A2 s.shells.length s.c2, .slice s.A3 s.tests.length s.c3]), some (.int .i64 n), some (.pointer (some ⟨p4, 0, none⟩)), some (.slice s.A2 s.shells.length s.c2), some (.int .i64 s.shells.length), some (.int .i64 ((s.shells.length : Int) - 1)), some (.bool (inB n 0 ((s.shells.length : Int) - 1))), none, none, none, none, none, none]
  (fun f u W' => Aside0 (AkO 8 y B1 B2 B3 n1 n2 n3 d1 d2 d3 E W0 f u W')) ?hlit (by kernel_rfl) (by kernel_rfl) (by decide) ?_ ?_ ?_ ?_ ?_
 case hlit =>
  intro u
  simp only [List.take_succ_cons, List.take_zero, List.map_cons, List.map_nil, setAll, Nat.reduceAdd, Act.put, List.setIfInBounds_toArray, List.set_cons_succ, List.set_cons_zero]
  try rfl
 ·intro u w2 hw
  exact zk (AkO.init (hw.below _) (fun _ _ _ => rfl))
 ·intro i v f u W' hv h
  refine zk (h.out.other v ?_)
  have k8 : (8 : Nat) ≠ i := by rintro rfl; cases hv
  have k9 : (9 : Nat) ≠ i := by rintro rfl; cases hv
  have k10 : (10 : Nat) ≠ i := by rintro rfl; cases hv
  have k11 : (11 : Nat) ≠ i := by rintro rfl; cases hv
  have k12 : (12 : Nat) ≠ i := by rintro rfl; cases hv
  have k13 : (13 : Nat) ≠ i := by rintro rfl; cases hv
  omega
 ·intro i o' v hi ho hv f u W' hM hdep hd
  have H3W := zk (blk_below H3.out hM.out.bw)
  have H4W := zk (blk_below H4.out hM.out.bw)
  obtain ⟨c_p3_0, f_p3_0, c_p3_1, f_p3_1, l_p3⟩ := cl2 (W := W') (p := p3) (a := .int .i64 s.years) (b := .slice s.A1 s.rivers.length s.c1) H3W.out
  obtain ⟨c_p4_0, f_p4_0, c_p4_1, f_p4_1, l_p4⟩ := cl2 (W := W') (p := p4) (a := .slice s.A2 s.shells.length s.c2) (b := .slice s.A3 s.tests.length s.c3) H4W.out
  clear H3W H4W hM hdep
  replace hi : i < 14 := hi
  match i, hi with
  |0, _ =>
   cases ho
   cases zs hv
   clear hd hv
   go_wp2_with (go_at_call 86; (with_reducible refine (in_q _ _ _ _).mono ?_); rintro e w9 ⟨rfl, rfl⟩)
   exact zt
  |1, _ =>
   cases ho
   cases zs hv
   clear hd hv
   go_wp2_with (go_at_call 86; (with_reducible refine (in_q _ _ _ _).mono ?_); rintro e w9 ⟨rfl, rfl⟩)
   exact zt
  |2, _ =>
   cases ho
   cases zs hv
   clear hd hv
   go_wp2_with (go_at_call 86; (with_reducible refine (in_q _ _ _ _).mono ?_); rintro e w9 ⟨rfl, rfl⟩)
   exact zt
  |3, _ =>
   cases ho
   cases zs hv
   clear hd hv
   go_wp2_with (go_at_call 86; (with_reducible refine (in_q _ _ _ _).mono ?_); rintro e w9 ⟨rfl, rfl⟩)
   exact zt
  |4, _ =>
   cases ho
   cases zs hv
   have e3 := hd 3 _ (by decide) rfl
   clear hd hv
   go_wp2_with (go_at_call 86; (with_reducible refine (in_q _ _ _ _).mono ?_); rintro e w9 ⟨rfl, rfl⟩)
   exact zt
  |5, _ =>
   cases ho
   cases zs hv
   have e4 := hd 4 _ (by decide) rfl
   clear hd hv
   go_wp2_with (go_at_call 86; (with_reducible refine (in_q _ _ _ _).mono ?_); rintro e w9 ⟨rfl, rfl⟩)
   exact zt
  |6, _ =>
   cases ho
   cases zs hv
   have e5 := hd 5 _ (by decide) rfl
   clear hd hv
   go_wp2_with (go_at_call 86; (with_reducible refine (in_q _ _ _ _).mono ?_); rintro e w9 ⟨rfl, rfl⟩)
   exact zt
  |7, _ =>
   cases ho
   cases zs hv
   have e2 := hd 2 _ (by decide) rfl
   have e6 := hd 6 _ (by decide) rfl
   clear hd hv
   go_wp2_with (go_at_call 86; (with_reducible refine (in_q _ _ _ _).mono ?_); rintro e w9 ⟨rfl, rfl⟩)
   exact zt
  |8, _ =>
   cases hv
  |9, _ =>
   cases hv
  |10, _ =>
   cases hv
  |11, _ =>
   cases hv
  |12, _ =>
   cases hv
  |13, _ =>
   cases hv
  |j + 14, hi => exact absurd hi (by omega)
 ·intro i o' hi ho hv f u W' hM hb hdep hq hd
  match i, hi with
  |0, _ => cases hv
  |1, _ => cases hv
  |2, _ => cases hv
  |3, _ => cases hv
  |4, _ => cases hv
  |5, _ => cases hv
  |6, _ => cases hv
  |7, _ => cases hv
  |8, _ =>
   cases ho
   have e0' := hd 0 _ (by decide) rfl
   have e1' := hd 1 _ (by decide) rfl
   have e7' := hd 7 _ (by decide) rfl
   have HCC := zk (HASK.out W' (Kd.C_below (Kd.C_below HF1.out HB.out) hM.out.bw) (Kd.C_below (Kd.C_below HF2.out HB.out) hM.out.bw) (Kd.C_below (Kd.C_below HF3.out HB.out) hM.out.bw))
   clear hd hv hq hdep hb
   go_wp2_with (go_at_call 85; (with_reducible refine HCC.out.mono ?_); rintro e W9 ⟨rfl, hB9⟩)
   exact ⟨_, by simp [upf, akT, e0', e1', e7'], zk (hM.out.s0 hB9)⟩
  |9, _ =>
   cases ho
   have e8' : u 8 = .tuple #[.agg #[.int .i64 y, .slice B1 n1 d1, .slice B2 n2 d2, .slice B3 n3 d3], .int .i64 E] := hM.out.m0 (hdep 8 (by decide))
   clear hd hv hq hdep hb
   go_wp2
   exact ⟨.tuple #[.agg #[.int .i64 y, .slice B1 n1 d1, .slice B2 n2 d2, .slice B3 n3 d3], .int .i64 E], by simp [upf, akT, e8'], zk hM.out.s1⟩
  |10, _ =>
   cases ho
   have e9' : u 9 = .tuple #[.agg #[.int .i64 y, .slice B1 n1 d1, .slice B2 n2 d2, .slice B3 n3 d3], .int .i64 E] := hM.out.m1 (hdep 9 (by decide))
   clear hd hv hq hdep hb
   go_wp2
   exact ⟨_, by simp [upf, akT, e9'], zk hM.out.s2⟩
  |11, _ =>
   cases ho
   have e9' : u 9 = .tuple #[.agg #[.int .i64 y, .slice B1 n1 d1, .slice B2 n2 d2, .slice B3 n3 d3], .int .i64 E] := hM.out.m1 (hdep 9 (by decide))
   clear hd hv hq hdep hb
   go_wp2
   exact ⟨_, by simp [upf, akT, e9'], zk hM.out.s3⟩
  |12, _ =>
   cases ho
   have h13 : f 13 = false := hq 13 (by decide) (by decide)
   clear hd hv hq hdep hb
   go_wp2
   exact ⟨_, by simp [upf], zk (hM.out.s4 h13)⟩
  |13, _ =>
   cases ho
   have e10' : u 10 = .agg #[.int .i64 y, .slice B1 n1 d1, .slice B2 n2 d2, .slice B3 n3 d3] := hM.out.m2 (hdep 10 (by decide))
   obtain ⟨p, e12', g2, g3, g4⟩ := hM.out.m4 (hdep 12 (by decide))
   have H9 := zk (g3 hb)
   have E8 := zk e12'
   have G2 := zk g2
   obtain ⟨c_p_0, f_p_0, c_p_1, f_p_1, c_p_2, f_p_2, c_p_3, f_p_3, l_p⟩ := cl4 (W := W') (p := p) (a := .int .i64 0) (b := .slice none 0 0) (c := .slice none 0 0) (d := .slice none 0 0) H9.out
   clear hd hv hq hdep hb g2 g3 g4
   go_wp2
   exact ⟨undef, by simp [upf, e10', e12']; try rfl, zk (hM.out.s5 _ E8.out G2.out H9.out)⟩
  |j + 14, hi => exact absurd hi (by omega)
 ·intro f u W' hall hM hd
  have e11' : u 11 = .int .i64 E := hM.out.m3 (hall 11 (by decide))
  obtain ⟨p9, e12', g2, g3, g4⟩ := hM.out.m4 (hall 12 (by decide))
  have H9 := zk (g4 (hall 13 (by decide)))
  unfold akC at H9
  have HBW := zk (HB.out.trans (hM.out.bw.mono HB.out.size))
  clear hall hd hM g2 g3 g4
  by_cases hE : E = 0
  ·subst hE
   obtain ⟨v1, v2, v3, v4, v5, v6, v7, v8, v9, v10⟩ := HVAL.out rfl
   subst v1 v2 v3 v4 v5 v6 v7 v8 v9 v10
   obtain ⟨hgood, hs4⟩ := HGO.out rfl
   have hfi := HFI.out rfl
   rw [inB_iff] at hfi
   obtain ⟨m, rfl⟩ := Int.eq_ofNat_of_zero_le hfi.1
   have HPT := zk (could_calls s hgood HC.out m (by omega) W' (Kd.C_below HF1.out HBW.out) (Kd.C_below HF2.out HBW.out) (Kd.C_below HF3.out HBW.out))
   unfold Sk.cells at HPT
   rw [if_pos rfl] at HR
   clear hgood hs4 hfi
   obtain ⟨c_p9_0, f_p9_0, c_p9_1, f_p9_1, c_p9_2, f_p9_2, c_p9_3, f_p9_3, l_p9⟩ := cl4 (W := W') (p := p9) (a := .int .i64 s.years) (b := .slice s.A1 s.rivers.length s.c1) (c := .slice s.A2 s.shells.length s.c2) (d := .slice s.A3 s.tests.length s.c3) H9.out
   go_wp2_with (go_at_call 82; (with_reducible refine HPT.out.mono ?_); rintro e W2 ⟨v, rfl, hR, hb2⟩; have HRR := zk hR; have HB2 := zk (HBW.out.trans (hb2.mono HBW.out.size)); clear hR hb2)
   go_ret2
   refine ⟨v, by rw [HR.out]; rfl, ?_, HB2.out⟩
   rw [HR.out]
   exact Kd.R_lower HRR.out HBW.out.size
  ·have hEb : (E != 0) = true := by simpa using hE
   rw [if_neg hE] at HR
   clear hE
   go_wp2
   go_ret2
   refine ⟨_, by rw [HR.out]; rfl, ?_, HBW.out⟩
   rw [HR.out]
   exact Kd.R_nil _ _ _ _ _
end Go.Proofs.YtfijblhfgfefoaaGreatDoor.Rv
namespace Go.Proofs.YtfijblhfgfefoaaGreatDoor.PAll
open Go.RowKit Go.Proofs.YtfijblhfgfefoaaGreatDoor.Rv Go.Proofs.YtfijblhfgfefoaaGreatDoorW.PrintWords Go.Proofs.YtfijblhfgfefoaaGreatDoorW.PrintLast
def river_Origins.f (a0_0 : Int) (l0_1 : List (S43)) (l1_0 : List (S45)) (l1_1 : List (S59)) (a2 : Int) : Option ((List (S27)) × Int) := some (originsR a0_0 l0_1 l1_0 l1_1 a2)
theorem river_Origins.calls (a0_0 : Int) (A0_1 : Option Addr) (c0_1 : Nat) (l0_1 : List (S43)) (A1_0 : Option Addr) (c1_0 : Nat) (l1_0 : List (S45)) (A1_1 : Option Addr) (c1_1 : Nat) (l1_1 : List (S59)) (a2 : Int) (r1 : List (S27)) (r2 : Int) (w : World) (hr0_1 : Kd.C k43 w A0_1 l0_1.length l0_1) (hc0_1 : l0_1.length ≤ c0_1) (hr1_0 : Kd.C k45 w A1_0 l1_0.length l1_0) (hc1_0 : l1_0.length ≤ c1_0) (hr1_1 : Kd.C k59 w A1_1 l1_1.length l1_1) (hc1_1 : l1_1.length ≤ c1_1) (h : river_Origins.f a0_0 l0_1 l1_0 l1_1 a2 = some (r1, r2)) :
 Calls Tryz.prog 32 #[.agg #[.int .i64 a0_0, .slice A0_1 l0_1.length c0_1], .agg #[.slice A1_0 l1_0.length c1_0, .slice A1_1 l1_1.length c1_1], .int .i64 a2] w fun e w' => ∃ v0_ : Value, e = .returned (.tuple #[v0_, .int .i64 r2]) ∧ Kd.R k27 27 w' w.heap.size (fun _ => True) v0_ r1 ∧ Below w.heap.size w w' := by
 have e := Option.some.inj h
 have h1 := Origins_calls ⟨a0_0, A0_1, c0_1, l0_1, A1_0, c1_0, l1_0, A1_1, c1_1, l1_1⟩ a2 ⟨hc0_1, hc1_0, hc1_1⟩ w hr0_1 hr1_0 hr1_1
 simp only [e] at h1
 exact h1
end Go.Proofs.YtfijblhfgfefoaaGreatDoor.PAll
end
