/- A part of the proof: words, contracts of functions, and their walks. -/
import Derived.OwnWalk
import Derived.Maps.OwnIn
import Derived.LoopIn
import Derived.Test.YtfijblhfgfefoaaGreatDoorQLess3
import Derived.Test.YtfijblhfgfefoaaGreatDoorQLess17
import Derived.Test.YtfijblhfgfefoaaGreatDoorQLess22
import Derived.Test.YtfijblhfgfefoaaGreatDoorQLess26
import Derived.Test.YtfijblhfgfefoaaGreatDoorQLess27
set_option linter.unusedVariables false
set_option linter.unusedSimpArgs false
section
namespace Go.Proofs.YtfijblhfgfefoaaGreatDoor.Rv
open Go.RowKit Go.Shelf Go.IntWalk Go.Proofs.YtfijblhfgfefoaaGreatDoor.PAll Go.Proofs.YtfijblhfgfefoaaGreatDoorW.PrintWords Go.Proofs.YtfijblhfgfefoaaGreatDoorW.PrintLast
open Go.Maps
def testsR (years : Int) (rivers : List S43) (shells : List S45) (tests : List S59) (many : Int) : Int × Int × Int :=
 if askedE years rivers shells tests (inB many 0 4) = 0 then
  (if knownB many (patternsL (sk years rivers shells tests)) = true then (0, 0, 5)
   else ((bestP many (patternsL (sk years rivers shells tests))).1, (bestP many (patternsL (sk years rivers shells tests))).2, 0))
 else (0, 0, askedE years rivers shells tests (inB many 0 4))
set_option maxRecDepth 100000 in
set_option maxHeartbeats 4000000 in
theorem Tests_calls (s : Sk) (many : Int) (hc : s.rivers.length ≤ s.c1 ∧ s.shells.length ≤ s.c2 ∧ s.tests.length ≤ s.c3) (w : World)
 (f1 : Kd.C k43 w s.A1 s.rivers.length s.rivers) (f2 : Kd.C k45 w s.A2 s.shells.length s.shells) (f3 : Kd.C k59 w s.A3 s.tests.length s.tests) :
 Calls Tryz.prog 35 #[.agg #[.int .i64 s.years, .slice s.A1 s.rivers.length s.c1], .agg #[.slice s.A2 s.shells.length s.c2, .slice s.A3 s.tests.length s.c3], .int .i64 many] w fun e w' =>
  e = .returned (.tuple #[.int .i64 (testsR s.years s.rivers s.shells s.tests many).1, .int .i64 (testsR s.years s.rivers s.shells s.tests many).2.1, .int .i64 (testsR s.years s.rivers s.shells s.tests many).2.2]) ∧ Below w.heap.size w w' := by
 have hu24 := Tryz.underlying24
 have hu39 := Tryz.underlying39
 have hu138 := Tryz.underlying138
 have hu154 := Tryz.underlying154
 have hu157 := Tryz.underlying157
 have hmk : ∀ W : World, (Instr.makeMap 152 none).run Tryz.prog W = .ok (.map (some W.heap.size)) (W.alloc (.map #[] 0)) := fun _ => rfl
 have HC := zk hc
 obtain ⟨y, B1, B2, B3, n1, n2, n3, d1, d2, d3, hval, hask⟩ := asked_one s (inB many 0 4) hc
 have HR := zk (show testsR s.years s.rivers s.shells s.tests many = if askedE s.years s.rivers s.shells s.tests (inB many 0 4) = 0 then
  (if knownB many (patternsL (sk s.years s.rivers s.shells s.tests)) = true then (0, 0, 5)
   else ((bestP many (patternsL (sk s.years s.rivers s.shells s.tests))).1, (bestP many (patternsL (sk s.years s.rivers s.shells s.tests))).2, 0))
  else (0, 0, askedE s.years s.rivers s.shells s.tests (inB many 0 4)) from rfl)
 have HGO := zk (asked_good (s := s) (fine := inB many 0 4))
 obtain ⟨E, eE⟩ : ∃ E, E = askedE s.years s.rivers s.shells s.tests (inB many 0 4) := ⟨_, rfl⟩
 obtain ⟨q, eq⟩ : ∃ q, q = testsR s.years s.rivers s.shells s.tests many := ⟨_, rfl⟩
 rw [← eE] at hval hask HR HGO
 rw [← eq] at HR ⊢
 have HVAL := zk hval
 have HASK := zk hask
 have HF1 := zk f1
 have HF2 := zk f2
 have HF3 := zk f3
 clear hc hval hask f1 f2 f3 eE eq
 go_enter Tryz.func35, Tryz.ntmps35
 go_wp2
 have HB := zk ((below1 (w := w) (.cells #[.int .i64 s.years, .slice s.A1 s.rivers.length s.c1] 24)).alloc (by simp) (.cells #[.slice s.A2 s.shells.length s.c2, .slice s.A3 s.tests.length s.c3] 39))
 have H3 := zk (blk_alloc (blk_new w (.cells #[.int .i64 s.years, .slice s.A1 s.rivers.length s.c1] 24)) (.cells #[.slice s.A2 s.shells.length s.c2, .slice s.A3 s.tests.length s.c3] 39))
 have h4 := blk_new (w.alloc (.cells #[.int .i64 s.years, .slice s.A1 s.rivers.length s.c1] 24)) (.cells #[.slice s.A2 s.shells.length s.c2, .slice s.A3 s.tests.length s.c3] 39)
 simp only [World.size_alloc] at h4
 have H4 := zk h4
 clear h4
 generalize (w.alloc (.cells #[.int .i64 s.years, .slice s.A1 s.rivers.length s.c1] 24)).alloc (.cells #[.slice s.A2 s.shells.length s.c2, .slice s.A3 s.tests.length s.c3] 39) = W0 at HB H3 H4 ⊢
 obtain ⟨p3, e3⟩ : ∃ p3, p3 = w.heap.size := ⟨_, rfl⟩
 obtain ⟨p4, e4⟩ : ∃ p4, p4 = w.heap.size + 1 := ⟨_, rfl⟩
 rw [← e4] at H4
 rw [← e3] at H3
 rw [← e4, ← e3]
 clear e3 e4
 refine region_lit (lit := ?lit) 10 [[],[],[],[2],[0,1,3],[4],[5],[5],[],[0,1,2,3,4,5,6,8]]
  [some (.agg #[.int .i64 s.years, .slice s.A1 s.rivers.length s.c1]), some (.agg #[.slice s.A2 s.shells.length s.c2, .slice s.A3 s.tests.length s.c3]), some (.int .i64 many), some (.bool (inB many 0 4)), none, none, none, none, none, none]
  (fun f u W' => Aside0 (AkO 4 y B1 B2 B3 n1 n2 n3 d1 d2 d3 E W0 f u W')) ?hlit (by kernel_rfl) (by kernel_rfl) (by decide) ?_ ?_ ?_ ?_ ?_
 case hlit =>
  intro u
  simp only [List.take_succ_cons, List.take_zero, List.map_cons, List.map_nil, setAll, Nat.reduceAdd, Act.put, List.setIfInBounds_toArray, List.set_cons_succ, List.set_cons_zero]
  try rfl
 ·intro u w2 hw
  exact zk (AkO.init (hw.below _) (fun _ _ _ => rfl))
 ·intro i v f u W' hv h
  refine zk (h.out.other v ?_)
  have k4 : (4 : Nat) ≠ i := by rintro rfl; cases hv
  have k5 : (5 : Nat) ≠ i := by rintro rfl; cases hv
  have k6 : (6 : Nat) ≠ i := by rintro rfl; cases hv
  have k7 : (7 : Nat) ≠ i := by rintro rfl; cases hv
  have k8 : (8 : Nat) ≠ i := by rintro rfl; cases hv
  have k9 : (9 : Nat) ≠ i := by rintro rfl; cases hv
  omega
 ·intro i o' v hi ho hv f u W' hM hdep hd
  have H3W := zk (blk_below H3.out hM.out.bw)
  have H4W := zk (blk_below H4.out hM.out.bw)
  obtain ⟨c_p3_0, f_p3_0, c_p3_1, f_p3_1, l_p3⟩ := cl2 (W := W') (p := p3) (a := .int .i64 s.years) (b := .slice s.A1 s.rivers.length s.c1) H3W.out
  obtain ⟨c_p4_0, f_p4_0, c_p4_1, f_p4_1, l_p4⟩ := cl2 (W := W') (p := p4) (a := .slice s.A2 s.shells.length s.c2) (b := .slice s.A3 s.tests.length s.c3) H4W.out
  clear H3W H4W hM hdep
  replace hi : i < 10 := hi
  match i, hi with
  |0, _ =>
   cases ho
   cases hv
   clear hd
   go_wp2
   exact zt
  |1, _ =>
   cases ho
   cases hv
   clear hd
   go_wp2
   exact zt
  |2, _ =>
   cases ho
   cases hv
   clear hd
   go_wp2
   exact zt
  |3, _ =>
   cases ho
   cases zs hv
   have e2 := hd 2 _ (by decide) rfl
   clear hd hv
   go_wp2_with (go_at_call 86; (with_reducible refine (in_q _ _ _ _).mono ?_); rintro e w9 ⟨rfl, rfl⟩)
   exact zt
  |4, _ => cases hv
  |5, _ => cases hv
  |6, _ => cases hv
  |7, _ => cases hv
  |8, _ => cases hv
  |9, _ => cases hv
  |j + 10, hi => exact absurd hi (by omega)
 ·intro i o' hi ho hv f u W' hM hb hdep hq hd
  match i, hi with
  |0, _ => cases hv
  |1, _ => cases hv
  |2, _ => cases hv
  |3, _ => cases hv
  |4, _ =>
   cases ho
   have e0' := hd 0 _ (by decide) rfl
   have e1' := hd 1 _ (by decide) rfl
   have e3' := hd 3 _ (by decide) rfl
   have HCC := zk (HASK.out W' (Kd.C_below (Kd.C_below HF1.out HB.out) hM.out.bw) (Kd.C_below (Kd.C_below HF2.out HB.out) hM.out.bw) (Kd.C_below (Kd.C_below HF3.out HB.out) hM.out.bw))
   clear hd hv hq hdep hb
   go_wp2_with (go_at_call 85; (with_reducible refine HCC.out.mono ?_); rintro e W9 ⟨rfl, hB9⟩)
   exact ⟨_, by simp [upf, akT, e0', e1', e3'], zk (hM.out.s0 hB9)⟩
  |5, _ =>
   cases ho
   have e4' : u 4 = .tuple #[.agg #[.int .i64 y, .slice B1 n1 d1, .slice B2 n2 d2, .slice B3 n3 d3], .int .i64 E] := hM.out.m0 (hdep 4 (by decide))
   clear hd hv hq hdep hb
   go_wp2
   exact ⟨.tuple #[.agg #[.int .i64 y, .slice B1 n1 d1, .slice B2 n2 d2, .slice B3 n3 d3], .int .i64 E], by simp [upf, akT, e4'], zk hM.out.s1⟩
  |6, _ =>
   cases ho
   have e5' : u 5 = .tuple #[.agg #[.int .i64 y, .slice B1 n1 d1, .slice B2 n2 d2, .slice B3 n3 d3], .int .i64 E] := hM.out.m1 (hdep 5 (by decide))
   clear hd hv hq hdep hb
   go_wp2
   exact ⟨_, by simp [upf, akT, e5'], zk hM.out.s2⟩
  |7, _ =>
   cases ho
   have e5' : u 5 = .tuple #[.agg #[.int .i64 y, .slice B1 n1 d1, .slice B2 n2 d2, .slice B3 n3 d3], .int .i64 E] := hM.out.m1 (hdep 5 (by decide))
   clear hd hv hq hdep hb
   go_wp2
   exact ⟨_, by simp [upf, akT, e5'], zk hM.out.s3⟩
  |8, _ =>
   cases ho
   have h9 : f 9 = false := hq 9 (by decide) (by decide)
   clear hd hv hq hdep hb
   go_wp2
   exact ⟨_, by simp [upf], zk (hM.out.s4 h9)⟩
  |9, _ =>
   cases ho
   have e6' : u 6 = .agg #[.int .i64 y, .slice B1 n1 d1, .slice B2 n2 d2, .slice B3 n3 d3] := hM.out.m2 (hdep 6 (by decide))
   obtain ⟨p, e8', g2, g3, g4⟩ := hM.out.m4 (hdep 8 (by decide))
   have H9 := zk (g3 hb)
   have E8 := zk e8'
   have G2 := zk g2
   obtain ⟨c_p_0, f_p_0, c_p_1, f_p_1, c_p_2, f_p_2, c_p_3, f_p_3, l_p⟩ := cl4 (W := W') (p := p) (a := .int .i64 0) (b := .slice none 0 0) (c := .slice none 0 0) (d := .slice none 0 0) H9.out
   clear hd hv hq hdep hb g2 g3 g4
   go_wp2
   exact ⟨undef, by simp [upf, e6', e8']; try rfl, zk (hM.out.s5 _ E8.out G2.out H9.out)⟩
  |j + 10, hi => exact absurd hi (by omega)
 ·intro f u W' hall hM hd
  have e7' : u 7 = .int .i64 E := hM.out.m3 (hall 7 (by decide))
  obtain ⟨p9, e8', g2, g3, g4⟩ := hM.out.m4 (hall 8 (by decide))
  have H9 := zk (g4 (hall 9 (by decide)))
  unfold akC at H9
  have HBW := zk (HB.out.trans (hM.out.bw.mono HB.out.size))
  have HG2 := zk (show w.heap.size ≤ p9 by have := HB.out.size; omega)
  clear hall hd hM g2 g3 g4
  by_cases hE : E = 0
  ·subst hE
   obtain ⟨v1, v2, v3, v4, v5, v6, v7, v8, v9, v10⟩ := HVAL.out rfl
   subst v1 v2 v3 v4 v5 v6 v7 v8 v9 v10
   obtain ⟨hgood, hs4⟩ := HGO.out rfl
   have HPT := zk (patterns_calls s hgood hs4 HC.out W' (Kd.C_below HF1.out HBW.out) (Kd.C_below HF2.out HBW.out) (Kd.C_below HF3.out HBW.out))
   unfold Sk.cells at HPT
   have HCAN := zk (canon_patterns s)
   rw [if_pos rfl] at HR
   change Aside0 (q = (if knownB many (patternsL s) = true then (0, 0, 5) else ((bestP many (patternsL s)).1, (bestP many (patternsL s)).2, 0))) at HR
   obtain ⟨l, el⟩ : ∃ l, l = patternsL s := ⟨_, rfl⟩
   rw [← el] at HPT HCAN HR
   have HL16 := zk HCAN.out.length
   clear el hgood hs4
   obtain ⟨c_p9_0, f_p9_0, c_p9_1, f_p9_1, c_p9_2, f_p9_2, c_p9_3, f_p9_3, l_p9⟩ := cl4 (W := W') (p := p9) (a := .int .i64 s.years) (b := .slice s.A1 s.rivers.length s.c1) (c := .slice s.A2 s.shells.length s.c2) (d := .slice s.A3 s.tests.length s.c3) H9.out
   obtain ⟨kb, ekb⟩ : ∃ kb, kb = knownB many l := ⟨_, rfl⟩
   obtain ⟨bp, ebp⟩ : ∃ bp, bp = bestP many l := ⟨_, rfl⟩
   have EKB := zk ekb
   have EBP := zk ebp
   rw [← ekb, ← ebp] at HR
   clear ekb ebp
   cases kb with
   |true =>
    go_wp2_with (first
     |(go_at_call 89
       (with_reducible refine HPT.out.mono ?_)
       rintro e W2 ⟨v, rfl, hR, hb2⟩
       obtain ⟨A, c, rfl, hle, hCl⟩ := Kd.R_reads hR
       have HB2 := zk (HBW.out.trans (hb2.mono HBW.out.size))
       have HK := zk (known_calls many W2.heap.size A c l ((W2.alloc (.map #[] 0)).alloc (.cells #[.int .i64 many, .map (some W2.heap.size)] 154)) (Kd.C_alloc (Kd.C_alloc hCl _) _) (by have := HL16.out; omega) (fun m h => HCAN.out.mem h))
       rw [← EKB.out] at HK
       clear hR hle hCl hb2)
     |(go_at_call 90
       (with_reducible refine HK.out.mono ?_)
       rintro e W3 ⟨rfl, hb3⟩))
    go_ret3
    refine ⟨by rw [HR.out]; rfl, ?_⟩
    exact (below_alloc (below_alloc HB2.out _) _).trans (hb3.mono (by have := HB2.out.size; simp; omega))
   |false =>
    go_wp2_with (first
     |(go_at_call 89
       (with_reducible refine HPT.out.mono ?_)
       rintro e W2 ⟨v, rfl, hR, hb2⟩
       obtain ⟨A, c, rfl, hle, hCl⟩ := Kd.R_reads hR
       have HB2 := zk (HBW.out.trans (hb2.mono HBW.out.size))
       have HK := zk (known_calls many W2.heap.size A c l ((W2.alloc (.map #[] 0)).alloc (.cells #[.int .i64 many, .map (some W2.heap.size)] 154)) (Kd.C_alloc (Kd.C_alloc hCl _) _) (by have := HL16.out; omega) (fun m h => HCAN.out.mem h))
       rw [← EKB.out] at HK
       have HCL := zk hCl
       have HLE := zk hle
       have hM0 := zk ((Memo.made many W2).below (below1 (.cells #[.int .i64 many, .map (some W2.heap.size)] 154)))
       have H12 := zk (blk_new (W2.alloc (.map #[] 0)) (.cells #[.int .i64 many, .map (some W2.heap.size)] 154))
       clear hR hle hCl hb2)
     |(go_at_call 90
       (with_reducible refine HK.out.mono ?_)
       rintro e W3 ⟨rfl, hb3⟩
       have HB3 := zk hb3
       have HBE := zk (best_calls many W2.heap.size _ l rfl HCAN.out 0 W3 A c (hM0.out.below hb3) (by have := HL16.out; rw [Nat.zero_add]; exact Nat.le_trans (Nat.pow_le_pow_right (by omega) this) (by decide)) (by have := HLE.out; omega) (Kd.C_below (Kd.C_alloc (Kd.C_alloc HCL.out _) _) hb3))
       rw [← EBP.out] at HBE
       have H13 := zk (blk_below H12.out hb3)
       simp only [World.size_alloc] at H13
       obtain ⟨p12, e12⟩ : ∃ p12, p12 = W2.heap.size + 1 := ⟨_, rfl⟩
       rw [← e12] at H13 ⊢
       clear hb3 e12
       obtain ⟨c_p12_0, f_p12_0, c_p12_1, f_p12_1, l_p12⟩ := cl2 (W := W3) (p := p12) (a := .int .i64 many) (b := .map (some W2.heap.size)) H13.out
       skip)
     |(go_at_call 91
       (with_reducible refine HBE.out.mono ?_)
       rintro e W4 ⟨rfl, _, hc4⟩
       have HC4 := zk hc4
       clear hc4))
    have HBL := zk (show Below w.heap.size w (W4.alloc (.cells #[.int .i64 bp.1, .int .i64 bp.2] 157)) from by
     have h1 : Below w.heap.size w W3 := (below_alloc (below_alloc HB2.out _) _).trans (HB3.out.mono (by have := HB2.out.size; simp; omega))
     have h2 : Below w.heap.size W3 W4 := HC4.out.below (fun k hk => by have := HB2.out.size; omega) h1.size
     exact below_alloc (h1.trans h2) _)
    have H5 := zk (blk_new W4 (.cells #[.int .i64 bp.1, .int .i64 bp.2] 157))
    obtain ⟨p13, e13⟩ : ∃ p13, p13 = W4.heap.size := ⟨_, rfl⟩
    rw [← e13] at H5 ⊢
    clear e13
    generalize W4.alloc (.cells #[.int .i64 bp.1, .int .i64 bp.2] 157) = W5 at HBL H5 ⊢
    refine region_lit (lit := ?lit2) 5 [[],[0],[],[2],[0,1]]
     [some (.pointer (some ⟨p13, 0, none⟩)), some (.int .i64 bp.1), some (.pointer (some ⟨p13, 1, none⟩)), some (.int .i64 bp.2), some (.int .i64 bp.1)]
     (fun f u W' => Aside0 (Below W5.heap.size W5 W')) ?hlit2 (by kernel_rfl) (by kernel_rfl) (by decide) ?_ ?_ ?_ ?_ ?_
    case hlit2 =>
     intro u
     simp only [List.take_succ_cons, List.take_zero, List.map_cons, List.map_nil, setAll, Nat.reduceAdd, Act.put, List.setIfInBounds_toArray, List.set_cons_succ, List.set_cons_zero]
     try rfl
    ·intro u w2 hw
     exact zk (hw.below _)
    ·intro i v f u W' hv h
     exact h
    ·intro i o' v hi ho hv f u W' hM hdep hd
     have H5W := zk (blk_below H5.out hM.out)
     obtain ⟨c_p13_0, f_p13_0, c_p13_1, f_p13_1, l_p13⟩ := cl2 (W := W') (p := p13) (a := .int .i64 bp.1) (b := .int .i64 bp.2) H5W.out
     clear H5W hM hdep
     replace hi : i < 5 := hi
     match i, hi with
     |0, _ =>
      cases ho
      cases zs hv
      clear hd hv
      go_wp2
      exact zt
     |1, _ =>
      cases ho
      cases zs hv
      have e0 := hd 0 _ (by decide) rfl
      clear hd hv
      go_wp2
      exact zt
     |2, _ =>
      cases ho
      cases zs hv
      clear hd hv
      go_wp2
      exact zt
     |3, _ =>
      cases ho
      cases zs hv
      have e2 := hd 2 _ (by decide) rfl
      clear hd hv
      go_wp2
      exact zt
     |4, _ =>
      cases ho
      cases zs hv
      have e0 := hd 0 _ (by decide) rfl
      have e1 := hd 1 _ (by decide) rfl
      clear hd hv
      go_wp2
      exact zt
    ·intro i o' hi ho hv f u W' hM hb hdep hq hd
     match i, hi with
     |0, _ => cases hv
     |1, _ => cases hv
     |2, _ => cases hv
     |3, _ => cases hv
     |4, _ => cases hv
     |j + 5, hi => exact absurd hi (by omega)
    ·intro f u W' hall hM hd
     have e3' := hd 3 _ (by decide) rfl
     have e4' := hd 4 _ (by decide) rfl
     have HBF := zk (HBL.out.trans (hM.out.mono HBL.out.size))
     clear hall hd hM
     go_wp2
     go_ret3
     refine ⟨?_, HBF.out⟩
     rw [HR.out]
     simp [e4']
  ·have hEb : (E != 0) = true := by simpa using hE
   rw [if_neg hE] at HR
   clear hE
   go_wp2
   go_ret3
   exact ⟨by rw [HR.out]; rfl, HBW.out⟩
end Go.Proofs.YtfijblhfgfefoaaGreatDoor.Rv
end
section
namespace Go.Proofs.YtfijblhfgfefoaaGreatDoor.Rv
open Go.RowKit Go.Shelf Go.IntWalk Go.Proofs.YtfijblhfgfefoaaGreatDoor.PAll Go.Proofs.YtfijblhfgfefoaaGreatDoorW.PrintWords Go.Proofs.YtfijblhfgfefoaaGreatDoorW.PrintLast
attribute [local go_sem] Oper.semAt_some wide_fn wide_depth
def OwnsB (v : Value) (gs : List (Nat × Nat)) (k : Nat) : Prop := some k = v.ownBlock ∨ k ∈ gs.map (·.1)
def ownW (p8 D l : Nat) (v : Value) (gs : List (Nat × Nat)) : Nat → Prop := fun k => k = p8 ∨ k = D ∨ k = l ∨ OwnsB v gs k
theorem atL {w : World} {A : Option Addr} {n : Nat} {xs : List (List S47)} (h : (Kd.slice 47 k47).C w A n xs) (i : Nat) (hi : i < n) : ∃ ad Ar cr, A = some ad ∧ w.cell? (ad.add i) = some (.slice Ar (xs.getD i []).length cr) ∧ (xs.getD i []).length ≤ cr ∧ k47.C w Ar (xs.getD i []).length (xs.getD i []) := by
 obtain ⟨ad, cs, rfl, _, ⟨Ar, cr, rfl, hle, hC⟩, hcell⟩ := Kd.C_get h ([] : List S47) (i : Int) (by omega) (by omega)
 have h0 := hcell 0 _ rfl
 rw [Int.toNat_natCast] at h0 hle hC
 exact ⟨ad, Ar, cr, rfl, by simpa [Kd.slice] using h0, hle, hC⟩
structure WeIn (w : World) (p8 D l : Nat) (pre : List St) (own : Nat → Prop) (W : World) : Prop where
 row : ∃ v gs, own = ownW p8 D l v gs ∧ ¬ OwnsB v gs l ∧ ¬ OwnsB v gs D ∧ W.heap[p8]? = some (.cells #[v] 64 (0, 0)) ∧ ORows w.heap.size v gs (accW pre) W ∧ (accW pre = [] → v = .slice none 0 0 ∧ gs = [])
 hD : W.heap[D]? = some (.deferred (some []))
 sz : l < W.heap.size
 bw : Below w.heap.size w W
theorem WeIn.chg {w : World} {p8 D l N : Nat} {pre : List St} {own : Nat → Prop} {W W' : World} (h : WeIn w p8 D l pre own W) (hN : w.heap.size ≤ N) (hwl : w.heap.size ≤ l) (hp : p8 ≠ l) (hD : D ≠ l) (hc : Chg (fun k => (N ≤ k ∧ ¬ own k) ∨ k = l) W W') : WeIn w p8 D l pre own W' := by
 obtain ⟨⟨v, gs, rfl, nl, nD, h5, ho, hn⟩, hD', hz, hbw⟩ := h
 refine ⟨⟨v, gs, rfl, nl, nD, (hc.block _ (blk_lt h5) (fun h => ?_)).trans h5, ho.move (fun k hk => hc.block k (ho.lt hk).1 (fun h => ?_)), hn⟩, (hc.block _ (blk_lt hD') (fun h => ?_)).trans hD', Nat.lt_of_lt_of_le hz hc.size, hbw.trans (hc.below (fun i hi => ?_) hbw.size)⟩
 ·rcases h with h | h
  ·exact h.2 (.inl rfl)
  ·exact hp h
 ·rcases h with h | h
  ·exact h.2 (.inr (.inr (.inr hk)))
  ·subst h; exact nl hk
 ·rcases h with h | h
  ·exact h.2 (.inr (.inl rfl))
  ·exact hD h
 ·rcases hi with h | h <;> omega
structure WeSt (w : World) (p8 D l : Nat) (lo : Obj) (own0 : Nat → Prop) (W : World) (rows : List (List S47)) (v : Value) (gs : List (Nat × Nat)) (wr : World) : Prop where
 mv : Moved own0 W (ownW p8 D l v gs) wr
 nl : ¬ OwnsB v gs l
 nD : ¬ OwnsB v gs D
 h8 : wr.heap[p8]? = some (.cells #[v] 64 (0, 0))
 hD : wr.heap[D]? = some (.deferred (some []))
 hl : wr.heap[l]? = some lo
 o : ORows w.heap.size v gs rows wr
theorem WeSt.below {w : World} {p8 D l : Nat} {lo : Obj} {own0 : Nat → Prop} {W : World} {rows : List (List S47)} {v : Value} {gs : List (Nat × Nat)} {wr W' : World} (h : WeSt w p8 D l lo own0 W rows v gs wr) (hb : Below wr.heap.size wr W') : WeSt w p8 D l lo own0 W rows v gs W' :=
 ⟨h.mv.trans (Moved.of_below hb), h.nl, h.nD, blk_below h.h8 hb, blk_below h.hD hb, blk_below h.hl hb, h.o.below hb⟩
theorem WeSt.set {w : World} {p8 D l : Nat} {lo : Obj} {own0 : Nat → Prop} {W : World} {rows : List (List S47)} {v : Value} {gs : List (Nat × Nat)} {wr : World} (h : WeSt w p8 D l lo own0 W rows v gs wr) {i g c : Nat} (hi : i < rows.length) (hg : gs[i]? = some (g, c)) (j : Nat) (m : S47) :
 WeSt w p8 D l lo own0 W (rows.set i ((rows.getD i []).set j m)) v gs ((wr.setCell ⟨g, j * 2, none⟩ (.int .i64 m.f0)).setCell ⟨g, j * 2 + 1, none⟩ (.int .i64 m.f1)) := by
 have hgm : OwnsB v gs g := .inr (List.mem_map.2 ⟨_, List.mem_of_getElem? hg, rfl⟩)
 have far : ∀ k, k ≠ g → ((wr.setCell ⟨g, j * 2, none⟩ (.int .i64 m.f0)).setCell ⟨g, j * 2 + 1, none⟩ (.int .i64 m.f1)).heap[k]? = wr.heap[k]? := fun k hk => (Below.heap_setCell _ ⟨g, j * 2 + 1, none⟩ _ _ hk).trans (Below.heap_setCell _ ⟨g, j * 2, none⟩ _ _ hk)
 have hne : ∀ k, ¬ OwnsB v gs k → k ≠ g := fun k hk e => hk (e ▸ hgm)
 refine ⟨h.mv.trans ⟨fun k hk => .inl hk, ((Chg.refl _ _).setCell (p := ⟨g, j * 2, none⟩) ?_ _).setCell (p := ⟨g, j * 2 + 1, none⟩) ?_ _⟩, h.nl, h.nD, (far _ (hne _ (h.o.ne h.h8 (by decide) (by decide)))).trans h.h8, (far _ (hne _ h.nD)).trans h.hD, (far _ (hne _ h.nl)).trans h.hl, h.o.set hi hg j m⟩
 ·exact .inr (.inr (.inr hgm))
 ·exact .inr (.inr (.inr hgm))
structure CwMem (row : List S47) (W0 W : World) (b2 b3 : Bool) (u2 u3 : Value) : Prop where
 b : Below W0.heap.size W0 W
 m2 : b2 = true → ∃ g c, u2 = .slice (some ⟨g, 0, none⟩) row.length c ∧ W.ownsRow W0.heap.size 47 2 (.slice (some ⟨g, 0, none⟩) row.length c) row.length (flat47 row)
 m3 : b3 = true → ∃ g, u3 = .slice (some ⟨g, 0, none⟩) 1 1 ∧ W.heap[g]? = some (.cells #[u2] 41 (0, 0)) ∧ W0.heap.size ≤ g
theorem WeSt.push {w : World} {p8 D l : Nat} {lo : Obj} {own0 : Nat → Prop} {W : World} {rows : List (List S47)} {v v' : Value} {gs : List (Nat × Nat)} {wr W1 W2 : World} (h : WeSt w p8 D l lo own0 W rows v gs wr) (hws : w.heap.size ≤ wr.heap.size) (n8l : l ≠ p8) (row : List S47) (g c : Nat) (hb : Below wr.heap.size wr W1) (hr : W1.ownsRow wr.heap.size 47 2 (.slice (some ⟨g, 0, none⟩) row.length c) row.length (flat47 row))
 (ho : W2.ownsRow w.heap.size 41 1 v' (rows.length + 1) (List.zipWith rowCell gs rows ++ [.slice (some ⟨g, 0, none⟩) row.length c])) (hg : W1.grownBy W2 v.ownBlock) (hat : v'.ownBlock = v.ownBlock ∨ v'.ownBlock = some W1.heap.size) :
 WeSt w p8 D l lo own0 W (rows ++ [row]) v' (gs ++ [(g, c)]) (W2.setCell ⟨p8, 0, none⟩ v') := by
 have hP := h.o.push hws row g c hb hr ho hg
 have h1 := h.below hb
 have n8 : some p8 ≠ v.ownBlock := fun e => h1.o.ne h1.h8 (by decide) (by decide) (.inl e)
 have b8 : W2.heap[p8]? = some (.cells #[v] 64 (0, 0)) := (hg.block _ (blk_lt h1.h8) n8).trans h1.h8
 have n8' := hP.ne b8 (by decide) (by decide)
 have far : ∀ k, k ≠ p8 → (W2.setCell ⟨p8, 0, none⟩ v').heap[k]? = W2.heap[k]? := fun k hk => Below.heap_setCell _ ⟨p8, 0, none⟩ _ _ hk
 have hge : wr.heap.size ≤ g := own_base hr g rfl
 have hnew : ∀ k, OwnsB v' (gs ++ [(g, c)]) k → OwnsB v gs k ∨ wr.heap.size ≤ k := by
  rintro k (e | e)
  ·rcases hat with e2 | e2
   ·exact .inl (.inl (e.trans e2))
   ·rw [e2] at e
    cases e
    exact .inr hb.size
  ·rw [List.map_append, List.mem_append] at e
   rcases e with e | e
   ·exact .inl (.inr e)
   ·have : k = g := by simpa using e
    exact .inr (by omega)
 have lD : D < wr.heap.size := (Array.getElem?_eq_some_iff.1 h.hD).1
 have ll : l < wr.heap.size := (Array.getElem?_eq_some_iff.1 h.hl).1
 have nDv : some D ≠ v.ownBlock := fun e => h.nD (.inl e)
 have nlv : some l ≠ v.ownBlock := fun e => h.nl (.inl e)
 have n8D : D ≠ p8 := by rintro rfl; have := h.hD.symm.trans h.h8; cases this
 refine ⟨h.mv.trans ⟨fun k hk => ?_, ?_⟩, ?_, ?_, blk_put b8 0 _ rfl, ?_, ?_, hP.move (fun k hk => far k (fun e => n8' (e ▸ hk)))⟩
 ·rcases hk with e | e | e | e
  ·exact .inl (.inl e)
  ·exact .inl (.inr (.inl e))
  ·exact .inl (.inr (.inr (.inl e)))
  ·rcases hnew k e with e | e
   ·exact .inl (.inr (.inr (.inr e)))
   ·exact .inr e
 ·have c1 : Chg (ownW p8 D l v gs) wr W1 := Chg.fresh hb
  have c2 : Chg (ownW p8 D l v gs) wr W2 := ⟨hg.os.trans c1.os, hg.tape.trans c1.tape, hg.output.trans c1.output, Nat.le_trans c1.size hg.size, fun k hk hno => (hg.block k (Nat.lt_of_lt_of_le hk hb.size) (fun e => hno (.inr (.inr (.inr (.inl e)))))).trans (c1.block k hk hno)⟩
  exact c2.setCell (p := ⟨p8, 0, none⟩) (.inl rfl) _
 ·intro e
  rcases hnew l e with e | e
  ·exact h.nl e
  ·omega
 ·intro e
  rcases hnew D e with e | e
  ·exact h.nD e
  ·omega
 ·exact (far _ n8D).trans ((hg.block D (Nat.lt_of_lt_of_le lD hb.size) nDv).trans (blk_below h.hD hb))
 ·exact (far _ n8l).trans ((hg.block l (Nat.lt_of_lt_of_le ll hb.size) nlv).trans (blk_below h.hl hb))
end Go.Proofs.YtfijblhfgfefoaaGreatDoor.Rv
end
