/- A part of the proof: words, contracts of functions, and their walks. -/
import Derived.Maps.OwnIn
import Derived.LoopIn
import Derived.Test.YtfijblhfgfefoaaGreatDoorQLess3
import Derived.Test.YtfijblhfgfefoaaGreatDoorQLess16
import Derived.Test.YtfijblhfgfefoaaGreatDoorQLess24
set_option linter.unusedVariables false
set_option linter.unusedSimpArgs false
section
namespace Go.Proofs.YtfijblhfgfefoaaGreatDoor.Rv
open Go.RowKit Go.Shelf Go.IntWalk Go.Proofs.YtfijblhfgfefoaaGreatDoor.PAll Go.Proofs.YtfijblhfgfefoaaGreatDoorW.PrintWords Go.Proofs.YtfijblhfgfefoaaGreatDoorW.PrintLast
attribute [local go_sem] Oper.semAt_some wide_fn wide_depth
theorem info3 : (Tryz.prog.info? 3).map (fun i => (i.zero, i.size, i.bytes)) = some (some (.int .i64 0), 1, 8) := by kernel_rfl
theorem wrap_two (k : Nat) (hk : k < 4) : wrap64 (2 ^ k) = 2 ^ k := by
 match k, hk with
 |0, _ => exact wrap64_in _ (by omega)
 |1, _ => exact wrap64_in _ (by omega)
 |2, _ => exact wrap64_in _ (by omega)
 |3, _ => exact wrap64_in _ (by omega)
structure PaIn (s : Sk) (w : World) (p1 p3 D l : Nat) (pre : List St) (own : Nat → Prop) (W : World) : Prop where
 row : ∃ v, (own = fun k => k = p3 ∨ k = D ∨ k = l ∨ some k = v.ownBlock) ∧ v.ownBlock ≠ some l ∧ v.ownBlock ≠ some D ∧ W.heap[p3]? = some (.cells #[v] 28 (0, 0)) ∧ W.ownsRow w.heap.size 3 1 v (accP s.rivers pre).length (nums64 (accP s.rivers pre))
 h1 : W.heap[p1]? = some (.cells s.cells 138 (0, 0))
 hD : W.heap[D]? = some (.deferred (some []))
 sz : l < W.heap.size
 bw : Below w.heap.size w W
theorem PaIn.chg {s : Sk} {w : World} {p1 p3 D l N : Nat} {pre : List St} {own : Nat → Prop} {W W' : World} (h : PaIn s w p1 p3 D l pre own W) (h3 : p1 < N) (hN : w.heap.size ≤ N) (hwl : w.heap.size ≤ l) (hl : N ≤ l + 1) (h3l : p1 ≠ l) (hp : p3 ≠ l) (hD : D ≠ l) (hc : Chg (fun k => (N ≤ k ∧ ¬ own k) ∨ k = l) W W') : PaIn s w p1 p3 D l pre own W' := by
 obtain ⟨⟨v, rfl, nl, nD, h5, ho⟩, h3', hD', hz, hbw⟩ := h
 refine ⟨⟨v, rfl, nl, nD, (hc.block _ (blk_lt h5) (fun h => ?_)).trans h5, own_move ho (fun k hk => hc.block k (own_lt ho k hk) (fun h => ?_))⟩, (hc.block _ (blk_lt h3') (fun h => ?_)).trans h3', (hc.block _ (blk_lt hD') (fun h => ?_)).trans hD', Nat.lt_of_lt_of_le hz hc.size, hbw.trans (hc.below (fun i hi => ?_) hbw.size)⟩
 ·rcases h with h | h
  ·exact h.2 (.inl rfl)
  ·exact hp h
 ·rcases h with h | h
  ·exact h.2 (.inr (.inr (.inr hk.symm)))
  ·subst h; exact nl hk
 ·rcases h with h | h
  ·omega
  ·exact h3l h
 ·rcases h with h | h
  ·exact h.2 (.inr (.inl rfl))
  ·exact hD h
 ·rcases hi with h | h
  ·omega
  ·omega
theorem patterns_results (tm : Array Value) (W : World) (v : Value) (h4 : tm.getD 2 undef = v) : (results Tryz.f89 tm).run Tryz.prog W = .ok v W := by
 have hp : tm[2]?.getD undef = v := by simpa using h4
 have hrs : Tryz.f89.results = #[.tmp 2] := rfl
 simp [results, hrs, hp, go_sem]
theorem patterns_ret {m : Nat} {tm : Array Value} {W : World} {R : Ending → World → Prop} (D : Nat) (v : Value) (h4 : tm.getD 2 undef = v) (HD : W.heap[D]? = some (.deferred (some []))) (hR : R (.returned v) (W.putObj D (.deferred none))) :
 LeavesInM Fence.wide m Tryz.prog Tryz.f89 tm R [{ target := .collected D, args := #[] }] .returning W :=
 ⟨by simp, .inl ⟨D, _, rfl, run_takeDeferred HD, _, patterns_results tm _ v h4, hR⟩⟩
set_option maxRecDepth 100000 in
set_option maxHeartbeats 2000000 in
theorem patterns_calls (s : Sk) (hs : Good s) (h4 : s.shells.length ≤ 4) (hc : s.rivers.length ≤ s.c1 ∧ s.shells.length ≤ s.c2 ∧ s.tests.length ≤ s.c3) (w : World)
 (f1 : Kd.C k43 w s.A1 s.rivers.length s.rivers) (f2 : Kd.C k45 w s.A2 s.shells.length s.shells) (f3 : Kd.C k59 w s.A3 s.tests.length s.tests) :
 Calls Tryz.prog 89 #[.agg s.cells] w fun e w' => ∃ v : Value, e = .returned v ∧ Kd.R (Kd.int .i64) 3 w' w.heap.size (fun _ => True) v (patternsL s) ∧ Below w.heap.size w w' := by
 rw [← callsIn_wide (n := 0)]
 have hu138 := Tryz.underlying138
 have hu149 := Tryz.underlying149
 have hu27 := Tryz.underlying27
 have hmf : ∀ (fn : Fn) (first cap : Array Value) (w : World), (Instr.makeFunc fn first cap).run Tryz.prog w = .ok (.func fn first cap) w := fun _ _ _ _ => rfl
 have HF1 := zk f1
 have HF2 := zk f2
 have HF3 := zk f3
 have HCC := zk hc
 clear f1 f2 f3
 refine callsIn_of_wp_marks Tryz.func89 rfl trivial ?_ rfl
 unfold Sk.cells
 simp only [Tryz.ntmps89, List.size_toArray, List.length_cons, List.length_nil, Nat.reduceAdd, Nat.reduceSub, Array.replicate_succ, Array.replicate_zero, List.push_toArray, List.append_toArray, List.nil_append, List.cons_append]
 gi_wp2
 have HB := zk ((below1 (w := w) (.cells #[.int .i64 s.years, .slice s.A1 s.rivers.length s.c1, .slice s.A2 s.shells.length s.c2, .slice s.A3 s.tests.length s.c3] 138)).alloc (by simp) (.cells #[.slice none 0 0] 28))
 have b1 := blk_alloc (blk_new w (.cells #[.int .i64 s.years, .slice s.A1 s.rivers.length s.c1, .slice s.A2 s.shells.length s.c2, .slice s.A3 s.tests.length s.c3] 138)) (.cells #[.slice none 0 0] 28)
 have b3 := blk_new (w.alloc (.cells #[.int .i64 s.years, .slice s.A1 s.rivers.length s.c1, .slice s.A2 s.shells.length s.c2, .slice s.A3 s.tests.length s.c3] 138)) (.cells #[.slice none 0 0] 28)
 simp only [World.size_alloc] at b3
 generalize (w.alloc (.cells #[.int .i64 s.years, .slice s.A1 s.rivers.length s.c1, .slice s.A2 s.shells.length s.c2, .slice s.A3 s.tests.length s.c3] 138)).alloc (.cells #[.slice none 0 0] 28) = w1 at HB b1 b3 ⊢
 have h1lt := blk_lt b1
 have h3lt := blk_lt b3
 have H1 := zk b1
 have H3 := zk b3
 obtain ⟨p3, e3⟩ : ∃ p3, p3 = w.heap.size + 1 := ⟨_, rfl⟩
 obtain ⟨p1, e1⟩ : ∃ p1, p1 = w.heap.size := ⟨_, rfl⟩
 rw [← e3] at H3 h3lt
 rw [← e1] at H1 h1lt
 rw [← e3, ← e1]
 have lo : w.heap.size ≤ p1 ∧ w.heap.size ≤ p3 ∧ p1 ≠ p3 := by omega
 clear b1 b3 e1 e3
 have hne3 : p3 ≠ w1.heap.size + 1 := by omega
 have hne1 : p1 ≠ w1.heap.size + 1 := by omega
 have hneD : w1.heap.size ≠ w1.heap.size + 1 := by omega
 have hb2 : ∀ ob, Below w1.heap.size w1 ((w1.alloc (.deferred (some []))).alloc (.loop ob)) := fun ob => (below1 _).alloc (by simp) _
 have hFl : ∀ {α : Type} {d : Kd α} {A : Option Addr} {n : Nat} {xs : List α} (ob : Loop), Kd.Heap d → d.C w A n xs → Kd.F d ((w1.alloc (.deferred (some []))).alloc (.loop ob)) (Low (fun k => k = p3 ∨ k = w1.heap.size ∨ k = w1.heap.size + 1 ∨ some k = (Value.slice none 0 0).ownBlock) (w1.heap.size + 2)) A n xs := fun ob hd h => by
  refine Kd.F_mono (Kd.F_below (Kd.F_below (Kd.C_F hd h) HB.out) (hb2 ob)) (fun k hk => ⟨fun h => ?_, ?_⟩)
  ·have := HB.out.size
   rcases h with h | h | h | h
   ·omega
   ·omega
   ·omega
   ·cases h
  ·have := HB.out.size; omega
 have hwsz := HB.out.size
 refine range_truths (lit := ?lit) s hs hc (fun x A A' c c' b own W => b ≠ w1.heap.size + 1 ∧ ¬ own b ∧ W.heap[b]? = some (.cells #[.slice A x.1.length c, .slice A' x.2.length c'] 149 (0, 0))) (fun x A A' c c' b own W W' h hch => ⟨h.1, h.2.1, (hch.block b (blk_lt h.2.2) h.1).trans h.2.2⟩) rfl
  (fun pre own W => PaIn s w p1 p3 w1.heap.size (w1.heap.size + 1) pre own W ∧ ∀ x ∈ pre, x ∈ truthsOf s)
  (fun _ _ _ _ => False)
  (fun k => k = p3 ∨ k = w1.heap.size ∨ k = w1.heap.size + 1 ∨ some k = (Value.slice none 0 0).ownBlock)
  ?hlt (fun _ _ _ _ h => h.elim) ?hown (fun _ _ _ _ h => h.elim) ?hst (fun _ _ _ _ _ h _ => h.elim) ?h0 (fun ob => hFl ob heap43 HF1.out) (fun ob => hFl ob heap45 HF2.out) (fun ob => hFl ob heap59 HF3.out) ?hassign ?hbody ?hdone (fun _ _ _ _ _ _ h => h.elim)
 case hassign =>
  rintro m pre own x W A A' c c' ob ⟨hI, hv⟩ hS hl K hK
  have hb := below1 (w := W) (.cells #[.slice A x.1.length c, .slice A' x.2.length c'] 149)
  have hlr := blk_lt hl
  have hlt : ∀ k, own k → k < W.heap.size := fun k hk => by
   obtain ⟨v, rfl, _, _, h5, ho⟩ := hI.row
   rcases hk with rfl | rfl | rfl | hk
   ·exact blk_lt h5
   ·exact blk_lt hI.hD
   ·exact hlr
   ·exact own_lt ho k hk.symm
  obtain ⟨b7, e7⟩ : ∃ b7, b7 = W.heap.size := ⟨_, rfl⟩
  have HK := zk (hK own (W.alloc (.cells #[.slice A x.1.length c, .slice A' x.2.length c'] 149)) (Moved.of_below hb) ⟨hI.chg (N := w1.heap.size + 2) (by omega) (by omega) (by omega) (by omega) hne1 hne3 hneD (stab_below hb), hv⟩ (blk_alloc hl _) b7 ⟨by omega, fun h => by have := hlt _ h; omega, by rw [e7]; exact blk_new _ _⟩)
  clear hK hI hS hb hl
  unfold stV
  gi_wp2
  rw [← e7]
  exact HK.out
 case hlt =>
  rintro pre own W ⟨hI, hv⟩ k hk
  obtain ⟨v, rfl, _, _, h5, ho⟩ := hI.row
  rcases hk with rfl | rfl | rfl | hk
  ·exact blk_lt h5
  ·exact blk_lt hI.hD
  ·exact hI.sz
  ·exact own_lt ho k hk.symm
 case hown =>
  rintro pre own W ⟨hI, hv⟩
  obtain ⟨v, rfl, _⟩ := hI.row
  exact .inr (.inr (.inl rfl))
 case hst =>
  rintro pre own W W' ⟨hI, hv⟩ hch
  exact ⟨hI.chg (by omega) (by omega) (by omega) (by omega) hne1 hne3 hneD hch, hv⟩
 case h0 =>
  intro ob
  exact ⟨⟨⟨.slice none 0 0, rfl, by simp [Value.ownBlock], by simp [Value.ownBlock], blk_alloc (blk_alloc H3.out _) _, own_nil _ _ _ _⟩, blk_alloc (blk_alloc H1.out _) _, blk_alloc (blk_new _ _) _, by simp, bt HB.out (hb2 ob)⟩, fun x h => by cases h⟩
 case hbody =>
  rintro m pre own x W A A' c c' ob b ⟨hI, hv⟩ hS ⟨hbl, hbo, hbb⟩ hl hx
  obtain ⟨hxl, hxw, hxv⟩ := truthsOf_valid s hs x hx
  obtain ⟨v, hown, nl, nD, h5, ho⟩ := hI.row
  have HXF := zk (Kd.F_now hS.f)
  have HBB := zk hbb
  have H1W := zk hI.h1
  have H3W := zk h5
  have HOW := zk ho
  have HIW := zk hI
  have HL := zk hl
  have HV := zk hv
  have HX := zk hx
  have HXV := zk hxv
  have hlen := accP_len s hs h4 pre hv
  have hx4 : x.1.length ≤ 4 := by omega
  obtain ⟨Av, cv, ev, _, hle, hFv⟩ := ownI_F ho
  subst ev
  have HFV := zk hFv
  have q3 : p3 < W.heap.size := blk_lt h5
  unfold Sk.cells at H1W
  clear hbb h5 ho hI hl hv hx hxl hxw hxv hFv hS
  obtain ⟨c_b_0, f_b_0, c_b_1, f_b_1, l_b⟩ := cl2 (W := W) (p := b) (a := .slice A x.1.length c) (b := .slice A' x.2.length c') HBB.out
  obtain ⟨c_p3_0, f_p3_0, l_p3⟩ := cl1 (W := W) (p := p3) (a := .slice Av (accP s.rivers pre).length cv) H3W.out
  gi_wp2
  gi_loopw [5, 14] (fun v5 v14 wr => ∃ kk : Nat, kk ≤ x.1.length ∧ v14 = .int .i64 kk ∧ v5 = .int .i64 (setTo s.rivers x.1 kk) ∧ Aside0 (Below W.heap.size W wr)) (fun _ v14 _ => x.1.length - (intOf v14).toNat)
  case atStart => exact ⟨0, by omega, rfl, rfl, ⟨Below.refl _ _⟩⟩
  case round =>
   obtain ⟨kk, hkk, rfl, rfl, BW⟩ := hrel
   have H1R := zk (blk_below H1W.out BW.out)
   have hkk4 : kk ≤ 4 := by omega
   by_cases hlt : kk < x.1.length
   ·have hltz : (kk : Int) < (x.1.length : Int) := by omega
    obtain ⟨ad, hA, d0, d1⟩ := at_T27 (Kd.C_below HXF.out BW.out) (kk : Int) (by omega) (by omega)
    subst hA
    have hxo : x.1[kk] = rd_T27 x.1 (kk : Int) := by simp [rd_T27, List.getD_eq_getElem?_getD, List.getElem?_eq_getElem hlt]
    have hxg : x.1.getD kk z27 = x.1[kk] := by simp [List.getD_eq_getElem?_getD, hlt]
    obtain ⟨o, ho⟩ : ∃ o, rd_T27 x.1 (kk : Int) = o := ⟨_, rfl⟩
    rw [ho] at d0 d1 hxo
    simp only [Int.toNat_natCast] at d0 d1
    have hvo := HXV.out o (by rw [← hxo]; exact List.getElem_mem hlt)
    have HCL := zk (closed_some s.rivers s.years s.shells s.tests o hvo.1 hvo.2.1 hvo.2.2.1)
    have HST := zk (show setTo s.rivers x.1 (kk + 1) = if closedB s.rivers o = true then Go.bits .or .i64 (setTo s.rivers x.1 kk) (2 ^ kk) else setTo s.rivers x.1 kk by
     show (if closedB s.rivers (x.1.getD kk z27) = true then _ else _) = _
     rw [hxg, hxo])
    have HW2 := zk (wrap_two kk (by omega))
    obtain ⟨n, en⟩ : ∃ n, n = setTo s.rivers x.1 kk := ⟨_, rfl⟩
    rw [← en] at HST
    rw [← en]
    have HBW' : Below w.heap.size w wr := HIW.out.bw.trans (BW.out.mono HIW.out.bw.size)
    have HC1 := zk (Kd.C_below (Kd.C_below HF1.out HBW') (below1 (.cells #[.int .i64 o.f0, .int .i64 o.f1] 27)))
    have HC2 := zk (Kd.C_below (Kd.C_below HF2.out HBW') (below1 (.cells #[.int .i64 o.f0, .int .i64 o.f1] 27)))
    have HC3 := zk (Kd.C_below (Kd.C_below HF3.out HBW') (below1 (.cells #[.int .i64 o.f0, .int .i64 o.f1] 27)))
    clear ho hxo hxg hvo hlt HBW' en
    obtain ⟨c_p1_0, f_p1_0, c_p1_1, f_p1_1, c_p1_2, f_p1_2, c_p1_3, f_p1_3, l_p1⟩ := cl4 (W := wr) (p := p1) (a := .int .i64 s.years) (b := .slice s.A1 s.rivers.length s.c1) (c := .slice s.A2 s.shells.length s.c2) (d := .slice s.A3 s.tests.length s.c3) H1R.out
    cases hq : closedB s.rivers o with
    |true =>
     have HQ := zk hq
     clear hq
     rw [HQ.out] at HCL
     gi_wp2_with (gi_at_call 140; refine (CallsIn.inRound _ (callsIn_wide.2 (river_sack_closed.calls _ _ _ _ _ _ _ _ _ _ _ _ _ _ HC1.out HCC.out.1 HC2.out HCC.out.2.1 HC3.out HCC.out.2.2 HCL.out))).mono ?_; rintro e w' ⟨rfl, hB'⟩)
     go_roundw
     case rel =>
      refine ⟨kk + 1, by omega, by go_num, ?_, ⟨bt (BW.out.trans ((below1 (.cells #[.int .i64 o.f0, .int .i64 o.f1] 27)).mono BW.out.size)) hB'⟩⟩
      rw [HST.out, HQ.out, if_pos rfl, HW2.out]
     case measure => simp [intOf]; omega
    |false =>
     have HQ := zk hq
     clear hq
     rw [HQ.out] at HCL
     gi_wp2_with (gi_at_call 140; refine (CallsIn.inRound _ (callsIn_wide.2 (river_sack_closed.calls _ _ _ _ _ _ _ _ _ _ _ _ _ _ HC1.out HCC.out.1 HC2.out HCC.out.2.1 HC3.out HCC.out.2.2 HCL.out))).mono ?_; rintro e w' ⟨rfl, hB'⟩)
     go_roundw
     case rel =>
      refine ⟨kk + 1, by omega, by go_num, ?_, ⟨bt (BW.out.trans ((below1 (.cells #[.int .i64 o.f0, .int .i64 o.f1] 27)).mono BW.out.size)) hB'⟩⟩
      rw [HST.out, HQ.out]
      rfl
     case measure => simp [intOf]; omega
   ·have hltz : decide ((kk : Int) < (x.1.length : Int)) = false := by simpa using hlt
    have hk2 : kk = x.1.length := by omega
    subst hk2
    clear hlt hkk hkk4
    clear c_b_0 f_b_0 c_b_1 f_b_1 l_b c_p3_0 f_p3_0 l_p3
    obtain ⟨n, en⟩ : ∃ n, n = setTo s.rivers x.1 x.1.length := ⟨_, rfl⟩
    rw [← en]
    have EN := zk (show n = setOf s.rivers x.1 from en)
    clear en
    have H3R := zk (blk_below H3W.out BW.out)
    have HOR := zk (pw_own_below HOW.out BW.out)
    obtain ⟨c_p3_0, f_p3_0, l_p3⟩ := cl1 (W := wr) (p := p3) (a := .slice Av (accP s.rivers pre).length cv) H3R.out
    obtain ⟨tb, etb⟩ : ∃ tb, tb = (accP s.rivers pre).any (fun m => m == n) := ⟨_, rfl⟩
    have HC0 := zk (contains_int_calls Av cv (accP s.rivers pre) n wr (Kd.C_below (Kd.F_now HFV.out) BW.out) (by omega) (by omega))
    rw [← etb] at HC0
    have ETB := zk etb
    clear etb
    have hvx : ∀ y ∈ pre ++ [x], y ∈ truthsOf s := fun y hy => by
     rcases List.mem_append.1 hy with h | h
     ·exact HV.out y h
     ·have : y = x := by simpa using h
      subst this
      exact HX.out
    have HVX := zk hvx
    clear hvx
    cases tb with
    |true =>
     gi_wp2_with (gi_at_call 145; refine (CallsIn.inRound _ (callsIn_wide.2 HC0.out)).mono ?_; rintro e w' ⟨rfl, hB'⟩)
     have hbw := bt BW.out hB'
     have hacc : accP s.rivers (pre ++ [x]) = accP s.rivers pre := by
      rw [accP_snoc, ← EN.out]
      unfold addP
      rw [← ETB.out, if_pos rfl]
     refine ⟨blk_below HL.out hbw, own, Moved.of_below hbw, ⟨⟨.slice Av (accP s.rivers pre).length cv, hown, nl, nD, blk_below H3W.out hbw, ?_⟩, ?_, blk_below HIW.out.hD hbw, Nat.lt_of_lt_of_le HIW.out.sz hbw.size, HIW.out.bw.trans (hbw.mono HIW.out.bw.size)⟩, HVX.out⟩
     ·rw [hacc]
      exact pw_own_below HOW.out hbw
     ·exact blk_below HIW.out.h1 hbw
    |false =>
     obtain ⟨i0, hi0, hzz⟩ := Option.map_eq_some_iff.1 info3
     simp only [Prod.mk.injEq] at hzz
     obtain ⟨hz0, hz1, hz2⟩ := hzz
     have HI := zk (And.intro hi0 (And.intro hz0 (And.intro hz1 hz2)))
     clear hi0 hz0 hz1 hz2
     gi_wp2_with (first
      |(gi_at_call 145
        refine (CallsIn.inRound _ (callsIn_wide.2 HC0.out)).mono ?_
        rintro e w' ⟨rfl, hB'⟩
        have HBW := zk (bt BW.out hB')
        have H3Q := zk (blk_below H3W.out HBW.out)
        clear c_p3_0 f_p3_0 l_p3
        obtain ⟨c_p3_0, f_p3_0, l_p3⟩ := cl1 (W := w') (p := p3) (a := .slice Av (accP s.rivers pre).length cv) H3Q.out
        have HOA := zk (pw_own_below HOW.out (bt HBW.out (below1 (.cells #[.int .i64 n] 3))))
        have HCC2 := zk (show ∀ (j : Nat) (u : Value), [Value.int .i64 n][j]? = some u → (w'.alloc (.cells #[.int .i64 n] 3)).cell? ((⟨w'.heap.size, 0, none⟩ : Addr).add j) = some u from fun j u hj => by
         rw [add_plain]
         match j, hj with
         |0, hj => cases hj; exact blk_cell (blk_new _ _) 0))
      |(gi_at_builtin
        refine wpListIn_append_own_at _ rfl (.tmp 31) (.tmp 33) 28 rfl w.heap.size 3 i0 _ 1 8 Tryz.underlying28 HI.out.1 HI.out.2.1 HI.out.2.2.1 HI.out.2.2.2 rfl (by decide) _ (accP s.rivers pre).length (nums64 (accP s.rivers pre)) rfl HOA.out ⟨w'.heap.size, 0, none⟩ 1 1 [.int .i64 n] rfl rfl HCC2.out (by intro u hu; simp at hu; rcases hu with rfl; rfl) (by simp only [maxLen]; omega) (by omega) (by have := HBW.out.size; have := HIW.out.bw.size; simp; omega) ?_
        intro v20 W8 hown8 hg8 _ hat8
        have H38 := zk (blk_grown (blk_alloc H3Q.out (.cells #[.int .i64 n] 3)) hg8 (own_ne HOA.out (blk_alloc H3Q.out (.cells #[.int .i64 n] 3)) (by decide)))
        obtain ⟨A20, c20, rfl⟩ := own_slice hown8
        have HO8 := zk hown8
        have HG8 := zk hg8
        have HA8 := zk hat8
        clear hown8 hg8 hat8
        clear c_p3_0 f_p3_0 l_p3
        obtain ⟨c_p3_0, f_p3_0, l_p3⟩ := cl1 (W := W8) (p := p3) (a := .slice Av (accP s.rivers pre).length cv) H38.out
        skip))
     have hacc : accP s.rivers (pre ++ [x]) = accP s.rivers pre ++ [n] := by
      rw [accP_snoc, ← EN.out]
      unfold addP
      rw [← ETB.out, if_neg (by simp)]
     have hsb := HBW.out.size
     have hb8 : ∀ k, k < W.heap.size → some k ≠ (Value.slice Av (accP s.rivers pre).length cv).ownBlock → W8.heap[k]? = W.heap[k]? := fun k hk hne => (HG8.out.block k (by simp; omega) hne).trans ((Below.heap_alloc _ _ k (by omega)).trans (HBW.out.block k hk))
     have hkl : (w1.heap.size + 1) < W.heap.size := HIW.out.sz
     have hkD : w1.heap.size < W.heap.size := by omega
     have hk1 : p1 < W.heap.size := by omega
     have hn1 : some p1 ≠ (Value.slice Av (accP s.rivers pre).length cv).ownBlock := own_ne HOW.out HIW.out.h1 (by decide)
     have nl8 : (Value.slice A20 ((accP s.rivers pre).length + 1) c20).ownBlock ≠ some (w1.heap.size + 1) := by
      rcases HA8.out with e | e
      ·rw [e]; exact nl
      ·rw [e]; intro e'; simp at e'; omega
     have nD8 : (Value.slice A20 ((accP s.rivers pre).length + 1) c20).ownBlock ≠ some w1.heap.size := by
      rcases HA8.out with e | e
      ·rw [e]; exact nD
      ·rw [e]; intro e'; simp at e'; omega
     have far : ∀ k, k ≠ p3 → (W8.setCell ⟨p3, 0, none⟩ (.slice A20 ((accP s.rivers pre).length + 1) c20)).heap[k]? = W8.heap[k]? := fun k hk => Below.heap_setCell _ ⟨p3, 0, none⟩ _ _ hk
     have hch : Chg own W (W8.setCell ⟨p3, 0, none⟩ (.slice A20 ((accP s.rivers pre).length + 1) c20)) := by
      have c1 : Chg own W (w'.alloc (.cells #[.int .i64 n] 3)) := (Chg.fresh HBW.out).alloc _
      have c2 : Chg own W W8 := ⟨HG8.out.os.trans c1.os, HG8.out.tape.trans c1.tape, HG8.out.output.trans c1.output, Nat.le_trans c1.size HG8.out.size, fun k hk hno => hb8 k hk (fun e => hno (by rw [hown]; exact .inr (.inr (.inr e))))⟩
      exact c2.setCell (p := ⟨p3, 0, none⟩) (by rw [hown]; exact .inl rfl) _
     refine ⟨(far _ hne3.symm).trans ((hb8 _ hkl (fun e => nl e.symm)).trans HL.out), fun k => k = p3 ∨ k = w1.heap.size ∨ k = w1.heap.size + 1 ∨ some k = (Value.slice A20 ((accP s.rivers pre).length + 1) c20).ownBlock, ⟨fun k hk => ?_, hch⟩, ⟨⟨_, rfl, nl8, nD8, blk_put H38.out 0 _ rfl, ?_⟩, ?_, ?_, ?_, ?_⟩, HVX.out⟩
     ·rw [hown]
      rcases hk with hk | hk | hk | hk
      ·exact .inl (.inl hk)
      ·exact .inl (.inr (.inl hk))
      ·exact .inl (.inr (.inr (.inl hk)))
      ·rcases HA8.out with e | e
       ·exact .inl (.inr (.inr (.inr (hk.trans e))))
       ·rw [e] at hk
        simp at hk
        exact .inr (by omega)
     ·rw [hacc, List.length_append]
      have h9 := own_setCell HO8.out (p := ⟨p3, 0, none⟩) (own_ne HO8.out H38.out (by decide)) (.slice A20 ((accP s.rivers pre).length + 1) c20)
      simpa [nums64] using h9
     ·exact (far _ (by omega)).trans ((hb8 _ hk1 hn1).trans HIW.out.h1)
     ·exact (far _ (by omega)).trans ((hb8 _ hkD (fun e => nD e.symm)).trans HIW.out.hD)
     ·have := HG8.out.size
      simp [World.setCell] at this ⊢
      omega
     ·refine HIW.out.bw.trans (hch.below (fun k hk => ?_) HIW.out.bw.size)
      rw [hown] at hk
      rcases hk with hk | hk | hk | hk
      ·omega
      ·omega
      ·omega
      ·exact own_base HOW.out k hk.symm
 case hdone =>
  rintro ob own W hm ⟨hI, hv⟩
  obtain ⟨v, hown, nl, nD, h5, ho⟩ := hI.row
  have hlen := accP_len s hs h4 (truthsOf s) hv
  obtain ⟨xs, exs⟩ : ∃ xs, xs = accP s.rivers (truthsOf s) := ⟨_, rfl⟩
  rw [← exs] at ho hlen
  have HSO := zk (sortI_own w.heap.size v xs W ho (by omega))
  have EXS := zk exs
  have HOW := zk ho
  have HM := zk hm
  have HI := zk hI
  have HN := zk (And.intro nl nD)
  have HOWN := zk hown
  have H3W := zk h5
  obtain ⟨Av, nv, cv, rfl⟩ : ∃ A n c, v = .slice A n c := by
   rcases ho.2 with ⟨e, _⟩ | ⟨g, cap, cur, e, _⟩
   ·exact ⟨_, _, _, e⟩
   ·exact ⟨_, _, _, e⟩
  obtain ⟨c_p3_0, f_p3_0, l_p3⟩ := cl1 (W := W) (p := p3) (a := .slice Av nv cv) H3W.out
  clear ho hm hI nl nD hown h5 hv exs hlen
  gi_wp2_with (gi_at_call 146; refine (callsIn_wide.2 HSO.out).mono ?_; rintro e W2 ⟨rfl, ho2, hch⟩; have H32 := zk ((hch.block p3 (blk_lt H3W.out) (fun e => own_ne HOW.out H3W.out (by decide) e)).trans H3W.out); have HO2 := zk ho2; have HCH := zk hch; clear ho2 hch; have c32 : W2.cell? ⟨p3, 0, none⟩ = some (.slice Av nv cv) := blk_cell H32.out 0; have l32 : p3 < W2.heap.size := blk_lt H32.out)
  have ey : (xs.mergeSort fun x y => decide (x ≤ y)) = patternsL s := by rw [EXS.out]; exact patterns_sorted s hs h4
  have hD2 : W2.heap[w1.heap.size]? = some (.deferred (some [])) := (HCH.out.block _ (blk_lt HI.out.hD) (fun e => HN.out.2 e.symm)).trans HI.out.hD
  refine patterns_ret w1.heap.size (.slice Av nv cv) rfl hD2 ⟨_, rfl, ?_, ?_⟩
  ·have h2 := HO2.out
   rw [show xs.length = (patternsL s).length by rw [← ey]; simp, ey] at h2
   exact RI_of_own (own_move h2 (fun k hk => World.putObj_heap_other (fun e => HN.out.2 (by rw [hk, e]))))
  ·have h1 : Below w.heap.size w ((w1.alloc (.deferred (some []))).alloc (.loop ob)) := bt HB.out (hb2 ob)
   have hb3 : ∀ k, (Value.slice Av nv cv).ownBlock = some k → w.heap.size ≤ k := own_base HOW.out
   have h2 : Moved (fun k => k = p3 ∨ k = w1.heap.size ∨ k = w1.heap.size + 1 ∨ some k = (Value.slice none 0 0).ownBlock) ((w1.alloc (.deferred (some []))).alloc (.loop ob)) own (W2.putObj w1.heap.size (.deferred none)) :=
    (HM.out.trans ⟨fun k hk => .inl hk, HCH.out.mono (fun k _ e => by rw [HOWN.out]; exact .inr (.inr (.inr e)))⟩).own_put (by rw [HOWN.out]; exact .inr (.inl rfl)) _
   exact h1.trans (h2.chg.below (fun k hk => by
    rcases hk with rfl | rfl | rfl | hk
    ·omega
    ·omega
    ·omega
    ·cases hk) h1.size)
end Go.Proofs.YtfijblhfgfefoaaGreatDoor.Rv
namespace Go.Proofs.YtfijblhfgfefoaaGreatDoor.PAll
open Go.RowKit Go.Proofs.YtfijblhfgfefoaaGreatDoor.Rv Go.Proofs.YtfijblhfgfefoaaGreatDoorW.PrintWords Go.Proofs.YtfijblhfgfefoaaGreatDoorW.PrintLast
end Go.Proofs.YtfijblhfgfefoaaGreatDoor.PAll
end
