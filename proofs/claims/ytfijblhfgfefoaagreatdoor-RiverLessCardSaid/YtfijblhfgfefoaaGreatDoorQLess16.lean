/- A part of the proof: words, contracts of functions, and their walks. -/
import Derived.Maps.OwnIn
import Derived.Test.YtfijblhfgfefoaaGreatDoorQLess3
import Derived.Test.YtfijblhfgfefoaaGreatDoorQLess8
import Derived.Test.YtfijblhfgfefoaaGreatDoorQLess15
set_option linter.unusedVariables false
set_option linter.unusedSimpArgs false
section
namespace Go.Proofs.YtfijblhfgfefoaaGreatDoor.Rv
open Go.RowKit Go.Shelf Go.IntWalk Go.Proofs.YtfijblhfgfefoaaGreatDoor.PAll Go.Proofs.YtfijblhfgfefoaaGreatDoorW.PrintWords Go.Proofs.YtfijblhfgfefoaaGreatDoorW.PrintLast
attribute [local go_sem] Oper.semAt_some wide_fn wide_depth
structure CIn (n0 p3 p5 D l : Nat) (i : Nat) (pre : List St) (own : Nat → Prop) (W : World) : Prop where
 row : ∃ v, (own = fun k => k = p5 ∨ k = D ∨ k = l ∨ some k = v.ownBlock) ∧ v.ownBlock ≠ some l ∧ v.ownBlock ≠ some D ∧ W.heap[p5]? = some (.cells #[v] 31 (0, 0)) ∧ W.ownsRow n0 27 2 v (accO i pre).length (flat27 (accO i pre))
 h3 : W.heap[p3]? = some (.cells #[.int .i64 i] 3 (0, 0))
 hD : W.heap[D]? = some (.deferred (some []))
 sz : l < W.heap.size
theorem CIn.chg {n0 p3 p5 D l N i : Nat} {pre : List St} {own : Nat → Prop} {W W' : World} (h : CIn n0 p3 p5 D l i pre own W) (h3 : p3 < N) (hl : N ≤ l + 1) (h3l : p3 ≠ l) (hp : p5 ≠ l) (hD : D ≠ l) (hc : Chg (fun k => (N ≤ k ∧ ¬ own k) ∨ k = l) W W') : CIn n0 p3 p5 D l i pre own W' := by
 obtain ⟨⟨v, rfl, nl, nD, h5, ho⟩, h3', hD', hz⟩ := h
 refine ⟨⟨v, rfl, nl, nD, (hc.block _ (blk_lt h5) (fun h => ?_)).trans h5, own_move ho (fun k hk => hc.block k (own_lt ho k hk) (fun h => ?_))⟩, (hc.block _ (blk_lt h3') (fun h => ?_)).trans h3', (hc.block _ (blk_lt hD') (fun h => ?_)).trans hD', Nat.lt_of_lt_of_le hz hc.size⟩
 ·rcases h with h | h
  ·exact h.2 (.inl rfl)
  ·exact hp h
 ·rcases h with h | h
  ·exact h.2 (.inr (.inr (.inr hk.symm)))
  ·subst h; exact nl hk
 ·rcases h with h | h
  ·omega
  ·exact h3l h
 ·rcases h with h | h
  ·exact h.2 (.inr (.inl rfl))
  ·exact hD h
theorem could_results (tm : Array Value) (W : World) (v : Value) (h4 : tm.getD 4 undef = v) : (results Tryz.f82 tm).run Tryz.prog W = .ok v W := by
 have hp : tm[4]?.getD undef = v := by simpa using h4
 have hrs : Tryz.f82.results = #[.tmp 4] := rfl
 simp [results, hrs, hp, go_sem]
theorem could_ret {m : Nat} {tm : Array Value} {W : World} {R : Ending → World → Prop} (D : Nat) (v : Value) (h4 : tm.getD 4 undef = v) (HD : W.heap[D]? = some (.deferred (some []))) (hR : R (.returned v) (W.putObj D (.deferred none))) :
 LeavesInM Fence.wide m Tryz.prog Tryz.f82 tm R [{ target := .collected D, args := #[] }] .returning W :=
 ⟨by simp, .inl ⟨D, _, rfl, run_takeDeferred HD, _, could_results tm _ v h4, hR⟩⟩
theorem R27_of_own {w : World} {base : Nat} {v : Value} {xs : List S27} (h : w.ownsRow base 27 2 v xs.length (flat27 xs)) : Kd.R k27 27 w base (fun _ => True) v xs := ⟨fun _ _ => trivial, flat27 xs, h, repsOf27 w xs⟩
set_option maxRecDepth 100000 in
set_option maxHeartbeats 1000000 in
theorem could_calls (s : Sk) (hs : Good s) (hc : s.rivers.length ≤ s.c1 ∧ s.shells.length ≤ s.c2 ∧ s.tests.length ≤ s.c3) (i : Nat) (hi : i < s.shells.length) (w : World)
 (f1 : Kd.C k43 w s.A1 s.rivers.length s.rivers) (f2 : Kd.C k45 w s.A2 s.shells.length s.shells) (f3 : Kd.C k59 w s.A3 s.tests.length s.tests) :
 Calls Tryz.prog 82 #[.agg s.cells, .int .i64 i] w fun e w' => ∃ v : Value, e = .returned v ∧ Kd.R k27 27 w' w.heap.size (fun _ => True) v (couldL s i) ∧ Below w.heap.size w w' := by
 rw [← callsIn_wide (n := 0)]
 have hu138 := Tryz.underlying138
 have hu149 := Tryz.underlying149
 have hu27 := Tryz.underlying27
 have hmf : ∀ (fn : Fn) (first cap : Array Value) (w : World), (Instr.makeFunc fn first cap).run Tryz.prog w = .ok (.func fn first cap) w := fun _ _ _ _ => rfl
 have HF1 := zk f1
 have HF2 := zk f2
 have HF3 := zk f3
 clear f1 f2 f3
 refine callsIn_of_wp_marks Tryz.func82 rfl trivial ?_ rfl
 unfold Sk.cells
 simp only [Tryz.ntmps82, List.size_toArray, List.length_cons, List.length_nil, Nat.reduceAdd, Nat.reduceSub, Array.replicate_succ, Array.replicate_zero, List.push_toArray, List.append_toArray, List.nil_append, List.cons_append]
 gi_wp2
 have HB := zk (((below1 (w := w) (.cells #[.int .i64 s.years, .slice s.A1 s.rivers.length s.c1, .slice s.A2 s.shells.length s.c2, .slice s.A3 s.tests.length s.c3] 138)).alloc (by simp) (.cells #[.int .i64 i] 3)).alloc (by simp; omega) (.cells #[.slice none 0 0] 31))
 have b3 := blk_alloc (blk_new (w.alloc (.cells #[.int .i64 s.years, .slice s.A1 s.rivers.length s.c1, .slice s.A2 s.shells.length s.c2, .slice s.A3 s.tests.length s.c3] 138)) (.cells #[.int .i64 i] 3)) (.cells #[.slice none 0 0] 31)
 have b5 := blk_new ((w.alloc (.cells #[.int .i64 s.years, .slice s.A1 s.rivers.length s.c1, .slice s.A2 s.shells.length s.c2, .slice s.A3 s.tests.length s.c3] 138)).alloc (.cells #[.int .i64 i] 3)) (.cells #[.slice none 0 0] 31)
 simp only [World.size_alloc] at b3 b5
 generalize ((w.alloc (.cells #[.int .i64 s.years, .slice s.A1 s.rivers.length s.c1, .slice s.A2 s.shells.length s.c2, .slice s.A3 s.tests.length s.c3] 138)).alloc (.cells #[.int .i64 i] 3)).alloc (.cells #[.slice none 0 0] 31) = w1 at HB b3 b5 ⊢
 have h3lt := blk_lt b3
 have h5lt := blk_lt b5
 have H3 := zk b3
 have H5 := zk b5
 obtain ⟨p5, e5⟩ : ∃ p5, p5 = w.heap.size + 1 + 1 := ⟨_, rfl⟩
 obtain ⟨p3, e3⟩ : ∃ p3, p3 = w.heap.size + 1 := ⟨_, rfl⟩
 rw [← e5] at H5 h5lt
 rw [← e3] at H3 h3lt
 rw [← e5, ← e3]
 have lo : w.heap.size ≤ p3 ∧ w.heap.size ≤ p5 ∧ p3 ≠ p5 := by omega
 clear b3 b5 e5 e3
 have hne5 : p5 ≠ w1.heap.size + 1 := by omega
 have hne3 : p3 ≠ w1.heap.size + 1 := by omega
 have hneD : w1.heap.size ≠ w1.heap.size + 1 := by omega
 have hb2 : ∀ ob, Below w1.heap.size w1 ((w1.alloc (.deferred (some []))).alloc (.loop ob)) := fun ob => (below1 _).alloc (by simp) _
 have hFl : ∀ {α : Type} {d : Kd α} {A : Option Addr} {n : Nat} {xs : List α} (ob : Loop), Kd.Heap d → d.C w A n xs → Kd.F d ((w1.alloc (.deferred (some []))).alloc (.loop ob)) (Low (fun k => k = p5 ∨ k = w1.heap.size ∨ k = w1.heap.size + 1 ∨ some k = (Value.slice none 0 0).ownBlock) (w1.heap.size + 2)) A n xs := fun ob hd h => by
  refine Kd.F_mono (Kd.F_below (Kd.F_below (Kd.C_F hd h) HB.out) (hb2 ob)) (fun k hk => ⟨fun h => ?_, ?_⟩)
  ·have := HB.out.size
   rcases h with h | h | h | h
   ·omega
   ·omega
   ·omega
   ·cases h
  ·have := HB.out.size; omega
 refine range_truths (lit := ?lit) s hs hc (fun x A A' c c' b own W => b ≠ w1.heap.size + 1 ∧ ¬ own b ∧ W.heap[b]? = some (.cells #[.slice A x.1.length c, .slice A' x.2.length c'] 149 (0, 0))) (fun x A A' c c' b own W W' h hch => ⟨h.1, h.2.1, (hch.block b (blk_lt h.2.2) h.1).trans h.2.2⟩) rfl
  (fun pre own W => CIn w.heap.size p3 p5 w1.heap.size (w1.heap.size + 1) i pre own W ∧ ∀ x ∈ pre, i < x.1.length ∧ Valid s x)
  (fun _ _ _ _ => False)
  (fun k => k = p5 ∨ k = w1.heap.size ∨ k = w1.heap.size + 1 ∨ some k = (Value.slice none 0 0).ownBlock)
  ?hlt (fun _ _ _ _ h => h.elim) ?hown (fun _ _ _ _ h => h.elim) ?hst (fun _ _ _ _ _ h _ => h.elim) ?h0 (fun ob => hFl ob heap43 HF1.out) (fun ob => hFl ob heap45 HF2.out) (fun ob => hFl ob heap59 HF3.out) ?hassign ?hbody ?hdone (fun _ _ _ _ _ _ h => h.elim)
 case hassign =>
  rintro m pre own x W A A' c c' ob ⟨hI, hv⟩ hS hl K hK
  have hb := below1 (w := W) (.cells #[.slice A x.1.length c, .slice A' x.2.length c'] 149)
  have hlr := blk_lt hl
  have hlt : ∀ k, own k → k < W.heap.size := fun k hk => by
   obtain ⟨v, rfl, _, _, h5, ho⟩ := hI.row
   rcases hk with rfl | rfl | rfl | hk
   ·exact blk_lt h5
   ·exact blk_lt hI.hD
   ·exact hlr
   ·exact own_lt ho k hk.symm
  obtain ⟨b7, e7⟩ : ∃ b7, b7 = W.heap.size := ⟨_, rfl⟩
  have HK := zk (hK own (W.alloc (.cells #[.slice A x.1.length c, .slice A' x.2.length c'] 149)) (Moved.of_below hb) ⟨hI.chg (N := w1.heap.size + 2) (by omega) (by omega) hne3 hne5 hneD (stab_below hb), hv⟩ (blk_alloc hl _) b7 ⟨by omega, fun h => by have := hlt _ h; omega, by rw [e7]; exact blk_new _ _⟩)
  clear hK hI hS hb hl
  unfold stV
  gi_wp2
  rw [← e7]
  exact HK.out
 case hlt =>
  rintro pre own W ⟨hI, hv⟩ k hk
  obtain ⟨v, rfl, _, _, h5, ho⟩ := hI.row
  rcases hk with rfl | rfl | rfl | hk
  ·exact blk_lt h5
  ·exact blk_lt hI.hD
  ·exact hI.sz
  ·exact own_lt ho k hk.symm
 case hown =>
  rintro pre own W ⟨hI, hv⟩
  obtain ⟨v, rfl, _⟩ := hI.row
  exact .inr (.inr (.inl rfl))
 case hst =>
  rintro pre own W W' ⟨hI, hv⟩ hch
  exact ⟨hI.chg (by omega) (by omega) hne3 hne5 hneD hch, hv⟩
 case h0 =>
  intro ob
  exact ⟨⟨⟨.slice none 0 0, rfl, by simp [Value.ownBlock], by simp [Value.ownBlock], blk_alloc (blk_alloc H5.out _) _, own_nil _ _ _ _⟩, blk_alloc (blk_alloc H3.out _) _, blk_alloc (blk_new _ _) _, by simp⟩, fun x h => by cases h⟩
 case hbody =>
  rintro m pre own x W A A' c c' ob b ⟨hI, hv⟩ hS ⟨hbl, hbo, hbb⟩ hl hx
  obtain ⟨hxl, hxw, hxv⟩ := truthsOf_valid s hs x hx
  have hix : i < x.1.length := by omega
  obtain ⟨v, hown, nl, nD, h5, ho⟩ := hI.row
  obtain ⟨ad, hA, d0, d1⟩ := at_T27 (Kd.F_now hS.f) (i : Int) (by omega) (by omega)
  subst hA
  obtain ⟨o, eo⟩ : ∃ o, o = x.1.getD i z27 := ⟨_, rfl⟩
  have ero : rd_T27 x.1 (i : Int) = o := by rw [eo]; simp [rd_T27]
  rw [ero] at d0 d1
  simp only [Int.toNat_natCast] at d0 d1
  have HBB := zk hbb
  have H3W := zk hI.h3
  have H5W := zk h5
  have HOW := zk ho
  have HIW := zk hI
  have HL := zk hl
  have HV := zk hv
  have HXV := zk hxv
  have EO := zk eo
  have hlen := accO_len s hs i pre hv
  obtain ⟨Av, cv, ev, _, hle, hFv⟩ := own27_F ho
  subst ev
  obtain ⟨tb, etb⟩ : ∃ tb, tb = (accO i pre).any (isO o.f0 o.f1) := ⟨_, rfl⟩
  have HC0 := zk (fun (W' : World) (hb : Below W.heap.size W W') => contains_calls Av cv (accO i pre) o.f0 o.f1 W' (Kd.C_below (Kd.F_now hFv) hb) (by omega) hlen)
  rw [← etb] at HC0
  have ETB := zk etb
  have hq : ((i : Int) < x.1.length) := by omega
  have q5 : p5 < W.heap.size := blk_lt h5
  clear hbb h5 ho hI hl hv hx hxl hxw hxv eo ero hFv hS etb
  obtain ⟨c_b_0, f_b_0, c_b_1, f_b_1, l_b⟩ := cl2 (W := W) (p := b) (a := .slice (some ad) x.1.length c) (b := .slice A' x.2.length c') HBB.out
  obtain ⟨c_p3_0, f_p3_0, l_p3⟩ := cl1 (W := W) (p := p3) (a := .int .i64 i) H3W.out
  obtain ⟨c_p5_0, f_p5_0, l_p5⟩ := cl1 (W := W) (p := p5) (a := .slice Av (accO i pre).length cv) H5W.out
  have hvx : ∀ y ∈ pre ++ [x], i < y.1.length ∧ Valid s y := fun y hy => by
   rcases List.mem_append.1 hy with h | h
   ·exact HV.out y h
   ·have : y = x := by simpa using h
    subst this
    exact ⟨hix, HXV.out⟩
  have HVX := zk hvx
  clear hvx
  cases tb with
  |true =>
   gi_wp2_with (gi_at_call 135; refine (CallsIn.inRound _ (callsIn_wide.2 (HC0.out _ (below1 _)))).mono ?_; rintro e w' ⟨rfl, hB'⟩)
   have hbw := bt (below1 (w := W) (.cells #[.int .i64 o.f0, .int .i64 o.f1] 27)) hB'
   have hacc : accO i (pre ++ [x]) = accO i pre := by
    rw [accO_snoc, ← EO.out]
    unfold addO
    rw [← ETB.out, if_pos rfl]
   refine ⟨blk_below HL.out hbw, own, Moved.of_below hbw, ⟨⟨.slice Av (accO i pre).length cv, hown, nl, nD, blk_below H5W.out hbw, ?_⟩, blk_below H3W.out hbw, blk_below HIW.out.hD hbw, Nat.lt_of_lt_of_le HIW.out.sz hbw.size⟩, HVX.out⟩
   rw [hacc]
   exact pw_own_below HOW.out hbw
  |false =>
   obtain ⟨i0, hi0, hzz⟩ := Option.map_eq_some_iff.1 info27
   simp only [Prod.mk.injEq] at hzz
   obtain ⟨hz0, hz1, hz2⟩ := hzz
   have HI := zk (And.intro hi0 (And.intro hz0 (And.intro hz1 hz2)))
   clear hi0 hz0 hz1 hz2
   obtain ⟨p7, e7⟩ : ∃ p7, p7 = W.heap.size := ⟨_, rfl⟩
   have hb7 := blk_new W (.cells #[.int .i64 o.f0, .int .i64 o.f1] 27)
   rw [← e7] at hb7
   have HB7 := zk hb7
   have E7 := zk e7
   clear hb7 e7
   gi_wp2_with (first
    |(gi_at_call 135
      refine (CallsIn.inRound _ (callsIn_wide.2 (HC0.out _ (below1 _)))).mono ?_
      rintro e w' ⟨rfl, hB'⟩
      have HBW := zk (bt (below1 (w := W) (.cells #[.int .i64 o.f0, .int .i64 o.f1] 27)) hB')
      have H5Q := zk (blk_below H5W.out HBW.out)
      have H7Q := zk (blk_below HB7.out hB')
      clear c_p5_0 f_p5_0 l_p5
      obtain ⟨c_p5_0, f_p5_0, l_p5⟩ := cl1 (W := w') (p := p5) (a := .slice Av (accO i pre).length cv) H5Q.out
      have c7a : w'.cell? ⟨W.heap.size, 0, none⟩ = some (.int .i64 o.f0) := by rw [← E7.out]; exact blk_cell H7Q.out 0
      have c7b : w'.cell? ⟨W.heap.size, 1, none⟩ = some (.int .i64 o.f1) := by rw [← E7.out]; exact blk_cell H7Q.out 1
      have l7 : W.heap.size < w'.heap.size := by rw [← E7.out]; exact blk_lt H7Q.out
      have HOA := zk (pw_own_below HOW.out (bt HBW.out (below1 (.cells #[.int .i64 o.f0, .int .i64 o.f1] 27))))
      have HCC := zk (show ∀ (j : Nat) (u : Value), [Value.int .i64 o.f0, Value.int .i64 o.f1][j]? = some u → (w'.alloc (.cells #[.int .i64 o.f0, .int .i64 o.f1] 27)).cell? ((⟨w'.heap.size, 0, none⟩ : Addr).add j) = some u from fun j u hj => by
       rw [add_plain]
       match j, hj with
       |0, hj => cases hj; exact blk_cell (blk_new _ _) 0
       |1, hj => cases hj; exact blk_cell (blk_new _ _) 1))
    |(gi_at_builtin
      refine wpListIn_append_own_at _ rfl (.tmp 20) (.tmp 22) 31 rfl w.heap.size 27 i0 _ 2 16 Tryz.underlying31 HI.out.1 HI.out.2.1 HI.out.2.2.1 HI.out.2.2.2 rfl (by decide) _ (accO i pre).length (flat27 (accO i pre)) rfl HOA.out ⟨w'.heap.size, 0, none⟩ 1 1 [.int .i64 o.f0, .int .i64 o.f1] rfl rfl HCC.out (by intro u hu; simp at hu; rcases hu with rfl | rfl <;> rfl) (by simp only [maxLen]; omega) (by omega) (by have := HBW.out.size; have := HB.out.size; simp; omega) ?_
      intro v20 W8 hown8 hg8 _ hat8
      have H58 := zk (blk_grown (blk_alloc H5Q.out (.cells #[.int .i64 o.f0, .int .i64 o.f1] 27)) hg8 (own_ne HOA.out (blk_alloc H5Q.out (.cells #[.int .i64 o.f0, .int .i64 o.f1] 27)) (by decide)))
      obtain ⟨A20, c20, rfl⟩ := own_slice hown8
      have HO8 := zk hown8
      have HG8 := zk hg8
      have HA8 := zk hat8
      clear hown8 hg8 hat8
      clear c_p5_0 f_p5_0 l_p5
      obtain ⟨c_p5_0, f_p5_0, l_p5⟩ := cl1 (W := W8) (p := p5) (a := .slice Av (accO i pre).length cv) H58.out
      skip))
   have hacc : accO i (pre ++ [x]) = accO i pre ++ [o] := by
    rw [accO_snoc, ← EO.out]
    unfold addO
    rw [← ETB.out, if_neg (by simp)]
   have hsb := HBW.out.size
   have hb8 : ∀ k, k < W.heap.size → some k ≠ (Value.slice Av (accO i pre).length cv).ownBlock → W8.heap[k]? = W.heap[k]? := fun k hk hne => (HG8.out.block k (by simp; omega) hne).trans ((Below.heap_alloc _ _ k (by omega)).trans (HBW.out.block k hk))
   have hkl : (w1.heap.size + 1) < W.heap.size := HIW.out.sz
   have hkD : w1.heap.size < W.heap.size := by omega
   have hk3 : p3 < W.heap.size := by omega
   have hn3 : some p3 ≠ (Value.slice Av (accO i pre).length cv).ownBlock := own_ne HOW.out HIW.out.h3 (by decide)
   have nl8 : (Value.slice A20 ((accO i pre).length + 1) c20).ownBlock ≠ some (w1.heap.size + 1) := by
    rcases HA8.out with e | e
    ·rw [e]; exact nl
    ·rw [e]; intro e'; simp at e'; omega
   have nD8 : (Value.slice A20 ((accO i pre).length + 1) c20).ownBlock ≠ some w1.heap.size := by
    rcases HA8.out with e | e
    ·rw [e]; exact nD
    ·rw [e]; intro e'; simp at e'; omega
   have far : ∀ k, k ≠ p5 → (W8.setCell ⟨p5, 0, none⟩ (.slice A20 ((accO i pre).length + 1) c20)).heap[k]? = W8.heap[k]? := fun k hk => Below.heap_setCell _ ⟨p5, 0, none⟩ _ _ hk
   refine ⟨(far _ hne5.symm).trans ((hb8 _ hkl (fun e => nl e.symm)).trans HL.out), fun k => k = p5 ∨ k = w1.heap.size ∨ k = w1.heap.size + 1 ∨ some k = (Value.slice A20 ((accO i pre).length + 1) c20).ownBlock, ⟨fun k hk => ?_, ?_⟩, ⟨⟨_, rfl, nl8, nD8, blk_put H58.out 0 _ rfl, ?_⟩, ?_, ?_, ?_⟩, HVX.out⟩
   ·rw [hown]
    rcases hk with hk | hk | hk | hk
    ·exact .inl (.inl hk)
    ·exact .inl (.inr (.inl hk))
    ·exact .inl (.inr (.inr (.inl hk)))
    ·rcases HA8.out with e | e
     ·exact .inl (.inr (.inr (.inr (hk.trans e))))
     ·rw [e] at hk
      simp at hk
      exact .inr (by omega)
   ·have c1 : Chg own W (w'.alloc (.cells #[.int .i64 o.f0, .int .i64 o.f1] 27)) := (Chg.fresh HBW.out).alloc _
    have c2 : Chg own W W8 := ⟨HG8.out.os.trans c1.os, HG8.out.tape.trans c1.tape, HG8.out.output.trans c1.output, Nat.le_trans c1.size HG8.out.size, fun k hk hno => hb8 k hk (fun e => hno (by rw [hown]; exact .inr (.inr (.inr e))))⟩
    exact c2.setCell (p := ⟨p5, 0, none⟩) (by rw [hown]; exact .inl rfl) _
   ·rw [hacc, List.length_append, flat27_append]
    exact own_setCell HO8.out (p := ⟨p5, 0, none⟩) (own_ne HO8.out H58.out (by decide)) _
   ·exact (far _ (by omega)).trans ((hb8 _ hk3 hn3).trans HIW.out.h3)
   ·exact (far _ (by omega)).trans ((hb8 _ hkD (fun e => nD e.symm)).trans HIW.out.hD)
   ·have := HG8.out.size
    simp [World.setCell] at this ⊢
    omega
 case hdone =>
  rintro ob own W hm ⟨hI, hv⟩
  obtain ⟨v, hown, nl, nD, h5, ho⟩ := hI.row
  have hlen := accO_len s hs i (truthsOf s) hv
  obtain ⟨xs, exs⟩ : ∃ xs, xs = accO i (truthsOf s) := ⟨_, rfl⟩
  rw [← exs] at ho hlen
  have HSO := zk (sort_own w.heap.size v xs W ho hlen)
  have EXS := zk exs
  have HOW := zk ho
  have HM := zk hm
  have HI := zk hI
  have HN := zk (And.intro nl nD)
  have HOWN := zk hown
  have H5W := zk h5
  obtain ⟨Av, nv, cv, rfl⟩ : ∃ A n c, v = .slice A n c := by
   rcases ho.2 with ⟨e, _⟩ | ⟨g, cap, cur, e, _⟩
   ·exact ⟨_, _, _, e⟩
   ·exact ⟨_, _, _, e⟩
  obtain ⟨c_p5_0, f_p5_0, l_p5⟩ := cl1 (W := W) (p := p5) (a := .slice Av nv cv) H5W.out
  clear ho hm hI nl nD hown h5 hv exs hlen
  gi_wp2_with (gi_at_call 136; refine (callsIn_wide.2 HSO.out).mono ?_; rintro e W2 ⟨rfl, ys, hp, hq, ho2, hch⟩; have H52 := zk ((hch.block p5 (blk_lt H5W.out) (fun e => own_ne HOW.out H5W.out (by decide) e)).trans H5W.out); have HO2 := zk ho2; have HCH := zk hch; have HPQ := zk (And.intro hp hq); clear ho2 hch hp hq; have c52 : W2.cell? ⟨p5, 0, none⟩ = some (.slice Av nv cv) := blk_cell H52.out 0; have l52 : p5 < W2.heap.size := blk_lt H52.out)
  have ey : ys.toList = couldL s i := by
   have h := HPQ.out
   rw [EXS.out] at h
   exact could_sorted s hs i hi ys h.1 h.2
  have hyl : xs.length = ys.toList.length := by
   have := HPQ.out.1.1
   simpa using this.symm
  have hD2 : W2.heap[w1.heap.size]? = some (.deferred (some [])) := (HCH.out.block _ (blk_lt HI.out.hD) (fun e => HN.out.2 e.symm)).trans HI.out.hD
  refine could_ret w1.heap.size (.slice Av nv cv) rfl hD2 ⟨_, rfl, ?_, ?_⟩
  ·rw [← ey]
   refine R27_of_own ?_
   have h2 := HO2.out
   rw [hyl] at h2
   exact own_move h2 (fun k hk => World.putObj_heap_other (fun e => HN.out.2 (by rw [hk, e])))
  ·have h1 : Below w.heap.size w ((w1.alloc (.deferred (some []))).alloc (.loop ob)) := bt HB.out (hb2 ob)
   have hsz := HB.out.size
   have hb3 : ∀ k, (Value.slice Av nv cv).ownBlock = some k → w.heap.size ≤ k := own_base HOW.out
   have h2 : Moved (fun k => k = p5 ∨ k = w1.heap.size ∨ k = w1.heap.size + 1 ∨ some k = (Value.slice none 0 0).ownBlock) ((w1.alloc (.deferred (some []))).alloc (.loop ob)) own (W2.putObj w1.heap.size (.deferred none)) :=
    (HM.out.trans ⟨fun k hk => .inl hk, HCH.out.mono (fun k _ e => by rw [HOWN.out]; exact .inr (.inr (.inr e)))⟩).own_put (by rw [HOWN.out]; exact .inr (.inl rfl)) _
   exact h1.trans (h2.chg.below (fun k hk => by
    rcases hk with rfl | rfl | rfl | hk
    ·omega
    ·omega
    ·omega
    ·cases hk) h1.size)
end Go.Proofs.YtfijblhfgfefoaaGreatDoor.Rv
end
section
namespace Go.Proofs.YtfijblhfgfefoaaGreatDoor.Rv
open Go.RowKit Go.Shelf Go.IntWalk Go.Proofs.YtfijblhfgfefoaaGreatDoor.PAll Go.Proofs.YtfijblhfgfefoaaGreatDoorW.PrintWords Go.Proofs.YtfijblhfgfefoaaGreatDoorW.PrintLast
def goodB (s : Sk) : Bool := isBookB s.years s.rivers && decide (s.shells.length ≤ 1000) && s.shells.all fun x => isShellB x.f0 x.f1
theorem book_facts {years : Int} {l : List S43} (h : isBookB years l = true) : (1 ≤ years ∧ years ≤ 6) ∧ (1 ≤ l.length ∧ l.length ≤ 3) ∧ ∀ r ∈ l, (r.f0.length : Int) = years ∧ (0 ≤ r.f1 ∧ r.f1 ≤ 3) ∧ (0 ≤ r.f2 ∧ r.f2 ≤ 2 ^ years.toNat - 1) ∧ ∀ x ∈ r.f0, (0 ≤ x.f0 ∧ x.f0 ≤ x.f1) ∧ x.f1 ≤ 40 ∧ x.f1 - x.f0 ≤ 4 := by
 unfold isBookB at h
 simp only [Bool.and_eq_true, Bool.not_eq_true', List.any_eq_false, inB_iff] at h
 obtain ⟨⟨h1, h2⟩, h3⟩ := h
 refine ⟨h1, by omega, fun r hr => ?_⟩
 have h4 := h3 r hr
 unfold badRiver at h4
 simp only [Bool.or_eq_true, decide_eq_true_eq, Bool.not_eq_true', not_or, Bool.not_eq_false, inB_iff, ne_eq, Classical.not_not] at h4
 obtain ⟨⟨⟨a, b⟩, c⟩, d⟩ := h4
 refine ⟨a, b, c, fun x hx => ?_⟩
 have d2 : r.f0.any badSpan = false := by simpa using d
 rw [List.any_eq_false] at d2
 have e := d2 x hx
 unfold badSpan at e
 simp only [Bool.or_eq_true, decide_eq_true_eq, Bool.not_eq_true', not_or, Bool.not_eq_false, inB_iff] at e
 obtain ⟨⟨e1, e2⟩, e3⟩ := e
 rw [wrap64_in _ (by omega)] at e3
 omega
theorem shell_facts {l : List Int} {off : Int} (h : isShellB l off = true) : (1 ≤ l.length ∧ l.length ≤ 5) ∧ (0 ≤ off ∧ off ≤ 3) ∧ ∀ n ∈ l, 0 ≤ n ∧ n ≤ 60 := by
 unfold isShellB at h
 simp only [Bool.and_eq_true, Bool.not_eq_true', List.any_eq_false, inB_iff] at h
 obtain ⟨⟨h1, h2⟩, h3⟩ := h
 refine ⟨by omega, h2, fun n hn => ?_⟩
 have h4 := h3 n hn
 unfold badRing at h4
 simp only [Bool.not_eq_true', Bool.not_eq_false, inB_iff] at h4
 exact h4
theorem good_of {s : Sk} (h : goodB s = true) : Good s := by
 unfold goodB at h
 simp only [Bool.and_eq_true, decide_eq_true_eq, List.all_eq_true] at h
 obtain ⟨⟨h1, h2⟩, h3⟩ := h
 obtain ⟨a, b, c⟩ := book_facts h1
 refine ⟨by omega, by omega, fun r hr => (c r hr).1, fun r hr => by have := (c r hr).2.1; omega, h2, fun x hx => ?_, fun x hx => ?_⟩
 ·obtain ⟨p, q, r⟩ := shell_facts (h3 x hx)
  exact ⟨by omega, by omega, fun n hn => by have := r n hn; omega⟩
 ·obtain ⟨p, q, r⟩ := shell_facts (h3 x hx)
  omega
def sk (years : Int) (rivers : List S43) (shells : List S45) (tests : List S59) : Sk := ⟨years, none, 0, rivers, none, 0, shells, none, 0, tests⟩
end Go.Proofs.YtfijblhfgfefoaaGreatDoor.Rv
namespace Go.Proofs.YtfijblhfgfefoaaGreatDoor.PAll
open Go.RowKit Go.Proofs.YtfijblhfgfefoaaGreatDoor.Rv Go.Proofs.YtfijblhfgfefoaaGreatDoorW.PrintWords Go.Proofs.YtfijblhfgfefoaaGreatDoorW.PrintLast
def river_isBook.f (a0_0 : Int) (l0_1 : List (S43)) : Option (Bool) := some (isBookB a0_0 l0_1)
theorem river_isBook.calls (a0_0 : Int) (A0_1 : Option Addr) (c0_1 : Nat) (l0_1 : List (S43)) (r : Bool) (w : World) (hr0_1 : Kd.C k43 w A0_1 l0_1.length l0_1) (hc0_1 : l0_1.length ≤ c0_1) (h : river_isBook.f a0_0 l0_1 = some r) :
 Calls Tryz.prog 79 #[.agg #[.int .i64 a0_0, .slice A0_1 l0_1.length c0_1]] w fun e w' => e = .returned (.bool r) ∧ Below w.heap.size w w' := by
 cases h
 exact isBook_calls _ _ _ _ _ hr0_1
end Go.Proofs.YtfijblhfgfefoaaGreatDoor.PAll
end
