/- A part of the proof: words, contracts of functions, and their walks. -/
import Derived.Test.YtfijblhfgfefoaaGreatDoorQLess3
import Derived.Test.YtfijblhfgfefoaaGreatDoorQLess8
import Derived.Test.YtfijblhfgfefoaaGreatDoorQLess16
import Derived.Test.YtfijblhfgfefoaaGreatDoorQLess38
set_option linter.unusedVariables false
set_option linter.unusedSimpArgs false
section
namespace Go.Proofs.YtfijblhfgfefoaaGreatDoor.Rv
open Go.RowKit Go.Shelf Go.IntWalk Go.Proofs.YtfijblhfgfefoaaGreatDoor.PAll Go.Proofs.YtfijblhfgfefoaaGreatDoorW.PrintWords Go.Proofs.YtfijblhfgfefoaaGreatDoorW.PrintLast
attribute [local go_sem] Oper.semAt_some wide_fn wide_depth
theorem best_ret {m : Nat} {tm : Array Value} {W : World} {R : Ending → World → Prop} (p4 D : Nat) (v u : Value) (h4 : tm.getD 4 undef = .pointer (some ⟨p4, 0, none⟩)) (H4 : W.heap[p4]? = some (.cells #[v, u] 177 (0, 0))) (HD : W.heap[D]? = some (.deferred (some []))) (hne : p4 ≠ D) (hR : R (.returned (.agg #[v, u])) (W.putObj D (.deferred none))) :
 LeavesInM Fence.wide m Tryz.prog Tryz.f112 tm R [{ target := .collected D, args := #[] }] .returning W :=
 ⟨by simp, .inl ⟨D, _, rfl, run_takeDeferred HD, _, results_cell_row rfl _ _ p4 177 #[v, u] (0, 0) _ h4 ((World.putObj_heap_other hne).trans H4) Tryz.underlying177 rfl (by kernel_rfl), hR⟩⟩
set_option maxRecDepth 100000 in
set_option maxHeartbeats 4000000 in
theorem best112 (s : Lt) (hs : LtGood s) (P1 P4 P5 : Nat) (hc : s.rivers.length ≤ s.c1 ∧ s.lics.length ≤ s.c2 ∧ s.takes.length ≤ s.c3) (w : World)
 (f1 : Kd.C k43 w s.A1 s.rivers.length s.rivers) (f2 : Kd.C k114 w s.A2 s.lics.length s.lics) (f3 : Kd.C k174 w s.A3 s.takes.length s.takes)
 (b1 : w.heap[P1]? = some (.cells #[.slice s.A3 s.takes.length s.c3] 100 (0, 0))) (b4 : w.heap[P4]? = some (.cells #[.slice s.A2 s.lics.length s.c2] 99 (0, 0))) (b5 : w.heap[P5]? = some (.cells #[.int .i64 s.years, .slice s.A1 s.rivers.length s.c1] 24 (0, 0))) :
 Calls Tryz.prog 112 #[.func (.func 159) #[] #[.pointer (some ⟨P1, 0, none⟩), .pointer (some ⟨P4, 0, none⟩), .pointer (some ⟨P5, 0, none⟩)], .func (.func 114) #[] #[]] w fun e w' =>
  ∃ A c, e = .returned (.agg #[.slice A (bestDl (dealsOf s)).1.length c, .int .i64 (bestDl (dealsOf s)).2]) ∧ (bestDl (dealsOf s)).1.length ≤ c ∧ Kd.F (Kd.int .i64) w' (fun k => w.heap.size ≤ k) A (bestDl (dealsOf s)).1.length (bestDl (dealsOf s)).1 ∧ Below w.heap.size w w' := by
 rw [← callsIn_wide (n := 0)]
 have hu177 := Tryz.underlying177
 have HF1 := zk f1
 have HF2 := zk f2
 have HF3 := zk f3
 have HP := zk (And.intro b1 (And.intro b4 b5))
 have lP := And.intro (blk_lt b1) (And.intro (blk_lt b4) (blk_lt b5))
 clear f1 f2 f3 b1 b4 b5
 refine callsIn_of_wp_marks Tryz.func112 rfl trivial ?_ rfl
 simp only [Tryz.ntmps112, List.size_toArray, List.length_cons, List.length_nil, Nat.reduceAdd, Nat.reduceSub, Array.replicate_succ, Array.replicate_zero, List.push_toArray, List.append_toArray, List.nil_append, List.cons_append]
 gi_wp2
 have HB := zk ((((below1 (w := w) (.cells #[.func (.func 114) #[] #[]] 181)).alloc (by simp) (.cells #[.slice none 0 0, .int .i64 0] 177)).alloc (by simp; omega) (.cells #[.slice none 0 0, .int .i64 0] 177)).alloc (by simp; omega) (.cells #[.bool true] 4))
 have h3 := blk_alloc (blk_alloc (blk_alloc (blk_new w (.cells #[.func (.func 114) #[] #[]] 181)) (.cells #[.slice none 0 0, .int .i64 0] 177)) (.cells #[.slice none 0 0, .int .i64 0] 177)) (.cells #[.bool true] 4)
 have h4 := blk_alloc (blk_alloc (blk_new (w.alloc (.cells #[.func (.func 114) #[] #[]] 181)) (.cells #[.slice none 0 0, .int .i64 0] 177)) (.cells #[.slice none 0 0, .int .i64 0] 177)) (.cells #[.bool true] 4)
 have h5 := blk_alloc (blk_new ((w.alloc (.cells #[.func (.func 114) #[] #[]] 181)).alloc (.cells #[.slice none 0 0, .int .i64 0] 177)) (.cells #[.slice none 0 0, .int .i64 0] 177)) (.cells #[.bool true] 4)
 have h6 := blk_new (((w.alloc (.cells #[.func (.func 114) #[] #[]] 181)).alloc (.cells #[.slice none 0 0, .int .i64 0] 177)).alloc (.cells #[.slice none 0 0, .int .i64 0] 177)) (.cells #[.bool true] 4)
 simp only [World.size_alloc] at h4 h5 h6
 generalize (((w.alloc (.cells #[.func (.func 114) #[] #[]] 181)).alloc (.cells #[.slice none 0 0, .int .i64 0] 177)).alloc (.cells #[.slice none 0 0, .int .i64 0] 177)).alloc (.cells #[.bool true] 4) = w1 at HB h3 h4 h5 h6 ⊢
 obtain ⟨p6, e6⟩ : ∃ p6, p6 = w.heap.size + 1 + 1 + 1 := ⟨_, rfl⟩
 obtain ⟨p5, e5⟩ : ∃ p5, p5 = w.heap.size + 1 + 1 := ⟨_, rfl⟩
 obtain ⟨p4, e4⟩ : ∃ p4, p4 = w.heap.size + 1 := ⟨_, rfl⟩
 obtain ⟨p3, e3⟩ : ∃ p3, p3 = w.heap.size := ⟨_, rfl⟩
 rw [← e6] at h6
 rw [← e5] at h5
 rw [← e4] at h4
 rw [← e3] at h3
 rw [← e6, ← e5, ← e4, ← e3]
 have l6 := blk_lt h6
 have HPP := zk (show w.heap.size ≤ p3 ∧ w.heap.size ≤ p4 ∧ w.heap.size ≤ p5 ∧ w.heap.size ≤ p6 ∧ p3 < p4 ∧ p4 < p5 ∧ p5 < p6 ∧ p6 < w1.heap.size by omega)
 have hne : p3 ≠ w1.heap.size + 1 ∧ p4 ≠ w1.heap.size + 1 ∧ p5 ≠ w1.heap.size + 1 ∧ p6 ≠ w1.heap.size + 1 ∧ w1.heap.size ≠ w1.heap.size + 1 := by omega
 have HNE := zk hne
 have hwsz := HB.out.size
 have H3 := zk h3
 have H4 := zk h4
 have H5 := zk h5
 have H6 := zk h6
 have LP := zk lP
 clear h3 h4 h5 h6 e3 e4 e5 e6 lP hne
 have hb2 : ∀ ob, Below w1.heap.size w1 ((w1.alloc (.deferred (some []))).alloc (.loop ob)) := fun ob => (below1 _).alloc (by simp) _
 have hFl : ∀ {α : Type} {d : Kd α} {A : Option Addr} {n : Nat} {xs : List α} (ob : Loop), Kd.Heap d → d.C w A n xs → Kd.F d ((w1.alloc (.deferred (some []))).alloc (.loop ob)) (Low (ownB p3 p4 p5 p6 w1.heap.size (w1.heap.size + 1) (fun _ => False)) (w1.heap.size + 2)) A n xs := fun ob hd h => by
  refine Kd.F_mono (Kd.F_below (Kd.F_below (Kd.C_F hd h) HB.out) (hb2 ob)) (fun k hk => ⟨fun h => ?_, ?_⟩)
  ·have := HPP.out
   rcases h with h | h | h | h | h | h | h
   ·omega
   ·omega
   ·omega
   ·omega
   ·omega
   ·omega
   ·exact h
  ·omega
 refine range_deals (lit := ?lit) s hs P1 P4 P5 hc rfl (fun x A c b own W => b ≠ w1.heap.size + 1 ∧ ¬ own b ∧ W.heap[b]? = some (.cells #[.slice A x.1.length c, .int .i64 x.2] 177 (0, 0))) (fun x A c b own W W' h hch => ⟨h.1, h.2.1, (hch.block b (blk_lt h.2.2) h.1).trans h.2.2⟩)
  (fun pre own W => BdIn w p3 p4 p5 p6 w1.heap.size (w1.heap.size + 1) pre own W) (ownB p3 p4 p5 p6 w1.heap.size (w1.heap.size + 1) (fun _ => False))
  ?hlt ?hown ?hst ?h0 (fun ob => hFl ob heap43 HF1.out) (fun ob => hFl ob k114_heap HF2.out) (fun ob => hFl ob k174_heap HF3.out) (blk_below HP.out.1 HB.out) (blk_below HP.out.2.1 HB.out) (blk_below HP.out.2.2 HB.out) ?hn ?hassign ?hbody ?hdone
 case hlt =>
  rintro pre own W hI k hk
  obtain ⟨O, A, c, rfl, h5, _, _, hO⟩ := hI.row
  rcases hk with rfl | rfl | rfl | rfl | rfl | rfl | hk
  ·exact blk_lt hI.h3
  ·exact blk_lt hI.h4
  ·exact blk_lt h5
  ·exact blk_lt hI.h6
  ·exact blk_lt hI.hD
  ·exact hI.sz
  ·exact (hO k hk).1
 case hown =>
  rintro pre own W hI
  obtain ⟨O, A, c, rfl, _⟩ := hI.row
  exact .inr (.inr (.inr (.inr (.inr (.inl rfl)))))
 case hst =>
  rintro pre own W W' hI hch
  exact hI.chg (by omega) (by omega) HNE.out hch
 case h0 =>
  intro ob
  refine ⟨⟨fun _ => False, none, 0, rfl, blk_alloc (blk_alloc H5.out _) _, by simp [bestDl], Kd.F_nil _ _ _, fun k h => h.elim⟩, blk_alloc (blk_alloc H3.out _) _, blk_alloc (blk_alloc H4.out _) _, blk_alloc (blk_alloc H6.out _) _, blk_alloc (blk_new _ _) _, by simp, bt HB.out (hb2 ob)⟩
 case hn =>
  have h1 := LP.out
  have h2 := HPP.out
  refine ⟨fun h => ?_, fun h => ?_, fun h => ?_⟩ <;> (rcases h with h | h | h | h | h | h | h <;> first | omega | exact h)
 case hassign =>
  rintro m pre own x D W A c ob hI hS hl K hK
  have hb := below1 (w := W) (.cells #[.slice A x.1.length c, .int .i64 x.2] 177)
  have hlt : ∀ k, own k → k < W.heap.size := fun k hk => by
   obtain ⟨O, A, c, rfl, h5, _, _, hO⟩ := hI.row
   rcases hk with rfl | rfl | rfl | rfl | rfl | rfl | hk
   ·exact blk_lt hI.h3
   ·exact blk_lt hI.h4
   ·exact blk_lt h5
   ·exact blk_lt hI.h6
   ·exact blk_lt hI.hD
   ·exact hI.sz
   ·exact (hO k hk).1
  have hlr := blk_lt hl
  obtain ⟨b7, e7⟩ : ∃ b7, b7 = W.heap.size := ⟨_, rfl⟩
  have HK := zk (hK (W.alloc (.cells #[.slice A x.1.length c, .int .i64 x.2] 177)) (Moved.of_below hb) (hI.chg (N := w1.heap.size + 2) (by omega) (by omega) HNE.out (stab_below hb)) (blk_alloc hl _) b7 ⟨by omega, fun h => by have := hlt _ h; omega, by rw [e7]; exact blk_new _ _⟩)
  clear hK hI hS hb hl
  unfold dlV
  gi_wp2
  rw [← e7]
  exact HK.out
 case hbody =>
  rintro m pre own x D W A c ob b hI hS hDN ⟨hbl, hbo, hbb⟩ hl hx
  have HDN := zk hDN
  have n56 : p5 ≠ p6 := by have := HPP.out; omega
  have n65 : p6 ≠ p5 := n56.symm
  obtain ⟨O, Ao, co, hown, h5, hco, hFo, hO⟩ := hI.row
  have HI := zk hI
  have HSX := zk hS
  have HLX := zk hl
  have H5W := zk h5
  have H3W := zk hI.h3
  have H6W := zk hI.h6
  have HBW := zk (And.intro hbb hbo)
  have HFO := zk hFo
  have HO := zk hO
  have HOWN := zk hown
  obtain ⟨bo, ebo⟩ : ∃ bo, bo = bestDl pre := ⟨_, rfl⟩
  have HBO := zk ebo
  rw [← ebo] at H5W HFO hco
  obtain ⟨fb, efb⟩ : ∃ fb, fb = decide (pre = []) := ⟨_, rfl⟩
  rw [← efb] at H6W
  have HFB := zk efb
  obtain ⟨c_p3_0, f_p3_0, l_p3⟩ := cl1 (W := W) (p := p3) (a := .func (.func 114) #[] #[]) H3W.out
  obtain ⟨c_p5_0, f_p5_0, c_p5_1, f_p5_1, l_p5⟩ := cl2 (W := W) (p := p5) (a := .slice Ao bo.1.length co) (b := .int .i64 bo.2) H5W.out
  obtain ⟨c_p6_0, f_p6_0, l_p6⟩ := cl1 (W := W) (p := p6) (a := .bool fb) H6W.out
  have HBB := zk hbb
  obtain ⟨c_b_0, f_b_0, c_b_1, f_b_1, l_b⟩ := cl2 (W := W) (p := b) (a := .slice A x.1.length c) (b := .int .i64 x.2) HBB.out
  clear hI hS hDN hbl hbo hbb hl hx h5 hFo hO hown ebo efb
  have HW := zk (show ∀ W2, Below W.heap.size W W2 → bestDl (pre ++ [x]) = x → bodyD (w1.heap.size + 1) (.loop ob) (fun pre own W => BdIn w p3 p4 p5 p6 w1.heap.size (w1.heap.size + 1) pre own W) (pre ++ [x]) D own W Exit.normal { tmps := #[], defers := [] } (((W2.setCell ⟨p5, 0, none⟩ (.slice A x.1.length c)).setCell ⟨p5, 1, none⟩ (.int .i64 x.2)).setCell ⟨p6, 0, none⟩ (.bool false)) from by
   intro W2 hB2 hbest
   have far : ∀ k, k ≠ p5 → k ≠ p6 → (((W2.setCell ⟨p5, 0, none⟩ (.slice A x.1.length c)).setCell ⟨p5, 1, none⟩ (.int .i64 x.2)).setCell ⟨p6, 0, none⟩ (.bool false)).heap[k]? = W2.heap[k]? := fun k h5 h6 => (Below.heap_setCell _ ⟨p6, 0, none⟩ _ _ h6).trans ((Below.heap_setCell _ ⟨p5, 1, none⟩ _ _ h5).trans (Below.heap_setCell _ ⟨p5, 0, none⟩ _ _ h5))
   have hch : Chg own W (((W2.setCell ⟨p5, 0, none⟩ (.slice A x.1.length c)).setCell ⟨p5, 1, none⟩ (.int .i64 x.2)).setCell ⟨p6, 0, none⟩ (.bool false)) := by
    rw [HOWN.out]
    exact (((Chg.fresh hB2).setCell (p := ⟨p5, 0, none⟩) (.inr (.inr (.inl rfl))) _).setCell (p := ⟨p5, 1, none⟩) (.inr (.inr (.inl rfl))) _).setCell (p := ⟨p6, 0, none⟩) (.inr (.inr (.inr (.inl rfl)))) _
   have h5' := (Below.heap_setCell ((W2.setCell ⟨p5, 0, none⟩ (.slice A x.1.length c)).setCell ⟨p5, 1, none⟩ (.int .i64 x.2)) ⟨p6, 0, none⟩ (.bool false) p5 n56).trans (blk_put (blk_put (blk_below H5W.out hB2) 0 (.slice A x.1.length c) rfl) 1 (.int .i64 x.2) rfl)
   have hn : ∀ q, ownB p3 p4 p5 p6 w1.heap.size (w1.heap.size + 1) O q → ¬ D q := fun q hq hd => (HSX.out.d q hd).1 (by rw [HOWN.out]; exact hq)
   have hpp := HPP.out
   refine ⟨(far _ (by omega) (by omega)).trans (blk_below HLX.out hB2), ownB p3 p4 p5 p6 w1.heap.size (w1.heap.size + 1) (fun k => O k ∨ D k), ⟨fun k hk => ?_, hch⟩, ⟨⟨fun k => O k ∨ D k, A, c, rfl, by rw [hbest]; exact h5', by rw [hbest]; exact HSX.out.c, ?_, ?_⟩, (far _ (by omega) (by omega)).trans (blk_below H3W.out hB2), (far _ (by omega) (by omega)).trans (blk_below HI.out.h4 hB2), ?_, (far _ (by omega) (by omega)).trans (blk_below HI.out.hD hB2), Nat.lt_of_lt_of_le HI.out.sz hch.size, ?_⟩⟩
   ·rw [HOWN.out]
    rcases hk with h | h | h | h | h | h | h | h
    ·exact .inl (.inl h)
    ·exact .inl (.inr (.inl h))
    ·exact .inl (.inr (.inr (.inl h)))
    ·exact .inl (.inr (.inr (.inr (.inl h))))
    ·exact .inl (.inr (.inr (.inr (.inr (.inl h)))))
    ·exact .inl (.inr (.inr (.inr (.inr (.inr (.inl h))))))
    ·exact .inl (.inr (.inr (.inr (.inr (.inr (.inr h))))))
    ·exact .inr (.inr h)
   ·rw [hbest]
    exact Kd.F_mono (Kd.F_step HSX.out.f (fun k hk hlt => hch.block k hlt (HSX.out.d k hk).1)) (fun k hk => .inr hk)
   ·intro k hk
    have hsz := hch.size
    rcases hk with hk | hk
    ·exact ⟨Nat.lt_of_lt_of_le (HO.out k hk).1 hsz, (HO.out k hk).2⟩
    ·have h1 := HSX.out.d k hk
     have h2 := HDN.out k hk
     omega
   ·have h := blk_put ((Below.heap_setCell _ ⟨p5, 1, none⟩ (.int .i64 x.2) p6 n65).trans ((Below.heap_setCell _ ⟨p5, 0, none⟩ (.slice A x.1.length c) p6 n65).trans (blk_below H6W.out hB2))) 0 (.bool false) rfl
    simpa using h
   ·exact below_set (below_set (below_set (HI.out.bw.trans (hB2.mono HI.out.bw.size)) hpp.2.2.1) hpp.2.2.1) hpp.2.2.2.1)
  cases fb with
  |true =>
   gi_wp2
   exact HW.out W (Below.refl _ _) (by rw [bestDl_snoc, if_pos (.inl (of_decide_eq_true HFB.out.symm))])
  |false =>
   have HCB := zk (better114 x bo A Ao c co W)
   unfold dlV at HCB
   have hpre : pre ≠ [] := of_decide_eq_false HFB.out.symm
   have HPRE := zk hpre
   clear hpre
   by_cases hlt : x.2 < bo.2
   ·have hltb : decide (x.2 < bo.2) = true := by simpa using hlt
    have HLT := zk hlt
    clear hlt
    rw [hltb] at HCB
    clear hltb
    gi_wp2_with (first
     |(gi_at_call 114
       refine (CallsIn.inRound _ (callsIn_wide.2 HCB.out)).mono ?_
       rintro e W2 ⟨rfl, hB2⟩
       have HB2 := zk hB2
       have H5X := zk (blk_below H5W.out hB2)
       have H6X := zk (blk_below H6W.out hB2)
       have HBX := zk (blk_below HBW.out.1 hB2)
       clear hB2
       clear c_p5_0 f_p5_0 c_p5_1 f_p5_1 l_p5 c_p6_0 f_p6_0 l_p6 c_b_0 f_b_0 c_b_1 f_b_1 l_b
       obtain ⟨c_p5_0, f_p5_0, c_p5_1, f_p5_1, l_p5⟩ := cl2 (W := W2) (p := p5) (a := .slice Ao bo.1.length co) (b := .int .i64 bo.2) H5X.out
       obtain ⟨c_p6_0, f_p6_0, l_p6⟩ := cl1 (W := W2) (p := p6) (a := .bool false) H6X.out
       obtain ⟨c_b_0, f_b_0, c_b_1, f_b_1, l_b⟩ := cl2 (W := W2) (p := b) (a := .slice A x.1.length c) (b := .int .i64 x.2) HBX.out
       skip))
    exact HW.out W2 HB2.out (by rw [bestDl_snoc, if_pos (.inr (by rw [← HBO.out]; exact HLT.out))])
   ·have hltb : decide (x.2 < bo.2) = false := by simpa using hlt
    have HLT := zk hlt
    clear hlt
    rw [hltb] at HCB
    clear hltb
    gi_wp2_with (first
     |(gi_at_call 114
       refine (CallsIn.inRound _ (callsIn_wide.2 HCB.out)).mono ?_
       rintro e W2 ⟨rfl, hB2⟩
       have HB2 := zk hB2
       clear hB2))
    have hbest : bestDl (pre ++ [x]) = bo := by rw [bestDl_snoc, if_neg (by rw [← HBO.out]; rintro (h | h); exact HPRE.out h; have := HLT.out; omega), ← HBO.out]
    refine ⟨blk_below HLX.out HB2.out, own, .of (Moved.of_below HB2.out), ⟨⟨O, Ao, co, HOWN.out, by rw [hbest]; exact blk_below H5W.out HB2.out, by rw [hbest]; exact hco, by rw [hbest]; exact Kd.F_below HFO.out HB2.out, fun k hk => ⟨Nat.lt_of_lt_of_le (HO.out k hk).1 HB2.out.size, (HO.out k hk).2⟩⟩, blk_below H3W.out HB2.out, blk_below HI.out.h4 HB2.out, ?_, blk_below HI.out.hD HB2.out, Nat.lt_of_lt_of_le HI.out.sz HB2.out.size, HI.out.bw.trans (HB2.out.mono HI.out.bw.size)⟩⟩
    have h := blk_below H6W.out HB2.out
    simpa using h
 case hdone =>
  rintro ob own W hm hI
  obtain ⟨O, Ao, co, hown, h5, hco, hFo, hO⟩ := hI.row
  have HI := zk hI
  have HM := zk hm
  have HOWN := zk hown
  have HFO := zk hFo
  have HO := zk hO
  obtain ⟨bo, ebo⟩ : ∃ bo, bo = bestDl (dealsOf s) := ⟨_, rfl⟩
  rw [← ebo] at h5 hco HFO
  have HBO := zk ebo
  have H5W := zk h5
  have H4W := zk hI.h4
  have n45 : p4 ≠ p5 := by have := HPP.out; omega
  obtain ⟨c_p5_0, f_p5_0, c_p5_1, f_p5_1, l_p5⟩ := cl2 (W := W) (p := p5) (a := .slice Ao bo.1.length co) (b := .int .i64 bo.2) H5W.out
  obtain ⟨c_p4_0, f_p4_0, c_p4_1, f_p4_1, l_p4⟩ := cl2 (W := W) (p := p4) (a := .slice none 0 0) (b := .int .i64 0) H4W.out
  clear hm hI hown h5 hFo hO ebo
  gi_wp2
  have hpp := HPP.out
  have h4' := blk_put (blk_put H4W.out 0 (.slice Ao bo.1.length co) rfl) 1 (.int .i64 bo.2) rfl
  have hD : ((W.setCell ⟨p4, 0, none⟩ (.slice Ao bo.1.length co)).setCell ⟨p4, 1, none⟩ (.int .i64 bo.2)).heap[w1.heap.size]? = some (.deferred (some [])) := (Below.heap_setCell _ ⟨p4, 1, none⟩ _ _ (by show w1.heap.size ≠ p4; omega)).trans ((Below.heap_setCell _ ⟨p4, 0, none⟩ _ _ (by show w1.heap.size ≠ p4; omega)).trans HI.out.hD)
  refine best_ret p4 w1.heap.size (.slice Ao bo.1.length co) (.int .i64 bo.2) rfl h4' hD (by omega) ⟨Ao, co, by rw [HBO.out], by rw [← HBO.out]; exact hco, ?_, ?_⟩
  ·rw [← HBO.out]
   refine Kd.F_mono (Kd.F_step HFO.out (fun k hk hlt => ?_)) (fun k hk => (HO.out k hk).2.1)
   have h := HO.out k hk
   exact (World.putObj_heap_other h.2.2.2.2.2.2.1).trans ((Below.heap_setCell _ ⟨p4, 1, none⟩ _ _ h.2.2.2.1).trans (Below.heap_setCell _ ⟨p4, 0, none⟩ _ _ h.2.2.2.1))
  ·have h1 : Below w.heap.size w ((W.setCell ⟨p4, 0, none⟩ (.slice Ao bo.1.length co)).setCell ⟨p4, 1, none⟩ (.int .i64 bo.2)) := below_set (below_set HI.out.bw hpp.2.1) hpp.2.1
   exact h1.trans ((chg_put _ _ _).below (fun k hk => by omega) h1.size)
end Go.Proofs.YtfijblhfgfefoaaGreatDoor.Rv
end
section
namespace Go.Proofs.YtfijblhfgfefoaaGreatDoor.Rv
open Go.RowKit Go.Shelf Go.IntWalk Go.Proofs.YtfijblhfgfefoaaGreatDoor.PAll Go.Proofs.YtfijblhfgfefoaaGreatDoorW.PrintWords Go.Proofs.YtfijblhfgfefoaaGreatDoorW.PrintLast
def dealOkB (years : Int) (rivers : List S43) (lics : List S114) (takes : List S174) : Bool := isBookB years rivers && areLicencesB years rivers.length lics && areTakesB years rivers.length takes
theorem deal_good (s : Lt) (h : dealOkB s.years s.rivers s.lics s.takes = true) : LtGood s := by
 unfold dealOkB at h
 simp only [Bool.and_eq_true] at h
 obtain ⟨⟨h1, h2⟩, h3⟩ := h
 obtain ⟨hy, hn, _⟩ := book_facts h1
 unfold areLicencesB at h2
 unfold areTakesB at h3
 simp only [Bool.and_eq_true, decide_eq_true_eq, Bool.not_eq_true', List.any_eq_false] at h2 h3
 refine ⟨by omega, by omega, hn.2, fun t ht => ?_, fun l hl => ?_⟩
 ·have h4 := h3.2 t ht
  unfold badTake at h4
  simp only [Bool.or_eq_true, Bool.not_eq_true', decide_eq_true_eq, not_or, Bool.not_eq_false, inB_iff] at h4
  omega
 ·have h4 := h2.2 l hl
  unfold badLicence at h4
  simp only [Bool.or_eq_true, Bool.not_eq_true', decide_eq_true_eq, not_or, Bool.not_eq_false, inB_iff] at h4
  omega
set_option maxRecDepth 100000 in
set_option maxHeartbeats 2000000 in
theorem Deal_ok (s : Lt) (hc : s.rivers.length ≤ s.c1 ∧ s.lics.length ≤ s.c2 ∧ s.takes.length ≤ s.c3) (hok : dealOkB s.years s.rivers s.lics s.takes = true) (w : World)
 (f1 : Kd.C k43 w s.A1 s.rivers.length s.rivers) (f2 : Kd.C k114 w s.A2 s.lics.length s.lics) (f3 : Kd.C k174 w s.A3 s.takes.length s.takes) :
 Calls Tryz.prog 55 #[.agg s.cells1, .slice s.A2 s.lics.length s.c2, .slice s.A3 s.takes.length s.c3] w fun e w' =>
  ∃ v, e = .returned (.tuple #[v, .int .i64 (bestDl (dealsOf s)).2, .int .i64 0]) ∧ Kd.V (Kd.int .i64) 3 w' w.heap.size (fun k => w.heap.size ≤ k) v (bestDl (dealsOf s)).1 ∧ Below w.heap.size w w' := by
 have hu24 := Tryz.underlying24
 have hu177 := Tryz.underlying177
 have HR1 := zk f1
 have HR2 := zk f2
 have HR3 := zk f3
 have HC := zk hc
 have hlen := Kd.C_max f1
 have HG := zk (deal_good s hok)
 unfold dealOkB at hok
 simp only [Bool.and_eq_true] at hok
 obtain ⟨⟨h1, h2⟩, h3⟩ := hok
 obtain ⟨hy, hn, _⟩ := book_facts h1
 have E79 := zk (fun (W : World) (h : Kd.C k43 W s.A1 s.rivers.length s.rivers) => isBook_calls s.years s.A1 s.c1 s.rivers W h)
 have E107 := zk (fun (W : World) (h : Kd.C k114 W s.A2 s.lics.length s.lics) => areLicences_calls s.years hy s.A1 s.rivers.length s.c1 (by omega) s.A2 s.c2 s.lics W h)
 have E108 := zk (fun (W : World) (h : Kd.C k174 W s.A3 s.takes.length s.takes) => areTakes_calls s.years hy s.A1 s.rivers.length s.c1 (by omega) s.A3 s.c3 s.takes W h)
 rw [h1] at E79
 rw [h2] at E107
 rw [h3] at E108
 clear f1 f2 f3 hc h1 h2 h3 hy hn
 unfold Lt.cells1
 go_enter Tryz.func55, Tryz.ntmps55
 go_wp2_with (first
  |(go_at_call 79
    (with_reducible refine (E79.out _ (Kd.C_alloc HR1.out _)).mono ?_)
    rintro e w2 ⟨rfl, hB⟩
    have HB := zk (bt (below1 (w := w) (.cells #[.int .i64 s.years, .slice s.A1 s.rivers.length s.c1] 24)) hB)
    have H3 := zk (blk_below (blk_new w (.cells #[.int .i64 s.years, .slice s.A1 s.rivers.length s.c1] 24)) hB)
    obtain ⟨p3, e3⟩ : ∃ p3, p3 = w.heap.size := ⟨_, rfl⟩
    rw [← e3] at H3 ⊢
    clear hB e3
    obtain ⟨c_p3_0, f_p3_0, c_p3_1, f_p3_1, l_p3⟩ := cl2 (W := w2) (p := p3) (a := .int .i64 s.years) (b := .slice s.A1 s.rivers.length s.c1) H3.out
    skip)
  |(go_at_call 107
    (with_reducible refine (E107.out _ (Kd.C_below HR2.out HB.out)).mono ?_)
    rintro e w3 ⟨rfl, hB⟩
    replace HB := zk (bt HB.out hB)
    replace H3 := zk (blk_below H3.out hB)
    clear hB
    clear c_p3_0 f_p3_0 c_p3_1 f_p3_1 l_p3
    obtain ⟨c_p3_0, f_p3_0, c_p3_1, f_p3_1, l_p3⟩ := cl2 (W := w3) (p := p3) (a := .int .i64 s.years) (b := .slice s.A1 s.rivers.length s.c1) H3.out
    skip)
  |(go_at_call 108
    (with_reducible refine (E108.out _ (Kd.C_below HR3.out HB.out)).mono ?_)
    rintro e w3 ⟨rfl, hB⟩
    replace HB := zk (bt HB.out hB)
    replace H3 := zk (blk_below H3.out hB)
    clear hB
    clear c_p3_0 f_p3_0 c_p3_1 f_p3_1 l_p3
    obtain ⟨c_p3_0, f_p3_0, c_p3_1, f_p3_1, l_p3⟩ := cl2 (W := w3) (p := p3) (a := .int .i64 s.years) (b := .slice s.A1 s.rivers.length s.c1) H3.out
    have HD := zk (deals113 s w3)
    unfold Lt.cells1 at HD
    skip)
  |(go_at_call 113
    (with_reducible refine HD.out.mono ?_)
    rintro e w4 ⟨rfl, hd1, hd2, hd3, hB⟩
    have HBX := zk (bt HB.out hB)
    have HBE := zk (best112 s HG.out (w3.heap.size + 2) (w3.heap.size + 1) w3.heap.size HC.out w4 (Kd.C_below HR1.out HBX.out) (Kd.C_below HR2.out HBX.out) (Kd.C_below HR3.out HBX.out) hd3 hd2 hd1)
    clear hd1 hd2 hd3 hB)
  |(go_at_call 112
    (with_reducible refine HBE.out.mono ?_)
    rintro e w5 ⟨A, c, rfl, hle, hF, hB⟩
    have HF5 := zk (And.intro hle hF)
    have HBY := zk (bt HBX.out hB)
    clear hle hF hB))
 obtain ⟨bd, ebd⟩ : ∃ bd, bd = bestDl (dealsOf s) := ⟨_, rfl⟩
 rw [← ebd] at HF5 ⊢
 have EBD := zk ebd
 have HS4 := zk HBX.out.size
 clear ebd
 have HBL := zk (below_alloc HBY.out (.cells #[.slice A bd.1.length c, .int .i64 bd.2] 177))
 have HF6 := zk (Kd.F_alloc HF5.out.2 (.cells #[.slice A bd.1.length c, .int .i64 bd.2] 177))
 have H9 := zk (blk_new w5 (.cells #[.slice A bd.1.length c, .int .i64 bd.2] 177))
 obtain ⟨p9, e9⟩ : ∃ p9, p9 = w5.heap.size := ⟨_, rfl⟩
 rw [← e9] at H9 ⊢
 clear e9
 generalize w5.alloc (.cells #[.slice A bd.1.length c, .int .i64 bd.2] 177) = W5 at HBL HF6 H9 ⊢
 refine region_lit (lit := ?lit2) 5 [[],[0],[],[2],[0,1]]
  [some (.pointer (some ⟨p9, 0, none⟩)), some (.slice A bd.1.length c), some (.pointer (some ⟨p9, 1, none⟩)), some (.int .i64 bd.2), some (.slice A bd.1.length c)]
  (fun f u W' => Aside0 (Below W5.heap.size W5 W')) ?hlit2 (by kernel_rfl) (by kernel_rfl) (by decide) ?_ ?_ ?_ ?_ ?_
 case hlit2 =>
  intro u
  simp only [List.take_succ_cons, List.take_zero, List.map_cons, List.map_nil, setAll, Nat.reduceAdd, Act.put, List.setIfInBounds_toArray, List.set_cons_succ, List.set_cons_zero]
  try rfl
 ·intro u w2 hw
  exact zk (hw.below _)
 ·intro i v f u W' hv h
  exact h
 ·intro i o' v hi ho hv f u W' hM hdep hd
  have H5W := zk (blk_below H9.out hM.out)
  obtain ⟨c_p9_0, f_p9_0, c_p9_1, f_p9_1, l_p9⟩ := cl2 (W := W') (p := p9) (a := .slice A bd.1.length c) (b := .int .i64 bd.2) H5W.out
  clear H5W hM hdep
  replace hi : i < 5 := hi
  match i, hi with
  |0, _ =>
   cases ho
   cases zs hv
   clear hd hv
   go_wp2
   exact zt
  |1, _ =>
   cases ho
   cases zs hv
   have e0 := hd 0 _ (by decide) rfl
   clear hd hv
   go_wp2
   exact zt
  |2, _ =>
   cases ho
   cases zs hv
   clear hd hv
   go_wp2
   exact zt
  |3, _ =>
   cases ho
   cases zs hv
   have e2 := hd 2 _ (by decide) rfl
   clear hd hv
   go_wp2
   exact zt
  |4, _ =>
   cases ho
   cases zs hv
   have e0 := hd 0 _ (by decide) rfl
   have e1 := hd 1 _ (by decide) rfl
   clear hd hv
   go_wp2
   exact zt
 ·intro i o' hi ho hv f u W' hM hb hdep hq hd
  match i, hi with
  |0, _ => cases hv
  |1, _ => cases hv
  |2, _ => cases hv
  |3, _ => cases hv
  |4, _ => cases hv
  |j + 5, hi => exact absurd hi (by omega)
 ·intro f u W' hall hM hd
  have e3' := hd 3 _ (by decide) rfl
  have e4' := hd 4 _ (by decide) rfl
  have HBF := zk (HBL.out.trans (hM.out.mono HBL.out.size))
  have HF7 := zk (Kd.F_below HF6.out hM.out)
  clear hall hd hM
  go_wp2
  go_ret3
  exact ⟨.slice A bd.1.length c, by rw [← EBD.out]; simp [e4'], by rw [← EBD.out]; exact Kd.V_mk HF5.out.1 (Kd.F_mono HF7.out (fun k hk => Nat.le_trans HS4.out hk)), HBF.out⟩
end Go.Proofs.YtfijblhfgfefoaaGreatDoor.Rv
end
section
namespace Go.Proofs.YtfijblhfgfefoaaGreatDoor.Rv
open Go.RowKit Go.Shelf Go.IntWalk Go.Proofs.YtfijblhfgfefoaaGreatDoor.PAll Go.Proofs.YtfijblhfgfefoaaGreatDoorW.PrintWords Go.Proofs.YtfijblhfgfefoaaGreatDoorW.PrintLast
set_option maxRecDepth 100000 in
set_option maxHeartbeats 2000000 in
theorem Deal_err (s : Lt) (hok : dealOkB s.years s.rivers s.lics s.takes = false) (w : World)
 (f1 : Kd.C k43 w s.A1 s.rivers.length s.rivers) (f2 : Kd.C k114 w s.A2 s.lics.length s.lics) (f3 : Kd.C k174 w s.A3 s.takes.length s.takes) :
 Calls Tryz.prog 55 #[.agg s.cells1, .slice s.A2 s.lics.length s.c2, .slice s.A3 s.takes.length s.c3] w fun e w' => e = .returned (.tuple #[.slice none 0 0, .int .i64 0, .int .i64 2]) ∧ Below w.heap.size w w' := by
 have hu24 := Tryz.underlying24
 have HR1 := zk f1
 have HR2 := zk f2
 have HR3 := zk f3
 have hlen := Kd.C_max f1
 unfold dealOkB at hok
 have E79 := zk (fun (W : World) (h : Kd.C k43 W s.A1 s.rivers.length s.rivers) => isBook_calls s.years s.A1 s.c1 s.rivers W h)
 clear f1 f2 f3
 unfold Lt.cells1
 cases h1 : isBookB s.years s.rivers with
 |false =>
  rw [h1] at E79
  clear h1 hok
  go_enter Tryz.func55, Tryz.ntmps55
  go_wp2_with (first
   |(go_at_call 79
     (with_reducible refine (E79.out _ (Kd.C_alloc HR1.out _)).mono ?_)
     rintro e w2 ⟨rfl, hB⟩
     have HB := zk (bt (below1 (w := w) (.cells #[.int .i64 s.years, .slice s.A1 s.rivers.length s.c1] 24)) hB)
     have H3 := zk (blk_below (blk_new w (.cells #[.int .i64 s.years, .slice s.A1 s.rivers.length s.c1] 24)) hB)
     obtain ⟨p3, e3⟩ : ∃ p3, p3 = w.heap.size := ⟨_, rfl⟩
     rw [← e3] at H3 ⊢
     clear hB e3
     obtain ⟨c_p3_0, f_p3_0, c_p3_1, f_p3_1, l_p3⟩ := cl2 (W := w2) (p := p3) (a := .int .i64 s.years) (b := .slice s.A1 s.rivers.length s.c1) H3.out
     skip)
   |(go_at_call 107
     (with_reducible refine (E107.out _ (Kd.C_below HR2.out HB.out)).mono ?_)
     rintro e w3 ⟨rfl, hB⟩
     replace HB := zk (bt HB.out hB)
     replace H3 := zk (blk_below H3.out hB)
     clear hB
     clear c_p3_0 f_p3_0 c_p3_1 f_p3_1 l_p3
     obtain ⟨c_p3_0, f_p3_0, c_p3_1, f_p3_1, l_p3⟩ := cl2 (W := w3) (p := p3) (a := .int .i64 s.years) (b := .slice s.A1 s.rivers.length s.c1) H3.out
     skip)
   |(go_at_call 108
     (with_reducible refine (E108.out _ (Kd.C_below HR3.out HB.out)).mono ?_)
     rintro e w3 ⟨rfl, hB⟩
     replace HB := zk (bt HB.out hB)
     clear hB))
  go_ret3
  exact ⟨rfl, HB.out⟩
 |true =>
  obtain ⟨hy, hn, _⟩ := book_facts h1
  have E107 := zk (fun (W : World) (h : Kd.C k114 W s.A2 s.lics.length s.lics) => areLicences_calls s.years hy s.A1 s.rivers.length s.c1 (by omega) s.A2 s.c2 s.lics W h)
  have E108 := zk (fun (W : World) (h : Kd.C k174 W s.A3 s.takes.length s.takes) => areTakes_calls s.years hy s.A1 s.rivers.length s.c1 (by omega) s.A3 s.c3 s.takes W h)
  rw [h1] at E79 hok
  clear h1 hy hn
  generalize areLicencesB s.years s.rivers.length s.lics = b2 at E107 hok
  generalize areTakesB s.years s.rivers.length s.takes = b3 at E108 hok
  cases b2 with
  |false =>
   clear hok
   go_enter Tryz.func55, Tryz.ntmps55
   go_wp2_with (first
    |(go_at_call 79
      (with_reducible refine (E79.out _ (Kd.C_alloc HR1.out _)).mono ?_)
      rintro e w2 ⟨rfl, hB⟩
      have HB := zk (bt (below1 (w := w) (.cells #[.int .i64 s.years, .slice s.A1 s.rivers.length s.c1] 24)) hB)
      have H3 := zk (blk_below (blk_new w (.cells #[.int .i64 s.years, .slice s.A1 s.rivers.length s.c1] 24)) hB)
      obtain ⟨p3, e3⟩ : ∃ p3, p3 = w.heap.size := ⟨_, rfl⟩
      rw [← e3] at H3 ⊢
      clear hB e3
      obtain ⟨c_p3_0, f_p3_0, c_p3_1, f_p3_1, l_p3⟩ := cl2 (W := w2) (p := p3) (a := .int .i64 s.years) (b := .slice s.A1 s.rivers.length s.c1) H3.out
      skip)
    |(go_at_call 107
      (with_reducible refine (E107.out _ (Kd.C_below HR2.out HB.out)).mono ?_)
      rintro e w3 ⟨rfl, hB⟩
      replace HB := zk (bt HB.out hB)
      replace H3 := zk (blk_below H3.out hB)
      clear hB
      clear c_p3_0 f_p3_0 c_p3_1 f_p3_1 l_p3
      obtain ⟨c_p3_0, f_p3_0, c_p3_1, f_p3_1, l_p3⟩ := cl2 (W := w3) (p := p3) (a := .int .i64 s.years) (b := .slice s.A1 s.rivers.length s.c1) H3.out
      skip)
    |(go_at_call 108
      (with_reducible refine (E108.out _ (Kd.C_below HR3.out HB.out)).mono ?_)
      rintro e w3 ⟨rfl, hB⟩
      replace HB := zk (bt HB.out hB)
      clear hB))
   go_ret3
   exact ⟨rfl, HB.out⟩
  |true =>
   have h3 : b3 = false := by simpa using hok
   subst h3
   clear hok
   go_enter Tryz.func55, Tryz.ntmps55
   go_wp2_with (first
    |(go_at_call 79
      (with_reducible refine (E79.out _ (Kd.C_alloc HR1.out _)).mono ?_)
      rintro e w2 ⟨rfl, hB⟩
      have HB := zk (bt (below1 (w := w) (.cells #[.int .i64 s.years, .slice s.A1 s.rivers.length s.c1] 24)) hB)
      have H3 := zk (blk_below (blk_new w (.cells #[.int .i64 s.years, .slice s.A1 s.rivers.length s.c1] 24)) hB)
      obtain ⟨p3, e3⟩ : ∃ p3, p3 = w.heap.size := ⟨_, rfl⟩
      rw [← e3] at H3 ⊢
      clear hB e3
      obtain ⟨c_p3_0, f_p3_0, c_p3_1, f_p3_1, l_p3⟩ := cl2 (W := w2) (p := p3) (a := .int .i64 s.years) (b := .slice s.A1 s.rivers.length s.c1) H3.out
      skip)
    |(go_at_call 107
      (with_reducible refine (E107.out _ (Kd.C_below HR2.out HB.out)).mono ?_)
      rintro e w3 ⟨rfl, hB⟩
      replace HB := zk (bt HB.out hB)
      replace H3 := zk (blk_below H3.out hB)
      clear hB
      clear c_p3_0 f_p3_0 c_p3_1 f_p3_1 l_p3
      obtain ⟨c_p3_0, f_p3_0, c_p3_1, f_p3_1, l_p3⟩ := cl2 (W := w3) (p := p3) (a := .int .i64 s.years) (b := .slice s.A1 s.rivers.length s.c1) H3.out
      skip)
    |(go_at_call 108
      (with_reducible refine (E108.out _ (Kd.C_below HR3.out HB.out)).mono ?_)
      rintro e w3 ⟨rfl, hB⟩
      replace HB := zk (bt HB.out hB)
      clear hB))
   go_ret3
   exact ⟨rfl, HB.out⟩
end Go.Proofs.YtfijblhfgfefoaaGreatDoor.Rv
namespace Go.Proofs.YtfijblhfgfefoaaGreatDoor.PAll
open Go.RowKit Go.Proofs.YtfijblhfgfefoaaGreatDoor.Rv Go.Proofs.YtfijblhfgfefoaaGreatDoorW.PrintWords Go.Proofs.YtfijblhfgfefoaaGreatDoorW.PrintLast
def ltOf (years : Int) (rivers : List S43) (lics : List S114) (takes : List S174) : Lt := ⟨years, none, 0, rivers, none, 0, lics, none, 0, takes⟩
def river_Deal.f (a0_0 : Int) (l0_1 : List (S43)) (l1 : List (S114)) (l2 : List (S174)) : Option (List Int × Int × Int) :=
 if dealOkB a0_0 l0_1 l1 l2 = true then some ((bestDl (dealsOf (ltOf a0_0 l0_1 l1 l2))).1, (bestDl (dealsOf (ltOf a0_0 l0_1 l1 l2))).2, 0) else some ([], 0, 2)
theorem deals_free (s t : Lt) (h1 : s.years = t.years) (h2 : s.rivers = t.rivers) (h3 : s.lics = t.lics) (h4 : s.takes = t.takes) : ∀ d x u, dealsFrom s d x u = dealsFrom t d x u
 |0, x, u => rfl
 |d + 1, x, u => by
  have e1 : ∀ i, takeAt s i = takeAt t i := fun i => by simp [takeAt, h4]
  have e2 : ∀ k, licAt s k = licAt t k := fun k => by simp [licAt, h3]
  have e3 : ∀ u i k, fitsL s u i k = fitsL t u i k := fun u i k => by simp [fitsL, e1, e2, h1, h2]
  simp only [dealsFrom, e1, e3, h3, deals_free s t h1 h2 h3 h4 d]
theorem river_Deal.calls (a0_0 : Int) (A0_1 : Option Addr) (c0_1 : Nat) (l0_1 : List (S43)) (A1 : Option Addr) (c1 : Nat) (l1 : List (S114)) (A2 : Option Addr) (c2 : Nat) (l2 : List (S174)) (r1 : List Int) (r2 : Int) (r3 : Int) (w : World) (hr0_1 : Kd.C k43 w A0_1 l0_1.length l0_1) (hc0_1 : l0_1.length ≤ c0_1) (hr1 : Kd.C k114 w A1 l1.length l1) (hc1 : l1.length ≤ c1) (hr2 : Kd.C k174 w A2 l2.length l2) (hc2 : l2.length ≤ c2) (h : river_Deal.f a0_0 l0_1 l1 l2 = some (r1, r2, r3)) :
 Calls Tryz.prog 55 #[.agg #[.int .i64 a0_0, .slice A0_1 l0_1.length c0_1], .slice A1 l1.length c1, .slice A2 l2.length c2] w fun e w' => ∃ v0_ : Value, e = .returned (.tuple #[v0_, .int .i64 r2, .int .i64 r3]) ∧ Kd.V (Kd.int .i64) 3 w' w.heap.size (fun k_ => (w.heap.size ≤ k_)) v0_ r1 ∧ Below w.heap.size w w' := by
 unfold river_Deal.f at h
 split at h
 ·rename_i hok
  cases h
  have e : dealsOf (ltOf a0_0 l0_1 l1 l2) = dealsOf ⟨a0_0, A0_1, c0_1, l0_1, A1, c1, l1, A2, c2, l2⟩ := deals_free (ltOf a0_0 l0_1 l1 l2) ⟨a0_0, A0_1, c0_1, l0_1, A1, c1, l1, A2, c2, l2⟩ rfl rfl rfl rfl l2.length ([], 0) (List.replicate l1.length 0)
  rw [e]
  exact Deal_ok ⟨a0_0, A0_1, c0_1, l0_1, A1, c1, l1, A2, c2, l2⟩ ⟨hc0_1, hc1, hc2⟩ hok w hr0_1 hr1 hr2
 ·rename_i hok
  cases h
  refine (Deal_err ⟨a0_0, A0_1, c0_1, l0_1, A1, c1, l1, A2, c2, l2⟩ (by simpa using hok) w hr0_1 hr1 hr2).mono ?_
  rintro e w' ⟨rfl, hb⟩
  exact ⟨_, rfl, Kd.V_nil _ _ _ _ _, hb⟩
end Go.Proofs.YtfijblhfgfefoaaGreatDoor.PAll
end
