/- A part of the proof: words, contracts of functions, and their walks. -/
import Derived.Test.YtfijblhfgfefoaaGreatDoorQLess3
import Derived.Test.YtfijblhfgfefoaaGreatDoorQLess25
set_option linter.unusedVariables false
set_option linter.unusedSimpArgs false
section
namespace Go.Proofs.YtfijblhfgfefoaaGreatDoor.Rv
open Go.RowKit Go.Shelf Go.IntWalk Go.Proofs.YtfijblhfgfefoaaGreatDoor.PAll Go.Proofs.YtfijblhfgfefoaaGreatDoorW.PrintWords Go.Proofs.YtfijblhfgfefoaaGreatDoorW.PrintLast
open Go.Maps
structure Spl (least : Int) (mb p2 p4 p8 N : Nat) (q : Int × Int) (w : World) (ys ns : List Int) (vY vN : Value) (wr : World) : Prop where
 st : BSt least mb p2 p4 p8 N q w wr
 oy : wr.ownsRow w.heap.size 3 1 vY ys.length (nums64 ys)
 on : wr.ownsRow w.heap.size 3 1 vN ns.length (nums64 ns)
 ap : ∀ k, vY.ownBlock = some k → vN.ownBlock ≠ some k
theorem Spl.below {least : Int} {mb p2 p4 p8 N : Nat} {q : Int × Int} {w : World} {ys ns : List Int} {vY vN : Value} {wr W : World} (h : Spl least mb p2 p4 p8 N q w ys ns vY vN wr) (hb : Below wr.heap.size wr W) : Spl least mb p2 p4 p8 N q w ys ns vY vN W :=
 ⟨h.st.below hb, pw_own_below h.oy hb, pw_own_below h.on hb, h.ap⟩
theorem own_not_map {w : World} {base n : Nat} {v : Value} {xs : List Value} {mb : Nat} (h : w.ownsRow base 3 1 v n xs) (hm : ∃ es clock, w.heap[mb]? = some (.map es clock)) : ∀ k, v.ownBlock = some k → k ≠ mb := by
 rintro k hk rfl
 obtain ⟨es, clock, hm⟩ := hm
 rcases h.2 with ⟨rfl, _⟩ | ⟨g, cap, cur, rfl, _, hg, _⟩
 ·cases hk
 ·have : g = k := by simpa [Value.ownBlock] using hk
  subst this
  rw [hg] at hm
  cases hm
theorem BSt.grown {least : Int} {mb p2 p4 p8 N n : Nat} {q : Int × Int} {w W W' : World} {v : Value} {xs : List Value} (h : BSt least mb p2 p4 p8 N q w W) (ho : W.ownsRow w.heap.size 3 1 v n xs) (hg : W.grownBy W' v.ownBlock) : BSt least mb p2 p4 p8 N q w W' := by
 have hb : ∀ k, k < W.heap.size → some k ≠ v.ownBlock → W'.heap[k]? = W.heap[k]? := hg.block
 have hmm : some mb ≠ v.ownBlock := fun e => own_not_map ho h.memo.blk mb e.symm rfl
 refine ⟨(hb _ (blk_lt h.h2) (own_ne ho h.h2 (by decide))).trans h.h2, (hb _ (blk_lt h.h4) (own_ne ho h.h4 (by decide))).trans h.h4, (hb _ (blk_lt h.h8) (own_ne ho h.h8 (by decide))).trans h.h8, h.memo.move (hb mb h.memo.lt hmm), ⟨hg.os.trans h.chg.os, hg.tape.trans h.chg.tape, hg.output.trans h.chg.output, Nat.le_trans h.chg.size hg.size, fun i hi hne => (hb i (Nat.lt_of_lt_of_le hi h.chg.size) (fun e => ?_)).trans (h.chg.block i hi hne)⟩⟩
 have := own_base ho i e.symm
 omega
theorem Spl.pushY {least : Int} {mb p2 p4 p8 N : Nat} {q : Int × Int} {w : World} {ys ns : List Int} {vY vN v8 : Value} {wr W8 : World} {m : Int} (h : Spl least mb p2 p4 p8 N q w ys ns vY vN wr) (ho : W8.ownsRow w.heap.size 3 1 v8 (ys.length + 1) (nums64 ys ++ [.int .i64 m])) (hg : wr.grownBy W8 vY.ownBlock) (ha : v8.ownBlock = vY.ownBlock ∨ v8.ownBlock = some wr.heap.size) :
 Spl least mb p2 p4 p8 N q w (ys ++ [m]) ns v8 vN W8 := by
 refine ⟨h.st.grown h.oy hg, ?_, own_move h.on (fun k hk => hg.block k (own_lt h.on k hk) (fun e => h.ap k e.symm hk)), fun k hk hn => ?_⟩
 ·rw [List.length_append]
  simpa [nums64] using ho
 ·rcases ha with e | e
  ·exact h.ap k (e.symm.trans hk) hn
  ·rw [e] at hk
   cases hk
   have := own_lt h.on _ hn
   omega
theorem Spl.pushN {least : Int} {mb p2 p4 p8 N : Nat} {q : Int × Int} {w : World} {ys ns : List Int} {vY vN v8 : Value} {wr W8 : World} {m : Int} (h : Spl least mb p2 p4 p8 N q w ys ns vY vN wr) (ho : W8.ownsRow w.heap.size 3 1 v8 (ns.length + 1) (nums64 ns ++ [.int .i64 m])) (hg : wr.grownBy W8 vN.ownBlock) (ha : v8.ownBlock = vN.ownBlock ∨ v8.ownBlock = some wr.heap.size) :
 Spl least mb p2 p4 p8 N q w ys (ns ++ [m]) vY v8 W8 := by
 refine ⟨h.st.grown h.on hg, own_move h.oy (fun k hk => hg.block k (own_lt h.oy k hk) (fun e => h.ap k hk e.symm)), ?_, fun k hk hn => ?_⟩
 ·rw [List.length_append]
  simpa [nums64] using ho
 ·rcases ha with e | e
  ·exact h.ap k hk (e.symm.trans hn)
  ·rw [e] at hn
   cases hn
   have := own_lt h.oy _ hk
   omega
structure NdMem (least : Int) (mb N a c : Nat) (n1 n2 : Int) (W0 W : World) (b2 b5 : Bool) (u2 u5 : Value) : Prop where
 chg : Chg (fun k => k = mb) W0 W
 memo : Memo least mb (if b5 = true then N + a + c else if b2 = true then N + a else N) W
 m2 : b2 = true → u2 = .int .i64 n1
 m5 : b5 = true → u5 = .int .i64 n2
theorem max_mx (a b : Int) : max a b = mx a b := by
 unfold mx
 split <;> omega
theorem BSt.set {least : Int} {mb p2 p4 p8 N : Nat} {q : Int × Int} {w W : World} (h : BSt least mb p2 p4 p8 N q w W) (hw : w.heap.size ≤ p8) (h48 : p4 ≠ p8) (q' : Int × Int) : BSt least mb p2 p4 p8 N q' w ((W.setCell ⟨p8, 0, none⟩ (.int .i64 q'.1)).setCell ⟨p8, 1, none⟩ (.int .i64 q'.2)) := by
 have far : ∀ k, k ≠ p8 → ((W.setCell ⟨p8, 0, none⟩ (.int .i64 q'.1)).setCell ⟨p8, 1, none⟩ (.int .i64 q'.2)).heap[k]? = W.heap[k]? := fun k hk => (Below.heap_setCell _ ⟨p8, 1, none⟩ _ _ hk).trans (Below.heap_setCell _ ⟨p8, 0, none⟩ _ _ hk)
 have h28 : p2 ≠ p8 := by
  rintro rfl
  have := h.h2.symm.trans h.h8
  simp at this
 refine ⟨(far _ h28).trans h.h2, (far _ h48).trans h.h4, blk_put (blk_put h.h8 0 _ rfl) 1 _ rfl, h.memo.move (far _ (h.memo.ne h.h8).symm), ⟨h.chg.os, h.chg.tape, h.chg.output, by have := h.chg.size; simpa [World.setCell] using this, fun i hi hne => (far i (by omega)).trans (h.chg.block i hi hne)⟩⟩
theorem yes_snoc (l : List Int) (i kk : Nat) (h : kk < l.length) : yesL (l.take (kk + 1)) i = if bitB l[kk] i = true then yesL (l.take kk) i ++ [l[kk]] else yesL (l.take kk) i := by
 unfold yesL
 rw [List.take_succ_eq_append_getElem h, List.filter_append]
 by_cases hb : bitB l[kk] i = true <;> simp [hb]
theorem no_snoc (l : List Int) (i kk : Nat) (h : kk < l.length) : noL (l.take (kk + 1)) i = if bitB l[kk] i = true then noL (l.take kk) i else noL (l.take kk) i ++ [l[kk]] := by
 unfold noL
 rw [List.take_succ_eq_append_getElem h, List.filter_append]
 by_cases hb : bitB l[kk] i = true <;> simp [hb]
theorem has_int (m : Int) (i : Nat) (h : ∃ n : Nat, m = n ∧ n < 16) (hi : i < 4) : river_has.f m (i : Int) = some (bitB m i) := by
 obtain ⟨n, rfl, hn⟩ := h
 exact has_f n i hn hi
set_option maxRecDepth 100000 in
set_option maxHeartbeats 4000000 in
theorem best_miss (least : Int) (mb : Nat) (l : List Int) (hcan : Canon l) (hih : ∀ l' : List Int, l'.length < l.length → Canon l' → BestC least mb l') (N : Nat) (w : World) (A : Option Addr) (c : Nat) (hm : Memo least mb N w) (hN : N + 9 ^ l.length ≤ 9000000000000000000)
 (D : DU) (hD : w.ownsMap Tryz.prog 3 planElem mb N D) (hh : Maps.has D (.int .i64 (keyN l : Int)) = false) (hlc : l.length ≤ c)
 (hr : Kd.C (Kd.int .i64) w A l.length l) :
 Calls Tryz.prog 91 #[.agg #[.int .i64 least, .map (some mb)], .slice A l.length c] w fun e w' => e = .returned (.agg #[.int .i64 (bestP least l).1, .int .i64 (bestP least l).2]) ∧ Memo least mb (N + 9 ^ l.length) w' ∧ Chg (fun k => k = mb) w w' := by
 have HR := zk hr
 have HM := zk hm
 have HIH := zk hih
 have HCAN := zk hcan
 have hl16 := hcan.length
 obtain ⟨kf, hkf⟩ := key_f l (fun m h => hcan.mem h) (by omega)
 have hkl := keyN_lt (fun m h => hcan.mem h)
 have HV := zk (fun m (h : m ∈ l) => hcan.mem h)
 obtain ⟨M, eM⟩ : ∃ M, M = 9 ^ l.length / 9 := ⟨_, rfl⟩
 have hM1 : 8 * M + 1 ≤ 9 ^ l.length := by
  have := Nat.one_le_pow l.length 9 (by omega)
  rw [eM]
  omega
 have HM2 := zk (show ∀ k, k < l.length → 9 ^ k ≤ M by
  intro k hk
  obtain ⟨L, e⟩ : ∃ L, l.length = L + 1 := ⟨l.length - 1, by omega⟩
  rw [eM, e, Nat.pow_succ, Nat.mul_div_cancel _ (by omega)]
  exact Nat.pow_le_pow_right (by omega) (by omega))
 have HN := zk (And.intro hN hM1)
 obtain ⟨K, eK⟩ : ∃ K, K = keyN l := ⟨_, rfl⟩
 rw [← eK] at hkf hkl hh
 have EK := zk eK
 have HKEY := zk (keyOf_int_mk (k := 3) Tryz.underlying3 (int_wf K hkl))
 have HH := zk hh
 have HD := zk hD
 have HKC := zk (fun (W : World) (h : Kd.C (Kd.int .i64) W A l.length l) => river_key.calls kf A c l _ W h hlc hkf)
 clear hr hkf hkl eK hh hD hm hih hcan hN hM1 eM
 have hu154 := Tryz.underlying154
 have hu157 := Tryz.underlying157
 go_enter Tryz.func91, Tryz.ntmps91
 go_wp2
 go_step3
 go_wp2_with (first
  |(go_at_call 147
    (with_reducible refine (HKC.out _ (Kd.C_alloc (Kd.C_alloc HR.out _) _)).mono ?_)
    rintro e w2 ⟨rfl, hdr⟩
    have HB := zk (bt ((below1 (.cells #[.int .i64 least, .map (some mb)] 154)).alloc (by simp) (.cells #[.int .i64 0, .int .i64 0] 157)) (by first | exact hdr.below | exact hdr.below _))
    have H2 := zk (blk_below (blk_alloc (blk_new w (.cells #[.int .i64 least, .map (some mb)] 154)) (.cells #[.int .i64 0, .int .i64 0] 157)) (w1 := w2) (by first | exact hdr.below | exact hdr.below _))
    have H4 := zk (blk_below (blk_new (w.alloc (.cells #[.int .i64 least, .map (some mb)] 154)) (.cells #[.int .i64 0, .int .i64 0] 157)) (w1 := w2) (by first | exact hdr.below | exact hdr.below _))
    obtain ⟨p2, e2⟩ : ∃ p2, p2 = w.heap.size := ⟨_, rfl⟩
    obtain ⟨p4, e4⟩ : ∃ p4, p4 = w.heap.size + 1 := ⟨_, rfl⟩
    simp only [World.size_alloc] at H4
    rw [← e2] at H2
    rw [← e4] at H4
    rw [← e4, ← e2]
    have HE := zk (And.intro e2 e4)
    clear hdr e2 e4
    obtain ⟨c_p2_0, f_p2_0, c_p2_1, f_p2_1, l_p2⟩ := cl2 (W := w2) (p := p2) (a := .int .i64 least) (b := .map (some mb)) H2.out
    skip)
  |(at_lookup
    refine wpList_lookup_plan _ rfl _ _ rfl mb N D rfl (HD.out.move HB.out) K rfl HKEY.out false HH.out ?_
    intro p hp
    clear hp))
 go_step3
 have HBST := zk (show BSt least mb p2 p4 (w2.heap.size + 1) N (-1, 0) w ((w2.alloc (.cells #[.int .i64 p.1, .int .i64 p.2] 157)).alloc (.cells #[.int .i64 (-1), .int .i64 0] 157)) from by
  have hb := bt HB.out ((below1 (w := w2) (.cells #[.int .i64 p.1, .int .i64 p.2] 157)).alloc (by simp) (.cells #[.int .i64 (-1), .int .i64 0] 157))
  refine ⟨blk_alloc (blk_alloc H2.out _) _, blk_alloc (blk_alloc H4.out _) _, ?_, HM.out.below hb, Chg.fresh hb⟩
  have := blk_new (w2.alloc (.cells #[.int .i64 p.1, .int .i64 p.2] 157)) (.cells #[.int .i64 (-1), .int .i64 0] 157)
  simpa using this)
 obtain ⟨p8, e8⟩ : ∃ p8, p8 = w2.heap.size + 1 := ⟨_, rfl⟩
 have HPP := zk (show w.heap.size ≤ p2 ∧ w.heap.size ≤ p4 ∧ w.heap.size ≤ p8 ∧ p4 ≠ p8 from by have := blk_lt H4.out; have := HE.out; omega)
 rw [← e8] at HBST ⊢
 clear e8 HE
 generalize (w2.alloc (.cells #[.int .i64 p.1, .int .i64 p.2] 157)).alloc (.cells #[.int .i64 (-1), .int .i64 0] 157) = W0 at HBST ⊢
 clear HB H2 H4 c_p2_0 c_p2_1 f_p2_0 f_p2_1 l_p2
 go_wp2
 go_loopg [29] 4 (fun gg v29 wr => ∃ i : Nat, i ≤ 4 ∧ 4 - i ≤ gg ∧ v29 = .int .i64 i ∧ Aside0 (BSt least mb p2 p4 p8 (N + i * (2 * M)) (bestTo least l i) w wr))
 case atStart => exact ⟨0, by omega, by omega, rfl, ⟨by rw [Nat.zero_mul, Nat.add_zero]; exact HBST.out⟩⟩
 case round =>
  obtain ⟨i, hi, hgg, rfl, BW⟩ := hrel
  by_cases hlt : i < 4
  ·have hltz : (i : Int) < 4 := by omega
   go_wp2
   obtain ⟨q0, eq0⟩ : ∃ q0, q0 = bestTo least l i := ⟨_, rfl⟩
   rw [← eq0] at BW
   have EQ0 := zk eq0
   clear eq0
   go_loopg [10, 11, 34] l.length (fun gg v10 v11 v34 ws => ∃ (kk : Nat) (vY vN : Value), kk ≤ l.length ∧ l.length - kk ≤ gg ∧ v10 = vY ∧ v11 = vN ∧ v34 = .int .i64 kk ∧ Aside0 (Spl least mb p2 p4 p8 (N + i * (2 * M)) q0 w (yesL (l.take kk) i) (noL (l.take kk) i) vY vN ws))
   case atStart => exact ⟨0, _, _, by omega, by omega, rfl, rfl, rfl, ⟨BW.out, own_nil _ _ _ _, own_nil _ _ _ _, fun k h => by cases h⟩⟩
   case round =>
    obtain ⟨kk, vY, vN, hkk, hg2, rfl, rfl, rfl, BS⟩ := hrel
    by_cases hlt2 : kk < l.length
    ·have hltz2 : (kk : Int) < (l.length : Int) := by omega
     have hW := C_int_map HR.out HM.out.blk BS.out.st.chg
     obtain ⟨ad, hA, d0⟩ := Kd.at_int hW (kk : Int) (by omega) (by omega)
     subst hA
     have hx : l[kk] = rd l (kk : Int) := by simp [rd, List.getD_eq_getElem?_getD, List.getElem?_eq_getElem hlt2]
     obtain ⟨m, hm⟩ : ∃ m, rd l (kk : Int) = m := ⟨_, rfl⟩
     rw [hm] at d0 hx
     simp only [Int.toNat_natCast] at d0
     have S1 := zk (yes_snoc l i kk hlt2)
     have S2 := zk (no_snoc l i kk hlt2)
     rw [hx] at S1 S2
     have HHS := zk (has_int m i (HV.out m (by rw [← hx]; exact List.getElem_mem hlt2)) hlt)
     have hly : (yesL (l.take kk) i).length ≤ kk ∧ (noL (l.take kk) i).length ≤ kk := by
      have h1 := yes_no_length (l.take kk) i
      have h2 : (l.take kk).length ≤ kk := List.length_take_le _ _
      omega
     obtain ⟨ys, eys⟩ : ∃ ys, ys = yesL (l.take kk) i := ⟨_, rfl⟩
     obtain ⟨ns, ens⟩ : ∃ ns, ns = noL (l.take kk) i := ⟨_, rfl⟩
     rw [← eys] at S1 BS hly
     rw [← ens] at S2 BS hly
     clear hx hm hW hlt2 eys ens
     obtain ⟨i0, hi0, hzz⟩ := Option.map_eq_some_iff.1 info3
     simp only [Prod.mk.injEq] at hzz
     obtain ⟨hz0, hz1, hz2⟩ := hzz
     have HI := zk (And.intro hi0 (And.intro hz0 (And.intro hz1 hz2)))
     clear hi0 hz0 hz1 hz2
     cases hb : bitB m i with
     |true =>
      rw [hb] at S1 S2 HHS
      clear hb
      go_wp2_with (first
       |(go_at_call 148
         (with_reducible refine (river_has.calls _ _ _ _ HHS.out).mono ?_)
         rintro e w3 ⟨rfl, hdr⟩
         have B3 := zk (Spl.below BS.out (W := w3) (by first | exact hdr.below | exact hdr.below _))
         clear hdr
         have HOA := zk (pw_own_below B3.out.oy (below1 (.cells #[.int .i64 m] 3)))
         have HCC2 := zk (show ∀ (j : Nat) (u : Value), [Value.int .i64 m][j]? = some u → (w3.alloc (.cells #[.int .i64 m] 3)).cell? ((⟨w3.heap.size, 0, none⟩ : Addr).add j) = some u from fun j u hj => by
          rw [add_plain]
          match j, hj with
          |0, hj => cases hj; exact blk_cell (blk_new _ _) 0))
       |(at_builtin
         refine wpList_append_own_at _ rfl (.tmp 41) (.tmp 43) 28 rfl w.heap.size 3 i0 _ 1 8 Tryz.underlying28 HI.out.1 HI.out.2.1 HI.out.2.2.1 HI.out.2.2.2 rfl (by decide) _ ys.length (nums64 ys) rfl HOA.out ⟨w3.heap.size, 0, none⟩ 1 1 [.int .i64 m] rfl rfl HCC2.out (by intro u hu; simp at hu; rcases hu with rfl; rfl) (by simp only [maxLen]; omega) (by omega) (by have := B3.out.st.chg.size; simp; omega) ?_
         intro v8 W8 hown8 hg8 _ hat8
         have HO8 := zk hown8
         have HG8 := zk hg8
         have HA8 := zk hat8
         clear hown8 hg8 hat8))
      go_roundg (l.length - (kk + 1))
      case measure => omega
      case rel =>
       refine ⟨kk + 1, _, _, by omega, by omega, rfl, rfl, by go_num, ⟨?_⟩⟩
       rw [S1.out, S2.out]
       exact (B3.out.below (below1 _)).pushY HO8.out HG8.out HA8.out
     |false =>
      rw [hb] at S1 S2 HHS
      clear hb
      go_wp2_with (first
       |(go_at_call 148
         (with_reducible refine (river_has.calls _ _ _ _ HHS.out).mono ?_)
         rintro e w3 ⟨rfl, hdr⟩
         have B3 := zk (Spl.below BS.out (W := w3) (by first | exact hdr.below | exact hdr.below _))
         clear hdr
         have HOA := zk (pw_own_below B3.out.on (below1 (.cells #[.int .i64 m] 3)))
         have HCC2 := zk (show ∀ (j : Nat) (u : Value), [Value.int .i64 m][j]? = some u → (w3.alloc (.cells #[.int .i64 m] 3)).cell? ((⟨w3.heap.size, 0, none⟩ : Addr).add j) = some u from fun j u hj => by
          rw [add_plain]
          match j, hj with
          |0, hj => cases hj; exact blk_cell (blk_new _ _) 0))
       |(at_builtin
         refine wpList_append_own_at _ rfl (.tmp 45) (.tmp 47) 28 rfl w.heap.size 3 i0 _ 1 8 Tryz.underlying28 HI.out.1 HI.out.2.1 HI.out.2.2.1 HI.out.2.2.2 rfl (by decide) _ ns.length (nums64 ns) rfl HOA.out ⟨w3.heap.size, 0, none⟩ 1 1 [.int .i64 m] rfl rfl HCC2.out (by intro u hu; simp at hu; rcases hu with rfl; rfl) (by simp only [maxLen]; omega) (by omega) (by have := B3.out.st.chg.size; simp; omega) ?_
         intro v8 W8 hown8 hg8 _ hat8
         have HO8 := zk hown8
         have HG8 := zk hg8
         have HA8 := zk hat8
         clear hown8 hg8 hat8))
      go_roundg (l.length - (kk + 1))
      case measure => omega
      case rel =>
       refine ⟨kk + 1, _, _, by omega, by omega, rfl, rfl, by go_num, ⟨?_⟩⟩
       rw [S1.out, S2.out]
       exact (B3.out.below (below1 _)).pushN HO8.out HG8.out HA8.out
    ·have hltz2 : decide ((kk : Int) < (l.length : Int)) = false := by simpa using hlt2
     have hk2 : kk = l.length := by omega
     subst hk2
     have ht : l.take l.length = l := List.take_length
     rw [ht] at BS
     clear hlt2 ht
     have hyn := yes_no_length l i
     have HSTEP := zk (show bestTo least l (i + 1) = bestStep (needP least) l q0 i by rw [bestTo_succ, EQ0.out])
     have HCY := zk (HCAN.out.filter (fun m => bitB m i))
     have HCN := zk (HCAN.out.filter (fun m => !bitB m i))
     have hst : bestStep (needP least) l q0 i = if (yesL l i).isEmpty || (noL l i).isEmpty then q0 else if q0.1 < 0 ∨ 1 + mx (needP least (yesL l i)) (needP least (noL l i)) < q0.2 then ((i : Int), 1 + mx (needP least (yesL l i)) (needP least (noL l i))) else q0 := rfl
     rw [hst] at HSTEP
     clear hst
     change Aside0 (Canon (yesL l i)) at HCY
     change Aside0 (Canon (noL l i)) at HCN
     obtain ⟨ys, eys⟩ : ∃ ys, ys = yesL l i := ⟨_, rfl⟩
     obtain ⟨ns, ens⟩ : ∃ ns, ns = noL l i := ⟨_, rfl⟩
     rw [← eys] at BS hyn HSTEP HCY
     rw [← ens] at BS hyn HSTEP HCN
     clear eys ens
     obtain ⟨AY, cY, rfl⟩ := own_slice BS.out.oy
     obtain ⟨AN, cN, rfl⟩ := own_slice BS.out.on
     by_cases hy0 : ys.length = 0
     ·have hy0b : ((ys.length : Int) == 0) = true := by simpa using hy0
      have HS2 := zk (show bestTo least l (i + 1) = q0 by rw [HSTEP.out, List.eq_nil_of_length_eq_zero hy0]; rfl)
      clear hy0
      go_wp2
      go_roundg (4 - (i + 1))
      case measure => omega
      case rel =>
       refine ⟨i + 1, by omega, by omega, by go_num, ⟨?_⟩⟩
       rw [HS2.out]
       have h1 := BS.out.st
       exact ⟨h1.h2, h1.h4, h1.h8, h1.memo.mono (Nat.add_le_add_left (Nat.mul_le_mul_right _ (Nat.le_succ i)) _), h1.chg⟩
     ·have hy0b : ((ys.length : Int) == 0) = false := by simpa using hy0
      by_cases hn0 : ns.length = 0
      ·have hn0b : ((ns.length : Int) == 0) = true := by simpa using hn0
       have HS2 := zk (show bestTo least l (i + 1) = q0 by rw [HSTEP.out, List.eq_nil_of_length_eq_zero hn0]; simp)
       clear hn0 hy0
       go_wp2
       go_roundg (4 - (i + 1))
       case measure => omega
       case rel =>
        refine ⟨i + 1, by omega, by omega, by go_num, ⟨?_⟩⟩
        rw [HS2.out]
        have h1 := BS.out.st
        exact ⟨h1.h2, h1.h4, h1.h8, h1.memo.mono (Nat.add_le_add_left (Nat.mul_le_mul_right _ (Nat.le_succ i)) _), h1.chg⟩
      ·have hn0b : ((ns.length : Int) == 0) = false := by simpa using hn0
       have HLY := zk (show ys.length < l.length by omega)
       have HLN := zk (show ns.length < l.length by omega)
       have hie : (ys.isEmpty || ns.isEmpty) = false := by
        cases ys with
        |nil => simp at hy0
        |cons a b => cases ns with
         |nil => simp at hn0
         |cons a b => rfl
       rw [hie] at HSTEP
       clear hie hy0 hn0 hyn
       go_wp2
       have HRY := zk (ownI_F BS.out.oy)
       have HRN := zk (ownI_F BS.out.on)
       obtain ⟨AY', cY', eY, _, hcY, hFY⟩ := HRY.out
       obtain ⟨AN', cN', eN, _, hcN, hFN⟩ := HRN.out
       cases eY
       cases eN
       have HCYS := zk (Kd.F_now hFY)
       have HCNS := zk (Kd.F_now hFN)
       clear hFY hFN HRY HRN
       have HB1 := HIH.out ys HLY.out HCY.out
       have HB2 := HIH.out ns HLN.out HCN.out
       have HCC0 := zk (And.intro hcY hcN)
       clear hcY hcN
       have HNY := zk (And.intro (HM2.out ys.length HLY.out) (HM2.out ns.length HLN.out))
       have HC1 := zk (fun (N : Nat) (W : World) => needed_calls least mb ys HB1 HCY.out N W AY cY)
       have HC2 := zk (fun (N : Nat) (W : World) => needed_calls least mb ns HB2 HCN.out N W AN cN)
       have hn1 := need_bounds least ys
       have hn2 := need_bounds least ns
       have hly16 : (ys.length : Int) ≤ 16 := by have := HLY.out; omega
       have hln16 : (ns.length : Int) ≤ 16 := by have := HLN.out; omega
       obtain ⟨n1, en1⟩ : ∃ n1, n1 = needP least ys := ⟨_, rfl⟩
       obtain ⟨n2, en2⟩ : ∃ n2, n2 = needP least ns := ⟨_, rfl⟩
       obtain ⟨a9, ea9⟩ : ∃ a9, a9 = 9 ^ ys.length := ⟨_, rfl⟩
       obtain ⟨c9, ec9⟩ : ∃ c9, c9 = 9 ^ ns.length := ⟨_, rfl⟩
       rw [← en1, ← ea9] at HC1
       rw [← en2, ← ec9] at HC2
       rw [← ea9, ← ec9] at HNY
       rw [← en1] at hn1 HSTEP
       rw [← en2] at hn2 HSTEP
       have hb1 : 0 ≤ n1 ∧ n1 ≤ 16 := by omega
       have hb2 : 0 ≤ n2 ∧ n2 ≤ 16 := by omega
       have HBND := zk (show N + i * (2 * M) + a9 + c9 ≤ 9000000000000000000 ∧ a9 + c9 ≤ 2 * M from by
        have h1 := HNY.out
        have h2 := HN.out
        have h3 : i * (2 * M) ≤ 3 * (2 * M) := Nat.mul_le_mul_right _ (by omega)
        omega)
       clear en1 en2 ea9 ec9 hn1 hn2 hly16 hln16 HB1 HB2 hy0b hn0b
       go_wp2
       refine region_lit (lit := ?lit) 6 [[],[],[0,1],[],[],[2,3,4]]
        [some (.agg #[.int .i64 least, .map (some mb)]), some (.slice AY ys.length cY), none, some (.agg #[.int .i64 least, .map (some mb)]), some (.slice AN ns.length cN), none]
        (fun b u W' => Aside0 (NdMem least mb (N + i * (2 * M)) a9 c9 n1 n2 wr W' (b 2) (b 5) (u 2) (u 5))) ?hlit (by kernel_rfl) (by kernel_rfl) (by decide) ?_ ?_ ?_ ?_ ?_
       case hlit =>
        intro u
        simp only [List.take_succ_cons, List.take_zero, List.map_cons, List.map_nil, setAll, Nat.reduceAdd, Act.put, List.setIfInBounds_toArray, List.set_cons_succ, List.set_cons_zero]
        try rfl
       ·intro u w2 hw
        exact zk ⟨Chg.fresh (hw.below _), BS.out.st.memo.below (hw.below _), fun h => (by cases h), fun h => (by cases h)⟩
       ·intro i v b u W' hv h
        have h2 : (2 : Nat) ≠ i := by rintro rfl; cases hv
        have h5 : (5 : Nat) ≠ i := by rintro rfl; cases hv
        rw [upd_ne h2, upf_ne h2, upd_ne h5, upf_ne h5]
        exact h
       ·intro j o' v hi ho hv b u W' hM hdep hd
        have H2W := zk ((hM.out.chg.block _ (blk_lt BS.out.st.h2) (BS.out.st.memo.ne BS.out.st.h2)).trans BS.out.st.h2)
        obtain ⟨c_p2_0, f_p2_0, c_p2_1, f_p2_1, l_p2⟩ := cl2 (W := W') (p := p2) (a := .int .i64 least) (b := .map (some mb)) H2W.out
        clear H2W hM hdep
        replace hi : j < 6 := hi
        match j, hi with
        |0, _ =>
         cases ho
         cases zs hv
         clear hd hv
         go_wp2
         exact zt
        |1, _ =>
         cases ho
         cases zs hv
         clear hd hv
         go_wp2
         exact zt
        |2, _ =>
         cases hv
        |3, _ =>
         cases ho
         cases zs hv
         clear hd hv
         go_wp2
         exact zt
        |4, _ =>
         cases ho
         cases zs hv
         clear hd hv
         go_wp2
         exact zt
        |5, _ =>
         cases hv
       ·intro j o' hi ho hv b u W' hM hb hdep hq hd
        match j, hi with
        |0, _ => cases hv
        |1, _ => cases hv
        |3, _ => cases hv
        |4, _ => cases hv
        |2, _ =>
         cases ho
         have e0' := hd 0 _ (by decide) rfl
         have e1' := hd 1 _ (by decide) rfl
         have hb5 : b 5 = false := hq 5 (by decide) (by decide)
         have hmm : Memo least mb (N + i * (2 * M)) W' := by
          have := hM.out.memo
          rw [hb5, hb] at this
          exact this
         have HCC := zk (HC1.out _ W' hmm (by have := HBND.out; omega) HCC0.out.1 (C_int_map HCYS.out BS.out.st.memo.blk hM.out.chg))
         have HMM := zk hM.out
         clear hd hv hq hdep hb hM hmm
         go_wp2_with (go_at_call 149; (with_reducible refine HCC.out.mono ?_); rintro e W9 ⟨rfl, hm9, hc9⟩)
         refine ⟨_, by simp [upf, e0', e1'], zk ⟨HMM.out.chg.trans hc9, ?_, fun _ => upf_self _ _ _, fun h => ?_⟩⟩
         ·rw [upd_ne (by decide), hb5, upd_self]
          exact hm9
         ·rw [upd_ne (by decide), hb5] at h; cases h
        |5, _ =>
         cases ho
         have e3' := hd 3 _ (by decide) rfl
         have e4' := hd 4 _ (by decide) rfl
         have hb2' := hdep 2 (by decide)
         have e2' := hM.out.m2 hb2'
         have hmm : Memo least mb (N + i * (2 * M) + a9) W' := by
          have := hM.out.memo
          rw [hb, hb2'] at this
          exact this
         have HCC := zk (HC2.out _ W' hmm (by have := HBND.out; omega) HCC0.out.2 (C_int_map HCNS.out BS.out.st.memo.blk hM.out.chg))
         have HMM := zk hM.out
         clear hd hv hq hdep hb hM hmm
         go_wp2_with (go_at_call 149; (with_reducible refine HCC.out.mono ?_); rintro e W9 ⟨rfl, hm9, hc9⟩)
         refine ⟨_, by simp [upf, e3', e4', e2'], zk ⟨HMM.out.chg.trans hc9, ?_, fun _ => ?_, fun h => upf_self _ _ _⟩⟩
         ·rw [upd_self]
          exact hm9
         ·rw [upf_ne (by decide)]; exact e2'
        |j + 6, hi => exact absurd hi (by omega)
       ·intro b u W' hall hM hd
        have e2' := hM.out.m2 (hall 2 (by decide))
        have e5' := hM.out.m5 (hall 5 (by decide))
        have hmm := hM.out.memo
        rw [hall 5 (by decide)] at hmm
        have HBW := zk (BS.out.st.move hM.out.chg hmm)
        clear hall hd hM hmm
        have H8W := zk HBW.out.h8
        obtain ⟨c_p8_0, f_p8_0, c_p8_1, f_p8_1, l_p8⟩ := cl2 (W := W') (p := p8) (a := .int .i64 q0.1) (b := .int .i64 q0.2) H8W.out
        have HMB := zk (show N + i * (2 * M) + a9 + c9 ≤ N + (i + 1) * (2 * M) by
         have h1 := HBND.out.2
         have h2 : (i + 1) * (2 * M) = i * (2 * M) + 2 * M := by rw [Nat.add_mul, Nat.one_mul]
         omega)
        by_cases hc1 : q0.1 < 0
        ·have hc1b : decide (q0.1 < 0) = true := by simpa using hc1
         have HS2 := zk (show bestTo least l (i + 1) = ((i : Int), 1 + mx n1 n2) by rw [HSTEP.out, if_neg (by simp), if_pos (.inl hc1)])
         go_wp2
         go_roundg (4 - (i + 1))
         case measure => omega
         case rel =>
          refine ⟨i + 1, by omega, by omega, by go_num, ⟨?_⟩⟩
          rw [HS2.out]
          have h1 := HBW.out
          have h2 : BSt least mb p2 p4 p8 (N + (i + 1) * (2 * M)) q0 w W' := ⟨h1.h2, h1.h4, h1.h8, h1.memo.mono HMB.out, h1.chg⟩
          have h3 := h2.set HPP.out.2.2.1 HPP.out.2.2.2 ((i : Int), 1 + mx n1 n2)
          rw [← max_mx] at h3 ⊢
          exact h3
        ·have hc1b : decide (q0.1 < 0) = false := by simpa using hc1
         by_cases hc2 : 1 + max n1 n2 < q0.2
         ·have hc2b : decide (1 + max n1 n2 < q0.2) = true := by simpa using hc2
          have HS2 := zk (show bestTo least l (i + 1) = ((i : Int), 1 + mx n1 n2) by rw [HSTEP.out, if_neg (by simp), if_pos (.inr (by rw [← max_mx]; exact hc2))])
          go_wp2
          go_roundg (4 - (i + 1))
          case measure => omega
          case rel =>
           refine ⟨i + 1, by omega, by omega, by go_num, ⟨?_⟩⟩
           rw [HS2.out]
           have h1 := HBW.out
           have h2 : BSt least mb p2 p4 p8 (N + (i + 1) * (2 * M)) q0 w W' := ⟨h1.h2, h1.h4, h1.h8, h1.memo.mono HMB.out, h1.chg⟩
           have h3 := h2.set HPP.out.2.2.1 HPP.out.2.2.2 ((i : Int), 1 + mx n1 n2)
           rw [← max_mx] at h3 ⊢
           exact h3
         ·have hc2b : decide (1 + max n1 n2 < q0.2) = false := by simpa using hc2
          have HS2 := zk (show bestTo least l (i + 1) = q0 by rw [HSTEP.out, if_neg (by simp), if_neg (by rw [← max_mx]; rintro (h | h); exact hc1 h; exact hc2 h)])
          go_wp2
          go_roundg (4 - (i + 1))
          case measure => omega
          case rel =>
           refine ⟨i + 1, by omega, by omega, by go_num, ⟨?_⟩⟩
           rw [HS2.out]
           have h1 := HBW.out
           exact ⟨h1.h2, h1.h4, h1.h8, h1.memo.mono HMB.out, h1.chg⟩
  ·have hltz : decide ((i : Int) < 4) = false := by
    have : ¬ (i : Int) < 4 := by omega
    simpa using this
   have hi4 : i = 4 := by omega
   subst hi4
   rw [bestTo_four] at BW
   obtain ⟨q0, eq0⟩ : ∃ q0, q0 = bestP least l := ⟨_, rfl⟩
   rw [← eq0] at BW
   have EQ0 := zk eq0
   obtain ⟨D', hD', hDl⟩ := BW.out.memo.own
   have HD' := zk hD'
   have HDL := zk hDl
   have HNN := zk (show N + 4 * (2 * M) + 1 ≤ N + 9 ^ l.length by have := HN.out.2; omega)
   have H2W := zk BW.out.h2
   have H8W := zk BW.out.h8
   obtain ⟨c_p2_0, f_p2_0, c_p2_1, f_p2_1, l_p2⟩ := cl2 (W := wr) (p := p2) (a := .int .i64 least) (b := .map (some mb)) H2W.out
   obtain ⟨c_p8_0, f_p8_0, c_p8_1, f_p8_1, l_p8⟩ := cl2 (W := wr) (p := p8) (a := .int .i64 q0.1) (b := .int .i64 q0.2) H8W.out
   clear eq0 hD' hDl hlt
   go_wp2_with (first
    |(at_mapUpdate
      refine wpList_mapUpdate_own _ rfl _ _ _ 152 rfl 3 157 law3 Tryz.underlying152 planElem mb (N + 4 * (2 * M)) D' rfl HD'.out (by have := HNN.out; have := HN.out.1; simp only [maxLen]; omega) _ _ (.int .i64 (K : Int)) rfl rfl HKEY.out (planD q0) [] (planElem_mk q0) ?_
      intro w9 hown9 hg9
      have hne := fun {p : Nat} {cs : Array Value} {t : TypeId} (h : wr.heap[p]? = some (.cells cs t (0, 0))) => BW.out.memo.ne h
      have H49 := zk ((hg9.block p4 (blk_lt BW.out.h4) (by have := hne BW.out.h4; simpa using this)).trans BW.out.h4)
      have H89 := zk ((hg9.block p8 (blk_lt BW.out.h8) (by have := hne BW.out.h8; simpa using this)).trans BW.out.h8)
      have HO9 := zk hown9
      have HG9 := zk hg9
      clear hown9 hg9 hne
      clear c_p2_0 f_p2_0 c_p2_1 f_p2_1 l_p2 c_p8_0 f_p8_0 c_p8_1 f_p8_1 l_p8
      obtain ⟨c_p4_0, f_p4_0, c_p4_1, f_p4_1, l_p4⟩ := cl2 (W := w9) (p := p4) (a := .int .i64 0) (b := .int .i64 0) H49.out
      obtain ⟨c_p8_0, f_p8_0, c_p8_1, f_p8_1, l_p8⟩ := cl2 (W := w9) (p := p8) (a := .int .i64 q0.1) (b := .int .i64 q0.2) H89.out
      skip))
   have h4 := blk_put (blk_put H49.out 0 (.int .i64 q0.1) rfl) 1 (.int .i64 q0.2) rfl
   rw [Exit.noGoto_ret]
   refine bodyPost_ret (results_cell_row rfl _ _ p4 157 #[.int .i64 q0.1, .int .i64 q0.2] (0, 0) _ rfl h4 Tryz.underlying157 rfl (by kernel_rfl)) rfl ⟨by rw [EQ0.out], ?_, ?_⟩
   ·have hm4 : p4 ≠ mb := BW.out.memo.ne BW.out.h4
    have h1 : Memo least mb (N + 4 * (2 * M) + 1) w9 := ⟨D'.put (.int .i64 (K : Int)) (planD q0), HO9.out, fun l' hl' hhas z => ?_⟩
    ·exact (h1.mono HNN.out).move ((Below.heap_setCell _ ⟨p4, 1, none⟩ _ _ hm4.symm).trans (Below.heap_setCell _ ⟨p4, 0, none⟩ _ _ hm4.symm))
    ·by_cases e : keyN l' = K
     ·have e2 : l' = l := canon_eq hl' HCAN.out (by rw [e, EK.out])
      subst e2
      rw [e, ← EQ0.out]
      exact atKey_put_same HD'.out.isMap (show WideAt.IsKeyLit (.int .i64 (K : Int)) from trivial) _ _
     ·have hne : (Lit.int .i64 (keyN l' : Int)) ≠ .int .i64 (K : Int) := by
       intro h
       apply e
       simp only [Lit.int.injEq, true_and] at h
       omega
      rw [has_put_other hne] at hhas
      rw [atKey_put_other hne]
      exact HDL.out l' hl' hhas z
   ·have h1 : Chg (fun k => k = mb) wr w9 := ⟨HG9.out.os, HG9.out.tape, HG9.out.output, HG9.out.size, fun i hi hne => HG9.out.block i hi (by simpa using hne)⟩
    have h2 := BW.out.chg.trans h1
    have hp4 := HPP.out.2.1
    exact ⟨h2.os, h2.tape, h2.output, by have := h2.size; simpa [World.setCell] using this, fun i hi hne => ((Below.heap_setCell _ ⟨p4, 1, none⟩ _ _ (by show i ≠ p4; omega)).trans (Below.heap_setCell _ ⟨p4, 0, none⟩ _ _ (by show i ≠ p4; omega))).trans (h2.block i hi hne)⟩
theorem best_step (least : Int) (mb : Nat) (l : List Int) (hcan : Canon l) (hih : ∀ l' : List Int, l'.length < l.length → Canon l' → BestC least mb l') : BestC least mb l := by
 intro N w A c hm hN hlc hr
 obtain ⟨D, hD, hDl⟩ := hm.own
 cases hh : Maps.has D (.int .i64 (keyN l : Int)) with
 |true =>
  refine (best_hit least mb l hcan N w A c D hD hh (hDl l hcan hh) hlc hr).mono ?_
  rintro e w' ⟨rfl, hb⟩
  exact ⟨rfl, (hm.below hb).mono (Nat.le_add_right _ _), Chg.fresh hb⟩
 |false => exact best_miss least mb l hcan hih N w A c hm hN D hD hh hlc hr
theorem best_calls (least : Int) (mb : Nat) : ∀ (n : Nat) (l : List Int), l.length = n → Canon l → BestC least mb l := by
 intro n
 induction n using Nat.strongRecOn with
 |_ n ih =>
  rintro l rfl hcan
  exact best_step least mb l hcan (fun l' hl' hc' => ih l'.length hl' l' rfl hc')
end Go.Proofs.YtfijblhfgfefoaaGreatDoor.Rv
end
