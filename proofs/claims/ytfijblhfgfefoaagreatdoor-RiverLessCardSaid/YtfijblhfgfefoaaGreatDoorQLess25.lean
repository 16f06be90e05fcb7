/- A part of the proof: words, contracts of functions, and their walks. -/
import Derived.Maps.OwnSet
import Derived.WalkMore
import Derived.Maps.AppendAt
import Derived.Test.YtfijblhfgfefoaaGreatDoorQLess3
import Derived.Test.YtfijblhfgfefoaaGreatDoorQLess24
set_option linter.unusedVariables false
set_option linter.unusedSimpArgs false
section
namespace Go.Proofs.YtfijblhfgfefoaaGreatDoor.Rv
open Go.RowKit Go.Shelf Go.IntWalk Go.Proofs.YtfijblhfgfefoaaGreatDoor.PAll Go.Proofs.YtfijblhfgfefoaaGreatDoorW.PrintWords Go.Proofs.YtfijblhfgfefoaaGreatDoorW.PrintLast
open Go.Maps
structure KnMem (g : Int) (W0 W : World) (b1 b4 : Bool) (u1 u4 : Value) (t : Bool) : Prop where
 b : Below W0.heap.size W0 W
 m1 : b1 = true → u1 = .int .i64 g
 m4 : b4 = true → u4 = .bool t
def someB (least : Int) (l : List Int) : Bool := l.any fun m => decide (least ≤ manyI m)
def notB (least : Int) (l : List Int) : Bool := l.any fun m => decide (manyI m < least)
theorem someB_snoc (least : Int) (l : List Int) (kk : Nat) (h : kk < l.length) : someB least (l.take (kk + 1)) = (someB least (l.take kk) || decide (least ≤ manyI l[kk])) := by
 unfold someB
 rw [List.take_succ_eq_append_getElem h, List.any_append]
 simp
theorem notB_snoc (least : Int) (l : List Int) (kk : Nat) (h : kk < l.length) : notB least (l.take (kk + 1)) = (notB least (l.take kk) || decide (manyI l[kk] < least)) := by
 unfold notB
 rw [List.take_succ_eq_append_getElem h, List.any_append]
 simp
theorem many_nat (m : Int) (h : ∃ n : Nat, m = n ∧ n < 16) : river_many.f 10 m = some (manyI m) := by
 obtain ⟨n, rfl, hn⟩ := h
 exact many_f n hn
set_option maxRecDepth 100000 in
set_option maxHeartbeats 1000000 in
theorem known_calls (least : Int) (mb : Nat) (A : Option Addr) (c : Nat) (l : List Int) (w : World) (hr : Kd.C (Kd.int .i64) w A l.length l) (hl : l.length ≤ 1000000) (hv : ∀ m ∈ l, ∃ n : Nat, m = n ∧ n < 16) :
 Calls Tryz.prog 90 #[.agg #[.int .i64 least, .map (some mb)], .slice A l.length c] w fun e w' => e = .returned (.bool (knownB least l)) ∧ Below w.heap.size w w' := by
 have HR := zk hr
 have HV := zk hv
 clear hr hv
 have hu154 := Tryz.underlying154
 go_enter Tryz.func90, Tryz.ntmps90
 go_wp2
 have HB := zk (below1 (w := w) (.cells #[.int .i64 least, .map (some mb)] 154))
 have b2 := blk_new w (.cells #[.int .i64 least, .map (some mb)] 154)
 generalize w.alloc (.cells #[.int .i64 least, .map (some mb)] 154) = w1 at HB b2 ⊢
 obtain ⟨p2, e2⟩ : ∃ p2, p2 = w.heap.size := ⟨_, rfl⟩
 rw [← e2] at b2 ⊢
 have H2 := zk b2
 clear b2 e2
 go_loopg [5, 6, 8, 11] l.length (fun gg v5 v6 _ v11 wr => ∃ kk : Nat, kk ≤ l.length ∧ l.length - kk ≤ gg ∧ v11 = .int .i64 kk ∧ v5 = .bool (someB least (l.take kk)) ∧ v6 = .bool (notB least (l.take kk)) ∧ Aside0 (Below w1.heap.size w1 wr))
 case atStart => exact ⟨0, by omega, by omega, rfl, rfl, rfl, ⟨Below.refl _ _⟩⟩
 case round =>
  obtain ⟨kk, hkk, hgg, rfl, rfl, rfl, BW⟩ := hrel
  by_cases hlt : kk < l.length
  ·have hltz : (kk : Int) < (l.length : Int) := by omega
   have hW := Kd.C_below (Kd.C_below HR.out HB.out) BW.out
   obtain ⟨ad, hA, d0⟩ := Kd.at_int hW (kk : Int) (by omega) (by omega)
   subst hA
   have hx : l[kk] = rd l (kk : Int) := by simp [rd, List.getD_eq_getElem?_getD, List.getElem?_eq_getElem hlt]
   obtain ⟨m, hm⟩ : ∃ m, rd l (kk : Int) = m := ⟨_, rfl⟩
   rw [hm] at d0 hx
   simp only [Int.toNat_natCast] at d0
   have S1 := zk (someB_snoc least l kk hlt)
   have S2 := zk (notB_snoc least l kk hlt)
   rw [hx] at S1 S2
   have HM := zk (many_nat m (HV.out m (by rw [← hx]; exact List.getElem_mem hlt)))
   obtain ⟨sb, esb⟩ : ∃ sb, sb = someB least (l.take kk) := ⟨_, rfl⟩
   obtain ⟨nb, enb⟩ : ∃ nb, nb = notB least (l.take kk) := ⟨_, rfl⟩
   rw [← esb] at S1
   rw [← enb] at S2
   rw [← esb, ← enb]
   clear hx hm hW hlt esb enb
   obtain ⟨g, eg⟩ : ∃ g, g = manyI m := ⟨_, rfl⟩
   rw [← eg] at S1 S2 HM
   clear eg
   obtain ⟨ts, ets⟩ : ∃ ts, ts = decide (least ≤ g) := ⟨_, rfl⟩
   have HTS := zk ets
   rw [← ets] at S1
   have HTN := zk (show decide (g < least) = !ts by rw [ets]; by_cases h : least ≤ g <;> simp [h] <;> omega)
   rw [HTN.out] at S2
   clear ets
   go_wp2
   refine region_lit (lit := ?lit) 5 [[],[0],[],[2],[1,3]]
    [some (.int .i64 m), none, some (.pointer (some ⟨p2, 0, none⟩)), some (.int .i64 least), none]
    (fun b u W' => Aside0 (KnMem g wr W' (b 1) (b 4) (u 1) (u 4) ts)) ?hlit (by kernel_rfl) (by kernel_rfl) (by decide) ?_ ?_ ?_ ?_ ?_
   case hlit =>
    intro u
    simp only [List.take_succ_cons, List.take_zero, List.map_cons, List.map_nil, setAll, Nat.reduceAdd, Act.put, List.setIfInBounds_toArray, List.set_cons_succ, List.set_cons_zero]
    try rfl
   ·intro u w2 hw
    exact zk ⟨hw.below _, fun h => (by cases h), fun h => (by cases h)⟩
   ·intro i v b u W' hv h
    have h1 : (1 : Nat) ≠ i := by rintro rfl; cases hv
    have h4 : (4 : Nat) ≠ i := by rintro rfl; cases hv
    rw [upd_ne h1, upf_ne h1, upd_ne h4, upf_ne h4]
    exact h
   ·intro i o' v hi ho hv b u W' hM hdep hd
    have H2W := zk (blk_below (blk_below H2.out BW.out) hM.out.b)
    obtain ⟨c_p2_0, f_p2_0, c_p2_1, f_p2_1, l_p2⟩ := cl2 (W := W') (p := p2) (a := .int .i64 least) (b := .map (some mb)) H2W.out
    clear H2W hM hdep
    replace hi : i < 5 := hi
    match i, hi with
    |0, _ =>
     cases ho
     cases zs hv
     clear hd hv
     go_wp2
     exact zt
    |1, _ =>
     cases hv
    |2, _ =>
     cases ho
     cases zs hv
     clear hd hv
     go_wp2
     exact zt
    |3, _ =>
     cases ho
     cases zs hv
     have e2 := hd 2 _ (by decide) rfl
     clear hd hv
     go_wp2
     exact zt
    |4, _ =>
     cases hv
   ·intro i o' hi ho hv b u W' hM hb hdep hq hd
    match i, hi with
    |0, _ => cases hv
    |2, _ => cases hv
    |3, _ => cases hv
    |1, _ =>
     cases ho
     have e0' := hd 0 _ (by decide) rfl
     have hb4 : b 4 = false := hq 4 (by decide) (by decide)
     have HMM := zk hM.out
     clear hd hv hq hdep hb hM
     go_wp2_with (go_at_call 104; (with_reducible refine (river_many.calls _ _ _ _ HM.out).mono ?_); rintro e W9 ⟨rfl, hB9⟩)
     refine ⟨_, by simp [upf, e0'], zk ⟨bt HMM.out.b (by first | exact hB9.below | exact hB9.below _), fun _ => upf_self _ _ _, fun h => ?_⟩⟩
     rw [upd_ne (by decide), hb4] at h; cases h
    |4, _ =>
     cases ho
     have e1' := hM.out.m1 (hdep 1 (by decide))
     have e3' := hd 3 _ (by decide) rfl
     have HMM := zk hM.out
     clear hd hv hq hdep hb hM
     go_wp2
     refine ⟨.bool (decide (least ≤ g)), by simp [upf, e1', e3'], zk ⟨HMM.out.b, fun h => ?_, fun _ => ?_⟩⟩
     ·rw [upf_ne (by decide)]; exact e1'
     ·rw [upf_self, HTS.out]
    |j + 5, hi => exact absurd hi (by omega)
   ·intro b u W' hall hM hd
    have e4' := hM.out.m4 (hall 4 (by decide))
    have HBW := zk (bt BW.out hM.out.b)
    clear hall hd hM
    simp only [List.drop_succ_cons, List.drop_zero, List.drop_nil, wpList]
    rw [e4']
    clear e4'
    cases ts with
    |true =>
     go_wp2
     go_roundg (l.length - (kk + 1))
     case measure => omega
     case rel => exact ⟨kk + 1, by omega, by omega, by go_num, by rw [S1.out]; simp, by rw [S2.out]; simp, HBW⟩
    |false =>
     go_wp2
     go_roundg (l.length - (kk + 1))
     case measure => omega
     case rel => exact ⟨kk + 1, by omega, by omega, by go_num, by rw [S1.out]; simp, by rw [S2.out]; simp, HBW⟩
  ·have hltz : decide ((kk : Int) < (l.length : Int)) = false := by simpa using hlt
   have hk2 : kk = l.length := by omega
   subst hk2
   have ht : l.take l.length = l := List.take_length
   rw [ht]
   clear hlt ht
   have hbw := bt HB.out BW.out
   have HK := zk (show knownB least l = (!(someB least l) || !(notB least l)) from rfl)
   obtain ⟨sb, esb⟩ : ∃ sb, sb = someB least l := ⟨_, rfl⟩
   obtain ⟨nb, enb⟩ : ∃ nb, nb = notB least l := ⟨_, rfl⟩
   rw [← esb, ← enb] at HK
   rw [← esb, ← enb]
   clear esb enb
   cases sb with
   |true =>
    go_wp2
    go_ret
    exact ⟨by rw [HK.out]; simp, hbw⟩
   |false =>
    go_wp2
    go_ret
    exact ⟨by rw [HK.out]; simp, hbw⟩
open Go.Maps
theorem law3 : Keyed Tryz.prog 3 := int_keyed Tryz.underlying3
theorem zero157 (w : World) : (zeroValue 157).run Tryz.prog w = .ok (.agg #[.int .i64 0, .int .i64 0]) w := by kernel_rfl
abbrev DU := DataW Unit
def planD (p : Int × Int) : DU := .agg [.lit (.int .i64 p.1), .lit (.int .i64 p.2)]
def planV (p : Int × Int) : Value := .agg #[.int .i64 p.1, .int .i64 p.2]
def planElem (v : Value) : Option (DU × List MemPlace) :=
 match v with
 | .agg xs => (match xs.toList with | [.int .i64 a, .int .i64 b] => some (planD (a, b), []) | _ => none)
 |_ => none
theorem planElem_mk (p : Int × Int) : planElem (planV p) = some (planD p, []) := rfl
structure Memo (least : Int) (mb N : Nat) (w : World) : Prop where
 own : ∃ D : DU, w.ownsMap Tryz.prog 3 planElem mb N D ∧ ∀ l, Canon l → Maps.has D (.int .i64 (keyN l : Int)) = true → ∀ z, D.atKey (.int .i64 (keyN l : Int)) z = planD (bestP least l)
theorem Memo.mono {least : Int} {mb N N' : Nat} {w : World} (h : Memo least mb N w) (hN : N ≤ N') : Memo least mb N' w := by
 obtain ⟨D, h1, h2⟩ := h.own
 exact ⟨D, h1.mono hN, h2⟩
theorem Memo.move {least : Int} {mb N : Nat} {w w' : World} (h : Memo least mb N w) (hb : w'.heap[mb]? = w.heap[mb]?) : Memo least mb N w' := by
 obtain ⟨D, ⟨es, clock, h1, h3⟩, h2⟩ := h.own
 exact ⟨D, ⟨es, clock, hb.trans h1, h3⟩, h2⟩
theorem Memo.blk {least : Int} {mb N : Nat} {w : World} (h : Memo least mb N w) : ∃ es clock, w.heap[mb]? = some (.map es clock) := by
 obtain ⟨D, ⟨es, clock, h1, h3⟩, h2⟩ := h.own
 exact ⟨es, clock, h1⟩
theorem Memo.lt {least : Int} {mb N : Nat} {w : World} (h : Memo least mb N w) : mb < w.heap.size := by
 obtain ⟨es, clock, h1⟩ := h.blk
 exact blk_lt h1
theorem Memo.below {least : Int} {mb N : Nat} {w w' : World} (h : Memo least mb N w) (hb : Below w.heap.size w w') : Memo least mb N w' := h.move (hb.block mb h.lt)
theorem Memo.ne {least : Int} {mb N : Nat} {w : World} (h : Memo least mb N w) {p : Nat} {cs : Array Value} {t : TypeId} {z : Nat × Nat} (hp : w.heap[p]? = some (.cells cs t z)) : p ≠ mb := by
 rintro rfl
 obtain ⟨es, clock, h1⟩ := h.blk
 rw [hp] at h1
 cases h1
theorem Memo.made (least : Int) (w : World) : Memo least w.heap.size 0 (w.alloc (.map #[] 0)) := ⟨_, World.ownsMap_made w Tryz.prog 3 planElem, fun l _ h => by cases h⟩
theorem C_int_map {mb : Nat} {w W : World} {A : Option Addr} {n : Nat} {xs : List Int} (h : Kd.C (Kd.int .i64) w A n xs) (hm : ∃ es clock, w.heap[mb]? = some (.map es clock)) (hc : Chg (fun k => k = mb) w W) : Kd.C (Kd.int .i64) W A n xs := by
 refine Kd.C_keep (g := mb) 0 h ⟨hc.size, fun i hi hne _ => hc.block i hi hne⟩ (fun ad e hn he => ?_)
 obtain ⟨ad', e', hcell⟩ := Kd.at_int h 0 (by omega) (by omega)
 rw [e] at e'
 cases e'
 obtain ⟨es, clock, hm⟩ := hm
 rw [← he] at hm
 rw [show ((0 : Int).toNat) = 0 from rfl] at hcell
 simp [World.cell?, add_block, hm] at hcell
def BestC (least : Int) (mb : Nat) (l : List Int) : Prop := ∀ (N : Nat) (w : World) (A : Option Addr) (c : Nat), Memo least mb N w → N + 9 ^ l.length ≤ 9000000000000000000 → l.length ≤ c → Kd.C (Kd.int .i64) w A l.length l →
 Calls Tryz.prog 91 #[.agg #[.int .i64 least, .map (some mb)], .slice A l.length c] w fun e w' => e = .returned (.agg #[.int .i64 (bestP least l).1, .int .i64 (bestP least l).2]) ∧ Memo least mb (N + 9 ^ l.length) w' ∧ Chg (fun k => k = mb) w w'
set_option maxRecDepth 100000 in
set_option maxHeartbeats 1000000 in
theorem needed_calls (least : Int) (mb : Nat) (l : List Int) (hbest : BestC least mb l) (hcan : Canon l) (N : Nat) (w : World) (A : Option Addr) (c : Nat) (hm : Memo least mb N w) (hN : N + 9 ^ l.length ≤ 9000000000000000000) (hlc : l.length ≤ c) (hr : Kd.C (Kd.int .i64) w A l.length l) :
 Calls Tryz.prog 149 #[.agg #[.int .i64 least, .map (some mb)], .slice A l.length c] w fun e w' => e = .returned (.int .i64 (needP least l)) ∧ Memo least mb (N + 9 ^ l.length) w' ∧ Chg (fun k => k = mb) w w' := by
 have HR := zk hr
 have HM := zk hm
 have HN := zk hN
 have HBC := zk hbest
 have HK := zk (fun (W : World) (h : Kd.C (Kd.int .i64) W A l.length l) => known_calls least mb A c l W h (by have := hcan.length; omega) (fun m h => hcan.mem h))
 have HP := zk (show needP least l = if knownB least l = true then 0 else (bestP least l).2 from rfl)
 clear hr hm hN hbest
 have hu154 := Tryz.underlying154
 have hf157 : ∀ (a b : Int) (W : World), (Instr.field 157 (.agg #[.int .i64 a, .int .i64 b]) 1).run Tryz.prog W = .ok (.int .i64 b) W := fun a b W => by kernel_rfl
 obtain ⟨k, ek⟩ : ∃ k, k = knownB least l := ⟨_, rfl⟩
 obtain ⟨q, eq⟩ : ∃ q, q = bestP least l := ⟨_, rfl⟩
 unfold BestC at HBC
 rw [← ek] at HK HP
 rw [← eq] at HP HBC
 clear ek eq
 go_enter Tryz.func149, Tryz.ntmps149
 cases k with
 |true =>
  go_wp2_with (first | (go_at_call 90; (with_reducible refine (HK.out _ (Kd.C_alloc HR.out _)).mono ?_); rintro e w2 ⟨rfl, hB⟩))
  have hb := bt (below1 (.cells #[.int .i64 least, .map (some mb)] 154)) hB
  go_ret
  exact ⟨by rw [HP.out]; rfl, (HM.out.below hb).mono (Nat.le_add_right _ _), Chg.fresh hb⟩
 |false =>
  go_wp2_with (first
   |(go_at_call 90
     (with_reducible refine (HK.out _ (Kd.C_alloc HR.out _)).mono ?_)
     rintro e w2 ⟨rfl, hB⟩
     have HB := zk (bt (below1 (.cells #[.int .i64 least, .map (some mb)] 154)) hB)
     obtain ⟨p2, e2⟩ : ∃ p2, p2 = w.heap.size := ⟨_, rfl⟩
     have H2 := zk (blk_below (blk_new w (.cells #[.int .i64 least, .map (some mb)] 154)) hB)
     rw [← e2] at H2 ⊢
     clear hB e2
     obtain ⟨c_p2_0, f_p2_0, c_p2_1, f_p2_1, l_p2⟩ := cl2 (W := w2) (p := p2) (a := .int .i64 least) (b := .map (some mb)) H2.out
     skip)
   |(go_at_call 91
     (with_reducible refine (HBC.out N _ A c (HM.out.below HB.out) HN.out hlc (Kd.C_below HR.out HB.out)).mono ?_)
     rintro e w3 ⟨rfl, hm3, hc3⟩))
  go_ret
  exact ⟨by rw [HP.out]; rfl, hm3, (Chg.fresh HB.out).trans hc3⟩
end Go.Proofs.YtfijblhfgfefoaaGreatDoor.Rv
end
section
namespace Go.Proofs.YtfijblhfgfefoaaGreatDoor.Rv
open Go.RowKit Go.Shelf Go.IntWalk Go.Proofs.YtfijblhfgfefoaaGreatDoor.PAll Go.Proofs.YtfijblhfgfefoaaGreatDoorW.PrintWords Go.Proofs.YtfijblhfgfefoaaGreatDoorW.PrintLast
open Go.Maps
structure BSt (least : Int) (mb p2 p4 p8 N : Nat) (q : Int × Int) (w wr : World) : Prop where
 h2 : wr.heap[p2]? = some (.cells #[.int .i64 least, .map (some mb)] 154 (0, 0))
 h4 : wr.heap[p4]? = some (.cells #[.int .i64 0, .int .i64 0] 157 (0, 0))
 h8 : wr.heap[p8]? = some (.cells #[.int .i64 q.1, .int .i64 q.2] 157 (0, 0))
 memo : Memo least mb N wr
 chg : Chg (fun k => k = mb) w wr
theorem BSt.move {least : Int} {mb p2 p4 p8 N N' : Nat} {q : Int × Int} {w wr W : World} (h : BSt least mb p2 p4 p8 N q w wr) (hc : Chg (fun k => k = mb) wr W) (hm : Memo least mb N' W) : BSt least mb p2 p4 p8 N' q w W :=
 ⟨(hc.block _ (blk_lt h.h2) (h.memo.ne h.h2)).trans h.h2, (hc.block _ (blk_lt h.h4) (h.memo.ne h.h4)).trans h.h4, (hc.block _ (blk_lt h.h8) (h.memo.ne h.h8)).trans h.h8, hm, h.chg.trans hc⟩
theorem BSt.below {least : Int} {mb p2 p4 p8 N : Nat} {q : Int × Int} {w wr W : World} (h : BSt least mb p2 p4 p8 N q w wr) (hb : Below wr.heap.size wr W) : BSt least mb p2 p4 p8 N q w W :=
 h.move (Chg.fresh hb) (h.memo.below hb)
theorem planElem_shape {v : Value} {d : DU} {ps : List MemPlace} (h : planElem v = some (d, ps)) : ∃ p : Int × Int, v = .agg #[.int .i64 p.1, .int .i64 p.2] ∧ d = planD p := by
 cases v with
 |agg xs =>
  obtain ⟨l⟩ := xs
  unfold planElem at h
  simp only at h
  split at h
  ·rename_i l a b
   simp only [Option.some.injEq, Prod.mk.injEq] at h
   exact ⟨(a, b), rfl, h.1.symm⟩
  ·cases h
 |_ => simp [planElem] at h
theorem wpList_lookup_plan (w : World) {ops : Array Oper} {rest : List Oper} {o : Oper} {a : Act} {Q : Exit → Act → World → Prop} (hg : o.guard = none) (m x : Operand) (hop : o.op = Op.lookup 152 m x true)
 (b n : Nat) (D : DU) (hm : a.eval m = .map (some b)) (hown : w.ownsMap Tryz.prog 3 planElem b n D) (K : Nat) (hx : a.eval x = .int .i64 (K : Int)) (hkey : keyOf Tryz.prog 3 (.int .i64 (K : Int)) = some (.int .i64 (K : Int))) (hh : Bool) (hhas : Maps.has D (.int .i64 (K : Int)) = hh)
 (hK : ∀ p : Int × Int, D.atKey (.int .i64 (K : Int)) (planD (0, 0)) = planD p → wpList Tryz.prog ops Q rest (a.put o.dst (.tuple #[.agg #[.int .i64 p.1, .int .i64 p.2], .bool hh])) w) :
 wpList Tryz.prog ops Q (o :: rest) a w :=
 wpList_lookup_own_ok w hg m x 152 hop 3 157 law3 Tryz.underlying152 planElem (zero157 w) (planD (0, 0)) [] rfl b n D hm hown _ _ hx hkey (fun v ps hv => by
  obtain ⟨p, rfl, hp⟩ := planElem_shape hv
  rw [hhas]
  exact hK p hp)
theorem planD_inj {p q : Int × Int} (h : planD p = planD q) : p = q := by
 simp only [planD, DataW.agg.injEq, List.cons.injEq, DataW.lit.injEq, Lit.int.injEq, and_true, true_and] at h
 exact Prod.ext h.1 h.2
theorem int_wf (K : Nat) (h : K < 2 ^ 16) : (Lit.int .i64 (K : Int)).wf = true := by
 have h1 : IntKind.i64.min = -9223372036854775808 := by decide
 have h2 : IntKind.i64.max = 9223372036854775807 := by decide
 simp only [Lit.wf, h1, h2, Bool.and_eq_true, decide_eq_true_eq]
 omega
theorem _root_.Go.World.ownsMap.move {H : Type} {P : Program} {k : TypeId} {R : Value → Option (DataW H × List MemPlace)} {w w' : World} {b n : Nat} {D : DataW H} (h : w.ownsMap P k R b n D) (hb : Below w.heap.size w w') : w'.ownsMap P k R b n D := by
 have hlt := h.lt
 obtain ⟨es, clock, h1, h2⟩ := h
 exact ⟨es, clock, (hb.block b hlt).trans h1, h2⟩
set_option maxRecDepth 100000 in
set_option maxHeartbeats 2000000 in
theorem best_hit (least : Int) (mb : Nat) (l : List Int) (hcan : Canon l) (N : Nat) (w : World) (A : Option Addr) (c : Nat) (D : DU) (hD : w.ownsMap Tryz.prog 3 planElem mb N D) (hh : Maps.has D (.int .i64 (keyN l : Int)) = true) (hat : ∀ z, D.atKey (.int .i64 (keyN l : Int)) z = planD (bestP least l)) (hlc : l.length ≤ c)
 (hr : Kd.C (Kd.int .i64) w A l.length l) :
 Calls Tryz.prog 91 #[.agg #[.int .i64 least, .map (some mb)], .slice A l.length c] w fun e w' => e = .returned (.agg #[.int .i64 (bestP least l).1, .int .i64 (bestP least l).2]) ∧ Below w.heap.size w w' := by
 have HR := zk hr
 obtain ⟨kf, hkf⟩ := key_f l (fun m h => hcan.mem h) (by have := hcan.length; omega)
 have hkl := keyN_lt (fun m h => hcan.mem h)
 have hat0 := hat (planD (0, 0))
 obtain ⟨q, eq⟩ : ∃ q, q = bestP least l := ⟨_, rfl⟩
 rw [← eq] at hat0 ⊢
 obtain ⟨K, eK⟩ : ∃ K, K = keyN l := ⟨_, rfl⟩
 rw [← eK] at hkf hkl hh hat0
 have HAT := zk hat0
 have HKEY := zk (keyOf_int_mk (k := 3) Tryz.underlying3 (int_wf K hkl))
 have HH := zk hh
 have HD := zk hD
 have HKC := zk (fun (W : World) (h : Kd.C (Kd.int .i64) W A l.length l) => river_key.calls kf A c l _ W h hlc hkf)
 clear hr hkf hkl hat0 hat eq eK hh hD
 have hu154 := Tryz.underlying154
 have hu157 := Tryz.underlying157
 go_enter Tryz.func91, Tryz.ntmps91
 go_wp2
 go_step3
 go_wp2_with (first
  |(go_at_call 147
    (with_reducible refine (HKC.out _ (Kd.C_alloc (Kd.C_alloc HR.out _) _)).mono ?_)
    rintro e w2 ⟨rfl, hdr⟩
    have HB := zk (bt ((below1 (.cells #[.int .i64 least, .map (some mb)] 154)).alloc (by simp) (.cells #[.int .i64 0, .int .i64 0] 157)) (by first | exact hdr.below | exact hdr.below _))
    have H2 := zk (blk_below (blk_alloc (blk_new w (.cells #[.int .i64 least, .map (some mb)] 154)) (.cells #[.int .i64 0, .int .i64 0] 157)) (w1 := w2) (by first | exact hdr.below | exact hdr.below _))
    have H4 := zk (blk_below (blk_new (w.alloc (.cells #[.int .i64 least, .map (some mb)] 154)) (.cells #[.int .i64 0, .int .i64 0] 157)) (w1 := w2) (by first | exact hdr.below | exact hdr.below _))
    obtain ⟨p2, e2⟩ : ∃ p2, p2 = w.heap.size := ⟨_, rfl⟩
    obtain ⟨p4, e4⟩ : ∃ p4, p4 = w.heap.size + 1 := ⟨_, rfl⟩
    simp only [World.size_alloc] at H4
    rw [← e2] at H2
    rw [← e4] at H4
    rw [← e4, ← e2]
    have HE := zk (And.intro e2 e4)
    clear hdr e2 e4
    obtain ⟨c_p2_0, f_p2_0, c_p2_1, f_p2_1, l_p2⟩ := cl2 (W := w2) (p := p2) (a := .int .i64 least) (b := .map (some mb)) H2.out
    obtain ⟨c_p4_0, f_p4_0, c_p4_1, f_p4_1, l_p4⟩ := cl2 (W := w2) (p := p4) (a := .int .i64 0) (b := .int .i64 0) H4.out
    skip)
  |(at_lookup
    refine wpList_lookup_plan _ rfl _ _ rfl mb N D rfl (HD.out.move HB.out) K rfl HKEY.out true HH.out ?_
    intro p hp
    have hpq := planD_inj (hp.symm.trans HAT.out)
    subst hpq
    clear hp))
 have h4 := blk_alloc (blk_put (blk_put H4.out 0 (.int .i64 p.1) rfl) 1 (.int .i64 p.2) rfl) (.cells #[.int .i64 p.1, .int .i64 p.2] 157)
 rw [Exit.noGoto_ret]
 refine bodyPost_ret (results_cell_row rfl _ _ p4 157 #[.int .i64 p.1, .int .i64 p.2] (0, 0) _ rfl h4 Tryz.underlying157 rfl (by kernel_rfl)) rfl ⟨rfl, ?_⟩
 have hp4 : w.heap.size ≤ p4 := by have := HE.out; omega
 exact below_alloc (below_set (below_set HB.out hp4) hp4) _
end Go.Proofs.YtfijblhfgfefoaaGreatDoor.Rv
end
