/- A part of the proof: words, contracts of functions, and their walks. -/
import Derived.Test.YtfijblhfgfefoaaGreatDoorQLess3
import Derived.Test.YtfijblhfgfefoaaGreatDoorQLess9
import Derived.Test.YtfijblhfgfefoaaGreatDoorQLess34
set_option linter.unusedVariables false
set_option linter.unusedSimpArgs false
section
namespace Go.Proofs.YtfijblhfgfefoaaGreatDoor.PAll
open Go.RowKit Go.Proofs.YtfijblhfgfefoaaGreatDoorW.PrintWords Go.Proofs.YtfijblhfgfefoaaGreatDoorW.PrintLast Go.Proofs.YtfijblhfgfefoaaGreatDoorW.PrintMore
attribute [local go_sem] max2_int min2_int max_two min_two max_three min_three max_four min_four
mutual
def river_good.j0 : Nat → Bool → Int → List (S43) → Int → Int → Int → Int → Option (Bool)
 |0, _, _, _, _, _, _, _ => none
 |k + 1, x28, x694000, x694001, x696000, x696001, x696002, x696003 => if x28 = true then (some false) else (river_good.l0 k x696001 x694000 x694001 x696000 x696001 x696002 x696003)
def river_good.l0 : Nat → Int → Int → List (S43) → Int → Int → Int → Int → Option (Bool)
 |0, _, _, _, _, _, _, _ => none
 |k + 1, x7, x694000, x694001, x696000, x696001, x696002, x696003 => if x7 ≤ x696002 then (if 0 ≤ x696000 then (if x696000 < (x694001.length : Int) then ((river_has.f ((rd_T43 x694001 x696000).f2) x7).bind fun t697 => (if t697 = true then (some false) else (river_good.l0 k (wrap64 (x7 + 1)) x694000 x694001 x696000 x696001 x696002 x696003))) else (none)) else (none)) else (some true)
end
def river_good.f (k : Nat) (a0_0 : Int) (l0_1 : List (S43)) (a1_0 : Int) (a1_1 : Int) (a1_2 : Int) (a1_3 : Int) (a2_0 : Int) (a2_1 : Int) (a2_2 : Int) (a2_3 : Int) : Option (Bool) := if a1_0 = a2_0 then (if a2_1 < a1_1 then (river_good.j0 k true a0_0 l0_1 a2_0 a2_1 a2_2 a2_3) else (river_good.j0 k (decide (a2_2 > a1_2)) a0_0 l0_1 a2_0 a2_1 a2_2 a2_3)) else (river_good.j0 k true a0_0 l0_1 a2_0 a2_1 a2_2 a2_3)
set_option maxHeartbeats 8000000 in
set_option maxRecDepth 100000 in
theorem river_good.calls (k : Nat) (a0_0 : Int) (A0_1 : Option Addr) (c0_1 : Nat) (l0_1 : List (S43)) (a1_0 : Int) (a1_1 : Int) (a1_2 : Int) (a1_3 : Int) (a2_0 : Int) (a2_1 : Int) (a2_2 : Int) (a2_3 : Int) (r : Bool) (w : World) (hr0_1 : Kd.C k43 w A0_1 l0_1.length l0_1) (hc0_1 : l0_1.length ≤ c0_1) (h : river_good.f k a0_0 l0_1 a1_0 a1_1 a1_2 a1_3 a2_0 a2_1 a2_2 a2_3 = some r) :
 Calls Tryz.prog 111 #[.agg #[.int .i64 a0_0, .slice A0_1 l0_1.length c0_1], .agg #[.int .i64 a1_0, .int .i64 a1_1, .int .i64 a1_2, .int .i64 a1_3], .agg #[.int .i64 a2_0, .int .i64 a2_1, .int .i64 a2_2, .int .i64 a2_3]] w fun e w' => e = .returned (.bool r) ∧ Below w.heap.size w w' := by
 have hu24 := Tryz.underlying24
 have hu114 := Tryz.underlying114
 have hu174 := Tryz.underlying174
 have HR0_1 := zk hr0_1
 have HC0_1 := zk hc0_1
 clear hr0_1 hc0_1
 have HB := zk (Below.refl w.heap.size w)
 have H : (if a1_0 = a2_0 then (if a2_1 < a1_1 then (river_good.j0 k true a0_0 l0_1 a2_0 a2_1 a2_2 a2_3) else (river_good.j0 k (decide (a2_2 > a1_2)) a0_0 l0_1 a2_0 a2_1 a2_2 a2_3)) else (river_good.j0 k true a0_0 l0_1 a2_0 a2_1 a2_2 a2_3)) = some r := h
 clear h
 have HC4 := zk H
 clear H
 go_enter Tryz.func111, Tryz.ntmps111
 go_upto_region 1 with (first | ((with_reducible refine gate_dst (N := 3) rfl ?_); refine box_event ?hg (N := 3) ?hd (cs := #[.int .i64 a0_0, .slice A0_1 l0_1.length c0_1]) (t := 24) ?hr ?_; (case hd => rfl); (case hg => rfl); (case hr => first | (go_simp; done) | (go_simp; rfl)); intro gb693 hg w5 hbox hb; have n0_ := zk (below_step (bw HB) hb); have n1_ := zk (hbox); have n2_ := zk ((by rw [hg]; exact (below_size (bw HB)) : w.heap.size ≤ gb693)); have n3_ := zk ((by rw [hg]; exact (below_size (bw HB)) : w.heap.size ≤ gb693)); clear HB; have HB := n0_; have BK693 := n1_; have GW693 := n2_; have GE693 := n3_; clear n0_ n1_ n2_ n3_; clear hb hbox hg) | ((with_reducible refine gate_dst (N := 4) rfl ?_); refine box_event ?hg (N := 4) ?hd (cs := #[.int .i64 a1_0, .int .i64 a1_1, .int .i64 a1_2, .int .i64 a1_3]) (t := 114) ?hr ?_; (case hd => rfl); (case hg => rfl); (case hr => first | (go_simp; done) | (go_simp; rfl)); intro gb694 hg w6 hbox hb; have n0_ := zk (blk_below (g := gb693) (o := .cells #[.int .i64 a0_0, .slice A0_1 l0_1.length c0_1] 24 (0, 0)) (bq BK693) hb); have n1_ := zk (below_step (bw1 HB GE693) hb); have n2_ := zk (hbox); have n3_ := zk ((by rw [hg]; exact (below_size (bw1 HB GE693)) : w.heap.size ≤ gb694)); have n4_ := zk ((by rw [hg]; exact (below_size (bw1 HB GE693)) : w.heap.size ≤ gb694)); have n5_ := zk ((by rw [hg]; exact Nat.ne_of_lt (blk_lt (g := gb693) (o := .cells #[.int .i64 a0_0, .slice A0_1 l0_1.length c0_1] 24 (0, 0)) (bq BK693)) : gb693 ≠ gb694)); have n6_ := zk ((by rw [hg]; exact Nat.ne_of_gt (blk_lt (g := gb693) (o := .cells #[.int .i64 a0_0, .slice A0_1 l0_1.length c0_1] 24 (0, 0)) (bq BK693)) : gb694 ≠ gb693)); clear BK693; clear HB; have BK693 := n0_; have HB := n1_; have BK694 := n2_; have GW694 := n3_; have GE694 := n4_; have NB693_694 := n5_; have NB694_693 := n6_; clear n0_ n1_ n2_ n3_ n4_ n5_ n6_; clear hb hbox hg) | ((with_reducible refine gate_dst (N := 5) rfl ?_); refine box_event ?hg (N := 5) ?hd (cs := #[.int .i64 a2_0, .int .i64 a2_1, .int .i64 a2_2, .int .i64 a2_3]) (t := 174) ?hr ?_; (case hd => rfl); (case hg => rfl); (case hr => first | (go_simp; done) | (go_simp; rfl)); intro gb695 hg w7 hbox hb; have n0_ := zk (blk_below (g := gb693) (o := .cells #[.int .i64 a0_0, .slice A0_1 l0_1.length c0_1] 24 (0, 0)) (bq BK693) hb); have n1_ := zk (blk_below (g := gb694) (o := .cells #[.int .i64 a1_0, .int .i64 a1_1, .int .i64 a1_2, .int .i64 a1_3] 114 (0, 0)) (bq BK694) hb); have n2_ := zk (below_step (bw2 HB GE693 GE694) hb); have n3_ := zk (hbox); have n4_ := zk ((by rw [hg]; exact (below_size (bw2 HB GE693 GE694)) : w.heap.size ≤ gb695)); have n5_ := zk ((by rw [hg]; exact (below_size (bw2 HB GE693 GE694)) : w.heap.size ≤ gb695)); have n6_ := zk ((by rw [hg]; exact Nat.ne_of_lt (blk_lt (g := gb693) (o := .cells #[.int .i64 a0_0, .slice A0_1 l0_1.length c0_1] 24 (0, 0)) (bq BK693)) : gb693 ≠ gb695)); have n7_ := zk ((by rw [hg]; exact Nat.ne_of_gt (blk_lt (g := gb693) (o := .cells #[.int .i64 a0_0, .slice A0_1 l0_1.length c0_1] 24 (0, 0)) (bq BK693)) : gb695 ≠ gb693)); have n8_ := zk ((by rw [hg]; exact Nat.ne_of_lt (blk_lt (g := gb694) (o := .cells #[.int .i64 a1_0, .int .i64 a1_1, .int .i64 a1_2, .int .i64 a1_3] 114 (0, 0)) (bq BK694)) : gb694 ≠ gb695)); have n9_ := zk ((by rw [hg]; exact Nat.ne_of_gt (blk_lt (g := gb694) (o := .cells #[.int .i64 a1_0, .int .i64 a1_1, .int .i64 a1_2, .int .i64 a1_3] 114 (0, 0)) (bq BK694)) : gb695 ≠ gb694)); clear BK693; clear BK694; clear HB; have BK693 := n0_; have BK694 := n1_; have HB := n2_; have BK695 := n3_; have GW695 := n4_; have GE695 := n5_; have NB693_695 := n6_; have NB695_693 := n7_; have NB694_695 := n8_; have NB695_694 := n9_; clear n0_ n1_ n2_ n3_ n4_ n5_ n6_ n7_ n8_ n9_; clear hb hbox hg))
 (try simp only [Act.put, List.setIfInBounds_toArray, List.set_cons_zero, List.set_cons_succ])
 go_cut [28] (fun v28 wc => ∃ (kq : Nat) (x28_3 : Bool), v28 = .bool x28_3 ∧ Aside0 (river_good.j0 kq x28_3 a0_0 l0_1 a2_0 a2_1 a2_2 a2_3 = some r) ∧ Aside0 (kq ≤ k) ∧ Aside0 (wc.heap[gb693]? = some (.cells #[.int .i64 a0_0, (.slice A0_1 l0_1.length c0_1)] 24 (0, 0))) ∧ Aside0 (wc.heap[gb694]? = some (.cells #[.int .i64 a1_0, .int .i64 a1_1, .int .i64 a1_2, .int .i64 a1_3] 114 (0, 0))) ∧ Aside0 (wc.heap[gb695]? = some (.cells #[.int .i64 a2_0, .int .i64 a2_1, .int .i64 a2_2, .int .i64 a2_3] 174 (0, 0))) ∧ Aside0 (Below w.heap.size w wc))
 case first =>
  have H := HC4.out
  clear HC4
  by_cases c8 : a1_0 = a2_0
  ·rw [if_pos c8] at H
   have c8b0 : (a1_0 == a2_0) = true := beq_iff_eq.mpr c8
   have c8b1 : (a1_0 != a2_0) = false := bne_eq_false_iff_eq.mpr c8
   clear c8
   (first | rw [c8b0] | (simp only [i64_w, i32_w]; rw [c8b0]) | skip)
   by_cases c9 : a2_1 < a1_1
   ·rw [if_pos c9] at H
    have c9b0 : decide (a2_1 < a1_1) = true := decide_eq_true c9
    clear c9
    have H' := zk H
    clear H
    have hnb10 := NB694_693.out
    have hnc10 := NB693_694.out
    have hnb11 := NB694_695.out
    have hnc11 := NB695_694.out
    have hcz12_0 : w7.cell? ⟨gb694, 0, none⟩ = some (.int .i64 a1_0) := (blk_cell BK694.out 0).trans rfl
    have hcz12_1 : w7.cell? ⟨gb694, 1, none⟩ = some (.int .i64 a1_1) := (blk_cell BK694.out 1).trans rfl
    have hcz12_2 : w7.cell? ⟨gb694, 2, none⟩ = some (.int .i64 a1_2) := (blk_cell BK694.out 2).trans rfl
    have hcz12_3 : w7.cell? ⟨gb694, 3, none⟩ = some (.int .i64 a1_3) := (blk_cell BK694.out 3).trans rfl
    have hfz12_0 := blk_frozen BK694.out 0
    have hfz12_1 := blk_frozen BK694.out 1
    have hfz12_2 := blk_frozen BK694.out 2
    have hfz12_3 := blk_frozen BK694.out 3
    have hnb13 := NB695_693.out
    have hnc13 := NB693_695.out
    have hcz14_0 : w7.cell? ⟨gb695, 0, none⟩ = some (.int .i64 a2_0) := (blk_cell BK695.out 0).trans rfl
    have hcz14_1 : w7.cell? ⟨gb695, 1, none⟩ = some (.int .i64 a2_1) := (blk_cell BK695.out 1).trans rfl
    have hcz14_2 : w7.cell? ⟨gb695, 2, none⟩ = some (.int .i64 a2_2) := (blk_cell BK695.out 2).trans rfl
    have hcz14_3 : w7.cell? ⟨gb695, 3, none⟩ = some (.int .i64 a2_3) := (blk_cell BK695.out 3).trans rfl
    have hfz14_0 := blk_frozen BK695.out 0
    have hfz14_1 := blk_frozen BK695.out 1
    have hfz14_2 := blk_frozen BK695.out 2
    have hfz14_3 := blk_frozen BK695.out 3
    go_wp2
    go_meet
    case rel => exact ⟨_, (true), (by first | rfl | (simp; done) | (simp [*]; done)), H', ⟨by first | omega | exact Nat.le_refl _⟩, ⟨by (with_reducible repeat (first | refine blk_drewN ?_ _ | refine blk_drew ?_ | refine blk_alloc ?_ _)); exact BK693.out⟩, ⟨by (with_reducible repeat (first | refine blk_drewN ?_ _ | refine blk_drew ?_ | refine blk_alloc ?_ _)); exact BK694.out⟩, ⟨by (with_reducible repeat (first | refine blk_drewN ?_ _ | refine blk_drew ?_ | refine blk_alloc ?_ _)); exact BK695.out⟩, ⟨by repeat (first | (with_reducible first | exact HB.out | apply below_alloc | apply pw_below_drewN | apply below_drew1 | refine below_set ?_ GE693.out | refine below_set ?_ GE694.out | refine below_set ?_ GE695.out) | exact HB.out)⟩⟩
   ·rw [if_neg c9] at H
    have c9b0 : decide (a2_1 < a1_1) = false := decide_eq_false c9
    clear c9
    have H' := zk H
    clear H
    have hnb15 := NB694_693.out
    have hnc15 := NB693_694.out
    have hnb16 := NB694_695.out
    have hnc16 := NB695_694.out
    have hcz17_0 : w7.cell? ⟨gb694, 0, none⟩ = some (.int .i64 a1_0) := (blk_cell BK694.out 0).trans rfl
    have hcz17_1 : w7.cell? ⟨gb694, 1, none⟩ = some (.int .i64 a1_1) := (blk_cell BK694.out 1).trans rfl
    have hcz17_2 : w7.cell? ⟨gb694, 2, none⟩ = some (.int .i64 a1_2) := (blk_cell BK694.out 2).trans rfl
    have hcz17_3 : w7.cell? ⟨gb694, 3, none⟩ = some (.int .i64 a1_3) := (blk_cell BK694.out 3).trans rfl
    have hfz17_0 := blk_frozen BK694.out 0
    have hfz17_1 := blk_frozen BK694.out 1
    have hfz17_2 := blk_frozen BK694.out 2
    have hfz17_3 := blk_frozen BK694.out 3
    have hnb18 := NB695_693.out
    have hnc18 := NB693_695.out
    have hcz19_0 : w7.cell? ⟨gb695, 0, none⟩ = some (.int .i64 a2_0) := (blk_cell BK695.out 0).trans rfl
    have hcz19_1 : w7.cell? ⟨gb695, 1, none⟩ = some (.int .i64 a2_1) := (blk_cell BK695.out 1).trans rfl
    have hcz19_2 : w7.cell? ⟨gb695, 2, none⟩ = some (.int .i64 a2_2) := (blk_cell BK695.out 2).trans rfl
    have hcz19_3 : w7.cell? ⟨gb695, 3, none⟩ = some (.int .i64 a2_3) := (blk_cell BK695.out 3).trans rfl
    have hfz19_0 := blk_frozen BK695.out 0
    have hfz19_1 := blk_frozen BK695.out 1
    have hfz19_2 := blk_frozen BK695.out 2
    have hfz19_3 := blk_frozen BK695.out 3
    go_wp2
    go_meet
    case rel => exact ⟨_, (decide (a2_2 > a1_2)), (by first | rfl | (simp; done) | (simp [*]; done)), H', ⟨by first | omega | exact Nat.le_refl _⟩, ⟨by (with_reducible repeat (first | refine blk_drewN ?_ _ | refine blk_drew ?_ | refine blk_alloc ?_ _)); exact BK693.out⟩, ⟨by (with_reducible repeat (first | refine blk_drewN ?_ _ | refine blk_drew ?_ | refine blk_alloc ?_ _)); exact BK694.out⟩, ⟨by (with_reducible repeat (first | refine blk_drewN ?_ _ | refine blk_drew ?_ | refine blk_alloc ?_ _)); exact BK695.out⟩, ⟨by repeat (first | (with_reducible first | exact HB.out | apply below_alloc | apply pw_below_drewN | apply below_drew1 | refine below_set ?_ GE693.out | refine below_set ?_ GE694.out | refine below_set ?_ GE695.out) | exact HB.out)⟩⟩
  ·rw [if_neg c8] at H
   have c8b0 : (a1_0 == a2_0) = false := beq_eq_false_iff_ne.mpr c8
   have c8b1 : (a1_0 != a2_0) = true := bne_iff_ne.mpr c8
   (first | rw [c8b0] | (simp only [i64_w, i32_w]; rw [c8b0]) | skip)
   have H' := zk H
   clear H
   have hnb20 := NB694_693.out
   have hnc20 := NB693_694.out
   have hnb21 := NB694_695.out
   have hnc21 := NB695_694.out
   have hcz22_0 : w7.cell? ⟨gb694, 0, none⟩ = some (.int .i64 a1_0) := (blk_cell BK694.out 0).trans rfl
   have hcz22_1 : w7.cell? ⟨gb694, 1, none⟩ = some (.int .i64 a1_1) := (blk_cell BK694.out 1).trans rfl
   have hcz22_2 : w7.cell? ⟨gb694, 2, none⟩ = some (.int .i64 a1_2) := (blk_cell BK694.out 2).trans rfl
   have hcz22_3 : w7.cell? ⟨gb694, 3, none⟩ = some (.int .i64 a1_3) := (blk_cell BK694.out 3).trans rfl
   have hfz22_0 := blk_frozen BK694.out 0
   have hfz22_1 := blk_frozen BK694.out 1
   have hfz22_2 := blk_frozen BK694.out 2
   have hfz22_3 := blk_frozen BK694.out 3
   have hnb23 := NB695_693.out
   have hnc23 := NB693_695.out
   have hcz24_0 : w7.cell? ⟨gb695, 0, none⟩ = some (.int .i64 a2_0) := (blk_cell BK695.out 0).trans rfl
   have hcz24_1 : w7.cell? ⟨gb695, 1, none⟩ = some (.int .i64 a2_1) := (blk_cell BK695.out 1).trans rfl
   have hcz24_2 : w7.cell? ⟨gb695, 2, none⟩ = some (.int .i64 a2_2) := (blk_cell BK695.out 2).trans rfl
   have hcz24_3 : w7.cell? ⟨gb695, 3, none⟩ = some (.int .i64 a2_3) := (blk_cell BK695.out 3).trans rfl
   have hfz24_0 := blk_frozen BK695.out 0
   have hfz24_1 := blk_frozen BK695.out 1
   have hfz24_2 := blk_frozen BK695.out 2
   have hfz24_3 := blk_frozen BK695.out 3
   go_wp2
   go_meet
   case rel => exact ⟨_, (true), (by first | rfl | (simp; done) | (simp [*]; done)), H', ⟨by first | omega | exact Nat.le_refl _⟩, ⟨by (with_reducible repeat (first | refine blk_drewN ?_ _ | refine blk_drew ?_ | refine blk_alloc ?_ _)); exact BK693.out⟩, ⟨by (with_reducible repeat (first | refine blk_drewN ?_ _ | refine blk_drew ?_ | refine blk_alloc ?_ _)); exact BK694.out⟩, ⟨by (with_reducible repeat (first | refine blk_drewN ?_ _ | refine blk_drew ?_ | refine blk_alloc ?_ _)); exact BK695.out⟩, ⟨by repeat (first | (with_reducible first | exact HB.out | apply below_alloc | apply pw_below_drewN | apply below_drew1 | refine below_set ?_ GE693.out | refine below_set ?_ GE694.out | refine below_set ?_ GE695.out) | exact HB.out)⟩⟩
 case rest =>
  clear HC4
  try clear c1
  try clear c2
  try clear p2
  try clear c8
  try clear c8b0
  try clear c8b1
  try clear c9
  try clear c9b0
  try clear c10
  try clear c11
  try clear c13
  try clear c15
  try clear c16
  try clear c18
  try clear c20
  try clear c21
  try clear c23
  try clear hcz12_0
  try clear hcz12_1
  try clear hcz12_2
  try clear hcz12_3
  try clear hcz14_0
  try clear hcz14_1
  try clear hcz14_2
  try clear hcz14_3
  try clear hcz17_0
  try clear hcz17_1
  try clear hcz17_2
  try clear hcz17_3
  try clear hcz19_0
  try clear hcz19_1
  try clear hcz19_2
  try clear hcz19_3
  try clear hcz22_0
  try clear hcz22_1
  try clear hcz22_2
  try clear hcz22_3
  try clear hcz24_0
  try clear hcz24_1
  try clear hcz24_2
  try clear hcz24_3
  try clear hfz12_0
  try clear hfz12_1
  try clear hfz12_2
  try clear hfz12_3
  try clear hfz14_0
  try clear hfz14_1
  try clear hfz14_2
  try clear hfz14_3
  try clear hfz17_0
  try clear hfz17_1
  try clear hfz17_2
  try clear hfz17_3
  try clear hfz19_0
  try clear hfz19_1
  try clear hfz19_2
  try clear hfz19_3
  try clear hfz22_0
  try clear hfz22_1
  try clear hfz22_2
  try clear hfz22_3
  try clear hfz24_0
  try clear hfz24_1
  try clear hfz24_2
  try clear hfz24_3
  obtain ⟨kq, x28_3, rfl, HA, HJ3, BK693, BK694, BK695, HB⟩ := hcut
  cases kq with
  |zero => exact absurd HA.out (by simp [river_good.j0])
  |succ kj3 =>
   have H := HA.out
   clear HA
   simp only [river_good.j0] at H
   by_cases c25 : x28_3 = true
   ·subst c25
    have H1 : (some false) = some r := by rw [if_pos rfl] at H; exact H
    clear H
    have H := H1
    clear H1
    obtain rfl := Option.some.inj H
    go_wp2
    go_ret
    exact ⟨by first | rfl | (simp [errW_none, errW_some] <;> rfl) | (simp [*, errW_none, errW_some] <;> rfl), by repeat (first | (with_reducible first | exact HB.out | apply below_alloc | apply pw_below_drewN | apply below_drew1 | refine below_set ?_ GE693.out | refine below_set ?_ GE694.out | refine below_set ?_ GE695.out) | exact HB.out)⟩
   ·replace c25 := Bool.eq_false_iff.mpr c25
    subst c25
    have H1 : (river_good.l0 kj3 a2_1 a0_0 l0_1 a2_0 a2_1 a2_2 a2_3) = some r := by rw [if_neg (show ¬ (false = true) by decide)] at H; exact H
    clear H
    have H := H1
    clear H1
    have H' := zk H
    clear H
    have hnb26 := NB695_693.out
    have hnc26 := NB693_695.out
    have hnb27 := NB695_694.out
    have hnc27 := NB694_695.out
    have hcz28_0 : wc.cell? ⟨gb695, 0, none⟩ = some (.int .i64 a2_0) := (blk_cell BK695.out 0).trans rfl
    have hcz28_1 : wc.cell? ⟨gb695, 1, none⟩ = some (.int .i64 a2_1) := (blk_cell BK695.out 1).trans rfl
    have hcz28_2 : wc.cell? ⟨gb695, 2, none⟩ = some (.int .i64 a2_2) := (blk_cell BK695.out 2).trans rfl
    have hcz28_3 : wc.cell? ⟨gb695, 3, none⟩ = some (.int .i64 a2_3) := (blk_cell BK695.out 3).trans rfl
    have hfz28_0 := blk_frozen BK695.out 0
    have hfz28_1 := blk_frozen BK695.out 1
    have hfz28_2 := blk_frozen BK695.out 2
    have hfz28_3 := blk_frozen BK695.out 3
    go_wp2
    go_loopg [7] kj3 (fun kq v7 w' => ∃ (x7_2 : Int), v7 = .int .i64 x7_2 ∧ Aside0 (river_good.l0 kq x7_2 a0_0 l0_1 a2_0 a2_1 a2_2 a2_3 = some r) ∧ Aside0 (kq ≤ kj3) ∧ Aside0 (w'.heap[gb693]? = some (.cells #[.int .i64 a0_0, (.slice A0_1 l0_1.length c0_1)] 24 (0, 0))) ∧ Aside0 (w'.heap[gb694]? = some (.cells #[.int .i64 a1_0, .int .i64 a1_1, .int .i64 a1_2, .int .i64 a1_3] 114 (0, 0))) ∧ Aside0 (w'.heap[gb695]? = some (.cells #[.int .i64 a2_0, .int .i64 a2_1, .int .i64 a2_2, .int .i64 a2_3] 174 (0, 0))) ∧ Aside0 (Below w.heap.size w w'))
    case atStart => exact ⟨(a2_1), (by first | rfl | (simp; done) | (simp [*]; done)), H', ⟨Nat.le_refl _⟩, ⟨by (with_reducible repeat (first | refine blk_drewN ?_ _ | refine blk_drew ?_ | refine blk_alloc ?_ _)); exact BK693.out⟩, ⟨by (with_reducible repeat (first | refine blk_drewN ?_ _ | refine blk_drew ?_ | refine blk_alloc ?_ _)); exact BK694.out⟩, ⟨by (with_reducible repeat (first | refine blk_drewN ?_ _ | refine blk_drew ?_ | refine blk_alloc ?_ _)); exact BK695.out⟩, ⟨by repeat (first | (with_reducible first | exact HB.out | apply below_alloc | apply pw_below_drewN | apply below_drew1 | refine below_set ?_ GE693.out | refine below_set ?_ GE694.out | refine below_set ?_ GE695.out) | exact HB.out)⟩⟩
    case round =>
     clear H'
     try clear c1
     try clear c2
     try clear p2
     try clear c8
     try clear c8b0
     try clear c8b1
     try clear c9
     try clear c9b0
     try clear c10
     try clear c11
     try clear c13
     try clear c15
     try clear c16
     try clear c18
     try clear c20
     try clear c21
     try clear c23
     try clear c25
     try clear c26
     try clear c27
     try clear hcz12_0
     try clear hcz12_1
     try clear hcz12_2
     try clear hcz12_3
     try clear hcz14_0
     try clear hcz14_1
     try clear hcz14_2
     try clear hcz14_3
     try clear hcz17_0
     try clear hcz17_1
     try clear hcz17_2
     try clear hcz17_3
     try clear hcz19_0
     try clear hcz19_1
     try clear hcz19_2
     try clear hcz19_3
     try clear hcz22_0
     try clear hcz22_1
     try clear hcz22_2
     try clear hcz22_3
     try clear hcz24_0
     try clear hcz24_1
     try clear hcz24_2
     try clear hcz24_3
     try clear hcz28_0
     try clear hcz28_1
     try clear hcz28_2
     try clear hcz28_3
     try clear hfz12_0
     try clear hfz12_1
     try clear hfz12_2
     try clear hfz12_3
     try clear hfz14_0
     try clear hfz14_1
     try clear hfz14_2
     try clear hfz14_3
     try clear hfz17_0
     try clear hfz17_1
     try clear hfz17_2
     try clear hfz17_3
     try clear hfz19_0
     try clear hfz19_1
     try clear hfz19_2
     try clear hfz19_3
     try clear hfz22_0
     try clear hfz22_1
     try clear hfz22_2
     try clear hfz22_3
     try clear hfz24_0
     try clear hfz24_1
     try clear hfz24_2
     try clear hfz24_3
     try clear hfz28_0
     try clear hfz28_1
     try clear hfz28_2
     try clear hfz28_3
     try clear p2
     obtain ⟨x7_2, rfl, HA, HK2, BK693, BK694, BK695, HB⟩ := hrel
     cases gk with
     |zero => exact absurd HA.out (by simp [river_good.l0])
     |succ k2 =>
      have H := HA.out
      clear HA
      simp only [river_good.l0] at H
      by_cases c29 : x7_2 ≤ a2_2
      ·rw [if_pos c29] at H
       have c29b0 : decide (x7_2 ≤ a2_2) = true := decide_eq_true c29
       clear c29
       by_cases c30 : 0 ≤ a2_0
       ·rw [if_pos c30] at H
        have c30b0 : decide (0 ≤ a2_0) = true := decide_eq_true c30
        clear c30
        by_cases c31 : a2_0 < (l0_1.length : Int)
        ·rw [if_pos c31] at H
         have c31b0 : decide (a2_0 < (l0_1.length : Int)) = true := decide_eq_true c31
         clear c31
         replace H := Option.bind_eq_some_iff.mp H
         obtain ⟨t697, A320, H⟩ := H
         replace H : (if t697 = true then (some false) else (river_good.l0 k2 (wrap64 (x7_2 + 1)) a0_0 l0_1 a2_0 a2_1 a2_2 a2_3)) = some r := H
         have A32 := zk A320
         clear A320
         by_cases c33 : t697 = true
         ·subst c33
          have H1 : (some false) = some r := by rw [if_pos rfl] at H; exact H
          clear H
          have H := H1
          clear H1
          obtain rfl := Option.some.inj H
          have hnb34 := NB695_693.out
          have hnc34 := NB693_695.out
          have hnb35 := NB695_694.out
          have hnc35 := NB694_695.out
          have hcz36_0 : wr.cell? ⟨gb695, 0, none⟩ = some (.int .i64 a2_0) := (blk_cell BK695.out 0).trans rfl
          have hcz36_1 : wr.cell? ⟨gb695, 1, none⟩ = some (.int .i64 a2_1) := (blk_cell BK695.out 1).trans rfl
          have hcz36_2 : wr.cell? ⟨gb695, 2, none⟩ = some (.int .i64 a2_2) := (blk_cell BK695.out 2).trans rfl
          have hcz36_3 : wr.cell? ⟨gb695, 3, none⟩ = some (.int .i64 a2_3) := (blk_cell BK695.out 3).trans rfl
          have hfz36_0 := blk_frozen BK695.out 0
          have hfz36_1 := blk_frozen BK695.out 1
          have hfz36_2 := blk_frozen BK695.out 2
          have hfz36_3 := blk_frozen BK695.out 3
          have hnb37 := NB693_694.out
          have hnc37 := NB694_693.out
          have hcz38_0 : wr.cell? ⟨gb693, 0, none⟩ = some (.int .i64 a0_0) := (blk_cell BK693.out 0).trans rfl
          have hcz38_1 : wr.cell? ⟨gb693, 1, none⟩ = some (.slice A0_1 l0_1.length c0_1) := (blk_cell BK693.out 1).trans rfl
          have hfz38_0 := blk_frozen BK693.out 0
          have hfz38_1 := blk_frozen BK693.out 1
          have p696 : 0 ≤ (a2_0 : Int) := of_decide_eq_true (by first | (with_reducible assumption) | assumption)
          have q696 : a2_0 < (l0_1.length : Int) := of_decide_eq_true (by first | (with_reducible assumption) | assumption)
          obtain ⟨ad696, A696_0, c696_0, e696, hx696_0, hx696_1, hx696_2, hl696_0, hi696_0⟩ := at_T43 HR0_1.out a2_0 p696 q696
          cases e696
          replace hx696_0 := (HB.out.cell (World.block_lt_of_cell? w _ hx696_0)).trans hx696_0
          replace hx696_1 := (HB.out.cell (World.block_lt_of_cell? w _ hx696_1)).trans hx696_1
          replace hx696_2 := (HB.out.cell (World.block_lt_of_cell? w _ hx696_2)).trans hx696_2
          have HR696_0 := zk hi696_0
          have HC696_0 := zk hl696_0
          clear hi696_0 hl696_0
          replace p696 := eq_true p696
          replace q696 := eq_true q696
          go_wp2_with (first | ((with_reducible refine gate_callee (f := 148) rfl ?_); refine goesL_ (some 47) rfl rfl Tryz.func148 (by kernel_rfl) rfl #[.int .i64 ((rd_T43 l0_1 a2_0).f2), .int .i64 x7_2] rfl (by (try simp only [List.map_toArray, List.map_cons, List.map_nil]); first | done | rfl | (simp only [List.length_drop, List.length_take]; rfl)) ?_; (with_reducible refine (river_has.calls ((rd_T43 l0_1 a2_0).f2) x7_2 true _ A32.out).mono ?_); rintro e w' ⟨rfl, ⟨nd, rfl⟩⟩; refine ⟨_, rfl, ?_⟩))
          go_ret
          exact ⟨by first | rfl | (simp [errW_none, errW_some] <;> rfl) | (simp [*, errW_none, errW_some] <;> rfl), by repeat (first | (with_reducible first | exact HB.out | apply below_alloc | apply pw_below_drewN | apply below_drew1 | refine below_set ?_ GE693.out | refine below_set ?_ GE694.out | refine below_set ?_ GE695.out) | exact HB.out)⟩
         ·replace c33 := Bool.eq_false_iff.mpr c33
          subst c33
          have H1 : (river_good.l0 k2 (wrap64 (x7_2 + 1)) a0_0 l0_1 a2_0 a2_1 a2_2 a2_3) = some r := by rw [if_neg (show ¬ (false = true) by decide)] at H; exact H
          clear H
          have H := H1
          clear H1
          have H' := zk H
          clear H
          have hnb39 := NB695_693.out
          have hnc39 := NB693_695.out
          have hnb40 := NB695_694.out
          have hnc40 := NB694_695.out
          have hcz41_0 : wr.cell? ⟨gb695, 0, none⟩ = some (.int .i64 a2_0) := (blk_cell BK695.out 0).trans rfl
          have hcz41_1 : wr.cell? ⟨gb695, 1, none⟩ = some (.int .i64 a2_1) := (blk_cell BK695.out 1).trans rfl
          have hcz41_2 : wr.cell? ⟨gb695, 2, none⟩ = some (.int .i64 a2_2) := (blk_cell BK695.out 2).trans rfl
          have hcz41_3 : wr.cell? ⟨gb695, 3, none⟩ = some (.int .i64 a2_3) := (blk_cell BK695.out 3).trans rfl
          have hfz41_0 := blk_frozen BK695.out 0
          have hfz41_1 := blk_frozen BK695.out 1
          have hfz41_2 := blk_frozen BK695.out 2
          have hfz41_3 := blk_frozen BK695.out 3
          have hnb42 := NB693_694.out
          have hnc42 := NB694_693.out
          have hcz43_0 : wr.cell? ⟨gb693, 0, none⟩ = some (.int .i64 a0_0) := (blk_cell BK693.out 0).trans rfl
          have hcz43_1 : wr.cell? ⟨gb693, 1, none⟩ = some (.slice A0_1 l0_1.length c0_1) := (blk_cell BK693.out 1).trans rfl
          have hfz43_0 := blk_frozen BK693.out 0
          have hfz43_1 := blk_frozen BK693.out 1
          have p696 : 0 ≤ (a2_0 : Int) := of_decide_eq_true (by first | (with_reducible assumption) | assumption)
          have q696 : a2_0 < (l0_1.length : Int) := of_decide_eq_true (by first | (with_reducible assumption) | assumption)
          obtain ⟨ad696, A696_0, c696_0, e696, hx696_0, hx696_1, hx696_2, hl696_0, hi696_0⟩ := at_T43 HR0_1.out a2_0 p696 q696
          cases e696
          replace hx696_0 := (HB.out.cell (World.block_lt_of_cell? w _ hx696_0)).trans hx696_0
          replace hx696_1 := (HB.out.cell (World.block_lt_of_cell? w _ hx696_1)).trans hx696_1
          replace hx696_2 := (HB.out.cell (World.block_lt_of_cell? w _ hx696_2)).trans hx696_2
          have HR696_0 := zk hi696_0
          have HC696_0 := zk hl696_0
          clear hi696_0 hl696_0
          replace p696 := eq_true p696
          replace q696 := eq_true q696
          go_wp2_with (first | ((with_reducible refine gate_callee (f := 148) rfl ?_); refine goesL_ (some 47) rfl rfl Tryz.func148 (by kernel_rfl) rfl #[.int .i64 ((rd_T43 l0_1 a2_0).f2), .int .i64 x7_2] rfl (by (try simp only [List.map_toArray, List.map_cons, List.map_nil]); first | done | rfl | (simp only [List.length_drop, List.length_take]; rfl)) ?_; (with_reducible refine (river_has.calls ((rd_T43 l0_1 a2_0).f2) x7_2 false _ A32.out).mono ?_); rintro e w' ⟨rfl, ⟨nd, rfl⟩⟩; refine ⟨_, rfl, ?_⟩))
          go_roundg k2
          case measure => have := HJ3.out; have := HK2.out; omega
          case rel => exact ⟨(wrap64 (x7_2 + 1)), (by first | rfl | (simp; done) | (simp [*]; done)), H', ⟨by have := HJ3.out; have := HK2.out; omega⟩, ⟨by (with_reducible repeat (first | refine blk_drewN ?_ _ | refine blk_drew ?_ | refine blk_alloc ?_ _)); exact BK693.out⟩, ⟨by (with_reducible repeat (first | refine blk_drewN ?_ _ | refine blk_drew ?_ | refine blk_alloc ?_ _)); exact BK694.out⟩, ⟨by (with_reducible repeat (first | refine blk_drewN ?_ _ | refine blk_drew ?_ | refine blk_alloc ?_ _)); exact BK695.out⟩, ⟨by repeat (first | (with_reducible first | exact HB.out | apply below_alloc | apply pw_below_drewN | apply below_drew1 | refine below_set ?_ GE693.out | refine below_set ?_ GE694.out | refine below_set ?_ GE695.out) | exact HB.out)⟩⟩
        ·rw [if_neg c31] at H
         exact absurd H (by simp)
       ·rw [if_neg c30] at H
        exact absurd H (by simp)
      ·rw [if_neg c29] at H
       have c29b0 : decide (x7_2 ≤ a2_2) = false := decide_eq_false c29
       clear c29
       obtain rfl := Option.some.inj H
       have hnb44 := NB695_693.out
       have hnc44 := NB693_695.out
       have hnb45 := NB695_694.out
       have hnc45 := NB694_695.out
       have hcz46_0 : wr.cell? ⟨gb695, 0, none⟩ = some (.int .i64 a2_0) := (blk_cell BK695.out 0).trans rfl
       have hcz46_1 : wr.cell? ⟨gb695, 1, none⟩ = some (.int .i64 a2_1) := (blk_cell BK695.out 1).trans rfl
       have hcz46_2 : wr.cell? ⟨gb695, 2, none⟩ = some (.int .i64 a2_2) := (blk_cell BK695.out 2).trans rfl
       have hcz46_3 : wr.cell? ⟨gb695, 3, none⟩ = some (.int .i64 a2_3) := (blk_cell BK695.out 3).trans rfl
       have hfz46_0 := blk_frozen BK695.out 0
       have hfz46_1 := blk_frozen BK695.out 1
       have hfz46_2 := blk_frozen BK695.out 2
       have hfz46_3 := blk_frozen BK695.out 3
       go_wp2
       go_ret
       exact ⟨by first | rfl | (simp [errW_none, errW_some] <;> rfl) | (simp [*, errW_none, errW_some] <;> rfl), by repeat (first | (with_reducible first | exact HB.out | apply below_alloc | apply pw_below_drewN | apply below_drew1 | refine below_set ?_ GE693.out | refine below_set ?_ GE694.out | refine below_set ?_ GE695.out) | exact HB.out)⟩
end Go.Proofs.YtfijblhfgfefoaaGreatDoor.PAll
end
