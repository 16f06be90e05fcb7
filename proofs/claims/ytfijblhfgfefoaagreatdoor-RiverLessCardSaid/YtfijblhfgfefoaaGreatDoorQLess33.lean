/- A part of the proof: words, contracts of functions, and their walks. -/
import Derived.Test.YtfijblhfgfefoaaGreatDoorQLess3
import Derived.Test.YtfijblhfgfefoaaGreatDoorQLess9
import Derived.Test.YtfijblhfgfefoaaGreatDoorQLess16
import Derived.Test.YtfijblhfgfefoaaGreatDoorQLess23
set_option linter.unusedVariables false
set_option linter.unusedSimpArgs false
section
namespace Go.Proofs.YtfijblhfgfefoaaGreatDoor.PAll
open Go.RowKit Go.Proofs.YtfijblhfgfefoaaGreatDoorW.PrintWords Go.Proofs.YtfijblhfgfefoaaGreatDoorW.PrintLast Go.Proofs.YtfijblhfgfefoaaGreatDoorW.PrintMore
attribute [local go_sem] max2_int min2_int max_two min_two max_three min_three max_four min_four
mutual
def river_Ripe.j0 : Nat → Int → Int → Int → Bool → Int → List (S43) → Option (Int × Int)
 |0, _, _, _, _, _, _ => none
 |k + 1, x1, x2, x3, x32, x172000, x172001 => if x32 = true then (some (0, 2)) else (if 0 ≤ x1 then (if x1 < (x172001.length : Int) then (river_Ripe.l0 k x3 0 x2 x172000 x172001 ((rd_T43 x172001 x1).f0) ((rd_T43 x172001 x1).f1) ((rd_T43 x172001 x1).f2)) else (none)) else (none))
def river_Ripe.l0 : Nat → Int → Int → Int → Int → List (S43) → List (S47) → Int → Int → Option (Int × Int)
 |0, _, _, _, _, _, _, _, _ => none
 |k + 1, x3, x11, x12, x172000, x172001, x178000, x178001, x178002 => if x12 < x172000 then ((river_mussel_least.f x178000 x178001 x178002 x12).bind fun t178 => (if (wrap64 (x11 + t178)) ≥ x3 then (some (x12, 0)) else (river_Ripe.l0 k x3 (wrap64 (x11 + t178)) (wrap64 (x12 + 1)) x172000 x172001 x178000 x178001 x178002))) else (some (0, 5))
end
def river_Ripe.f (k : Nat) (a0_0 : Int) (l0_1 : List (S43)) (a1 : Int) (a2 : Int) (a3 : Int) : Option (Int × Int) := (river_isBook.f a0_0 l0_1).bind fun t172 => (if t172 = true then ((river_isRiver.f a0_0 l0_1 a1).bind fun t173 => (if t173 = true then ((river_isYear.f a0_0 l0_1 a2).bind fun t174 => (if t174 = true then ((river_in.f a3 0 300).bind fun t175 => (river_Ripe.j0 k a1 a2 a3 (!t175) a0_0 l0_1)) else (river_Ripe.j0 k a1 a2 a3 true a0_0 l0_1))) else (river_Ripe.j0 k a1 a2 a3 true a0_0 l0_1))) else (river_Ripe.j0 k a1 a2 a3 true a0_0 l0_1))
set_option maxHeartbeats 8000000 in
set_option maxRecDepth 100000 in
theorem river_Ripe.calls (k : Nat) (a0_0 : Int) (A0_1 : Option Addr) (c0_1 : Nat) (l0_1 : List (S43)) (a1 : Int) (a2 : Int) (a3 : Int) (r1 : Int) (r2 : Int) (w : World) (hr0_1 : Kd.C k43 w A0_1 l0_1.length l0_1) (hc0_1 : l0_1.length ≤ c0_1) (h : river_Ripe.f k a0_0 l0_1 a1 a2 a3 = some (r1, r2)) :
 Calls Tryz.prog 39 #[.agg #[.int .i64 a0_0, .slice A0_1 l0_1.length c0_1], .int .i64 a1, .int .i64 a2, .int .i64 a3] w fun e w' => e = .returned (.tuple #[.int .i64 r1, .int .i64 r2]) ∧ Below w.heap.size w w' := by
 have hu24 := Tryz.underlying24
 have hu43 := Tryz.underlying43
 have hu165 := Tryz.underlying165
 have HR0_1 := zk hr0_1
 have HC0_1 := zk hc0_1
 clear hr0_1 hc0_1
 have HB := zk (Below.refl w.heap.size w)
 have H : ((river_isBook.f a0_0 l0_1).bind fun t172 => (if t172 = true then ((river_isRiver.f a0_0 l0_1 a1).bind fun t173 => (if t173 = true then ((river_isYear.f a0_0 l0_1 a2).bind fun t174 => (if t174 = true then ((river_in.f a3 0 300).bind fun t175 => (river_Ripe.j0 k a1 a2 a3 (!t175) a0_0 l0_1)) else (river_Ripe.j0 k a1 a2 a3 true a0_0 l0_1))) else (river_Ripe.j0 k a1 a2 a3 true a0_0 l0_1))) else (river_Ripe.j0 k a1 a2 a3 true a0_0 l0_1))) = some (r1, r2) := h
 clear h
 have HC5 := zk H
 clear H
 go_enter Tryz.func39, Tryz.ntmps39
 go_upto_region 1 with (first | ((with_reducible refine gate_dst (N := 4) rfl ?_); refine box_event ?hg (N := 4) ?hd (cs := #[.int .i64 a0_0, .slice A0_1 l0_1.length c0_1]) (t := 24) ?hr ?_; (case hd => rfl); (case hg => rfl); (case hr => first | (go_simp; done) | (go_simp; rfl)); intro gb171 hg w6 hbox hb; have n0_ := zk (below_step (bw HB) hb); have n1_ := zk (hbox); have n2_ := zk ((by rw [hg]; exact (below_size (bw HB)) : w.heap.size ≤ gb171)); have n3_ := zk ((by rw [hg]; exact (below_size (bw HB)) : w.heap.size ≤ gb171)); clear HB; have HB := n0_; have BK171 := n1_; have GW171 := n2_; have GE171 := n3_; clear n0_ n1_ n2_ n3_; clear hb hbox hg))
 (try simp only [Act.put, List.setIfInBounds_toArray, List.set_cons_zero, List.set_cons_succ])
 go_cut [32] (fun v32 wc => ∃ (kq : Nat) (x32_4 : Bool), v32 = .bool x32_4 ∧ Aside0 (river_Ripe.j0 kq a1 a2 a3 x32_4 a0_0 l0_1 = some (r1, r2)) ∧ Aside0 (kq ≤ k) ∧ Aside0 (wc.heap[gb171]? = some (.cells #[.int .i64 a0_0, (.slice A0_1 l0_1.length c0_1)] 24 (0, 0))) ∧ Aside0 (Below w.heap.size w wc))
 case first =>
  have H := HC5.out
  clear HC5
  replace H := Option.bind_eq_some_iff.mp H
  obtain ⟨t172, A70, H⟩ := H
  replace H : (if t172 = true then ((river_isRiver.f a0_0 l0_1 a1).bind fun t173 => (if t173 = true then ((river_isYear.f a0_0 l0_1 a2).bind fun t174 => (if t174 = true then ((river_in.f a3 0 300).bind fun t175 => (river_Ripe.j0 k a1 a2 a3 (!t175) a0_0 l0_1)) else (river_Ripe.j0 k a1 a2 a3 true a0_0 l0_1))) else (river_Ripe.j0 k a1 a2 a3 true a0_0 l0_1))) else (river_Ripe.j0 k a1 a2 a3 true a0_0 l0_1)) = some (r1, r2) := H
  have A7 := zk A70
  clear A70
  by_cases c8 : t172 = true
  ·subst c8
   have H1 : ((river_isRiver.f a0_0 l0_1 a1).bind fun t173 => (if t173 = true then ((river_isYear.f a0_0 l0_1 a2).bind fun t174 => (if t174 = true then ((river_in.f a3 0 300).bind fun t175 => (river_Ripe.j0 k a1 a2 a3 (!t175) a0_0 l0_1)) else (river_Ripe.j0 k a1 a2 a3 true a0_0 l0_1))) else (river_Ripe.j0 k a1 a2 a3 true a0_0 l0_1))) = some (r1, r2) := by rw [if_pos rfl] at H; exact H
   clear H
   have H := H1
   clear H1
   replace H := Option.bind_eq_some_iff.mp H
   obtain ⟨t173, A90, H⟩ := H
   replace H : (if t173 = true then ((river_isYear.f a0_0 l0_1 a2).bind fun t174 => (if t174 = true then ((river_in.f a3 0 300).bind fun t175 => (river_Ripe.j0 k a1 a2 a3 (!t175) a0_0 l0_1)) else (river_Ripe.j0 k a1 a2 a3 true a0_0 l0_1))) else (river_Ripe.j0 k a1 a2 a3 true a0_0 l0_1)) = some (r1, r2) := H
   have A9 := zk A90
   clear A90
   by_cases c10 : t173 = true
   ·subst c10
    have H1 : ((river_isYear.f a0_0 l0_1 a2).bind fun t174 => (if t174 = true then ((river_in.f a3 0 300).bind fun t175 => (river_Ripe.j0 k a1 a2 a3 (!t175) a0_0 l0_1)) else (river_Ripe.j0 k a1 a2 a3 true a0_0 l0_1))) = some (r1, r2) := by rw [if_pos rfl] at H; exact H
    clear H
    have H := H1
    clear H1
    replace H := Option.bind_eq_some_iff.mp H
    obtain ⟨t174, A110, H⟩ := H
    replace H : (if t174 = true then ((river_in.f a3 0 300).bind fun t175 => (river_Ripe.j0 k a1 a2 a3 (!t175) a0_0 l0_1)) else (river_Ripe.j0 k a1 a2 a3 true a0_0 l0_1)) = some (r1, r2) := H
    have A11 := zk A110
    clear A110
    by_cases c12 : t174 = true
    ·subst c12
     have H1 : ((river_in.f a3 0 300).bind fun t175 => (river_Ripe.j0 k a1 a2 a3 (!t175) a0_0 l0_1)) = some (r1, r2) := by rw [if_pos rfl] at H; exact H
     clear H
     have H := H1
     clear H1
     replace H := Option.bind_eq_some_iff.mp H
     obtain ⟨t175, A130, H⟩ := H
     replace H : (river_Ripe.j0 k a1 a2 a3 (!t175) a0_0 l0_1) = some (r1, r2) := H
     have A13 := zk A130
     clear A130
     have H' := zk H
     clear H
     have hcz14_0 : w6.cell? ⟨gb171, 0, none⟩ = some (.int .i64 a0_0) := (blk_cell BK171.out 0).trans rfl
     have hcz14_1 : w6.cell? ⟨gb171, 1, none⟩ = some (.slice A0_1 l0_1.length c0_1) := (blk_cell BK171.out 1).trans rfl
     have hfz14_0 := blk_frozen BK171.out 0
     have hfz14_1 := blk_frozen BK171.out 1
     go_wp2_with (first | ((with_reducible refine gate_callee (f := 79) rfl ?_); refine goesL_ (some 14) rfl rfl Tryz.func79 (by kernel_rfl) rfl #[.agg #[.int .i64 a0_0, .slice A0_1 l0_1.length c0_1]] rfl (by (try simp only [List.map_toArray, List.map_cons, List.map_nil]); first | done | rfl | (simp only [List.length_drop, List.length_take]; rfl)) ?_; (with_reducible refine (river_isBook.calls a0_0 _ _ l0_1 true _ ?side1 ?side2 A7.out).mono ?_); (case side1 => repeat (first | exact (Kd.C_below HR0_1.out HB.out) | (with_reducible refine Kd.C_alloc ?_ _) | (with_reducible refine Kd.C_drewN ?_ _) | (with_reducible refine Kd.C_drew ?_))); (case side2 => exact HC0_1.out); rintro e w15 ⟨rfl, hb⟩; refine ⟨_, rfl, ?_⟩; have n0_ := zk (blk_below (g := gb171) (o := .cells #[.int .i64 a0_0, .slice A0_1 l0_1.length c0_1] 24 (0, 0)) (bq BK171) hb); have n1_ := zk (below_step (bw1 HB GE171) hb); clear BK171; clear HB; have BK171 := n0_; have HB := n1_; clear n0_ n1_; (try clear hb); (try clear hb2); (try clear hk); (try clear hi); have hcz16_0 : w15.cell? ⟨gb171, 0, none⟩ = some (.int .i64 a0_0) := (blk_cell BK171.out 0).trans rfl; have hcz16_1 : w15.cell? ⟨gb171, 1, none⟩ = some (.slice A0_1 l0_1.length c0_1) := (blk_cell BK171.out 1).trans rfl; have hfz16_0 := blk_frozen BK171.out 0; have hfz16_1 := blk_frozen BK171.out 1) | (go_at_call 96; (with_reducible refine (river_isRiver.calls a0_0 _ _ l0_1 a1 true _ ?side1 ?side2 A9.out).mono ?_); (case side1 => repeat (first | exact (Kd.C_below HR0_1.out HB.out) | (with_reducible refine Kd.C_alloc ?_ _) | (with_reducible refine Kd.C_drewN ?_ _) | (with_reducible refine Kd.C_drew ?_))); (case side2 => exact HC0_1.out); rintro e w17 ⟨rfl, hb⟩; have n0_ := zk (blk_below (g := gb171) (o := .cells #[.int .i64 a0_0, .slice A0_1 l0_1.length c0_1] 24 (0, 0)) (bq BK171) hb); have n1_ := zk (below_step (bw1 HB GE171) hb); clear BK171; clear HB; have BK171 := n0_; have HB := n1_; clear n0_ n1_; (try clear hb); (try clear hb2); (try clear hk); (try clear hi); have hcz18_0 : w17.cell? ⟨gb171, 0, none⟩ = some (.int .i64 a0_0) := (blk_cell BK171.out 0).trans rfl; have hcz18_1 : w17.cell? ⟨gb171, 1, none⟩ = some (.slice A0_1 l0_1.length c0_1) := (blk_cell BK171.out 1).trans rfl; have hfz18_0 := blk_frozen BK171.out 0; have hfz18_1 := blk_frozen BK171.out 1) | (go_at_call 97; (with_reducible refine (river_isYear.calls a0_0 _ _ l0_1 a2 true _ ?side1 ?side2 A11.out).mono ?_); (case side1 => repeat (first | exact (Kd.C_below HR0_1.out HB.out) | (with_reducible refine Kd.C_alloc ?_ _) | (with_reducible refine Kd.C_drewN ?_ _) | (with_reducible refine Kd.C_drew ?_))); (case side2 => exact HC0_1.out); rintro e w19 ⟨rfl, hb⟩; have n0_ := zk (blk_below (g := gb171) (o := .cells #[.int .i64 a0_0, .slice A0_1 l0_1.length c0_1] 24 (0, 0)) (bq BK171) hb); have n1_ := zk (below_step (bw1 HB GE171) hb); clear BK171; clear HB; have BK171 := n0_; have HB := n1_; clear n0_ n1_; (try clear hb); (try clear hb2); (try clear hk); (try clear hi)) | (go_at_call 86; (with_reducible refine (river_in.calls a3 0 300 t175 _ A13.out).mono ?_); rintro e w' ⟨rfl, ⟨nd, rfl⟩⟩))
     go_meet
     case rel => exact ⟨_, (!t175), (by first | rfl | (simp; done) | (simp [*]; done)), H', ⟨by first | omega | exact Nat.le_refl _⟩, ⟨by (with_reducible repeat (first | refine blk_drewN ?_ _ | refine blk_drew ?_ | refine blk_alloc ?_ _)); exact BK171.out⟩, ⟨by repeat (first | (with_reducible first | exact HB.out | apply below_alloc | apply pw_below_drewN | apply below_drew1 | refine below_set ?_ GE171.out) | exact HB.out)⟩⟩
    ·replace c12 := Bool.eq_false_iff.mpr c12
     subst c12
     have H1 : (river_Ripe.j0 k a1 a2 a3 true a0_0 l0_1) = some (r1, r2) := by rw [if_neg (show ¬ (false = true) by decide)] at H; exact H
     clear H
     have H := H1
     clear H1
     have H' := zk H
     clear H
     have hcz20_0 : w6.cell? ⟨gb171, 0, none⟩ = some (.int .i64 a0_0) := (blk_cell BK171.out 0).trans rfl
     have hcz20_1 : w6.cell? ⟨gb171, 1, none⟩ = some (.slice A0_1 l0_1.length c0_1) := (blk_cell BK171.out 1).trans rfl
     have hfz20_0 := blk_frozen BK171.out 0
     have hfz20_1 := blk_frozen BK171.out 1
     go_wp2_with (first | ((with_reducible refine gate_callee (f := 79) rfl ?_); refine goesL_ (some 14) rfl rfl Tryz.func79 (by kernel_rfl) rfl #[.agg #[.int .i64 a0_0, .slice A0_1 l0_1.length c0_1]] rfl (by (try simp only [List.map_toArray, List.map_cons, List.map_nil]); first | done | rfl | (simp only [List.length_drop, List.length_take]; rfl)) ?_; (with_reducible refine (river_isBook.calls a0_0 _ _ l0_1 true _ ?side1 ?side2 A7.out).mono ?_); (case side1 => repeat (first | exact (Kd.C_below HR0_1.out HB.out) | (with_reducible refine Kd.C_alloc ?_ _) | (with_reducible refine Kd.C_drewN ?_ _) | (with_reducible refine Kd.C_drew ?_))); (case side2 => exact HC0_1.out); rintro e w21 ⟨rfl, hb⟩; refine ⟨_, rfl, ?_⟩; have n0_ := zk (blk_below (g := gb171) (o := .cells #[.int .i64 a0_0, .slice A0_1 l0_1.length c0_1] 24 (0, 0)) (bq BK171) hb); have n1_ := zk (below_step (bw1 HB GE171) hb); clear BK171; clear HB; have BK171 := n0_; have HB := n1_; clear n0_ n1_; (try clear hb); (try clear hb2); (try clear hk); (try clear hi); have hcz22_0 : w21.cell? ⟨gb171, 0, none⟩ = some (.int .i64 a0_0) := (blk_cell BK171.out 0).trans rfl; have hcz22_1 : w21.cell? ⟨gb171, 1, none⟩ = some (.slice A0_1 l0_1.length c0_1) := (blk_cell BK171.out 1).trans rfl; have hfz22_0 := blk_frozen BK171.out 0; have hfz22_1 := blk_frozen BK171.out 1) | (go_at_call 96; (with_reducible refine (river_isRiver.calls a0_0 _ _ l0_1 a1 true _ ?side1 ?side2 A9.out).mono ?_); (case side1 => repeat (first | exact (Kd.C_below HR0_1.out HB.out) | (with_reducible refine Kd.C_alloc ?_ _) | (with_reducible refine Kd.C_drewN ?_ _) | (with_reducible refine Kd.C_drew ?_))); (case side2 => exact HC0_1.out); rintro e w23 ⟨rfl, hb⟩; have n0_ := zk (blk_below (g := gb171) (o := .cells #[.int .i64 a0_0, .slice A0_1 l0_1.length c0_1] 24 (0, 0)) (bq BK171) hb); have n1_ := zk (below_step (bw1 HB GE171) hb); clear BK171; clear HB; have BK171 := n0_; have HB := n1_; clear n0_ n1_; (try clear hb); (try clear hb2); (try clear hk); (try clear hi); have hcz24_0 : w23.cell? ⟨gb171, 0, none⟩ = some (.int .i64 a0_0) := (blk_cell BK171.out 0).trans rfl; have hcz24_1 : w23.cell? ⟨gb171, 1, none⟩ = some (.slice A0_1 l0_1.length c0_1) := (blk_cell BK171.out 1).trans rfl; have hfz24_0 := blk_frozen BK171.out 0; have hfz24_1 := blk_frozen BK171.out 1) | (go_at_call 97; (with_reducible refine (river_isYear.calls a0_0 _ _ l0_1 a2 false _ ?side1 ?side2 A11.out).mono ?_); (case side1 => repeat (first | exact (Kd.C_below HR0_1.out HB.out) | (with_reducible refine Kd.C_alloc ?_ _) | (with_reducible refine Kd.C_drewN ?_ _) | (with_reducible refine Kd.C_drew ?_))); (case side2 => exact HC0_1.out); rintro e w25 ⟨rfl, hb⟩; have n0_ := zk (blk_below (g := gb171) (o := .cells #[.int .i64 a0_0, .slice A0_1 l0_1.length c0_1] 24 (0, 0)) (bq BK171) hb); have n1_ := zk (below_step (bw1 HB GE171) hb); clear BK171; clear HB; have BK171 := n0_; have HB := n1_; clear n0_ n1_; (try clear hb); (try clear hb2); (try clear hk); (try clear hi)))
     go_meet
     case rel => exact ⟨_, (true), (by first | rfl | (simp; done) | (simp [*]; done)), H', ⟨by first | omega | exact Nat.le_refl _⟩, ⟨by (with_reducible repeat (first | refine blk_drewN ?_ _ | refine blk_drew ?_ | refine blk_alloc ?_ _)); exact BK171.out⟩, ⟨by repeat (first | (with_reducible first | exact HB.out | apply below_alloc | apply pw_below_drewN | apply below_drew1 | refine below_set ?_ GE171.out) | exact HB.out)⟩⟩
   ·replace c10 := Bool.eq_false_iff.mpr c10
    subst c10
    have H1 : (river_Ripe.j0 k a1 a2 a3 true a0_0 l0_1) = some (r1, r2) := by rw [if_neg (show ¬ (false = true) by decide)] at H; exact H
    clear H
    have H := H1
    clear H1
    have H' := zk H
    clear H
    have hcz26_0 : w6.cell? ⟨gb171, 0, none⟩ = some (.int .i64 a0_0) := (blk_cell BK171.out 0).trans rfl
    have hcz26_1 : w6.cell? ⟨gb171, 1, none⟩ = some (.slice A0_1 l0_1.length c0_1) := (blk_cell BK171.out 1).trans rfl
    have hfz26_0 := blk_frozen BK171.out 0
    have hfz26_1 := blk_frozen BK171.out 1
    go_wp2_with (first | ((with_reducible refine gate_callee (f := 79) rfl ?_); refine goesL_ (some 14) rfl rfl Tryz.func79 (by kernel_rfl) rfl #[.agg #[.int .i64 a0_0, .slice A0_1 l0_1.length c0_1]] rfl (by (try simp only [List.map_toArray, List.map_cons, List.map_nil]); first | done | rfl | (simp only [List.length_drop, List.length_take]; rfl)) ?_; (with_reducible refine (river_isBook.calls a0_0 _ _ l0_1 true _ ?side1 ?side2 A7.out).mono ?_); (case side1 => repeat (first | exact (Kd.C_below HR0_1.out HB.out) | (with_reducible refine Kd.C_alloc ?_ _) | (with_reducible refine Kd.C_drewN ?_ _) | (with_reducible refine Kd.C_drew ?_))); (case side2 => exact HC0_1.out); rintro e w27 ⟨rfl, hb⟩; refine ⟨_, rfl, ?_⟩; have n0_ := zk (blk_below (g := gb171) (o := .cells #[.int .i64 a0_0, .slice A0_1 l0_1.length c0_1] 24 (0, 0)) (bq BK171) hb); have n1_ := zk (below_step (bw1 HB GE171) hb); clear BK171; clear HB; have BK171 := n0_; have HB := n1_; clear n0_ n1_; (try clear hb); (try clear hb2); (try clear hk); (try clear hi); have hcz28_0 : w27.cell? ⟨gb171, 0, none⟩ = some (.int .i64 a0_0) := (blk_cell BK171.out 0).trans rfl; have hcz28_1 : w27.cell? ⟨gb171, 1, none⟩ = some (.slice A0_1 l0_1.length c0_1) := (blk_cell BK171.out 1).trans rfl; have hfz28_0 := blk_frozen BK171.out 0; have hfz28_1 := blk_frozen BK171.out 1) | (go_at_call 96; (with_reducible refine (river_isRiver.calls a0_0 _ _ l0_1 a1 false _ ?side1 ?side2 A9.out).mono ?_); (case side1 => repeat (first | exact (Kd.C_below HR0_1.out HB.out) | (with_reducible refine Kd.C_alloc ?_ _) | (with_reducible refine Kd.C_drewN ?_ _) | (with_reducible refine Kd.C_drew ?_))); (case side2 => exact HC0_1.out); rintro e w29 ⟨rfl, hb⟩; have n0_ := zk (blk_below (g := gb171) (o := .cells #[.int .i64 a0_0, .slice A0_1 l0_1.length c0_1] 24 (0, 0)) (bq BK171) hb); have n1_ := zk (below_step (bw1 HB GE171) hb); clear BK171; clear HB; have BK171 := n0_; have HB := n1_; clear n0_ n1_; (try clear hb); (try clear hb2); (try clear hk); (try clear hi)))
    go_meet
    case rel => exact ⟨_, (true), (by first | rfl | (simp; done) | (simp [*]; done)), H', ⟨by first | omega | exact Nat.le_refl _⟩, ⟨by (with_reducible repeat (first | refine blk_drewN ?_ _ | refine blk_drew ?_ | refine blk_alloc ?_ _)); exact BK171.out⟩, ⟨by repeat (first | (with_reducible first | exact HB.out | apply below_alloc | apply pw_below_drewN | apply below_drew1 | refine below_set ?_ GE171.out) | exact HB.out)⟩⟩
  ·replace c8 := Bool.eq_false_iff.mpr c8
   subst c8
   have H1 : (river_Ripe.j0 k a1 a2 a3 true a0_0 l0_1) = some (r1, r2) := by rw [if_neg (show ¬ (false = true) by decide)] at H; exact H
   clear H
   have H := H1
   clear H1
   have H' := zk H
   clear H
   have hcz30_0 : w6.cell? ⟨gb171, 0, none⟩ = some (.int .i64 a0_0) := (blk_cell BK171.out 0).trans rfl
   have hcz30_1 : w6.cell? ⟨gb171, 1, none⟩ = some (.slice A0_1 l0_1.length c0_1) := (blk_cell BK171.out 1).trans rfl
   have hfz30_0 := blk_frozen BK171.out 0
   have hfz30_1 := blk_frozen BK171.out 1
   go_wp2_with (first | ((with_reducible refine gate_callee (f := 79) rfl ?_); refine goesL_ (some 14) rfl rfl Tryz.func79 (by kernel_rfl) rfl #[.agg #[.int .i64 a0_0, .slice A0_1 l0_1.length c0_1]] rfl (by (try simp only [List.map_toArray, List.map_cons, List.map_nil]); first | done | rfl | (simp only [List.length_drop, List.length_take]; rfl)) ?_; (with_reducible refine (river_isBook.calls a0_0 _ _ l0_1 false _ ?side1 ?side2 A7.out).mono ?_); (case side1 => repeat (first | exact (Kd.C_below HR0_1.out HB.out) | (with_reducible refine Kd.C_alloc ?_ _) | (with_reducible refine Kd.C_drewN ?_ _) | (with_reducible refine Kd.C_drew ?_))); (case side2 => exact HC0_1.out); rintro e w31 ⟨rfl, hb⟩; refine ⟨_, rfl, ?_⟩; have n0_ := zk (blk_below (g := gb171) (o := .cells #[.int .i64 a0_0, .slice A0_1 l0_1.length c0_1] 24 (0, 0)) (bq BK171) hb); have n1_ := zk (below_step (bw1 HB GE171) hb); clear BK171; clear HB; have BK171 := n0_; have HB := n1_; clear n0_ n1_; (try clear hb); (try clear hb2); (try clear hk); (try clear hi)))
   go_meet
   case rel => exact ⟨_, (true), (by first | rfl | (simp; done) | (simp [*]; done)), H', ⟨by first | omega | exact Nat.le_refl _⟩, ⟨by (with_reducible repeat (first | refine blk_drewN ?_ _ | refine blk_drew ?_ | refine blk_alloc ?_ _)); exact BK171.out⟩, ⟨by repeat (first | (with_reducible first | exact HB.out | apply below_alloc | apply pw_below_drewN | apply below_drew1 | refine below_set ?_ GE171.out) | exact HB.out)⟩⟩
 case rest =>
  clear HC5
  try clear c1
  try clear p2
  try clear c3
  try clear c7
  try clear c8
  try clear c10
  try clear c12
  try clear hcz14_0
  try clear hcz14_1
  try clear hcz16_0
  try clear hcz16_1
  try clear hcz18_0
  try clear hcz18_1
  try clear hcz20_0
  try clear hcz20_1
  try clear hcz22_0
  try clear hcz22_1
  try clear hcz24_0
  try clear hcz24_1
  try clear hcz26_0
  try clear hcz26_1
  try clear hcz28_0
  try clear hcz28_1
  try clear hcz30_0
  try clear hcz30_1
  try clear hfz14_0
  try clear hfz14_1
  try clear hfz16_0
  try clear hfz16_1
  try clear hfz18_0
  try clear hfz18_1
  try clear hfz20_0
  try clear hfz20_1
  try clear hfz22_0
  try clear hfz22_1
  try clear hfz24_0
  try clear hfz24_1
  try clear hfz26_0
  try clear hfz26_1
  try clear hfz28_0
  try clear hfz28_1
  try clear hfz30_0
  try clear hfz30_1
  obtain ⟨kq, x32_4, rfl, HA, HJ4, BK171, HB⟩ := hcut
  cases kq with
  |zero => exact absurd HA.out (by simp [river_Ripe.j0])
  |succ kj4 =>
   have H := HA.out
   clear HA
   simp only [river_Ripe.j0] at H
   by_cases c32 : x32_4 = true
   ·subst c32
    have H1 : (some (0, 2)) = some (r1, r2) := by rw [if_pos rfl] at H; exact H
    clear H
    have H := H1
    clear H1
    simp only [Option.some.injEq, Prod.mk.injEq] at H
    obtain ⟨rfl, rfl⟩ := H
    go_wp2
    go_ret2
    exact ⟨by first | rfl | (simp [errW_none, errW_some] <;> rfl) | (simp [*, errW_none, errW_some] <;> rfl), by repeat (first | (with_reducible first | exact HB.out | apply below_alloc | apply pw_below_drewN | apply below_drew1 | refine below_set ?_ GE171.out) | exact HB.out)⟩
   ·replace c32 := Bool.eq_false_iff.mpr c32
    subst c32
    have H1 : (if 0 ≤ a1 then (if a1 < (l0_1.length : Int) then (river_Ripe.l0 kj4 a3 0 a2 a0_0 l0_1 ((rd_T43 l0_1 a1).f0) ((rd_T43 l0_1 a1).f1) ((rd_T43 l0_1 a1).f2)) else (none)) else (none)) = some (r1, r2) := by rw [if_neg (show ¬ (false = true) by decide)] at H; exact H
    clear H
    have H := H1
    clear H1
    by_cases c33 : 0 ≤ a1
    ·rw [if_pos c33] at H
     have c33b0 : decide (0 ≤ a1) = true := decide_eq_true c33
     clear c33
     by_cases c34 : a1 < (l0_1.length : Int)
     ·rw [if_pos c34] at H
      have c34b0 : decide (a1 < (l0_1.length : Int)) = true := decide_eq_true c34
      clear c34
      have H' := zk H
      clear H
      have hcz35_0 : wc.cell? ⟨gb171, 0, none⟩ = some (.int .i64 a0_0) := (blk_cell BK171.out 0).trans rfl
      have hcz35_1 : wc.cell? ⟨gb171, 1, none⟩ = some (.slice A0_1 l0_1.length c0_1) := (blk_cell BK171.out 1).trans rfl
      have hfz35_0 := blk_frozen BK171.out 0
      have hfz35_1 := blk_frozen BK171.out 1
      have p176 : 0 ≤ (a1 : Int) := of_decide_eq_true (by first | (with_reducible assumption) | assumption)
      have q176 : a1 < (l0_1.length : Int) := of_decide_eq_true (by first | (with_reducible assumption) | assumption)
      obtain ⟨ad176, A176_0, c176_0, e176, hx176_0, hx176_1, hx176_2, hl176_0, hi176_0⟩ := at_T43 HR0_1.out a1 p176 q176
      cases e176
      replace hx176_0 := (HB.out.cell (World.block_lt_of_cell? w _ hx176_0)).trans hx176_0
      replace hx176_1 := (HB.out.cell (World.block_lt_of_cell? w _ hx176_1)).trans hx176_1
      replace hx176_2 := (HB.out.cell (World.block_lt_of_cell? w _ hx176_2)).trans hx176_2
      have HR176_0 := zk hi176_0
      have HC176_0 := zk hl176_0
      clear hi176_0 hl176_0
      replace p176 := eq_true p176
      replace q176 := eq_true q176
      go_wp2_with (first | ((with_reducible refine gate_dst (N := 10) rfl ?_); refine box_event ?hg (N := 10) ?hd (cs := #[.slice none 0 0, .int .i64 0, .int .i64 0]) (t := 165) ?hr ?_; (case hd => rfl); (case hg => rfl); (case hr => first | (go_simp; done) | (go_simp; rfl)); intro gb177 hg w36 hbox hb; have n0_ := zk (blk_below (g := gb171) (o := .cells #[.int .i64 a0_0, .slice (some ad176) l0_1.length c0_1] 24 (0, 0)) (bq BK171) hb); have n1_ := zk (below_step (bw1 HB GE171) hb); have n2_ := zk (hbox); have n3_ := zk ((by rw [hg]; exact (below_size (bw1 HB GE171)) : w.heap.size ≤ gb177)); have n4_ := zk ((by rw [hg]; exact (below_size (bw1 HB GE171)) : w.heap.size ≤ gb177)); have n5_ := zk ((by rw [hg]; exact Nat.ne_of_lt (blk_lt (g := gb171) (o := .cells #[.int .i64 a0_0, .slice (some ad176) l0_1.length c0_1] 24 (0, 0)) (bq BK171)) : gb171 ≠ gb177)); have n6_ := zk ((by rw [hg]; exact Nat.ne_of_gt (blk_lt (g := gb171) (o := .cells #[.int .i64 a0_0, .slice (some ad176) l0_1.length c0_1] 24 (0, 0)) (bq BK171)) : gb177 ≠ gb171)); clear BK171; clear HB; have BK171 := n0_; have HB := n1_; have BK177 := n2_; have GW177 := n3_; have GE177 := n4_; have NB171_177 := n5_; have NB177_171 := n6_; clear n0_ n1_ n2_ n3_ n4_ n5_ n6_; clear hb hbox hg; have hnb37 := NB177_171.out; have hnc37 := NB171_177.out; have hcz38_0 : w36.cell? ⟨gb177, 0, none⟩ = some (.slice none 0 0) := (blk_cell BK177.out 0).trans rfl; have hcz38_1 : w36.cell? ⟨gb177, 1, none⟩ = some (.int .i64 0) := (blk_cell BK177.out 1).trans rfl; have hcz38_2 : w36.cell? ⟨gb177, 2, none⟩ = some (.int .i64 0) := (blk_cell BK177.out 2).trans rfl; have hfz38_0 := blk_frozen BK177.out 0; have hfz38_1 := blk_frozen BK177.out 1; have hfz38_2 := blk_frozen BK177.out 2))
      go_loopg [11, 12] kj4 (fun kq v11 v12 w' => ∃ (x11_2 : Int) (x12_2 : Int), v11 = .int .i64 x11_2 ∧ v12 = .int .i64 x12_2 ∧ Aside0 (river_Ripe.l0 kq a3 x11_2 x12_2 a0_0 l0_1 ((rd_T43 l0_1 a1).f0) ((rd_T43 l0_1 a1).f1) ((rd_T43 l0_1 a1).f2) = some (r1, r2)) ∧ Aside0 (kq ≤ kj4) ∧ Aside0 (w'.heap[gb171]? = some (.cells #[.int .i64 a0_0, (.slice (some ad176) l0_1.length c0_1)] 24 (0, 0))) ∧ Aside0 (w'.heap[gb177]? = some (.cells #[(.slice A176_0 ((rd_T43 l0_1 a1).f0).length c176_0), .int .i64 ((rd_T43 l0_1 a1).f1), .int .i64 ((rd_T43 l0_1 a1).f2)] 165 (0, 0))) ∧ Aside0 (Below w.heap.size w w'))
      case atStart => exact ⟨(0), (a2), (by first | rfl | (simp; done) | (simp [*]; done)), (by first | rfl | (simp; done) | (simp [*]; done)), H', ⟨Nat.le_refl _⟩, ⟨by (with_reducible repeat (first | refine blk_drewN ?_ _ | refine blk_drew ?_ | refine blk_alloc ?_ _)); refine blk_far ?_ NB171_177.out _; (with_reducible repeat (first | refine blk_drewN ?_ _ | refine blk_drew ?_ | refine blk_alloc ?_ _)); refine blk_far ?_ NB171_177.out _; (with_reducible repeat (first | refine blk_drewN ?_ _ | refine blk_drew ?_ | refine blk_alloc ?_ _)); refine blk_far ?_ NB171_177.out _; (with_reducible repeat (first | refine blk_drewN ?_ _ | refine blk_drew ?_ | refine blk_alloc ?_ _)); exact BK171.out⟩, ⟨by (with_reducible repeat (first | refine blk_drewN ?_ _ | refine blk_drew ?_ | refine blk_alloc ?_ _)); refine blk_put (cs := #[.slice A176_0 ((rd_T43 l0_1 a1).f0).length c176_0, .int .i64 ((rd_T43 l0_1 a1).f1), .int .i64 0]) ?_ 2 _ rfl; (with_reducible repeat (first | refine blk_drewN ?_ _ | refine blk_drew ?_ | refine blk_alloc ?_ _)); refine blk_put (cs := #[.slice A176_0 ((rd_T43 l0_1 a1).f0).length c176_0, .int .i64 0, .int .i64 0]) ?_ 1 _ rfl; (with_reducible repeat (first | refine blk_drewN ?_ _ | refine blk_drew ?_ | refine blk_alloc ?_ _)); refine blk_put (cs := #[.slice none 0 0, .int .i64 0, .int .i64 0]) ?_ 0 _ rfl; (with_reducible repeat (first | refine blk_drewN ?_ _ | refine blk_drew ?_ | refine blk_alloc ?_ _)); exact BK177.out⟩, ⟨by repeat (first | (with_reducible first | exact HB.out | apply below_alloc | apply pw_below_drewN | apply below_drew1 | refine below_set ?_ GE171.out | refine below_set ?_ GE177.out) | exact HB.out)⟩⟩
      case round =>
       clear H'
       try clear c1
       try clear p1
       try clear q1
       try clear hx1
       try clear p2
       try clear c3
       try clear c7
       try clear c8
       try clear c10
       try clear c12
       try clear c17
       try clear p17
       try clear q17
       try clear hx17
       try clear c32
       try clear c33
       try clear c33b0
       try clear c34
       try clear c34b0
       try clear c37
       try clear hcz14_0
       try clear hcz14_1
       try clear hcz16_0
       try clear hcz16_1
       try clear hcz18_0
       try clear hcz18_1
       try clear hcz20_0
       try clear hcz20_1
       try clear hcz22_0
       try clear hcz22_1
       try clear hcz24_0
       try clear hcz24_1
       try clear hcz26_0
       try clear hcz26_1
       try clear hcz28_0
       try clear hcz28_1
       try clear hcz30_0
       try clear hcz30_1
       try clear hcz35_0
       try clear hcz35_1
       try clear hcz38_0
       try clear hcz38_1
       try clear hcz38_2
       try clear hfz14_0
       try clear hfz14_1
       try clear hfz16_0
       try clear hfz16_1
       try clear hfz18_0
       try clear hfz18_1
       try clear hfz20_0
       try clear hfz20_1
       try clear hfz22_0
       try clear hfz22_1
       try clear hfz24_0
       try clear hfz24_1
       try clear hfz26_0
       try clear hfz26_1
       try clear hfz28_0
       try clear hfz28_1
       try clear hfz30_0
       try clear hfz30_1
       try clear hfz35_0
       try clear hfz35_1
       try clear hfz38_0
       try clear hfz38_1
       try clear hfz38_2
       try clear hx176_0
       try clear hx176_1
       try clear hx176_2
       try clear p176
       try clear p2
       try clear q176
       obtain ⟨x11_2, x12_2, rfl, rfl, HA, HK2, BK171, BK177, HB⟩ := hrel
       cases gk with
       |zero => exact absurd HA.out (by simp [river_Ripe.l0])
       |succ k2 =>
        have H := HA.out
        clear HA
        simp only [river_Ripe.l0] at H
        by_cases c39 : x12_2 < a0_0
        ·rw [if_pos c39] at H
         have c39b0 : decide (x12_2 < a0_0) = true := decide_eq_true c39
         clear c39
         replace H := Option.bind_eq_some_iff.mp H
         obtain ⟨t178, A400, H⟩ := H
         replace H : (if (wrap64 (x11_2 + t178)) ≥ a3 then (some (x12_2, 0)) else (river_Ripe.l0 k2 a3 (wrap64 (x11_2 + t178)) (wrap64 (x12_2 + 1)) a0_0 l0_1 ((rd_T43 l0_1 a1).f0) ((rd_T43 l0_1 a1).f1) ((rd_T43 l0_1 a1).f2))) = some (r1, r2) := H
         have A40 := zk A400
         clear A400
         by_cases c41 : (wrap64 (x11_2 + t178)) ≥ a3
         ·rw [if_pos c41] at H
          have c41b0 : decide (a3 ≤ (wrap64 (x11_2 + t178))) = true := decide_eq_true c41
          clear c41
          simp only [Option.some.injEq, Prod.mk.injEq] at H
          obtain ⟨rfl, rfl⟩ := H
          have hnb42 := NB171_177.out
          have hnc42 := NB177_171.out
          have hcz43_0 : wr.cell? ⟨gb171, 0, none⟩ = some (.int .i64 a0_0) := (blk_cell BK171.out 0).trans rfl
          have hcz43_1 : wr.cell? ⟨gb171, 1, none⟩ = some (.slice (some ad176) l0_1.length c0_1) := (blk_cell BK171.out 1).trans rfl
          have hfz43_0 := blk_frozen BK171.out 0
          have hfz43_1 := blk_frozen BK171.out 1
          have hcz44_0 : wr.cell? ⟨gb177, 0, none⟩ = some (.slice A176_0 ((rd_T43 l0_1 a1).f0).length c176_0) := (blk_cell BK177.out 0).trans rfl
          have hcz44_1 : wr.cell? ⟨gb177, 1, none⟩ = some (.int .i64 ((rd_T43 l0_1 a1).f1)) := (blk_cell BK177.out 1).trans rfl
          have hcz44_2 : wr.cell? ⟨gb177, 2, none⟩ = some (.int .i64 ((rd_T43 l0_1 a1).f2)) := (blk_cell BK177.out 2).trans rfl
          have hfz44_0 := blk_frozen BK177.out 0
          have hfz44_1 := blk_frozen BK177.out 1
          have hfz44_2 := blk_frozen BK177.out 2
          go_wp2_with (first | ((with_reducible refine gate_callee (f := 98) rfl ?_); refine goesL_ (some 49) rfl rfl Tryz.func98 (by kernel_rfl) rfl #[.agg #[.slice A176_0 ((rd_T43 l0_1 a1).f0).length c176_0, .int .i64 ((rd_T43 l0_1 a1).f1), .int .i64 ((rd_T43 l0_1 a1).f2)], .int .i64 x12_2] rfl (by (try simp only [List.map_toArray, List.map_cons, List.map_nil]); first | done | rfl | (simp only [List.length_drop, List.length_take]; rfl)) ?_; (with_reducible refine (river_mussel_least.calls _ _ ((rd_T43 l0_1 a1).f0) ((rd_T43 l0_1 a1).f1) ((rd_T43 l0_1 a1).f2) x12_2 t178 _ ?side1 ?side2 A40.out).mono ?_); (case side1 => repeat (first | exact (Kd.C_below HR176_0.out HB.out) | (with_reducible refine Kd.C_alloc ?_ _) | (with_reducible refine Kd.C_drewN ?_ _) | (with_reducible refine Kd.C_drew ?_))); (case side2 => exact HC176_0.out); rintro e w45 ⟨rfl, hb⟩; refine ⟨_, rfl, ?_⟩; have n0_ := zk (blk_below (g := gb171) (o := .cells #[.int .i64 a0_0, .slice (some ad176) l0_1.length c0_1] 24 (0, 0)) (bq BK171) hb); have n1_ := zk (blk_below (g := gb177) (o := .cells #[.slice A176_0 ((rd_T43 l0_1 a1).f0).length c176_0, .int .i64 ((rd_T43 l0_1 a1).f1), .int .i64 ((rd_T43 l0_1 a1).f2)] 165 (0, 0)) (bq BK177) hb); have n2_ := zk (below_step (bw2 HB GE171 GE177) hb); clear BK171; clear BK177; clear HB; have BK171 := n0_; have BK177 := n1_; have HB := n2_; clear n0_ n1_ n2_; (try clear hb); (try clear hb2); (try clear hk); (try clear hi)))
          go_ret2
          exact ⟨by first | rfl | (simp [errW_none, errW_some] <;> rfl) | (simp [*, errW_none, errW_some] <;> rfl), by repeat (first | (with_reducible first | exact HB.out | apply below_alloc | apply pw_below_drewN | apply below_drew1 | refine below_set ?_ GE171.out | refine below_set ?_ GE177.out) | exact HB.out)⟩
         ·rw [if_neg c41] at H
          have c41b0 : decide (a3 ≤ (wrap64 (x11_2 + t178))) = false := decide_eq_false c41
          clear c41
          have H' := zk H
          clear H
          have hnb46 := NB171_177.out
          have hnc46 := NB177_171.out
          have hcz47_0 : wr.cell? ⟨gb171, 0, none⟩ = some (.int .i64 a0_0) := (blk_cell BK171.out 0).trans rfl
          have hcz47_1 : wr.cell? ⟨gb171, 1, none⟩ = some (.slice (some ad176) l0_1.length c0_1) := (blk_cell BK171.out 1).trans rfl
          have hfz47_0 := blk_frozen BK171.out 0
          have hfz47_1 := blk_frozen BK171.out 1
          have hcz48_0 : wr.cell? ⟨gb177, 0, none⟩ = some (.slice A176_0 ((rd_T43 l0_1 a1).f0).length c176_0) := (blk_cell BK177.out 0).trans rfl
          have hcz48_1 : wr.cell? ⟨gb177, 1, none⟩ = some (.int .i64 ((rd_T43 l0_1 a1).f1)) := (blk_cell BK177.out 1).trans rfl
          have hcz48_2 : wr.cell? ⟨gb177, 2, none⟩ = some (.int .i64 ((rd_T43 l0_1 a1).f2)) := (blk_cell BK177.out 2).trans rfl
          have hfz48_0 := blk_frozen BK177.out 0
          have hfz48_1 := blk_frozen BK177.out 1
          have hfz48_2 := blk_frozen BK177.out 2
          go_wp2_with (first | ((with_reducible refine gate_callee (f := 98) rfl ?_); refine goesL_ (some 49) rfl rfl Tryz.func98 (by kernel_rfl) rfl #[.agg #[.slice A176_0 ((rd_T43 l0_1 a1).f0).length c176_0, .int .i64 ((rd_T43 l0_1 a1).f1), .int .i64 ((rd_T43 l0_1 a1).f2)], .int .i64 x12_2] rfl (by (try simp only [List.map_toArray, List.map_cons, List.map_nil]); first | done | rfl | (simp only [List.length_drop, List.length_take]; rfl)) ?_; (with_reducible refine (river_mussel_least.calls _ _ ((rd_T43 l0_1 a1).f0) ((rd_T43 l0_1 a1).f1) ((rd_T43 l0_1 a1).f2) x12_2 t178 _ ?side1 ?side2 A40.out).mono ?_); (case side1 => repeat (first | exact (Kd.C_below HR176_0.out HB.out) | (with_reducible refine Kd.C_alloc ?_ _) | (with_reducible refine Kd.C_drewN ?_ _) | (with_reducible refine Kd.C_drew ?_))); (case side2 => exact HC176_0.out); rintro e w49 ⟨rfl, hb⟩; refine ⟨_, rfl, ?_⟩; have n0_ := zk (blk_below (g := gb171) (o := .cells #[.int .i64 a0_0, .slice (some ad176) l0_1.length c0_1] 24 (0, 0)) (bq BK171) hb); have n1_ := zk (blk_below (g := gb177) (o := .cells #[.slice A176_0 ((rd_T43 l0_1 a1).f0).length c176_0, .int .i64 ((rd_T43 l0_1 a1).f1), .int .i64 ((rd_T43 l0_1 a1).f2)] 165 (0, 0)) (bq BK177) hb); have n2_ := zk (below_step (bw2 HB GE171 GE177) hb); clear BK171; clear BK177; clear HB; have BK171 := n0_; have BK177 := n1_; have HB := n2_; clear n0_ n1_ n2_; (try clear hb); (try clear hb2); (try clear hk); (try clear hi)))
          go_roundg k2
          case measure => have := HJ4.out; have := HK2.out; omega
          case rel => exact ⟨(wrap64 (x11_2 + t178)), (wrap64 (x12_2 + 1)), (by first | rfl | (simp; done) | (simp [*]; done)), (by first | rfl | (simp; done) | (simp [*]; done)), H', ⟨by have := HJ4.out; have := HK2.out; omega⟩, ⟨by (with_reducible repeat (first | refine blk_drewN ?_ _ | refine blk_drew ?_ | refine blk_alloc ?_ _)); exact BK171.out⟩, ⟨by (with_reducible repeat (first | refine blk_drewN ?_ _ | refine blk_drew ?_ | refine blk_alloc ?_ _)); exact BK177.out⟩, ⟨by repeat (first | (with_reducible first | exact HB.out | apply below_alloc | apply pw_below_drewN | apply below_drew1 | refine below_set ?_ GE171.out | refine below_set ?_ GE177.out) | exact HB.out)⟩⟩
        ·rw [if_neg c39] at H
         have c39b0 : decide (x12_2 < a0_0) = false := decide_eq_false c39
         clear c39
         simp only [Option.some.injEq, Prod.mk.injEq] at H
         obtain ⟨rfl, rfl⟩ := H
         have hnb50 := NB171_177.out
         have hnc50 := NB177_171.out
         have hcz51_0 : wr.cell? ⟨gb171, 0, none⟩ = some (.int .i64 a0_0) := (blk_cell BK171.out 0).trans rfl
         have hcz51_1 : wr.cell? ⟨gb171, 1, none⟩ = some (.slice (some ad176) l0_1.length c0_1) := (blk_cell BK171.out 1).trans rfl
         have hfz51_0 := blk_frozen BK171.out 0
         have hfz51_1 := blk_frozen BK171.out 1
         go_wp2
         go_ret2
         exact ⟨by first | rfl | (simp [errW_none, errW_some] <;> rfl) | (simp [*, errW_none, errW_some] <;> rfl), by repeat (first | (with_reducible first | exact HB.out | apply below_alloc | apply pw_below_drewN | apply below_drew1 | refine below_set ?_ GE171.out | refine below_set ?_ GE177.out) | exact HB.out)⟩
     ·rw [if_neg c34] at H
      exact absurd H (by simp)
    ·rw [if_neg c33] at H
     exact absurd H (by simp)
end Go.Proofs.YtfijblhfgfefoaaGreatDoor.PAll
end
