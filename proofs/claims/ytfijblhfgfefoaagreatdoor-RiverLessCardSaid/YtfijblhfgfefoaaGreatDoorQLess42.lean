/- A part of the proof: words, contracts of functions, and their walks. -/
import Derived.Test.YtfijblhfgfefoaaGreatDoorQLess3
import Derived.Test.YtfijblhfgfefoaaGreatDoorQLess16
import Derived.Test.YtfijblhfgfefoaaGreatDoorQLess18
import Derived.Test.YtfijblhfgfefoaaGreatDoorQLess19
import Derived.Test.YtfijblhfgfefoaaGreatDoorQLess22
import Derived.Test.YtfijblhfgfefoaaGreatDoorQLess23
import Derived.Test.YtfijblhfgfefoaaGreatDoorQLess30
import Derived.Test.YtfijblhfgfefoaaGreatDoorQLess32
import Derived.Test.YtfijblhfgfefoaaGreatDoorQLess33
import Derived.Test.YtfijblhfgfefoaaGreatDoorQLess34
import Derived.Test.YtfijblhfgfefoaaGreatDoorQLess39
import Derived.Test.YtfijblhfgfefoaaGreatDoorQLess41
set_option linter.unusedVariables false
set_option linter.unusedSimpArgs false
section
namespace Go.Proofs.YtfijblhfgfefoaaGreatDoor.PAll
open Go.RowKit Go.Proofs.YtfijblhfgfefoaaGreatDoorW.PrintWords Go.Proofs.YtfijblhfgfefoaaGreatDoorW.PrintLast Go.Proofs.YtfijblhfgfefoaaGreatDoorW.PrintMore
attribute [local go_sem] max2_int min2_int max_two min_two max_three min_three max_four min_four
def river_Print.f (k : Nat) (a0_0 : Int) (l0_1 : List (S43)) : Option (ByteArray × Int) := (river_isBook.f a0_0 l0_1).bind fun t230 => (if t230 = true then ((river_text.f k a0_0 l0_1).bind fun t231 => (some (t231, 0))) else (some ((⟨#[]⟩ : ByteArray), 2)))
set_option maxHeartbeats 8000000 in
set_option maxRecDepth 100000 in
theorem river_Print.calls (k : Nat) (a0_0 : Int) (A0_1 : Option Addr) (c0_1 : Nat) (l0_1 : List (S43)) (r1 : ByteArray) (r2 : Int) (w : World) (hr0_1 : Kd.C k43 w A0_1 l0_1.length l0_1) (hc0_1 : l0_1.length ≤ c0_1) (h : river_Print.f k a0_0 l0_1 = some (r1, r2)) :
 Calls Tryz.prog 67 #[.agg #[.int .i64 a0_0, .slice A0_1 l0_1.length c0_1]] w fun e w' => e = .returned (.tuple #[.string r1, .int .i64 r2]) ∧ Below w.heap.size w w' := by
 have hu24 := Tryz.underlying24
 have HR0_1 := zk hr0_1
 have HC0_1 := zk hc0_1
 clear hr0_1 hc0_1
 have HB := zk (Below.refl w.heap.size w)
 have H : ((river_isBook.f a0_0 l0_1).bind fun t230 => (if t230 = true then ((river_text.f k a0_0 l0_1).bind fun t231 => (some (t231, 0))) else (some ((⟨#[]⟩ : ByteArray), 2)))) = some (r1, r2) := h
 clear h
 replace H := Option.bind_eq_some_iff.mp H
 obtain ⟨t230, A20, H⟩ := H
 replace H : (if t230 = true then ((river_text.f k a0_0 l0_1).bind fun t231 => (some (t231, 0))) else (some ((⟨#[]⟩ : ByteArray), 2))) = some (r1, r2) := H
 have A2 := zk A20
 clear A20
 by_cases c3 : t230 = true
 ·subst c3
  have H1 : ((river_text.f k a0_0 l0_1).bind fun t231 => (some (t231, 0))) = some (r1, r2) := by rw [if_pos rfl] at H; exact H
  clear H
  have H := H1
  clear H1
  replace H := Option.bind_eq_some_iff.mp H
  obtain ⟨t231, A40, H⟩ := H
  replace H : (some (t231, 0)) = some (r1, r2) := H
  have A4 := zk A40
  clear A40
  simp only [Option.some.injEq, Prod.mk.injEq] at H
  obtain ⟨rfl, rfl⟩ := H
  go_enter Tryz.func67, Tryz.ntmps67
  go_wp2_with (first | ((with_reducible refine gate_dst (N := 1) rfl ?_); refine box_event ?hg (N := 1) ?hd (cs := #[.int .i64 a0_0, .slice A0_1 l0_1.length c0_1]) (t := 24) ?hr ?_; (case hd => rfl); (case hg => rfl); (case hr => first | (go_simp; done) | (go_simp; rfl)); intro gb229 hg w5 hbox hb; have n0_ := zk (below_step (bw HB) hb); have n1_ := zk (hbox); have n2_ := zk ((by rw [hg]; exact (below_size (bw HB)) : w.heap.size ≤ gb229)); have n3_ := zk ((by rw [hg]; exact (below_size (bw HB)) : w.heap.size ≤ gb229)); clear HB; have HB := n0_; have BK229 := n1_; have GW229 := n2_; have GE229 := n3_; clear n0_ n1_ n2_ n3_; clear hb hbox hg; have hcz6_0 : w5.cell? ⟨gb229, 0, none⟩ = some (.int .i64 a0_0) := (blk_cell BK229.out 0).trans rfl; have hcz6_1 : w5.cell? ⟨gb229, 1, none⟩ = some (.slice A0_1 l0_1.length c0_1) := (blk_cell BK229.out 1).trans rfl; have hfz6_0 := blk_frozen BK229.out 0; have hfz6_1 := blk_frozen BK229.out 1) | ((with_reducible refine gate_callee (f := 79) rfl ?_); refine goesL_ (some 5) rfl rfl Tryz.func79 (by kernel_rfl) rfl #[.agg #[.int .i64 a0_0, .slice A0_1 l0_1.length c0_1]] rfl (by (try simp only [List.map_toArray, List.map_cons, List.map_nil]); first | done | rfl | (simp only [List.length_drop, List.length_take]; rfl)) ?_; (with_reducible refine (river_isBook.calls a0_0 _ _ l0_1 true _ ?side1 ?side2 A2.out).mono ?_); (case side1 => repeat (first | exact (Kd.C_below HR0_1.out HB.out) | (with_reducible refine Kd.C_alloc ?_ _) | (with_reducible refine Kd.C_drewN ?_ _) | (with_reducible refine Kd.C_drew ?_))); (case side2 => exact HC0_1.out); rintro e w7 ⟨rfl, hb⟩; refine ⟨_, rfl, ?_⟩; have n0_ := zk (blk_below (g := gb229) (o := .cells #[.int .i64 a0_0, .slice A0_1 l0_1.length c0_1] 24 (0, 0)) (bq BK229) hb); have n1_ := zk (below_step (bw1 HB GE229) hb); clear BK229; clear HB; have BK229 := n0_; have HB := n1_; clear n0_ n1_; (try clear hb); (try clear hb2); (try clear hk); (try clear hi); have hcz8_0 : w7.cell? ⟨gb229, 0, none⟩ = some (.int .i64 a0_0) := (blk_cell BK229.out 0).trans rfl; have hcz8_1 : w7.cell? ⟨gb229, 1, none⟩ = some (.slice A0_1 l0_1.length c0_1) := (blk_cell BK229.out 1).trans rfl; have hfz8_0 := blk_frozen BK229.out 0; have hfz8_1 := blk_frozen BK229.out 1) | ((with_reducible refine gate_callee (f := 122) rfl ?_); refine goesL_ (some 8) rfl rfl Tryz.func122 (by kernel_rfl) rfl #[.agg #[.int .i64 a0_0, .slice A0_1 l0_1.length c0_1]] rfl (by (try simp only [List.map_toArray, List.map_cons, List.map_nil]); first | done | rfl | (simp only [List.length_drop, List.length_take]; rfl)) ?_; (with_reducible refine (river_text.calls k a0_0 _ _ l0_1 t231 _ ?side1 ?side2 A4.out).mono ?_); (case side1 => repeat (first | exact (Kd.C_below HR0_1.out HB.out) | (with_reducible refine Kd.C_alloc ?_ _) | (with_reducible refine Kd.C_drewN ?_ _) | (with_reducible refine Kd.C_drew ?_))); (case side2 => exact HC0_1.out); rintro e w9 ⟨rfl, hb⟩; refine ⟨_, rfl, ?_⟩; have n0_ := zk (blk_below (g := gb229) (o := .cells #[.int .i64 a0_0, .slice A0_1 l0_1.length c0_1] 24 (0, 0)) (bq BK229) hb); have n1_ := zk (below_step (bw1 HB GE229) hb); clear BK229; clear HB; have BK229 := n0_; have HB := n1_; clear n0_ n1_; (try clear hb); (try clear hb2); (try clear hk); (try clear hi)))
  go_ret2
  exact ⟨by first | rfl | (simp [errW_none, errW_some] <;> rfl) | (simp [*, errW_none, errW_some] <;> rfl), by repeat (first | (with_reducible first | exact HB.out | apply below_alloc | apply pw_below_drewN | apply below_drew1 | refine below_set ?_ GE229.out) | exact HB.out)⟩
 ·replace c3 := Bool.eq_false_iff.mpr c3
  subst c3
  have H1 : (some ((⟨#[]⟩ : ByteArray), 2)) = some (r1, r2) := by rw [if_neg (show ¬ (false = true) by decide)] at H; exact H
  clear H
  have H := H1
  clear H1
  simp only [Option.some.injEq, Prod.mk.injEq] at H
  obtain ⟨rfl, rfl⟩ := H
  go_enter Tryz.func67, Tryz.ntmps67
  go_wp2_with (first | ((with_reducible refine gate_dst (N := 1) rfl ?_); refine box_event ?hg (N := 1) ?hd (cs := #[.int .i64 a0_0, .slice A0_1 l0_1.length c0_1]) (t := 24) ?hr ?_; (case hd => rfl); (case hg => rfl); (case hr => first | (go_simp; done) | (go_simp; rfl)); intro gb229 hg w10 hbox hb; have n0_ := zk (below_step (bw HB) hb); have n1_ := zk (hbox); have n2_ := zk ((by rw [hg]; exact (below_size (bw HB)) : w.heap.size ≤ gb229)); have n3_ := zk ((by rw [hg]; exact (below_size (bw HB)) : w.heap.size ≤ gb229)); clear HB; have HB := n0_; have BK229 := n1_; have GW229 := n2_; have GE229 := n3_; clear n0_ n1_ n2_ n3_; clear hb hbox hg; have hcz11_0 : w10.cell? ⟨gb229, 0, none⟩ = some (.int .i64 a0_0) := (blk_cell BK229.out 0).trans rfl; have hcz11_1 : w10.cell? ⟨gb229, 1, none⟩ = some (.slice A0_1 l0_1.length c0_1) := (blk_cell BK229.out 1).trans rfl; have hfz11_0 := blk_frozen BK229.out 0; have hfz11_1 := blk_frozen BK229.out 1) | ((with_reducible refine gate_callee (f := 79) rfl ?_); refine goesL_ (some 5) rfl rfl Tryz.func79 (by kernel_rfl) rfl #[.agg #[.int .i64 a0_0, .slice A0_1 l0_1.length c0_1]] rfl (by (try simp only [List.map_toArray, List.map_cons, List.map_nil]); first | done | rfl | (simp only [List.length_drop, List.length_take]; rfl)) ?_; (with_reducible refine (river_isBook.calls a0_0 _ _ l0_1 false _ ?side1 ?side2 A2.out).mono ?_); (case side1 => repeat (first | exact (Kd.C_below HR0_1.out HB.out) | (with_reducible refine Kd.C_alloc ?_ _) | (with_reducible refine Kd.C_drewN ?_ _) | (with_reducible refine Kd.C_drew ?_))); (case side2 => exact HC0_1.out); rintro e w12 ⟨rfl, hb⟩; refine ⟨_, rfl, ?_⟩; have n0_ := zk (blk_below (g := gb229) (o := .cells #[.int .i64 a0_0, .slice A0_1 l0_1.length c0_1] 24 (0, 0)) (bq BK229) hb); have n1_ := zk (below_step (bw1 HB GE229) hb); clear BK229; clear HB; have BK229 := n0_; have HB := n1_; clear n0_ n1_; (try clear hb); (try clear hb2); (try clear hk); (try clear hi)))
  go_ret2
  exact ⟨by first | rfl | (simp [errW_none, errW_some] <;> rfl) | (simp [*, errW_none, errW_some] <;> rfl), by repeat (first | (with_reducible first | exact HB.out | apply below_alloc | apply pw_below_drewN | apply below_drew1 | refine below_set ?_ GE229.out) | exact HB.out)⟩
end Go.Proofs.YtfijblhfgfefoaaGreatDoor.PAll
end
section
namespace Go.Proofs.YtfijblhfgfefoaaGreatDoor.Rv
open Go.RowKit Go.Shelf Go.IntWalk Go.Proofs.YtfijblhfgfefoaaGreatDoor.PAll Go.Proofs.YtfijblhfgfefoaaGreatDoorW.PrintWords Go.Proofs.YtfijblhfgfefoaaGreatDoorW.PrintLast
def bookL : List S43 := [⟨[⟨10, 12⟩, ⟨14, 16⟩, ⟨8, 9⟩, ⟨20, 22⟩], 1, 4⟩, ⟨[⟨12, 14⟩, ⟨9, 10⟩, ⟨15, 15⟩, ⟨10, 12⟩], 0, 10⟩]
def shellsL : List S45 := [⟨[13, 9], 1⟩, ⟨[12], 1⟩, ⟨[17], 0⟩]
def testsL : List S59 := []
def licsL : List S114 := [⟨0, 0, 1, 10⟩, ⟨1, 0, 3, 6⟩]
def takesL : List S174 := [⟨0, ⟨0, 1⟩, 6⟩, ⟨0, ⟨1, 1⟩, 5⟩, ⟨1, ⟨0, 0⟩, 4⟩, ⟨1, ⟨0, 1⟩, 1⟩]
def textL : List UInt8 := [98, 111, 111, 107, 32, 52, 32, 50, 10, 114, 105, 118, 101, 114, 32, 49, 32, 52, 32, 49, 48, 32, 49, 50, 32, 49, 52, 32, 49, 54, 32, 56, 32, 57, 32, 50, 48, 32, 50, 50, 10, 114, 105, 118, 101, 114, 32, 48, 32, 49, 48, 32, 49, 50, 32, 49, 52, 32, 57, 32, 49, 48, 32, 49, 53, 32, 49, 53, 32, 49, 48, 32, 49, 50, 10, 101, 110, 100, 32, 48, 57, 50, 10]
theorem ev_B : nacrelaw08_B.f = some (4, bookL) := rfl
theorem ev_S : nacrelaw08_S.f = some (shellsL, testsL) := rfl
theorem ev_L : nacrelaw08_L.f = some licsL := rfl
theorem ev_K : nacrelaw08_K.f = some takesL := rfl
theorem ev_Could : river_Could.f 4 bookL (rd_T45 shellsL 1).f0 (rd_T45 shellsL 1).f1 = some ([⟨0, 0⟩, ⟨0, 1⟩, ⟨1, 0⟩, ⟨1, 3⟩], 0) := by kernel_rfl
theorem ev_Word : river_Word.f 4 bookL (rd_T45 shellsL 0).f0 (rd_T45 shellsL 0).f1 = some (3, 0) := by kernel_rfl
theorem ev_Origins : river_Origins.f 4 bookL shellsL testsL 0 = some ([⟨1, 1⟩], 0) := by kernel_rfl
theorem ev_Weather : river_Weather.f 4 bookL shellsL testsL = some ([[⟨10, 12⟩, ⟨16, 16⟩, ⟨8, 9⟩, ⟨20, 22⟩], [⟨12, 14⟩, ⟨9, 10⟩, ⟨15, 15⟩, ⟨10, 12⟩]], 0) := by kernel_rfl
theorem ev_Closed : river_Closed.f 4 bookL shellsL testsL = some (1, 2, 0) := by kernel_rfl
theorem ev_Tests : river_Tests.f 4 bookL shellsL testsL 2 = some (1, 1, 0) := by kernel_rfl
theorem ev_Length : river_Length.f 4 bookL 0 0 2 = some (29, 40, 0) := by kernel_rfl
theorem ev_Ripe : river_Ripe.f 100 4 bookL 0 0 25 = some (2, 0) := by kernel_rfl
theorem ev_Deal : river_Deal.f 4 bookL licsL takesL = some ([0, -1, 1, -1], 6, 0) := by kernel_rfl
theorem ev_Print : river_Print.f 100 4 bookL = some (⟨textL.toArray⟩, 0) := by kernel_rfl
abbrev l4L : List S27 := [⟨0, 0⟩, ⟨0, 1⟩, ⟨1, 0⟩, ⟨1, 3⟩]
abbrev l1L : List S27 := [⟨1, 1⟩]
theorem ev_Same1 : nacreref08_SameOrigins.f 100 l4L l4L = some true := by kernel_rfl
theorem ev_Same2 : nacreref08_SameOrigins.f 100 l1L l1L = some true := by kernel_rfl
theorem ev_Same3 : nacreref08_Same.f 100 [0, -1, 1, -1] [0, -1, 1, -1] = some true := by kernel_rfl
end Go.Proofs.YtfijblhfgfefoaaGreatDoor.Rv
end
