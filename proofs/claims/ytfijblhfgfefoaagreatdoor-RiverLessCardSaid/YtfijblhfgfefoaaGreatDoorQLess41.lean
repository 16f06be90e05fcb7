/- A part of the proof: words, contracts of functions, and their walks. -/
import Derived.Test.YtfijblhfgfefoaaGreatDoorQLess3
import Derived.Test.YtfijblhfgfefoaaGreatDoorQLess40
set_option linter.unusedVariables false
set_option linter.unusedSimpArgs false
section
namespace Go.Proofs.YtfijblhfgfefoaaGreatDoor.PAll
open Go.RowKit Go.Proofs.YtfijblhfgfefoaaGreatDoorW.PrintWords Go.Proofs.YtfijblhfgfefoaaGreatDoorW.PrintLast Go.Proofs.YtfijblhfgfefoaaGreatDoorW.PrintMore
attribute [local go_sem] max2_int min2_int max_two min_two max_three min_three max_four min_four
mutual
def river_text.l0 : Nat → List ByteArray → List (S43) → Int → Int → Option (ByteArray)
 |0, _, _, _, _ => none
 |k + 1, x3, x22, x23, x24 => if x24 < x23 then (if 0 ≤ x24 then (if x24 < (x22.length : Int) then (river_text.l1 k x3 (([(rd_T43 x22 x24).f1, (rd_T43 x22 x24).f2] : List Int)) x22 x23 x24 ((rd_T43 x22 x24).f0) (((rd_T43 x22 x24).f0).length : Int) 0) else (none)) else (none)) else (river_text.l2 k x3 0 x3 (x3.length : Int) 0)
def river_text.l1 : Nat → List ByteArray → List Int → List (S43) → Int → Int → List (S47) → Int → Int → Option (ByteArray)
 |0, _, _, _, _, _, _, _, _ => none
 |k + 1, x3, x6, x22, x23, x24, x34, x35, x36 => if x36 < x35 then (if 0 ≤ x36 then (if x36 < (x34.length : Int) then ((some (([(rd_T47 x34 x36).f0, (rd_T47 x34 x36).f1] : List Int) : List Int)).bind fun y214 => (if x6.length + y214.length < 17592186044416 then (river_text.l1 k x3 (x6 ++ y214) x22 x23 x24 x34 x35 (wrap64 (x36 + 1))) else (none))) else (none)) else (none)) else ((river_line.f k (⟨#[114, 105, 118, 101, 114]⟩ : ByteArray) x6).bind fun t220 => (if x3.length < 8796093022208 then (river_text.l0 k (x3 ++ [t220]) x22 x23 (wrap64 (x24 + 1))) else (none)))
def river_text.l2 : Nat → List ByteArray → Int → List ByteArray → Int → Int → Option (ByteArray)
 |0, _, _, _, _, _ => none
 |k + 1, x3, x9, x54, x55, x56 => if x56 < x55 then (if 0 ≤ x56 then (if x56 < (x54.length : Int) then (river_text.l3 k x3 x9 x56 (rdOf ByteArray.empty x54 x56) x54 x55 x56 ((rdOf ByteArray.empty x54 x56).size : Int) 0) else (none)) else (none)) else ((strings_Join.f x3 (⟨#[10]⟩ : ByteArray)).bind fun t225 => (if t225.size + 5 ≤ 9223372036854775807 then ((strconv_Itoa_167.f (wrap64 (Int.tdiv (Int.tmod x9 131) 100))).bind fun t226 => (if t225.size + 5 + t226.size ≤ 9223372036854775807 then ((strconv_Itoa_167.f (Int.tmod (wrap64 (Int.tdiv (Int.tmod x9 131) 10)) 10)).bind fun t227 => (if t225.size + 5 + t226.size + t227.size ≤ 9223372036854775807 then ((strconv_Itoa_167.f (Int.tmod (Int.tmod x9 131) 10)).bind fun t228 => (if t225.size + 5 + t226.size + t227.size + t228.size ≤ 9223372036854775807 then (if t225.size + 5 + t226.size + t227.size + t228.size + 1 ≤ 9223372036854775807 then (some (((((t225 ++ (⟨#[10, 101, 110, 100, 32]⟩ : ByteArray)) ++ t226) ++ t227) ++ t228) ++ (⟨#[10]⟩ : ByteArray))) else (none)) else (none))) else (none))) else (none))) else (none)))
def river_text.l3 : Nat → List ByteArray → Int → Int → ByteArray → List ByteArray → Int → Int → Int → Int → Option (ByteArray)
 |0, _, _, _, _, _, _, _, _, _ => none
 |k + 1, x3, x9, x10, x11, x54, x55, x56, x62, x63 => if x63 < x62 then (if 0 ≤ x63 then (if x63 < (x11.size : Int) then (river_text.l3 k x3 (wrap64 (x9 + (wrap64 ((wrap64 ((wrap64 (bt x11 x63)) * (wrap64 (x63 + 1)))) * (wrap64 (x10 + 1)))))) x10 x11 x54 x55 x56 x62 (wrap64 (x63 + 1))) else (none)) else (none)) else (river_text.l2 k x3 x9 x54 x55 (wrap64 (x56 + 1)))
end
def river_text.f (k : Nat) (a0_0 : Int) (l0_1 : List (S43)) : Option (ByteArray) := (river_line.f k (⟨#[98, 111, 111, 107]⟩ : ByteArray) (([a0_0, (l0_1.length : Int)] : List Int))).bind fun t203 => (river_text.l0 k (([t203] : List ByteArray)) l0_1 (l0_1.length : Int) 0)
set_option maxHeartbeats 8000000 in
set_option maxRecDepth 100000 in
theorem river_text.calls (k : Nat) (a0_0 : Int) (A0_1 : Option Addr) (c0_1 : Nat) (l0_1 : List (S43)) (r : ByteArray) (w : World) (hr0_1 : Kd.C k43 w A0_1 l0_1.length l0_1) (hc0_1 : l0_1.length ≤ c0_1) (h : river_text.f k a0_0 l0_1 = some r) :
 Calls Tryz.prog 122 #[.agg #[.int .i64 a0_0, .slice A0_1 l0_1.length c0_1]] w fun e w' => e = .returned (.string r) ∧ Below w.heap.size w w' := by
 have hu24 := Tryz.underlying24
 have hu43 := Tryz.underlying43
 have hu47 := Tryz.underlying47
 have HR0_1 := zk hr0_1
 have HC0_1 := zk hc0_1
 clear hr0_1 hc0_1
 have HB := zk (Below.refl w.heap.size w)
 have H : ((river_line.f k (⟨#[98, 111, 111, 107]⟩ : ByteArray) (([a0_0, (l0_1.length : Int)] : List Int))).bind fun t203 => (river_text.l0 k (([t203] : List ByteArray)) l0_1 (l0_1.length : Int) 0)) = some r := h
 clear h
 obtain ⟨y200, hy200⟩ : ∃ y_ : List Int, y_ = (([a0_0, (l0_1.length : Int)] : List Int)) := ⟨_, rfl⟩
 replace H : ((river_line.f k (⟨#[98, 111, 111, 107]⟩ : ByteArray) y200).bind fun t203 => (river_text.l0 k (([t203] : List ByteArray)) l0_1 (l0_1.length : Int) 0)) = some r := by first | (rw [hy200]; with_reducible exact H) | (have H2_ := (Option.bind_some _ _).symm.trans H; rw [hy200]; with_reducible exact H2_) | (have H2_ := (Option.bind_some _ _).symm.trans H; with_reducible exact H2_) | with_reducible exact H | (rw [hy200]; exact H) | exact H
 have Ny200 := zk hy200
 clear hy200
 replace H := Option.bind_eq_some_iff.mp H
 obtain ⟨t203, A20, H⟩ := H
 replace H : (river_text.l0 k (([t203] : List ByteArray)) l0_1 (l0_1.length : Int) 0) = some r := H
 have A2 := zk A20
 clear A20
 obtain ⟨y204, hy204⟩ : ∃ y_ : List ByteArray, y_ = (([t203] : List ByteArray)) := ⟨_, rfl⟩
 replace H : (river_text.l0 k y204 l0_1 (l0_1.length : Int) 0) = some r := by first | (rw [hy204]; with_reducible exact H) | (have H2_ := (Option.bind_some _ _).symm.trans H; rw [hy204]; with_reducible exact H2_) | (have H2_ := (Option.bind_some _ _).symm.trans H; with_reducible exact H2_) | with_reducible exact H | (rw [hy204]; exact H) | exact H
 have Ny204 := zk hy204
 clear hy204
 have H' := zk H
 clear H
 go_enter Tryz.func122, Tryz.ntmps122
 go_wp2_with (first | ((with_reducible refine gate_dst (N := 1) rfl ?_); refine box_event ?hg (N := 1) ?hd (cs := #[.int .i64 a0_0, .slice A0_1 l0_1.length c0_1]) (t := 24) ?hr ?_; (case hd => rfl); (case hg => rfl); (case hr => first | (go_simp; done) | (go_simp; rfl)); intro gb199 hg w3 hbox hb; have n0_ := zk (below_step (bw HB) hb); have n1_ := zk (hbox); have n2_ := zk ((by rw [hg]; exact (below_size (bw HB)) : w.heap.size ≤ gb199)); have n3_ := zk ((by rw [hg]; exact (below_size (bw HB)) : w.heap.size ≤ gb199)); clear HB; have HB := n0_; have BK199 := n1_; have GW199 := n2_; have GE199 := n3_; clear n0_ n1_ n2_ n3_; clear hb hbox hg; have hcz4_0 : w3.cell? ⟨gb199, 0, none⟩ = some (.int .i64 a0_0) := (blk_cell BK199.out 0).trans rfl; have hcz4_1 : w3.cell? ⟨gb199, 1, none⟩ = some (.slice A0_1 l0_1.length c0_1) := (blk_cell BK199.out 1).trans rfl; have hfz4_0 := blk_frozen BK199.out 0; have hfz4_1 := blk_frozen BK199.out 1) | ((with_reducible refine gate_dst (N := 18) rfl ?_); refine Kd.R_lit (Kd.int .i64) _ 3 ?hg (N := 18) ?hd (xs := ([a0_0, (l0_1.length : Int)] : List Int)) (inner := [.int .i64 a0_0, .int .i64 (l0_1.length : Int)]) (ok := fun _ => True) (okp := fun _ => True) ?hr ?hp (fun _ hk => hk) trivial (Below.refl _ _) (Nat.le_refl _) (by simp) ?_; (case hd => rfl); (case hg => rfl); (case hr => first | (go_simp; done) | (go_simp; rfl)); (case hp => exact (Reps.one (show Kd.M (Kd.int .i64) _ _ _ a0_0 [.int .i64 a0_0] from rfl) (Reps.one (show Kd.M (Kd.int .i64) _ _ _ (l0_1.length : Int) [.int .i64 (l0_1.length : Int)] from rfl) (Reps.none _ _)))); intro v201 w5 ho6 hb hg_ hnew_; clear hg_ hnew_; (first | rw [← Ny200.out] at ho6 | (simp only [Int.reduceToNat] at ho6; rw [← Ny200.out] at ho6)); have n0_ := zk (Kd.R_lower ho6 (below_size (bw1 HB GE199))); have n1_ := zk (blk_below (g := gb199) (o := .cells #[.int .i64 a0_0, .slice A0_1 l0_1.length c0_1] 24 (0, 0)) (bq BK199) hb); have n2_ := zk (below_step (bw1 HB GE199) hb); clear BK199; clear HB; have HO202 := n0_; have BK199 := n1_; have HB := n2_; clear n0_ n1_ n2_; clear hb ho6; obtain ⟨Ao7, co7, eo7⟩ := Kd.R_slice HO202.out; subst eo7) | ((with_reducible refine gate_callee (f := 165) rfl ?_); refine goesL_ (some 19) rfl rfl Tryz.func165 (by kernel_rfl) rfl #[.string (⟨#[98, 111, 111, 107]⟩ : ByteArray), .slice Ao7 y200.length co7] rfl (by (try simp only [List.map_toArray, List.map_cons, List.map_nil]); first | done | rfl | (simp only [List.length_drop, List.length_take]; rfl)) ?_; (with_reducible refine (river_line.calls k (⟨#[98, 111, 111, 107]⟩ : ByteArray) _ _ y200 t203 _ ?side1 ?side2 A2.out).mono ?_); (case side1 => repeat (first | exact (Kd.R_reads' HO202.out).2.2 | (with_reducible refine Kd.C_alloc ?_ _) | (with_reducible refine Kd.C_drewN ?_ _) | (with_reducible refine Kd.C_drew ?_))); (case side2 => exact (Kd.R_reads' HO202.out).2.1); rintro e w8 ⟨rfl, hb⟩; refine ⟨_, rfl, ?_⟩; have n0_ := zk (Kd.R_below (br HO202) hb); have n1_ := zk (blk_below (g := gb199) (o := .cells #[.int .i64 a0_0, .slice A0_1 l0_1.length c0_1] 24 (0, 0)) (bq BK199) hb); have n2_ := zk (below_step (bw1 HB GE199) hb); clear HO202; clear BK199; clear HB; have HO202 := n0_; have BK199 := n1_; have HB := n2_; clear n0_ n1_ n2_; (try clear hb); (try clear hb2); (try clear hk); (try clear hi)) | ((with_reducible refine gate_dst (N := 20) rfl ?_); refine Kd.R_lit Kd.string _ 9 ?hg (N := 20) ?hd (xs := ([t203] : List ByteArray)) (inner := [.string t203]) (ok := fun _ => True) (okp := fun _ => True) ?hr ?hp (fun _ hk => hk) trivial (Below.refl _ _) (Nat.le_refl _) (by simp) ?_; (case hd => rfl); (case hg => rfl); (case hr => first | (go_simp; done) | (go_simp; rfl)); (case hp => exact (Reps.one (show Kd.M Kd.string _ _ _ t203 [.string t203] from rfl) (Reps.none _ _))); intro v205 w9 ho10 hb hg_ hnew_; clear hg_ hnew_; (first | rw [← Ny204.out] at ho10 | (simp only [Int.reduceToNat] at ho10; rw [← Ny204.out] at ho10)); have n0_ := zk (Kd.R_below (br HO202) hb); have n1_ := zk (Kd.R_lower ho10 (below_size (bw1 HB GE199))); have n2_ := zk (blk_below (g := gb199) (o := .cells #[.int .i64 a0_0, .slice A0_1 l0_1.length c0_1] 24 (0, 0)) (bq BK199) hb); have n3_ := zk (below_step (bw1 HB GE199) hb); clear HO202; clear BK199; clear HB; have HO202 := n0_; have HO206 := n1_; have BK199 := n2_; have HB := n3_; clear n0_ n1_ n2_ n3_; clear hb ho10; have hcz11_0 : w9.cell? ⟨gb199, 0, none⟩ = some (.int .i64 a0_0) := (blk_cell BK199.out 0).trans rfl; have hcz11_1 : w9.cell? ⟨gb199, 1, none⟩ = some (.slice A0_1 l0_1.length c0_1) := (blk_cell BK199.out 1).trans rfl; have hfz11_0 := blk_frozen BK199.out 0; have hfz11_1 := blk_frozen BK199.out 1))
 go_loopg [3, 24] k (fun kq v3 v24 w' => ∃ (x3_1 : List ByteArray) (x24_1 : Int), v24 = .int .i64 x24_1 ∧ Aside0 (river_text.l0 kq x3_1 l0_1 (l0_1.length : Int) x24_1 = some r) ∧ Aside0 (kq ≤ k) ∧ Aside0 (Kd.R Kd.string 9 w' w.heap.size (fun _ => True) v3 x3_1) ∧ Aside0 (w'.heap[gb199]? = some (.cells #[.int .i64 a0_0, (.slice A0_1 l0_1.length c0_1)] 24 (0, 0))) ∧ Aside0 (Below w.heap.size w w'))
 case atStart => exact ⟨(y204), (0), (by first | rfl | (simp; done) | (simp [*]; done)), H', ⟨Nat.le_refl _⟩, ⟨by (with_reducible repeat (first | apply Kd.R_alloc | apply Kd.R_drewN | apply Kd.R_drew)); exact HO206.out⟩, ⟨by (with_reducible repeat (first | refine blk_drewN ?_ _ | refine blk_drew ?_ | refine blk_alloc ?_ _)); exact BK199.out⟩, ⟨by repeat (first | (with_reducible first | exact HB.out | apply below_alloc | apply pw_below_drewN | apply below_drew1 | refine below_set ?_ GE199.out) | exact HB.out)⟩⟩
 case round =>
  clear H'
  try clear c1
  try clear p2
  try clear hcz11_0
  try clear hcz11_1
  try clear hcz4_0
  try clear hcz4_1
  try clear hfz11_0
  try clear hfz11_1
  try clear hfz4_0
  try clear hfz4_1
  obtain ⟨x3_1, x24_1, rfl, HA, HK1, HO_3, BK199, HB⟩ := hrel
  cases gk with
  |zero => exact absurd HA.out (by simp [river_text.l0])
  |succ k1 =>
   have H := HA.out
   clear HA
   simp only [river_text.l0] at H
   by_cases c12 : x24_1 < (l0_1.length : Int)
   ·rw [if_pos c12] at H
    have c12b0 : decide (x24_1 < (l0_1.length : Int)) = true := decide_eq_true c12
    clear c12
    by_cases c13 : 0 ≤ x24_1
    ·rw [if_pos c13] at H
     have c13b0 : decide (0 ≤ x24_1) = true := decide_eq_true c13
     clear c13
     by_cases c14 : x24_1 < (l0_1.length : Int)
     ·rw [if_pos c14] at H
      have c14b0 : decide (x24_1 < (l0_1.length : Int)) = true := decide_eq_true c14
      clear c14
      obtain ⟨y209, hy209⟩ : ∃ y_ : List Int, y_ = (([(rd_T43 l0_1 x24_1).f1, (rd_T43 l0_1 x24_1).f2] : List Int)) := ⟨_, rfl⟩
      replace H : (river_text.l1 k1 x3_1 y209 l0_1 (l0_1.length : Int) x24_1 ((rd_T43 l0_1 x24_1).f0) (((rd_T43 l0_1 x24_1).f0).length : Int) 0) = some r := by first | (rw [hy209]; with_reducible exact H) | (have H2_ := (Option.bind_some _ _).symm.trans H; rw [hy209]; with_reducible exact H2_) | (have H2_ := (Option.bind_some _ _).symm.trans H; with_reducible exact H2_) | with_reducible exact H | (rw [hy209]; exact H) | exact H
      have Ny209 := zk hy209
      clear hy209
      have H' := zk H
      clear H
      have p207 : 0 ≤ (x24_1 : Int) := of_decide_eq_true (by first | (with_reducible assumption) | assumption)
      have q207 : x24_1 < (l0_1.length : Int) := of_decide_eq_true (by first | (with_reducible assumption) | assumption)
      obtain ⟨ad207, A207_0, c207_0, e207, hx207_0, hx207_1, hx207_2, hl207_0, hi207_0⟩ := at_T43 HR0_1.out x24_1 p207 q207
      cases e207
      replace hx207_0 := (HB.out.cell (World.block_lt_of_cell? w _ hx207_0)).trans hx207_0
      replace hx207_1 := (HB.out.cell (World.block_lt_of_cell? w _ hx207_1)).trans hx207_1
      replace hx207_2 := (HB.out.cell (World.block_lt_of_cell? w _ hx207_2)).trans hx207_2
      have HR207_0 := zk hi207_0
      have HC207_0 := zk hl207_0
      clear hi207_0 hl207_0
      replace p207 := eq_true p207
      replace q207 := eq_true q207
      go_wp2_with (first | ((with_reducible refine gate_dst (N := 5) rfl ?_); refine box_event ?hg (N := 5) ?hd (cs := #[.slice none 0 0, .int .i64 0, .int .i64 0]) (t := 43) ?hr ?_; (case hd => rfl); (case hg => rfl); (case hr => first | (go_simp; done) | (go_simp; rfl)); intro gb208 hg w15 hbox hb; have n0_ := zk (Kd.R_below (br HO_3) hb); have n1_ := zk (blk_below (g := gb199) (o := .cells #[.int .i64 a0_0, .slice (some ad207) l0_1.length c0_1] 24 (0, 0)) (bq BK199) hb); have n2_ := zk (below_step (bw1 HB GE199) hb); have n3_ := zk (hbox); have n4_ := zk ((by rw [hg]; exact (below_size (bw1 HB GE199)) : w.heap.size ≤ gb208)); have n5_ := zk ((by rw [hg]; exact (below_size (bw1 HB GE199)) : w.heap.size ≤ gb208)); have n6_ := zk ((by rw [hg]; exact Nat.ne_of_lt (blk_lt (g := gb199) (o := .cells #[.int .i64 a0_0, .slice (some ad207) l0_1.length c0_1] 24 (0, 0)) (bq BK199)) : gb199 ≠ gb208)); have n7_ := zk ((by rw [hg]; exact Nat.ne_of_gt (blk_lt (g := gb199) (o := .cells #[.int .i64 a0_0, .slice (some ad207) l0_1.length c0_1] 24 (0, 0)) (bq BK199)) : gb208 ≠ gb199)); clear HO_3; clear BK199; clear HB; have HO_3 := n0_; have BK199 := n1_; have HB := n2_; have BK208 := n3_; have GW208 := n4_; have GE208 := n5_; have NB199_208 := n6_; have NB208_199 := n7_; clear n0_ n1_ n2_ n3_ n4_ n5_ n6_ n7_; clear hb hbox hg; have hnb16 := NB208_199.out; have hnc16 := NB199_208.out; have hcz17_0 : w15.cell? ⟨gb208, 0, none⟩ = some (.slice none 0 0) := (blk_cell BK208.out 0).trans rfl; have hcz17_1 : w15.cell? ⟨gb208, 1, none⟩ = some (.int .i64 0) := (blk_cell BK208.out 1).trans rfl; have hcz17_2 : w15.cell? ⟨gb208, 2, none⟩ = some (.int .i64 0) := (blk_cell BK208.out 2).trans rfl; have hfz17_0 := blk_frozen BK208.out 0; have hfz17_1 := blk_frozen BK208.out 1; have hfz17_2 := blk_frozen BK208.out 2) | ((with_reducible refine gate_dst (N := 32) rfl ?_); refine Kd.R_lit (Kd.int .i64) _ 3 ?hg (N := 32) ?hd (xs := ([(rd_T43 l0_1 x24_1).f1, (rd_T43 l0_1 x24_1).f2] : List Int)) (inner := [.int .i64 ((rd_T43 l0_1 x24_1).f1), .int .i64 ((rd_T43 l0_1 x24_1).f2)]) (ok := fun _ => True) (okp := fun _ => True) ?hr ?hp (fun _ hk => hk) trivial (Below.refl _ _) (Nat.le_refl _) (by simp) ?_; (case hd => rfl); (case hg => rfl); (case hr => first | (go_simp; done) | (go_simp; rfl)); (case hp => exact (Reps.one (show Kd.M (Kd.int .i64) _ _ _ ((rd_T43 l0_1 x24_1).f1) [.int .i64 ((rd_T43 l0_1 x24_1).f1)] from rfl) (Reps.one (show Kd.M (Kd.int .i64) _ _ _ ((rd_T43 l0_1 x24_1).f2) [.int .i64 ((rd_T43 l0_1 x24_1).f2)] from rfl) (Reps.none _ _)))); intro v210 w18 ho19 hb hg_ hnew_; clear hg_ hnew_; (first | rw [← Ny209.out] at ho19 | (simp only [Int.reduceToNat] at ho19; rw [← Ny209.out] at ho19)); have n0_ := zk (Kd.R_below (by (with_reducible repeat (first | apply Kd.R_alloc | apply Kd.R_drewN | apply Kd.R_drew)); exact (Kd.R_mono (Kd.R_far (p := ⟨gb208, 2, none⟩) (Kd.R_far (p := ⟨gb208, 1, none⟩) (Kd.R_far (p := ⟨gb208, 0, none⟩) (Kd.R_types HO_3.out BK208.out (by decide)) (fun _ hk => hk.2) (.slice A207_0 ((rd_T43 l0_1 x24_1).f0).length c207_0)) (fun _ hk => hk.2) (.int .i64 ((rd_T43 l0_1 x24_1).f1))) (fun _ hk => hk.2) (.int .i64 ((rd_T43 l0_1 x24_1).f2))) (fun _ h_ => h_.1))) hb); have n1_ := zk (Kd.R_lower ho19 (below_size (bw2 HB GE199 GE208))); have n2_ := zk (blk_below (g := gb199) (o := .cells #[.int .i64 a0_0, .slice (some ad207) l0_1.length c0_1] 24 (0, 0)) (by (with_reducible repeat (first | refine blk_drewN ?_ _ | refine blk_drew ?_ | refine blk_alloc ?_ _)); refine blk_far ?_ NB199_208.out _; (with_reducible repeat (first | refine blk_drewN ?_ _ | refine blk_drew ?_ | refine blk_alloc ?_ _)); refine blk_far ?_ NB199_208.out _; (with_reducible repeat (first | refine blk_drewN ?_ _ | refine blk_drew ?_ | refine blk_alloc ?_ _)); refine blk_far ?_ NB199_208.out _; (with_reducible repeat (first | refine blk_drewN ?_ _ | refine blk_drew ?_ | refine blk_alloc ?_ _)); exact BK199.out) hb); have n3_ := zk (blk_below (g := gb208) (o := .cells #[.slice A207_0 ((rd_T43 l0_1 x24_1).f0).length c207_0, .int .i64 ((rd_T43 l0_1 x24_1).f1), .int .i64 ((rd_T43 l0_1 x24_1).f2)] 43 (0, 0)) (by (with_reducible repeat (first | refine blk_drewN ?_ _ | refine blk_drew ?_ | refine blk_alloc ?_ _)); refine blk_put (cs := #[.slice A207_0 ((rd_T43 l0_1 x24_1).f0).length c207_0, .int .i64 ((rd_T43 l0_1 x24_1).f1), .int .i64 0]) ?_ 2 _ rfl; (with_reducible repeat (first | refine blk_drewN ?_ _ | refine blk_drew ?_ | refine blk_alloc ?_ _)); refine blk_put (cs := #[.slice A207_0 ((rd_T43 l0_1 x24_1).f0).length c207_0, .int .i64 0, .int .i64 0]) ?_ 1 _ rfl; (with_reducible repeat (first | refine blk_drewN ?_ _ | refine blk_drew ?_ | refine blk_alloc ?_ _)); refine blk_put (cs := #[.slice none 0 0, .int .i64 0, .int .i64 0]) ?_ 0 _ rfl; (with_reducible repeat (first | refine blk_drewN ?_ _ | refine blk_drew ?_ | refine blk_alloc ?_ _)); exact BK208.out) hb); have n4_ := zk (below_step (bw2 HB GE199 GE208) hb); clear HO_3; clear BK199; clear BK208; clear HB; have HO_3 := n0_; have HO211 := n1_; have BK199 := n2_; have BK208 := n3_; have HB := n4_; clear n0_ n1_ n2_ n3_ n4_; clear hb ho19; have hcz20_0 : w18.cell? ⟨gb208, 0, none⟩ = some (.slice A207_0 ((rd_T43 l0_1 x24_1).f0).length c207_0) := (blk_cell BK208.out 0).trans rfl; have hcz20_1 : w18.cell? ⟨gb208, 1, none⟩ = some (.int .i64 ((rd_T43 l0_1 x24_1).f1)) := (blk_cell BK208.out 1).trans rfl; have hcz20_2 : w18.cell? ⟨gb208, 2, none⟩ = some (.int .i64 ((rd_T43 l0_1 x24_1).f2)) := (blk_cell BK208.out 2).trans rfl; have hfz20_0 := blk_frozen BK208.out 0; have hfz20_1 := blk_frozen BK208.out 1; have hfz20_2 := blk_frozen BK208.out 2))
      go_loopg [6, 36] k1 (fun kq v6 v36 w' => ∃ (x6_2 : List Int) (x36_2 : Int), v36 = .int .i64 x36_2 ∧ Aside0 (river_text.l1 kq x3_1 x6_2 l0_1 (l0_1.length : Int) x24_1 ((rd_T43 l0_1 x24_1).f0) (((rd_T43 l0_1 x24_1).f0).length : Int) x36_2 = some r) ∧ Aside0 (kq ≤ k1) ∧ Aside0 (Kd.R Kd.string 9 w' w.heap.size (fun _ => True) u3 x3_1) ∧ Aside0 (Kd.R (Kd.int .i64) 3 w' w.heap.size (fun _ => True) v6 x6_2) ∧ Aside0 (w'.heap[gb199]? = some (.cells #[.int .i64 a0_0, (.slice (some ad207) l0_1.length c0_1)] 24 (0, 0))) ∧ Aside0 (w'.heap[gb208]? = some (.cells #[(.slice A207_0 ((rd_T43 l0_1 x24_1).f0).length c207_0), .int .i64 ((rd_T43 l0_1 x24_1).f1), .int .i64 ((rd_T43 l0_1 x24_1).f2)] 43 (0, 0))) ∧ Aside0 (Below w.heap.size w w'))
      case atStart => exact ⟨(y209), (0), (by first | rfl | (simp; done) | (simp [*]; done)), H', ⟨Nat.le_refl _⟩, ⟨by (with_reducible repeat (first | apply Kd.R_alloc | apply Kd.R_drewN | apply Kd.R_drew)); exact HO_3.out⟩, ⟨by (with_reducible repeat (first | apply Kd.R_alloc | apply Kd.R_drewN | apply Kd.R_drew)); exact HO211.out⟩, ⟨by (with_reducible repeat (first | refine blk_drewN ?_ _ | refine blk_drew ?_ | refine blk_alloc ?_ _)); exact BK199.out⟩, ⟨by (with_reducible repeat (first | refine blk_drewN ?_ _ | refine blk_drew ?_ | refine blk_alloc ?_ _)); exact BK208.out⟩, ⟨by repeat (first | (with_reducible first | exact HB.out | apply below_alloc | apply pw_below_drewN | apply below_drew1 | refine below_set ?_ GE199.out | refine below_set ?_ GE208.out) | exact HB.out)⟩⟩
      case round =>
       clear H'
       try clear c1
       try clear c2
       try clear p2
       try clear q2
       try clear hx2
       try clear c12
       try clear c12b0
       try clear c13
       try clear c13b0
       try clear c14
       try clear c14b0
       try clear c16
       try clear c20
       try clear p20
       try clear q20
       try clear hx20
       try clear hcz11_0
       try clear hcz11_1
       try clear hcz17_0
       try clear hcz17_1
       try clear hcz17_2
       try clear hcz20_0
       try clear hcz20_1
       try clear hcz20_2
       try clear hcz4_0
       try clear hcz4_1
       try clear hfz11_0
       try clear hfz11_1
       try clear hfz17_0
       try clear hfz17_1
       try clear hfz17_2
       try clear hfz20_0
       try clear hfz20_1
       try clear hfz20_2
       try clear hfz4_0
       try clear hfz4_1
       try clear hx207_0
       try clear hx207_1
       try clear hx207_2
       try clear p2
       try clear p207
       try clear q207
       obtain ⟨x6_2, x36_2, rfl, HA, HK2, HO_3, HO_6, BK199, BK208, HB⟩ := hrel
       cases gk with
       |zero => exact absurd HA.out (by simp [river_text.l1])
       |succ k2 =>
        have H := HA.out
        clear HA
        simp only [river_text.l1] at H
        by_cases c21 : x36_2 < (((rd_T43 l0_1 x24_1).f0).length : Int)
        ·rw [if_pos c21] at H
         have c21b0 : decide (x36_2 < (((rd_T43 l0_1 x24_1).f0).length : Int)) = true := decide_eq_true c21
         clear c21
         by_cases c22 : 0 ≤ x36_2
         ·rw [if_pos c22] at H
          have c22b0 : decide (0 ≤ x36_2) = true := decide_eq_true c22
          clear c22
          by_cases c23 : x36_2 < (((rd_T43 l0_1 x24_1).f0).length : Int)
          ·rw [if_pos c23] at H
           have c23b0 : decide (x36_2 < (((rd_T43 l0_1 x24_1).f0).length : Int)) = true := decide_eq_true c23
           clear c23
           obtain ⟨y214, hy214⟩ : ∃ y_ : List Int, y_ = (([(rd_T47 ((rd_T43 l0_1 x24_1).f0) x36_2).f0, (rd_T47 ((rd_T43 l0_1 x24_1).f0) x36_2).f1] : List Int)) := ⟨_, rfl⟩
           replace H : (if x6_2.length + y214.length < 17592186044416 then (river_text.l1 k2 x3_1 (x6_2 ++ y214) l0_1 (l0_1.length : Int) x24_1 ((rd_T43 l0_1 x24_1).f0) (((rd_T43 l0_1 x24_1).f0).length : Int) (wrap64 (x36_2 + 1))) else (none)) = some r := by first | (rw [hy214]; with_reducible exact H) | (have H2_ := (Option.bind_some _ _).symm.trans H; rw [hy214]; with_reducible exact H2_) | (have H2_ := (Option.bind_some _ _).symm.trans H; with_reducible exact H2_) | with_reducible exact H | (rw [hy214]; exact H) | exact H
           have Ny214 := zk hy214
           clear hy214
           by_cases c24 : x6_2.length + y214.length < 17592186044416
           ·rw [if_pos c24] at H
            have LMc24 := zk c24
            clear c24
            obtain ⟨y217, hy217⟩ : ∃ y_ : List Int, y_ = (x6_2 ++ y214) := ⟨_, rfl⟩
            replace H : (river_text.l1 k2 x3_1 y217 l0_1 (l0_1.length : Int) x24_1 ((rd_T43 l0_1 x24_1).f0) (((rd_T43 l0_1 x24_1).f0).length : Int) (wrap64 (x36_2 + 1))) = some r := by first | (rw [hy217]; with_reducible exact H) | (have H2_ := (Option.bind_some _ _).symm.trans H; rw [hy217]; with_reducible exact H2_) | (have H2_ := (Option.bind_some _ _).symm.trans H; with_reducible exact H2_) | with_reducible exact H | (rw [hy217]; exact H) | exact H
            have Ny217 := zk hy217
            clear hy217
            have H' := zk H
            clear H
            have p212 : 0 ≤ (x36_2 : Int) := of_decide_eq_true (by first | (with_reducible assumption) | assumption)
            have q212 : x36_2 < (((rd_T43 l0_1 x24_1).f0).length : Int) := of_decide_eq_true (by first | (with_reducible assumption) | assumption)
            obtain ⟨ad212, e212, hx212_0, hx212_1⟩ := at_T47 HR207_0.out x36_2 p212 q212
            cases e212
            replace hx212_0 := (HB.out.cell (World.block_lt_of_cell? w _ hx212_0)).trans hx212_0
            replace hx212_1 := (HB.out.cell (World.block_lt_of_cell? w _ hx212_1)).trans hx212_1
            replace p212 := eq_true p212
            replace q212 := eq_true q212
            go_wp2_with (first | ((with_reducible refine gate_dst (N := 8) rfl ?_); refine box_event ?hg (N := 8) ?hd (cs := #[.int .i64 0, .int .i64 0]) (t := 47) ?hr ?_; (case hd => rfl); (case hg => rfl); (case hr => first | (go_simp; done) | (go_simp; rfl)); intro gb213 hg w25 hbox hb; have n0_ := zk (Kd.R_below (br HO_3) hb); have n1_ := zk (Kd.R_below (br HO_6) hb); have n2_ := zk (blk_below (g := gb199) (o := .cells #[.int .i64 a0_0, .slice (some ad207) l0_1.length c0_1] 24 (0, 0)) (bq BK199) hb); have n3_ := zk (blk_below (g := gb208) (o := .cells #[.slice (some ad212) ((rd_T43 l0_1 x24_1).f0).length c207_0, .int .i64 ((rd_T43 l0_1 x24_1).f1), .int .i64 ((rd_T43 l0_1 x24_1).f2)] 43 (0, 0)) (bq BK208) hb); have n4_ := zk (below_step (bw2 HB GE199 GE208) hb); have n5_ := zk (hbox); have n6_ := zk ((by rw [hg]; exact (below_size (bw2 HB GE199 GE208)) : w.heap.size ≤ gb213)); have n7_ := zk ((by rw [hg]; exact (below_size (bw2 HB GE199 GE208)) : w.heap.size ≤ gb213)); have n8_ := zk ((by rw [hg]; exact Nat.ne_of_lt (blk_lt (g := gb199) (o := .cells #[.int .i64 a0_0, .slice (some ad207) l0_1.length c0_1] 24 (0, 0)) (bq BK199)) : gb199 ≠ gb213)); have n9_ := zk ((by rw [hg]; exact Nat.ne_of_gt (blk_lt (g := gb199) (o := .cells #[.int .i64 a0_0, .slice (some ad207) l0_1.length c0_1] 24 (0, 0)) (bq BK199)) : gb213 ≠ gb199)); have n10_ := zk ((by rw [hg]; exact Nat.ne_of_lt (blk_lt (g := gb208) (o := .cells #[.slice (some ad212) ((rd_T43 l0_1 x24_1).f0).length c207_0, .int .i64 ((rd_T43 l0_1 x24_1).f1), .int .i64 ((rd_T43 l0_1 x24_1).f2)] 43 (0, 0)) (bq BK208)) : gb208 ≠ gb213)); have n11_ := zk ((by rw [hg]; exact Nat.ne_of_gt (blk_lt (g := gb208) (o := .cells #[.slice (some ad212) ((rd_T43 l0_1 x24_1).f0).length c207_0, .int .i64 ((rd_T43 l0_1 x24_1).f1), .int .i64 ((rd_T43 l0_1 x24_1).f2)] 43 (0, 0)) (bq BK208)) : gb213 ≠ gb208)); clear HO_3; clear HO_6; clear BK199; clear BK208; clear HB; have HO_3 := n0_; have HO_6 := n1_; have BK199 := n2_; have BK208 := n3_; have HB := n4_; have BK213 := n5_; have GW213 := n6_; have GE213 := n7_; have NB199_213 := n8_; have NB213_199 := n9_; have NB208_213 := n10_; have NB213_208 := n11_; clear n0_ n1_ n2_ n3_ n4_ n5_ n6_ n7_ n8_ n9_ n10_ n11_; clear hb hbox hg; have hnb26 := NB213_199.out; have hnc26 := NB199_213.out; have hnb27 := NB213_208.out; have hnc27 := NB208_213.out; have hcz28_0 : w25.cell? ⟨gb213, 0, none⟩ = some (.int .i64 0) := (blk_cell BK213.out 0).trans rfl; have hcz28_1 : w25.cell? ⟨gb213, 1, none⟩ = some (.int .i64 0) := (blk_cell BK213.out 1).trans rfl; have hfz28_0 := blk_frozen BK213.out 0; have hfz28_1 := blk_frozen BK213.out 1) | ((with_reducible refine gate_dst (N := 45) rfl ?_); refine Kd.R_lit (Kd.int .i64) _ 3 ?hg (N := 45) ?hd (xs := ([(rd_T47 ((rd_T43 l0_1 x24_1).f0) x36_2).f0, (rd_T47 ((rd_T43 l0_1 x24_1).f0) x36_2).f1] : List Int)) (inner := [.int .i64 ((rd_T47 ((rd_T43 l0_1 x24_1).f0) x36_2).f0), .int .i64 ((rd_T47 ((rd_T43 l0_1 x24_1).f0) x36_2).f1)]) (ok := fun _ => True) (okp := fun _ => True) ?hr ?hp (fun _ hk => hk) trivial (Below.refl _ _) (Nat.le_refl _) (by simp) ?_; (case hd => rfl); (case hg => rfl); (case hr => first | (go_simp; done) | (go_simp; rfl)); (case hp => exact (Reps.one (show Kd.M (Kd.int .i64) _ _ _ ((rd_T47 ((rd_T43 l0_1 x24_1).f0) x36_2).f0) [.int .i64 ((rd_T47 ((rd_T43 l0_1 x24_1).f0) x36_2).f0)] from rfl) (Reps.one (show Kd.M (Kd.int .i64) _ _ _ ((rd_T47 ((rd_T43 l0_1 x24_1).f0) x36_2).f1) [.int .i64 ((rd_T47 ((rd_T43 l0_1 x24_1).f0) x36_2).f1)] from rfl) (Reps.none _ _)))); intro v215 w29 ho30 hb hg_ hnew_; clear hg_ hnew_; (first | rw [← Ny214.out] at ho30 | (simp only [Int.reduceToNat] at ho30; rw [← Ny214.out] at ho30)); have n0_ := zk (Kd.R_below (by (with_reducible repeat (first | apply Kd.R_alloc | apply Kd.R_drewN | apply Kd.R_drew)); exact (Kd.R_mono (Kd.R_far (p := ⟨gb213, 1, none⟩) (Kd.R_far (p := ⟨gb213, 0, none⟩) (Kd.R_types HO_3.out BK213.out (by decide)) (fun _ hk => hk.2) (.int .i64 ((rd_T47 ((rd_T43 l0_1 x24_1).f0) x36_2).f0))) (fun _ hk => hk.2) (.int .i64 ((rd_T47 ((rd_T43 l0_1 x24_1).f0) x36_2).f1))) (fun _ h_ => h_.1))) hb); have n1_ := zk (Kd.R_elder' (by (with_reducible repeat (first | apply Kd.R_alloc | apply Kd.R_drewN | apply Kd.R_drew)); exact (Kd.R_mono (Kd.R_far (p := ⟨gb213, 1, none⟩) (Kd.R_far (p := ⟨gb213, 0, none⟩) (Kd.R_types HO_6.out BK213.out (by decide)) (fun _ hk => hk.2) (.int .i64 ((rd_T47 ((rd_T43 l0_1 x24_1).f0) x36_2).f0))) (fun _ hk => hk.2) (.int .i64 ((rd_T47 ((rd_T43 l0_1 x24_1).f0) x36_2).f1))) (fun _ h_ => h_.1))) (Kd.R_base ho30) hb); have n2_ := zk (Kd.R_lower (Kd.R_new' ho30 (Kd.R_lt (by (with_reducible repeat (first | apply Kd.R_alloc | apply Kd.R_drewN | apply Kd.R_drew)); exact (Kd.R_mono (Kd.R_far (p := ⟨gb213, 1, none⟩) (Kd.R_far (p := ⟨gb213, 0, none⟩) (Kd.R_types HO_6.out BK213.out (by decide)) (fun _ hk => hk.2) (.int .i64 ((rd_T47 ((rd_T43 l0_1 x24_1).f0) x36_2).f0))) (fun _ hk => hk.2) (.int .i64 ((rd_T47 ((rd_T43 l0_1 x24_1).f0) x36_2).f1))) (fun _ h_ => h_.1))))) (below_size (bw3 HB GE199 GE208 GE213))); have n3_ := zk (blk_below (g := gb199) (o := .cells #[.int .i64 a0_0, .slice (some ad207) l0_1.length c0_1] 24 (0, 0)) (by (with_reducible repeat (first | refine blk_drewN ?_ _ | refine blk_drew ?_ | refine blk_alloc ?_ _)); refine blk_far ?_ NB199_213.out _; (with_reducible repeat (first | refine blk_drewN ?_ _ | refine blk_drew ?_ | refine blk_alloc ?_ _)); refine blk_far ?_ NB199_213.out _; (with_reducible repeat (first | refine blk_drewN ?_ _ | refine blk_drew ?_ | refine blk_alloc ?_ _)); exact BK199.out) hb); have n4_ := zk (blk_below (g := gb208) (o := .cells #[.slice (some ad212) ((rd_T43 l0_1 x24_1).f0).length c207_0, .int .i64 ((rd_T43 l0_1 x24_1).f1), .int .i64 ((rd_T43 l0_1 x24_1).f2)] 43 (0, 0)) (by (with_reducible repeat (first | refine blk_drewN ?_ _ | refine blk_drew ?_ | refine blk_alloc ?_ _)); refine blk_far ?_ NB208_213.out _; (with_reducible repeat (first | refine blk_drewN ?_ _ | refine blk_drew ?_ | refine blk_alloc ?_ _)); refine blk_far ?_ NB208_213.out _; (with_reducible repeat (first | refine blk_drewN ?_ _ | refine blk_drew ?_ | refine blk_alloc ?_ _)); exact BK208.out) hb); have n5_ := zk (blk_below (g := gb213) (o := .cells #[.int .i64 ((rd_T47 ((rd_T43 l0_1 x24_1).f0) x36_2).f0), .int .i64 ((rd_T47 ((rd_T43 l0_1 x24_1).f0) x36_2).f1)] 47 (0, 0)) (by (with_reducible repeat (first | refine blk_drewN ?_ _ | refine blk_drew ?_ | refine blk_alloc ?_ _)); refine blk_put (cs := #[.int .i64 ((rd_T47 ((rd_T43 l0_1 x24_1).f0) x36_2).f0), .int .i64 0]) ?_ 1 _ rfl; (with_reducible repeat (first | refine blk_drewN ?_ _ | refine blk_drew ?_ | refine blk_alloc ?_ _)); refine blk_put (cs := #[.int .i64 0, .int .i64 0]) ?_ 0 _ rfl; (with_reducible repeat (first | refine blk_drewN ?_ _ | refine blk_drew ?_ | refine blk_alloc ?_ _)); exact BK213.out) hb); have n6_ := zk (below_step (bw3 HB GE199 GE208 GE213) hb); clear HO_3; clear HO_6; clear BK199; clear BK208; clear BK213; clear HB; have HO_3 := n0_; have HO_6 := n1_; have HO216 := n2_; have BK199 := n3_; have BK208 := n4_; have BK213 := n5_; have HB := n6_; clear n0_ n1_ n2_ n3_ n4_ n5_ n6_; clear hb ho30; obtain ⟨Ao32, co32, eo32⟩ := Kd.R_slice HO216.out; subst eo32) | ((with_reducible refine gate_builtin (b := .append) (xs := #[.tmp 40, .tmp 45]) rfl ?_); at_builtin; refine Kd.R_append_rows (Kd.int .i64) (w0 := w) w.heap.size rfl (.tmp 40) (.tmp 45) 28 3 (.int .i64 0) 8 rfl Tryz.underlying28 info3 rfl (by decide) (by omega) u6 x6_2 y214 _ _ _ (fun k_ => some k_ ≠ (.slice Ao32 y214.length co32 : Value).ownBlock) (fun _ => False) rfl rfl ?aO ?aR (fun _ _ h => h) (fun _ h => h.elim) ?aF ?aB ?aS ?aL ?_; (case aR => repeat (first | exact (Kd.R_reads' HO216.out).2.2 | (with_reducible refine Kd.C_alloc ?_ _) | (with_reducible refine Kd.C_drewN ?_ _) | (with_reducible refine Kd.C_drew ?_))); (case aB => exact (bw3 HB GE199 GE208 GE213)); (case aF => exact (fun k_ hk => Kd.fresh' (Kd.R_lt (br HO216)) k_ hk)); (case aO => exact (by (with_reducible repeat (first | apply Kd.R_alloc | apply Kd.R_drewN | apply Kd.R_drew)); exact Kd.R_mono HO_6.out (fun _ hk => hk.2))); (case aS => exact (below_size (bw3 HB GE199 GE208 GE213))); (case aL => have := LMc24.out; omega); intro v218 w31 ho hb hg hat; rw [← Ny217.out] at ho; have n0_ := zk (Kd.R_over' (br HO_3) (Kd.R_typed (br HO_6)) (by decide) hg); have n1_ := zk (blk_grown (g := gb199) (o := .cells #[.int .i64 a0_0, .slice (some ad207) l0_1.length c0_1] 24 (0, 0)) (bq BK199) hg (Kd.R_ne HO_6.out BK199.out (by decide))); have n2_ := zk (blk_grown (g := gb208) (o := .cells #[.slice (some ad212) ((rd_T43 l0_1 x24_1).f0).length c207_0, .int .i64 ((rd_T43 l0_1 x24_1).f1), .int .i64 ((rd_T43 l0_1 x24_1).f2)] 43 (0, 0)) (bq BK208) hg (Kd.R_ne HO_6.out BK208.out (by decide))); have n3_ := zk (blk_grown (g := gb213) (o := .cells #[.int .i64 ((rd_T47 ((rd_T43 l0_1 x24_1).f0) x36_2).f0), .int .i64 ((rd_T47 ((rd_T43 l0_1 x24_1).f0) x36_2).f1)] 47 (0, 0)) (bq BK213) hg (Kd.R_ne HO_6.out BK213.out (by decide))); have n4_ := zk (Kd.R_after (ok := (fun _ => True)) (br HO216) hg hat); have n5_ := zk (hb); have n6_ := zk (ho); clear HO_3; clear BK199; clear BK208; clear BK213; clear HO216; clear HB; clear HO_6; have HO_3 := n0_; have BK199 := n1_; have BK208 := n2_; have BK213 := n3_; have HO216 := n4_; have HB := n5_; have HO219 := n6_; clear n0_ n1_ n2_ n3_ n4_ n5_ n6_; clear ho hb hg hat))
            go_roundg k2
            case measure => have := HK1.out; have := HK2.out; omega
            case rel => exact ⟨(y217), (wrap64 (x36_2 + 1)), (by first | rfl | (simp; done) | (simp [*]; done)), H', ⟨by have := HK1.out; have := HK2.out; omega⟩, ⟨by (with_reducible repeat (first | apply Kd.R_alloc | apply Kd.R_drewN | apply Kd.R_drew)); exact HO_3.out⟩, ⟨by (with_reducible repeat (first | apply Kd.R_alloc | apply Kd.R_drewN | apply Kd.R_drew)); exact Kd.R_mono HO219.out (fun _ hk => trivial)⟩, ⟨by (with_reducible repeat (first | refine blk_drewN ?_ _ | refine blk_drew ?_ | refine blk_alloc ?_ _)); exact BK199.out⟩, ⟨by (with_reducible repeat (first | refine blk_drewN ?_ _ | refine blk_drew ?_ | refine blk_alloc ?_ _)); exact BK208.out⟩, ⟨by repeat (first | (with_reducible first | exact HB.out | apply below_alloc | apply pw_below_drewN | apply below_drew1 | refine below_set ?_ GE199.out | refine below_set ?_ GE208.out | refine below_set ?_ GE213.out) | exact HB.out)⟩⟩
           ·rw [if_neg c24] at H
            exact absurd H (by simp)
          ·rw [if_neg c23] at H
           exact absurd H (by simp)
         ·rw [if_neg c22] at H
          exact absurd H (by simp)
        ·rw [if_neg c21] at H
         have c21b0 : decide (x36_2 < (((rd_T43 l0_1 x24_1).f0).length : Int)) = false := decide_eq_false c21
         clear c21
         replace H := Option.bind_eq_some_iff.mp H
         obtain ⟨t220, A330, H⟩ := H
         replace H : (if x3_1.length < 8796093022208 then (river_text.l0 k2 (x3_1 ++ [t220]) l0_1 (l0_1.length : Int) (wrap64 (x24_1 + 1))) else (none)) = some r := H
         have A33 := zk A330
         clear A330
         by_cases c34 : x3_1.length < 8796093022208
         ·rw [if_pos c34] at H
          have LMc34 := zk c34
          clear c34
          obtain ⟨y221, hy221⟩ : ∃ y_ : List ByteArray, y_ = (x3_1 ++ [t220]) := ⟨_, rfl⟩
          replace H : (river_text.l0 k2 y221 l0_1 (l0_1.length : Int) (wrap64 (x24_1 + 1))) = some r := by first | (rw [hy221]; with_reducible exact H) | (have H2_ := (Option.bind_some _ _).symm.trans H; rw [hy221]; with_reducible exact H2_) | (have H2_ := (Option.bind_some _ _).symm.trans H; with_reducible exact H2_) | with_reducible exact H | (rw [hy221]; exact H) | exact H
          have Ny221 := zk hy221
          clear hy221
          have H' := zk H
          clear H
          obtain ⟨Ao35, co35, eo35⟩ := Kd.R_slice HO_6.out
          subst eo35
          go_wp2_with (first | ((with_reducible refine gate_callee (f := 165) rfl ?_); refine goesL_ (some 50) rfl rfl Tryz.func165 (by kernel_rfl) rfl #[.string (⟨#[114, 105, 118, 101, 114]⟩ : ByteArray), .slice Ao35 x6_2.length co35] rfl (by (try simp only [List.map_toArray, List.map_cons, List.map_nil]); first | done | rfl | (simp only [List.length_drop, List.length_take]; rfl)) ?_; (with_reducible refine (river_line.calls k2 (⟨#[114, 105, 118, 101, 114]⟩ : ByteArray) _ _ x6_2 t220 _ ?side1 ?side2 A33.out).mono ?_); (case side1 => repeat (first | exact (Kd.R_reads' HO_6.out).2.2 | (with_reducible refine Kd.C_alloc ?_ _) | (with_reducible refine Kd.C_drewN ?_ _) | (with_reducible refine Kd.C_drew ?_))); (case side2 => exact (Kd.R_reads' HO_6.out).2.1); rintro e w36 ⟨rfl, hb⟩; refine ⟨_, rfl, ?_⟩; have n0_ := zk (Kd.R_below (br HO_3) hb); have n1_ := zk (Kd.R_below (br HO_6) hb); have n2_ := zk (blk_below (g := gb199) (o := .cells #[.int .i64 a0_0, .slice (some ad207) l0_1.length c0_1] 24 (0, 0)) (bq BK199) hb); have n3_ := zk (blk_below (g := gb208) (o := .cells #[.slice A207_0 ((rd_T43 l0_1 x24_1).f0).length c207_0, .int .i64 ((rd_T43 l0_1 x24_1).f1), .int .i64 ((rd_T43 l0_1 x24_1).f2)] 43 (0, 0)) (bq BK208) hb); have n4_ := zk (below_step (bw2 HB GE199 GE208) hb); clear HO_3; clear HO_6; clear BK199; clear BK208; clear HB; have HO_3 := n0_; have HO_6 := n1_; have BK199 := n2_; have BK208 := n3_; have HB := n4_; clear n0_ n1_ n2_ n3_ n4_; (try clear hb); (try clear hb2); (try clear hk); (try clear hi)) | ((with_reducible refine gate_builtin (b := .append) (xs := #[.tmp 48, .tmp 51]) rfl ?_); at_builtin; refine Kd.R_append Kd.string (w0 := w) w.heap.size rfl (.tmp 48) (.tmp 51) 192 9 (.string ⟨#[]⟩) 16 rfl Tryz.underlying192 info9 rfl (by decide) (by omega) u3 x3_1 t220 [.string t220] (fun _ => True) (fun _ => False) rfl rfl ?aP (fun _ hk => hk.elim) ?aF ?aO ?aB ?aS ?aL ?_; (case aP => exact rfl); (case aB => exact (bw2 HB GE199 GE208)); (case aF => exact (fun _ _ => trivial)); (case aO => exact (br HO_3)); (case aS => exact (below_size (bw2 HB GE199 GE208))); (case aL => have := LMc34.out; omega); intro v222 w37 ho hb hg hat; rw [← Ny221.out] at ho; have n0_ := zk (Kd.R_over' (br HO_6) (Kd.R_typed (br HO_3)) (by decide) hg); have n1_ := zk (blk_grown (g := gb199) (o := .cells #[.int .i64 a0_0, .slice (some ad207) l0_1.length c0_1] 24 (0, 0)) (bq BK199) hg (Kd.R_ne HO_3.out BK199.out (by decide))); have n2_ := zk (blk_grown (g := gb208) (o := .cells #[.slice A207_0 ((rd_T43 l0_1 x24_1).f0).length c207_0, .int .i64 ((rd_T43 l0_1 x24_1).f1), .int .i64 ((rd_T43 l0_1 x24_1).f2)] 43 (0, 0)) (bq BK208) hg (Kd.R_ne HO_3.out BK208.out (by decide))); have n3_ := zk (hb); have n4_ := zk (ho); clear HO_6; clear BK199; clear BK208; clear HB; clear HO_3; have HO_6 := n0_; have BK199 := n1_; have BK208 := n2_; have HB := n3_; have HO223 := n4_; clear n0_ n1_ n2_ n3_ n4_; clear ho hb hg hat))
          go_roundg k2
          case measure => have := HK1.out; have := HK2.out; omega
          case rel => exact ⟨(y221), (wrap64 (x24_1 + 1)), (by first | rfl | (simp; done) | (simp [*]; done)), H', ⟨by have := HK1.out; have := HK2.out; omega⟩, ⟨by (with_reducible repeat (first | apply Kd.R_alloc | apply Kd.R_drewN | apply Kd.R_drew)); exact HO223.out⟩, ⟨by (with_reducible repeat (first | refine blk_drewN ?_ _ | refine blk_drew ?_ | refine blk_alloc ?_ _)); exact BK199.out⟩, ⟨by repeat (first | (with_reducible first | exact HB.out | apply below_alloc | apply pw_below_drewN | apply below_drew1 | refine below_set ?_ GE199.out | refine below_set ?_ GE208.out) | exact HB.out)⟩⟩
         ·rw [if_neg c34] at H
          exact absurd H (by simp)
     ·rw [if_neg c14] at H
      exact absurd H (by simp)
    ·rw [if_neg c13] at H
     exact absurd H (by simp)
   ·rw [if_neg c12] at H
    have c12b0 : decide (x24_1 < (l0_1.length : Int)) = false := decide_eq_false c12
    clear c12
    have H' := zk H
    clear H
    obtain ⟨Ao38, co38, eo38⟩ := Kd.R_slice HO_3.out
    subst eo38
    go_wp2
    go_loopg [9, 56] k1 (fun kq v9 v56 w' => ∃ (x9_2 : Int) (x56_2 : Int), v9 = .int .i64 x9_2 ∧ v56 = .int .i64 x56_2 ∧ Aside0 (river_text.l2 kq x3_1 x9_2 x3_1 (x3_1.length : Int) x56_2 = some r) ∧ Aside0 (kq ≤ k1) ∧ Aside0 (Kd.R Kd.string 9 w' w.heap.size (fun _ => True) (.slice Ao38 x3_1.length co38) x3_1) ∧ Aside0 (Kd.R Kd.string 9 w' w.heap.size (fun _ => True) (.slice Ao38 x3_1.length co38) x3_1) ∧ Aside0 (w'.heap[gb199]? = some (.cells #[.int .i64 a0_0, (.slice A0_1 l0_1.length c0_1)] 24 (0, 0))) ∧ Aside0 (Below w.heap.size w w'))
    case atStart => exact ⟨(0), (0), (by first | rfl | (simp; done) | (simp [*]; done)), (by first | rfl | (simp; done) | (simp [*]; done)), H', ⟨Nat.le_refl _⟩, ⟨by (with_reducible repeat (first | apply Kd.R_alloc | apply Kd.R_drewN | apply Kd.R_drew)); exact HO_3.out⟩, ⟨by (with_reducible repeat (first | apply Kd.R_alloc | apply Kd.R_drewN | apply Kd.R_drew)); exact HO_3.out⟩, ⟨by (with_reducible repeat (first | refine blk_drewN ?_ _ | refine blk_drew ?_ | refine blk_alloc ?_ _)); exact BK199.out⟩, ⟨by repeat (first | (with_reducible first | exact HB.out | apply below_alloc | apply pw_below_drewN | apply below_drew1 | refine below_set ?_ GE199.out) | exact HB.out)⟩⟩
    case round =>
     clear H'
     try clear c1
     try clear c2
     try clear p2
     try clear q2
     try clear hx2
     try clear c3
     try clear p6
     try clear c12
     try clear c12b0
     try clear c13
     try clear c13b0
     try clear c14
     try clear c14b0
     try clear c16
     try clear c20
     try clear p20
     try clear q20
     try clear hx20
     try clear c21
     try clear c21b0
     try clear p21
     try clear q21
     try clear hx21
     try clear c22
     try clear c22b0
     try clear c23
     try clear c23b0
     try clear c24
     try clear c26
     try clear c27
     try clear c34
     try clear hcz11_0
     try clear hcz11_1
     try clear hcz17_0
     try clear hcz17_1
     try clear hcz17_2
     try clear hcz20_0
     try clear hcz20_1
     try clear hcz20_2
     try clear hcz28_0
     try clear hcz28_1
     try clear hcz4_0
     try clear hcz4_1
     try clear hfz11_0
     try clear hfz11_1
     try clear hfz17_0
     try clear hfz17_1
     try clear hfz17_2
     try clear hfz20_0
     try clear hfz20_1
     try clear hfz20_2
     try clear hfz28_0
     try clear hfz28_1
     try clear hfz4_0
     try clear hfz4_1
     try clear hx207_0
     try clear hx207_1
     try clear hx207_2
     try clear hx212_0
     try clear hx212_1
     try clear p2
     try clear p20
     try clear p207
     try clear p212
     try clear q2
     try clear q20
     try clear q207
     try clear q212
     obtain ⟨x9_2, x56_2, rfl, rfl, HA, HK2, HO_3, HO_54, BK199, HB⟩ := hrel
     cases gk with
     |zero => exact absurd HA.out (by simp [river_text.l2])
     |succ k2 =>
      have H := HA.out
      clear HA
      simp only [river_text.l2] at H
      by_cases c39 : x56_2 < (x3_1.length : Int)
      ·rw [if_pos c39] at H
       have c39b0 : decide (x56_2 < (x3_1.length : Int)) = true := decide_eq_true c39
       clear c39
       by_cases c40 : 0 ≤ x56_2
       ·rw [if_pos c40] at H
        have c40b0 : decide (0 ≤ x56_2) = true := decide_eq_true c40
        clear c40
        by_cases c41 : x56_2 < (x3_1.length : Int)
        ·rw [if_pos c41] at H
         have c41b0 : decide (x56_2 < (x3_1.length : Int)) = true := decide_eq_true c41
         clear c41
         have H' := zk H
         clear H
         have p224 : 0 ≤ (x56_2 : Int) := of_decide_eq_true (by first | (with_reducible assumption) | assumption)
         have q224 : x56_2 < (x3_1.length : Int) := of_decide_eq_true (by first | (with_reducible assumption) | assumption)
         obtain ⟨ad224, e224, hx224_0⟩ := Kd.at_string (Kd.R_reads' HO_54.out).2.2 x56_2 p224 q224
         cases e224
         replace p224 := eq_true p224
         replace q224 := eq_true q224
         go_wp2
         go_loopg [9, 63] k2 (fun kq v9 v63 w' => ∃ (x9_3 : Int) (x63_3 : Int), v9 = .int .i64 x9_3 ∧ v63 = .int .i64 x63_3 ∧ Aside0 (river_text.l3 kq x3_1 x9_3 x56_2 (rdOf ByteArray.empty x3_1 x56_2) x3_1 (x3_1.length : Int) x56_2 ((rdOf ByteArray.empty x3_1 x56_2).size : Int) x63_3 = some r) ∧ Aside0 (kq ≤ k2) ∧ Aside0 (Kd.R Kd.string 9 w' w.heap.size (fun _ => True) (.slice (some ad224) x3_1.length co38) x3_1) ∧ Aside0 (Kd.R Kd.string 9 w' w.heap.size (fun _ => True) (.slice (some ad224) x3_1.length co38) x3_1) ∧ Aside0 (w'.heap[gb199]? = some (.cells #[.int .i64 a0_0, (.slice A0_1 l0_1.length c0_1)] 24 (0, 0))) ∧ Aside0 (Below w.heap.size w w'))
         case atStart => exact ⟨(x9_2), (0), (by first | rfl | (simp; done) | (simp [*]; done)), (by first | rfl | (simp; done) | (simp [*]; done)), H', ⟨Nat.le_refl _⟩, ⟨by (with_reducible repeat (first | apply Kd.R_alloc | apply Kd.R_drewN | apply Kd.R_drew)); exact HO_3.out⟩, ⟨by (with_reducible repeat (first | apply Kd.R_alloc | apply Kd.R_drewN | apply Kd.R_drew)); exact HO_54.out⟩, ⟨by (with_reducible repeat (first | refine blk_drewN ?_ _ | refine blk_drew ?_ | refine blk_alloc ?_ _)); exact BK199.out⟩, ⟨by repeat (first | (with_reducible first | exact HB.out | apply below_alloc | apply pw_below_drewN | apply below_drew1 | refine below_set ?_ GE199.out) | exact HB.out)⟩⟩
         case round =>
          clear H'
          try clear c1
          try clear c2
          try clear p2
          try clear q2
          try clear hx2
          try clear c3
          try clear c4
          try clear p6
          try clear c12
          try clear c12b0
          try clear c13
          try clear c13b0
          try clear c14
          try clear c14b0
          try clear c16
          try clear c20
          try clear p20
          try clear q20
          try clear hx20
          try clear c21
          try clear c21b0
          try clear p21
          try clear q21
          try clear hx21
          try clear c22
          try clear c22b0
          try clear p22
          try clear q22
          try clear hx22
          try clear c23
          try clear c23b0
          try clear c24
          try clear c26
          try clear c27
          try clear c34
          try clear c39
          try clear c39b0
          try clear c40
          try clear c40b0
          try clear c41
          try clear c41b0
          try clear hcz11_0
          try clear hcz11_1
          try clear hcz17_0
          try clear hcz17_1
          try clear hcz17_2
          try clear hcz20_0
          try clear hcz20_1
          try clear hcz20_2
          try clear hcz28_0
          try clear hcz28_1
          try clear hcz4_0
          try clear hcz4_1
          try clear hfz11_0
          try clear hfz11_1
          try clear hfz17_0
          try clear hfz17_1
          try clear hfz17_2
          try clear hfz20_0
          try clear hfz20_1
          try clear hfz20_2
          try clear hfz28_0
          try clear hfz28_1
          try clear hfz4_0
          try clear hfz4_1
          try clear hx207_0
          try clear hx207_1
          try clear hx207_2
          try clear hx212_0
          try clear hx212_1
          try clear hx224_0
          try clear p2
          try clear p20
          try clear p207
          try clear p21
          try clear p212
          try clear p224
          try clear p6
          try clear q2
          try clear q20
          try clear q207
          try clear q21
          try clear q212
          try clear q224
          obtain ⟨x9_3, x63_3, rfl, rfl, HA, HK3, HO_3, HO_54, BK199, HB⟩ := hrel
          cases gk with
          |zero => exact absurd HA.out (by simp [river_text.l3])
          |succ k3 =>
           have H := HA.out
           clear HA
           simp only [river_text.l3] at H
           by_cases c42 : x63_3 < ((rdOf ByteArray.empty x3_1 x56_2).size : Int)
           ·rw [if_pos c42] at H
            have c42b0 : decide (x63_3 < ((rdOf ByteArray.empty x3_1 x56_2).size : Int)) = true := decide_eq_true c42
            clear c42
            by_cases c43 : 0 ≤ x63_3
            ·rw [if_pos c43] at H
             have c43b0 : decide (0 ≤ x63_3) = true := decide_eq_true c43
             clear c43
             by_cases c44 : x63_3 < ((rdOf ByteArray.empty x3_1 x56_2).size : Int)
             ·rw [if_pos c44] at H
              have c44b0 : decide (x63_3 < ((rdOf ByteArray.empty x3_1 x56_2).size : Int)) = true := decide_eq_true c44
              clear c44
              have H' := zk H
              clear H
              have p45 : 0 ≤ (x63_3 : Int) := of_decide_eq_true (by first | (with_reducible assumption) | assumption)
              have q45 : x63_3 < ((rdOf ByteArray.empty x3_1 x56_2).size : Int) := of_decide_eq_true (by first | (with_reducible assumption) | assumption)
              have hx45 := bt_at (rdOf ByteArray.empty x3_1 x56_2) x63_3
              replace p45 := eq_true p45
              replace q45 := eq_true q45
              go_wp2
              go_roundg k3
              case measure => have := HK1.out; have := HK2.out; have := HK3.out; omega
              case rel => exact ⟨(wrap64 (x9_3 + (wrap64 ((wrap64 ((wrap64 (bt (rdOf ByteArray.empty x3_1 x56_2) x63_3)) * (wrap64 (x63_3 + 1)))) * (wrap64 (x56_2 + 1)))))), (wrap64 (x63_3 + 1)), (by first | rfl | (simp; done) | (simp [*]; done)), (by first | rfl | (simp; done) | (simp [*]; done)), H', ⟨by have := HK1.out; have := HK2.out; have := HK3.out; omega⟩, ⟨by (with_reducible repeat (first | apply Kd.R_alloc | apply Kd.R_drewN | apply Kd.R_drew)); exact HO_3.out⟩, ⟨by (with_reducible repeat (first | apply Kd.R_alloc | apply Kd.R_drewN | apply Kd.R_drew)); exact HO_54.out⟩, ⟨by (with_reducible repeat (first | refine blk_drewN ?_ _ | refine blk_drew ?_ | refine blk_alloc ?_ _)); exact BK199.out⟩, ⟨by repeat (first | (with_reducible first | exact HB.out | apply below_alloc | apply pw_below_drewN | apply below_drew1 | refine below_set ?_ GE199.out) | exact HB.out)⟩⟩
             ·rw [if_neg c44] at H
              exact absurd H (by simp)
            ·rw [if_neg c43] at H
             exact absurd H (by simp)
           ·rw [if_neg c42] at H
            have c42b0 : decide (x63_3 < ((rdOf ByteArray.empty x3_1 x56_2).size : Int)) = false := decide_eq_false c42
            clear c42
            have H' := zk H
            clear H
            go_wp2
            go_roundg k3
            case measure => have := HK1.out; have := HK2.out; have := HK3.out; omega
            case rel => exact ⟨(x9_3), (wrap64 (x56_2 + 1)), (by first | rfl | (simp; done) | (simp [*]; done)), (by first | rfl | (simp; done) | (simp [*]; done)), H', ⟨by have := HK1.out; have := HK2.out; have := HK3.out; omega⟩, ⟨by (with_reducible repeat (first | apply Kd.R_alloc | apply Kd.R_drewN | apply Kd.R_drew)); exact HO_3.out⟩, ⟨by (with_reducible repeat (first | apply Kd.R_alloc | apply Kd.R_drewN | apply Kd.R_drew)); exact HO_54.out⟩, ⟨by (with_reducible repeat (first | refine blk_drewN ?_ _ | refine blk_drew ?_ | refine blk_alloc ?_ _)); exact BK199.out⟩, ⟨by repeat (first | (with_reducible first | exact HB.out | apply below_alloc | apply pw_below_drewN | apply below_drew1 | refine below_set ?_ GE199.out) | exact HB.out)⟩⟩
        ·rw [if_neg c41] at H
         exact absurd H (by simp)
       ·rw [if_neg c40] at H
        exact absurd H (by simp)
      ·rw [if_neg c39] at H
       have c39b0 : decide (x56_2 < (x3_1.length : Int)) = false := decide_eq_false c39
       clear c39
       replace H := Option.bind_eq_some_iff.mp H
       obtain ⟨t225, A460, H⟩ := H
       replace H : (if t225.size + 5 ≤ 9223372036854775807 then ((strconv_Itoa_167.f (wrap64 (Int.tdiv (Int.tmod x9_2 131) 100))).bind fun t226 => (if t225.size + 5 + t226.size ≤ 9223372036854775807 then ((strconv_Itoa_167.f (Int.tmod (wrap64 (Int.tdiv (Int.tmod x9_2 131) 10)) 10)).bind fun t227 => (if t225.size + 5 + t226.size + t227.size ≤ 9223372036854775807 then ((strconv_Itoa_167.f (Int.tmod (Int.tmod x9_2 131) 10)).bind fun t228 => (if t225.size + 5 + t226.size + t227.size + t228.size ≤ 9223372036854775807 then (if t225.size + 5 + t226.size + t227.size + t228.size + 1 ≤ 9223372036854775807 then (some (((((t225 ++ (⟨#[10, 101, 110, 100, 32]⟩ : ByteArray)) ++ t226) ++ t227) ++ t228) ++ (⟨#[10]⟩ : ByteArray))) else (none)) else (none))) else (none))) else (none))) else (none)) = some r := H
       have A46 := zk A460
       clear A460
       by_cases c47 : t225.size + 5 ≤ 9223372036854775807
       ·rw [if_pos c47] at H
        have c47b0 := eq_true c47
        have c47b1 : decide (t225.size + 5 ≤ 9223372036854775807) = true := decide_eq_true c47
        try have c47b2 : (9223372036854775807 < t225.size + 5) = False := eq_false (Nat.not_lt.2 c47)
        replace H := Option.bind_eq_some_iff.mp H
        obtain ⟨t226, A480, H⟩ := H
        replace H : (if t225.size + 5 + t226.size ≤ 9223372036854775807 then ((strconv_Itoa_167.f (Int.tmod (wrap64 (Int.tdiv (Int.tmod x9_2 131) 10)) 10)).bind fun t227 => (if t225.size + 5 + t226.size + t227.size ≤ 9223372036854775807 then ((strconv_Itoa_167.f (Int.tmod (Int.tmod x9_2 131) 10)).bind fun t228 => (if t225.size + 5 + t226.size + t227.size + t228.size ≤ 9223372036854775807 then (if t225.size + 5 + t226.size + t227.size + t228.size + 1 ≤ 9223372036854775807 then (some (((((t225 ++ (⟨#[10, 101, 110, 100, 32]⟩ : ByteArray)) ++ t226) ++ t227) ++ t228) ++ (⟨#[10]⟩ : ByteArray))) else (none)) else (none))) else (none))) else (none)) = some r := H
        have A48 := zk A480
        clear A480
        by_cases c49 : t225.size + 5 + t226.size ≤ 9223372036854775807
        ·rw [if_pos c49] at H
         have c49b0 := eq_true c49
         have c49b1 : decide (t225.size + 5 + t226.size ≤ 9223372036854775807) = true := decide_eq_true c49
         try have c49b2 : (9223372036854775807 < t225.size + 5 + t226.size) = False := eq_false (Nat.not_lt.2 c49)
         replace H := Option.bind_eq_some_iff.mp H
         obtain ⟨t227, A500, H⟩ := H
         replace H : (if t225.size + 5 + t226.size + t227.size ≤ 9223372036854775807 then ((strconv_Itoa_167.f (Int.tmod (Int.tmod x9_2 131) 10)).bind fun t228 => (if t225.size + 5 + t226.size + t227.size + t228.size ≤ 9223372036854775807 then (if t225.size + 5 + t226.size + t227.size + t228.size + 1 ≤ 9223372036854775807 then (some (((((t225 ++ (⟨#[10, 101, 110, 100, 32]⟩ : ByteArray)) ++ t226) ++ t227) ++ t228) ++ (⟨#[10]⟩ : ByteArray))) else (none)) else (none))) else (none)) = some r := H
         have A50 := zk A500
         clear A500
         by_cases c51 : t225.size + 5 + t226.size + t227.size ≤ 9223372036854775807
         ·rw [if_pos c51] at H
          have c51b0 := eq_true c51
          have c51b1 : decide (t225.size + 5 + t226.size + t227.size ≤ 9223372036854775807) = true := decide_eq_true c51
          try have c51b2 : (9223372036854775807 < t225.size + 5 + t226.size + t227.size) = False := eq_false (Nat.not_lt.2 c51)
          replace H := Option.bind_eq_some_iff.mp H
          obtain ⟨t228, A520, H⟩ := H
          replace H : (if t225.size + 5 + t226.size + t227.size + t228.size ≤ 9223372036854775807 then (if t225.size + 5 + t226.size + t227.size + t228.size + 1 ≤ 9223372036854775807 then (some (((((t225 ++ (⟨#[10, 101, 110, 100, 32]⟩ : ByteArray)) ++ t226) ++ t227) ++ t228) ++ (⟨#[10]⟩ : ByteArray))) else (none)) else (none)) = some r := H
          have A52 := zk A520
          clear A520
          by_cases c53 : t225.size + 5 + t226.size + t227.size + t228.size ≤ 9223372036854775807
          ·rw [if_pos c53] at H
           have c53b0 := eq_true c53
           have c53b1 : decide (t225.size + 5 + t226.size + t227.size + t228.size ≤ 9223372036854775807) = true := decide_eq_true c53
           try have c53b2 : (9223372036854775807 < t225.size + 5 + t226.size + t227.size + t228.size) = False := eq_false (Nat.not_lt.2 c53)
           by_cases c54 : t225.size + 5 + t226.size + t227.size + t228.size + 1 ≤ 9223372036854775807
           ·rw [if_pos c54] at H
            have c54b0 := eq_true c54
            have c54b1 : decide (t225.size + 5 + t226.size + t227.size + t228.size + 1 ≤ 9223372036854775807) = true := decide_eq_true c54
            try have c54b2 : (9223372036854775807 < t225.size + 5 + t226.size + t227.size + t228.size + 1) = False := eq_false (Nat.not_lt.2 c54)
            obtain rfl := Option.some.inj H
            go_wp2_with (first | ((with_reducible refine gate_callee (f := 166) rfl ?_); refine goesL_ (some 83) rfl rfl Tryz.func166 (by kernel_rfl) rfl #[.slice Ao38 x3_1.length co38, .string (⟨#[10]⟩ : ByteArray)] rfl (by (try simp only [List.map_toArray, List.map_cons, List.map_nil]); first | done | rfl | (simp only [List.length_drop, List.length_take]; rfl)) ?_; (with_reducible refine (strings_Join.calls _ _ x3_1 (⟨#[10]⟩ : ByteArray) t225 _ ?side1 ?side2 A46.out).mono ?_); (case side1 => repeat (first | exact (Kd.R_reads' HO_3.out).2.2 | (with_reducible refine Kd.C_alloc ?_ _) | (with_reducible refine Kd.C_drewN ?_ _) | (with_reducible refine Kd.C_drew ?_))); (case side2 => exact (Kd.R_reads' HO_3.out).2.1); rintro e w55 ⟨rfl, hb⟩; refine ⟨_, rfl, ?_⟩; have n0_ := zk (Kd.R_below (br HO_3) hb); have n1_ := zk (Kd.R_below (br HO_54) hb); have n2_ := zk (blk_below (g := gb199) (o := .cells #[.int .i64 a0_0, .slice A0_1 l0_1.length c0_1] 24 (0, 0)) (bq BK199) hb); have n3_ := zk (below_step (bw1 HB GE199) hb); clear HO_3; clear HO_54; clear BK199; clear HB; have HO_3 := n0_; have HO_54 := n1_; have BK199 := n2_; have HB := n3_; clear n0_ n1_ n2_ n3_; (try clear hb); (try clear hb2); (try clear hk); (try clear hi)) | ((with_reducible refine gate_callee (f := 167) rfl ?_); refine goesL_ (some 87) rfl rfl Tryz.func167 (by kernel_rfl) rfl #[.int .i64 (wrap64 (Int.tdiv (Int.tmod x9_2 131) 100))] rfl (by (try simp only [List.map_toArray, List.map_cons, List.map_nil]); first | done | rfl | (simp only [List.length_drop, List.length_take]; rfl)) ?_; (with_reducible refine (strconv_Itoa_167.calls (wrap64 (Int.tdiv (Int.tmod x9_2 131) 100)) t226 _ A48.out).mono ?_); rintro e w56 ⟨rfl, hb⟩; refine ⟨_, rfl, ?_⟩; have n0_ := zk (Kd.R_below (br HO_3) hb); have n1_ := zk (Kd.R_below (br HO_54) hb); have n2_ := zk (blk_below (g := gb199) (o := .cells #[.int .i64 a0_0, .slice A0_1 l0_1.length c0_1] 24 (0, 0)) (bq BK199) hb); have n3_ := zk (below_step (bw1 HB GE199) hb); clear HO_3; clear HO_54; clear BK199; clear HB; have HO_3 := n0_; have HO_54 := n1_; have BK199 := n2_; have HB := n3_; clear n0_ n1_ n2_ n3_; (try clear hb); (try clear hb2); (try clear hk); (try clear hi)) | ((with_reducible refine gate_callee (f := 167) rfl ?_); refine goesL_ (some 92) rfl rfl Tryz.func167 (by kernel_rfl) rfl #[.int .i64 (Int.tmod (wrap64 (Int.tdiv (Int.tmod x9_2 131) 10)) 10)] rfl (by (try simp only [List.map_toArray, List.map_cons, List.map_nil]); first | done | rfl | (simp only [List.length_drop, List.length_take]; rfl)) ?_; (with_reducible refine (strconv_Itoa_167.calls (Int.tmod (wrap64 (Int.tdiv (Int.tmod x9_2 131) 10)) 10) t227 _ A50.out).mono ?_); rintro e w57 ⟨rfl, hb⟩; refine ⟨_, rfl, ?_⟩; have n0_ := zk (Kd.R_below (br HO_3) hb); have n1_ := zk (Kd.R_below (br HO_54) hb); have n2_ := zk (blk_below (g := gb199) (o := .cells #[.int .i64 a0_0, .slice A0_1 l0_1.length c0_1] 24 (0, 0)) (bq BK199) hb); have n3_ := zk (below_step (bw1 HB GE199) hb); clear HO_3; clear HO_54; clear BK199; clear HB; have HO_3 := n0_; have HO_54 := n1_; have BK199 := n2_; have HB := n3_; clear n0_ n1_ n2_ n3_; (try clear hb); (try clear hb2); (try clear hk); (try clear hi)) | ((with_reducible refine gate_callee (f := 167) rfl ?_); refine goesL_ (some 96) rfl rfl Tryz.func167 (by kernel_rfl) rfl #[.int .i64 (Int.tmod (Int.tmod x9_2 131) 10)] rfl (by (try simp only [List.map_toArray, List.map_cons, List.map_nil]); first | done | rfl | (simp only [List.length_drop, List.length_take]; rfl)) ?_; (with_reducible refine (strconv_Itoa_167.calls (Int.tmod (Int.tmod x9_2 131) 10) t228 _ A52.out).mono ?_); rintro e w58 ⟨rfl, hb⟩; refine ⟨_, rfl, ?_⟩; have n0_ := zk (Kd.R_below (br HO_3) hb); have n1_ := zk (Kd.R_below (br HO_54) hb); have n2_ := zk (blk_below (g := gb199) (o := .cells #[.int .i64 a0_0, .slice A0_1 l0_1.length c0_1] 24 (0, 0)) (bq BK199) hb); have n3_ := zk (below_step (bw1 HB GE199) hb); clear HO_3; clear HO_54; clear BK199; clear HB; have HO_3 := n0_; have HO_54 := n1_; have BK199 := n2_; have HB := n3_; clear n0_ n1_ n2_ n3_; (try clear hb); (try clear hb2); (try clear hk); (try clear hi)))
            go_ret
            exact ⟨by first | rfl | (simp [errW_none, errW_some] <;> rfl) | (simp [*, errW_none, errW_some] <;> rfl), by repeat (first | (with_reducible first | exact HB.out | apply below_alloc | apply pw_below_drewN | apply below_drew1 | refine below_set ?_ GE199.out) | exact HB.out)⟩
           ·rw [if_neg c54] at H
            exact absurd H (by simp)
          ·rw [if_neg c53] at H
           exact absurd H (by simp)
         ·rw [if_neg c51] at H
          exact absurd H (by simp)
        ·rw [if_neg c49] at H
         exact absurd H (by simp)
       ·rw [if_neg c47] at H
        exact absurd H (by simp)
end Go.Proofs.YtfijblhfgfefoaaGreatDoor.PAll
end
