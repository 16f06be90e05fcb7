/- A part of the proof: words, contracts of functions, and their walks. -/
import Derived.Test.YtfijblhfgfefoaaGreatDoorQLess3
import Derived.Test.YtfijblhfgfefoaaGreatDoorQLess7
set_option linter.unusedVariables false
set_option linter.unusedSimpArgs false
section
namespace Go.Proofs.YtfijblhfgfefoaaGreatDoor.Rv
open Go.RowKit Go.Shelf Go.IntWalk Go.Proofs.YtfijblhfgfefoaaGreatDoor.PAll Go.Proofs.YtfijblhfgfefoaaGreatDoorW.PrintWords Go.Proofs.YtfijblhfgfefoaaGreatDoorW.PrintLast
theorem isRiver_calls (years n : Int) (A : Option Addr) (c k : Nat) (w : World) (hk : k ≤ 9223372036854775807) :
 Calls Tryz.prog 96 #[.agg #[.int .i64 years, .slice A k c], .int .i64 n] w fun e w' => e = .returned (.bool (inB n 0 ((k : Int) - 1))) ∧ w' = w.alloc (.cells #[.int .i64 years, .slice A k c] 24) := by
 go_enter Tryz.func96, Tryz.ntmps96
 go_wp2_with (go_at_call 86; (with_reducible refine (in_calls _ _ _ _).mono ?_); rintro e w' ⟨rfl, rfl⟩)
 go_ret
 exact ⟨rfl, rfl⟩
theorem isYear_calls (years n : Int) (hy : 1 ≤ years ∧ years ≤ 6) (A : Option Addr) (c k : Nat) (w : World) :
 Calls Tryz.prog 97 #[.agg #[.int .i64 years, .slice A k c], .int .i64 n] w fun e w' => e = .returned (.bool (inB n 0 (years - 1))) ∧ w' = w.alloc (.cells #[.int .i64 years, .slice A k c] 24) := by
 obtain ⟨h1, h2⟩ := hy
 go_enter Tryz.func97, Tryz.ntmps97
 go_wp2_with (go_at_call 86; (with_reducible refine (in_calls _ _ _ _).mono ?_); rintro e w' ⟨rfl, rfl⟩)
 go_ret
 exact ⟨rfl, rfl⟩
def badLicence (years : Int) (k : Nat) (x : S114) : Bool := !(inB x.f0 0 ((k : Int) - 1)) || !(inB x.f1 0 (years - 1)) || !(inB x.f2 0 (years - 1)) || decide (x.f2 < x.f1) || !(inB x.f3 0 100)
set_option maxRecDepth 100000 in
set_option maxHeartbeats 2000000 in
theorem badLicence_pred (years : Int) (hy : 1 ≤ years ∧ years ≤ 6) (k c0 : Nat) (hk : k ≤ 9223372036854775807) (A0 : Option Addr) (B : Nat) (l : List S114) (w : World) (h0 : w.cell? ⟨B, 0, none⟩ = some (.int .i64 years)) (h1 : w.cell? ⟨B, 1, none⟩ = some (.slice A0 k c0)) :
 PredK k114 155 #[.pointer (some ⟨B, 0, none⟩)] (badLicence years k) l w := by
 intro W x cs _ hb hK
 obtain rfl := k114_open hK
 have hB : B < w.heap.size := World.block_lt_of_cell? w ⟨B, 0, none⟩ h0
 replace h0 := (hb.cell (p := ⟨B, 0, none⟩) hB).trans h0
 replace h1 := (hb.cell (p := ⟨B, 1, none⟩) hB).trans h1
 have hB2 : B < W.heap.size := World.block_lt_of_cell? W ⟨B, 0, none⟩ h0
 have hB3 : B < W.heap.size + 1 := by omega
 have hB4 : B < W.heap.size + 1 + 1 := by omega
 have hB5 : B < W.heap.size + 1 + 1 + 1 := by omega
 show Calls Tryz.prog 155 #[.agg #[.int .i64 x.f0, .int .i64 x.f1, .int .i64 x.f2, .int .i64 x.f3], .pointer (some ⟨B, 0, none⟩)] W _
 clear hb hB hK
 have hu := Tryz.underlying24
 obtain ⟨q, hq⟩ : ∃ q, q = badLicence years k x := ⟨_, rfl⟩
 have hqd : badLicence years k x = (!(inB x.f0 0 ((k : Int) - 1)) || !(inB x.f1 0 (years - 1)) || !(inB x.f2 0 (years - 1)) || decide (x.f2 < x.f1) || !(inB x.f3 0 100)) := rfl
 rw [← hq] at hqd ⊢
 have Q := zk hqd
 clear hq hqd
 go_enter Tryz.func155, Tryz.ntmps155
 go_wp2_with (first | (go_at_call 86; (with_reducible refine (in_calls _ _ _ _).mono ?_); rintro e w' ⟨rfl, rfl⟩) | (go_at_call 96; (with_reducible refine (isRiver_calls _ _ _ _ _ _ hk).mono ?_); rintro e w' ⟨rfl, rfl⟩) | (go_at_call 97; (with_reducible refine (isYear_calls _ _ hy _ _ _ _).mono ?_); rintro e w' ⟨rfl, rfl⟩))
 all_goals
  go_ret
  refine ⟨ret_bool (by rw [Q.out]; first | (simp [*]; done) | (simp [*]; omega)), bl0⟩
def badTake (years : Int) (k : Nat) (x : S174) : Bool := !(inB x.f0 0 ((k : Int) - 1)) || !(inB x.f1.f0 0 (years - 1)) || !(inB x.f1.f1 0 (years - 1)) || decide (x.f1.f1 < x.f1.f0) || !(inB x.f2 0 100)
set_option maxRecDepth 100000 in
set_option maxHeartbeats 2000000 in
theorem badTake_pred (years : Int) (hy : 1 ≤ years ∧ years ≤ 6) (k c0 : Nat) (hk : k ≤ 9223372036854775807) (A0 : Option Addr) (B : Nat) (l : List S174) (w : World) (h0 : w.cell? ⟨B, 0, none⟩ = some (.int .i64 years)) (h1 : w.cell? ⟨B, 1, none⟩ = some (.slice A0 k c0)) :
 PredK k174 157 #[.pointer (some ⟨B, 0, none⟩)] (badTake years k) l w := by
 intro W x cs _ hb hK
 obtain rfl := k174_open hK
 have hB : B < w.heap.size := World.block_lt_of_cell? w ⟨B, 0, none⟩ h0
 replace h0 := (hb.cell (p := ⟨B, 0, none⟩) hB).trans h0
 replace h1 := (hb.cell (p := ⟨B, 1, none⟩) hB).trans h1
 have hB2 : B < W.heap.size := World.block_lt_of_cell? W ⟨B, 0, none⟩ h0
 have hB3 : B < W.heap.size + 1 := by omega
 have hB4 : B < W.heap.size + 1 + 1 := by omega
 have hB5 : B < W.heap.size + 1 + 1 + 1 := by omega
 show Calls Tryz.prog 157 #[.agg #[.int .i64 x.f0, .int .i64 x.f1.f0, .int .i64 x.f1.f1, .int .i64 x.f2], .pointer (some ⟨B, 0, none⟩)] W _
 clear hb hB hK
 have hu := Tryz.underlying24
 have hu47 := Tryz.underlying47
 obtain ⟨q, hq⟩ : ∃ q, q = badTake years k x := ⟨_, rfl⟩
 have hqd : badTake years k x = (!(inB x.f0 0 ((k : Int) - 1)) || !(inB x.f1.f0 0 (years - 1)) || !(inB x.f1.f1 0 (years - 1)) || decide (x.f1.f1 < x.f1.f0) || !(inB x.f2 0 100)) := rfl
 rw [← hq] at hqd ⊢
 have Q := zk hqd
 clear hq hqd
 go_enter Tryz.func157, Tryz.ntmps157
 go_wp2_with (first | (go_at_call 86; (with_reducible refine (in_calls _ _ _ _).mono ?_); rintro e w' ⟨rfl, rfl⟩) | (go_at_call 96; (with_reducible refine (isRiver_calls _ _ _ _ _ _ hk).mono ?_); rintro e w' ⟨rfl, rfl⟩) | (go_at_call 97; (with_reducible refine (isYear_calls _ _ hy _ _ _ _).mono ?_); rintro e w' ⟨rfl, rfl⟩))
 all_goals
  go_ret
  refine ⟨ret_bool (by rw [Q.out]; first | (simp [*]; done) | (simp [*]; omega)), bl0⟩
def areLicencesB (years : Int) (k : Nat) (l : List S114) : Bool := decide ((l.length : Int) ≤ 4) && !(l.any (badLicence years k))
set_option maxRecDepth 100000 in
set_option maxHeartbeats 1000000 in
theorem areLicences_calls (years : Int) (hy : 1 ≤ years ∧ years ≤ 6) (A0 : Option Addr) (k c0 : Nat) (hk : k ≤ 9223372036854775807) (A : Option Addr) (c : Nat) (l : List S114) (w : World) (hr : Kd.C k114 w A l.length l) :
 Calls Tryz.prog 107 #[.agg #[.int .i64 years, .slice A0 k c0], .slice A l.length c] w fun e w' => e = .returned (.bool (areLicencesB years k l)) ∧ Below w.heap.size w w' := by
 have HR := zk hr
 clear hr
 obtain ⟨q, hq⟩ : ∃ q, q = areLicencesB years k l := ⟨_, rfl⟩
 have hqd : areLicencesB years k l = (decide ((l.length : Int) ≤ 4) && !(l.any (badLicence years k))) := rfl
 rw [← hq] at hqd ⊢
 have Q := zk hqd
 clear hq hqd
 have HC := zk (fun (W : World) (h1 : Kd.C k114 W A l.length l) (h2 : W.cell? ⟨w.heap.size, 0, none⟩ = some (.int .i64 years)) (h3 : W.cell? ⟨w.heap.size, 1, none⟩ = some (.slice A0 k c0)) => cont154 155 #[.pointer (some ⟨w.heap.size, 0, none⟩)] (enters_of Tryz.func155 (by kernel_rfl) rfl) (badLicence years k) A c l W h1 (badLicence_pred years hy k c0 hk A0 _ l W h2 h3))
 clear hy hk
 generalize l.any (badLicence years k) = b at *
 go_enter Tryz.func107, Tryz.ntmps107
 go_wp2_with (go_at_call 154; ((with_reducible refine (HC.out _ (Kd.C_alloc HR.out _) (by simp) (by simp)).mono ?_); rintro e w' ⟨rfl, hb⟩))
 all_goals
  go_ret
  refine ⟨ret_bool (by rw [Q.out]; first | (simp [*]; done) | (simp [*]; omega)), ?_⟩
  first | exact below1 _ | exact bt (below1 _) hb
def areTakesB (years : Int) (k : Nat) (l : List S174) : Bool := decide ((l.length : Int) ≤ 6) && !(l.any (badTake years k))
set_option maxRecDepth 100000 in
set_option maxHeartbeats 1000000 in
theorem areTakes_calls (years : Int) (hy : 1 ≤ years ∧ years ≤ 6) (A0 : Option Addr) (k c0 : Nat) (hk : k ≤ 9223372036854775807) (A : Option Addr) (c : Nat) (l : List S174) (w : World) (hr : Kd.C k174 w A l.length l) :
 Calls Tryz.prog 108 #[.agg #[.int .i64 years, .slice A0 k c0], .slice A l.length c] w fun e w' => e = .returned (.bool (areTakesB years k l)) ∧ Below w.heap.size w w' := by
 have HR := zk hr
 clear hr
 obtain ⟨q, hq⟩ : ∃ q, q = areTakesB years k l := ⟨_, rfl⟩
 have hqd : areTakesB years k l = (decide ((l.length : Int) ≤ 6) && !(l.any (badTake years k))) := rfl
 rw [← hq] at hqd ⊢
 have Q := zk hqd
 clear hq hqd
 have HC := zk (fun (W : World) (h1 : Kd.C k174 W A l.length l) (h2 : W.cell? ⟨w.heap.size, 0, none⟩ = some (.int .i64 years)) (h3 : W.cell? ⟨w.heap.size, 1, none⟩ = some (.slice A0 k c0)) => cont156 157 #[.pointer (some ⟨w.heap.size, 0, none⟩)] (enters_of Tryz.func157 (by kernel_rfl) rfl) (badTake years k) A c l W h1 (badTake_pred years hy k c0 hk A0 _ l W h2 h3))
 clear hy hk
 generalize l.any (badTake years k) = b at *
 go_enter Tryz.func108, Tryz.ntmps108
 go_wp2_with (go_at_call 156; ((with_reducible refine (HC.out _ (Kd.C_alloc HR.out _) (by simp) (by simp)).mono ?_); rintro e w' ⟨rfl, hb⟩))
 all_goals
  go_ret
  refine ⟨ret_bool (by rw [Q.out]; first | (simp [*]; done) | (simp [*]; omega)), ?_⟩
  first | exact below1 _ | exact bt (below1 _) hb
end Go.Proofs.YtfijblhfgfefoaaGreatDoor.Rv
end
section
namespace Go.Proofs.YtfijblhfgfefoaaGreatDoor.PAll
open Go.RowKit Go.Proofs.YtfijblhfgfefoaaGreatDoorW.PrintWords Go.Proofs.YtfijblhfgfefoaaGreatDoorW.PrintLast Go.Proofs.YtfijblhfgfefoaaGreatDoorW.PrintMore
attribute [local go_sem] max2_int min2_int max_two min_two max_three min_three max_four min_four
theorem eqA27 (d : Nat) (w : World) (x0 y0 : Int) (x1 y1 : Int) :
 (Op.equalIn (d + 2) 27 (.agg #[.int .i64 x0, .int .i64 x1]) (.agg #[.int .i64 y0, .int .i64 y1])).run Tryz.prog w = .ok (x0 == y0 && (x1 == y1)) w := by
 refine eqA_of Tryz.underlying27 (by kernel_rfl) ?_
 refine eqf_cons (by rfl) (by go_simp; rfl) (by go_simp; rfl) (by go_simp) ?_
 exact eqf_last (by rfl) (by go_simp; rfl) (by go_simp; rfl) (by go_simp)
end Go.Proofs.YtfijblhfgfefoaaGreatDoor.PAll
end
