/- A part of the proof: words, contracts of functions, and their walks. -/
import Derived.Test.YtfijblhfgfefoaaGreatDoorQLess3
import Derived.Test.YtfijblhfgfefoaaGreatDoorQLess8
import Derived.Test.YtfijblhfgfefoaaGreatDoorQLess16
import Derived.Test.YtfijblhfgfefoaaGreatDoorQLess17
import Derived.Test.YtfijblhfgfefoaaGreatDoorQLess18
set_option linter.unusedVariables false
set_option linter.unusedSimpArgs false
section
namespace Go.Proofs.YtfijblhfgfefoaaGreatDoor.Rv
open Go.RowKit Go.Shelf Go.IntWalk Go.Proofs.YtfijblhfgfefoaaGreatDoor.PAll Go.Proofs.YtfijblhfgfefoaaGreatDoorW.PrintWords Go.Proofs.YtfijblhfgfefoaaGreatDoorW.PrintLast
theorem one_good {years : Int} {rivers : List S43} {rings : List Int} {off : Int} (hb : isBookB years rivers = true) (h : isShellB rings off = true) : Good (sk years rivers [⟨rings, off⟩] []) :=
 good_of (by
  unfold goodB
  have h1 : isBookB (sk years rivers [⟨rings, off⟩] []).years (sk years rivers [⟨rings, off⟩] []).rivers = true := hb
  rw [h1]
  simp [sk, h])
theorem mem_oneL {years : Int} {rivers : List S43} {rings : List Int} {off : Int} (hb : isBookB years rivers = true) (h : isShellB rings off = true) {o : S27} :
 o ∈ oneL years rivers rings off ↔ o ∈ originsL rivers.length rings.length years ∧ ∃ v, RowsHave (growL rivers) v ∧ ShellFit rivers v ⟨rings, off⟩ o := by
 unfold oneL
 have hs := one_good hb h
 rw [mem_couldL hs hb (i := 0) (by simp [sk])]
 constructor
 ·rintro ⟨os, v, hv, rfl⟩
  have h0 : 0 < (sk years rivers [⟨rings, off⟩] []).shells.length := by simp [sk]
  exact ⟨(hv.cand 0 h0).1, v, hv.grow, hv.fit 0 h0⟩
 ·rintro ⟨h1, v, h2, h3⟩
  refine ⟨[o], v, ⟨rfl, h2, fun i hi => ?_, fun i hi => ?_⟩, rfl⟩
  ·have : i = 0 := by simp [sk] at hi; omega
   subst this
   exact ⟨h1, by simp [testedB, sk]⟩
  ·have : i = 0 := by simp [sk] at hi; omega
   subst this
   exact h3
theorem originsL_length (R : Nat) (n years : Int) : (originsL R n years).length = R * (years - (n - 1)).toNat := by
 unfold originsL
 rw [List.length_flatMap]
 have e : (fun r => (riverOrigins n years r).length) = fun _ => (years - (n - 1)).toNat := by
  funext r
  simp [riverOrigins, yearsOf]
 rw [e, List.map_const', List.sum_replicate_nat, List.length_range]
theorem couldL_length {s : Sk} (hb : isBookB s.years s.rivers = true) (i : Nat) : (couldL s i).length ≤ 18 := by
 refine Nat.le_trans (List.length_filter_le _ _) ?_
 rw [originsL_length]
 obtain ⟨h1, h2, _⟩ := book_facts hb
 have : s.rivers.length * (s.years - (1 - 1)).toNat ≤ 3 * 6 := Nat.mul_le_mul (by omega) (by omega)
 omega
theorem oneL_length {years : Int} {rivers : List S43} (rings : List Int) (off : Int) (hb : isBookB years rivers = true) : (oneL years rivers rings off).length ≤ 18 := couldL_length (s := sk years rivers [⟨rings, off⟩] []) hb 0
theorem nClosed_le2 (rivers : List S43) (l : List S27) : 0 ≤ nClosed rivers l ∧ nClosed rivers l ≤ l.length := by
 unfold nClosed
 have := List.length_filter_le (closedB rivers) l
 omega
theorem nClosed_all {rivers : List S43} {l : List S27} : nClosed rivers l = l.length ↔ ∀ o ∈ l, closedB rivers o = true := by
 unfold nClosed
 rw [← List.length_filter_eq_length_iff]
 omega
theorem nClosed_none {rivers : List S43} {l : List S27} : nClosed rivers l = 0 ↔ ∀ o ∈ l, closedB rivers o = false := by
 unfold nClosed
 constructor
 ·intro h o ho
  cases hc : closedB rivers o with
  |false => rfl
  |true =>
   have : o ∈ l.filter (closedB rivers) := List.mem_filter.2 ⟨ho, hc⟩
   have h2 : (l.filter (closedB rivers)) = [] := List.eq_nil_of_length_eq_zero (by omega)
   rw [h2] at this; cases this
 ·intro h
  have : l.filter (closedB rivers) = [] := by
   rw [List.filter_eq_nil_iff]
   intro o ho
   rw [h o ho]
   simp
  rw [this]; rfl
def wordL (rivers : List S43) (l : List S27) : Int := wordN (nClosed rivers l) l.length
theorem wordL_range (rivers : List S43) (l : List S27) : 1 ≤ wordL rivers l ∧ wordL rivers l ≤ 3 := by
 unfold wordL wordN
 (repeat' split) <;> omega
theorem wordL_never {rivers : List S43} {l : List S27} : wordL rivers l = 1 ↔ ∀ o ∈ l, closedB rivers o = false := by
 rw [← nClosed_none]
 unfold wordL wordN
 constructor
 ·intro h
  split at h
  ·assumption
  ·split at h <;> omega
 ·intro h
  rw [if_pos h]
theorem wordL_surely {rivers : List S43} {l : List S27} : wordL rivers l = 3 ↔ l ≠ [] ∧ ∀ o ∈ l, closedB rivers o = true := by
 rw [← nClosed_all]
 unfold wordL wordN
 have h0 : nClosed rivers l ≤ l.length := (nClosed_le2 rivers l).2
 constructor
 ·intro h
  split at h
  ·omega
  ·rename_i hn
   split at h
   ·rename_i he
    refine ⟨fun e => hn ?_, he⟩
    subst e
    rfl
   ·omega
 ·rintro ⟨h1, h2⟩
  have : l.length ≠ 0 := fun e => h1 (List.eq_nil_of_length_eq_zero e)
  rw [if_neg (by omega), if_pos h2]
theorem wordL_sub {rivers : List S43} {l m : List S27} (h : ∀ o ∈ m, o ∈ l) (hm : m ≠ []) : wordL rivers l = 2 ∨ wordL rivers m = wordL rivers l := by
 have hr := wordL_range rivers l
 by_cases h1 : wordL rivers l = 1
 ·right
  rw [h1, wordL_never]
  exact fun o ho => wordL_never.1 h1 o (h o ho)
 ·by_cases h3 : wordL rivers l = 3
  ·right
   rw [h3, wordL_surely]
   exact ⟨hm, fun o ho => (wordL_surely.1 h3).2 o (h o ho)⟩
  ·left; omega
theorem ringsFit_less {off off' : Int} (h : off' ≤ off) (v : Nat → Int) (j : Nat) (ns : List Int) (hf : RingsFit off' v j ns) : RingsFit off v j ns := by
 rw [ringsFit_iff] at hf ⊢
 intro k hk
 have := hf k hk
 omega
theorem oneL_less {years : Int} {rivers : List S43} {rings : List Int} {off off' : Int} (hb : isBookB years rivers = true) (h : isShellB rings off = true) (h' : isShellB rings off' = true) (hle : off' ≤ off) : ∀ o ∈ oneL years rivers rings off', o ∈ oneL years rivers rings off := by
 intro o ho
 rw [mem_oneL hb h'] at ho
 rw [mem_oneL hb h]
 obtain ⟨h1, v, h2, h3⟩ := ho
 exact ⟨h1, v, h2, ringsFit_less (by simp only; omega) _ _ _ h3⟩
def couldR (years : Int) (rivers : List S43) (rings : List Int) (off : Int) : List S27 × Int := if (isBookB years rivers && isShellB rings off) = true then (oneL years rivers rings off, 0) else ([], 2)
set_option maxRecDepth 100000 in
set_option maxHeartbeats 1000000 in
theorem Could_calls (years : Int) (A1 : Option Addr) (c1 : Nat) (rivers : List S43) (A2 : Option Addr) (c2 : Nat) (rings : List Int) (off : Int) (w : World) (hr1 : Kd.C k43 w A1 rivers.length rivers) (hc1 : rivers.length ≤ c1) (hr2 : Kd.C (Kd.int .i64) w A2 rings.length rings) (hc2 : rings.length ≤ c2) :
 Calls Tryz.prog 26 #[.agg #[.int .i64 years, .slice A1 rivers.length c1], .agg #[.slice A2 rings.length c2, .int .i64 off]] w fun e w' => ∃ v, e = .returned (.tuple #[v, .int .i64 (couldR years rivers rings off).2]) ∧ Kd.R k27 27 w' w.heap.size (fun _ => True) v (couldR years rivers rings off).1 ∧ Below w.heap.size w w' := by
 have hu24 := Tryz.underlying24
 have hu45 := Tryz.underlying45
 have HR1 := zk hr1
 have HR2 := zk hr2
 have HC := zk (And.intro hc1 hc2)
 have E79 := zk (fun (W : World) (h : Kd.C k43 W A1 rivers.length rivers) => isBook_calls years A1 c1 rivers W h)
 have E80 := zk (fun (W : World) (h : Kd.C (Kd.int .i64) W A2 rings.length rings) => isShell_calls off A2 c2 rings W h)
 have H3 := zk (blk_alloc (blk_new w (.cells #[.int .i64 years, .slice A1 rivers.length c1] 24)) (.cells #[.slice A2 rings.length c2, .int .i64 off] 45))
 have h4 := blk_new (w.alloc (.cells #[.int .i64 years, .slice A1 rivers.length c1] 24)) (.cells #[.slice A2 rings.length c2, .int .i64 off] 45)
 simp only [World.size_alloc] at h4
 have H4 := zk h4
 have HQ := zk (show couldR years rivers rings off = if (isBookB years rivers && isShellB rings off) = true then (oneL years rivers rings off, 0) else ([], 2) from rfl)
 have HG := zk (fun (h1 : isBookB years rivers = true) (h2 : isShellB rings off = true) => show goodB (sk years rivers [⟨rings, off⟩] []) = true by unfold goodB; simp only [sk, h1, h2, List.all_cons, List.all_nil, Bool.and_true, Bool.true_and, List.length_cons, List.length_nil]; rfl)
 have E82' := zk (fun (h1 : isBookB years rivers = true) (h2 : isShellB rings off = true) (g : Nat) (W : World) (h3 : Kd.C k43 W A1 rivers.length rivers) (h4 : Kd.C k45 W (some ⟨g, 0, none⟩) 1 [⟨rings, off⟩]) =>
  show Calls Tryz.prog 82 #[.agg #[.int .i64 years, .slice A1 rivers.length c1, .slice (some ⟨g, 0, none⟩) 1 1, .slice none 0 0], .int .i64 0] W fun e w' => ∃ v, e = .returned v ∧ Kd.R k27 27 w' W.heap.size (fun _ => True) v (oneL years rivers rings off) ∧ Below W.heap.size W w' from
   could_calls ⟨years, A1, c1, rivers, some ⟨g, 0, none⟩, 1, [⟨rings, off⟩], none, 0, []⟩ (good_of (s := ⟨years, A1, c1, rivers, some ⟨g, 0, none⟩, 1, [⟨rings, off⟩], none, 0, []⟩) (HG.out h1 h2)) ⟨hc1, Nat.le_refl _, Nat.le_refl _⟩ 0 (by simp) W h3 h4 (Kd.C_nil k59 W))
 generalize couldR years rivers rings off = q at HQ ⊢
 generalize oneL years rivers rings off = l at HQ E82'
 clear hr1 hc1 hr2 hc2 h4 HG
 generalize isBookB years rivers = b1 at E79 HQ E82'
 generalize isShellB rings off = b2 at E80 HQ E82'
 have hor : (b1 = false) ∨ (b1 = true ∧ b2 = false) ∨ (b1 = true ∧ b2 = true) := by cases b1 <;> cases b2 <;> simp
 rcases hor with rfl | ⟨rfl, rfl⟩ | ⟨rfl, rfl⟩
 case inr.inr =>
  have E82 := zk (E82'.out rfl rfl)
  clear E82'
  go_enter Tryz.func26, Tryz.ntmps26
  go_wp2_with (first | (go_at_call 79; (with_reducible refine (E79.out _ (Kd.C_alloc (Kd.C_alloc HR1.out _) _)).mono ?_); rintro e w2 ⟨rfl, hB⟩; have HB := zk (bt ((below1 (w := w) (.cells #[.int .i64 years, .slice A1 rivers.length c1] 24)).alloc (by simp) (.cells #[.slice A2 rings.length c2, .int .i64 off] 45)) hB); replace H3 := zk (blk_below H3.out hB); replace H4 := zk (blk_below H4.out hB); clear hB; (try clear c30 f30 c31 f31 l3 c40 f40 c41 f41 l4); obtain ⟨c30, f30, c31, f31, l3⟩ := cl2 H3.out; obtain ⟨c40, f40, c41, f41, l4⟩ := cl2 H4.out) | (go_at_call 80; (with_reducible refine (E80.out _ (Kd.C_below HR2.out HB.out)).mono ?_); rintro e w2 ⟨rfl, hB⟩; replace HB := zk (bt HB.out hB); replace H3 := zk (blk_below H3.out hB); replace H4 := zk (blk_below H4.out hB); clear hB; (try clear c30 f30 c31 f31 l3 c40 f40 c41 f41 l4); obtain ⟨c30, f30, c31, f31, l3⟩ := cl2 H3.out; obtain ⟨c40, f40, c41, f41, l4⟩ := cl2 H4.out) | (go_at_call 81; (with_reducible refine (one_calls _ _ _ _ _ _ _ _ _).mono ?_); rintro e w3 ⟨g, rfl, hg, hB⟩; replace HB := zk (bt HB.out hB); have HG3 := zk (C45_one hg (Kd.C_below HR2.out HB.out) HC.out.2); clear hg hB) | (go_at_call 82; (with_reducible refine (E82.out g w3 (Kd.C_below HR1.out HB.out) HG3.out).mono ?_); rintro e w4 ⟨v, rfl, hR, hB⟩; have HV := zk (Kd.R_lower hR HB.out.size); replace HB := zk (bt HB.out hB); clear hR hB))
  go_ret2
  exact ⟨v, by rw [HQ.out]; rfl, by rw [HQ.out]; exact HV.out, HB.out⟩
 all_goals
  go_enter Tryz.func26, Tryz.ntmps26
  go_wp2_with (first | (go_at_call 79; (with_reducible refine (E79.out _ (Kd.C_alloc (Kd.C_alloc HR1.out _) _)).mono ?_); rintro e w2 ⟨rfl, hB⟩; have HB := zk (bt ((below1 (w := w) (.cells #[.int .i64 years, .slice A1 rivers.length c1] 24)).alloc (by simp) (.cells #[.slice A2 rings.length c2, .int .i64 off] 45)) hB); replace H3 := zk (blk_below H3.out hB); replace H4 := zk (blk_below H4.out hB); clear hB; (try clear c30 f30 c31 f31 l3 c40 f40 c41 f41 l4); obtain ⟨c30, f30, c31, f31, l3⟩ := cl2 H3.out; obtain ⟨c40, f40, c41, f41, l4⟩ := cl2 H4.out) | (go_at_call 80; (with_reducible refine (E80.out _ (Kd.C_below HR2.out HB.out)).mono ?_); rintro e w2 ⟨rfl, hB⟩; replace HB := zk (bt HB.out hB); replace H3 := zk (blk_below H3.out hB); replace H4 := zk (blk_below H4.out hB); clear hB; (try clear c30 f30 c31 f31 l3 c40 f40 c41 f41 l4); obtain ⟨c30, f30, c31, f31, l3⟩ := cl2 H3.out; obtain ⟨c40, f40, c41, f41, l4⟩ := cl2 H4.out) | (go_at_call 81; (with_reducible refine (one_calls _ _ _ _ _ _ _ _ _).mono ?_); rintro e w3 ⟨g, rfl, hg, hB⟩; replace HB := zk (bt HB.out hB); have HG3 := zk (C45_one hg (Kd.C_below HR2.out HB.out) HC.out.2); clear hg hB) | (go_at_call 82; (with_reducible refine (E82.out g w3 (Kd.C_below HR1.out HB.out) HG3.out).mono ?_); rintro e w4 ⟨v, rfl, hR, hB⟩; have HV := zk (Kd.R_lower hR HB.out.size); replace HB := zk (bt HB.out hB); clear hR hB))
  go_ret2
  exact ⟨_, by rw [HQ.out]; rfl, by rw [HQ.out]; exact Kd.R_nil _ _ _ _ _, HB.out⟩
end Go.Proofs.YtfijblhfgfefoaaGreatDoor.Rv
namespace Go.Proofs.YtfijblhfgfefoaaGreatDoor.PAll
open Go.RowKit Go.Proofs.YtfijblhfgfefoaaGreatDoor.Rv Go.Proofs.YtfijblhfgfefoaaGreatDoorW.PrintWords Go.Proofs.YtfijblhfgfefoaaGreatDoorW.PrintLast
def river_Could.f (a0_0 : Int) (l0_1 : List (S43)) (l1_0 : List Int) (a1_1 : Int) : Option ((List (S27)) × Int) := some (couldR a0_0 l0_1 l1_0 a1_1)
theorem river_Could.calls (a0_0 : Int) (A0_1 : Option Addr) (c0_1 : Nat) (l0_1 : List (S43)) (A1_0 : Option Addr) (c1_0 : Nat) (l1_0 : List Int) (a1_1 : Int) (r1 : List (S27)) (r2 : Int) (w : World) (hr0_1 : Kd.C k43 w A0_1 l0_1.length l0_1) (hc0_1 : l0_1.length ≤ c0_1) (hr1_0 : Kd.C (Kd.int .i64) w A1_0 l1_0.length l1_0) (hc1_0 : l1_0.length ≤ c1_0) (h : river_Could.f a0_0 l0_1 l1_0 a1_1 = some (r1, r2)) :
 Calls Tryz.prog 26 #[.agg #[.int .i64 a0_0, .slice A0_1 l0_1.length c0_1], .agg #[.slice A1_0 l1_0.length c1_0, .int .i64 a1_1]] w fun e w' => ∃ v0_ : Value, e = .returned (.tuple #[v0_, .int .i64 r2]) ∧ Kd.R k27 27 w' w.heap.size (fun _ => True) v0_ r1 ∧ Below w.heap.size w w' := by
 have e := Option.some.inj h
 have h1 := Could_calls a0_0 A0_1 c0_1 l0_1 A1_0 c1_0 l1_0 a1_1 w hr0_1 hc0_1 hr1_0 hc1_0
 simp only [e] at h1
 exact h1
end Go.Proofs.YtfijblhfgfefoaaGreatDoor.PAll
end
section
namespace Go.Proofs.YtfijblhfgfefoaaGreatDoor.Rv
open Go.RowKit Go.Shelf Go.IntWalk Go.Proofs.YtfijblhfgfefoaaGreatDoor.PAll Go.Proofs.YtfijblhfgfefoaaGreatDoorW.PrintWords Go.Proofs.YtfijblhfgfefoaaGreatDoorW.PrintLast
theorem in72 (a b c : Int) (w : World) : Calls Tryz.prog 72 #[.int .i64 a, .int .i64 b, .int .i64 c] w fun e w' => e = .returned (.bool (inB a b c)) ∧ w' = w := by
 by_cases h : b ≤ a
 ·go_enter Tryz.func72, Tryz.ntmps72
  go_wp2
  go_ret
  exact ⟨by simp [inB, h], rfl⟩
 ·go_enter Tryz.func72, Tryz.ntmps72
  go_wp2
  go_ret
  exact ⟨by simp [inB]; omega, rfl⟩
def slimB (l : List S43) : Bool := (l.take 6).all (fun r => decide (r.f0.length ≤ 8)) && decide (l.length ≤ 5)
theorem slim_facts {l : List S43} (h : slimB l = true) : l.length ≤ 5 ∧ ∀ r ∈ l, r.f0.length ≤ 8 := by
 unfold slimB at h
 simp only [Bool.and_eq_true, decide_eq_true_eq, List.all_eq_true] at h
 exact ⟨h.2, fun r hr => h.1 r (by rw [List.take_of_length_le (by omega)]; exact hr)⟩
theorem rd43_at {l : List S43} {i : Nat} (h : i < l.length) : rd_T43 l i = l[i] := by simp [rd_T43, List.getD_eq_getElem?_getD, h]
theorem rd47_at {l : List S47} {i : Nat} (h : i < l.length) : rd_T47 l i = l[i] := by simp [rd_T47, List.getD_eq_getElem?_getD, h]
set_option maxRecDepth 100000 in
set_option maxHeartbeats 1000000 in
theorem slim_walk (years : Int) (A : Option Addr) (c : Nat) (l : List S43) (w : World) (hr : Kd.C k43 w A l.length l) :
 Calls Tryz.prog 19 #[.agg #[.int .i64 years, .slice A l.length c]] w fun e w' => e = .returned (.bool (slimB l)) ∧ Below w.heap.size w w' := by
 have hu24 := Tryz.underlying24
 have hu43 := Tryz.underlying43
 have HR := zk hr
 have hlen := Kd.C_max hr
 have HB := zk (below1 (w := w) (.cells #[.int .i64 years, .slice A l.length c] 24))
 have H1 := zk (blk_new w (.cells #[.int .i64 years, .slice A l.length c] 24))
 have HQ := zk (show slimB l = ((l.take 6).all (fun r => decide (r.f0.length ≤ 8)) && decide (l.length ≤ 5)) from rfl)
 generalize slimB l = q at HQ ⊢
 clear hr
 go_enter Tryz.func19, Tryz.ntmps19
 go_wp2
 generalize w.alloc (.cells #[.int .i64 years, .slice A l.length c] 24) = w1 at HB H1 ⊢
 obtain ⟨p1, e1⟩ : ∃ p1, p1 = w.heap.size := ⟨_, rfl⟩
 rw [← e1] at H1 ⊢
 clear e1
 obtain ⟨c10, f10, c11, f11, l1⟩ := cl2 H1.out
 go_loopg [3] 6 (fun gg v3 wr => ∃ i : Nat, i ≤ 6 ∧ 6 - i ≤ gg ∧ v3 = .int .i64 i ∧ wr = w1 ∧ Aside0 (i ≤ l.length ∧ (l.take i).all (fun r => decide (r.f0.length ≤ 8)) = true))
 case atStart => exact ⟨0, by omega, by omega, rfl, rfl, ⟨by omega, rfl⟩⟩
 case round =>
  obtain ⟨i, hi, hgg, rfl, rfl, HA⟩ := hrel
  by_cases hlt : i < l.length
  ·have hltz : (i : Int) < (l.length : Int) := by omega
   by_cases h6 : i < 6
   ·have h6z : (i : Int) < 6 := by omega
    obtain ⟨ad, A0, c0, hA, d0, d1, d2, hl0, hC0⟩ := at_T43 (Kd.C_below HR.out HB.out) (i : Int) (by omega) (by omega)
    subst hA
    simp only [Int.toNat_natCast] at d0 d1 d2
    have hsn : (l.take (i + 1)).all (fun r => decide (r.f0.length ≤ 8)) = decide ((rd_T43 l i).f0.length ≤ 8) := by
     rw [List.take_succ_eq_append_getElem hlt, List.all_append, HA.out.2, rd43_at hlt]
     simp
    have HLT := zk hlt
    obtain ⟨n, en⟩ : ∃ n, n = (rd_T43 l i).f0.length := ⟨_, rfl⟩
    rw [← en] at hsn d0
    have HSN := zk hsn
    clear en hsn hl0 hC0 d1 d2 hlt
    by_cases h8 : (n : Int) > 8
    ·go_wp2
     go_ret
     have hf : (l.take 6).all (fun r => decide (r.f0.length ≤ 8)) = false := by
      rw [List.all_eq_false]
      have h9 := HSN.out
      have : decide (n ≤ 8) = false := by simp; omega
      rw [this, List.all_eq_false] at h9
      obtain ⟨x, hx, hx2⟩ := h9
      have hp : l.take (i + 1) <+: l.take 6 := List.take_prefix_take_left (by omega)
      exact ⟨x, hp.subset hx, hx2⟩
     exact ⟨by rw [HQ.out, hf]; rfl, HB.out⟩
    ·go_wp2
     go_roundg (6 - (i + 1))
     case measure => omega
     case rel => exact ⟨i + 1, by omega, by omega, by go_num, rfl, ⟨by have := HLT.out; omega, by rw [HSN.out]; simp; omega⟩⟩
   ·have e6 : i = 6 := by omega
    subst e6
    have h5 : (l.length : Int) ≤ 5 → False := by omega
    have h5d : decide ((l.length : Int) ≤ 5) = false := by simp; omega
    have h5n : decide (l.length ≤ 5) = false := by simp; omega
    have HN := zk h5n
    clear hlt h6 h5 h5n
    go_wp2
    go_ret
    exact ⟨by rw [HQ.out, HN.out]; simp [h5d], HB.out⟩
  ·have hk2 : i = l.length := by have := HA.out.1; omega
   subst hk2
   have ht : (l.take 6).all (fun r => decide (r.f0.length ≤ 8)) = true := by
    have := HA.out.2
    rw [List.take_of_length_le (Nat.le_refl _)] at this
    rw [List.take_of_length_le hi]; exact this
   have HT := zk ht
   clear hlt ht
   go_wp2
   go_ret
   exact ⟨by rw [HQ.out, HT.out]; simp; omega, HB.out⟩
theorem any_take_succ {α : Type} (p : α → Bool) (l : List α) (i : Nat) (h : i < l.length) : (l.take (i + 1)).any p = ((l.take i).any p || p l[i]) := by
 rw [List.take_succ_eq_append_getElem h, List.any_append]
 simp
theorem any_of_take {α : Type} (p : α → Bool) (l : List α) (i : Nat) (h : (l.take i).any p = true) : l.any p = true := by
 rw [List.any_eq_true] at h ⊢
 obtain ⟨x, hx, h2⟩ := h
 exact ⟨x, List.mem_of_mem_take hx, h2⟩
theorem shl_is (years : Int) (h : 1 ≤ years ∧ years ≤ 6) : IntKind.u64.wrap years = years ∧ Op.shift .shl .i64 1 .u64 years = pure (.int .i64 (2 ^ years.toNat)) ∧ IntKind.i64.wrap (2 ^ years.toNat - 1) = 2 ^ years.toNat - 1 := by
 have h6 : years = 1 ∨ years = 2 ∨ years = 3 ∨ years = 4 ∨ years = 5 ∨ years = 6 := by omega
 rcases h6 with rfl | rfl | rfl | rfl | rfl | rfl <;> exact ⟨by kernel_rfl, by kernel_rfl, by kernel_rfl⟩
set_option maxRecDepth 100000 in
set_option maxHeartbeats 4000000 in
theorem Book_walk (years : Int) (A : Option Addr) (c : Nat) (l : List S43) (w : World) (hr : Kd.C k43 w A l.length l) :
 Calls Tryz.prog 20 #[.agg #[.int .i64 years, .slice A l.length c]] w fun e w' => e = .returned (.bool (isBookB years l)) ∧ Below w.heap.size w w' := by
 have hu24 := Tryz.underlying24
 have hu43 := Tryz.underlying43
 have hu47 := Tryz.underlying47
 have HR := zk hr
 have hlen := Kd.C_max hr
 have HB := zk (below1 (w := w) (.cells #[.int .i64 years, .slice A l.length c] 24))
 have H1 := zk (blk_new w (.cells #[.int .i64 years, .slice A l.length c] 24))
 have HQ := zk (show isBookB years l = (inB years 1 6 && inB l.length 1 3 && !(l.any (badRiver years))) from rfl)
 generalize isBookB years l = q at HQ ⊢
 clear hr
 cases hy : inB years 1 6 with
 |false =>
  rw [hy] at HQ
  go_enter Tryz.func20, Tryz.ntmps20
  go_wp2_with (go_at_call 72; (with_reducible refine (in72 _ _ _ _).mono ?_); rintro e w9 ⟨rfl, rfl⟩)
  go_ret
  exact ⟨by rw [HQ.out]; rfl, HB.out⟩
 |true =>
  have hy6 := inB_iff.1 hy
  obtain ⟨hwr, hsh, hwp⟩ := shl_is years hy6
  obtain ⟨P, hP⟩ : ∃ P, P = (2 : Int) ^ years.toNat := ⟨_, rfl⟩
  have HP := zk hP
  rw [← hP] at hsh hwp
  have HY := zk hy6
  rw [hy] at HQ
  clear hP hy6
  go_enter Tryz.func20, Tryz.ntmps20
  go_wp2_with (go_at_call 72; (with_reducible refine (in72 _ _ _ _).mono ?_); rintro e w9 ⟨rfl, rfl⟩)
  clear hy
  generalize w.alloc (.cells #[.int .i64 years, .slice A l.length c] 24) = w1 at HB H1 ⊢
  obtain ⟨p1, e1⟩ : ∃ p1, p1 = w.heap.size := ⟨_, rfl⟩
  rw [← e1] at H1 ⊢
  have HL1 := zk (show w.heap.size ≤ p1 by omega)
  clear e1
  go_loopg [3, 4, 5, 6] l.length (fun gg v3 _ _ _ wr => ∃ i : Nat, i ≤ l.length ∧ l.length - i ≤ gg ∧ v3 = .int .i64 i ∧ Aside0 (Below w1.heap.size w1 wr) ∧ Aside0 ((l.take i).any (badRiver years) = false))
  case atStart => exact ⟨0, by omega, by omega, rfl, ⟨Below.refl _ _⟩, ⟨rfl⟩⟩
  case round =>
   obtain ⟨i, hi, hgg, rfl, BW, HA⟩ := hrel
   obtain ⟨c10, f10, c11, f11, l1⟩ := cl2 (blk_below H1.out BW.out)
   by_cases hlt : i < l.length
   ·have hltz : (i : Int) < (l.length : Int) := by omega
    obtain ⟨ad, A0, c0, hA, d0, d1, d2, hl0, hC0⟩ := at_T43 (Kd.C_below (Kd.C_below HR.out HB.out) BW.out) (i : Int) (by omega) (by omega)
    subst hA
    simp only [Int.toNat_natCast] at d0 d1 d2
    have hsn := any_take_succ (badRiver years) l i hlt
    rw [HA.out, ← rd43_at hlt] at hsn
    have HSN := zk hsn
    have HLT := zk hlt
    obtain ⟨r, er⟩ : ∃ r, r = rd_T43 l i := ⟨_, rfl⟩
    rw [← er] at d0 d1 d2 hl0 hC0 HSN
    obtain ⟨g, v, cl⟩ := r
    simp only at d0 d1 d2 hl0 hC0
    have HG := zk hC0
    have hgl := Kd.C_max hC0
    have HBR := zk (show badRiver years ⟨g, v, cl⟩ = (decide ((g.length : Int) ≠ years) || !(inB v 0 3) || !(inB cl 0 (2 ^ years.toNat - 1)) || g.any badSpan) from rfl)
    clear er hsn hlt hC0 hl0
    go_wp2
    have HBA := zk (below_alloc (HB.out.trans (BW.out.mono HB.out.size)) (.cells #[.slice A0 g.length c0, .int .i64 v, .int .i64 cl] 43))
    have H4 := zk (blk_new wr (.cells #[.slice A0 g.length c0, .int .i64 v, .int .i64 cl] 43))
    have HBW1 := zk (below_alloc BW.out (.cells #[.slice A0 g.length c0, .int .i64 v, .int .i64 cl] 43))
    replace HG := zk (Kd.C_alloc HG.out (.cells #[.slice A0 g.length c0, .int .i64 v, .int .i64 cl] 43))
    generalize wr.alloc (.cells #[.slice A0 g.length c0, .int .i64 v, .int .i64 cl] 43) = wa at HBA H4 HBW1 HG ⊢
    obtain ⟨p4, e4⟩ : ∃ p4, p4 = wr.heap.size := ⟨_, rfl⟩
    rw [← e4] at H4 ⊢
    clear e4 c10 f10 c11 f11 l1 d0 d1 d2
    go_loopg [5, 6] g.length (fun g2 v5 _ ws => ∃ j : Nat, j ≤ g.length ∧ g.length - j ≤ g2 ∧ v5 = .int .i64 j ∧ Aside0 (Below wa.heap.size wa ws) ∧ Aside0 ((g.take j).any badSpan = false))
    case atStart => exact ⟨0, by omega, by omega, rfl, ⟨Below.refl _ _⟩, ⟨rfl⟩⟩
    case round =>
     obtain ⟨j, hj, hg2, rfl, BS, HJ⟩ := hrel
     obtain ⟨c40, f40, c41, f41, c42, f42, l4⟩ := cl3 (blk_below H4.out BS.out)
     by_cases hjl : j < g.length
     ·have hjz : (j : Int) < (g.length : Int) := by omega
      obtain ⟨ad2, hA2, s0, s1⟩ := at_T47 (Kd.C_below HG.out BS.out) (j : Int) (by omega) (by omega)
      subst hA2
      simp only [Int.toNat_natCast] at s0 s1
      have hsn2 := any_take_succ badSpan g j hjl
      rw [HJ.out, ← rd47_at hjl] at hsn2
      obtain ⟨s, es⟩ : ∃ s, s = rd_T47 g j := ⟨_, rfl⟩
      rw [← es] at s0 s1 hsn2
      obtain ⟨lo, hh⟩ := s
      simp only at s0 s1
      have hbs : badSpan ⟨lo, hh⟩ = (!(decide (0 ≤ lo) && decide (lo ≤ hh)) || decide (40 < hh) || decide (4 < wrap64 (hh - lo))) := rfl
      have HJL := zk hjl
      obtain ⟨n1, e1⟩ : ∃ n1, n1 = decide (lo < 0) := ⟨_, rfl⟩
      obtain ⟨n2, e2⟩ : ∃ n2, n2 = decide (lo > hh) := ⟨_, rfl⟩
      obtain ⟨n3, e3⟩ : ∃ n3, n3 = decide (hh > 40) := ⟨_, rfl⟩
      obtain ⟨n4, e4⟩ : ∃ n4, n4 = decide (wrap64 (hh - lo) > 4) := ⟨_, rfl⟩
      have g1 : decide (0 ≤ lo) = !n1 := by rw [e1]; by_cases h : lo < 0 <;> simp [h] <;> omega
      have g2' : decide (lo ≤ hh) = !n2 := by rw [e2]; by_cases h : lo > hh <;> simp [h] <;> omega
      have hbs2 : badSpan ⟨lo, hh⟩ = (n1 || n2 || n3 || n4) := by
       rw [hbs, g1, g2', show decide (40 < hh) = n3 from e3.symm, show decide (4 < wrap64 (hh - lo)) = n4 from e4.symm]
       cases n1 <;> cases n2 <;> rfl
      rw [hbs2] at hsn2
      have HS2 := zk hsn2
      have E1 := e1.symm
      have E2 := e2.symm
      have E3 := e3.symm
      have E4 := e4.symm
      have hor : (n1 = true) ∨ (n1 = false ∧ n2 = true) ∨ (n1 = false ∧ n2 = false ∧ n3 = true) ∨ (n1 = false ∧ n2 = false ∧ n3 = false ∧ n4 = true) ∨ (n1 = false ∧ n2 = false ∧ n3 = false ∧ n4 = false) := by
       cases n1 <;> cases n2 <;> cases n3 <;> cases n4 <;> simp
      clear es hbs hsn2 hjl e1 e2 e3 e4 g1 g2' hbs2
      rcases hor with rfl | ⟨rfl, rfl⟩ | ⟨rfl, rfl, rfl⟩ | ⟨rfl, rfl, rfl, rfl⟩ | ⟨rfl, rfl, rfl, rfl⟩
      case inr.inr.inr.inr =>
       go_wp2
       go_roundg (g.length - (j + 1))
       case measure => have := HJL.out; omega
       case rel => exact ⟨j + 1, by have := HJL.out; omega, Nat.le_refl _, by go_num, ⟨below_alloc BS.out _⟩, ⟨by rw [HS2.out]; rfl⟩⟩
      all_goals
       go_wp2
       go_ret
       have hf : l.any (badRiver years) = true := any_of_take _ _ (i + 1) (by rw [HSN.out, HBR.out, any_of_take badSpan g (j + 1) (by rw [HS2.out]; rfl)]; simp)
       exact ⟨by rw [HQ.out, hf]; simp, HBA.out.trans ((below_alloc BS.out _).mono HBA.out.size)⟩
     ·have hk2 : j = g.length := by omega
      subst hk2
      have ht : g.any badSpan = false := by
       have := HJ.out
       rwa [List.take_of_length_le (Nat.le_refl _)] at this
      rw [ht] at HBR
      rw [← HP.out] at HBR
      obtain ⟨c10, f10, c11, f11, l1⟩ := cl2 (blk_below (blk_below H1.out HBW1.out) BS.out)
      obtain ⟨n1, e1⟩ : ∃ n1, n1 = decide ((g.length : Int) ≠ years) := ⟨_, rfl⟩
      rw [← e1] at HBR
      have E1 : ((g.length : Int) != years) = n1 := by rw [e1]; by_cases h : (g.length : Int) = years <;> simp [h]
      have e2 := in72 v 0 3
      have e3 := in72 cl 0 (P - 1)
      have E72 := zk (And.intro e2 e3)
      generalize inB v 0 3 = n2 at E72 HBR
      generalize inB cl 0 (P - 1) = n3 at E72 HBR
      have hor : (n1 = true) ∨ (n1 = false ∧ n2 = false) ∨ (n1 = false ∧ n2 = true ∧ n3 = false) ∨ (n1 = false ∧ n2 = true ∧ n3 = true) := by
       cases n1 <;> cases n2 <;> cases n3 <;> simp
      clear ht e1 e2 e3
      rcases hor with rfl | ⟨rfl, rfl⟩ | ⟨rfl, rfl, rfl⟩ | ⟨rfl, rfl, rfl⟩
      case inr.inr.inr =>
       go_wp2_with (go_at_call 72; (first | (with_reducible refine (E72.out.1 _).mono ?_) | (with_reducible refine (E72.out.2 _).mono ?_)); rintro e w9 ⟨rfl, rfl⟩)
       go_roundg (l.length - (i + 1))
       case measure => have := HLT.out; omega
       case rel => exact ⟨i + 1, by have := HLT.out; omega, Nat.le_refl _, by go_num, ⟨HBW1.out.trans (BS.out.mono HBW1.out.size)⟩, ⟨by rw [HSN.out, HBR.out]; rfl⟩⟩
      all_goals
       go_wp2_with (go_at_call 72; (first | (with_reducible refine (E72.out.1 _).mono ?_) | (with_reducible refine (E72.out.2 _).mono ?_)); rintro e w9 ⟨rfl, rfl⟩)
       go_ret
       have hf : l.any (badRiver years) = true := any_of_take _ _ (i + 1) (by rw [HSN.out, HBR.out]; rfl)
       exact ⟨by rw [HQ.out, hf]; simp, HBA.out.trans (BS.out.mono HBA.out.size)⟩
   ·have hk2 : i = l.length := by omega
    subst hk2
    have ht : l.any (badRiver years) = false := by
     have := HA.out
     rwa [List.take_of_length_le (Nat.le_refl _)] at this
    have HT := zk ht
    clear hlt ht
    go_wp2_with (go_at_call 72; (with_reducible refine (in72 _ _ _ _).mono ?_); rintro e w9 ⟨rfl, rfl⟩)
    go_ret
    exact ⟨by rw [HQ.out, HT.out]; simp, HB.out.trans (BW.out.mono HB.out.size)⟩
end Go.Proofs.YtfijblhfgfefoaaGreatDoor.Rv
end
