/- A part of the proof: words, contracts of functions, and their walks. -/
import Derived.Test.YtfijblhfgfefoaaGreatDoorQLess3
import Derived.Test.YtfijblhfgfefoaaGreatDoorQLess16
set_option linter.unusedVariables false
set_option linter.unusedSimpArgs false
section
namespace Go.Proofs.YtfijblhfgfefoaaGreatDoor.Rv
open Go.RowKit Go.Shelf Go.IntWalk Go.Proofs.YtfijblhfgfefoaaGreatDoor.PAll Go.Proofs.YtfijblhfgfefoaaGreatDoorW.PrintWords Go.Proofs.YtfijblhfgfefoaaGreatDoorW.PrintLast
def nClosed (rivers : List S43) (l : List S27) : Int := ((l.filter (closedB rivers)).length : Int)
def verdictV (n len : Int) : Value := if n = 0 then .iface 208 (.int .i64 len) else if n = len then .iface 205 (.int .i64 n) else .iface 206 (.int .i64 len)
def wordN (n len : Int) : Int := if n = 0 then 1 else if n = len then 3 else 2
theorem nClosed_snoc (rivers : List S43) (l : List S27) (k : Nat) (h : k < l.length) : nClosed rivers (l.take (k + 1)) = nClosed rivers (l.take k) + if closedB rivers l[k] = true then 1 else 0 := by
 unfold nClosed
 rw [List.take_succ_eq_append_getElem h, List.filter_append]
 by_cases hc : closedB rivers l[k] = true <;> simp [List.filter_cons, hc]
theorem nClosed_le (rivers : List S43) (l : List S27) : 0 ≤ nClosed rivers l ∧ nClosed rivers l ≤ l.length := by
 unfold nClosed
 have := List.length_filter_le (closedB rivers) l
 omega
set_option maxRecDepth 100000 in
set_option maxHeartbeats 1000000 in
theorem verdict_calls (s : Sk) (hc : s.rivers.length ≤ s.c1 ∧ s.shells.length ≤ s.c2 ∧ s.tests.length ≤ s.c3) (A : Option Addr) (c : Nat) (l : List S27) (w : World)
 (f1 : Kd.C k43 w s.A1 s.rivers.length s.rivers) (f2 : Kd.C k45 w s.A2 s.shells.length s.shells) (f3 : Kd.C k59 w s.A3 s.tests.length s.tests) (hr : Kd.C k27 w A l.length l)
 (hl : l.length ≤ 1000000) (hv : ∀ o ∈ l, 0 ≤ o.f0 ∧ o.f0 < s.rivers.length ∧ 0 ≤ o.f1) :
 Calls Tryz.prog 84 #[.agg s.cells, .slice A l.length c] w fun e w' => e = .returned (verdictV (nClosed s.rivers l) l.length) ∧ Below w.heap.size w w' := by
 have HR := zk hr
 have HF1 := zk f1
 have HF2 := zk f2
 have HF3 := zk f3
 have HV := zk hv
 have HC := zk hc
 clear hr f1 f2 f3 hv hc
 have hu138 := Tryz.underlying138
 have hu27 := Tryz.underlying27
 unfold Sk.cells
 go_enter Tryz.func84, Tryz.ntmps84
 go_wp2
 have HB := zk (below1 (w := w) (.cells #[.int .i64 s.years, .slice s.A1 s.rivers.length s.c1, .slice s.A2 s.shells.length s.c2, .slice s.A3 s.tests.length s.c3] 138))
 have b2 := blk_new w (.cells #[.int .i64 s.years, .slice s.A1 s.rivers.length s.c1, .slice s.A2 s.shells.length s.c2, .slice s.A3 s.tests.length s.c3] 138)
 generalize w.alloc (.cells #[.int .i64 s.years, .slice s.A1 s.rivers.length s.c1, .slice s.A2 s.shells.length s.c2, .slice s.A3 s.tests.length s.c3] 138) = w1 at HB b2 ⊢
 obtain ⟨p2, e2⟩ : ∃ p2, p2 = w.heap.size := ⟨_, rfl⟩
 rw [← e2] at b2 ⊢
 have H2 := zk b2
 clear b2 e2
 go_loopg [5, 7, 10] l.length (fun gg v5 _ v10 wr => ∃ kk : Nat, kk ≤ l.length ∧ l.length - kk ≤ gg ∧ v10 = .int .i64 kk ∧ v5 = .int .i64 (nClosed s.rivers (l.take kk)) ∧ Aside0 (Below w1.heap.size w1 wr))
 case atStart => exact ⟨0, by omega, by omega, rfl, rfl, ⟨Below.refl _ _⟩⟩
 case round =>
  obtain ⟨kk, hkk, hgg, rfl, rfl, BW⟩ := hrel
  have H2W := zk (blk_below H2.out BW.out)
  obtain ⟨c_p2_0, f_p2_0, c_p2_1, f_p2_1, c_p2_2, f_p2_2, c_p2_3, f_p2_3, l_p2⟩ := cl4 (W := wr) (p := p2) (a := .int .i64 s.years) (b := .slice s.A1 s.rivers.length s.c1) (c := .slice s.A2 s.shells.length s.c2) (d := .slice s.A3 s.tests.length s.c3) H2W.out
  have hnb := nClosed_le s.rivers (l.take kk)
  have hnl : (l.take kk).length ≤ kk := List.length_take_le _ _
  by_cases hlt : kk < l.length
  ·have hltz : (kk : Int) < (l.length : Int) := by omega
   have hW := Kd.C_below (Kd.C_below HR.out HB.out) BW.out
   obtain ⟨ad, hA, d0, d1⟩ := at_T27 hW (kk : Int) (by omega) (by omega)
   subst hA
   have hx : l[kk] = rd_T27 l (kk : Int) := by simp [rd_T27, List.getD_eq_getElem?_getD, List.getElem?_eq_getElem hlt]
   obtain ⟨o, ho⟩ : ∃ o, rd_T27 l (kk : Int) = o := ⟨_, rfl⟩
   rw [ho] at d0 d1 hx
   simp only [Int.toNat_natCast] at d0 d1
   have hvo := HV.out o (by rw [← hx]; exact List.getElem_mem hlt)
   have HS := zk (nClosed_snoc s.rivers l kk hlt)
   rw [hx] at HS
   have HCL := zk (closed_some s.rivers s.years s.shells s.tests o hvo.1 hvo.2.1 hvo.2.2)
   clear ho hx hvo hW hlt
   obtain ⟨n, en⟩ : ∃ n, n = nClosed s.rivers (l.take kk) := ⟨_, rfl⟩
   rw [← en] at HS hnb
   rw [← en]
   clear en
   cases hq : closedB s.rivers o with
   |true =>
    have HQ := zk hq
    clear hq
    rw [HQ.out] at HCL
    go_wp2_with (go_at_call 140; (with_reducible refine (river_sack_closed.calls _ _ _ _ _ _ _ _ _ _ _ _ _ _ (Kd.C_below (Kd.C_below (Kd.C_below HF1.out HB.out) BW.out) (below1 _)) HC.out.1 (Kd.C_below (Kd.C_below (Kd.C_below HF2.out HB.out) BW.out) (below1 _)) HC.out.2.1 (Kd.C_below (Kd.C_below (Kd.C_below HF3.out HB.out) BW.out) (below1 _)) HC.out.2.2 HCL.out).mono ?_); rintro e w' ⟨rfl, hB'⟩)
    go_roundg (l.length - (kk + 1))
    case measure => omega
    case rel =>
     refine ⟨kk + 1, by omega, by omega, by go_num, ?_, ⟨bt (BW.out.trans ((below1 (.cells #[.int .i64 o.f0, .int .i64 o.f1] 27)).mono BW.out.size)) hB'⟩⟩
     ·rw [HS.out, HQ.out]
      go_num
   |false =>
    have HQ := zk hq
    clear hq
    rw [HQ.out] at HCL
    go_wp2_with (go_at_call 140; (with_reducible refine (river_sack_closed.calls _ _ _ _ _ _ _ _ _ _ _ _ _ _ (Kd.C_below (Kd.C_below (Kd.C_below HF1.out HB.out) BW.out) (below1 _)) HC.out.1 (Kd.C_below (Kd.C_below (Kd.C_below HF2.out HB.out) BW.out) (below1 _)) HC.out.2.1 (Kd.C_below (Kd.C_below (Kd.C_below HF3.out HB.out) BW.out) (below1 _)) HC.out.2.2 HCL.out).mono ?_); rintro e w' ⟨rfl, hB'⟩)
    go_roundg (l.length - (kk + 1))
    case measure => omega
    case rel =>
     refine ⟨kk + 1, by omega, by omega, by go_num, ?_, ⟨bt (BW.out.trans ((below1 (.cells #[.int .i64 o.f0, .int .i64 o.f1] 27)).mono BW.out.size)) hB'⟩⟩
     ·rw [HS.out, HQ.out]
      simp
  ·have hltz : decide ((kk : Int) < (l.length : Int)) = false := by simpa using hlt
   have hk2 : kk = l.length := by omega
   subst hk2
   rw [List.take_length] at hnb
   have ht : l.take l.length = l := List.take_length
   rw [ht]
   clear hlt ht
   have hbw := bt HB.out BW.out
   obtain ⟨n, en⟩ : ∃ n, n = nClosed s.rivers l := ⟨_, rfl⟩
   rw [← en] at hnb
   rw [← en]
   have EN := zk en
   clear en
   by_cases h0 : n = 0
   ·have h0b : (n == 0) = true := by simpa using h0
    have H0 := zk h0
    clear h0
    go_wp2
    go_ret
    exact ⟨(show Ending.returned (Value.iface 208 (.int .i64 (l.length : Int))) = .returned (verdictV (nClosed s.rivers l) (l.length : Int)) from by rw [← EN.out]; unfold verdictV; rw [if_pos H0.out]), hbw⟩
   ·have h0b : (n == 0) = false := by simpa using h0
    by_cases h1 : n = (l.length : Int)
    ·have h1b : (n == (l.length : Int)) = true := by simpa using h1
     have H0 := zk h0
     have H1 := zk h1
     clear h0 h1
     go_wp2
     go_ret
     exact ⟨(show Ending.returned (Value.iface 205 (.int .i64 n)) = .returned (verdictV (nClosed s.rivers l) (l.length : Int)) from by rw [← EN.out]; unfold verdictV; rw [if_neg H0.out, if_pos H1.out]), hbw⟩
    ·have h1b : (n == (l.length : Int)) = false := by simpa using h1
     have H0 := zk h0
     have H1 := zk h1
     clear h0 h1
     go_wp2
     go_ret
     exact ⟨(show Ending.returned (Value.iface 206 (.int .i64 (l.length : Int))) = .returned (verdictV (nClosed s.rivers l) (l.length : Int)) from by rw [← EN.out]; unfold verdictV; rw [if_neg H0.out, if_neg H1.out]), hbw⟩
set_option maxRecDepth 100000 in
theorem word_calls (n len : Int) (w : World) : Calls Tryz.prog 83 #[verdictV n len] w fun e w' => e = .returned (.int .i64 (wordN n len)) ∧ w' = w := by
 unfold verdictV wordN
 by_cases h0 : n = 0
 ·rw [if_pos h0, if_pos h0]
  have hta1 : ∀ (W : World), (Instr.typeAssert (.iface 208 (.int .i64 len)) 143 205 true).run Tryz.prog W = .ok (.tuple #[.int .i64 0, .bool false]) W := fun _ => by kernel_rfl
  have hta2 : ∀ (W : World), (Instr.typeAssert (.iface 208 (.int .i64 len)) 143 206 true).run Tryz.prog W = .ok (.tuple #[.int .i64 0, .bool false]) W := fun _ => by kernel_rfl
  clear h0
  go_enter Tryz.func83, Tryz.ntmps83
  go_wp2
  go_ret
  exact ⟨rfl, rfl⟩
 ·rw [if_neg h0, if_neg h0]
  by_cases h1 : n = len
  ·rw [if_pos h1, if_pos h1]
   have hta1 : ∀ (W : World), (Instr.typeAssert (.iface 205 (.int .i64 n)) 143 205 true).run Tryz.prog W = .ok (.tuple #[.int .i64 n, .bool true]) W := fun _ => by kernel_rfl
   clear h0 h1
   go_enter Tryz.func83, Tryz.ntmps83
   go_wp2
   go_ret
   exact ⟨rfl, rfl⟩
  ·rw [if_neg h1, if_neg h1]
   have hta1 : ∀ (W : World), (Instr.typeAssert (.iface 206 (.int .i64 len)) 143 205 true).run Tryz.prog W = .ok (.tuple #[.int .i64 0, .bool false]) W := fun _ => by kernel_rfl
   have hta2 : ∀ (W : World), (Instr.typeAssert (.iface 206 (.int .i64 len)) 143 206 true).run Tryz.prog W = .ok (.tuple #[.int .i64 len, .bool true]) W := fun _ => by kernel_rfl
   clear h0 h1
   go_enter Tryz.func83, Tryz.ntmps83
   go_wp2
   go_ret
   exact ⟨rfl, rfl⟩
end Go.Proofs.YtfijblhfgfefoaaGreatDoor.Rv
end
section
namespace Go.Proofs.YtfijblhfgfefoaaGreatDoor.Rv
open Go.RowKit Go.Shelf Go.IntWalk Go.Proofs.YtfijblhfgfefoaaGreatDoor.PAll Go.Proofs.YtfijblhfgfefoaaGreatDoorW.PrintWords Go.Proofs.YtfijblhfgfefoaaGreatDoorW.PrintLast
structure WdMem (L : List S27) (n : Int) (W0 W : World) (b2 b3 b4 : Bool) (u2 u3 u4 : Value) : Prop where
 b : Below W0.heap.size W0 W
 m2 : b2 = true → ∃ A c, u2 = .slice A L.length c ∧ Kd.C k27 W A L.length L
 m3 : b3 = true → u3 = verdictV n L.length
 m4 : b4 = true → u4 = .int .i64 (wordN n L.length)
 o3 : b3 = true → b2 = true
 o4 : b4 = true → b3 = true
theorem couldL_facts (s : Sk) (i : Nat) (hy : 0 ≤ s.years ∧ s.years ≤ 1000) (hr : s.rivers.length ≤ 1000) : (couldL s i).length ≤ 1000000 ∧ ∀ o ∈ couldL s i, 0 ≤ o.f0 ∧ o.f0 < s.rivers.length ∧ 0 ≤ o.f1 := by
 constructor
 ·refine Nat.le_trans (List.length_filter_le _ _) ?_
  unfold originsL
  rw [List.length_flatMap]
  have e : (fun r => (riverOrigins 1 s.years r).length) = fun _ => s.years.toNat := by
   funext r
   simp [riverOrigins, yearsOf]
  rw [e, List.map_const', List.sum_replicate_nat, List.length_range]
  have h5 : s.rivers.length * s.years.toNat ≤ 1000 * 1000 := Nat.mul_le_mul hr (by omega)
  omega
 ·intro o ho
  obtain ⟨h1, _⟩ := List.mem_filter.1 ho
  obtain ⟨a, b, c, d⟩ := mem_originsL h1
  exact ⟨a, b, by omega⟩
def OnePost (years : Int) (A1 : Option Addr) (n1 c1 : Nat) (A2 : Option Addr) (n2 c2 : Nat) (off : Int) (w : World) (e : Ending) (w' : World) : Prop :=
 ∃ g, e = .returned (.agg #[.int .i64 years, .slice A1 n1 c1, .slice (some ⟨g, 0, none⟩) 1 1, .slice none 0 0]) ∧ w'.heap[g]? = some (.cells #[.slice A2 n2 c2, .int .i64 off] 45 (0, 0)) ∧ Below w.heap.size w w'
set_option maxRecDepth 100000 in
set_option maxHeartbeats 1000000 in
theorem one_calls (years : Int) (A1 : Option Addr) (n1 c1 : Nat) (A2 : Option Addr) (n2 c2 : Nat) (off : Int) (w : World) :
 Calls Tryz.prog 81 #[.agg #[.int .i64 years, .slice A1 n1 c1], .agg #[.slice A2 n2 c2, .int .i64 off]] w (OnePost years A1 n1 c1 A2 n2 c2 off w) := by
 have hu24 := Tryz.underlying24
 have hu45 := Tryz.underlying45
 have hu138 := Tryz.underlying138
 go_enter Tryz.func81, Tryz.ntmps81
 go_wp2
 have h4 := blk_alloc (blk_new ((w.alloc (.cells #[.int .i64 years, .slice A1 n1 c1] 24)).alloc (.cells #[.slice A2 n2 c2, .int .i64 off] 45)) (.cells #[.int .i64 years, .slice A1 n1 c1, .slice (some ⟨w.heap.size + 1 + 1 + 1, 0, none⟩) 1 1, .slice none 0 0] 138)) (.cells #[.slice A2 n2 c2, .int .i64 off] 45)
 have h5 := blk_new (((w.alloc (.cells #[.int .i64 years, .slice A1 n1 c1] 24)).alloc (.cells #[.slice A2 n2 c2, .int .i64 off] 45)).alloc (.cells #[.int .i64 years, .slice A1 n1 c1, .slice (some ⟨w.heap.size + 1 + 1 + 1, 0, none⟩) 1 1, .slice none 0 0] 138)) (.cells #[.slice A2 n2 c2, .int .i64 off] 45)
 simp only [World.size_alloc] at h4 h5
 refine bodyPost_ret (results_cell_row rfl _ _ (w.heap.size + 1 + 1) 138 #[.int .i64 years, .slice A1 n1 c1, .slice (some ⟨w.heap.size + 1 + 1 + 1, 0, none⟩) 1 1, .slice none 0 0] (0, 0) _ rfl h4 Tryz.underlying138 rfl (by kernel_rfl)) rfl ⟨w.heap.size + 1 + 1 + 1, rfl, h5, ?_⟩
 exact (((below1 _).alloc (by simp) _).alloc (by simp; omega) _).alloc (by simp; omega) _
theorem C45_one {W : World} {g : Nat} {A2 : Option Addr} {c2 : Nat} {rings : List Int} {off : Int} (h : W.heap[g]? = some (.cells #[.slice A2 rings.length c2, .int .i64 off] 45 (0, 0))) (hr : Kd.C (Kd.int .i64) W A2 rings.length rings) (hc : rings.length ≤ c2) :
 Kd.C k45 W (some ⟨g, 0, none⟩) 1 [⟨rings, off⟩] := by
 refine ⟨rfl, by simp, fun _ => ⟨⟨g, 0, none⟩, rfl, fun j p hj => ?_⟩⟩
 have hj0 : j = 0 := by
  have := (List.getElem?_eq_some_iff.1 hj).1
  simp at this
  exact this
 subst hj0
 cases hj
 refine ⟨[.slice A2 rings.length c2, .int .i64 off], rfl, k45_mk W ⟨rings, off⟩ hc hr, fun i u hu => ?_⟩
 rw [Nat.zero_mul, Nat.zero_add, add_plain]
 match i, hu with
 |0, hu => cases hu; exact blk_cell h 0
 |1, hu => cases hu; exact blk_cell h 1
set_option maxRecDepth 100000 in
set_option maxHeartbeats 1000000 in
theorem Word_calls (years : Int) (A1 : Option Addr) (c1 : Nat) (rivers : List S43) (A2 : Option Addr) (c2 : Nat) (rings : List Int) (off : Int) (w : World) (hr1 : Kd.C k43 w A1 rivers.length rivers) (hc1 : rivers.length ≤ c1) (hr2 : Kd.C (Kd.int .i64) w A2 rings.length rings) (hc2 : rings.length ≤ c2)
 (hb1 : isBookB years rivers = true) (hb2 : isShellB rings off = true) :
 Calls Tryz.prog 27 #[.agg #[.int .i64 years, .slice A1 rivers.length c1], .agg #[.slice A2 rings.length c2, .int .i64 off]] w fun e w' => e = .returned (.tuple #[.int .i64 (wordN (nClosed rivers (couldL (sk years rivers [⟨rings, off⟩] []) 0)) (couldL (sk years rivers [⟨rings, off⟩] []) 0).length), .int .i64 0]) ∧ Below w.heap.size w w' := by
 have hu24 := Tryz.underlying24
 have hu45 := Tryz.underlying45
 have hu138 := Tryz.underlying138
 have HR1 := zk hr1
 have HR2 := zk hr2
 have HC := zk (And.intro hc1 hc2)
 have hbf := (book_facts hb1).1
 have hbr := (book_facts hb1).2.1
 have HLF := zk (couldL_facts (sk years rivers [⟨rings, off⟩] []) 0 ⟨by show (0 : Int) ≤ years; omega, by show years ≤ 1000; omega⟩ (by show rivers.length ≤ 1000; omega))
 have HG := zk (show goodB (sk years rivers [⟨rings, off⟩] []) = true by unfold goodB; simp only [sk, hb1, hb2, List.all_cons, List.all_nil, Bool.and_true, Bool.true_and, List.length_cons, List.length_nil]; rfl)
 have e79 := fun (W : World) (h : Kd.C k43 W A1 rivers.length rivers) => isBook_calls years A1 c1 rivers W h
 have e80 := fun (W : World) (h : Kd.C (Kd.int .i64) W A2 rings.length rings) => isShell_calls off A2 c2 rings W h
 rw [hb1] at e79
 rw [hb2] at e80
 have E79 := zk e79
 have E80 := zk e80
 obtain ⟨L, eL⟩ : ∃ L, L = couldL (sk years rivers [⟨rings, off⟩] []) 0 := ⟨_, rfl⟩
 rw [← eL] at HLF ⊢
 have EL := zk eL
 obtain ⟨n, en⟩ : ∃ n, n = nClosed rivers L := ⟨_, rfl⟩
 rw [← en]
 have EN := zk en
 clear hr1 hr2 hc1 hc2 hb1 hb2 e79 e80 eL en hbf hbr
 go_enter Tryz.func27, Tryz.ntmps27
 go_wp2_with (first
  |(go_at_call 79; (with_reducible refine (E79.out _ (Kd.C_alloc (Kd.C_alloc HR1.out _) _)).mono ?_); rintro e w1 ⟨rfl, hbw1⟩; have HB1 := zk (bt ((below1 (w := w) (.cells #[.int .i64 years, .slice A1 rivers.length c1] 24)).alloc (by simp) (.cells #[.slice A2 rings.length c2, .int .i64 off] 45)) hbw1); have k2 := blk_below (blk_alloc (blk_new w (.cells #[.int .i64 years, .slice A1 rivers.length c1] 24)) (.cells #[.slice A2 rings.length c2, .int .i64 off] 45)) hbw1; have k3 := blk_below (blk_new (w.alloc (.cells #[.int .i64 years, .slice A1 rivers.length c1] 24)) (.cells #[.slice A2 rings.length c2, .int .i64 off] 45)) hbw1; simp only [World.size_alloc] at k3; have K2 := zk k2; have K3 := zk k3; clear k2 k3 hbw1; have a20 : w1.cell? ⟨w.heap.size, 0, none⟩ = some (.int .i64 years) := blk_cell K2.out 0; have a21 : w1.cell? ⟨w.heap.size, 1, none⟩ = some (.slice A1 rivers.length c1) := blk_cell K2.out 1; have a30 : w1.cell? ⟨w.heap.size + 1, 0, none⟩ = some (.slice A2 rings.length c2) := blk_cell K3.out 0; have a31 : w1.cell? ⟨w.heap.size + 1, 1, none⟩ = some (.int .i64 off) := blk_cell K3.out 1; have l2 := blk_lt K2.out; have l3 := blk_lt K3.out)
  |(go_at_call 80; (with_reducible refine (E80.out _ (Kd.C_below HR2.out HB1.out)).mono ?_); rintro e w2 ⟨rfl, hbw2⟩; have HB2 := zk (bt HB1.out hbw2); replace K2 := zk (blk_below K2.out hbw2); replace K3 := zk (blk_below K3.out hbw2); clear hbw2 a20 a21 a30 a31 l2 l3; have a20 : w2.cell? ⟨w.heap.size, 0, none⟩ = some (.int .i64 years) := blk_cell K2.out 0; have a21 : w2.cell? ⟨w.heap.size, 1, none⟩ = some (.slice A1 rivers.length c1) := blk_cell K2.out 1; have a30 : w2.cell? ⟨w.heap.size + 1, 0, none⟩ = some (.slice A2 rings.length c2) := blk_cell K3.out 0; have a31 : w2.cell? ⟨w.heap.size + 1, 1, none⟩ = some (.int .i64 off) := blk_cell K3.out 1; have l2 := blk_lt K2.out; have l3 := blk_lt K3.out)
  |(go_at_call 81; (with_reducible refine (one_calls _ _ _ _ _ _ _ _ _).mono ?_); rintro e w3 ⟨g, rfl, hg, hbw3⟩; have HB3 := zk (bt HB2.out hbw3); have HG3 := zk hg; clear hg hbw3 a20 a21 a30 a31 l2 l3)
  )
 have H6 := zk (blk_new w3 (.cells #[.int .i64 years, .slice A1 rivers.length c1, .slice (some ⟨g, 0, none⟩) 1 1, .slice none 0 0] 138))
 have HB := zk (HB3.out.trans ((below1 (w := w3) (.cells #[.int .i64 years, .slice A1 rivers.length c1, .slice (some ⟨g, 0, none⟩) 1 1, .slice none 0 0] 138)).mono HB3.out.size))
 have HG4 := zk (blk_alloc HG3.out (.cells #[.int .i64 years, .slice A1 rivers.length c1, .slice (some ⟨g, 0, none⟩) 1 1, .slice none 0 0] 138))
 have HSZ := zk (show w3.heap.size < (w3.alloc (.cells #[.int .i64 years, .slice A1 rivers.length c1, .slice (some ⟨g, 0, none⟩) 1 1, .slice none 0 0] 138)).heap.size by simp)
 generalize w3.alloc (.cells #[.int .i64 years, .slice A1 rivers.length c1, .slice (some ⟨g, 0, none⟩) 1 1, .slice none 0 0] 138) = W0 at H6 HB HG4 HSZ ⊢
 generalize w3.heap.size = p6 at H6 HSZ ⊢
 have HF1 := zk (Kd.C_below HR1.out HB.out)
 have HF2 := zk (C45_one HG4.out (Kd.C_below HR2.out HB.out) HC.out.2)
 clear K2 K3 HG3 HB3 HB2 HB1
 refine region_lit (lit := ?lit) 5 [[],[],[1],[0,2],[3]]
  [some (.agg #[.int .i64 years, .slice A1 rivers.length c1, .slice (some ⟨g, 0, none⟩) 1 1, .slice none 0 0]), some (.agg #[.int .i64 years, .slice A1 rivers.length c1, .slice (some ⟨g, 0, none⟩) 1 1, .slice none 0 0]), none, none, none]
  (fun b u W' => Aside0 (WdMem L n W0 W' (b 2) (b 3) (b 4) (u 2) (u 3) (u 4))) ?hlit (by kernel_rfl) (by kernel_rfl) (by decide) ?_ ?_ ?_ ?_ ?_
 case hlit =>
  intro u
  simp only [List.take_succ_cons, List.take_zero, List.map_cons, List.map_nil, setAll, Nat.reduceAdd, Act.put, List.setIfInBounds_toArray, List.set_cons_succ, List.set_cons_zero]
  try rfl
 ·intro u w2 hw
  exact zk ⟨hw.below _, fun h => (by cases h), fun h => (by cases h), fun h => (by cases h), fun h => (by cases h), fun h => (by cases h)⟩
 ·intro i v b u W' hv h
  have h2 : (2 : Nat) ≠ i := by rintro rfl; cases hv
  have h3 : (3 : Nat) ≠ i := by rintro rfl; cases hv
  have h4 : (4 : Nat) ≠ i := by rintro rfl; cases hv
  rw [upd_ne h2, upf_ne h2, upd_ne h3, upf_ne h3, upd_ne h4, upf_ne h4]
  exact h
 ·intro i o' v hi ho hv b u W' hM hdep hd
  have H6W := zk (blk_below H6.out hM.out.b)
  obtain ⟨c_p6_0, f_p6_0, c_p6_1, f_p6_1, c_p6_2, f_p6_2, c_p6_3, f_p6_3, l_p6⟩ := cl4 (W := W') (p := p6) (a := .int .i64 years) (b := .slice A1 rivers.length c1) (c := .slice (some ⟨g, 0, none⟩) 1 1) (d := .slice none 0 0) H6W.out
  clear H6W hM hdep
  replace hi : i < 5 := hi
  match i, hi with
  |0, _ =>
   cases ho
   cases zs hv
   clear hd hv
   go_wp2
   exact zt
  |1, _ =>
   cases ho
   cases zs hv
   clear hd hv
   go_wp2
   exact zt
  |2, _ =>
   cases hv
  |3, _ =>
   cases hv
  |4, _ =>
   cases hv
 ·intro i o' hi ho hv b u W' hM hb hdep hq hd
  match i, hi with
  |0, _ => cases hv
  |1, _ => cases hv
  |2, _ =>
   cases ho
   have e1' := hd 1 _ (by decide) rfl
   have hb3 : b 3 = false := hq 3 (by decide) (by decide)
   have hb4 : b 4 = false := by
    cases h4 : b 4 with
    |false => rfl
    |true => have := hM.out.o4 h4; rw [hb3] at this; cases this
   have HBG : Aside0 (Calls Tryz.prog 82 #[.agg #[.int .i64 years, .slice A1 rivers.length c1, .slice (some ⟨g, 0, none⟩) 1 1, .slice none 0 0], .int .i64 0] W' fun e w'' => ∃ v : Value, e = .returned v ∧ Kd.R k27 27 w'' W'.heap.size (fun _ => True) v L ∧ Below W'.heap.size W' w'') :=
    ⟨by rw [EL.out]; exact could_calls ⟨years, A1, c1, rivers, some ⟨g, 0, none⟩, 1, [⟨rings, off⟩], none, 0, []⟩ (good_of (s := ⟨years, A1, c1, rivers, some ⟨g, 0, none⟩, 1, [⟨rings, off⟩], none, 0, []⟩) HG.out) ⟨HC.out.1, Nat.le_refl _, Nat.le_refl _⟩ 0 (by simp) W' (Kd.C_below HF1.out hM.out.b) (Kd.C_below HF2.out hM.out.b) ⟨rfl, by simp, fun h => absurd h (Nat.lt_irrefl 0)⟩⟩
   clear hd hv hq hdep hb
   go_wp2_with (go_at_call 82; (with_reducible refine HBG.out.mono ?_); rintro e W9 ⟨v, rfl, hR9, hB9⟩)
   obtain ⟨A9, c9, rfl, hle9, hC9⟩ := Kd.R_reads hR9
   refine ⟨_, by simp [upf, e1'], zk ⟨bt hM.out.b hB9, fun _ => ⟨A9, c9, upf_self _ _ _, hC9⟩, fun h => ?_, fun h => ?_, fun _ => upd_self _ _, fun h => ?_⟩⟩
   ·rw [upd_ne (by decide), hb3] at h; cases h
   ·rw [upd_ne (by decide), hb4] at h; cases h
   ·rw [upd_ne (by decide), hb4] at h; cases h
  |3, _ =>
   cases ho
   have e0' := hd 0 _ (by decide) rfl
   have hb4 : b 4 = false := hq 4 (by decide) (by decide)
   obtain ⟨A9, c9, e2', hC9⟩ := hM.out.m2 (hdep 2 (by decide))
   have hb2 := hdep 2 (by decide)
   have HBG : Aside0 (Calls Tryz.prog 84 #[.agg #[.int .i64 years, .slice A1 rivers.length c1, .slice (some ⟨g, 0, none⟩) 1 1, .slice none 0 0], .slice A9 L.length c9] W' fun e w'' => e = .returned (verdictV n L.length) ∧ Below W'.heap.size W' w'') :=
    ⟨by rw [EN.out]; exact verdict_calls ⟨years, A1, c1, rivers, some ⟨g, 0, none⟩, 1, [⟨rings, off⟩], none, 0, []⟩ ⟨HC.out.1, Nat.le_refl _, Nat.le_refl _⟩ A9 c9 L W' (Kd.C_below HF1.out hM.out.b) (Kd.C_below HF2.out hM.out.b) ⟨rfl, by simp, fun h => absurd h (Nat.lt_irrefl 0)⟩ hC9 HLF.out.1 HLF.out.2⟩
   have HM := zk hM.out
   have HC9 := zk hC9
   have HE2 := zk e2'
   clear hd hv hq hdep hb hM hC9
   go_wp2_with (go_at_call 84; (with_reducible refine HBG.out.mono ?_); rintro e W9 ⟨rfl, hB9⟩)
   refine ⟨_, by simp [upf, e0', e2'], zk ⟨bt HM.out.b hB9, fun _ => ⟨A9, c9, by rw [upf_ne (by decide)]; exact HE2.out, Kd.C_below HC9.out hB9⟩, fun _ => upf_self _ _ _, fun h => ?_, fun _ => by rw [upd_ne (by decide)]; exact hb2, fun h => ?_⟩⟩
   ·rw [upd_ne (by decide), hb4] at h; cases h
   ·rw [upd_ne (by decide), hb4] at h; cases h
  |4, _ =>
   cases ho
   have e3' := hM.out.m3 (hdep 3 (by decide))
   have hb3 := hdep 3 (by decide)
   have HBG := zk (word_calls n L.length W')
   have HM := zk hM.out
   have HE3 := zk e3'
   clear hd hv hq hdep hb hM
   go_wp2_with (go_at_call 83; (with_reducible refine HBG.out.mono ?_); rintro e W9 ⟨rfl, rfl⟩)
   refine ⟨_, by simp [upf, e3'], zk ⟨HM.out.b, fun h => ?_, fun h => ?_, fun _ => upf_self _ _ _, fun h => ?_, fun _ => ?_⟩⟩
   ·rw [upf_ne (by decide)]
    exact HM.out.m2 (by rw [upd_ne (by decide)] at h; exact h)
   ·rw [upf_ne (by decide)]
    exact HE3.out
   ·rw [upd_ne (by decide)] at h ⊢
    exact HM.out.o3 h
   ·rw [upd_ne (by decide)]
    exact hb3
  |j + 5, hi => exact absurd hi (by omega)
 ·intro b u W' hall hM hd
  have e4' := hM.out.m4 (hall 4 (by decide))
  have hbw := bt HB.out hM.out.b
  clear hall hd hM
  go_wp2
  go_ret2
  exact ⟨by simp, hbw⟩
end Go.Proofs.YtfijblhfgfefoaaGreatDoor.Rv
end
section
namespace Go.Proofs.YtfijblhfgfefoaaGreatDoor.Rv
open Go.RowKit Go.Shelf Go.IntWalk Go.Proofs.YtfijblhfgfefoaaGreatDoor.PAll Go.Proofs.YtfijblhfgfefoaaGreatDoorW.PrintWords Go.Proofs.YtfijblhfgfefoaaGreatDoorW.PrintLast
set_option maxRecDepth 100000 in
set_option maxHeartbeats 1000000 in
theorem Word_err (years : Int) (A1 : Option Addr) (c1 : Nat) (rivers : List S43) (A2 : Option Addr) (c2 : Nat) (rings : List Int) (off : Int) (w : World) (hr1 : Kd.C k43 w A1 rivers.length rivers) (hr2 : Kd.C (Kd.int .i64) w A2 rings.length rings)
 (hb : (isBookB years rivers && isShellB rings off) = false) :
 Calls Tryz.prog 27 #[.agg #[.int .i64 years, .slice A1 rivers.length c1], .agg #[.slice A2 rings.length c2, .int .i64 off]] w fun e w' => e = .returned (.tuple #[.int .i64 0, .int .i64 2]) ∧ Below w.heap.size w w' := by
 have hu24 := Tryz.underlying24
 have hu45 := Tryz.underlying45
 have HR1 := zk hr1
 have HR2 := zk hr2
 have e79 := fun (W : World) (h : Kd.C k43 W A1 rivers.length rivers) => isBook_calls years A1 c1 rivers W h
 have e80 := fun (W : World) (h : Kd.C (Kd.int .i64) W A2 rings.length rings) => isShell_calls off A2 c2 rings W h
 clear hr1 hr2
 generalize isBookB years rivers = b1 at e79 hb
 generalize isShellB rings off = b2 at e80 hb
 have E79 := zk e79
 have E80 := zk e80
 clear e79 e80
 cases b1 with
 |false =>
  clear hb
  go_enter Tryz.func27, Tryz.ntmps27
  go_wp2_with (go_at_call 79; (with_reducible refine (E79.out _ (Kd.C_alloc (Kd.C_alloc HR1.out _) _)).mono ?_); rintro e w1 ⟨rfl, hbw1⟩)
  go_ret2
  exact ⟨rfl, bt ((below1 _).alloc (by simp) _) hbw1⟩
 |true =>
  have h2 : b2 = false := by simpa using hb
  subst h2
  clear hb
  go_enter Tryz.func27, Tryz.ntmps27
  go_wp2_with (first
   |(go_at_call 79; (with_reducible refine (E79.out _ (Kd.C_alloc (Kd.C_alloc HR1.out _) _)).mono ?_); rintro e w1 ⟨rfl, hbw1⟩; have HB1 := zk (bt ((below1 (w := w) (.cells #[.int .i64 years, .slice A1 rivers.length c1] 24)).alloc (by simp) (.cells #[.slice A2 rings.length c2, .int .i64 off] 45)) hbw1); have k3 := blk_below (blk_new (w.alloc (.cells #[.int .i64 years, .slice A1 rivers.length c1] 24)) (.cells #[.slice A2 rings.length c2, .int .i64 off] 45)) hbw1; simp only [World.size_alloc] at k3; have K3 := zk k3; clear k3 hbw1; have a30 : w1.cell? ⟨w.heap.size + 1, 0, none⟩ = some (.slice A2 rings.length c2) := blk_cell K3.out 0; have a31 : w1.cell? ⟨w.heap.size + 1, 1, none⟩ = some (.int .i64 off) := blk_cell K3.out 1; have l3 := blk_lt K3.out)
   |(go_at_call 80; (with_reducible refine (E80.out _ (Kd.C_below HR2.out HB1.out)).mono ?_); rintro e w2 ⟨rfl, hbw2⟩))
  go_ret2
  exact ⟨rfl, bt HB1.out hbw2⟩
end Go.Proofs.YtfijblhfgfefoaaGreatDoor.Rv
namespace Go.Proofs.YtfijblhfgfefoaaGreatDoor.PAll
open Go.RowKit Go.Proofs.YtfijblhfgfefoaaGreatDoor.Rv Go.Proofs.YtfijblhfgfefoaaGreatDoorW.PrintWords Go.Proofs.YtfijblhfgfefoaaGreatDoorW.PrintLast
def oneL (years : Int) (rivers : List S43) (rings : List Int) (off : Int) : List S27 := couldL (sk years rivers [⟨rings, off⟩] []) 0
def river_Word.f (a0_0 : Int) (l0_1 : List (S43)) (l1_0 : List Int) (a1_1 : Int) : Option (Int × Int) :=
 if (isBookB a0_0 l0_1 && isShellB l1_0 a1_1) = true then some (wordN (nClosed l0_1 (oneL a0_0 l0_1 l1_0 a1_1)) (oneL a0_0 l0_1 l1_0 a1_1).length, 0) else some (0, 2)
theorem river_Word.calls (a0_0 : Int) (A0_1 : Option Addr) (c0_1 : Nat) (l0_1 : List (S43)) (A1_0 : Option Addr) (c1_0 : Nat) (l1_0 : List Int) (a1_1 : Int) (r1 : Int) (r2 : Int) (w : World) (hr0_1 : Kd.C k43 w A0_1 l0_1.length l0_1) (hc0_1 : l0_1.length ≤ c0_1) (hr1_0 : Kd.C (Kd.int .i64) w A1_0 l1_0.length l1_0) (hc1_0 : l1_0.length ≤ c1_0) (h : river_Word.f a0_0 l0_1 l1_0 a1_1 = some (r1, r2)) :
 Calls Tryz.prog 27 #[.agg #[.int .i64 a0_0, .slice A0_1 l0_1.length c0_1], .agg #[.slice A1_0 l1_0.length c1_0, .int .i64 a1_1]] w fun e w' => e = .returned (.tuple #[.int .i64 r1, .int .i64 r2]) ∧ Below w.heap.size w w' := by
 unfold river_Word.f at h
 split at h
 ·rename_i hc
  cases h
  rw [Bool.and_eq_true] at hc
  exact Word_calls _ _ _ _ _ _ _ _ _ hr0_1 hc0_1 hr1_0 hc1_0 hc.1 hc.2
 ·rename_i hc
  cases h
  exact Word_err _ _ _ _ _ _ _ _ _ hr0_1 hr1_0 (by simpa using hc)
end Go.Proofs.YtfijblhfgfefoaaGreatDoor.PAll
end
