/-
  RiverLess: a shell that was read with a lesser Off never has an origin more, and is never less surely of a closed year, or of none.
  Conditions: none beyond the row's own.
-/
import Derived.ChangeSame
import Derived.ChangeShapes
import Derived.Deep.Strs
import Derived.KernelRfl
import Derived.Test.YtfijblhfgfefoaaGreatDoorRows
import Derived.Test.YtfijblhfgfefoaaGreatDoorCards
import Derived.Test.YtfijblhfgfefoaaGreatDoorTie
import Derived.WalkKit
import Derived.ProofKit
import Derived.OpenShut
import Derived.ChangeOld
import Derived.Below
import Derived.LaidMore
import Derived.Stop.Joined
import Derived.SevenTiedAt
import Derived.JoinedOf
import Derived.Test.YtfijblhfgfefoaaGreatDoorQLess3
import Derived.Test.YtfijblhfgfefoaaGreatDoorQLess20
import Derived.Test.YtfijblhfgfefoaaGreatDoorQLess43
set_option linter.unusedVariables false
set_option linter.unusedSimpArgs false
section
namespace Go.Proofs.YtfijblhfgfefoaaGreatDoor.Rv
open Go.RowKit Go.Shelf Go.IntWalk Go.Proofs.YtfijblhfgfefoaaGreatDoor.PAll Go.Proofs.YtfijblhfgfefoaaGreatDoorW.PrintWords Go.Proofs.YtfijblhfgfefoaaGreatDoorW.PrintLast
set_option maxRecDepth 100000 in
set_option maxHeartbeats 4000000 in
theorem RiverLess_walk (years : Int) (A1 : Option Addr) (c1 : Nat) (rivers : List S43) (A2 : Option Addr) (c2 : Nat) (rings : List Int) (off less : Int) (w : World) (hr1 : Kd.C k43 w A1 rivers.length rivers) (hc1 : rivers.length ≤ c1) (hr2 : Kd.C (Kd.int .i64) w A2 rings.length rings) (hc2 : rings.length ≤ c2) :
 Calls Tryz.prog 8 #[.agg #[.int .i64 years, .slice A1 rivers.length c1], .agg #[.slice A2 rings.length c2, .int .i64 off], .int .i64 less] w fun e w' => e = .returned (.bool true) ∧ Below w.heap.size w w' := by
 have hu24 := Tryz.underlying24
 have hu45 := Tryz.underlying45
 have hu27 := Tryz.underlying27
 have hbf := fun h => slim_facts (l := rivers) h
 have E19 := zk (fun (W : World) (h : Kd.C k43 W A1 rivers.length rivers) => slim_walk years A1 c1 rivers W h)
 generalize slimB rivers = b at hbf E19
 have HR1 := zk hr1
 have HR2 := zk hr2
 have HC := zk (And.intro hc1 hc2)
 have H30 := zk (blk_alloc (blk_new w (.cells #[.int .i64 years, .slice A1 rivers.length c1] 24)) (.cells #[.slice A2 rings.length c2, .int .i64 off] 45))
 have h40 := blk_new (w.alloc (.cells #[.int .i64 years, .slice A1 rivers.length c1] 24)) (.cells #[.slice A2 rings.length c2, .int .i64 off] 45)
 have hm2 := Kd.C_max hr2
 simp only [World.size_alloc] at h40
 have H40 := zk h40
 clear h40
 by_cases hgood : b = true ∧ rings.length ≤ 7
 ·obtain ⟨rfl, h7⟩ := hgood
  obtain ⟨h5, h8⟩ := hbf rfl
  have E20 := zk (fun (W : World) (h : Kd.C k43 W A1 rivers.length rivers) => Book_walk years A1 c1 rivers W h)
  have E25 := zk (fun (W : World) (h : Kd.C (Kd.int .i64) W A2 rings.length rings) => Shell_walk A2 c2 rings off W h)
  have h7z : decide ((rings.length : Int) > 7) = false := by simp; omega
  by_cases hfine : isBookB years rivers = true ∧ isShellB rings off = true ∧ 0 ≤ less ∧ less ≤ off
  ·obtain ⟨hbk, hsh, hl0, hl1⟩ := hfine
   have hsf := shell_facts hsh
   have hw : wrap64 (off - less) = off - less := wrap64_in _ (by omega)
   have hsh2 : isShellB rings (off - less) = true := by
    have h9 := hsh
    unfold isShellB at h9 ⊢
    simp only [Bool.and_eq_true, inB_iff] at h9 ⊢
    exact ⟨⟨h9.1.1, by omega⟩, h9.2⟩
   have l18 := oneL_length rings off hbk
   have m18 := oneL_length rings (off - less) hbk
   have HSUB := zk (oneL_less hbk hsh hsh2 (by omega))
   have hfin : (oneL years rivers rings (off - less) = [] ∧ wordL rivers (oneL years rivers rings (off - less)) = 1) ∨ (oneL years rivers rings (off - less) ≠ [] ∧ (wordL rivers (oneL years rivers rings off) = 2 ∨ wordL rivers (oneL years rivers rings (off - less)) = wordL rivers (oneL years rivers rings off))) := by
    by_cases hne : oneL years rivers rings (off - less) = []
    ·exact .inl ⟨hne, wordL_never.2 (by rw [hne]; simp)⟩
    ·exact .inr ⟨hne, wordL_sub HSUB.out hne⟩
   have E26a := zk (fun (W : World) (h1 : Kd.C k43 W A1 rivers.length rivers) (h2 : Kd.C (Kd.int .i64) W A2 rings.length rings) => river_Could.calls years A1 c1 rivers A2 c2 rings off _ _ W h1 hc1 h2 hc2 (Could_f hbk hsh))
   have E26b := zk (fun (W : World) (h1 : Kd.C k43 W A1 rivers.length rivers) (h2 : Kd.C (Kd.int .i64) W A2 rings.length rings) => river_Could.calls years A1 c1 rivers A2 c2 rings (off - less) _ _ W h1 hc1 h2 hc2 (Could_f hbk hsh2))
   have E27a := zk (fun (W : World) (h1 : Kd.C k43 W A1 rivers.length rivers) (h2 : Kd.C (Kd.int .i64) W A2 rings.length rings) => river_Word.calls years A1 c1 rivers A2 c2 rings off _ _ W h1 hc1 h2 hc2 (Word_f hbk hsh))
   have E27b := zk (fun (W : World) (h1 : Kd.C k43 W A1 rivers.length rivers) (h2 : Kd.C (Kd.int .i64) W A2 rings.length rings) => river_Word.calls years A1 c1 rivers A2 c2 rings (off - less) _ _ W h1 hc1 h2 hc2 (Word_f hbk hsh2))
   rw [hbk] at E20
   rw [hsh] at E25
   generalize oneL years rivers rings off = l at E26a E27a l18 HSUB hfin
   generalize oneL years rivers rings (off - less) = m at E26b E27b m18 HSUB hfin
   generalize wordL rivers l = wl at E27a hfin
   generalize wordL rivers m = wv at E27b hfin
   have HF := zk hfin
   have E0 : decide (less < 0) = false := by simp; omega
   have E1 : decide (less > off) = false := by simp; omega
   have E30 : decide ((m.length : Int) > 30) = false := by simp; omega
   have HM18 := zk m18
   have HL18 := zk l18
   clear hbk hsh hl0 hl1 hsf hsh2 hfin hr1 hc1 hr2 hc2 h5 h8 hbf h7 l18 m18
   go_enter Tryz.func8, Tryz.ntmps8
   go_wp2_with (first
    |(go_at_call 26
      first
       |((with_reducible refine (E26b.out _ (Kd.C_below HR1.out HB.out) (Kd.C_below HR2.out HB.out)).mono ?_)
         rintro e w4 ⟨v, rfl, hR, hB⟩
         obtain ⟨Am, cm, rfl, hmc, hMK⟩ := Kd.R_reads hR
         replace HLK := zk (And.intro HLK.out.1 (Kd.C_below HLK.out.2 hB))
         have HMK := zk (And.intro hmc hMK)
         replace HB := zk (bt HB.out hB); replace H3 := zk (blk_below H3.out hB); replace H4 := zk (blk_below H4.out hB); (try replace H7 := zk (blk_below H7.out hB)); clear hB
         clear hR hmc hMK)
       |((with_reducible refine (E26a.out _ (Kd.C_below HR1.out (below_alloc HB.out _)) (Kd.C_below HR2.out (below_alloc HB.out _))).mono ?_)
         rintro e w4 ⟨v, rfl, hR, hB⟩
         obtain ⟨Al, cl, rfl, hlc, hLK⟩ := Kd.R_reads hR
         have HLK := zk (And.intro hlc hLK)
         have h7 := blk_below (blk_new w2 (.cells #[.slice A2 rings.length c2, .int .i64 (off - less)] 45)) hB
         replace H3 := zk (blk_below (blk_alloc H3.out (.cells #[.slice A2 rings.length c2, .int .i64 (off - less)] 45)) hB)
         replace H4 := zk (blk_below (blk_alloc H4.out (.cells #[.slice A2 rings.length c2, .int .i64 (off - less)] 45)) hB)
         replace HB := zk (bt (below_alloc HB.out _) hB)
         obtain ⟨p7, e7⟩ : ∃ p7, p7 = w2.heap.size := ⟨_, rfl⟩
         rw [← e7] at h7 ⊢
         have H7 := zk h7
         clear hR hlc hLK hB h7 e7)
      clear c30 f30 c31 f31 l3 c40 f40 c41 f41 l4
      obtain ⟨c30, f30, c31, f31, l3⟩ := cl2 H3.out; obtain ⟨c40, f40, c41, f41, l4⟩ := cl2 H4.out; (try clear c70 f70 c71 f71 l7); obtain ⟨c70, f70, c71, f71, l7⟩ := cl2 H7.out)
    |(go_at_call 27
      first
       |(with_reducible refine (E27a.out _ (Kd.C_below HR1.out HB.out) (Kd.C_below HR2.out HB.out)).mono ?_)
       |(with_reducible refine (E27b.out _ (Kd.C_below HR1.out HB.out) (Kd.C_below HR2.out HB.out)).mono ?_)
      rintro e w4 ⟨rfl, hB⟩
      replace HLK := zk (And.intro HLK.out.1 (Kd.C_below HLK.out.2 hB))
      replace HMK := zk (And.intro HMK.out.1 (Kd.C_below HMK.out.2 hB))
      replace HB := zk (bt HB.out hB); replace H3 := zk (blk_below H3.out hB); replace H4 := zk (blk_below H4.out hB); (try replace H7 := zk (blk_below H7.out hB)); clear hB
      clear c30 f30 c31 f31 l3 c40 f40 c41 f41 l4
      obtain ⟨c30, f30, c31, f31, l3⟩ := cl2 H3.out; obtain ⟨c40, f40, c41, f41, l4⟩ := cl2 H4.out; (try clear c70 f70 c71 f71 l7); obtain ⟨c70, f70, c71, f71, l7⟩ := cl2 H7.out)
    |(first | (go_at_call 19; (with_reducible refine (E19.out _ (Kd.C_alloc (Kd.C_alloc HR1.out _) _)).mono ?_); rintro e w2 ⟨rfl, hB⟩; have HB := zk (bt ((below1 (w := w) (.cells #[.int .i64 years, .slice A1 rivers.length c1] 24)).alloc (by simp) (.cells #[.slice A2 rings.length c2, .int .i64 off] 45)) hB); have H3 := zk (blk_below H30.out hB); have H4 := zk (blk_below H40.out hB); clear hB; obtain ⟨c30, f30, c31, f31, l3⟩ := cl2 H3.out; obtain ⟨c40, f40, c41, f41, l4⟩ := cl2 H4.out) | (go_at_call 20; (with_reducible refine (E20.out _ (Kd.C_below HR1.out HB.out)).mono ?_); rintro e w2 ⟨rfl, hB⟩; replace HB := zk (bt HB.out hB); replace H3 := zk (blk_below H3.out hB); replace H4 := zk (blk_below H4.out hB); (try replace H7 := zk (blk_below H7.out hB)); clear hB; clear c30 f30 c31 f31 l3 c40 f40 c41 f41 l4; obtain ⟨c30, f30, c31, f31, l3⟩ := cl2 H3.out; obtain ⟨c40, f40, c41, f41, l4⟩ := cl2 H4.out) | (go_at_call 25; (with_reducible refine (E25.out _ (Kd.C_below HR2.out HB.out)).mono ?_); rintro e w2 ⟨rfl, hB⟩; replace HB := zk (bt HB.out hB); replace H3 := zk (blk_below H3.out hB); replace H4 := zk (blk_below H4.out hB); (try replace H7 := zk (blk_below H7.out hB)); clear hB; clear c30 f30 c31 f31 l3 c40 f40 c41 f41 l4; obtain ⟨c30, f30, c31, f31, l3⟩ := cl2 H3.out; obtain ⟨c40, f40, c41, f41, l4⟩ := cl2 H4.out) | (go_at_call 24; (with_reducible refine (known_walk _).mono ?_); rintro e w2 ⟨rfl, hB⟩; replace HB := zk (bt HB.out hB); clear hB)))
   go_loopg [16] m.length (fun gg v16 wr => ∃ i : Nat, i ≤ m.length ∧ m.length - i ≤ gg ∧ v16 = .int .i64 i ∧ Aside0 (Below w4.heap.size w4 wr))
   case atStart => exact ⟨0, by omega, by omega, rfl, ⟨Below.refl _ _⟩⟩
   case round =>
    obtain ⟨i, hi, hgg, rfl, BW⟩ := hrel
    by_cases hlt : i < m.length
    ·have hltz : (i : Int) < (m.length : Int) := by omega
     have hMw := Kd.C_below HMK.out.2 BW.out
     obtain ⟨ad, hA, d0, d1⟩ := at_T27 hMw (i : Int) (by omega) (by omega)
     subst hA
     have e28 : hasB l (rd_T27 m i).f0 (rd_T27 m i).f1 = true := by
      rw [hasB_mem, rd27_at hlt]
      exact HSUB.out _ (List.getElem_mem hlt)
     have e28' := has_walk Al cl l (rd_T27 m i).f0 (rd_T27 m i).f1 wr (Kd.C_below HLK.out.2 BW.out) (by have := HL18.out; omega)
     rw [e28] at e28'
     have E28 := zk e28'
     clear e28'
     have HLT := zk hlt
     simp only [Int.toNat_natCast] at d0 d1
     clear hMw e28 hlt
     go_wp2_with (go_at_call 28; (with_reducible refine E28.out.mono ?_); rintro e w5 ⟨rfl, hB⟩; have HBW := zk (bt BW.out hB); clear hB)
     go_roundg (m.length - (i + 1))
     case measure => have := HLT.out; omega
     case rel => exact ⟨i + 1, by have := HLT.out; omega, Nat.le_refl _, by rw [wrap64_in _ (by have := HLT.out; have := HM18.out; omega)]; rfl, HBW⟩
    ·have hk2 : i = m.length := by omega
     subst hk2
     clear hlt
     have HBR := zk (bt HB.out BW.out)
     replace HB := HBR
     rcases HF.out with ⟨hm, hv⟩ | ⟨hm, hv⟩
     ·subst hm
      have hv' : decide (wv = 1) = true := by simpa using hv
      subst hv
      go_wp2_with (go_at_call 24; (with_reducible refine (known_walk _).mono ?_); rintro e w5 ⟨rfl, hB⟩; replace HB := zk (bt HB.out hB); clear hB)
      go_ret
      exact ⟨rfl, HB.out⟩
     ·have hm0 : ((m.length : Int) == 0) = false := by
       have : m.length ≠ 0 := fun e => hm (List.eq_nil_of_length_eq_zero e)
       simp; omega
      have hv2 : wl = 2 ∨ (wl ≠ 2 ∧ wv = wl) := by omega
      clear hm hv
      rcases hv2 with rfl | ⟨h2, rfl⟩
      ·go_wp2_with (go_at_call 24; (with_reducible refine (known_walk _).mono ?_); rintro e w5 ⟨rfl, hB⟩; replace HB := zk (bt HB.out hB); clear hB)
       go_ret
       exact ⟨rfl, HB.out⟩
      ·have h2' : (wv == 2) = false := by simpa using h2
       clear h2
       go_wp2_with (go_at_call 24; (with_reducible refine (known_walk _).mono ?_); rintro e w5 ⟨rfl, hB⟩; replace HB := zk (bt HB.out hB); clear hB)
       go_ret
       exact ⟨rfl, HB.out⟩
  ·generalize isBookB years rivers = b1 at E20 hfine
   generalize isShellB rings off = b2 at E25 hfine
   clear hr1 hc1 hr2 hc2 h5 h8 hbf h7
   obtain ⟨n0, en0⟩ : ∃ n0, n0 = decide (less < 0) := ⟨_, rfl⟩
   obtain ⟨n1, en1⟩ : ∃ n1, n1 = decide (less > off) := ⟨_, rfl⟩
   have hor : b1 = false ∨ (b1 = true ∧ b2 = false) ∨ (b1 = true ∧ b2 = true ∧ n0 = true) ∨ (b1 = true ∧ b2 = true ∧ n0 = false ∧ n1 = true) := by
    cases b1 <;> cases b2 <;> simp_all <;> omega
   have E0 := en0.symm
   have E1 := en1.symm
   clear hfine en0 en1
   rcases hor with rfl | ⟨rfl, rfl⟩ | ⟨rfl, rfl, rfl⟩ | ⟨rfl, rfl, rfl, rfl⟩
   all_goals
    go_enter Tryz.func8, Tryz.ntmps8
    go_wp2_with (first | (go_at_call 19; (with_reducible refine (E19.out _ (Kd.C_alloc (Kd.C_alloc HR1.out _) _)).mono ?_); rintro e w2 ⟨rfl, hB⟩; have HB := zk (bt ((below1 (w := w) (.cells #[.int .i64 years, .slice A1 rivers.length c1] 24)).alloc (by simp) (.cells #[.slice A2 rings.length c2, .int .i64 off] 45)) hB); have H3 := zk (blk_below H30.out hB); have H4 := zk (blk_below H40.out hB); clear hB; obtain ⟨c30, f30, c31, f31, l3⟩ := cl2 H3.out; obtain ⟨c40, f40, c41, f41, l4⟩ := cl2 H4.out) | (go_at_call 20; (with_reducible refine (E20.out _ (Kd.C_below HR1.out HB.out)).mono ?_); rintro e w2 ⟨rfl, hB⟩; replace HB := zk (bt HB.out hB); replace H3 := zk (blk_below H3.out hB); replace H4 := zk (blk_below H4.out hB); (try replace H7 := zk (blk_below H7.out hB)); clear hB; clear c30 f30 c31 f31 l3 c40 f40 c41 f41 l4; obtain ⟨c30, f30, c31, f31, l3⟩ := cl2 H3.out; obtain ⟨c40, f40, c41, f41, l4⟩ := cl2 H4.out) | (go_at_call 25; (with_reducible refine (E25.out _ (Kd.C_below HR2.out HB.out)).mono ?_); rintro e w2 ⟨rfl, hB⟩; replace HB := zk (bt HB.out hB); replace H3 := zk (blk_below H3.out hB); replace H4 := zk (blk_below H4.out hB); (try replace H7 := zk (blk_below H7.out hB)); clear hB; clear c30 f30 c31 f31 l3 c40 f40 c41 f41 l4; obtain ⟨c30, f30, c31, f31, l3⟩ := cl2 H3.out; obtain ⟨c40, f40, c41, f41, l4⟩ := cl2 H4.out) | (go_at_call 24; (with_reducible refine (known_walk _).mono ?_); rintro e w2 ⟨rfl, hB⟩; replace HB := zk (bt HB.out hB); clear hB))
    go_ret
    exact ⟨rfl, HB.out⟩
 ·clear hr1 hc1 hr2 hc2 hbf
  have hor : b = false ∨ (b = true ∧ decide ((rings.length : Int) > 7) = true) := by
   cases b
   ·exact .inl rfl
   ·right; simp at hgood; simp; omega
  clear hgood
  rcases hor with rfl | ⟨rfl, h7z⟩
  all_goals
   go_enter Tryz.func8, Tryz.ntmps8
   go_wp2_with (first | (go_at_call 19; (with_reducible refine (E19.out _ (Kd.C_alloc (Kd.C_alloc HR1.out _) _)).mono ?_); rintro e w2 ⟨rfl, hB⟩; have HB := zk (bt ((below1 (w := w) (.cells #[.int .i64 years, .slice A1 rivers.length c1] 24)).alloc (by simp) (.cells #[.slice A2 rings.length c2, .int .i64 off] 45)) hB); have H3 := zk (blk_below H30.out hB); have H4 := zk (blk_below H40.out hB); clear hB; obtain ⟨c30, f30, c31, f31, l3⟩ := cl2 H3.out; obtain ⟨c40, f40, c41, f41, l4⟩ := cl2 H4.out) | (go_at_call 20; (with_reducible refine (E20.out _ (Kd.C_below HR1.out HB.out)).mono ?_); rintro e w2 ⟨rfl, hB⟩; replace HB := zk (bt HB.out hB); replace H3 := zk (blk_below H3.out hB); replace H4 := zk (blk_below H4.out hB); (try replace H7 := zk (blk_below H7.out hB)); clear hB; clear c30 f30 c31 f31 l3 c40 f40 c41 f41 l4; obtain ⟨c30, f30, c31, f31, l3⟩ := cl2 H3.out; obtain ⟨c40, f40, c41, f41, l4⟩ := cl2 H4.out) | (go_at_call 25; (with_reducible refine (E25.out _ (Kd.C_below HR2.out HB.out)).mono ?_); rintro e w2 ⟨rfl, hB⟩; replace HB := zk (bt HB.out hB); replace H3 := zk (blk_below H3.out hB); replace H4 := zk (blk_below H4.out hB); (try replace H7 := zk (blk_below H7.out hB)); clear hB; clear c30 f30 c31 f31 l3 c40 f40 c41 f41 l4; obtain ⟨c30, f30, c31, f31, l3⟩ := cl2 H3.out; obtain ⟨c40, f40, c41, f41, l4⟩ := cl2 H4.out) | (go_at_call 24; (with_reducible refine (known_walk _).mono ?_); rintro e w2 ⟨rfl, hB⟩; replace HB := zk (bt HB.out hB); clear hB))
   go_ret
   exact ⟨rfl, HB.out⟩
end Go.Proofs.YtfijblhfgfefoaaGreatDoor.Rv
end
section
namespace Go.Proofs.YtfijblhfgfefoaaGreatDoor.Rv
open Go.RowKit Go.Shelf Go.IntWalk Go.Proofs.YtfijblhfgfefoaaGreatDoor.PAll Go.Proofs.YtfijblhfgfefoaaGreatDoorW.PrintWords Go.Proofs.YtfijblhfgfefoaaGreatDoorW.PrintLast
open Go.ChangeShapes Go.WideShapes
theorem cells_at {w : World} {base n : Nat} {a : Addr} {cs : List Value} (h : w.cells? base a n = some cs) : ∀ (i : Nat) u, cs[i]? = some u → w.cell? (a.add i) = some u := by
 obtain ⟨_, hl, hc⟩ := World.cells?_some h
 intro i u hu
 have hi : i < n := by rw [← hl]; exact (List.getElem?_eq_some_iff.1 hu).1
 rw [hc i hi, hu]
def Opens {α : Type} (P : Program) (t : TypeId) (d : Kd α) (Q : α → Prop) : Prop :=
 ∀ {H : Type} (enc : TypeId × Value → H) (W : World) (base : Nat) (spare : Nat → Bool) (held : Bool) (fuel : Nat) (cs : List Value) (x : DataW H × List MemPlace), DataW.trod enc P W base spare held fuel t cs = some x → ∃ a : α, d.K W a cs ∧ Q a
theorem opens_int {P : Program} {t : TypeId} {k : IntKind} (hu : P.underlying t = some (.int k)) : Opens P t (Kd.int k) (fun n => (Lit.int k n).wf = true) := by
 intro H enc W base spare held fuel cs x h
 obtain ⟨n, e1, _, e3⟩ := DataW.trod_int hu h
 exact ⟨n, e1, e3⟩
theorem list_of {α : Type} (R : Nat → α → Prop) : ∀ n : Nat, (∀ i, i < n → ∃ a, R i a) → ∃ l : List α, l.length = n ∧ ∀ (i : Nat) a, l[i]? = some a → R i a
 |0, _ => ⟨[], rfl, fun i a h => by simp at h⟩
 |n + 1, h => by
  obtain ⟨l, hl, hr⟩ := list_of R n (fun i hi => h i (by omega))
  obtain ⟨a, ha⟩ := h n (by omega)
  refine ⟨l ++ [a], by simp [hl], fun i b hb => ?_⟩
  rw [List.getElem?_append] at hb
  split at hb
  ·exact hr i b hb
  ·rename_i hlt
   have hi := (List.getElem?_eq_some_iff.1 hb).1
   simp at hi
   have e : i = n := by omega
   subst e
   have : b = a := by
    rw [hl] at hb
    simpa using hb.symm
   rw [this]; exact ha
theorem opens_slice {α : Type} {P : Program} {t e : TypeId} {d : Kd α} {Q : α → Prop} (e' : Nat) (ho : Opens P e d Q) (hu : P.underlying t = some (.slice e)) (hc : P.cellsOf e = d.sz) : Opens P t (Kd.slice e' d) (fun l => ∀ a ∈ l, Q a) := by
 intro H enc W base spare held fuel cs x h
 rcases DataW.trod_slice hu h with ⟨rfl, _⟩ | ⟨a, len, cap, elems, rest, n, _, rfl, _, hb, hl, hm, hlen, hel, _, _⟩
 ·exact ⟨[], ⟨none, 0, rfl, Nat.le_refl _, Kd.C_nil d W⟩, by simp⟩
 ·obtain ⟨l, hll, hR⟩ := list_of (fun i y => ∃ c, W.cells? base (a.add (i * P.cellsOf e)) (P.cellsOf e) = some c ∧ d.K W y c ∧ Q y) len (fun i hi => by
   have h1 := hel i hi
   have hi' : i < elems.length := by omega
   rw [List.getElem?_eq_getElem hi'] at h1
   obtain ⟨c, h2, h3⟩ := Option.bind_eq_some_iff.1 h1
   obtain ⟨y, h4, h5⟩ := ho enc W base spare held n c _ h3
   exact ⟨y, c, h2, h4, h5⟩)
  refine ⟨l, ⟨some a, cap, by rw [hll], by omega, ⟨rfl, ?_, fun _ => ⟨a, rfl, fun j p hj => ?_⟩⟩⟩, fun y hy => ?_⟩
  ·rw [hll]; unfold maxLen at hm; omega
  ·obtain ⟨c, h1, h2, _⟩ := hR j p hj
   refine ⟨c, d.K_len h2, h2, fun i u hu' => ?_⟩
   have := cells_at h1 i u hu'
   rwa [Addr.add_add, hc] at this
  ·obtain ⟨j, hj⟩ := List.getElem?_of_mem hy
   obtain ⟨c, _, _, h3⟩ := hR j y hj
   exact h3
theorem opens_pair {α β : Type} {P : Program} {t : TypeId} {f0 f1 : Field} {d0 : Kd α} {d1 : Kd β} {Q0 : α → Prop} {Q1 : β → Prop} (h0 : Opens P f0.type d0 Q0) (h1 : Opens P f1.type d1 Q1) (hu : P.underlying t = some (.struct #[f0, f1]))
 (o0 : f0.offset = 0) (o1 : f1.offset = d0.sz) (c0 : P.cellsOf f0.type = d0.sz) (c1 : P.cellsOf f1.type = d1.sz) (ct : P.cellsOf t = d0.sz + d1.sz) : Opens P t (Kd.pair d0 d1) (fun x => Q0 x.1 ∧ Q1 x.2) := by
 intro H enc W base spare held fuel cs x h
 obtain ⟨y0, y1, n, _, hl, e0, e1⟩ := trod_struct2 hu h
 obtain ⟨a, ha, qa⟩ := h0 enc W base spare held n _ _ e0
 obtain ⟨b, hb, qb⟩ := h1 enc W base spare held n _ _ e1
 rw [o0, c0] at ha
 rw [o1, c1] at hb
 refine ⟨(a, b), ⟨_, _, ?_, ha, hb⟩, qa, qb⟩
 rw [List.drop_zero, List.take_of_length_le (l := cs.drop d0.sz) (by rw [List.length_drop, hl, ct]; omega)]
 exact (List.take_append_drop _ _).symm
theorem three_parts (cs : List Value) (a b c : Nat) (h : cs.length = a + (b + c)) : cs = (cs.drop 0).take a ++ ((cs.drop a).take b ++ (cs.drop (a + b)).take c) := by
 rw [List.drop_zero, List.take_of_length_le (l := cs.drop (a + b)) (by rw [List.length_drop, h]; omega), ← List.drop_drop, List.take_append_drop, List.take_append_drop]
theorem opens_triple {α β γ : Type} {P : Program} {t : TypeId} {f0 f1 f2 : Field} {d0 : Kd α} {d1 : Kd β} {d2 : Kd γ} {Q0 : α → Prop} {Q1 : β → Prop} {Q2 : γ → Prop} (h0 : Opens P f0.type d0 Q0) (h1 : Opens P f1.type d1 Q1) (h2 : Opens P f2.type d2 Q2) (hu : P.underlying t = some (.struct #[f0, f1, f2]))
 (o0 : f0.offset = 0) (o1 : f1.offset = d0.sz) (o2 : f2.offset = d0.sz + d1.sz) (c0 : P.cellsOf f0.type = d0.sz) (c1 : P.cellsOf f1.type = d1.sz) (c2 : P.cellsOf f2.type = d2.sz) (ct : P.cellsOf t = d0.sz + (d1.sz + d2.sz)) : Opens P t (Kd.pair d0 (Kd.pair d1 d2)) (fun x => Q0 x.1 ∧ Q1 x.2.1 ∧ Q2 x.2.2) := by
 intro H enc W base spare held fuel cs x h
 obtain ⟨y0, y1, y2, n, _, hl, e0, e1, e2⟩ := Go.Deep.trod_struct3 hu h
 obtain ⟨a, ha, qa⟩ := h0 enc W base spare held n _ _ e0
 obtain ⟨b, hb, qb⟩ := h1 enc W base spare held n _ _ e1
 obtain ⟨c, hc, qc⟩ := h2 enc W base spare held n _ _ e2
 rw [o0, c0] at ha
 rw [o1, c1] at hb
 rw [o2, c2] at hc
 exact ⟨(a, b, c), ⟨_, _, three_parts cs _ _ _ (by rw [hl, ct]), ha, _, _, rfl, hb, hc⟩, qa, qb, qc⟩
theorem opens_iso {α β : Type} {P : Program} {t : TypeId} {d : Kd α} {Q : α → Prop} (f : β → α) (g : α → β) (fg : ∀ a, f (g a) = a) (h : Opens P t d Q) : Opens P t (Kd.iso d f) (fun x => Q (f x)) := by
 intro H enc W base spare held fuel cs x hx
 obtain ⟨a, ha, qa⟩ := h enc W base spare held fuel cs x hx
 refine ⟨g a, ?_, by show Q (f (g a)); rw [fg]; exact qa⟩
 show d.K W (f (g a)) cs
 rw [fg]; exact ha
theorem opens_imp {α : Type} {P : Program} {t : TypeId} {d : Kd α} {Q Q' : α → Prop} (h : Opens P t d Q) (hq : ∀ a, Q a → Q' a) : Opens P t d Q' := by
 intro H enc W base spare held fuel cs x hx
 obtain ⟨a, ha, qa⟩ := h enc W base spare held fuel cs x hx
 exact ⟨a, ha, hq a qa⟩
theorem oi : Opens Tryz.prog 3 (Kd.int .i64) (fun n => (Lit.int .i64 n).wf = true) := opens_int Tryz.underlying3
theorem o47 : Opens Tryz.prog 47 k47 (fun _ => True) := opens_imp (opens_iso (fun x : S47 => (x.f0, x.f1)) (fun p => ⟨p.1, p.2⟩) (fun _ => rfl) (opens_pair oi oi Tryz.underlying47 rfl rfl (by kernel_rfl) (by kernel_rfl) (by kernel_rfl))) (fun _ _ => trivial)
theorem o41 : Opens Tryz.prog 41 (Kd.slice 47 k47) (fun _ => True) := opens_imp (opens_slice 47 o47 Tryz.underlying41 (by kernel_rfl)) (fun _ _ => trivial)
theorem o28 : Opens Tryz.prog 28 (Kd.slice 3 (Kd.int .i64)) (fun l => ∀ n ∈ l, (Lit.int .i64 n).wf = true) := opens_slice 3 oi Tryz.underlying28 (by kernel_rfl)
theorem o43 : Opens Tryz.prog 43 k43 (fun _ => True) := opens_imp (opens_iso (fun x : S43 => (x.f0, x.f1, x.f2)) (fun p => ⟨p.1, p.2.1, p.2.2⟩) (fun _ => rfl) (opens_triple o41 oi oi Tryz.underlying43 rfl rfl rfl (by kernel_rfl) (by kernel_rfl) (by kernel_rfl) (by kernel_rfl))) (fun _ _ => trivial)
theorem o22 : Opens Tryz.prog 22 (Kd.slice 43 k43) (fun _ => True) := opens_imp (opens_slice 43 o43 Tryz.underlying22 (by kernel_rfl)) (fun _ _ => trivial)
theorem o24 : Opens Tryz.prog 24 k24 (fun x => (Lit.int .i64 x.f0).wf = true) := opens_imp (opens_iso (fun x : S24 => (x.f0, x.f1)) (fun p => ⟨p.1, p.2⟩) (fun _ => rfl) (opens_pair oi o22 Tryz.underlying24 rfl rfl (by kernel_rfl) (by kernel_rfl) (by kernel_rfl))) (fun _ h => h.1)
theorem o45 : Opens Tryz.prog 45 k45 (fun x => (Lit.int .i64 x.f1).wf = true) := opens_imp (opens_iso (fun x : S45 => (x.f0, x.f1)) (fun p => ⟨p.1, p.2⟩) (fun _ => rfl) (opens_pair o28 oi Tryz.underlying45 rfl rfl (by kernel_rfl) (by kernel_rfl) (by kernel_rfl))) (fun _ h => h.2)
theorem open_kind {H : Type} {enc : TypeId × Value → H} {W : World} {base : Nat} {spare : Nat → Bool} {held : Bool} {t : TypeId} {v : Value} {dd : DataW H} {ps : List MemPlace} {α : Type} {d : Kd α} {Q : α → Prop} (ho : Opens Tryz.prog t d Q) (h : DataW.Trod enc Tryz.prog W base spare held t v dd ps) : ∃ a : α, d.K W a v.cells.toList ∧ Q a := by
 obtain ⟨fuel, hf⟩ := h
 exact ho enc W base spare held fuel _ _ hf
end Go.Proofs.YtfijblhfgfefoaaGreatDoor.Rv
end
section
namespace Go.Proofs.YtfijblhfgfefoaaGreatDoor.riverLess
open Go Go.ChangeShapes Go.WideShapes Go.ChangeAt Go.WideMaps Go.WideElems Go.RowKit Go.Proofs.YtfijblhfgfefoaaGreatDoor.Rv Go.Proofs.YtfijblhfgfefoaaGreatDoor.PAll
theorem own : ownKnob Tryz.prog.godebug = none := by kernel_rfl
theorem laidOut : laidOutB Tryz.prog = true := by kernel_rfl
abbrev laid3 {H : Type} : List (String × DataW H) := [("math/bits.deBruijn32tab", Rows.laid_math_bits_deBruijn32tab), ("math/bits.deBruijn64tab", Rows.laid_math_bits_deBruijn64tab), ("internal/strconv.uint64pow10", Rows.laid_internal_strconv_uint64pow10)]
theorem door_met (os : Os) (args : Array Value) : laidMetH Tryz.prog laid3 ((World.doorLaid Tryz.prog 400 os).forCall (fun _ _ => 0) ⟨#[], args, []⟩).memory :=
 laidMetH_of_parts3 (fuel := 8) (laidMet_of_run' 8 (by kernel_rfl) (by kernel_rfl)) (by kernel_rfl) (by kernel_rfl)
set_option maxRecDepth 100000 in
theorem lifted (os : Os) (started : os.Started) (H : Type) (enc : TypeId × Value → H) :
 ReturnsInHanded {} Tryz.checked os 8 .any (fun w args => (Rows.riverLessSpec.pre enc Tryz.prog Tryz.f8 [] false w args ∧ laidMetH Tryz.prog laid3 w) ∧ sizedMet enc Tryz.prog Tryz.f8 (OpenSpec.ofChange Rows.riverLessSpec) false w args)
  (Rows.riverLessSpec.post enc Tryz.prog Tryz.f8 false true false false) := by
 refine returnsInHanded_of_change_and (C := Tryz.checked) (X := fun w _ => laidMetH Tryz.prog laid3 w) (fun _ _ _ hh h => h.of_heap hh) own started (by kernel_rfl) Tryz.func8
  (ChangeSpec.witness_shaped (enc := enc) (C := Tryz.checked) (os := os) (X := fun w _ => laidMetH Tryz.prog laid3 w) false (World.doorLaid Tryz.prog 400 os) #[.agg #[.int .i64 0, .slice none 0 0], .agg #[.slice none 0 0, .int .i64 0], .int .i64 0] 8 rfl (World.shaped_of_RefB (by kernel_rfl) (by kernel_rfl)) (by kernel_rfl) (by kernel_rfl) (by kernel_rfl) (door_met os _)) ?_
 intro W base args ds gs before hval0 hW _ _ _ _
 have hval : ∀ (j : Nat) t v, Tryz.f8.params[j]? = some t → args[j]? = some v → Value.okWide Tryz.prog W .any base t v := hval0
 have hW' := hW
 obtain ⟨p, q, hA0, hV, rfl, hfz, hnd⟩ := hW
 have hA : DataW.TrodAll enc Tryz.prog W 0 (fun _ => true) true Tryz.f8.params.toList args.toList ds p := hA0
 rw [Tryz.params8] at hA hval
 obtain ⟨v0, vs0, d0, ds0, p0, q0, hargs, rfl, rfl, h0, r0⟩ := trodAll_cons hA
 obtain ⟨v1, vs1, d1, ds1, p1, q1, rfl, rfl, rfl, h1, r1⟩ := trodAll_cons r0
 obtain ⟨v2, vs2, d2, ds2, p2, q2, rfl, rfl, rfl, h2, r2⟩ := trodAll_cons r1
 obtain ⟨rfl, rfl, rfl⟩ := trodAll_nil r2
 obtain rfl : args = #[v0, v1, v2] := by cases args; simp_all
 obtain ⟨rfl, rfl⟩ := trodVars_none hV
 have k0 := h0
 have lt0 : ∀ x ∈ p0, x.block < W.heap.size := by obtain ⟨m, hm⟩ := k0; exact DataW.trod_lt m _ _ _ hm
 obtain ⟨c0, rfl, _⟩ := okWide_struct Tryz.underlying24 (hval 0 24 v0 rfl rfl)
 obtain ⟨x0, hk0, hq0⟩ := open_kind o24 h0
 obtain ⟨A0, e0, he0, hl0, hc0⟩ := k24_open hk0
 obtain rfl : c0 = #[.int .i64 x0.f0, .slice A0 x0.f1.length e0] := by
  have h : c0.toList = _ := he0
  exact Array.toList_inj.1 h
 have k1 := h1
 have lt1 : ∀ x ∈ p1, x.block < W.heap.size := by obtain ⟨m, hm⟩ := k1; exact DataW.trod_lt m _ _ _ hm
 obtain ⟨c1, rfl, _⟩ := okWide_struct Tryz.underlying45 (hval 1 45 v1 rfl rfl)
 obtain ⟨x1, hk1, hq1⟩ := open_kind o45 h1
 obtain ⟨A1, e1, he1, hl1, hc1⟩ := k45_open hk1
 obtain rfl : c1 = #[.slice A1 x1.f0.length e1, .int .i64 x1.f1] := by
  have h : c1.toList = _ := he1
  exact Array.toList_inj.1 h
 obtain ⟨a2, rfl, rfl, rfl, w2⟩ := open_int Tryz.underlying3 (hval 2 3 v2 rfl rfl) h2
 clear hA0 hval0
 refine (RiverLess_walk x0.f0 A0 e0 x0.f1 A1 e1 x1.f0 x1.f1 a2 W hc0 hl0 hc1 hl1).mono fun e W' he => ?_
 obtain ⟨rfl, bel⟩ := he
 exact ⟨_, rfl, _, _, _, [], _, [], hW', trodAll_mk1 (shut_bool Tryz.underlying4 _), (trodAll_cons_mk (Below.trod laidOut (by kernel_rfl) (of_decide_eq_true (by kernel_rfl)) k0 bel lt0) (trodAll_cons_mk (Below.trod laidOut (by kernel_rfl) (of_decide_eq_true (by kernel_rfl)) k1 bel lt1) (trodAll_cons_mk (shut_int Tryz.underlying3 w2) trodAll_mk0))), rfl, bel.frame _, fun h => by cases h⟩
theorem j0 : (Rows.riverLessRow.wf (OpenSpec.ofChange Rows.riverLessSpec)) = true := by kernel_rfl
theorem j1 : (laidOutB Tryz.prog) = true := by kernel_rfl
theorem j2 : (mapsRowed Tryz.prog) = true := by kernel_rfl
theorem j3 : (Tryz.f8.params.all (Tryz.prog.readableRec ·)) = true := by kernel_rfl
theorem j4 : (namedTie Tryz.prog Rows.riverLessRow.named Rows.riverLessSpec.vars) = true := by kernel_rfl
theorem j5 : ((Rows.riverLessRow.stops == [])) = true := by kernel_rfl
theorem j6 : ((Tryz.prog.stops == [])) = true := by kernel_rfl
theorem j7 : ((Rows.riverLessRow.knobs == [])) = true := by kernel_rfl
theorem j8 : ((Tryz.prog.stopKnobs == [])) = true := by kernel_rfl
theorem j9 : ((Rows.riverLessRow.inPlace == Tryz.prog.inPlace 8)) = true := by kernel_rfl
theorem j10 : ((Rows.riverLessRow.unfollowed == Tryz.prog.unfollowed 8)) = true := by kernel_rfl
theorem j11 : ((Rows.riverLessRow.recurses == Tryz.prog.recurses 8)) = true := by kernel_rfl
theorem j12 : ((Rows.riverLessRow.named == Tryz.prog.varsNamed 8)) = true := by kernel_rfl
theorem j13 : ((Rows.riverLessRow.maps == (Tryz.f8.params.toList ++ Rows.riverLessSpec.plain.varTypes Tryz.prog).any (Tryz.prog.mapsRec ·))) = true := by kernel_rfl
theorem j14 : ((Rows.riverLessRow.ifaces == (Tryz.f8.params.toList ++ Rows.riverLessSpec.plain.varTypes Tryz.prog).any (Tryz.prog.ifacesRec ·))) = true := by kernel_rfl
theorem j15 : ((Rows.riverLessRow.mapsOut == Tryz.prog.mapsAmong Tryz.f8.resultTypes.toList)) = true := by kernel_rfl
theorem j16 : ((Rows.riverLessRow.loops == (Tryz.f8.params.toList ++ Rows.riverLessSpec.plain.varTypes Tryz.prog).any (Tryz.prog.loopsFrom ·))) = true := by kernel_rfl
theorem j17 : ((Rows.riverLessRow.wideKeys == (Tryz.f8.params.toList ++ Rows.riverLessSpec.plain.varTypes Tryz.prog ++ Tryz.f8.resultTypes.toList).any (Tryz.prog.wideKeysFrom ·))) = true := by kernel_rfl
theorem j18 : (Rows.riverLessSpec.vars.all (Tryz.prog.varReadable ·)) = true := by kernel_rfl
theorem j19 : (Tryz.f8.resultTypes.all (fun t => Tryz.prog.readableRec t && decide (t < Tryz.prog.types.size))) = true := by kernel_rfl
theorem j20 : ((Rows.riverLessRow.ifacesOut == Tryz.f8.resultTypes.toList.any (Tryz.prog.ifacesRec ·))) = true := by kernel_rfl
theorem j21 : ((Rows.riverLessRow.loopsOut == Tryz.f8.resultTypes.toList.any (Tryz.prog.loopsFrom ·))) = true := by kernel_rfl
theorem j22 : ((Rows.riverLessRow.plainKeys == Tryz.prog.plainKeys)) = true := by kernel_rfl
theorem j23 : (Rows.riverLessRow.shortTexts.isNone) = true := by kernel_rfl
theorem j24 : (Tryz.prog.stopsHeard) = true := by kernel_rfl
theorem j25 : (Tryz.prog.mayEnter) = true := by kernel_rfl
theorem j26 : ((Rows.riverLessRow.lifted == Tryz.prog.liftsFinal)) = true := by kernel_rfl
theorem j27 : ((Tryz.prog.make == some Rows.riverLessRow.make)) = true := by kernel_rfl
theorem j28 : ((Rows.riverLessRow.kinds == (if Rows.riverLessRow.domain.isEmpty then [] else Tryz.f8.params.toList.map fun t => match Tryz.prog.underlying t with | some (.int k) => some k | _ => none))) = true := by kernel_rfl
theorem j29 : ((Rows.riverLessRow.pinned == Rows.riverLessRow.pinnedBy)) = true := by kernel_rfl
theorem j30 : ((Rows.riverLessRow.veiled == (Tryz.f8.params.toList ++ Rows.riverLessSpec.plain.varTypes Tryz.prog ++ Tryz.f8.resultTypes.toList).any (Tryz.prog.veiledRec ·))) = true := by kernel_rfl
theorem j31 : (Rows.riverLessRow.veiledFits Tryz.prog Tryz.f8.params.toList (Tryz.f8.params.toList ++ Rows.riverLessSpec.plain.varTypes Tryz.prog ++ Tryz.f8.resultTypes.toList)) = true := by kernel_rfl
theorem and_i {a b : Bool} (h : a = true) (k : b = true) : (a && b) = true := by rw [h, k]; rfl
set_option maxRecDepth 100000 in
theorem joined : joinedFacts Tryz.prog 8 Tryz.f8 Rows.riverLessSpec Rows.riverLessRow = true := by
 unfold joinedFacts
 exact (and_i (and_i (and_i (and_i (and_i (and_i (and_i (and_i (and_i (and_i (and_i (and_i (and_i (and_i (and_i (and_i (and_i (and_i (and_i (and_i (and_i (and_i (and_i (and_i (and_i (and_i (and_i (and_i (and_i (and_i (and_i j0 j1) j2) j3) j4) j5) j6) j7) j8) j9) j10) j11) j12) j13) j14) j15) j16) j17) j18) j19) j20) j21) j22) j23) j24) j25) j26) j27) j28) j29) j30) j31)
theorem named : Tryz.prog.funcNamed "nacre/nacrelaw08.RiverLess" = some 8 := by kernel_rfl
theorem wrap : Tryz.f8.isWrapper Tryz.prog Rows.riverLessRow.wrapper Rows.riverLessRow.mainSum := by unfold Func.isWrapper; first | (rw [if_pos (by decide +kernel)]; kernel_rfl) | (rw [if_neg (by decide +kernel)]; exact ⟨rfl, rfl⟩)
theorem inst : Tryz.f8.isInstance Tryz.prog Rows.riverLessRow.origin Rows.riverLessRow.targs := of_decide_eq_true (by kernel_rfl)
theorem row_holds : Rows.RiverLessSaid :=
 OpenClaim.holds_of_wide 8 Tryz.f8 rfl rfl rfl rfl rfl rfl rfl ⟨rfl, rfl, rfl, rfl, rfl⟩ rfl rfl rfl rfl rfl named Tryz.func8 joined inst wrap (fun os started H enc _ => lifted os started H enc)
theorem wfT : Rows.riverLessRow.wfByText (OpenSpec.ofChange Rows.riverLessSpec) = true := by kernel_rfl
theorem main_ : Tryz.pinned.checked.prog.mainIs = some (true, "7754ac8858e1772028bdb0db0c61c93bc11181dda70b6d528e31e29c597c995f".toList) := by kernel_rfl
theorem looks_ : true = Tryz.pinned.checked.prog.looks [] := by kernel_rfl
theorem stand_ : ([24, 45, 3].all fun u => !Tryz.prog.wantsStandIn u) = true := by kernel_rfl
theorem goes_ : false = Rows.riverLessRow.goesBy Tryz.pinned.checked.prog := by kernel_rfl
theorem card_holds : Rows.RiverLessCardSaid :=
 Claim7.holds_tied_plain_at .later [] [.data, .data, .data] true (true, "7754ac8858e1772028bdb0db0c61c93bc11181dda70b6d528e31e29c597c995f") true
  row_holds (fun _ h => by cases h) wfT (fun _ h => by cases h) riverLess_row_tie rfl ⟨rfl, rfl⟩ main_ rfl
  (fun f fn hf hfn => by
    obtain rfl : f = 8 := Option.some.inj (named.symm.trans hf) |>.symm
    obtain rfl : fn = Tryz.f8 := (Option.some.inj (Tryz.func8.symm.trans hfn)).symm
    exact ⟨looks_, fun j t ht => by
     rw [Tryz.params8] at ht
     have hm : t ∈ [24, 45, 3] := by simpa using Array.mem_of_getElem? ht
     exact (show Tryz.prog.wantsStandIn t = false by simpa using List.all_eq_true.1 stand_ t hm)⟩)
  goes_
end Go.Proofs.YtfijblhfgfefoaaGreatDoor.riverLess
namespace Go.Proofs.YtfijblhfgfefoaaGreatDoor
theorem riverLess_holds : Rows.RiverLessCardSaid := riverLess.card_holds
end Go.Proofs.YtfijblhfgfefoaaGreatDoor
end
