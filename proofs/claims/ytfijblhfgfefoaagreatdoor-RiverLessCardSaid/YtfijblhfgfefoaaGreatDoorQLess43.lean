/- A part of the proof: words, contracts of functions, and their walks. -/
import Derived.Test.YtfijblhfgfefoaaGreatDoorQLess3
import Derived.Test.YtfijblhfgfefoaaGreatDoorQLess42
set_option linter.unusedVariables false
set_option linter.unusedSimpArgs false
section
namespace Go.Proofs.YtfijblhfgfefoaaGreatDoor.Rv
open Go.RowKit Go.Shelf Go.IntWalk Go.Proofs.YtfijblhfgfefoaaGreatDoor.PAll Go.Proofs.YtfijblhfgfefoaaGreatDoorW.PrintWords Go.Proofs.YtfijblhfgfefoaaGreatDoorW.PrintLast
def Stable (Q : World → Prop) : Prop := ∀ W W', Below W.heap.size W W' → Q W → Q W'
theorem Stable.and {P Q : World → Prop} (h : Stable P) (k : Stable Q) : Stable (fun W => P W ∧ Q W) := fun W W' hB hq => ⟨h W W' hB hq.1, k W W' hB hq.2⟩
theorem stable_true : Stable (fun _ => True) := fun _ _ _ h => h
theorem stable_C {α : Type} (d : Kd α) (A : Option Addr) (n : Nat) (l : List α) : Stable (fun W => Kd.C d W A n l) := fun _ _ hB h => Kd.C_below h hB
theorem stable_of_C {α : Type} {d : Kd α} {W : World} {A : Option Addr} {n : Nat} {l : List α} (_h : Kd.C d W A n l) : Stable (fun W => Kd.C d W A n l) := stable_C d A n l
theorem stable_of_blk {W : World} {p : Nat} {o : Obj} (_h : W.heap[p]? = some o) : Stable (fun W => W.heap[p]? = some o) := fun _ _ hB h => blk_below h hB
theorem V_open {α : Type} {d : Kd α} {e : Nat} {W : World} {base : Nat} {ok : Nat → Prop} {v : Value} {xs : List α} (h : Kd.V d e W base ok v xs) : ∃ A c, v = .slice A xs.length c ∧ xs.length ≤ c ∧ Kd.C d W A xs.length xs := by
 obtain ⟨A, c, rfl, hl, hf⟩ := h
 exact ⟨A, c, rfl, hl, Kd.F_now hf⟩
theorem at_blk {W : World} {p : Nat} {o : Obj} (h : W.heap[p]? = some o) : ∃ q, q = p ∧ W.heap[q]? = some o := ⟨p, rfl, h⟩
theorem origin_q (a b : Int) (w : World) : Calls Tryz.prog 77 #[.int .i64 a, .int .i64 b] w fun e w' => e = .returned (.agg #[.int .i64 a, .int .i64 b]) ∧ Below w.heap.size w w' := nacrelaw08_origin.calls a b a b w rfl
theorem span_q (a b : Int) (w : World) : Calls Tryz.prog 78 #[.int .i64 a, .int .i64 b] w fun e w' => e = .returned (.agg #[.int .i64 a, .int .i64 b]) ∧ Below w.heap.size w w' := nacrelaw08_span.calls a b a b w rfl
theorem C27_lit {W : World} {g : Nat} (l : List S27) (hl : l.length ≤ 1000) (h : W.heap[g]? = some (.cells (flat27 l).toArray 27 (0, 0))) : Kd.C k27 W (some ⟨g, 0, none⟩) l.length l := by
 have hR : Kd.R k27 27 W 0 (fun _ => True) (.slice (some ⟨g, 0, none⟩) l.length l.length) l := ⟨fun _ _ => trivial, flat27 l, ⟨flat27_length l, .inr ⟨g, l.length, (flat27 l).toArray, rfl, Nat.zero_le _, h, Nat.le_refl _, by unfold maxLen; omega, by simp [flat27_length]; rfl, by rw [List.take_of_length_le]; rw [flat27_length]; exact Nat.le_refl _⟩⟩, repsOf27 W l⟩
 obtain ⟨A, c, e, _, hC⟩ := Kd.R_reads hR
 cases e
 exact hC
theorem Cint4 {W : World} {g : Nat} {a b c d : Int} (h : W.heap[g]? = some (.cells #[.int .i64 a, .int .i64 b, .int .i64 c, .int .i64 d] 3 (0, 0))) : Kd.C (Kd.int .i64) W (some ⟨g, 0, none⟩) 4 [a, b, c, d] := by
 refine ⟨rfl, by decide, fun _ => ⟨⟨g, 0, none⟩, rfl, fun j p hj => ⟨[.int .i64 p], rfl, rfl, fun i u hu => ?_⟩⟩⟩
 match i, hu with
 |0, hu =>
  cases hu
  rw [add_plain]
  match j, hj with
  |0, hj => cases hj; exact blk_cell h 0
  |1, hj => cases hj; exact blk_cell h 1
  |2, hj => cases hj; exact blk_cell h 2
  |3, hj => cases hj; exact blk_cell h 3
structure KrMem (fx : Nat → Option Value) (rw : Nat → Option (Nat × (Nat → World → Prop))) (W0 : World) (f : Nat → Bool) (u : Nat → Value) (W : World) : Prop where
 st : ∀ i P, rw i = some P → ∀ g, Stable (P.2 g)
 bw : Below W0.heap.size W0 W
 m : ∀ i v, fx i = some v → f i = true → u i = v
 r : ∀ i P, rw i = some P → f i = true → ∃ g, u i = .slice (some ⟨g, 0, none⟩) P.1 P.1 ∧ P.2 g W
section
variable {fx : Nat → Option Value} {rw : Nat → Option (Nat × (Nat → World → Prop))} {W0 : World} {f : Nat → Bool} {u : Nat → Value} {W : World}
theorem KrMem.other (h : KrMem fx rw W0 f u W) {i : Nat} (v : Value) (h1 : fx i = none) (h2 : rw i = none) : KrMem fx rw W0 (upd f i) (upf u i v) W := by
 refine ⟨h.st, h.bw, fun j y hj hf => ?_, fun j P hj hf => ?_⟩
 ·have hne : j ≠ i := by rintro rfl; rw [h1] at hj; cases hj
  rw [upd_ne hne] at hf
  rw [upf_ne hne]; exact h.m j y hj hf
 ·have hne : j ≠ i := by rintro rfl; rw [h2] at hj; cases hj
  rw [upd_ne hne] at hf
  rw [upf_ne hne]; exact h.r j P hj hf
theorem KrMem.move (h : KrMem fx rw W0 f u W) {W' : World} (hB : Below W.heap.size W W') : KrMem fx rw W0 f u W' :=
 ⟨h.st, bt h.bw hB, h.m, fun j P hj hf => by obtain ⟨g, e, hg⟩ := h.r j P hj hf; exact ⟨g, e, h.st j P hj g _ _ hB hg⟩⟩
theorem KrMem.fixed (h : KrMem fx rw W0 f u W) (i : Nat) {v : Value} {W' : World} (h1 : fx i = some v) (h2 : rw i = none) (hB : Below W.heap.size W W') : KrMem fx rw W0 (upd f i) (upf u i v) W' := by
 have h' := h.move hB
 refine ⟨h.st, h'.bw, fun j y hj hf => ?_, fun j P hj hf => ?_⟩
 ·by_cases hne : j = i
  ·subst hne
   rw [h1] at hj; cases hj
   exact upf_self _ _ _
  ·rw [upd_ne hne] at hf
   rw [upf_ne hne]; exact h'.m j y hj hf
 ·have hne : j ≠ i := by rintro rfl; rw [h2] at hj; cases hj
  rw [upd_ne hne] at hf
  rw [upf_ne hne]; exact h'.r j P hj hf
theorem KrMem.row (h : KrMem fx rw W0 f u W) (i : Nat) {P : Nat × (Nat → World → Prop)} {W' : World} {g : Nat} (h1 : fx i = none) (h2 : rw i = some P) (hB : Below W.heap.size W W') (hg : P.2 g W') : KrMem fx rw W0 (upd f i) (upf u i (.slice (some ⟨g, 0, none⟩) P.1 P.1)) W' := by
 have h' := h.move hB
 refine ⟨h.st, h'.bw, fun j y hj hf => ?_, fun j Q hj hf => ?_⟩
 ·have hne : j ≠ i := by rintro rfl; rw [h1] at hj; cases hj
  rw [upd_ne hne] at hf
  rw [upf_ne hne]; exact h'.m j y hj hf
 ·by_cases hne : j = i
  ·subst hne
   rw [h2] at hj; cases hj
   exact ⟨g, upf_self _ _ _, hg⟩
  ·rw [upd_ne hne] at hf
   rw [upf_ne hne]; exact h'.r j Q hj hf
end
def fx13 : Nat → Option Value := fun i => if i = 1 then some (.agg #[.int .i64 (0), .int .i64 (0)]) else if i = 2 then some (.agg #[.int .i64 (0), .int .i64 (1)]) else if i = 3 then some (.agg #[.int .i64 (1), .int .i64 (0)]) else if i = 4 then some (.agg #[.int .i64 (1), .int .i64 (3)]) else if i = 6 then some (.bool true) else if i = 14 then some (.agg #[.int .i64 (1), .int .i64 (1)]) else if i = 16 then some (.bool true) else if i = 37 then some (.agg #[.int .i64 (16), .int .i64 (16)]) else none
def rw13 : Nat → Option (Nat × (Nat → World → Prop)) := fun i => if i = 5 then some (4, fun g W => Kd.C k27 W (some ⟨g, 0, none⟩) 4 l4L) else if i = 15 then some (1, fun g W => Kd.C k27 W (some ⟨g, 0, none⟩) 1 l1L) else none
def fx15 : Nat → Option Value := fun i => if i = 1 then some (.agg #[.int .i64 (1), .int .i64 (2)]) else if i = 13 then some (.agg #[.int .i64 (29), .int .i64 (40)]) else if i = 23 then some (.bool true) else if i = 31 then some (.bool true) else none
def rw15 : Nat → Option (Nat × (Nat → World → Prop)) := fun i => if i = 22 then some (4, fun g W => Kd.C (Kd.int .i64) W (some ⟨g, 0, none⟩) 4 [0, -1, 1, -1]) else none
theorem st13 : ∀ i P, rw13 i = some P → ∀ g, Stable (P.2 g) := by
 intro i P h g
 unfold rw13 at h
 repeat' split at h
 all_goals (cases h; try exact stable_C _ _ _ _)
theorem st15 : ∀ i P, rw15 i = some P → ∀ g, Stable (P.2 g) := by
 intro i P h g
 unfold rw15 at h
 repeat' split at h
 all_goals (cases h; try exact stable_C _ _ _ _)
set_option maxRecDepth 100000 in
set_option maxHeartbeats 8000000 in
theorem known_walk (w : World) : Calls Tryz.prog 24 #[] w fun e w' => e = .returned (.bool true) ∧ Below w.heap.size w w' := by
 have hu47 := Tryz.underlying47
 have hu45 := Tryz.underlying45
 have hu27 := Tryz.underlying27
 have hu39 := Tryz.underlying39
 have hl0 : (0 : Int) < (shellsL.length : Int) := by decide
 have hl1 : (1 : Int) < (shellsL.length : Int) := by decide
 have hf39 : ∀ (a b : Value) (W : World), (Instr.field 39 (.agg #[a, b]) 0).run Tryz.prog W = .ok a W := fun _ _ _ => by kernel_rfl
 have HB := zk (Below.refl w.heap.size w)
 have HQ := zk stable_true
 have HK := zk (show (fun _ : World => True) w from trivial)
 go_enter Tryz.func24, Tryz.ntmps24
 go_wp2_with (first
  |(go_at_call 73
    (with_reducible refine (nacrelaw08_B.calls _ _ _ ev_B).mono ?_)
    rintro e w2 ⟨v, rfl, hN, hB⟩
    obtain ⟨AB, cB, rfl, hBc, hBK⟩ := Kd.N_reads hN
    have HBK := zk hBK
    have HBC := zk hBc
    first | (have HK' := zk (HQ.out _ _ hB HK.out); replace HB := zk (bt HB.out hB); clear HK; have HK := HK'; clear HK') | (have hb9 := blk_below (blk_new _ _) hB; have HK' := zk (And.intro (HQ.out _ _ hB (HQ.out _ _ (below1 _) HK.out)) hb9); have HQ' := zk (Stable.and HQ.out (stable_of_blk hb9)); clear hb9; replace HB := zk (bt (below_alloc HB.out _) hB); clear HK HQ; have HK := HK'; have HQ := HQ'; clear HK' HQ')
    clear hN hB hBc hBK)
  |(go_at_call 74
    (with_reducible refine (nacrelaw08_S.calls _ _ _ ev_S).mono ?_)
    rintro e w2 ⟨v, v', rfl, hN, hN', hB⟩
    obtain ⟨AS, cS, rfl, hSc, hSK⟩ := Kd.N_reads hN
    obtain ⟨AT, cT, rfl, hTc, hTK⟩ := Kd.R_reads hN'
    have HSK := zk hSK
    have HSC := zk hSc
    have HTK := zk hTK
    have HTC := zk hTc
    have HBK' := zk (Kd.C_below HBK.out hB)
    clear HBK
    have HBK := HBK'
    clear HBK'
    obtain ⟨ad, A0, c0, e0, s00, s01, l0, k0⟩ := at_T45 hSK 0 (by decide) (by decide)
    obtain ⟨ad', A1, c1, e1, s10, s11, l1, k1⟩ := at_T45 hSK 1 (by decide) (by decide)
    have ead : ad' = ad := by rw [e0] at e1; exact (Option.some.inj e1).symm
    subst ead
    subst e0
    have x10 : w2.cell? ⟨ad'.block, ad'.off + 2, none⟩ = some (.slice A1 (rd_T45 shellsL 1).f0.length c1) := s10
    have x11 : w2.cell? ⟨ad'.block, ad'.off + 2 + 1, none⟩ = some (.int .i64 (rd_T45 shellsL 1).f1) := s11
    have x00 : w2.cell? ad' = some (.slice A0 (rd_T45 shellsL 0).f0.length c0) := s00
    have x01 : w2.cell? ⟨ad'.block, ad'.off + 1, none⟩ = some (.int .i64 (rd_T45 shellsL 0).f1) := s01
    clear s00 s01 s10 s11
    have S0 := zk (And.intro l0 k0)
    have S1 := zk (And.intro l1 k1)
    first | (have HK' := zk (HQ.out _ _ hB HK.out); replace HB := zk (bt HB.out hB); clear HK; have HK := HK'; clear HK') | (have hb9 := blk_below (blk_new _ _) hB; have HK' := zk (And.intro (HQ.out _ _ hB (HQ.out _ _ (below1 _) HK.out)) hb9); have HQ' := zk (Stable.and HQ.out (stable_of_blk hb9)); clear hb9; replace HB := zk (bt (below_alloc HB.out _) hB); clear HK HQ; have HK := HK'; have HQ := HQ'; clear HK' HQ')
    clear hN hN' hB hSc hSK hTc hTK e1 l0 k0 l1 k1)
  |(go_at_call 75
    (with_reducible refine (nacrelaw08_L.calls _ _ ev_L).mono ?_)
    rintro e w2 ⟨v, rfl, hN, hB⟩
    obtain ⟨AL, cL, rfl, hLc, hLK⟩ := Kd.R_reads hN
    have HLK := zk hLK
    have HLC := zk hLc
    replace HBK := zk (Kd.C_below HBK.out hB)
    first | (have HK' := zk (HQ.out _ _ hB HK.out); replace HB := zk (bt HB.out hB); clear HK; have HK := HK'; clear HK') | (have hb9 := blk_below (blk_new _ _) hB; have HK' := zk (And.intro (HQ.out _ _ hB (HQ.out _ _ (below1 _) HK.out)) hb9); have HQ' := zk (Stable.and HQ.out (stable_of_blk hb9)); clear hb9; replace HB := zk (bt (below_alloc HB.out _) hB); clear HK HQ; have HK := HK'; have HQ := HQ'; clear HK' HQ')
    clear hN hB hLc hLK)
  |(go_at_call 76
    (with_reducible refine (nacrelaw08_K.calls _ _ ev_K).mono ?_)
    rintro e w2 ⟨v, rfl, hN, hB⟩
    obtain ⟨AK, cK, rfl, hKc, hKK⟩ := Kd.R_reads hN
    have HKK := zk hKK
    have HKC := zk hKc
    replace HBK := zk (Kd.C_below HBK.out hB)
    replace HLK := zk (Kd.C_below HLK.out hB)
    first | (have HK' := zk (HQ.out _ _ hB HK.out); replace HB := zk (bt HB.out hB); clear HK; have HK := HK'; clear HK') | (have hb9 := blk_below (blk_new _ _) hB; have HK' := zk (And.intro (HQ.out _ _ hB (HQ.out _ _ (below1 _) HK.out)) hb9); have HQ' := zk (Stable.and HQ.out (stable_of_blk hb9)); clear hb9; replace HB := zk (bt (below_alloc HB.out _) hB); clear HK HQ; have HK := HK'; have HQ := HQ'; clear HK' HQ')
    clear hN hB hKc hKK)
  |(go_at_call 26
    (with_reducible refine (river_Could.calls 4 AB cB bookL A1 c1 (rd_T45 shellsL 1).f0 (rd_T45 shellsL 1).f1 _ _ _ HBK.out HBC.out S1.out.2 S1.out.1 ev_Could).mono ?_)
    rintro e w2 ⟨v, rfl, hR, hB⟩
    obtain ⟨Al, cl, rfl, hlc, hN⟩ := Kd.R_reads hR
    have HCl0 := zk hlc
    first | (have HK' := zk (HQ.out _ _ hB HK.out); replace HB := zk (bt HB.out hB); clear HK; have HK := HK'; clear HK') | (have hb9 := blk_below (blk_new _ _) hB; have HK' := zk (And.intro (HQ.out _ _ hB (HQ.out _ _ (below1 _) HK.out)) hb9); have HQ' := zk (Stable.and HQ.out (stable_of_blk hb9)); clear hb9; replace HB := zk (bt (below_alloc HB.out _) hB); clear HK HQ; have HK := HK'; have HQ := HQ'; clear HK' HQ')
    have HK' := zk (And.intro HK.out hN); have HQ' := zk (Stable.and HQ.out (stable_of_C hN)); clear HK HQ; have HK := HK'; have HQ := HQ'; clear HK' HQ' hN
    clear hR hB hlc)
  |(go_at_call 27
    (with_reducible refine (river_Word.calls 4 AB cB bookL A0 c0 (rd_T45 shellsL 0).f0 (rd_T45 shellsL 0).f1 _ _ _ HBK.out HBC.out S0.out.2 S0.out.1 ev_Word).mono ?_)
    rintro e w2 ⟨rfl, hB⟩
    first | (have HK' := zk (HQ.out _ _ hB HK.out); replace HB := zk (bt HB.out hB); clear HK; have HK := HK'; clear HK') | (have hb9 := blk_below (blk_new _ _) hB; have HK' := zk (And.intro (HQ.out _ _ hB (HQ.out _ _ (below1 _) HK.out)) hb9); have HQ' := zk (Stable.and HQ.out (stable_of_blk hb9)); clear hb9; replace HB := zk (bt (below_alloc HB.out _) hB); clear HK HQ; have HK := HK'; have HQ := HQ'; clear HK' HQ')
    clear hB)
  |(go_at_call 32
    (with_reducible refine (river_Origins.calls 4 AB cB bookL _ cS shellsL AT cT testsL 0 _ _ _ HBK.out HBC.out HSK.out HSC.out HTK.out HTC.out ev_Origins).mono ?_)
    rintro e w2 ⟨v, rfl, hR, hB⟩
    obtain ⟨Ao, co, rfl, hoc, hN⟩ := Kd.R_reads hR
    have HCo0 := zk hoc
    first | (have HK' := zk (HQ.out _ _ hB HK.out); replace HB := zk (bt HB.out hB); clear HK; have HK := HK'; clear HK') | (have hb9 := blk_below (blk_new _ _) hB; have HK' := zk (And.intro (HQ.out _ _ hB (HQ.out _ _ (below1 _) HK.out)) hb9); have HQ' := zk (Stable.and HQ.out (stable_of_blk hb9)); clear hb9; replace HB := zk (bt (below_alloc HB.out _) hB); clear HK HQ; have HK := HK'; have HQ := HQ'; clear HK' HQ')
    have HK' := zk (And.intro HK.out hN); have HQ' := zk (Stable.and HQ.out (stable_of_C hN)); clear HK HQ; have HK := HK'; have HQ := HQ'; clear HK' HQ' hN
    clear hR hB hoc)
  |(go_at_call 34
    (with_reducible refine (river_Weather.calls 4 AB cB bookL _ cS shellsL AT cT testsL _ _ _ HBK.out HBC.out HSK.out HSC.out HTK.out HTC.out ev_Weather).mono ?_)
    rintro e w2 ⟨v, rfl, hR, hB⟩
    obtain ⟨Ax, cx, rfl, hxc, hN⟩ := V_open hR
    have HCx0 := zk hxc
    first | (have HK' := zk (HQ.out _ _ hB HK.out); replace HB := zk (bt HB.out hB); clear HK; have HK := HK'; clear HK') | (have hb9 := blk_below (blk_new _ _) hB; have HK' := zk (And.intro (HQ.out _ _ hB (HQ.out _ _ (below1 _) HK.out)) hb9); have HQ' := zk (Stable.and HQ.out (stable_of_blk hb9)); clear hb9; replace HB := zk (bt (below_alloc HB.out _) hB); clear HK HQ; have HK := HK'; have HQ := HQ'; clear HK' HQ')
    have HK' := zk (And.intro HK.out hN); have HQ' := zk (Stable.and HQ.out (stable_of_C hN)); clear HK HQ; have HK := HK'; have HQ := HQ'; clear HK' HQ' hN
    clear hR hB hxc)
  |(go_at_call 49
    (with_reducible refine (river_Closed.calls 4 AB cB bookL _ cS shellsL AT cT testsL _ _ _ _ HBK.out HBC.out HSK.out HSC.out HTK.out HTC.out ev_Closed).mono ?_)
    rintro e w2 ⟨rfl, hB⟩
    first | (have HK' := zk (HQ.out _ _ hB HK.out); replace HB := zk (bt HB.out hB); clear HK; have HK := HK'; clear HK') | (have hb9 := blk_below (blk_new _ _) hB; have HK' := zk (And.intro (HQ.out _ _ hB (HQ.out _ _ (below1 _) HK.out)) hb9); have HQ' := zk (Stable.and HQ.out (stable_of_blk hb9)); clear hb9; replace HB := zk (bt (below_alloc HB.out _) hB); clear HK HQ; have HK := HK'; have HQ := HQ'; clear HK' HQ')
    clear hB)
  |(go_at_call 35
    (with_reducible refine (river_Tests.calls 4 AB cB bookL _ cS shellsL AT cT testsL 2 _ _ _ _ HBK.out HBC.out HSK.out HSC.out HTK.out HTC.out ev_Tests).mono ?_)
    rintro e w2 ⟨rfl, hB⟩
    first | (have HK' := zk (HQ.out _ _ hB HK.out); replace HB := zk (bt HB.out hB); clear HK; have HK := HK'; clear HK') | (have hb9 := blk_below (blk_new _ _) hB; have HK' := zk (And.intro (HQ.out _ _ hB (HQ.out _ _ (below1 _) HK.out)) hb9); have HQ' := zk (Stable.and HQ.out (stable_of_blk hb9)); clear hb9; replace HB := zk (bt (below_alloc HB.out _) hB); clear HK HQ; have HK := HK'; have HQ := HQ'; clear HK' HQ')
    clear hB)
  |(go_at_call 38
    (with_reducible refine (river_Length.calls 4 AB cB bookL 0 0 2 _ _ _ _ HBK.out HBC.out ev_Length).mono ?_)
    rintro e w2 ⟨rfl, hB⟩
    first | (have HK' := zk (HQ.out _ _ hB HK.out); replace HB := zk (bt HB.out hB); clear HK; have HK := HK'; clear HK') | (have hb9 := blk_below (blk_new _ _) hB; have HK' := zk (And.intro (HQ.out _ _ hB (HQ.out _ _ (below1 _) HK.out)) hb9); have HQ' := zk (Stable.and HQ.out (stable_of_blk hb9)); clear hb9; replace HB := zk (bt (below_alloc HB.out _) hB); clear HK HQ; have HK := HK'; have HQ := HQ'; clear HK' HQ')
    clear hB)
  |(go_at_call 39
    (with_reducible refine (river_Ripe.calls 100 4 AB cB bookL 0 0 25 _ _ _ HBK.out HBC.out ev_Ripe).mono ?_)
    rintro e w2 ⟨rfl, hB⟩
    first | (have HK' := zk (HQ.out _ _ hB HK.out); replace HB := zk (bt HB.out hB); clear HK; have HK := HK'; clear HK') | (have hb9 := blk_below (blk_new _ _) hB; have HK' := zk (And.intro (HQ.out _ _ hB (HQ.out _ _ (below1 _) HK.out)) hb9); have HQ' := zk (Stable.and HQ.out (stable_of_blk hb9)); clear hb9; replace HB := zk (bt (below_alloc HB.out _) hB); clear HK HQ; have HK := HK'; have HQ := HQ'; clear HK' HQ')
    clear hB)
  |(go_at_call 55
    (with_reducible refine (river_Deal.calls 4 AB cB bookL AL cL licsL AK cK takesL _ _ _ _ HBK.out HBC.out HLK.out HLC.out HKK.out HKC.out ev_Deal).mono ?_)
    rintro e w2 ⟨v, rfl, hR, hB⟩
    obtain ⟨Ad, cd, rfl, hdc, hN⟩ := V_open hR
    have HCd0 := zk hdc
    first | (have HK' := zk (HQ.out _ _ hB HK.out); replace HB := zk (bt HB.out hB); clear HK; have HK := HK'; clear HK') | (have hb9 := blk_below (blk_new _ _) hB; have HK' := zk (And.intro (HQ.out _ _ hB (HQ.out _ _ (below1 _) HK.out)) hb9); have HQ' := zk (Stable.and HQ.out (stable_of_blk hb9)); clear hb9; replace HB := zk (bt (below_alloc HB.out _) hB); clear HK HQ; have HK := HK'; have HQ := HQ'; clear HK' HQ')
    have HK' := zk (And.intro HK.out hN); have HQ' := zk (Stable.and HQ.out (stable_of_C hN)); clear HK HQ; have HK := HK'; have HQ := HQ'; clear HK' HQ' hN
    clear hR hB hdc)
  |(go_at_call 67
    (with_reducible refine (river_Print.calls 100 4 AB cB bookL _ _ _ HBK.out HBC.out ev_Print).mono ?_)
    rintro e w2 ⟨rfl, hB⟩
    first | (have HK' := zk (HQ.out _ _ hB HK.out); replace HB := zk (bt HB.out hB); clear HK; have HK := HK'; clear HK') | (have hb9 := blk_below (blk_new _ _) hB; have HK' := zk (And.intro (HQ.out _ _ hB (HQ.out _ _ (below1 _) HK.out)) hb9); have HQ' := zk (Stable.and HQ.out (stable_of_blk hb9)); clear hb9; replace HB := zk (bt (below_alloc HB.out _) hB); clear HK HQ; have HK := HK'; have HQ := HQ'; clear HK' HQ')
    clear hB))
 obtain ⟨⟨⟨⟨⟨⟨_, hCl⟩, hCo⟩, hCx⟩, hc9⟩, hc14⟩, hCd⟩ := HK.out
 obtain ⟨p9, e9, hc9⟩ := at_blk hc9
 obtain ⟨p14, e14, hc14⟩ := at_blk hc14
 rw [← e9, ← e14]
 obtain ⟨adx, A0x, cy, eAx, hx0, hxl, hxr⟩ := at_L2 hCx 0 (by decide) (by decide)
 obtain ⟨ady, eAy, hy0, hy1⟩ := at_T47 hxr 1 (by decide) (by decide)
 subst eAx eAy
 have X0 := zk (show w2.cell? adx = some (.slice (some ady) 4 cy) from hx0)
 have Y0 := zk (show w2.cell? ⟨ady.block, ady.off + 2, none⟩ = some (.int .i64 16) from hy0)
 have Y1 := zk (show w2.cell? ⟨ady.block, ady.off + 2 + 1, none⟩ = some (.int .i64 16) from hy1)
 have HCl := zk hCl
 have HCo := zk hCo
 have HCd := zk hCd
 have H9 := zk hc9
 have H14 := zk hc14
 have HLl := HCl0
 have HLo := HCo0
 have HLd := HCd0
 clear hCl hCo hCx hc9 hc14 hCd hx0 hxl hxr hy0 hy1 HK HQ e9 e14
 refine region_lit (lit := ?lit13) 40 [[],[],[1],[2],[3],[1,2,3,4],[0,4,5],[6],[6,7],[8],[8,9],[8,10],[8,11],[12],[12],[12,14],[12,13,14,15],[12,16],[12,17],[16,18],[19],[19,20],[19,21],[19,22],[19,23],[24],[24,25],[24,26],[24,27],[24,28],[24,29],[24,30],[31],[31,32],[31,33],[31,34],[31,35],[31],[31,36,37],[31,38]]
  [some (.slice Al 4 cl), none, none, none, none, none, none, some (.bool false), some (.bool false), some (.int .i64 3), some (.bool false), some (.bool false), some (.bool false), some (.slice Ao 1 co), none, none, none, some (.bool false), some (.bool false), some (.bool false), some (.slice (some adx) 2 cx), some (.int .i64 2), some (.bool false), some (.bool false), some (.bool false), some (.slice (some adx) 2 cx), some (.pointer (some adx)), some (.slice (some ady) 4 cy), some (.int .i64 4), some (.bool false), some (.bool false), some (.bool false), some (.slice (some adx) 2 cx), some (.pointer (some adx)), some (.slice (some ady) 4 cy), some (.pointer (some ⟨ady.block, ady.off + 2, none⟩)), some (.agg #[.int .i64 (16), .int .i64 (16)]), none, some (.bool false), some (.bool false)]
  (fun f u W' => Aside0 (KrMem fx13 rw13 w2 f u W')) ?hlit13 (by kernel_rfl) (by kernel_rfl) (by decide) ?_ ?_ ?_ ?_ ?_
 case hlit13 =>
  intro u
  simp only [List.take_succ_cons, List.take_zero, List.map_cons, List.map_nil, setAll, Nat.reduceAdd, Act.put, List.setIfInBounds_toArray, List.set_cons_succ, List.set_cons_zero]
  try rfl
 ·intro u W hw
  exact zk ⟨st13, hw.below _, fun _ _ _ h => (by cases h), fun _ _ _ h => (by cases h)⟩
 ·intro i v f u W' hv h
  refine zk (h.out.other v ?_ ?_)
  ·unfold fx13
   repeat' split
   all_goals first | rfl | (subst_vars; cases hv)
  ·unfold rw13
   repeat' split
   all_goals first | rfl | (subst_vars; cases hv)
 ·intro i o' v hi ho hv f u W' hM hdep hd
  have x0 : W'.cell? adx = some (.slice (some ady) 4 cy) := (hM.out.bw.cell (World.block_lt_of_cell? w2 _ X0.out)).trans X0.out
  have y0 : W'.cell? ⟨ady.block, ady.off + 2, none⟩ = some (.int .i64 16) := (hM.out.bw.cell (World.block_lt_of_cell? w2 _ Y0.out)).trans Y0.out
  have y1 : W'.cell? ⟨ady.block, ady.off + 2 + 1, none⟩ = some (.int .i64 16) := (hM.out.bw.cell (World.block_lt_of_cell? w2 _ Y1.out)).trans Y1.out
  replace hi : i < 40 := hi
  match i, hi with
  |0, _ =>
   cases ho
   cases zs hv
   clear hd hv hM hdep
   go_wp2
   exact zt
  |1, _ =>
   cases hv
  |2, _ =>
   cases hv
  |3, _ =>
   cases hv
  |4, _ =>
   cases hv
  |5, _ =>
   cases hv
  |6, _ =>
   cases hv
  |7, _ =>
   cases ho
   cases zs hv
   have e6 := hM.out.m 6 _ rfl (hdep 6 (by decide))
   clear hd hv hM hdep
   go_wp2
   exact zt
  |8, _ =>
   cases ho
   cases zs hv
   have e6 := hM.out.m 6 _ rfl (hdep 6 (by decide))
   have e7 := hd 7 _ (by decide) rfl
   clear hd hv hM hdep
   go_wp2
   exact zt
  |9, _ =>
   cases ho
   cases zs hv
   have e8 := hd 8 _ (by decide) rfl
   clear hd hv hM hdep
   go_wp2
   exact zt
  |10, _ =>
   cases ho
   cases zs hv
   have e8 := hd 8 _ (by decide) rfl
   have e9 := hd 9 _ (by decide) rfl
   clear hd hv hM hdep
   go_wp2
   exact zt
  |11, _ =>
   cases ho
   cases zs hv
   have e8 := hd 8 _ (by decide) rfl
   have e10 := hd 10 _ (by decide) rfl
   clear hd hv hM hdep
   go_wp2
   exact zt
  |12, _ =>
   cases ho
   cases zs hv
   have e8 := hd 8 _ (by decide) rfl
   have e11 := hd 11 _ (by decide) rfl
   clear hd hv hM hdep
   go_wp2
   exact zt
  |13, _ =>
   cases ho
   cases zs hv
   have e12 := hd 12 _ (by decide) rfl
   clear hd hv hM hdep
   go_wp2
   exact zt
  |14, _ =>
   cases hv
  |15, _ =>
   cases hv
  |16, _ =>
   cases hv
  |17, _ =>
   cases ho
   cases zs hv
   have e12 := hd 12 _ (by decide) rfl
   have e16 := hM.out.m 16 _ rfl (hdep 16 (by decide))
   clear hd hv hM hdep
   go_wp2
   exact zt
  |18, _ =>
   cases ho
   cases zs hv
   have e12 := hd 12 _ (by decide) rfl
   have e17 := hd 17 _ (by decide) rfl
   clear hd hv hM hdep
   go_wp2
   exact zt
  |19, _ =>
   cases ho
   cases zs hv
   have e16 := hM.out.m 16 _ rfl (hdep 16 (by decide))
   have e18 := hd 18 _ (by decide) rfl
   clear hd hv hM hdep
   go_wp2
   exact zt
  |20, _ =>
   cases ho
   cases zs hv
   have e19 := hd 19 _ (by decide) rfl
   clear hd hv hM hdep
   go_wp2
   exact zt
  |21, _ =>
   cases ho
   cases zs hv
   have e19 := hd 19 _ (by decide) rfl
   have e20 := hd 20 _ (by decide) rfl
   clear hd hv hM hdep
   go_wp2
   exact zt
  |22, _ =>
   cases ho
   cases zs hv
   have e19 := hd 19 _ (by decide) rfl
   have e21 := hd 21 _ (by decide) rfl
   clear hd hv hM hdep
   go_wp2
   exact zt
  |23, _ =>
   cases ho
   cases zs hv
   have e19 := hd 19 _ (by decide) rfl
   have e22 := hd 22 _ (by decide) rfl
   clear hd hv hM hdep
   go_wp2
   exact zt
  |24, _ =>
   cases ho
   cases zs hv
   have e19 := hd 19 _ (by decide) rfl
   have e23 := hd 23 _ (by decide) rfl
   clear hd hv hM hdep
   go_wp2
   exact zt
  |25, _ =>
   cases ho
   cases zs hv
   have e24 := hd 24 _ (by decide) rfl
   clear hd hv hM hdep
   go_wp2
   exact zt
  |26, _ =>
   cases ho
   cases zs hv
   have e24 := hd 24 _ (by decide) rfl
   have e25 := hd 25 _ (by decide) rfl
   clear hd hv hM hdep
   go_wp2
   exact zt
  |27, _ =>
   cases ho
   cases zs hv
   have e24 := hd 24 _ (by decide) rfl
   have e26 := hd 26 _ (by decide) rfl
   clear hd hv hM hdep
   go_wp2
   exact zt
  |28, _ =>
   cases ho
   cases zs hv
   have e24 := hd 24 _ (by decide) rfl
   have e27 := hd 27 _ (by decide) rfl
   clear hd hv hM hdep
   go_wp2
   exact zt
  |29, _ =>
   cases ho
   cases zs hv
   have e24 := hd 24 _ (by decide) rfl
   have e28 := hd 28 _ (by decide) rfl
   clear hd hv hM hdep
   go_wp2
   exact zt
  |30, _ =>
   cases ho
   cases zs hv
   have e24 := hd 24 _ (by decide) rfl
   have e29 := hd 29 _ (by decide) rfl
   clear hd hv hM hdep
   go_wp2
   exact zt
  |31, _ =>
   cases ho
   cases zs hv
   have e24 := hd 24 _ (by decide) rfl
   have e30 := hd 30 _ (by decide) rfl
   clear hd hv hM hdep
   go_wp2
   exact zt
  |32, _ =>
   cases ho
   cases zs hv
   have e31 := hd 31 _ (by decide) rfl
   clear hd hv hM hdep
   go_wp2
   exact zt
  |33, _ =>
   cases ho
   cases zs hv
   have e31 := hd 31 _ (by decide) rfl
   have e32 := hd 32 _ (by decide) rfl
   clear hd hv hM hdep
   go_wp2
   exact zt
  |34, _ =>
   cases ho
   cases zs hv
   have e31 := hd 31 _ (by decide) rfl
   have e33 := hd 33 _ (by decide) rfl
   clear hd hv hM hdep
   go_wp2
   exact zt
  |35, _ =>
   cases ho
   cases zs hv
   have e31 := hd 31 _ (by decide) rfl
   have e34 := hd 34 _ (by decide) rfl
   clear hd hv hM hdep
   go_wp2
   exact zt
  |36, _ =>
   cases ho
   cases zs hv
   have e31 := hd 31 _ (by decide) rfl
   have e35 := hd 35 _ (by decide) rfl
   clear hd hv hM hdep
   go_wp2
   exact zt
  |37, _ =>
   cases hv
  |38, _ =>
   cases ho
   cases zs hv
   have e31 := hd 31 _ (by decide) rfl
   have e36 := hd 36 _ (by decide) rfl
   have e37 := hM.out.m 37 _ rfl (hdep 37 (by decide))
   clear hd hv hM hdep
   go_wp2
   exact zt
  |39, _ =>
   cases ho
   cases zs hv
   have e31 := hd 31 _ (by decide) rfl
   have e38 := hd 38 _ (by decide) rfl
   clear hd hv hM hdep
   go_wp2
   exact zt
  |j + 40, hi => exact absurd hi (by omega)
 ·intro i o' hi ho hv f u W' hM hb hdep hq hd
  match i, hi with
  |0, _ => cases hv
  |1, _ =>
   cases ho
   clear hd hv hq hdep hb
   go_wp2_with (go_at_call 77; (with_reducible refine (origin_q (0) (0) _).mono ?_); rintro e W9 ⟨rfl, hB9⟩)
   exact ⟨_, by first | rfl | (simp [upf]; done), zk (hM.out.fixed 1 rfl rfl hB9)⟩
  |2, _ =>
   cases ho
   have e1 := hM.out.m 1 _ rfl (hdep 1 (by decide))
   clear hd hv hq hdep hb
   go_wp2_with (go_at_call 77; (with_reducible refine (origin_q (0) (1) _).mono ?_); rintro e W9 ⟨rfl, hB9⟩)
   exact ⟨_, by first | rfl | (simp [upf, e1]; done), zk (hM.out.fixed 2 rfl rfl hB9)⟩
  |3, _ =>
   cases ho
   have e2 := hM.out.m 2 _ rfl (hdep 2 (by decide))
   clear hd hv hq hdep hb
   go_wp2_with (go_at_call 77; (with_reducible refine (origin_q (1) (0) _).mono ?_); rintro e W9 ⟨rfl, hB9⟩)
   exact ⟨_, by first | rfl | (simp [upf, e2]; done), zk (hM.out.fixed 3 rfl rfl hB9)⟩
  |4, _ =>
   cases ho
   have e3 := hM.out.m 3 _ rfl (hdep 3 (by decide))
   clear hd hv hq hdep hb
   go_wp2_with (go_at_call 77; (with_reducible refine (origin_q (1) (3) _).mono ?_); rintro e W9 ⟨rfl, hB9⟩)
   exact ⟨_, by first | rfl | (simp [upf, e3]; done), zk (hM.out.fixed 4 rfl rfl hB9)⟩
  |5, _ =>
   cases ho
   have e1 := hM.out.m 1 _ rfl (hdep 1 (by decide))
   have e2 := hM.out.m 2 _ rfl (hdep 2 (by decide))
   have e3 := hM.out.m 3 _ rfl (hdep 3 (by decide))
   have e4 := hM.out.m 4 _ rfl (hdep 4 (by decide))
   clear hd hv hq hdep hb
   go_wp2
   exact ⟨_, by first | rfl | (simp [upf, e1, e2, e3, e4]; done), zk (hM.out.row 5 rfl rfl (below1 _) (C27_lit l4L (by decide) (blk_new _ _)))⟩
  |6, _ =>
   cases ho
   have e0 := hd 0 _ (by decide) rfl
   have e4 := hM.out.m 4 _ rfl (hdep 4 (by decide))
   obtain ⟨g5, e5, hg5⟩ := hM.out.r 5 _ rfl (hdep 5 (by decide))
   have e5' : u 5 = .slice (some ⟨g5, 0, none⟩) 4 4 := e5
   clear e5
   have HCC := zk (show Calls Tryz.prog 33 #[.slice Al 4 cl, .slice (some ⟨g5, 0, none⟩) 4 4] W' _ from nacreref08_SameOrigins.calls 100 Al cl l4L (some ⟨g5, 0, none⟩) 4 l4L true W' (Kd.C_below HCl.out hM.out.bw) HLl.out hg5 (Nat.le_refl _) ev_Same1)
   clear hd hv hq hdep hb hg5
   go_wp2_with (go_at_call 33; (with_reducible refine HCC.out.mono ?_); rintro e W9 ⟨rfl, hB9⟩)
   exact ⟨_, by first | rfl | (simp [upf, e0, e4, e5']; done), zk (hM.out.fixed 6 rfl rfl hB9.below)⟩
  |7, _ => cases hv
  |8, _ => cases hv
  |9, _ => cases hv
  |10, _ => cases hv
  |11, _ => cases hv
  |12, _ => cases hv
  |13, _ => cases hv
  |14, _ =>
   cases ho
   have e12 := hd 12 _ (by decide) rfl
   clear hd hv hq hdep hb
   go_wp2_with (go_at_call 77; (with_reducible refine (origin_q (1) (1) _).mono ?_); rintro e W9 ⟨rfl, hB9⟩)
   exact ⟨_, by first | rfl | (simp [upf, e12]; done), zk (hM.out.fixed 14 rfl rfl hB9)⟩
  |15, _ =>
   cases ho
   have e12 := hd 12 _ (by decide) rfl
   have e14 := hM.out.m 14 _ rfl (hdep 14 (by decide))
   clear hd hv hq hdep hb
   go_wp2
   exact ⟨_, by first | rfl | (simp [upf, e12, e14]; done), zk (hM.out.row 15 rfl rfl (below1 _) (C27_lit l1L (by decide) (blk_new _ _)))⟩
  |16, _ =>
   cases ho
   have e12 := hd 12 _ (by decide) rfl
   have e13 := hd 13 _ (by decide) rfl
   have e14 := hM.out.m 14 _ rfl (hdep 14 (by decide))
   obtain ⟨g15, e15, hg15⟩ := hM.out.r 15 _ rfl (hdep 15 (by decide))
   have e15' : u 15 = .slice (some ⟨g15, 0, none⟩) 1 1 := e15
   clear e15
   have HCC := zk (show Calls Tryz.prog 33 #[.slice Ao 1 co, .slice (some ⟨g15, 0, none⟩) 1 1] W' _ from nacreref08_SameOrigins.calls 100 Ao co l1L (some ⟨g15, 0, none⟩) 1 l1L true W' (Kd.C_below HCo.out hM.out.bw) HLo.out hg15 (Nat.le_refl _) ev_Same2)
   clear hd hv hq hdep hb hg15
   go_wp2_with (go_at_call 33; (with_reducible refine HCC.out.mono ?_); rintro e W9 ⟨rfl, hB9⟩)
   exact ⟨_, by first | rfl | (simp [upf, e12, e13, e14, e15']; done), zk (hM.out.fixed 16 rfl rfl hB9.below)⟩
  |17, _ => cases hv
  |18, _ => cases hv
  |19, _ => cases hv
  |20, _ => cases hv
  |21, _ => cases hv
  |22, _ => cases hv
  |23, _ => cases hv
  |24, _ => cases hv
  |25, _ => cases hv
  |26, _ => cases hv
  |27, _ => cases hv
  |28, _ => cases hv
  |29, _ => cases hv
  |30, _ => cases hv
  |31, _ => cases hv
  |32, _ => cases hv
  |33, _ => cases hv
  |34, _ => cases hv
  |35, _ => cases hv
  |36, _ => cases hv
  |37, _ =>
   cases ho
   have e31 := hd 31 _ (by decide) rfl
   clear hd hv hq hdep hb
   go_wp2_with (go_at_call 78; (with_reducible refine (span_q (16) (16) _).mono ?_); rintro e W9 ⟨rfl, hB9⟩)
   exact ⟨_, by first | rfl | (simp [upf, e31]; done), zk (hM.out.fixed 37 rfl rfl hB9)⟩
  |38, _ => cases hv
  |39, _ => cases hv
  |j + 40, hi => exact absurd hi (by omega)
 ·intro f u W13 hall hM hd
  have e39 := hd 39 _ (by decide) rfl
  have HM := zk hM.out.bw
  have HCd13 := zk (Kd.C_below HCd.out hM.out.bw)
  replace H9 := zk (blk_below H9.out hM.out.bw)
  replace H14 := zk (blk_below H14.out hM.out.bw)
  clear hall hd hM
  simp only [List.drop_succ_cons, List.drop_zero, List.drop_nil, wpList]
  rw [e39]
  clear e39
  go_wp2
  refine region_lit (lit := ?lit15) 33 [[],[],[0,1],[1,2],[3],[3,4],[3,5],[3,6],[7],[7,8],[7,9],[7,10],[11],[11],[11,12,13],[11,14],[13,15],[16],[16,17],[16,18],[16,19],[20],[20],[20,21,22],[20,23],[23,24],[25],[25,26],[25,27],[25,28],[29],[29,30],[29,31]]
   [some (.agg #[.int .i64 (1), .int .i64 (2)]), none, some (.bool true), some (.bool true), some (.int .i64 1), some (.bool true), some (.bool true), some (.bool true), some (.int .i64 1), some (.bool true), some (.bool true), some (.bool true), some (.agg #[.int .i64 (29), .int .i64 (40)]), none, some (.bool true), some (.bool true), some (.bool true), some (.int .i64 2), some (.bool true), some (.bool true), some (.bool true), some (.slice Ad 4 cd), none, none, some (.bool true), some (.bool true), some (.int .i64 6), some (.bool true), some (.bool true), some (.bool true), some (.string ⟨textL.toArray⟩), none, some (.bool true)]
   (fun f u W' => Aside0 (KrMem fx15 rw15 W13 f u W')) ?hlit15 (by kernel_rfl) (by kernel_rfl) (by decide) ?_ ?_ ?_ ?_ ?_
  case hlit15 =>
   intro u
   simp only [List.take_succ_cons, List.take_zero, List.map_cons, List.map_nil, setAll, Nat.reduceAdd, Act.put, List.setIfInBounds_toArray, List.set_cons_succ, List.set_cons_zero]
   try rfl
  ·intro u W hw
   exact zk ⟨st15, hw.below _, fun _ _ _ h => (by cases h), fun _ _ _ h => (by cases h)⟩
  ·intro i v f u W' hv h
   refine zk (h.out.other v ?_ ?_)
   ·unfold fx15
    repeat' split
    all_goals first | rfl | (subst_vars; cases hv)
   ·unfold rw15
    repeat' split
    all_goals first | rfl | (subst_vars; cases hv)
  ·intro i o' v hi ho hv f u W' hM hdep hd
   have H9W := zk (blk_below H9.out hM.out.bw)
   have H14W := zk (blk_below H14.out hM.out.bw)
   obtain ⟨c_p9_0, f_p9_0, c_p9_1, f_p9_1, l_p9⟩ := cl2 (W := W') (p := p9) (a := .int .i64 1) (b := .int .i64 2) H9W.out
   obtain ⟨c_p14_0, f_p14_0, c_p14_1, f_p14_1, l_p14⟩ := cl2 (W := W') (p := p14) (a := .int .i64 29) (b := .int .i64 40) H14W.out
   clear H9W H14W
   replace hi : i < 33 := hi
   match i, hi with
   |0, _ =>
    cases ho
    cases zs hv
    clear hd hv hM hdep
    go_wp2
    exact zt
   |1, _ =>
    cases hv
   |2, _ =>
    cases ho
    cases zs hv
    have e0 := hd 0 _ (by decide) rfl
    have e1 := hM.out.m 1 _ rfl (hdep 1 (by decide))
    clear hd hv hM hdep
    go_wp2
    exact zt
   |3, _ =>
    cases ho
    cases zs hv
    have e1 := hM.out.m 1 _ rfl (hdep 1 (by decide))
    have e2 := hd 2 _ (by decide) rfl
    clear hd hv hM hdep
    go_wp2
    exact zt
   |4, _ =>
    cases ho
    cases zs hv
    have e3 := hd 3 _ (by decide) rfl
    clear hd hv hM hdep
    go_wp2
    exact zt
   |5, _ =>
    cases ho
    cases zs hv
    have e3 := hd 3 _ (by decide) rfl
    have e4 := hd 4 _ (by decide) rfl
    clear hd hv hM hdep
    go_wp2
    exact zt
   |6, _ =>
    cases ho
    cases zs hv
    have e3 := hd 3 _ (by decide) rfl
    have e5 := hd 5 _ (by decide) rfl
    clear hd hv hM hdep
    go_wp2
    exact zt
   |7, _ =>
    cases ho
    cases zs hv
    have e3 := hd 3 _ (by decide) rfl
    have e6 := hd 6 _ (by decide) rfl
    clear hd hv hM hdep
    go_wp2
    exact zt
   |8, _ =>
    cases ho
    cases zs hv
    have e7 := hd 7 _ (by decide) rfl
    clear hd hv hM hdep
    go_wp2
    exact zt
   |9, _ =>
    cases ho
    cases zs hv
    have e7 := hd 7 _ (by decide) rfl
    have e8 := hd 8 _ (by decide) rfl
    clear hd hv hM hdep
    go_wp2
    exact zt
   |10, _ =>
    cases ho
    cases zs hv
    have e7 := hd 7 _ (by decide) rfl
    have e9 := hd 9 _ (by decide) rfl
    clear hd hv hM hdep
    go_wp2
    exact zt
   |11, _ =>
    cases ho
    cases zs hv
    have e7 := hd 7 _ (by decide) rfl
    have e10 := hd 10 _ (by decide) rfl
    clear hd hv hM hdep
    go_wp2
    exact zt
   |12, _ =>
    cases ho
    cases zs hv
    have e11 := hd 11 _ (by decide) rfl
    clear hd hv hM hdep
    go_wp2
    exact zt
   |13, _ =>
    cases hv
   |14, _ =>
    cases ho
    cases zs hv
    have e11 := hd 11 _ (by decide) rfl
    have e12 := hd 12 _ (by decide) rfl
    have e13 := hM.out.m 13 _ rfl (hdep 13 (by decide))
    clear hd hv hM hdep
    go_wp2
    exact zt
   |15, _ =>
    cases ho
    cases zs hv
    have e11 := hd 11 _ (by decide) rfl
    have e14 := hd 14 _ (by decide) rfl
    clear hd hv hM hdep
    go_wp2
    exact zt
   |16, _ =>
    cases ho
    cases zs hv
    have e13 := hM.out.m 13 _ rfl (hdep 13 (by decide))
    have e15 := hd 15 _ (by decide) rfl
    clear hd hv hM hdep
    go_wp2
    exact zt
   |17, _ =>
    cases ho
    cases zs hv
    have e16 := hd 16 _ (by decide) rfl
    clear hd hv hM hdep
    go_wp2
    exact zt
   |18, _ =>
    cases ho
    cases zs hv
    have e16 := hd 16 _ (by decide) rfl
    have e17 := hd 17 _ (by decide) rfl
    clear hd hv hM hdep
    go_wp2
    exact zt
   |19, _ =>
    cases ho
    cases zs hv
    have e16 := hd 16 _ (by decide) rfl
    have e18 := hd 18 _ (by decide) rfl
    clear hd hv hM hdep
    go_wp2
    exact zt
   |20, _ =>
    cases ho
    cases zs hv
    have e16 := hd 16 _ (by decide) rfl
    have e19 := hd 19 _ (by decide) rfl
    clear hd hv hM hdep
    go_wp2
    exact zt
   |21, _ =>
    cases ho
    cases zs hv
    have e20 := hd 20 _ (by decide) rfl
    clear hd hv hM hdep
    go_wp2
    exact zt
   |22, _ =>
    cases hv
   |23, _ =>
    cases hv
   |24, _ =>
    cases ho
    cases zs hv
    have e20 := hd 20 _ (by decide) rfl
    have e23 := hM.out.m 23 _ rfl (hdep 23 (by decide))
    clear hd hv hM hdep
    go_wp2
    exact zt
   |25, _ =>
    cases ho
    cases zs hv
    have e23 := hM.out.m 23 _ rfl (hdep 23 (by decide))
    have e24 := hd 24 _ (by decide) rfl
    clear hd hv hM hdep
    go_wp2
    exact zt
   |26, _ =>
    cases ho
    cases zs hv
    have e25 := hd 25 _ (by decide) rfl
    clear hd hv hM hdep
    go_wp2
    exact zt
   |27, _ =>
    cases ho
    cases zs hv
    have e25 := hd 25 _ (by decide) rfl
    have e26 := hd 26 _ (by decide) rfl
    clear hd hv hM hdep
    go_wp2
    exact zt
   |28, _ =>
    cases ho
    cases zs hv
    have e25 := hd 25 _ (by decide) rfl
    have e27 := hd 27 _ (by decide) rfl
    clear hd hv hM hdep
    go_wp2
    exact zt
   |29, _ =>
    cases ho
    cases zs hv
    have e25 := hd 25 _ (by decide) rfl
    have e28 := hd 28 _ (by decide) rfl
    clear hd hv hM hdep
    go_wp2
    exact zt
   |30, _ =>
    cases ho
    cases zs hv
    have e29 := hd 29 _ (by decide) rfl
    clear hd hv hM hdep
    go_wp2
    exact zt
   |31, _ =>
    cases hv
   |32, _ =>
    cases ho
    cases zs hv
    have e29 := hd 29 _ (by decide) rfl
    have e31 := hM.out.m 31 _ rfl (hdep 31 (by decide))
    clear hd hv hM hdep
    go_wp2
    exact zt
   |j + 33, hi => exact absurd hi (by omega)
  ·intro i o' hi ho hv f u W' hM hb hdep hq hd
   match i, hi with
   |0, _ => cases hv
   |1, _ =>
    cases ho
    clear hd hv hq hdep hb
    go_wp2_with (go_at_call 78; (with_reducible refine (span_q (1) (2) _).mono ?_); rintro e W9 ⟨rfl, hB9⟩)
    exact ⟨_, by first | rfl | (simp [upf]; done), zk (hM.out.fixed 1 rfl rfl hB9)⟩
   |2, _ => cases hv
   |3, _ => cases hv
   |4, _ => cases hv
   |5, _ => cases hv
   |6, _ => cases hv
   |7, _ => cases hv
   |8, _ => cases hv
   |9, _ => cases hv
   |10, _ => cases hv
   |11, _ => cases hv
   |12, _ => cases hv
   |13, _ =>
    cases ho
    have e11 := hd 11 _ (by decide) rfl
    clear hd hv hq hdep hb
    go_wp2_with (go_at_call 78; (with_reducible refine (span_q (29) (40) _).mono ?_); rintro e W9 ⟨rfl, hB9⟩)
    exact ⟨_, by first | rfl | (simp [upf, e11]; done), zk (hM.out.fixed 13 rfl rfl hB9)⟩
   |14, _ => cases hv
   |15, _ => cases hv
   |16, _ => cases hv
   |17, _ => cases hv
   |18, _ => cases hv
   |19, _ => cases hv
   |20, _ => cases hv
   |21, _ => cases hv
   |22, _ =>
    cases ho
    have e20 := hd 20 _ (by decide) rfl
    clear hd hv hq hdep hb
    go_wp2
    exact ⟨_, by first | rfl | (simp [upf, e20]; done), zk (hM.out.row 22 rfl rfl (below1 _) (Cint4 (blk_new _ _)))⟩
   |23, _ =>
    cases ho
    have e20 := hd 20 _ (by decide) rfl
    have e21 := hd 21 _ (by decide) rfl
    obtain ⟨g22, e22, hg22⟩ := hM.out.r 22 _ rfl (hdep 22 (by decide))
    have e22' : u 22 = .slice (some ⟨g22, 0, none⟩) 4 4 := e22
    clear e22
    have HCC := zk (show Calls Tryz.prog 59 #[.slice Ad 4 cd, .slice (some ⟨g22, 0, none⟩) 4 4] W' _ from nacreref08_Same.calls 100 Ad cd [0, -1, 1, -1] (some ⟨g22, 0, none⟩) 4 [0, -1, 1, -1] true W' (Kd.C_below HCd13.out hM.out.bw) HLd.out hg22 (Nat.le_refl _) ev_Same3)
    clear hd hv hq hdep hb hg22
    go_wp2_with (go_at_call 59; (with_reducible refine HCC.out.mono ?_); rintro e W9 ⟨rfl, hB9⟩)
    exact ⟨_, by first | rfl | (simp [upf, e20, e21, e22']; done), zk (hM.out.fixed 23 rfl rfl hB9.below)⟩
   |24, _ => cases hv
   |25, _ => cases hv
   |26, _ => cases hv
   |27, _ => cases hv
   |28, _ => cases hv
   |29, _ => cases hv
   |30, _ => cases hv
   |31, _ =>
    cases ho
    have e29 := hd 29 _ (by decide) rfl
    have e30 := hd 30 _ (by decide) rfl
    clear hd hv hq hdep hb
    go_wp2
    refine ⟨_, by simp [upf, e29, e30]; rfl, zk (hM.out.fixed 31 ?_ rfl (Below.refl _ _))⟩
    first | rfl | kernel_rfl
   |32, _ => cases hv
   |j + 33, hi => exact absurd hi (by omega)
  ·intro f u W' hall hM hd
   have e32 := hd 32 _ (by decide) rfl
   have HM2 := zk hM.out.bw
   clear hall hd hM
   go_wp2
   go_ret
   exact ⟨rfl, bt HB.out (bt HM.out HM2.out)⟩
end Go.Proofs.YtfijblhfgfefoaaGreatDoor.Rv
namespace Go.Proofs.YtfijblhfgfefoaaGreatDoor.PAll
open Go.RowKit Go.Proofs.YtfijblhfgfefoaaGreatDoor.Rv
end Go.Proofs.YtfijblhfgfefoaaGreatDoor.PAll
end
