/- A part of the proof: words, contracts of functions, and their walks. -/
import Derived.Test.YtfijblhfgfefoaaGreatDoorQLess3
import Derived.Test.YtfijblhfgfefoaaGreatDoorQLess14
import Derived.Test.YtfijblhfgfefoaaGreatDoorQLess16
set_option linter.unusedVariables false
set_option linter.unusedSimpArgs false
section
namespace Go.Proofs.YtfijblhfgfefoaaGreatDoor.Rv
open Go.RowKit Go.Shelf Go.IntWalk Go.Proofs.YtfijblhfgfefoaaGreatDoor.PAll Go.Proofs.YtfijblhfgfefoaaGreatDoorW.PrintWords Go.Proofs.YtfijblhfgfefoaaGreatDoorW.PrintLast
def RowHas (row : List S47) (v : Nat → Int) : Prop := ∀ y, y < row.length → (row.getD y z47).f0 ≤ v y ∧ v y ≤ (row.getD y z47).f1
def RowOk (row : List S47) : Prop := ∀ y, y < row.length → (row.getD y z47).f0 ≤ (row.getD y z47).f1
def RingsFit (off : Int) (v : Nat → Int) : Nat → List Int → Prop
 |_, [] => True
 |j, n :: ns => (n - off ≤ v j ∧ v j ≤ n + off) ∧ RingsFit off v (j + 1) ns
theorem ringsFit_iff (off : Int) (v : Nat → Int) : ∀ (ns : List Int) (j : Nat), RingsFit off v j ns ↔ ∀ k, k < ns.length → ns.getD k 0 - off ≤ v (j + k) ∧ v (j + k) ≤ ns.getD k 0 + off
 | [], j => by simp [RingsFit]
 |n :: ns, j => by
  simp only [RingsFit]
  rw [ringsFit_iff off v ns (j + 1)]
  constructor
  ·rintro ⟨h1, h2⟩ k hk
   cases k with
   |zero => simpa using h1
   |succ k =>
    have h3 := h2 k (by simpa using hk)
    have e : j + (k + 1) = j + 1 + k := by omega
    rw [e]
    simpa using h3
  ·intro h
   refine ⟨by simpa using h 0 (by simp), fun k hk => ?_⟩
   have h3 := h (k + 1) (by simpa using hk)
   have e : j + (k + 1) = j + 1 + k := by omega
   rw [e] at h3
   simpa using h3
theorem mx_le {a b c : Int} : mx a b ≤ c ↔ a ≤ c ∧ b ≤ c := by unfold mx; split <;> omega
theorem le_mn {a b c : Int} : c ≤ mn a b ↔ c ≤ a ∧ c ≤ b := by unfold mn; split <;> omega
theorem getD_set (row : List S47) (j y : Nat) (s : S47) (hj : j < row.length) : (row.set j s).getD y z47 = if y = j then s else row.getD y z47 := by
 simp only [List.getD_eq_getElem?_getD, List.getElem?_set]
 by_cases e : j = y
 ·subst e; simp [hj]
 ·simp [e, Ne.symm e]
theorem set_has (row : List S47) (j : Nat) (x z : Int) (v : Nat → Int) (hj : j < row.length) :
 RowHas (row.set j ⟨mx (row.getD j z47).f0 x, mn (row.getD j z47).f1 z⟩) v ↔ RowHas row v ∧ (x ≤ v j ∧ v j ≤ z) := by
 unfold RowHas
 simp only [List.length_set, getD_set row j _ _ hj]
 constructor
 ·intro h
  have h1 := h j hj
  simp only [if_true, mx_le, le_mn] at h1
  refine ⟨fun y hy => ?_, by omega⟩
  have h2 := h y hy
  by_cases e : y = j
  ·subst e; omega
  ·simpa [e] using h2
 ·rintro ⟨h1, h2⟩ y hy
  have h3 := h1 y hy
  by_cases e : y = j
  ·subst e
   simp only [if_true, mx_le, le_mn]
   omega
  ·simpa [e] using h3
theorem narrow_has (off : Int) : ∀ (ns : List Int) (row row' : List S47) (j : Nat), j + ns.length ≤ row.length → narrowRow off row j ns = some row' → (∀ v, RowHas row' v ↔ RowHas row v ∧ RingsFit off v j ns) ∧ (RowOk row → RowOk row')
 | [], row, row', j, _, h => by
   have : row = row' := by simpa [narrowRow] using h
   subst this
   exact ⟨fun v => by simp [RingsFit], fun h => h⟩
 |n :: ns, row, row', j, hl, h => by
  have hj : j < row.length := by simp at hl; omega
  simp only [narrowRow] at h
  split at h
  ·rename_i hc
   obtain ⟨h1, h2⟩ := narrow_has off ns _ row' (j + 1) (by simp at hl ⊢; omega) h
   refine ⟨fun v => ?_, fun hok => h2 ?_⟩
   ·rw [h1, set_has row j _ _ v hj]
    simp only [RingsFit]
    exact and_assoc
   ·intro y hy
    rw [getD_set row j y _ hj]
    split
    ·exact hc
    ·exact hok y (by simpa using hy)
  ·cases h
theorem narrow_none (off : Int) : ∀ (ns : List Int) (row : List S47) (j : Nat), j + ns.length ≤ row.length → narrowRow off row j ns = none → ∀ v, ¬ (RowHas row v ∧ RingsFit off v j ns)
 | [], row, j, _, h => by simp [narrowRow] at h
 |n :: ns, row, j, hl, h => by
  have hj : j < row.length := by simp at hl; omega
  rintro v ⟨h1, h2⟩
  simp only [RingsFit] at h2
  simp only [narrowRow] at h
  split at h
  ·exact narrow_none off ns _ (j + 1) (by simp at hl ⊢; omega) h v ⟨(set_has row j _ _ v hj).2 ⟨h1, h2.1⟩, h2.2⟩
  ·rename_i hc
   refine hc ?_
   have h3 := h1 j hj
   have h4 := h2.1
   rw [mx_le, le_mn, le_mn]
   omega
def RowsHave (rows : List (List S47)) (v : Nat → Nat → Int) : Prop := ∀ r, r < rows.length → RowHas (rows.getD r []) (v r)
def RowsOk (rows : List (List S47)) : Prop := ∀ r, r < rows.length → RowOk (rows.getD r [])
def ShellFit (rivers : List S43) (v : Nat → Nat → Int) (sh : S45) (o : S27) : Prop :=
 RingsFit ((rd_T43 rivers o.f0).f1 + sh.f1) (v o.f0.toNat) (o.f1 - sh.f0.length + 1).toNat sh.f0
theorem getD_setL (rows : List (List S47)) (j y : Nat) (s : List S47) (hj : j < rows.length) : (rows.set j s).getD y [] = if y = j then s else rows.getD y [] := by
 simp only [List.getD_eq_getElem?_getD, List.getElem?_set]
 by_cases e : j = y
 ·subst e; simp [hj]
 ·simp [e, Ne.symm e]
structure StepAt (s : Sk) (x : St) (sh : S45) (o : S27) : Prop where
 f0 : 0 ≤ o.f0 ∧ o.f0 < s.rivers.length
 f1 : (sh.f0.length : Int) - 1 ≤ o.f1 ∧ o.f1 < s.years
 n : 1 ≤ sh.f0.length
theorem step_row {s : Sk} {x : St} {sh : S45} {o : S27} (hw : WFst s x) (h : StepAt s x sh o) : o.f0.toNat < x.2.length ∧ rd_L2 x.2 o.f0 = x.2.getD o.f0.toNat [] ∧ (o.f1 - sh.f0.length + 1).toNat + sh.f0.length ≤ (x.2.getD o.f0.toNat []).length := by
 have h1 := hw.rows
 have h2 := h.f0
 have h3 := h.f1
 have hlt : o.f0.toNat < x.2.length := by omega
 refine ⟨hlt, rfl, ?_⟩
 have h4 := hw.row (x.2.getD o.f0.toNat []) (by simp [List.getD_eq_getElem?_getD, hlt])
 omega
theorem step_has {s : Sk} {x y : St} {sh : S45} {o : S27} (hw : WFst s x) (h : StepAt s x sh o) (hs : stepS s.rivers x sh o = some y) :
 (∀ v, RowsHave y.2 v ↔ RowsHave x.2 v ∧ ShellFit s.rivers v sh o) ∧ (RowsOk x.2 → RowsOk y.2) ∧ y.1 = x.1 ++ [o] := by
 obtain ⟨hlt, e, hl⟩ := step_row hw h
 unfold stepS at hs
 obtain ⟨row, hr, rfl⟩ := Option.map_eq_some_iff.1 hs
 rw [e] at hr
 obtain ⟨h1, h2⟩ := narrow_has _ _ _ _ _ hl hr
 refine ⟨fun v => ?_, fun hok r hrl => ?_, rfl⟩
 ·unfold RowsHave ShellFit
  simp only [List.length_set, getD_setL x.2 _ _ _ hlt]
  constructor
  ·intro hh
   have h3 := hh o.f0.toNat hlt
   rw [if_pos rfl, h1] at h3
   refine ⟨fun r hrl => ?_, h3.2⟩
   have h4 := hh r hrl
   by_cases er : r = o.f0.toNat
   ·subst er; exact h3.1
   ·rw [if_neg er] at h4; exact h4
  ·rintro ⟨h3, h4⟩ r hrl
   by_cases er : r = o.f0.toNat
   ·subst er
    rw [if_pos rfl, h1]
    exact ⟨h3 _ hlt, h4⟩
   ·rw [if_neg er]; exact h3 r hrl
 ·have hrl' : r < x.2.length := by simpa using hrl
  show RowOk ((x.2.set o.f0.toNat row).getD r [])
  rw [getD_setL x.2 _ _ _ hlt]
  split
  ·exact h2 (hok _ hlt)
  ·exact hok r hrl'
theorem step_none {s : Sk} {x : St} {sh : S45} {o : S27} (hw : WFst s x) (h : StepAt s x sh o) (hs : stepS s.rivers x sh o = none) : ∀ v, ¬ (RowsHave x.2 v ∧ ShellFit s.rivers v sh o) := by
 obtain ⟨hlt, e, hl⟩ := step_row hw h
 unfold stepS at hs
 have hr := Option.map_eq_none_iff.1 hs
 rw [e] at hr
 rintro v ⟨h1, h2⟩
 exact narrow_none _ _ _ _ hl hr (v o.f0.toNat) ⟨h1 _ hlt, h2⟩
def shAt (s : Sk) (i : Nat) : S45 := s.shells.getD i z45
def Cand (s : Sk) (i : Nat) (o : S27) : Prop := o ∈ originsL s.rivers.length (shAt s i).f0.length s.years ∧ testedB s.rivers s.tests i o = true
theorem Good.shAt {s : Sk} (hs : Good s) {i : Nat} (h : i < s.shells.length) : shAt s i ∈ s.shells ∧ 1 ≤ (shAt s i).f0.length := by
 have h1 : Rv.shAt s i ∈ s.shells := by simp [Rv.shAt, List.getD_eq_getElem?_getD, h]
 exact ⟨h1, (hs.rings _ h1).1⟩
theorem Cand.at_ {s : Sk} (hs : Good s) {i : Nat} (hi : i < s.shells.length) {x : St} {o : S27} (h : Cand s i o) : StepAt s x (shAt s i) o := by
 obtain ⟨a, b, c, d⟩ := mem_originsL h.1
 exact ⟨⟨a, b⟩, ⟨c, d⟩, (hs.shAt hi).2⟩
theorem next_iff {s : Sk} {x : St} {o : S27} (y : St) (hm : o ∈ originsL s.rivers.length (shAt s x.1.length).f0.length s.years) : nextS s.rivers s.tests x (shAt s x.1.length) o = some y ↔ Cand s x.1.length o ∧ stepS s.rivers x (shAt s x.1.length) o = some y := by
 unfold nextS Cand
 split
 ·rename_i h; simp [h, hm]
 ·rename_i h; simp [h]
theorem from_sound (s : Sk) (hs : Good s) : ∀ (d : Nat) (x : St), x.1.length + d = s.shells.length → WFst s x → ∀ t ∈ truthsFrom s.years s.rivers s.shells s.tests d x,
 t.1.length = s.shells.length ∧ t.1.take x.1.length = x.1 ∧ WFst s t ∧ (RowsOk x.2 → RowsOk t.2) ∧ (∀ i, x.1.length ≤ i → i < s.shells.length → Cand s i (t.1.getD i z27)) ∧
 ∀ v, RowsHave t.2 v ↔ RowsHave x.2 v ∧ ∀ i, x.1.length ≤ i → i < s.shells.length → ShellFit s.rivers v (shAt s i) (t.1.getD i z27)
 |0, x, hd, hw, t, ht => by
  have : t = x := by simpa [truthsFrom] using ht
  subst this
  refine ⟨by omega, by simp, hw, fun h => h, fun i h1 h2 => by omega, fun v => ⟨fun h => ⟨h, fun i h1 h2 => by omega⟩, fun h => h.1⟩⟩
 |d + 1, x, hd, hw, t, ht => by
  have hlt : x.1.length < s.shells.length := by omega
  unfold truthsFrom at ht
  obtain ⟨o, ho, hto⟩ := List.mem_flatMap.1 ht
  cases hn : nextS s.rivers s.tests x (s.shells.getD x.1.length z45) o with
  |none => rw [hn] at hto; cases hto
  |some y =>
   rw [hn] at hto
   obtain ⟨hc, hst⟩ := (next_iff (s := s) y ho).1 hn
   have hat := hc.at_ hs hlt (x := x)
   obtain ⟨hwy, hy1⟩ := step_WF hw hat.f0 hlt hst
   obtain ⟨hh, hok, _⟩ := step_has hw hat hst
   have hyl : y.1.length = x.1.length + 1 := by rw [hy1]; simp
   obtain ⟨a1, a2, a3, a4, a5, a6⟩ := from_sound s hs d y (by omega) hwy t hto
   have hto' : t.1.getD x.1.length z27 = o := by
    have : (t.1.take y.1.length).getD x.1.length z27 = y.1.getD x.1.length z27 := by rw [a2]
    rw [hy1, List.getD_eq_getElem?_getD, List.getElem?_take_of_lt (by simp)] at this
    rw [List.getD_eq_getElem?_getD, this]
    simp
   have hle : ∀ i, x.1.length ≤ i → i = x.1.length ∨ y.1.length ≤ i := fun i h => by omega
   refine ⟨a1, ?_, a3, fun h => a4 (hok h), fun i h1 h2 => ?_, fun v => ?_⟩
   ·have : (t.1.take y.1.length).take x.1.length = (x.1 ++ [o]).take x.1.length := by rw [a2, hy1]
    rw [List.take_take, Nat.min_eq_left (by omega), List.take_left'] at this
    ·exact this
    ·rfl
   ·rcases hle i h1 with rfl | h3
    ·rw [hto']; exact hc
    ·exact a5 i h3 h2
   ·rw [a6, hh]
    constructor
    ·rintro ⟨⟨h1, h2⟩, h3⟩
     refine ⟨h1, fun i h4 h5 => ?_⟩
     rcases hle i h4 with rfl | h6
     ·rw [hto']; exact h2
     ·exact h3 i h6 h5
    ·rintro ⟨h1, h2⟩
     have h3 := h2 x.1.length (Nat.le_refl _) hlt
     rw [hto'] at h3
     exact ⟨⟨h1, h3⟩, fun i h4 h5 => h2 i (by omega) h5⟩
theorem from_complete (s : Sk) (hs : Good s) (os : List S27) (v : Nat → Nat → Int) (hlen : os.length = s.shells.length) : ∀ (d : Nat) (x : St), x.1.length + d = s.shells.length → WFst s x → x.1 = os.take x.1.length → RowsHave x.2 v →
 (∀ i, x.1.length ≤ i → i < s.shells.length → Cand s i (os.getD i z27) ∧ ShellFit s.rivers v (shAt s i) (os.getD i z27)) → ∃ t ∈ truthsFrom s.years s.rivers s.shells s.tests d x, t.1 = os
 |0, x, hd, hw, hx, hv, h => by
  refine ⟨x, by simp [truthsFrom], ?_⟩
  rw [hx]
  exact List.take_of_length_le (by omega)
 |d + 1, x, hd, hw, hx, hv, h => by
  have hlt : x.1.length < s.shells.length := by omega
  obtain ⟨hc, hf⟩ := h x.1.length (Nat.le_refl _) hlt
  have hat := hc.at_ hs hlt (x := x)
  cases hst : stepS s.rivers x (shAt s x.1.length) (os.getD x.1.length z27) with
  |none => exact absurd ⟨hv, hf⟩ (step_none hw hat hst v)
  |some y =>
   obtain ⟨hwy, hy1⟩ := step_WF hw hat.f0 hlt hst
   obtain ⟨hh, _, _⟩ := step_has hw hat hst
   have hyl : y.1.length = x.1.length + 1 := by rw [hy1]; simp
   have hyt : y.1 = os.take y.1.length := by
    have hxl : x.1.length < os.length := by omega
    rw [hyl, hy1, List.take_add_one, ← hx]
    congr 1
    simp [List.getD_eq_getElem?_getD, hxl]
   obtain ⟨t, ht, hto⟩ := from_complete s hs os v hlen d y (by omega) hwy hyt ((hh v).2 ⟨hv, hf⟩) (fun i h1 h2 => h i (by omega) h2)
   refine ⟨t, ?_, hto⟩
   unfold truthsFrom
   refine List.mem_flatMap.2 ⟨os.getD x.1.length z27, hc.1, ?_⟩
   have hn := (next_iff (s := s) y hc.1).2 ⟨hc, hst⟩
   have hn' : nextS s.rivers s.tests x (s.shells.getD x.1.length z45) (os.getD x.1.length z27) = some y := hn
   rw [hn']
   exact ht
def growL (rivers : List S43) : List (List S47) := rivers.map (·.f0)
structure TruthV (s : Sk) (os : List S27) (v : Nat → Nat → Int) : Prop where
 len : os.length = s.shells.length
 grow : RowsHave (growL s.rivers) v
 cand : ∀ i, i < s.shells.length → Cand s i (os.getD i z27)
 fit : ∀ i, i < s.shells.length → ShellFit s.rivers v (shAt s i) (os.getD i z27)
theorem wf0 {s : Sk} (hs : Good s) : WFst s ([], growL s.rivers) := ⟨by simp [growL], fun r hr => by
 obtain ⟨q, hq, rfl⟩ := List.mem_map.1 hr
 exact hs.grow q hq, by simp⟩
theorem truths_complete {s : Sk} (hs : Good s) {os : List S27} {v : Nat → Nat → Int} (h : TruthV s os v) : ∃ t ∈ truthsOf s, t.1 = os :=
 from_complete s hs os v h.len s.shells.length ([], growL s.rivers) (by simp) (wf0 hs) rfl h.grow (fun i _ hi => ⟨h.cand i hi, h.fit i hi⟩)
theorem truths_sound {s : Sk} (hs : Good s) {t : St} (ht : t ∈ truthsOf s) : WFst s t ∧ t.1.length = s.shells.length ∧ (RowsOk (growL s.rivers) → RowsOk t.2) ∧ ∀ v, RowsHave t.2 v ↔ TruthV s t.1 v := by
 obtain ⟨a1, _, a3, a4, a5, a6⟩ := from_sound s hs s.shells.length ([], growL s.rivers) (by simp) (wf0 hs) t ht
 refine ⟨a3, a1, a4, fun v => ?_⟩
 rw [a6]
 constructor
 ·rintro ⟨h1, h2⟩
  exact ⟨a1, h1, fun i hi => a5 i (Nat.zero_le _) hi, fun i hi => h2 i (Nat.zero_le _) hi⟩
 ·intro h
  exact ⟨h.grow, fun i _ hi => h.fit i hi⟩
def lowV (rows : List (List S47)) : Nat → Nat → Int := fun r y => ((rows.getD r []).getD y z47).f0
theorem lowV_have {rows : List (List S47)} (h : RowsOk rows) : RowsHave rows (lowV rows) := fun r hr y hy => ⟨Int.le_refl _, h r hr y hy⟩
theorem growOk {years : Int} {rivers : List S43} (h : isBookB years rivers = true) : RowsOk (growL rivers) := by
 intro r hr y hy
 obtain ⟨_, _, h3⟩ := book_facts h
 have hr' : r < rivers.length := by simpa [growL] using hr
 have e : (growL rivers).getD r [] = rivers[r].f0 := by simp [growL, List.getD_eq_getElem?_getD, hr']
 rw [e] at hy ⊢
 have h4 := (h3 rivers[r] (List.getElem_mem hr')).2.2.2 (rivers[r].f0[y]) (List.getElem_mem hy)
 have e2 : rivers[r].f0.getD y z47 = rivers[r].f0[y] := by simp [List.getD_eq_getElem?_getD, hy]
 rw [e2]
 exact h4.1.2
theorem truth_has {s : Sk} (hs : Good s) (hb : isBookB s.years s.rivers = true) {t : St} (ht : t ∈ truthsOf s) : ∃ v, TruthV s t.1 v := by
 obtain ⟨_, _, a, b⟩ := truths_sound hs ht
 exact ⟨_, (b _).1 (lowV_have (a (growOk hb)))⟩
theorem mem_couldL {s : Sk} (hs : Good s) (hb : isBookB s.years s.rivers = true) {i : Nat} (hi : i < s.shells.length) {o : S27} : o ∈ couldL s i ↔ ∃ os v, TruthV s os v ∧ os.getD i z27 = o := by
 unfold couldL
 rw [List.mem_filter, List.any_eq_true]
 constructor
 ·rintro ⟨_, t, ht, e⟩
  obtain ⟨v, hv⟩ := truth_has hs hb ht
  refine ⟨t.1, v, hv, ?_⟩
  simp only [isO, Bool.and_eq_true, beq_iff_eq] at e
  cases o
  cases h : t.1.getD i z27
  rw [h] at e
  simp_all
 ·rintro ⟨os, v, hv, rfl⟩
  obtain ⟨t, ht, rfl⟩ := truths_complete hs hv
  have hc := hv.cand i hi
  obtain ⟨a, b, c, d⟩ := mem_originsL hc.1
  have := (hs.shAt hi).2
  exact ⟨mem_originsL_iff.2 ⟨a, b, by omega, d⟩, t, ht, by simp [isO]⟩
end Go.Proofs.YtfijblhfgfefoaaGreatDoor.Rv
end
section
namespace Go.Proofs.YtfijblhfgfefoaaGreatDoor.Rv
open Go.RowKit Go.Shelf Go.IntWalk Go.Proofs.YtfijblhfgfefoaaGreatDoor.PAll Go.Proofs.YtfijblhfgfefoaaGreatDoorW.PrintWords Go.Proofs.YtfijblhfgfefoaaGreatDoorW.PrintLast
def joinS (o r : S47) : S47 := ⟨min o.f0 r.f0, max o.f1 r.f1⟩
def jr (o r : List S47) : Nat → List S47
 |0 => o
 |k + 1 => (jr o r k).set k (joinS ((jr o r k).getD k z47) (r.getD k z47))
def jrs (out rows : List (List S47)) : Nat → List (List S47)
 |0 => out
 |i + 1 => (jrs out rows i).set i (jr ((jrs out rows i).getD i []) (rows.getD i []) (rows.getD i []).length)
def startW (out rows : List (List S47)) : List (List S47) := if out = [] then rows else out
def joinW (out rows : List (List S47)) : List (List S47) := jrs (startW out rows) rows rows.length
def accW (xs : List St) : List (List S47) := xs.foldl (fun out x => joinW out x.2) []
theorem accW_snoc (xs : List St) (x : St) : accW (xs ++ [x]) = joinW (accW xs) x.2 := by simp [accW, List.foldl_append]
theorem jr_length (o r : List S47) (k : Nat) : (jr o r k).length = o.length := by
 induction k with
 |zero => rfl
 |succ k ih => simp [jr, ih]
structure WShape (R Y : Nat) (rows : List (List S47)) : Prop where
 n : rows.length = R
 row : ∀ (i : Nat) (r : List S47), rows[i]? = some r → r.length = Y
theorem WShape.set {R Y : Nat} {rows : List (List S47)} (h : WShape R Y rows) (i : Nat) (r : List S47) (hr : r.length = Y) : WShape R Y (rows.set i r) := by
 refine ⟨by simpa using h.n, fun j q hj => ?_⟩
 rw [List.getElem?_set] at hj
 split at hj
 ·split at hj
  ·cases hj; exact hr
  ·cases hj
 ·exact h.row j q hj
theorem WShape.getD {R Y : Nat} {rows : List (List S47)} (h : WShape R Y rows) (i : Nat) (hi : i < R) : (rows.getD i []).length = Y := by
 have hi' : i < rows.length := by rw [h.n]; exact hi
 have := h.row i rows[i] (by simp [hi'])
 simpa [List.getD_eq_getElem?_getD, hi'] using this
theorem jrs_shape {R Y : Nat} {out rows : List (List S47)} (h : WShape R Y out) : ∀ i, i ≤ R → WShape R Y (jrs out rows i)
 |0, _ => h
 |i + 1, hi => by
  have ih := jrs_shape (rows := rows) h i (by omega)
  exact ih.set i _ (by rw [jr_length, ih.getD i (by omega)])
theorem joinW_shape {R Y : Nat} {out rows : List (List S47)} (h : WShape R Y out ∨ out = []) (hr : WShape R Y rows) : WShape R Y (joinW out rows) := by
 unfold joinW startW
 rw [hr.n]
 split
 ·exact jrs_shape hr R (Nat.le_refl _)
 ·rename_i hne
  exact jrs_shape (h.resolve_right hne) R (Nat.le_refl _)
theorem accW_shape {R Y : Nat} : ∀ (xs : List St), (∀ x ∈ xs, WShape R Y x.2) → WShape R Y (accW xs) ∨ (accW xs = [] ∧ xs = []) := by
 intro xs
 suffices h : ∀ out, (WShape R Y out ∨ out = []) → (∀ x ∈ xs, WShape R Y x.2) → WShape R Y (xs.foldl (fun out x => joinW out x.2) out) ∨ (xs.foldl (fun out x => joinW out x.2) out = [] ∧ xs = []) from fun hx => h [] (.inr rfl) hx
 induction xs with
 |nil =>
  rintro out (h | h) _
  ·exact .inl h
  ·exact .inr ⟨h, rfl⟩
 |cons x xs ih =>
  intro out h hx
  have h1 := joinW_shape h (hx x (by simp))
  rcases ih _ (.inl h1) (fun y hy => hx y (by simp [hy])) with h2 | h2
  ·exact .inl h2
  ·refine .inl ?_
   have : xs = [] := h2.2
   subst this
   exact h1
theorem own_lower {w : World} {b b' : Nat} {e : TypeId} {sz n : Nat} {v : Value} {cs : List Value} (h : w.ownsRow b e sz v n cs) (hb : b' ≤ b) : w.ownsRow b' e sz v n cs := by
 obtain ⟨h1, h2⟩ := h
 refine ⟨h1, ?_⟩
 rcases h2 with h2 | ⟨g, cap, cur, a, c, d⟩
 ·exact .inl h2
 ·exact .inr ⟨g, cap, cur, a, Nat.le_trans hb c, d⟩
def rowCell (g : Nat × Nat) (row : List S47) : Value := .slice (some ⟨g.1, 0, none⟩) row.length g.2
structure ORows (base : Nat) (v : Value) (gs : List (Nat × Nat)) (rows : List (List S47)) (W : World) : Prop where
 out : W.ownsRow base 41 1 v rows.length (List.zipWith rowCell gs rows)
 n : gs.length = rows.length
 each : ∀ (i : Nat) (g : Nat × Nat) (row : List S47), gs[i]? = some g → rows[i]? = some row → W.ownsRow base 47 2 (rowCell g row) row.length (flat47 row)
 nd : (gs.map (·.1)).Nodup
theorem ORows.nil (base : Nat) (W : World) : ORows base (.slice none 0 0) [] [] W := ⟨own_nil _ _ _ _, rfl, fun i g row h => by simp at h, by simp⟩
theorem ORows.move {base : Nat} {v : Value} {gs : List (Nat × Nat)} {rows : List (List S47)} {W W' : World} (h : ORows base v gs rows W) (hm : ∀ k, (some k = v.ownBlock ∨ k ∈ gs.map (·.1)) → W'.heap[k]? = W.heap[k]?) : ORows base v gs rows W' := by
 refine ⟨own_move h.out (fun k hk => hm k (.inl hk.symm)), h.n, fun i g row hg hr => own_move (h.each i g row hg hr) (fun k hk => hm k (.inr ?_)), h.nd⟩
 have : g.1 = k := by simpa [rowCell, Value.ownBlock] using hk
 rw [← this]
 exact List.mem_map.2 ⟨g, List.mem_of_getElem? hg, rfl⟩
theorem ORows.lt {base : Nat} {v : Value} {gs : List (Nat × Nat)} {rows : List (List S47)} {W : World} (h : ORows base v gs rows W) {k : Nat} (hk : some k = v.ownBlock ∨ k ∈ gs.map (·.1)) : k < W.heap.size ∧ base ≤ k := by
 rcases hk with hk | hk
 ·exact ⟨own_lt h.out k hk.symm, own_base h.out k hk.symm⟩
 ·obtain ⟨g, hg, rfl⟩ := List.mem_map.1 hk
  obtain ⟨i, hi, e⟩ := List.mem_iff_getElem.1 hg
  have h1 : gs[i]? = some g := by rw [← e]; simp [hi]
  have h2 : rows[i]? = some (rows[i]'(by have := h.n; omega)) := by have := h.n; simp [show i < rows.length by omega]
  have h3 := h.each i g _ h1 h2
  exact ⟨own_lt h3 g.1 rfl, own_base h3 g.1 rfl⟩
theorem ORows.below {base : Nat} {v : Value} {gs : List (Nat × Nat)} {rows : List (List S47)} {W W' : World} (h : ORows base v gs rows W) (hb : Below W.heap.size W W') : ORows base v gs rows W' :=
 h.move (fun k hk => hb.block k (h.lt hk).1)
theorem ORows.ne {base : Nat} {v : Value} {gs : List (Nat × Nat)} {rows : List (List S47)} {W : World} (h : ORows base v gs rows W) {p : Nat} {cs : Array Value} {t : TypeId} (hp : W.heap[p]? = some (.cells cs t (0, 0))) (h41 : 41 ≠ t) (h47 : 47 ≠ t) : ¬ (some p = v.ownBlock ∨ p ∈ gs.map (·.1)) := by
 rintro (e | e)
 ·exact own_ne h.out hp h41 e
 ·obtain ⟨g, hg, rfl⟩ := List.mem_map.1 e
  obtain ⟨i, hi, e⟩ := List.mem_iff_getElem.1 hg
  have h1 : gs[i]? = some g := by rw [← e]; simp [hi]
  have h2 : rows[i]? = some (rows[i]'(by have := h.n; omega)) := by have := h.n; simp [show i < rows.length by omega]
  exact own_ne (h.each i g _ h1 h2) hp h47 rfl
theorem ORows.at_ {base : Nat} {v : Value} {gs : List (Nat × Nat)} {rows : List (List S47)} {W : World} (h : ORows base v gs rows W) (i : Nat) (hi : i < rows.length) : ∃ g c, gs[i]? = some (g, c) ∧ W.ownsRow base 47 2 (.slice (some ⟨g, 0, none⟩) (rows.getD i []).length c) (rows.getD i []).length (flat47 (rows.getD i [])) ∧
 ∃ go co, v = .slice (some ⟨go, 0, none⟩) rows.length co ∧ W.cell? ⟨go, i, none⟩ = some (.slice (some ⟨g, 0, none⟩) (rows.getD i []).length c) ∧ go ≠ g := by
 have hgi : i < gs.length := by rw [h.n]; exact hi
 have h2 : rows[i]? = some (rows.getD i []) := by simp [List.getD_eq_getElem?_getD, hi]
 have h1 : gs[i]? = some gs[i] := by simp [hgi]
 have h3 := h.each i _ _ h1 h2
 have hc : (List.zipWith rowCell gs rows)[i]? = some (rowCell gs[i] (rows.getD i [])) := by
  rw [List.getElem?_zipWith, h1, h2]
 refine ⟨gs[i].1, gs[i].2, h1, h3, ?_⟩
 have ho := h.out
 rcases ho.2 with ⟨_, h0⟩ | ⟨g', cap', cur, h3', _, hh, _⟩
 ·omega
 ·subst h3'
  refine ⟨g', cap', rfl, (own_cell ho i _ hc).1, ?_⟩
  rintro rfl
  exact own_ne h3 hh (by decide) rfl
theorem ORows.set {base : Nat} {v : Value} {gs : List (Nat × Nat)} {rows : List (List S47)} {W : World} (h : ORows base v gs rows W) {i g c : Nat} (hi : i < rows.length) (hg : gs[i]? = some (g, c)) (j : Nat) (m : S47) :
 ORows base v gs (rows.set i ((rows.getD i []).set j m)) ((W.setCell ⟨g, j * 2, none⟩ (.int .i64 m.f0)).setCell ⟨g, j * 2 + 1, none⟩ (.int .i64 m.f1)) := by
 have h2 : rows[i]? = some (rows.getD i []) := by simp [List.getD_eq_getElem?_getD, hi]
 have h3 := h.each i _ _ hg h2
 have far : ∀ k, k ≠ g → ((W.setCell ⟨g, j * 2, none⟩ (.int .i64 m.f0)).setCell ⟨g, j * 2 + 1, none⟩ (.int .i64 m.f1)).heap[k]? = W.heap[k]? := fun k hk => (Below.heap_setCell _ ⟨g, j * 2 + 1, none⟩ _ _ hk).trans (Below.heap_setCell _ ⟨g, j * 2, none⟩ _ _ hk)
 have hvg : some g ≠ v.ownBlock := by
  rcases h.out.2 with ⟨e, _⟩ | ⟨g', cap', cur, e, _, hh, _⟩
  ·rw [e]; intro e'; cases e'
  ·rw [e]
   intro e'
   have : g = g' := by simpa [Value.ownBlock] using e'
   subst this
   exact own_ne h3 hh (by decide) rfl
 have hz : List.zipWith rowCell gs (rows.set i ((rows.getD i []).set j m)) = List.zipWith rowCell gs rows := by
  apply List.ext_getElem?
  intro t
  rw [List.getElem?_zipWith, List.getElem?_zipWith, List.getElem?_set]
  by_cases e : i = t
  ·subst e
   rw [if_pos rfl, if_pos hi, hg, h2]
   simp [rowCell]
  ·rw [if_neg e]
 refine ⟨?_, by simpa using h.n, fun t gt row hgt hrow => ?_, h.nd⟩
 ·rw [hz, List.length_set]
  exact own_move h.out (fun k hk => far k (by rintro rfl; exact hvg hk.symm))
 ·rw [List.getElem?_set] at hrow
  by_cases e : i = t
  ·subst e
   rw [if_pos rfl, if_pos hi] at hrow
   cases hrow
   rw [hg] at hgt
   cases hgt
   have := own47_set (h3 : W.ownsRow base 47 2 (.slice (some ⟨g, 0, none⟩) (rows.getD i []).length c) (rows.getD i []).length (flat47 (rows.getD i []))) j m
   simpa [rowCell] using this
  ·rw [if_neg e] at hrow
   refine own_move (h.each t gt row hgt hrow) (fun k hk => far k ?_)
   rintro rfl
   have e1 : gt.1 = k := by simpa [rowCell, Value.ownBlock] using hk
   apply e
   have h5 := List.pairwise_iff_getElem.1 h.nd
   have hil : i < gs.length := (List.getElem?_eq_some_iff.1 hg).1
   have htl : t < gs.length := (List.getElem?_eq_some_iff.1 hgt).1
   have e2 : gs[i] = (k, c) := (List.getElem?_eq_some_iff.1 hg).2
   have e3 : gs[t] = gt := (List.getElem?_eq_some_iff.1 hgt).2
   rcases Nat.lt_trichotomy i t with hlt | hlt | hlt
   ·refine absurd ?_ (h5 i t (by simpa using hil) (by simpa using htl) hlt)
    simp [e2, e3, e1]
   ·exact hlt
   ·refine absurd ?_ (h5 t i (by simpa using htl) (by simpa using hil) hlt)
    simp [e2, e3, e1]
theorem ORows.push {base : Nat} {v v' : Value} {gs : List (Nat × Nat)} {rows : List (List S47)} {W W1 W2 : World} (h : ORows base v gs rows W) (hbase : base ≤ W.heap.size) (row : List S47) (g c : Nat) (hb : Below W.heap.size W W1) (hr : W1.ownsRow W.heap.size 47 2 (.slice (some ⟨g, 0, none⟩) row.length c) row.length (flat47 row))
 (ho : W2.ownsRow base 41 1 v' (rows.length + 1) (List.zipWith rowCell gs rows ++ [.slice (some ⟨g, 0, none⟩) row.length c])) (hg : W1.grownBy W2 v.ownBlock) : ORows base v' (gs ++ [(g, c)]) (rows ++ [row]) W2 := by
 have h1 := h.below hb
 have hge : W.heap.size ≤ g := own_base hr g rfl
 have hkeep : ∀ {w : World} {b n : Nat} {u : Value} {cs : List Value}, W1.ownsRow b 47 2 u n cs → W2.ownsRow b 47 2 u n cs := fun {w b n u cs} hu => own_move hu (fun k hk => hg.block k (own_lt hu k hk) (fun e => by
  rcases h1.out.2 with ⟨e1, _⟩ | ⟨g', cap', cur, e1, _, hh, _⟩
  ·rw [e1] at e; cases e
  ·rw [e1] at e
   have : k = g' := by simpa [Value.ownBlock] using e
   subst this
   exact own_ne hu hh (by decide) hk.symm))
 refine ⟨?_, by simp [h.n], fun i gi r hgi hri => ?_, ?_⟩
 ·rw [List.length_append, List.zipWith_append h.n]
  exact ho
 ·rcases Nat.lt_or_ge i gs.length with hi | hi
  ·rw [List.getElem?_append_left hi] at hgi
   rw [List.getElem?_append_left (by rw [← h.n]; exact hi)] at hri
   exact hkeep (w := W) (h1.each i gi r hgi hri)
  ·rw [List.getElem?_append_right hi] at hgi
   rw [List.getElem?_append_right (by rw [← h.n]; exact hi)] at hri
   have hi0 : i - gs.length = 0 := by
    have := (List.getElem?_eq_some_iff.1 hgi).1
    simp at this
    omega
   rw [hi0] at hgi
   rw [show i - rows.length = 0 by rw [← h.n]; exact hi0] at hri
   cases hgi
   cases hri
   exact own_lower (hkeep (w := W) hr) hbase
 ·rw [List.map_append, List.nodup_append]
  refine ⟨h.nd, by simp, fun a ha b hb' => ?_⟩
  have : b = g := by simpa using hb'
  subst this
  have := (h.lt (.inr ha)).1
  omega
theorem ORows.V {base : Nat} {v : Value} {gs : List (Nat × Nat)} {rows : List (List S47)} {W : World} (h : ORows base v gs rows W) : Kd.V (Kd.slice 47 k47) 41 W base (fun k => base ≤ k) v rows := by
 have hr : Reps (fun x c => Kd.FK (Kd.slice 47 k47) W (fun k => base ≤ k) x c) 1 rows (List.zipWith rowCell gs rows) := by
  refine ⟨by simp [h.n], fun j p hj => ?_⟩
  have hjl := (List.getElem?_eq_some_iff.1 hj).1
  have hgl : j < gs.length := by rw [h.n]; exact hjl
  have h1 : gs[j]? = some gs[j] := by simp [hgl]
  have h3 := h.each j _ _ h1 hj
  have hd : ((List.zipWith rowCell gs rows).drop (j * 1)).take 1 = [rowCell gs[j] p] := by
   have hl : j < (List.zipWith rowCell gs rows).length := by simp; omega
   have e : (List.zipWith rowCell gs rows)[j] = rowCell gs[j] p := by
    have : rows[j] = p := by simpa [hjl] using hj
    simp [this]
   rw [Nat.mul_one, List.drop_eq_getElem_cons hl, e]
   simp
  rw [hd]
  obtain ⟨A, c, e, hn, hle, hF⟩ := own47_F h3
  have : rowCell gs[j] p = .slice A p.length c := e
  rw [this]
  exact Kd.FK_slice_mk hle (Kd.F_mono hF (fun k hk => own_base h3 k hk.symm))
 obtain ⟨A, c, rfl, hle, hF⟩ := own_F (d := Kd.slice 47 k47) h.out hr rfl
 exact Kd.V_mk hle (Kd.F_mono hF (fun k hk => by
  rcases hk with hk | hk
  ·exact hk
  ·exact own_base h.out k hk.symm))
end Go.Proofs.YtfijblhfgfefoaaGreatDoor.Rv
end
