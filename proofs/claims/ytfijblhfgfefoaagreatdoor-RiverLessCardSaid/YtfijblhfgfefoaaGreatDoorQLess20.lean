/- A part of the proof: words, contracts of functions, and their walks. -/
import Derived.Test.YtfijblhfgfefoaaGreatDoorQLess3
import Derived.Test.YtfijblhfgfefoaaGreatDoorQLess19
set_option linter.unusedVariables false
set_option linter.unusedSimpArgs false
section
namespace Go.Proofs.YtfijblhfgfefoaaGreatDoor.Rv
open Go.RowKit Go.Shelf Go.IntWalk Go.Proofs.YtfijblhfgfefoaaGreatDoor.PAll Go.Proofs.YtfijblhfgfefoaaGreatDoorW.PrintWords Go.Proofs.YtfijblhfgfefoaaGreatDoorW.PrintLast
theorem rdi_at {l : List Int} {i : Nat} (h : i < l.length) : rd l i = l[i] := by simp [rd, List.getD_eq_getElem?_getD, h]
theorem rd27_at {l : List S27} {i : Nat} (h : i < l.length) : rd_T27 l i = l[i] := by simp [rd_T27, List.getD_eq_getElem?_getD, h]
set_option maxRecDepth 100000 in
set_option maxHeartbeats 1000000 in
theorem Shell_walk (A : Option Addr) (c : Nat) (l : List Int) (off : Int) (w : World) (hr : Kd.C (Kd.int .i64) w A l.length l) :
 Calls Tryz.prog 25 #[.agg #[.slice A l.length c, .int .i64 off]] w fun e w' => e = .returned (.bool (isShellB l off)) ∧ Below w.heap.size w w' := by
 have hu45 := Tryz.underlying45
 have HR := zk hr
 have hlen := Kd.C_max hr
 have HB := zk (below1 (w := w) (.cells #[.slice A l.length c, .int .i64 off] 45))
 have H1 := zk (blk_new w (.cells #[.slice A l.length c, .int .i64 off] 45))
 have HQ := zk (show isShellB l off = (inB l.length 1 5 && inB off 0 3 && !(l.any badRing)) from rfl)
 generalize isShellB l off = q at HQ ⊢
 clear hr
 go_enter Tryz.func25, Tryz.ntmps25
 go_wp2
 generalize w.alloc (.cells #[.slice A l.length c, .int .i64 off] 45) = w1 at HB H1 ⊢
 obtain ⟨p1, e1⟩ : ∃ p1, p1 = w.heap.size := ⟨_, rfl⟩
 rw [← e1] at H1 ⊢
 clear e1
 obtain ⟨c10, f10, c11, f11, l1⟩ := cl2 H1.out
 go_loopg [3] l.length (fun gg v3 wr => ∃ i : Nat, i ≤ l.length ∧ l.length - i ≤ gg ∧ v3 = .int .i64 i ∧ wr = w1 ∧ Aside0 ((l.take i).any badRing = false))
 case atStart => exact ⟨0, by omega, by omega, rfl, rfl, ⟨rfl⟩⟩
 case round =>
  obtain ⟨i, hi, hgg, rfl, rfl, HA⟩ := hrel
  by_cases hlt : i < l.length
  ·have hltz : (i : Int) < (l.length : Int) := by omega
   obtain ⟨ad, hA, d0⟩ := Kd.at_int (Kd.C_below HR.out HB.out) (i : Int) (by omega) (by omega)
   subst hA
   simp only [Int.toNat_natCast] at d0
   have hsn := any_take_succ badRing l i hlt
   rw [HA.out, ← rdi_at hlt] at hsn
   have HLT := zk hlt
   obtain ⟨n, en⟩ : ∃ n, n = rd l i := ⟨_, rfl⟩
   rw [← en] at hsn d0
   rw [show badRing n = !(inB n 0 60) from rfl] at hsn
   have E72 := zk (in72 n 0 60)
   generalize inB n 0 60 = b at hsn E72
   have HSN := zk hsn
   clear en hsn hlt
   cases b with
   |false =>
    go_wp2_with (go_at_call 72; (with_reducible refine (E72.out _).mono ?_); rintro e w9 ⟨rfl, rfl⟩)
    go_ret
    have hf : l.any badRing = true := any_of_take _ _ (i + 1) (by rw [HSN.out]; rfl)
    exact ⟨by rw [HQ.out, hf]; simp, HB.out⟩
   |true =>
    go_wp2_with (go_at_call 72; (with_reducible refine (E72.out _).mono ?_); rintro e w9 ⟨rfl, rfl⟩)
    go_roundg (l.length - (i + 1))
    case measure => have := HLT.out; omega
    case rel => exact ⟨i + 1, by have := HLT.out; omega, Nat.le_refl _, by go_num, rfl, ⟨by rw [HSN.out]; rfl⟩⟩
  ·have hk2 : i = l.length := by omega
   subst hk2
   have ht : l.any badRing = false := by
    have := HA.out
    rwa [List.take_of_length_le (Nat.le_refl _)] at this
   have HT := zk ht
   have e1 := in72 l.length 1 5
   have e2 := in72 off 0 3
   have E72 := zk (And.intro e1 e2)
   generalize inB l.length 1 5 = b1 at E72 HQ
   generalize inB off 0 3 = b2 at E72 HQ
   clear hlt ht e1 e2
   have hor : (b1 = false) ∨ (b1 = true) := by cases b1 <;> simp
   rcases hor with rfl | rfl
   all_goals
    go_wp2_with (go_at_call 72; (first | (with_reducible refine (E72.out.1 _).mono ?_) | (with_reducible refine (E72.out.2 _).mono ?_)); rintro e w9 ⟨rfl, rfl⟩)
    go_ret
    exact ⟨by rw [HQ.out, HT.out]; simp, HB.out⟩
def hasB (l : List S27) (a b : Int) : Bool := l.any fun o => o.f0 == a && o.f1 == b
theorem hasB_mem {l : List S27} {o : S27} : hasB l o.f0 o.f1 = true ↔ o ∈ l := by
 unfold hasB
 rw [List.any_eq_true]
 constructor
 ·rintro ⟨q, hq, h⟩
  simp only [Bool.and_eq_true, beq_iff_eq] at h
  have : q = o := by cases q; cases o; simp_all
  rw [← this]; exact hq
 ·intro h
  exact ⟨o, h, by simp⟩
theorem any_take27 (l : List S27) (a b : Int) (i : Nat) (h : i < l.length) : hasB (l.take (i + 1)) a b = (hasB (l.take i) a b || ((rd_T27 l i).f0 == a && (rd_T27 l i).f1 == b)) := by
 unfold hasB
 rw [any_take_succ _ l i h, rd27_at h]
theorem eq27 (d : Nat) (w : World) (x0 y0 : Int) (x1 y1 : Int) :
 (Op.equalIn (d + 2) 27 (.agg #[.int .i64 x0, .int .i64 x1]) (.agg #[.int .i64 y0, .int .i64 y1])).run Tryz.prog w = .ok (x0 == y0 && (x1 == y1)) w := by
 refine eqA_of Tryz.underlying27 (by kernel_rfl) ?_
 refine eqf_cons (by rfl) (by go_simp; rfl) (by go_simp; rfl) (by go_simp) ?_
 exact eqf_last (by rfl) (by go_simp; rfl) (by go_simp; rfl) (by go_simp)
attribute [local go_sem high] eq27
set_option maxRecDepth 100000 in
set_option maxHeartbeats 1000000 in
theorem has_walk (A : Option Addr) (c : Nat) (l : List S27) (a b : Int) (w : World) (hr : Kd.C k27 w A l.length l) (h30 : l.length ≤ 30) :
 Calls Tryz.prog 28 #[.slice A l.length c, .agg #[.int .i64 a, .int .i64 b]] w fun e w' => e = .returned (.bool (hasB l a b)) ∧ Below w.heap.size w w' := by
 have hu27 := Tryz.underlying27
 have HR := zk hr
 have HB := zk (below1 (w := w) (.cells #[.int .i64 a, .int .i64 b] 27))
 have H3 := zk (blk_new w (.cells #[.int .i64 a, .int .i64 b] 27))
 obtain ⟨q, eq⟩ : ∃ q, q = hasB l a b := ⟨_, rfl⟩
 have HQ := zk eq
 rw [← eq]
 clear hr eq
 go_enter Tryz.func28, Tryz.ntmps28
 go_wp2
 generalize w.alloc (.cells #[.int .i64 a, .int .i64 b] 27) = w1 at HB H3 ⊢
 obtain ⟨p1, e1⟩ : ∃ p1, p1 = w.heap.size := ⟨_, rfl⟩
 rw [← e1] at H3 ⊢
 clear e1
 go_loopg [5] l.length (fun gg v5 wr => ∃ i : Nat, i ≤ l.length ∧ l.length - i ≤ gg ∧ v5 = .int .i64 i ∧ Aside0 (Below w1.heap.size w1 wr) ∧ Aside0 (hasB (l.take i) a b = false))
 case atStart => exact ⟨0, by omega, by omega, rfl, ⟨Below.refl _ _⟩, ⟨rfl⟩⟩
 case round =>
  obtain ⟨i, hi, hgg, rfl, BW, HA⟩ := hrel
  by_cases hlt : i < l.length
  ·have hltz : (i : Int) < (l.length : Int) := by omega
   have h30z : (i : Int) < 30 := by omega
   obtain ⟨ad, hA, d0, d1⟩ := at_T27 (Kd.C_below (Kd.C_below HR.out HB.out) BW.out) (i : Int) (by omega) (by omega)
   subst hA
   simp only [Int.toNat_natCast] at d0 d1
   have hsn := any_take27 l a b i hlt
   rw [HA.out] at hsn
   have HLT := zk hlt
   obtain ⟨o, eo⟩ : ∃ o, o = rd_T27 l i := ⟨_, rfl⟩
   rw [← eo] at hsn d0 d1
   obtain ⟨x, y⟩ := o
   simp only at hsn d0 d1
   obtain ⟨t, et⟩ : ∃ t, t = (x == a && y == b) := ⟨_, rfl⟩
   rw [← et] at hsn
   have HSN := zk hsn
   have ET := zk et
   clear eo hsn hlt et
   go_wp2
   refine region_lit (lit := ?lit) 6 [[],[],[0,1],[2],[],[3,4]]
    [some (.slice (some ad) l.length c), some (.int .i64 i), some (.pointer (some (ad.add (i * 2)))), some (.agg #[.int .i64 x, .int .i64 y]), some (.agg #[.int .i64 a, .int .i64 b]), some (.bool t)]
    (fun f u W' => Aside0 (Below wr.heap.size wr W')) ?hlit (by kernel_rfl) (by kernel_rfl) (by decide) ?_ ?_ ?_ ?_ ?_
   case hlit =>
    intro u
    simp only [List.take_succ_cons, List.take_zero, List.map_cons, List.map_nil, setAll, Nat.reduceAdd, Act.put, List.setIfInBounds_toArray, List.set_cons_succ, List.set_cons_zero]
    try rfl
   ·intro u w2 hw
    exact zk (hw.below _)
   ·intro i v f u W' hv h
    exact h
   ·intro i' o' v hi ho hv f u W' hM hdep hd
    obtain ⟨c30, f30, c31, f31, l3⟩ := cl2 (blk_below (blk_below H3.out BW.out) hM.out)
    replace d0 := (hM.out.cell (World.block_lt_of_cell? wr _ d0)).trans d0
    replace d1 := (hM.out.cell (World.block_lt_of_cell? wr _ d1)).trans d1
    have et' : (x == a && y == b) = t := ET.out.symm
    clear hM hdep
    replace hi : i' < 6 := hi
    match i', hi with
    |0, _ =>
     cases ho
     cases zs hv
     clear hd hv
     go_wp2
     exact zt
    |1, _ =>
     cases ho
     cases zs hv
     clear hd hv
     go_wp2
     exact zt
    |2, _ =>
     cases ho
     cases zs hv
     have e0 := hd 0 _ (by decide) rfl
     have e1 := hd 1 _ (by decide) rfl
     clear hd hv
     go_wp2
     exact zt
    |3, _ =>
     cases ho
     cases zs hv
     have e2 := hd 2 _ (by decide) rfl
     clear hd hv
     go_wp2
     exact zt
    |4, _ =>
     cases ho
     cases zs hv
     clear hd hv
     go_wp2
     exact zt
    |5, _ =>
     cases ho
     cases zs hv
     have e3 := hd 3 _ (by decide) rfl
     have e4 := hd 4 _ (by decide) rfl
     clear hd hv
     go_wp2
     exact zt
    |j + 6, hi => exact absurd hi (by omega)
   ·intro i' o' hi ho hv f u W' hM hb hdep hq hd
    match i', hi with
    |0, _ => cases hv
    |1, _ => cases hv
    |2, _ => cases hv
    |3, _ => cases hv
    |4, _ => cases hv
    |5, _ => cases hv
    |j + 6, hi => exact absurd hi (by omega)
   ·intro f u W' hall hM hd
    have e5' := hd 5 _ (by decide) rfl
    have HM := zk (bt BW.out hM.out)
    clear hall hd hM d0 d1
    simp only [List.drop_succ_cons, List.drop_zero, List.drop_nil, wpList]
    rw [e5']
    clear e5'
    cases t with
    |true =>
     go_wp2
     go_ret
     have hf : q = true := by
      rw [HQ.out]
      exact any_of_take _ _ (i + 1) (by have := HSN.out; unfold hasB at this; rw [this]; rfl)
     exact ⟨by rw [hf]; rfl, HB.out.trans (HM.out.mono HB.out.size)⟩
    |false =>
     go_wp2
     go_roundg (l.length - (i + 1))
     case measure => have := HLT.out; omega
     case rel => exact ⟨i + 1, by have := HLT.out; omega, Nat.le_refl _, by go_num, HM, ⟨by rw [HSN.out]; rfl⟩⟩
  ·have hk2 : i = l.length := by omega
   subst hk2
   have ht : q = false := by
    have := HA.out
    rw [List.take_of_length_le (Nat.le_refl _)] at this
    rw [HQ.out, this]
   have HT := zk ht
   clear hlt ht
   go_wp2
   go_ret
   exact ⟨by rw [HT.out]; rfl, HB.out.trans (BW.out.mono HB.out.size)⟩
end Go.Proofs.YtfijblhfgfefoaaGreatDoor.Rv
end
section
namespace Go.Proofs.YtfijblhfgfefoaaGreatDoor.Rv
open Go.RowKit Go.Shelf Go.IntWalk Go.Proofs.YtfijblhfgfefoaaGreatDoor.PAll Go.Proofs.YtfijblhfgfefoaaGreatDoorW.PrintWords Go.Proofs.YtfijblhfgfefoaaGreatDoorW.PrintLast
theorem Could_f {years : Int} {l : List S43} {rings : List Int} {off : Int} (hb : isBookB years l = true) (hs : isShellB rings off = true) : river_Could.f years l rings off = some (oneL years l rings off, 0) := by
 unfold river_Could.f couldR
 rw [hb, hs]
 rfl
theorem Word_f {years : Int} {l : List S43} {rings : List Int} {off : Int} (hb : isBookB years l = true) (hs : isShellB rings off = true) : river_Word.f years l rings off = some (wordL l (oneL years l rings off), 0) := by
 unfold river_Word.f
 rw [hb, hs]
 rfl
end Go.Proofs.YtfijblhfgfefoaaGreatDoor.Rv
end
