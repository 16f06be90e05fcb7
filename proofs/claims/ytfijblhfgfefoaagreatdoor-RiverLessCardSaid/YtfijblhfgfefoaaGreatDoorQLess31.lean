/- A part of the proof: words, contracts of functions, and their walks. -/
import Derived.Test.YtfijblhfgfefoaaGreatDoorQLess3
import Derived.Test.YtfijblhfgfefoaaGreatDoorQLess30
set_option linter.unusedVariables false
set_option linter.unusedSimpArgs false
section
namespace Go.Proofs.YtfijblhfgfefoaaGreatDoor.Rv
open Go.RowKit Go.Shelf Go.IntWalk Go.Proofs.YtfijblhfgfefoaaGreatDoor.PAll Go.Proofs.YtfijblhfgfefoaaGreatDoorW.PrintWords Go.Proofs.YtfijblhfgfefoaaGreatDoorW.PrintLast
def sumF (g : Int → Int) (a : Int) : Nat → Int
 |0 => 0
 |d + 1 => sumF g a d + g (a + d)
theorem sumF_bounds (g : Int → Int) (a : Int) (n : Nat) (h : ∀ j : Nat, j < n → 0 ≤ g (a + j) ∧ g (a + j) ≤ 100) : ∀ d, d ≤ n → 0 ≤ sumF g a d ∧ sumF g a d ≤ 100 * d
 |0, _ => by simp [sumF]
 |d + 1, hd => by
  have h1 := sumF_bounds g a n h d (by omega)
  have h2 := h d (by omega)
  simp only [sumF]
  omega
structure CallMem (V : Value) (W0 W : World) (b5 : Bool) (u5 : Value) : Prop where
 b : Below W0.heap.size W0 W
 m : b5 = true → u5 = V
structure LSt (p8 p11 : Nat) (s0 s1 : Int) (w wr : World) : Prop where
 h8 : wr.heap[p8]? = some (.cells #[.int .i64 0, .int .i64 0] 47 (0, 0))
 h11 : wr.heap[p11]? = some (.cells #[.int .i64 s0, .int .i64 s1] 166 (0, 0))
 bw : Below w.heap.size w wr
theorem LSt.below {p8 p11 : Nat} {s0 s1 : Int} {w wr W : World} (h : LSt p8 p11 s0 s1 w wr) (hb : Below wr.heap.size wr W) : LSt p8 p11 s0 s1 w W :=
 ⟨blk_below h.h8 hb, blk_below h.h11 hb, h.bw.trans (hb.mono h.bw.size)⟩
theorem LSt.set0 {p8 p11 : Nat} {s0 s1 : Int} {w wr : World} (h : LSt p8 p11 s0 s1 w wr) (hw : w.heap.size ≤ p11) (s : Int) : LSt p8 p11 s s1 w (wr.setCell ⟨p11, 0, none⟩ (.int .i64 s)) :=
 ⟨(Below.heap_setCell _ ⟨p11, 0, none⟩ _ _ (by rintro rfl; have := h.h8.symm.trans h.h11; simp at this)).trans h.h8, blk_put h.h11 0 _ rfl, below_set h.bw hw⟩
theorem LSt.set1 {p8 p11 : Nat} {s0 s1 : Int} {w wr : World} (h : LSt p8 p11 s0 s1 w wr) (hw : w.heap.size ≤ p11) (s : Int) : LSt p8 p11 s0 s w (wr.setCell ⟨p11, 1, none⟩ (.int .i64 s)) :=
 ⟨(Below.heap_setCell _ ⟨p11, 1, none⟩ _ _ (by rintro rfl; have := h.h8.symm.trans h.h11; simp at this)).trans h.h8, blk_put h.h11 1 _ rfl, below_set h.bw hw⟩
set_option maxRecDepth 100000 in
set_option maxHeartbeats 2000000 in
theorem Length_ok (years : Int) (A1 : Option Addr) (c1 : Nat) (rivers : List S43) (n a b : Int) (w : World) (hr1 : Kd.C k43 w A1 rivers.length rivers) (hc1 : rivers.length ≤ c1)
 (hb1 : isBookB years rivers = true) (hn : 0 ≤ n ∧ n ≤ rivers.length - 1) (ha : 0 ≤ a ∧ a ≤ years - 1) (hb : 0 ≤ b ∧ b ≤ years - 1) (hab : a ≤ b) :
 Calls Tryz.prog 38 #[.agg #[.int .i64 years, .slice A1 rivers.length c1], .int .i64 n, .int .i64 a, .int .i64 b] w fun e w' =>
  e = .returned (.tuple #[.agg #[.int .i64 (sumF (leastY (rd_T43 rivers n)) a (b + 1 - a).toNat), .int .i64 (sumF (greatY (rd_T43 rivers n)) a (b + 1 - a).toNat)], .int .i64 0]) ∧ Below w.heap.size w w' := by
 have hu24 := Tryz.underlying24
 have hu43 := Tryz.underlying43
 have hu47 := Tryz.underlying47
 have hu165 := Tryz.underlying165
 have hu166 := Tryz.underlying166
 have hmf : ∀ (fn : Fn) (first cap : Array Value) (w : World), (Instr.makeFunc fn first cap).run Tryz.prog w = .ok (.func fn first cap) w := fun _ _ _ _ => rfl
 have eg98 := enters_of (P := Tryz.prog) Tryz.func98 (by kernel_rfl) rfl
 have eg99 := enters_of (P := Tryz.prog) Tryz.func99 (by kernel_rfl) rfl
 have hix0 : ∀ (f g : Value) (W : World), (Instr.index 168 (.agg #[f, g]) (.int .i64 0)).run Tryz.prog W = .ok f W := fun f g W => by kernel_rfl
 have hix1 : ∀ (f g : Value) (W : World), (Instr.index 168 (.agg #[f, g]) (.int .i64 1)).run Tryz.prog W = .ok g W := fun f g W => by kernel_rfl
 have HR1 := zk hr1
 obtain ⟨hy, hnr, hbr⟩ := book_facts hb1
 have E79 := zk (fun (W : World) (h : Kd.C k43 W A1 rivers.length rivers) => isBook_calls years A1 c1 rivers W h)
 rw [hb1] at E79
 have E96 := zk (fun (W : World) => (isRiver_calls years n A1 c1 rivers.length W (by omega)).mono (fun e w' h => And.intro h.1 (show Below W.heap.size W w' by rw [h.2]; exact below1 _)))
 have E97a := zk (fun (W : World) => (isYear_calls years a hy A1 c1 rivers.length W).mono (fun e w' h => And.intro h.1 (show Below W.heap.size W w' by rw [h.2]; exact below1 _)))
 have E97b := zk (fun (W : World) => (isYear_calls years b hy A1 c1 rivers.length W).mono (fun e w' h => And.intro h.1 (show Below W.heap.size W w' by rw [h.2]; exact below1 _)))
 rw [inB_iff.2 hn] at E96
 rw [inB_iff.2 ha] at E97a
 rw [inB_iff.2 hb] at E97b
 have hab' : decide (b < a) = false := by simp; omega
 obtain ⟨ad, A, c, hA, h0, h1, h2, hle, hC⟩ := at_T43 hr1 n hn.1 (by omega)
 subst hA
 have hmem : rd_T43 rivers n ∈ rivers := by
  have hlt : n.toNat < rivers.length := by omega
  have e : rd_T43 rivers n = rivers[n.toNat] := by simp [rd_T43, List.getD_eq_getElem?_getD, hlt]
  rw [e]; exact List.getElem_mem hlt
 have hrf := hbr _ hmem
 obtain ⟨r, er⟩ : ∃ r, r = rd_T43 rivers n := ⟨_, rfl⟩
 rw [← er] at h0 h1 h2 hle hC hrf ⊢
 obtain ⟨m, em⟩ : ∃ m : Nat, m = (b + 1 - a).toNat := ⟨_, rfl⟩
 rw [← em]
 have hyr : ∀ y : Int, 0 ≤ y → y < years → 0 ≤ (rd_T47 r.f0 y).f0 ∧ (rd_T47 r.f0 y).f0 ≤ (rd_T47 r.f0 y).f1 ∧ (rd_T47 r.f0 y).f1 ≤ 40 := by
  intro y hy0 hy1
  have hlt : y.toNat < r.f0.length := by have := hrf.1; omega
  have e : rd_T47 r.f0 y = r.f0[y.toNat] := by simp [rd_T47, List.getD_eq_getElem?_getD, hlt]
  have := hrf.2.2.2 _ (List.getElem_mem hlt)
  rw [e]
  exact ⟨this.1.1, this.1.2, this.2.1⟩
 have hG0 : ∀ j : Nat, j < m → 0 ≤ leastY r (a + j) ∧ leastY r (a + j) ≤ 100 := by
  intro j hj
  have := hyr (a + j) (by omega) (by omega)
  have := hrf.2.1
  unfold leastY mx
  split <;> omega
 have hG1 : ∀ j : Nat, j < m → 0 ≤ greatY r (a + j) ∧ greatY r (a + j) ≤ 100 := by
  intro j hj
  have := hyr (a + j) (by omega) (by omega)
  have := hrf.2.1
  unfold greatY
  omega
 have K98 := zk (show ∀ (j : Nat) (W : World), j < m → Kd.C k47 W A r.f0.length r.f0 → Calls Tryz.prog 98 #[.agg #[.slice A r.f0.length c, .int .i64 r.f1, .int .i64 r.f2], .int .i64 (a + j)] W fun e w' => e = .returned (.int .i64 (leastY r (a + j))) ∧ Below W.heap.size W w' by
  intro j W hj hW
  have h1 := hyr (a + j) (by omega) (by omega)
  have h2 := hrf.2.1
  refine river_mussel_least.calls A c r.f0 r.f1 r.f2 (a + j) _ W hW hle ?_
  unfold river_mussel_least.f leastY
  rw [if_pos (by omega), if_pos (by have := hrf.1; omega), wrap64_in _ (by omega)])
 have K99 := zk (show ∀ (j : Nat) (W : World), j < m → Kd.C k47 W A r.f0.length r.f0 → Calls Tryz.prog 99 #[.agg #[.slice A r.f0.length c, .int .i64 r.f1, .int .i64 r.f2], .int .i64 (a + j)] W fun e w' => e = .returned (.int .i64 (greatY r (a + j))) ∧ Below W.heap.size W w' by
  intro j W hj hW
  have h1 := hyr (a + j) (by omega) (by omega)
  have h2 := hrf.2.1
  exact great_calls A c r.f0 r.f1 r.f2 (a + j) W hW (by omega) (by have := hrf.1; omega) (by omega))
 have HC := zk hC
 have HS0 := zk (fun d hd => sumF_bounds (leastY r) a m hG0 d hd)
 have HS1 := zk (fun d hd => sumF_bounds (greatY r) a m hG1 d hd)
 have hm6 : m ≤ 6 := by omega
 have HX := zk (And.intro h0 (And.intro h1 h2))
 obtain ⟨k, rfl⟩ : ∃ k : Nat, n = k := ⟨n.toNat, by omega⟩
 simp only [Int.toNat_natCast] at HX
 have hkz : (k : Int) < (rivers.length : Int) := by omega
 clear hr1 hb1 hnr hbr hn hb hrf hmem hC hyr hG0 hG1 er h0 h1 h2
 go_enter Tryz.func38, Tryz.ntmps38
 go_wp2_with (first
  |(go_at_call 79
    go_loud (skip)
    (with_reducible refine (E79.out _ (Kd.C_alloc (Kd.C_alloc HR1.out _) _)).mono ?_)
    rintro e w2 ⟨rfl, hB⟩
    have HB := zk (bt ((below1 (w := w) (.cells #[.int .i64 years, .slice (some ad) rivers.length c1] 24)).alloc (by simp) (.cells #[.int .i64 0, .int .i64 0] 47)) hB)
    have H4 := zk (blk_below (blk_alloc (blk_new w (.cells #[.int .i64 years, .slice (some ad) rivers.length c1] 24)) (.cells #[.int .i64 0, .int .i64 0] 47)) hB)
    have h8 := blk_below (blk_new (w.alloc (.cells #[.int .i64 years, .slice (some ad) rivers.length c1] 24)) (.cells #[.int .i64 0, .int .i64 0] 47)) hB
    simp only [World.size_alloc] at h8
    obtain ⟨p4, e4⟩ : ∃ p4, p4 = w.heap.size := ⟨_, rfl⟩
    obtain ⟨p8, e8⟩ : ∃ p8, p8 = w.heap.size + 1 := ⟨_, rfl⟩
    rw [← e4] at H4
    rw [← e8] at h8
    rw [← e8, ← e4]
    have H8 := zk h8
    have HP := zk (show w.heap.size ≤ p4 ∧ w.heap.size ≤ p8 by omega)
    have x0 := (HB.out.cell (World.block_lt_of_cell? w _ HX.out.1)).trans HX.out.1
    have x1 := (HB.out.cell (World.block_lt_of_cell? w _ HX.out.2.1)).trans HX.out.2.1
    have x2 := (HB.out.cell (World.block_lt_of_cell? w _ HX.out.2.2)).trans HX.out.2.2
    have xl := World.block_lt_of_cell? w2 _ x0
    clear hB e4 e8 h8
    obtain ⟨c_p4_0, f_p4_0, c_p4_1, f_p4_1, l_p4⟩ := cl2 (W := w2) (p := p4) (a := .int .i64 years) (b := .slice (some ad) rivers.length c1) H4.out
    skip)
  |(go_at_call 96
    (with_reducible refine (E96.out _).mono ?_)
    rintro e w3 ⟨rfl, hB⟩
    replace HB := zk (bt HB.out hB)
    replace H4 := zk (blk_below H4.out hB)
    replace H8 := zk (blk_below H8.out hB)
    replace x0 := (hB.cell (World.block_lt_of_cell? _ _ x0)).trans x0
    replace x1 := (hB.cell (World.block_lt_of_cell? _ _ x1)).trans x1
    replace x2 := (hB.cell (World.block_lt_of_cell? _ _ x2)).trans x2
    replace xl := World.block_lt_of_cell? w3 _ x0
    clear hB
    clear c_p4_0 f_p4_0 c_p4_1 f_p4_1 l_p4
    obtain ⟨c_p4_0, f_p4_0, c_p4_1, f_p4_1, l_p4⟩ := cl2 (W := w3) (p := p4) (a := .int .i64 years) (b := .slice (some ad) rivers.length c1) H4.out
    skip)
  |(go_at_call 97
    first
     |(with_reducible refine (E97a.out _).mono ?_)
     |(with_reducible refine (E97b.out _).mono ?_)
    rintro e w3 ⟨rfl, hB⟩
    replace HB := zk (bt HB.out hB)
    replace H4 := zk (blk_below H4.out hB)
    replace H8 := zk (blk_below H8.out hB)
    replace x0 := (hB.cell (World.block_lt_of_cell? _ _ x0)).trans x0
    replace x1 := (hB.cell (World.block_lt_of_cell? _ _ x1)).trans x1
    replace x2 := (hB.cell (World.block_lt_of_cell? _ _ x2)).trans x2
    replace xl := World.block_lt_of_cell? w3 _ x0
    clear hB
    clear c_p4_0 f_p4_0 c_p4_1 f_p4_1 l_p4
    obtain ⟨c_p4_0, f_p4_0, c_p4_1, f_p4_1, l_p4⟩ := cl2 (W := w3) (p := p4) (a := .int .i64 years) (b := .slice (some ad) rivers.length c1) H4.out
    skip))
 have HL := zk (show LSt p8 (w3.heap.size + 1) 0 0 w ((w3.alloc (.cells #[.slice A r.f0.length c, .int .i64 r.f1, .int .i64 r.f2] 165)).alloc (.cells #[.int .i64 0, .int .i64 0] 166)) from by
  refine ⟨blk_alloc (blk_alloc H8.out _) _, ?_, below_alloc (below_alloc HB.out _) _⟩
  have := blk_new (w3.alloc (.cells #[.slice A r.f0.length c, .int .i64 r.f1, .int .i64 r.f2] 165)) (.cells #[.int .i64 0, .int .i64 0] 166)
  simpa using this)
 have HP11 := zk (show w.heap.size ≤ w3.heap.size + 1 by have := HB.out.size; omega)
 generalize (w3.alloc (.cells #[.slice A r.f0.length c, .int .i64 r.f1, .int .i64 r.f2] 165)).alloc (.cells #[.int .i64 0, .int .i64 0] 166) = w4 at HL ⊢
 generalize w3.heap.size + 1 = p11 at HL HP11 ⊢
 generalize w3.heap.size = p10
 clear HB H4 H8 x0 x1 x2 xl c_p4_0 c_p4_1 f_p4_0 f_p4_1 l_p4 hkz
 go_loopg [53] 2 (fun gg v53 wr => (gg ≥ 2 ∧ v53 = .int .i64 0 ∧ Aside0 (LSt p8 p11 0 0 w wr)) ∨ (gg ≥ 1 ∧ v53 = .int .i64 1 ∧ Aside0 (LSt p8 p11 (sumF (leastY r) a m) 0 w wr)) ∨ (v53 = .int .i64 2 ∧ Aside0 (LSt p8 p11 (sumF (leastY r) a m) (sumF (greatY r) a m) w wr)))
 case atStart => exact .inl ⟨by omega, rfl, HL⟩
 case round =>
  rcases hrel with ⟨hgg, rfl, BW⟩ | ⟨hgg, rfl, BW⟩ | ⟨rfl, BW⟩
  ·go_wp2
   go_loopg [14] m (fun gg v14 ws => ∃ d : Nat, d ≤ m ∧ m - d ≤ gg ∧ v14 = .int .i64 (a + d) ∧ Aside0 (LSt p8 p11 (sumF (leastY r) a d) 0 w ws))
   case atStart => exact ⟨0, by omega, by omega, by simp, BW⟩
   case round =>
    obtain ⟨d, hd, hg2, rfl, BS⟩ := hrel
    by_cases hlt : d < m
    ·have hle : decide (a + (d : Int) ≤ b) = true := by
      have : a + (d : Int) ≤ b := by omega
      simpa using this
     have HK := zk (fun (W : World) => K98.out d W hlt)
     have hs := HS0.out d (by omega)
     have hs1 := HS0.out (d + 1) (by omega)
     have HSUM := zk (show sumF (leastY r) a (d + 1) = sumF (leastY r) a d + leastY r (a + d) from rfl)
     obtain ⟨s, es⟩ : ∃ s, s = sumF (leastY r) a d := ⟨_, rfl⟩
     obtain ⟨g, eg⟩ : ∃ g, g = leastY r (a + d) := ⟨_, rfl⟩
     rw [← es] at hs HSUM BS
     rw [← eg] at HSUM HK
     rw [HSUM.out] at hs1
     clear es eg
     go_wp2
     refine region_lit (lit := ?lit0) 6 [[],[0],[1],[],[],[3,4]]
      [some (.int .i64 0), some (.pointer (some ⟨p11, 0, none⟩)), some (.int .i64 s), some (.func (.func 98) #[.agg #[.slice A r.f0.length c, .int .i64 r.f1, .int .i64 r.f2]] #[]), some (.int .i64 (a + d)), none]
      (fun f u W' => Aside0 (CallMem (.int .i64 g) wr W' (f 5) (u 5))) ?hlit0 (by kernel_rfl) (by kernel_rfl) (by decide) ?_ ?_ ?_ ?_ ?_
     case hlit0 =>
      intro u
      simp only [List.take_succ_cons, List.take_zero, List.map_cons, List.map_nil, setAll, Nat.reduceAdd, Act.put, List.setIfInBounds_toArray, List.set_cons_succ, List.set_cons_zero]
      try rfl
     ·intro u w2 hw
      exact zk ⟨hw.below _, fun h => (by cases h)⟩
     ·intro i v f u W' hv h
      have h5 : (5 : Nat) ≠ i := by rintro rfl; cases hv
      rw [upd_ne h5, upf_ne h5]
      exact h
     ·intro i o' v hi ho hv f u W' hM hdep hd
      have H11 := zk (blk_below BS.out.h11 hM.out.b)
      obtain ⟨c_p11_0, f_p11_0, c_p11_1, f_p11_1, l_p11⟩ := cl2 (W := W') (p := p11) (a := .int .i64 s) (b := .int .i64 0) H11.out
      clear H11 hM hdep
      replace hi : i < 6 := hi
      match i, hi with
      |0, _ =>
       cases ho
       cases zs hv
       clear hd hv
       go_wp2
       exact zt
      |1, _ =>
       cases ho
       cases zs hv
       have e0 := hd 0 _ (by decide) rfl
       clear hd hv
       go_wp2
       exact zt
      |2, _ =>
       cases ho
       cases zs hv
       have e1 := hd 1 _ (by decide) rfl
       clear hd hv
       go_wp2
       exact zt
      |3, _ =>
       cases ho
       cases zs hv
       clear hd hv
       go_wp2
       exact zt
      |4, _ =>
       cases ho
       cases zs hv
       clear hd hv
       go_wp2
       exact zt
      |5, _ =>
       cases hv
     ·intro i o' hi ho hv f u W' hM hb hdep hq hd
      match i, hi with
      |0, _ => cases hv
      |1, _ => cases hv
      |2, _ => cases hv
      |3, _ => cases hv
      |4, _ => cases hv
      |5, _ =>
       cases ho
       have e3' := hd 3 _ (by decide) rfl
       have e4' := hd 4 _ (by decide) rfl
       have HMM := zk hM.out
       have HCC := zk (HK.out W' (Kd.C_below HC.out (BS.out.bw.trans (hM.out.b.mono BS.out.bw.size))))
       clear hd hv hq hdep hb hM
       go_wp2_with (go_at_call 98; (with_reducible refine HCC.out.mono ?_); rintro e W9 ⟨rfl, hB9⟩)
       exact ⟨_, by simp [upf, e3', e4'], zk ⟨bt HMM.out.b hB9, fun _ => upf_self _ _ _⟩⟩
      |j + 6, hi => exact absurd hi (by omega)
     ·intro f u W' hall hM hd
      have e0' := hd 0 _ (by decide) rfl
      have e2' := hd 2 _ (by decide) rfl
      have e5' := hM.out.m (hall 5 (by decide))
      have HBW := zk (BS.out.below hM.out.b)
      have H11 := zk HBW.out.h11
      obtain ⟨c_p11_0, f_p11_0, c_p11_1, f_p11_1, l_p11⟩ := cl2 (W := W') (p := p11) (a := .int .i64 s) (b := .int .i64 0) H11.out
      clear hall hd hM
      go_wp2
      go_roundg (m - (d + 1))
      case measure => omega
      case rel =>
       refine ⟨d + 1, by omega, by omega, by go_num, ⟨?_⟩⟩
       rw [HSUM.out]
       exact HBW.out.set0 HP11.out _
    ·have hle : decide (a + (d : Int) ≤ b) = false := by
      have : ¬ a + (d : Int) ≤ b := by omega
      simpa using this
     have hdm : d = m := by omega
     subst hdm
     go_wp2
     go_roundg 1
     case measure => omega
     case rel => exact .inr (.inl ⟨by omega, by go_num, BS⟩)
  ·go_wp2
   go_loopg [14] m (fun gg v14 ws => ∃ d : Nat, d ≤ m ∧ m - d ≤ gg ∧ v14 = .int .i64 (a + d) ∧ Aside0 (LSt p8 p11 (sumF (leastY r) a m) (sumF (greatY r) a d) w ws))
   case atStart => exact ⟨0, by omega, by omega, by simp, BW⟩
   case round =>
    obtain ⟨d, hd, hg2, rfl, BS⟩ := hrel
    by_cases hlt : d < m
    ·have hle : decide (a + (d : Int) ≤ b) = true := by
      have : a + (d : Int) ≤ b := by omega
      simpa using this
     have HK := zk (fun (W : World) => K99.out d W hlt)
     have hs := HS1.out d (by omega)
     have hs1 := HS1.out (d + 1) (by omega)
     have HSUM := zk (show sumF (greatY r) a (d + 1) = sumF (greatY r) a d + greatY r (a + d) from rfl)
     obtain ⟨s, es⟩ : ∃ s, s = sumF (greatY r) a d := ⟨_, rfl⟩
     obtain ⟨g, eg⟩ : ∃ g, g = greatY r (a + d) := ⟨_, rfl⟩
     rw [← es] at hs HSUM BS
     rw [← eg] at HSUM HK
     rw [HSUM.out] at hs1
     clear es eg
     go_wp2
     refine region_lit (lit := ?lit1) 6 [[],[0],[1],[],[],[3,4]]
      [some (.int .i64 1), some (.pointer (some ⟨p11, 1, none⟩)), some (.int .i64 s), some (.func (.func 99) #[.agg #[.slice A r.f0.length c, .int .i64 r.f1, .int .i64 r.f2]] #[]), some (.int .i64 (a + d)), none]
      (fun f u W' => Aside0 (CallMem (.int .i64 g) wr W' (f 5) (u 5))) ?hlit1 (by kernel_rfl) (by kernel_rfl) (by decide) ?_ ?_ ?_ ?_ ?_
     case hlit1 =>
      intro u
      simp only [List.take_succ_cons, List.take_zero, List.map_cons, List.map_nil, setAll, Nat.reduceAdd, Act.put, List.setIfInBounds_toArray, List.set_cons_succ, List.set_cons_zero]
      try rfl
     ·intro u w2 hw
      exact zk ⟨hw.below _, fun h => (by cases h)⟩
     ·intro i v f u W' hv h
      have h5 : (5 : Nat) ≠ i := by rintro rfl; cases hv
      rw [upd_ne h5, upf_ne h5]
      exact h
     ·intro i o' v hi ho hv f u W' hM hdep hd
      have H11 := zk (blk_below BS.out.h11 hM.out.b)
      obtain ⟨c_p11_0, f_p11_0, c_p11_1, f_p11_1, l_p11⟩ := cl2 (W := W') (p := p11) (a := .int .i64 (sumF (leastY r) a m)) (b := .int .i64 s) H11.out
      clear H11 hM hdep
      replace hi : i < 6 := hi
      match i, hi with
      |0, _ =>
       cases ho
       cases zs hv
       clear hd hv
       go_wp2
       exact zt
      |1, _ =>
       cases ho
       cases zs hv
       have e0 := hd 0 _ (by decide) rfl
       clear hd hv
       go_wp2
       exact zt
      |2, _ =>
       cases ho
       cases zs hv
       have e1 := hd 1 _ (by decide) rfl
       clear hd hv
       go_wp2
       exact zt
      |3, _ =>
       cases ho
       cases zs hv
       clear hd hv
       go_wp2
       exact zt
      |4, _ =>
       cases ho
       cases zs hv
       clear hd hv
       go_wp2
       exact zt
      |5, _ =>
       cases hv
     ·intro i o' hi ho hv f u W' hM hb hdep hq hd
      match i, hi with
      |0, _ => cases hv
      |1, _ => cases hv
      |2, _ => cases hv
      |3, _ => cases hv
      |4, _ => cases hv
      |5, _ =>
       cases ho
       have e3' := hd 3 _ (by decide) rfl
       have e4' := hd 4 _ (by decide) rfl
       have HMM := zk hM.out
       have HCC := zk (HK.out W' (Kd.C_below HC.out (BS.out.bw.trans (hM.out.b.mono BS.out.bw.size))))
       clear hd hv hq hdep hb hM
       go_wp2_with (go_at_call 99; (with_reducible refine HCC.out.mono ?_); rintro e W9 ⟨rfl, hB9⟩)
       exact ⟨_, by simp [upf, e3', e4'], zk ⟨bt HMM.out.b hB9, fun _ => upf_self _ _ _⟩⟩
      |j + 6, hi => exact absurd hi (by omega)
     ·intro f u W' hall hM hd
      have e0' := hd 0 _ (by decide) rfl
      have e2' := hd 2 _ (by decide) rfl
      have e5' := hM.out.m (hall 5 (by decide))
      have HBW := zk (BS.out.below hM.out.b)
      have H11 := zk HBW.out.h11
      obtain ⟨c_p11_0, f_p11_0, c_p11_1, f_p11_1, l_p11⟩ := cl2 (W := W') (p := p11) (a := .int .i64 (sumF (leastY r) a m)) (b := .int .i64 s) H11.out
      clear hall hd hM
      go_wp2
      go_roundg (m - (d + 1))
      case measure => omega
      case rel =>
       refine ⟨d + 1, by omega, by omega, by go_num, ⟨?_⟩⟩
       rw [HSUM.out]
       exact HBW.out.set1 HP11.out _
    ·have hle : decide (a + (d : Int) ≤ b) = false := by
      have : ¬ a + (d : Int) ≤ b := by omega
      simpa using this
     have hdm : d = m := by omega
     subst hdm
     go_wp2
     go_roundg 0
     case measure => omega
     case rel => exact .inr (.inr ⟨by go_num, BS⟩)
  ·obtain ⟨s0, es0⟩ : ∃ s0, s0 = sumF (leastY r) a m := ⟨_, rfl⟩
   obtain ⟨s1, es1⟩ : ∃ s1, s1 = sumF (greatY r) a m := ⟨_, rfl⟩
   rw [← es0, ← es1] at BW
   have H11 := zk BW.out.h11
   have H8 := zk BW.out.h8
   obtain ⟨c_p11_0, f_p11_0, c_p11_1, f_p11_1, l_p11⟩ := cl2 (W := wr) (p := p11) (a := .int .i64 s0) (b := .int .i64 s1) H11.out
   obtain ⟨c_p8_0, f_p8_0, c_p8_1, f_p8_1, l_p8⟩ := cl2 (W := wr) (p := p8) (a := .int .i64 0) (b := .int .i64 0) H8.out
   have ES := zk (And.intro es0 es1)
   clear es0 es1
   go_wp2
   have h4 := blk_put (blk_put H8.out 0 (.int .i64 s0) rfl) 1 (.int .i64 s1) rfl
   refine bodyPost_ret (results_ct rfl _ _ p8 47 #[.int .i64 s0, .int .i64 s1] (0, 0) _ rfl h4 Tryz.underlying47 rfl (by kernel_rfl)) rfl ⟨by rw [ES.out.1, ES.out.2]; rfl, ?_⟩
   exact below_set (below_set BW.out.bw HP.out.2) HP.out.2
end Go.Proofs.YtfijblhfgfefoaaGreatDoor.Rv
end
