/- A part of the proof: words, contracts of functions, and their walks. -/
import Derived.Laws.EntriesVeiled
import Derived.LoopIn
import Derived.Test.YtfijblhfgfefoaaGreatDoorQLess3
import Derived.Test.YtfijblhfgfefoaaGreatDoorQLess14
import Derived.Test.YtfijblhfgfefoaaGreatDoorQLess37
set_option linter.unusedVariables false
set_option linter.unusedSimpArgs false
section
namespace Go.Proofs.YtfijblhfgfefoaaGreatDoor.Rv
open Go.RowKit Go.Shelf Go.IntWalk Go.Proofs.YtfijblhfgfefoaaGreatDoor.PAll Go.Proofs.YtfijblhfgfefoaaGreatDoorW.PrintWords Go.Proofs.YtfijblhfgfefoaaGreatDoorW.PrintLast
structure MkMem (L : Nat) (W0 W : World) (f4 : Bool) (u4 : Value) : Prop where
 b : Below W0.heap.size W0 W
 m : f4 = true → ∃ A c, u4 = .slice A L c ∧ L ≤ c ∧ Kd.F (Kd.int .i64) W (fun k => W0.heap.size ≤ k) A L (List.replicate L 0)
set_option maxRecDepth 100000 in
set_option maxHeartbeats 2000000 in
theorem iter_calls (s : Lt) (hs : LtGood s) (P1 P4 P5 l : Nat) (J : List Dl → (Nat → Prop) → World → Prop) (own : Nat → Prop) (W : World) (HE : EatsD l W.heap.size (dealsOf s) J) (m : Nat)
 (f1 : Kd.F k43 W (Low own W.heap.size) s.A1 s.rivers.length s.rivers) (f2 : Kd.F k114 W (Low own W.heap.size) s.A2 s.lics.length s.lics) (f3 : Kd.F k174 W (Low own W.heap.size) s.A3 s.takes.length s.takes) (hc : s.rivers.length ≤ s.c1 ∧ s.lics.length ≤ s.c2 ∧ s.takes.length ≤ s.c3)
 (b1 : W.heap[P1]? = some (.cells #[.slice s.A3 s.takes.length s.c3] 100 (0, 0))) (b4 : W.heap[P4]? = some (.cells #[.slice s.A2 s.lics.length s.c2] 99 (0, 0))) (b5 : W.heap[P5]? = some (.cells #[.int .i64 s.years, .slice s.A1 s.rivers.length s.c1] 24 (0, 0)))
 (hn : ¬ own P1 ∧ ¬ own P4 ∧ ¬ own P5) (hJ : J [] own W) :
 CallsIn Fence.wide m Tryz.prog 159 #[.func (.yield l) #[] #[], .pointer (some ⟨P1, 0, none⟩), .pointer (some ⟨P4, 0, none⟩), .pointer (some ⟨P5, 0, none⟩)] W fun e W' => (∃ v, e = .returned v) ∧ ∃ own', Moved own W own' W' ∧ J (dealsOf s) own' W' := by
 rw [callsIn_wide]
 have hu177 := Tryz.underlying177
 have hmf : ∀ (fn : Fn) (first cap : Array Value) (w : World), (Instr.makeFunc fn first cap).run Tryz.prog w = .ok (.func fn first cap) w := fun _ _ _ _ => rfl
 have HF1 := zk f1
 have HF2 := zk f2
 have HF3 := zk f3
 have HJ := zk hJ
 have HC := zk hc
 have HN := zk hn
 have HP := zk (And.intro b1 (And.intro b4 b5))
 clear f1 f2 f3 hJ hc hn b1 b4 b5
 go_enter Tryz.func159, Tryz.ntmps159
 go_wp2
 have HB := zk ((below1 (w := W) (.cells #[.func (.yield l) #[] #[]] 229)).alloc (by simp) (.cells #[.func (.func 160) #[] #[.pointer (some ⟨P1, 0, none⟩), .pointer (some ⟨W.heap.size, 0, none⟩), .pointer (some ⟨W.heap.size + 1, 0, none⟩), .pointer (some ⟨P4, 0, none⟩), .pointer (some ⟨P5, 0, none⟩)]] 230))
 have h2 := blk_alloc (blk_new W (.cells #[.func (.yield l) #[] #[]] 229)) (.cells #[.func (.func 160) #[] #[.pointer (some ⟨P1, 0, none⟩), .pointer (some ⟨W.heap.size, 0, none⟩), .pointer (some ⟨W.heap.size + 1, 0, none⟩), .pointer (some ⟨P4, 0, none⟩), .pointer (some ⟨P5, 0, none⟩)]] 230)
 have h3 := blk_new (W.alloc (.cells #[.func (.yield l) #[] #[]] 229)) (.cells #[.func (.func 160) #[] #[.pointer (some ⟨P1, 0, none⟩), .pointer (some ⟨W.heap.size, 0, none⟩), .pointer (some ⟨W.heap.size + 1, 0, none⟩), .pointer (some ⟨P4, 0, none⟩), .pointer (some ⟨P5, 0, none⟩)]] 230)
 simp only [World.size_alloc] at h3
 generalize (W.alloc (.cells #[.func (.yield l) #[] #[]] 229)).alloc (.cells #[.func (.func 160) #[] #[.pointer (some ⟨P1, 0, none⟩), .pointer (some ⟨W.heap.size, 0, none⟩), .pointer (some ⟨W.heap.size + 1, 0, none⟩), .pointer (some ⟨P4, 0, none⟩), .pointer (some ⟨P5, 0, none⟩)]] 230) = W1 at HB h2 h3 ⊢
 obtain ⟨B3, e3⟩ : ∃ B3, B3 = W.heap.size + 1 := ⟨_, rfl⟩
 obtain ⟨B2, e2⟩ : ∃ B2, B2 = W.heap.size := ⟨_, rfl⟩
 rw [← e3, ← e2] at h3
 rw [← e2] at h2
 rw [← e3, ← e2]
 have HLT := zk (HE.lt _ _ _ HJ.out)
 have HMV := zk (Moved.of_below (own := own) HB.out)
 have HEV := zk (show EnvD s P1 B2 B3 P4 P5 l own W1.heap.size W1 from by
  have hsz := HMV.out.size
  have l2 := blk_lt h2
  have l3 := blk_lt h3
  have p1 := blk_lt HP.out.1
  have p4 := blk_lt HP.out.2.1
  have p5 := blk_lt HP.out.2.2
  refine ⟨F_raise (HMV.out.Fl HF1.out) hsz, F_raise (HMV.out.Fl HF2.out) hsz, F_raise (HMV.out.Fl HF3.out) hsz, HC.out, blk_below HP.out.1 HB.out, h2, h3, blk_below HP.out.2.1 HB.out, blk_below HP.out.2.2 HB.out, ⟨HN.out.1, fun h => ?_, fun h => ?_, HN.out.2.1, HN.out.2.2⟩, by omega⟩
  ·have := HLT.out _ h; omega
  ·have := HLT.out _ h; omega)
 have HJ1 := zk (HE.stab _ _ _ _ HJ.out (stab_below HB.out))
 have HNL := zk hs.nl
 clear h2 h3 e2 e3
 refine region_lit (lit := ?lit) 5 [[],[],[],[2],[3]]
  [some (.func (.func 160) #[] #[.pointer (some ⟨P1, 0, none⟩), .pointer (some ⟨B2, 0, none⟩), .pointer (some ⟨B3, 0, none⟩), .pointer (some ⟨P4, 0, none⟩), .pointer (some ⟨P5, 0, none⟩)]), some (.agg #[.slice none 0 0, .int .i64 0]), some (.slice s.A2 s.lics.length s.c2), some (.int .i64 s.lics.length), none]
  (fun f u W' => Aside0 (MkMem s.lics.length W1 W' (f 4) (u 4))) ?hlit (by kernel_rfl) (by kernel_rfl) (by decide) ?_ ?_ ?_ ?_ ?_
 case hlit =>
  intro u
  simp only [List.take_succ_cons, List.take_zero, List.map_cons, List.map_nil, setAll, Nat.reduceAdd, Act.put, List.setIfInBounds_toArray, List.set_cons_succ, List.set_cons_zero]
  try rfl
 ·intro u w2 hw
  exact zk ⟨hw.below _, fun h => (by cases h)⟩
 ·intro i v b u W' hv h
  have h2 : (4 : Nat) ≠ i := by rintro rfl; cases hv
  rw [upd_ne h2, upf_ne h2]
  exact h
 ·intro i o' v hi ho hv b u W' hM hdep hd
  have H3W := zk (blk_below HEV.out.b3 hM.out.b)
  have H4W := zk (blk_below HEV.out.b4 hM.out.b)
  obtain ⟨c_B3_0, f_B3_0, l_B3⟩ := cl1 (W := W') (p := B3) (a := .func (.func 160) #[] #[.pointer (some ⟨P1, 0, none⟩), .pointer (some ⟨B2, 0, none⟩), .pointer (some ⟨B3, 0, none⟩), .pointer (some ⟨P4, 0, none⟩), .pointer (some ⟨P5, 0, none⟩)]) H3W.out
  obtain ⟨c_P4_0, f_P4_0, l_P4⟩ := cl1 (W := W') (p := P4) (a := .slice s.A2 s.lics.length s.c2) H4W.out
  clear H3W H4W hM hdep
  replace hi : i < 5 := hi
  match i, hi with
  |0, _ =>
   cases ho
   cases zs hv
   clear hd hv
   go_wp2
   exact zt
  |1, _ =>
   cases ho
   cases zs hv
   clear hd hv
   go_wp2
   exact zt
  |2, _ =>
   cases ho
   cases zs hv
   clear hd hv
   go_wp2
   exact zt
  |3, _ =>
   cases ho
   cases zs hv
   have e2 := hd 2 _ (by decide) rfl
   clear hd hv
   go_wp2
   exact zt
  |4, _ =>
   cases hv
 ·intro i o' hi ho hv b u W' hM hb hdep hq hd
  match i, hi with
  |0, _ => cases hv
  |1, _ => cases hv
  |2, _ => cases hv
  |3, _ => cases hv
  |4, _ =>
   cases ho
   have e3' := hd 3 _ (by decide) rfl
   have HMM := zk hM.out
   obtain ⟨i0, hi0, hzz⟩ := Option.map_eq_some_iff.1 info3
   simp only [Prod.mk.injEq] at hzz
   obtain ⟨hz0, hz1, hz2⟩ := hzz
   clear hd hv hq hdep hb hM
   refine wpList_make_full _ rfl _ _ 28 rfl W'.heap.size 3 i0 (.int .i64 0) 1 Tryz.underlying28 hi0 hz0 hz1 .i64 .i64 s.lics.length s.lics.length s.lics.length e3' e3' rfl rfl (by rw [hz2]; have := HNL.out; omega) (by have := HNL.out; simp only [maxLen]; omega) (Nat.le_refl _) ?_
   intro w8 hown hg
   have hown' : w8.ownsRow W'.heap.size 3 1 (.slice (some ⟨W'.heap.size, 0, none⟩) s.lics.length s.lics.length) s.lics.length (nums64 (List.replicate s.lics.length 0)) := by
    have e : (madeCells (Value.int .i64 0).cells (s.lics.length * 1)).toList = nums64 (List.replicate s.lics.length 0) := by
     rw [Nat.mul_one]
     exact (toList_madeCells_one (.int .i64 0) s.lics.length).trans (by simp [nums64])
    rw [← e]
    exact hown
   have hb8 : Below W'.heap.size W' w8 := (Below.refl _ _).grown hg (Nat.le_refl _) (fun k hk => by cases hk)
   obtain ⟨A, c, ev, hn, hle, hF⟩ := ownI_F hown'
   have HR := zk (And.intro ev (And.intro hle (And.intro hF (And.intro hb8 (own_base hown')))))
   have hlr : (List.replicate s.lics.length (0 : Int)).length = s.lics.length := by simp
   rw [hlr] at HR
   clear hown hg hown' ev hn hle hF hb8 hi0 hz0 hz1 hz2 hlr
   go_wp2
   refine ⟨.slice (some ⟨W'.heap.size, 0, none⟩) s.lics.length s.lics.length, by simp [upf, Act.put], zk ⟨bt HMM.out.b HR.out.2.2.2.1, fun _ => ⟨A, c, by rw [upf_self]; exact HR.out.1, HR.out.2.1, Kd.F_mono HR.out.2.2.1 (fun k hk => Nat.le_trans HMM.out.b.size (HR.out.2.2.2.2 k hk.symm))⟩⟩⟩
  |j + 5, hi => exact absurd hi (by omega)
 ·intro b u W' hall hM hd
  have e0 := hd 0 _ (by decide) rfl
  have e1 := hd 1 _ (by decide) rfl
  obtain ⟨A, c, e4', hle, hF⟩ := hM.out.m (hall 4 (by decide))
  have hbw := hM.out.b
  have hmv' : Moved own W1 own W' := Moved.of_below hbw
  have hlr : (List.replicate s.lics.length (0 : Int)).length = s.lics.length := by simp
  have HS := zk (deal_calls s hs P1 B2 B3 P4 P5 l W.heap.size (dealsOf s) J HE s.takes.length ([], 0) (fun _ => False) none 0 (List.replicate s.lics.length 0) A c [] own W' 0 (Nat.le_trans HB.out.size hbw.size) (by simp) ⟨by simp, by simp, by simp, fun u hu => by
   have := List.eq_of_mem_replicate hu
   omega⟩ ((HEV.out.moved hmv').raise hmv'.size) ⟨Kd.F_nil _ _ _, fun _ h => h.elim, by simp⟩ ⟨by
    rw [hlr]
    exact Kd.F_mono (Kd.F_bound hF) (fun k hk => ⟨fun h => by have := HLT.out k h; have := hk.1; have := HB.out.size; omega, hk.2⟩), by rw [hlr]; exact hle⟩ (HE.stab _ _ _ _ HJ1.out (stab_below hbw)) (fun t ht => ht) (fun _ h => h.elim))
  rw [callsIn_wide] at HS
  unfold dlV at HS
  rw [hlr] at HS
  simp only [List.length_nil, List.nil_append] at HS
  have HBW := zk hbw
  clear hall hd hM hF hbw hmv' hlr
  go_wp2_with (go_at_call 160; (with_reducible refine HS.out.mono ?_); rintro e W9 ⟨rfl, own', hm9, hJ9⟩)
  go_end0
  exact ⟨⟨_, rfl⟩, own', MovedD.up (HMV.out.trans (Moved.of_below HBW.out)) hm9 (fun _ h => h.elim), hJ9⟩
set_option maxRecDepth 100000 in
set_option maxHeartbeats 1000000 in
theorem deals113 (s : Lt) (w : World) : Calls Tryz.prog 113 #[.agg s.cells1, .slice s.A2 s.lics.length s.c2, .slice s.A3 s.takes.length s.c3] w fun e w' =>
 e = .returned (.func (.func 159) #[] #[.pointer (some ⟨w.heap.size + 2, 0, none⟩), .pointer (some ⟨w.heap.size + 1, 0, none⟩), .pointer (some ⟨w.heap.size, 0, none⟩)]) ∧
 w'.heap[w.heap.size]? = some (.cells #[.int .i64 s.years, .slice s.A1 s.rivers.length s.c1] 24 (0, 0)) ∧ w'.heap[w.heap.size + 1]? = some (.cells #[.slice s.A2 s.lics.length s.c2] 99 (0, 0)) ∧ w'.heap[w.heap.size + 2]? = some (.cells #[.slice s.A3 s.takes.length s.c3] 100 (0, 0)) ∧ Below w.heap.size w w' := by
 have hmf : ∀ (fn : Fn) (first cap : Array Value) (w : World), (Instr.makeFunc fn first cap).run Tryz.prog w = .ok (.func fn first cap) w := fun _ _ _ _ => rfl
 unfold Lt.cells1
 go_enter Tryz.func113, Tryz.ntmps113
 go_wp2
 have h5 := blk_alloc (blk_alloc (blk_new w (.cells #[.int .i64 s.years, .slice s.A1 s.rivers.length s.c1] 24)) (.cells #[.slice s.A2 s.lics.length s.c2] 99)) (.cells #[.slice s.A3 s.takes.length s.c3] 100)
 have h4 := blk_alloc (blk_new (w.alloc (.cells #[.int .i64 s.years, .slice s.A1 s.rivers.length s.c1] 24)) (.cells #[.slice s.A2 s.lics.length s.c2] 99)) (.cells #[.slice s.A3 s.takes.length s.c3] 100)
 have h1 := blk_new ((w.alloc (.cells #[.int .i64 s.years, .slice s.A1 s.rivers.length s.c1] 24)).alloc (.cells #[.slice s.A2 s.lics.length s.c2] 99)) (.cells #[.slice s.A3 s.takes.length s.c3] 100)
 simp only [World.size_alloc] at h4 h1
 go_ret
 exact ⟨rfl, h5, h4, h1, ((below1 _).alloc (by simp) _).alloc (by simp; omega) _⟩
set_option maxRecDepth 100000 in
set_option maxHeartbeats 1000000 in
theorem better114 (x y : Dl) (A B : Option Addr) (c c' : Nat) (w : World) : Calls Tryz.prog 114 #[dlV x A c, dlV y B c'] w fun e w' => e = .returned (.bool (decide (x.2 < y.2))) ∧ Below w.heap.size w w' := by
 have hu177 := Tryz.underlying177
 unfold dlV
 go_enter Tryz.func114, Tryz.ntmps114
 go_wp2
 go_ret
 exact ⟨rfl, (below1 _).alloc (by simp) _⟩
def bestDl : List Dl → Dl
 | [] => ([], 0)
 |x :: xs => xs.foldl (fun out x => if x.2 < out.2 then x else out) x
theorem bestDl_snoc (xs : List Dl) (x : Dl) : bestDl (xs ++ [x]) = if xs = [] ∨ x.2 < (bestDl xs).2 then x else bestDl xs := by
 cases xs with
 |nil => simp [bestDl]
 |cons a xs =>
  simp only [List.cons_append, bestDl, List.foldl_append, List.foldl_cons, List.foldl_nil]
  simp
end Go.Proofs.YtfijblhfgfefoaaGreatDoor.Rv
end
section
namespace Go.Proofs.YtfijblhfgfefoaaGreatDoor.Rv
open Go.RowKit Go.Shelf Go.IntWalk Go.Proofs.YtfijblhfgfefoaaGreatDoor.PAll Go.Proofs.YtfijblhfgfefoaaGreatDoorW.PrintWords Go.Proofs.YtfijblhfgfefoaaGreatDoorW.PrintLast
theorem MovedD.own_put {D own own' : Nat → Prop} {W W' : World} (h : MovedD D own W own' W') {l : Nat} (hl : own' l) (hl0 : own l) (o : Obj) : MovedD D own W own' (W'.putObj l o) := by
 refine ⟨h.ow, ?_⟩
 exact h.chg.putObj (r := l) hl0 o
def bodyD (l : Nat) (ob : Obj) (I : List Dl → (Nat → Prop) → World → Prop) (pre : List Dl) (D own : Nat → Prop) (W0 : World) : Exit → Act → World → Prop
 | .normal, _, W => W.heap[l]? = some ob ∧ ∃ own', MovedD D own W0 own' W ∧ I pre own' W
 |_, _, _ => False
theorem range_deals {n : Nat} {g : Operand} {p : Tmp} {assign body : Code} {Q : Exit → Act → World → Prop} {a : Act} {w : World} (s : Lt) (hs : LtGood s) (P1 P4 P5 : Nat) (hc : s.rivers.length ≤ s.c1 ∧ s.lics.length ≤ s.c2 ∧ s.takes.length ≤ s.c3)
 (hg : a.eval g = .func (.func 159) #[] #[.pointer (some ⟨P1, 0, none⟩), .pointer (some ⟨P4, 0, none⟩), .pointer (some ⟨P5, 0, none⟩)])
 (lit : Dl → Option Addr → Nat → Nat → Act)
 (Bx : Dl → Option Addr → Nat → Nat → (Nat → Prop) → World → Prop) (hBx : ∀ x A c b own W W', Bx x A c b own W → Chg (fun k => k = w.heap.size + 1) W W' → Bx x A c b own W')
 (I : List Dl → (Nat → Prop) → World → Prop) (own0 : Nat → Prop)
 (hlt : ∀ pre own W, I pre own W → ∀ k, own k → k < W.heap.size) (hown : ∀ pre own W, I pre own W → own (w.heap.size + 1))
 (hst : ∀ pre own W W', I pre own W → Chg (fun k => (w.heap.size + 2 ≤ k ∧ ¬ own k) ∨ k = w.heap.size + 1) W W' → I pre own W')
 (h0 : ∀ ob, I [] own0 ((w.alloc (.deferred (some []))).alloc (.loop ob)))
 (hF1 : ∀ ob, Kd.F k43 ((w.alloc (.deferred (some []))).alloc (.loop ob)) (Low own0 (w.heap.size + 2)) s.A1 s.rivers.length s.rivers) (hF2 : ∀ ob, Kd.F k114 ((w.alloc (.deferred (some []))).alloc (.loop ob)) (Low own0 (w.heap.size + 2)) s.A2 s.lics.length s.lics) (hF3 : ∀ ob, Kd.F k174 ((w.alloc (.deferred (some []))).alloc (.loop ob)) (Low own0 (w.heap.size + 2)) s.A3 s.takes.length s.takes)
 (b1 : w.heap[P1]? = some (.cells #[.slice s.A3 s.takes.length s.c3] 100 (0, 0))) (b4 : w.heap[P4]? = some (.cells #[.slice s.A2 s.lics.length s.c2] 99 (0, 0))) (b5 : w.heap[P5]? = some (.cells #[.int .i64 s.years, .slice s.A1 s.rivers.length s.c1] 24 (0, 0)))
 (hn : ¬ own0 P1 ∧ ¬ own0 P4 ∧ ¬ own0 P5)
 (hassign : ∀ m pre own x D W A c ob, I pre own W → DAx D own W.heap.size W x.1 A c → W.heap[w.heap.size + 1]? = some (.loop ob) → ∀ K : Act → World → Prop,
   (∀ W', Moved own W own W' → I pre own W' → W'.heap[w.heap.size + 1]? = some (.loop ob) → ∀ b, Bx x A c b own W' → K (lit x A c b) W') →
   assign.wpIn (Fence.wide.inRound (w.heap.size + 1)) m Tryz.prog (Exit.then K (fun _ _ _ => False)) { tmps := a.tmps.setIfInBounds p (dlV x A c), defers := [] } W)
 (hbody : ∀ m pre own x D W A c ob b, I pre own W → DAx D own W.heap.size W x.1 A c → (∀ k, D k → w.heap.size + 2 ≤ k) → Bx x A c b own W → W.heap[w.heap.size + 1]? = some (.loop ob) → x ∈ dealsOf s →
   body.wpIn (Fence.wide.inRound (w.heap.size + 1)) m Tryz.prog (bodyD (w.heap.size + 1) (.loop ob) I (pre ++ [x]) D own W) (lit x A c b) W)
 (hdone : ∀ ob own W, Moved own0 ((w.alloc (.deferred (some []))).alloc (.loop ob)) own W → I (dealsOf s) own W → Q .normal { a with defers := { target := .collected w.heap.size, args := #[] } :: a.defers } W) :
 (Code.rangeFunc g #[p] assign body).wpIn Fence.wide n Tryz.prog Q a w := by
 refine range_enter rfl (fun h => (by cases h)) (gf := 159) (lb := #[.pointer (some ⟨P1, 0, none⟩), .pointer (some ⟨P4, 0, none⟩), .pointer (some ⟨P5, 0, none⟩)]) hg trivial (enters_of Tryz.func159 (by kernel_rfl) rfl) ?_
 intro fn _
 have hrec := World.alloc_heap_new (w.alloc (.deferred (some []))) (.loop (rec0 fn a.tmps #[p] assign body w.heap.size .ready none))
 rw [World.size_alloc] at hrec
 have hsz : ((w.alloc (.deferred (some []))).alloc (.loop (rec0 fn a.tmps #[p] assign body w.heap.size .ready none))).heap.size = w.heap.size + 2 := by simp
 refine (iter_calls s hs P1 P4 P5 (w.heap.size + 1)
  (fun pre own W => I pre own W ∧ W.heap[w.heap.size + 1]? = some (.loop (rec0 fn a.tmps #[p] assign body w.heap.size .ready none)))
  own0 _ ⟨fun pre own W h => hlt pre own W h.1, ?_, ?_⟩ (n - 1) (by rw [hsz]; exact hF1 _) (by rw [hsz]; exact hF2 _) (by rw [hsz]; exact hF3 _) hc (blk_alloc (blk_alloc b1 _) _) (blk_alloc (blk_alloc b4 _) _) (blk_alloc (blk_alloc b5 _) _) hn ⟨h0 _, hrec⟩).mono ?_
 ·rintro pre own W W2 ⟨hi, hl⟩ hch
  rw [hsz] at hch
  exact ⟨hst _ _ _ _ hi (hch.mono (fun i _ h => .inl h)), (hch.block _ (blk_lt hl) (fun h => h.2 (hown _ _ _ hi))).trans hl⟩
 ·rintro m pre x own W D A c ⟨hi, hl⟩ hx hS hDN
  rw [hsz] at hDN
  refine yield_round trivial hl rfl ?_
  have ez : (#[p].zip #[dlV x A c]).foldl (fun t (p, v) => t.setIfInBounds p v) a.tmps = a.tmps.setIfInBounds p (dlV x A c) := by simp
  rw [ez]
  refine hassign m pre own x D W A c _ hi hS hl _ ?_
  intro W' hm hi' hl' b hbb
  have hm2 : Moved own W own (W'.putObj (w.heap.size + 1) (.loop (rec0 fn a.tmps #[p] assign body w.heap.size .busy none))) := hm.own_put (hown _ _ _ hi') _
  refine ⟨hl', Go.wpIn_mono (hbody m pre own x D _ A c _ b (hst _ _ _ _ hi' ((chg_put _ _ _).mono (fun i _ h => .inr h))) ((hS.moved hm2 (Nat.le_refl _)).raise hm2.size) hDN (hBx _ _ _ _ _ _ _ hbb (chg_put _ _ _)) (World.putObj_heap_same (blk_lt hl')) hx) ?_⟩
  intro e a3 W3 hq
  cases e with
  |normal =>
   obtain ⟨hl3, own3, hm3, hi3⟩ := hq
   exact ⟨hl3, rfl, own3, (MovedD.after hm2 hm3).own_put (hown _ _ _ hi3) (hown _ _ _ hi) _, hst _ _ _ _ hi3 ((chg_put _ _ _).mono (fun i _ h => .inr h)), World.putObj_heap_same (blk_lt hl3)⟩
  |ret => exact hq.elim
  |exit id => exact hq.elim
  |goto t => exact hq.elim
  |panic c => exact hq.elim
  |outgrown => exact hq.elim
 ·rintro e W2 ⟨⟨v, rfl⟩, own', hm, hi, hl⟩
  exact .inl ⟨hl, hdone _ own' _ (hm.own_put (hown _ _ _ hi) _) (hst _ _ _ _ hi ((chg_put _ _ _).mono (fun i _ h => .inr h)))⟩
attribute [local go_sem] Oper.semAt_some wide_fn wide_depth
def ownB (p3 p4 p5 p6 D l : Nat) (O : Nat → Prop) : Nat → Prop := fun k => k = p3 ∨ k = p4 ∨ k = p5 ∨ k = p6 ∨ k = D ∨ k = l ∨ O k
structure BdIn (w : World) (p3 p4 p5 p6 D l : Nat) (pre : List Dl) (own : Nat → Prop) (W : World) : Prop where
 row : ∃ (O : Nat → Prop) (A : Option Addr) (c : Nat), own = ownB p3 p4 p5 p6 D l O ∧ W.heap[p5]? = some (.cells #[.slice A (bestDl pre).1.length c, .int .i64 (bestDl pre).2] 177 (0, 0)) ∧ (bestDl pre).1.length ≤ c ∧ Kd.F (Kd.int .i64) W O A (bestDl pre).1.length (bestDl pre).1 ∧ ∀ k, O k → k < W.heap.size ∧ w.heap.size ≤ k ∧ k ≠ p3 ∧ k ≠ p4 ∧ k ≠ p5 ∧ k ≠ p6 ∧ k ≠ D ∧ k ≠ l
 h3 : W.heap[p3]? = some (.cells #[.func (.func 114) #[] #[]] 181 (0, 0))
 h4 : W.heap[p4]? = some (.cells #[.slice none 0 0, .int .i64 0] 177 (0, 0))
 h6 : W.heap[p6]? = some (.cells #[.bool (decide (pre = []))] 4 (0, 0))
 hD : W.heap[D]? = some (.deferred (some []))
 sz : l < W.heap.size
 bw : Below w.heap.size w W
theorem BdIn.chg {w : World} {p3 p4 p5 p6 D l N : Nat} {pre : List Dl} {own : Nat → Prop} {W W' : World} (h : BdIn w p3 p4 p5 p6 D l pre own W) (hN : w.heap.size ≤ N) (hwl : w.heap.size ≤ l) (hne : p3 ≠ l ∧ p4 ≠ l ∧ p5 ≠ l ∧ p6 ≠ l ∧ D ≠ l) (hc : Chg (fun k => (N ≤ k ∧ ¬ own k) ∨ k = l) W W') : BdIn w p3 p4 p5 p6 D l pre own W' := by
 obtain ⟨⟨O, A, c, rfl, h5, hcc, hF, hO⟩, h3, h4, h6, hD, hz, hbw⟩ := h
 have keep : ∀ k o, W.heap[k]? = some o → ownB p3 p4 p5 p6 D l O k → k ≠ l → W'.heap[k]? = some o := fun k o hk ho hl => (hc.block k (blk_lt hk) (fun h => by
  rcases h with h | h
  ·exact h.2 ho
  ·exact hl h)).trans hk
 refine ⟨⟨O, A, c, rfl, keep _ _ h5 (.inr (.inr (.inl rfl))) hne.2.2.1, hcc, Kd.F_step hF (fun k hk hlt => hc.block k hlt (fun h => ?_)), fun k hk => ⟨Nat.lt_of_lt_of_le (hO k hk).1 hc.size, (hO k hk).2⟩⟩, keep _ _ h3 (.inl rfl) hne.1, keep _ _ h4 (.inr (.inl rfl)) hne.2.1, keep _ _ h6 (.inr (.inr (.inr (.inl rfl)))) hne.2.2.2.1, keep _ _ hD (.inr (.inr (.inr (.inr (.inl rfl))))) hne.2.2.2.2, Nat.lt_of_lt_of_le hz hc.size, hbw.trans (hc.below (fun i hi => ?_) hbw.size)⟩
 ·rcases h with h | h
  ·exact h.2 (.inr (.inr (.inr (.inr (.inr (.inr hk))))))
  ·exact (hO k hk).2.2.2.2.2.2.2 h
 ·rcases hi with h | h <;> omega
end Go.Proofs.YtfijblhfgfefoaaGreatDoor.Rv
end
