/- A part of the proof: words, contracts of functions, and their walks. -/
import Derived.Maps.AppendAt
import Derived.Test.YtfijblhfgfefoaaGreatDoorQLess3
import Derived.Test.YtfijblhfgfefoaaGreatDoorQLess5
import Derived.Test.YtfijblhfgfefoaaGreatDoorQLess6
import Derived.Test.YtfijblhfgfefoaaGreatDoorQLess8
import Derived.Test.YtfijblhfgfefoaaGreatDoorQLess9
set_option linter.unusedVariables false
set_option linter.unusedSimpArgs false
section
namespace Go.Proofs.YtfijblhfgfefoaaGreatDoor.Rv
open Go.RowKit Go.Shelf Go.IntWalk Go.Proofs.YtfijblhfgfefoaaGreatDoor.PAll Go.Proofs.YtfijblhfgfefoaaGreatDoorW.PrintWords Go.Proofs.YtfijblhfgfefoaaGreatDoorW.PrintLast
def closedB (rivers : List S43) (o : S27) : Bool := (river_sack_closed.f 0 rivers [] [] o.f0 o.f1).getD false
theorem closed_some (rivers : List S43) (a : Int) (l2 : List S45) (l3 : List S59) (o : S27) (h0 : 0 ≤ o.f0) (h1 : o.f0 < rivers.length) (h2 : 0 ≤ o.f1) : river_sack_closed.f a rivers l2 l3 o.f0 o.f1 = some (closedB rivers o) := by
 unfold closedB river_sack_closed.f river_has.f
 simp [h0, h1, h2]
def disagrees (rivers : List S43) (i : Int) (o : S27) (t : S59) : Bool := t.f0 == i && (t.f1 != closedB rivers o)
def testedB (rivers : List S43) (tests : List S59) (i : Int) (o : S27) : Bool := !(tests.any (disagrees rivers i o))
structure TMem (W0 W : World) (b9 : Bool) (u9 : Value) (c : Bool) : Prop where
 b : Below W0.heap.size W0 W
 m : b9 = true → u9 = .bool c
set_option maxRecDepth 100000 in
set_option maxHeartbeats 1000000 in
theorem disagrees_pred (years : Int) (A1 A2 A3 : Option Addr) (c1 c2 c3 : Nat) (rivers : List S43) (shells : List S45) (tests : List S59) (i : Int) (o : S27) (B0 B1 B2 : Nat) (l : List S59) (w : World)
 (h0 : 0 ≤ o.f0) (h1 : o.f0 < rivers.length) (h2 : 0 ≤ o.f1) (hr1 : Kd.C k43 w A1 rivers.length rivers) (hc1 : rivers.length ≤ c1) (hr2 : Kd.C k45 w A2 shells.length shells) (hc2 : shells.length ≤ c2) (hr3 : Kd.C k59 w A3 tests.length tests) (hc3 : tests.length ≤ c3)
 (b0 : w.heap[B0]? = some (.cells #[.int .i64 i] 3 (0, 0))) (b1 : w.heap[B1]? = some (.cells #[.int .i64 years, .slice A1 rivers.length c1, .slice A2 shells.length c2, .slice A3 tests.length c3] 138 (0, 0))) (b2 : w.heap[B2]? = some (.cells #[.int .i64 o.f0, .int .i64 o.f1] 27 (0, 0))) :
 PredK k59 164 #[.pointer (some ⟨B0, 0, none⟩), .pointer (some ⟨B1, 0, none⟩), .pointer (some ⟨B2, 0, none⟩)] (disagrees rivers i o) l w := by
 intro W x cs _ hb hk
 obtain rfl := k59_open hk
 show Calls Tryz.prog 164 #[.agg #[.int .i64 x.f0, .bool x.f1], .pointer (some ⟨B0, 0, none⟩), .pointer (some ⟨B1, 0, none⟩), .pointer (some ⟨B2, 0, none⟩)] W _
 have H0 := zk (blk_below b0 hb)
 have H1 := zk (blk_below b1 hb)
 have H2 := zk (blk_below b2 hb)
 have HR1 := zk (Kd.C_below hr1 hb)
 have HR2 := zk (Kd.C_below hr2 hb)
 have HR3 := zk (Kd.C_below hr3 hb)
 have HCL := zk (closed_some rivers years shells tests o h0 h1 h2)
 have HLE := zk (And.intro hc1 (And.intro hc2 hc3))
 have hu27 := Tryz.underlying27
 have hu138 := Tryz.underlying138
 have hu59 := Tryz.underlying59
 clear hb hk b0 b1 b2 hr1 hr2 hr3 hc1 hc2 hc3 h0 h1 h2
 obtain ⟨q, hq⟩ : ∃ q, q = disagrees rivers i o x := ⟨_, rfl⟩
 have hqd : disagrees rivers i o x = (x.f0 == i && (x.f1 != closedB rivers o)) := rfl
 rw [← hq] at hqd ⊢
 have Q := zk hqd
 clear hq hqd
 generalize closedB rivers o = cl at *
 go_enter Tryz.func164, Tryz.ntmps164
 go_wp2
 have H4 := zk (blk_new W (.cells #[.int .i64 x.f0, .bool x.f1] 59))
 have HB := zk (below1 (w := W) (.cells #[.int .i64 x.f0, .bool x.f1] 59))
 generalize W.alloc (.cells #[.int .i64 x.f0, .bool x.f1] 59) = W1 at H4 HB ⊢
 have hsz : W.heap.size < W1.heap.size := blk_lt H4.out
 generalize W.heap.size = p4 at H4 hsz ⊢
 by_cases he : x.f0 = i
 ·have hde : decide (x.f0 = i) = true := by simpa using he
  have hbe : (x.f0 == i) = true := by simpa using he
  replace he := zk he
  refine region_lit (lit := ?lit) 12 [[],[0],[],[1,2],[3],[4],[4,5],[4],[4],[4,7,8],[4,6,9],[4,10]]
   [some (.pointer (some ⟨p4, 0, none⟩)), some (.int .i64 x.f0), some (.int .i64 i), some (.bool true), some (.bool true), some (.pointer (some ⟨p4, 1, none⟩)), some (.bool x.f1), some (.agg #[.int .i64 years, .slice A1 rivers.length c1, .slice A2 shells.length c2, .slice A3 tests.length c3]), some (.agg #[.int .i64 o.f0, .int .i64 o.f1]), none, some (.bool (!(x.f1 == cl))), some (.bool (!(x.f1 == cl)))]
   (fun b u W' => Aside0 (TMem W1 W' (b 9) (u 9) cl)) ?hlit (by kernel_rfl) (by kernel_rfl) (by decide) ?_ ?_ ?_ ?_ ?_
  case hlit =>
   intro u
   simp only [List.take_succ_cons, List.take_zero, List.map_cons, List.map_nil, setAll, Nat.reduceAdd, Act.put, List.setIfInBounds_toArray, List.set_cons_succ, List.set_cons_zero]
   try rfl
  ·intro u w2 hw
   exact zk ⟨hw.below _, fun h => (by cases h)⟩
  ·intro i' v b u W' hv h
   have h9 : (9 : Nat) ≠ i' := by rintro rfl; cases hv
   rw [upd_ne h9, upf_ne h9]
   exact h
  ·intro i' o' v hi ho hv b u W' hM hdep hd
   have H4W := zk (blk_below H4.out hM.out.b)
   obtain ⟨c_p4_0, f_p4_0, c_p4_1, f_p4_1, l_p4⟩ := cl2 (W := W') (p := p4) (a := .int .i64 x.f0) (b := .bool x.f1) H4W.out
   have H0W := zk (blk_below H0.out (bt HB.out hM.out.b))
   have H1W := zk (blk_below H1.out (bt HB.out hM.out.b))
   have H2W := zk (blk_below H2.out (bt HB.out hM.out.b))
   obtain ⟨c_B0_0, f_B0_0, l_B0⟩ := cl1 (W := W') (p := B0) (a := .int .i64 i) H0W.out
   obtain ⟨c_B1_0, f_B1_0, c_B1_1, f_B1_1, c_B1_2, f_B1_2, c_B1_3, f_B1_3, l_B1⟩ := cl4 (W := W') (p := B1) (a := .int .i64 years) (b := .slice A1 rivers.length c1) (c := .slice A2 shells.length c2) (d := .slice A3 tests.length c3) H1W.out
   obtain ⟨c_B2_0, f_B2_0, c_B2_1, f_B2_1, l_B2⟩ := cl2 (W := W') (p := B2) (a := .int .i64 o.f0) (b := .int .i64 o.f1) H2W.out
   clear H4W H0W H1W H2W
   replace hi : i' < 12 := hi
   match i', hi with
   |0, _ =>
    cases ho
    cases zs hv
    clear hd hv
    (try have e9 := hM.out.m (hdep 9 (by decide))); clear hM hdep; go_wp2
    exact zt
   |1, _ =>
    cases ho
    cases zs hv
    have e0 := hd 0 _ (by decide) rfl
    clear hd hv
    (try have e9 := hM.out.m (hdep 9 (by decide))); clear hM hdep; go_wp2
    exact zt
   |2, _ =>
    cases ho
    cases zs hv
    clear hd hv
    (try have e9 := hM.out.m (hdep 9 (by decide))); clear hM hdep; go_wp2
    exact zt
   |3, _ =>
    cases ho
    cases zs hv
    have e1 := hd 1 _ (by decide) rfl
    have e2 := hd 2 _ (by decide) rfl
    clear hd hv
    (try have e9 := hM.out.m (hdep 9 (by decide))); clear hM hdep; go_wp2
    exact zt
   |4, _ =>
    cases ho
    cases zs hv
    have e3 := hd 3 _ (by decide) rfl
    clear hd hv
    (try have e9 := hM.out.m (hdep 9 (by decide))); clear hM hdep; go_wp2
    exact zt
   |5, _ =>
    cases ho
    cases zs hv
    have e4 := hd 4 _ (by decide) rfl
    clear hd hv
    (try have e9 := hM.out.m (hdep 9 (by decide))); clear hM hdep; go_wp2
    exact zt
   |6, _ =>
    cases ho
    cases zs hv
    have e4 := hd 4 _ (by decide) rfl
    have e5 := hd 5 _ (by decide) rfl
    clear hd hv
    (try have e9 := hM.out.m (hdep 9 (by decide))); clear hM hdep; go_wp2
    exact zt
   |7, _ =>
    cases ho
    cases zs hv
    have e4 := hd 4 _ (by decide) rfl
    clear hd hv
    (try have e9 := hM.out.m (hdep 9 (by decide))); clear hM hdep; go_wp2
    exact zt
   |8, _ =>
    cases ho
    cases zs hv
    have e4 := hd 4 _ (by decide) rfl
    clear hd hv
    (try have e9 := hM.out.m (hdep 9 (by decide))); clear hM hdep; go_wp2
    exact zt
   |9, _ =>
    cases hv
   |10, _ =>
    cases ho
    cases zs hv
    have e4 := hd 4 _ (by decide) rfl
    have e6 := hd 6 _ (by decide) rfl
    clear hd hv
    (try have e9 := hM.out.m (hdep 9 (by decide))); clear hM hdep; go_wp2
    exact zt
   |11, _ =>
    cases ho
    cases zs hv
    have e4 := hd 4 _ (by decide) rfl
    have e10 := hd 10 _ (by decide) rfl
    clear hd hv
    (try have e9 := hM.out.m (hdep 9 (by decide))); clear hM hdep; go_wp2
    exact zt
  ·intro i' o' hi ho hv b u W' hM hb hdep hq' hd
   match i', hi with
   |0, _ => cases hv
   |1, _ => cases hv
   |2, _ => cases hv
   |3, _ => cases hv
   |4, _ => cases hv
   |5, _ => cases hv
   |6, _ => cases hv
   |7, _ => cases hv
   |8, _ => cases hv
   |10, _ => cases hv
   |11, _ => cases hv
   |9, _ =>
    cases ho
    have e4 := hd 4 _ (by decide) rfl
    have e7 := hd 7 _ (by decide) rfl
    have e8 := hd 8 _ (by decide) rfl
    have hbw := bt HB.out hM.out.b
    clear hd hv hq' hdep hb
    go_wp2_with (go_at_call 140; (with_reducible refine (river_sack_closed.calls _ _ _ _ _ _ _ _ _ _ _ _ _ _ (Kd.C_below HR1.out hbw) HLE.out.1 (Kd.C_below HR2.out hbw) HLE.out.2.1 (Kd.C_below HR3.out hbw) HLE.out.2.2 HCL.out).mono ?_); rintro e w' ⟨rfl, hB'⟩)
    refine ⟨.bool cl, by simp [upf, e4, e7, e8], zk ⟨bt hM.out.b hB', fun _ => upf_self _ _ _⟩⟩
   |j + 12, hi => exact absurd hi (by omega)
  ·intro b u W' hall hM hd
   have e11 := hd 11 _ (by decide) rfl
   have hbw := bt HB.out hM.out.b
   clear hall hd
   go_wp2
   go_ret
   exact ⟨ret_bool (by rw [Q.out]; simp [he.out]; cases x.f1 <;> cases cl <;> rfl), hbw⟩
 ·have hde : decide (x.f0 = i) = false := by simpa using he
  have hbe : (x.f0 == i) = false := by simpa using he
  replace he := zk he
  refine region_lit (lit := ?lit) 12 [[],[0],[],[1,2],[3],[4],[4,5],[4],[4],[4,7,8],[4,6,9],[4,10]]
   [some (.pointer (some ⟨p4, 0, none⟩)), some (.int .i64 x.f0), some (.int .i64 i), some (.bool false), some (.bool false), some undef, some undef, some undef, some undef, some undef, some undef, some (.bool false)]
   (fun b u W' => Aside0 (Below W1.heap.size W1 W')) ?hlit (by kernel_rfl) (by kernel_rfl) (by decide) ?_ ?_ ?_ ?_ ?_
  case hlit =>
   intro u
   simp only [List.take_succ_cons, List.take_zero, List.map_cons, List.map_nil, setAll, Nat.reduceAdd, Act.put, List.setIfInBounds_toArray, List.set_cons_succ, List.set_cons_zero]
   try rfl
  ·intro u w2 hw
   exact zk (hw.below _)
  ·intro i' v b u W' hv h
   exact h
  ·intro i' o' v hi ho hv b u W' hM hdep hd
   have H4W := zk (blk_below H4.out hM.out)
   obtain ⟨c_p4_0, f_p4_0, c_p4_1, f_p4_1, l_p4⟩ := cl2 (W := W') (p := p4) (a := .int .i64 x.f0) (b := .bool x.f1) H4W.out
   have H0W := zk (blk_below H0.out (bt HB.out hM.out))
   obtain ⟨c_B0_0, f_B0_0, l_B0⟩ := cl1 (W := W') (p := B0) (a := .int .i64 i) H0W.out
   clear H4W H0W hM hdep
   replace hi : i' < 12 := hi
   match i', hi with
   |0, _ =>
    cases ho
    cases zs hv
    clear hd hv
    go_wp2
    exact zt
   |1, _ =>
    cases ho
    cases zs hv
    have e0 := hd 0 _ (by decide) rfl
    clear hd hv
    go_wp2
    exact zt
   |2, _ =>
    cases ho
    cases zs hv
    clear hd hv
    go_wp2
    exact zt
   |3, _ =>
    cases ho
    cases zs hv
    have e1 := hd 1 _ (by decide) rfl
    have e2 := hd 2 _ (by decide) rfl
    clear hd hv
    go_wp2
    exact zt
   |4, _ =>
    cases ho
    cases zs hv
    have e3 := hd 3 _ (by decide) rfl
    clear hd hv
    go_wp2
    exact zt
   |5, _ =>
    cases ho
    cases zs hv
    have e4 := hd 4 _ (by decide) rfl
    clear hd hv
    go_wp2
    exact zt
   |6, _ =>
    cases ho
    cases zs hv
    have e4 := hd 4 _ (by decide) rfl
    have e5 := hd 5 _ (by decide) rfl
    clear hd hv
    go_wp2
    exact zt
   |7, _ =>
    cases ho
    cases zs hv
    have e4 := hd 4 _ (by decide) rfl
    clear hd hv
    go_wp2
    exact zt
   |8, _ =>
    cases ho
    cases zs hv
    have e4 := hd 4 _ (by decide) rfl
    clear hd hv
    go_wp2
    exact zt
   |9, _ =>
    cases ho
    cases zs hv
    have e4 := hd 4 _ (by decide) rfl
    have e7 := hd 7 _ (by decide) rfl
    have e8 := hd 8 _ (by decide) rfl
    clear hd hv
    go_wp2
    exact zt
   |10, _ =>
    cases ho
    cases zs hv
    have e4 := hd 4 _ (by decide) rfl
    have e6 := hd 6 _ (by decide) rfl
    have e9 := hd 9 _ (by decide) rfl
    clear hd hv
    go_wp2
    exact zt
   |11, _ =>
    cases ho
    cases zs hv
    have e4 := hd 4 _ (by decide) rfl
    have e10 := hd 10 _ (by decide) rfl
    clear hd hv
    go_wp2
    exact zt
  ·intro i' o' hi ho hv
   match i', hi with
   |0, _ => cases hv
   |1, _ => cases hv
   |2, _ => cases hv
   |3, _ => cases hv
   |4, _ => cases hv
   |5, _ => cases hv
   |6, _ => cases hv
   |7, _ => cases hv
   |8, _ => cases hv
   |9, _ => cases hv
   |10, _ => cases hv
   |11, _ => cases hv
   |j + 12, hi => exact absurd hi (by omega)
  ·intro b u W' hall hM hd
   have e11 := hd 11 _ (by decide) rfl
   have hbw := bt HB.out hM.out
   clear hall hd
   go_wp2
   go_ret
   exact ⟨ret_bool (by rw [Q.out]; simp [he.out]), hbw⟩
theorem tested_calls (years : Int) (A1 A2 A3 : Option Addr) (c1 c2 c3 : Nat) (rivers : List S43) (shells : List S45) (tests : List S59) (i : Int) (o : S27) (w : World)
 (h0 : 0 ≤ o.f0) (h1 : o.f0 < rivers.length) (h2 : 0 ≤ o.f1) (hr1 : Kd.C k43 w A1 rivers.length rivers) (hc1 : rivers.length ≤ c1) (hr2 : Kd.C k45 w A2 shells.length shells) (hc2 : shells.length ≤ c2) (hr3 : Kd.C k59 w A3 tests.length tests) (hc3 : tests.length ≤ c3) :
 Calls Tryz.prog 120 #[.agg #[.int .i64 years, .slice A1 rivers.length c1, .slice A2 shells.length c2, .slice A3 tests.length c3], .int .i64 i, .agg #[.int .i64 o.f0, .int .i64 o.f1]] w fun e w' => e = .returned (.bool (testedB rivers tests i o)) ∧ Below w.heap.size w w' := by
 have hu138 := Tryz.underlying138
 have hmf : ∀ (fn : Fn) (first cap : Array Value) (w : World), (Instr.makeFunc fn first cap).run Tryz.prog w = .ok (.func fn first cap) w := fun _ _ _ _ => rfl
 obtain ⟨o1, h1o⟩ : ∃ o1 : Obj, o1 = .cells #[.int .i64 years, .slice A1 rivers.length c1, .slice A2 shells.length c2, .slice A3 tests.length c3] 138 := ⟨_, rfl⟩
 have HB := zk (((below1 (w := w) o1).alloc (by simp) (.cells #[.int .i64 i] 3)).alloc (by simp; omega) (.cells #[.int .i64 o.f0, .int .i64 o.f1] 27))
 have b1 := blk_alloc (blk_alloc (blk_new w o1) (.cells #[.int .i64 i] 3)) (.cells #[.int .i64 o.f0, .int .i64 o.f1] 27)
 have b0 := blk_alloc (blk_new (w.alloc o1) (.cells #[.int .i64 i] 3)) (.cells #[.int .i64 o.f0, .int .i64 o.f1] 27)
 have b2 := blk_new ((w.alloc o1).alloc (.cells #[.int .i64 i] 3)) (.cells #[.int .i64 o.f0, .int .i64 o.f1] 27)
 subst h1o
 simp only [World.size_alloc] at b0 b2
 have HP := zk (cont152 164 #[.pointer (some ⟨w.heap.size + 1, 0, none⟩), .pointer (some ⟨w.heap.size, 0, none⟩), .pointer (some ⟨w.heap.size + 1 + 1, 0, none⟩)] (enters_of Tryz.func164 (by kernel_rfl) rfl) (disagrees rivers i o) A3 c3 tests _ (Kd.C_below hr3 HB.out) (disagrees_pred years A1 A2 A3 c1 c2 c3 rivers shells tests i o _ _ _ tests _ h0 h1 h2 (Kd.C_below hr1 HB.out) hc1 (Kd.C_below hr2 HB.out) hc2 (Kd.C_below hr3 HB.out) hc3 b0 b1 b2))
 obtain ⟨q, hq⟩ : ∃ q, q = testedB rivers tests i o := ⟨_, rfl⟩
 have hqd : testedB rivers tests i o = !(tests.any (disagrees rivers i o)) := rfl
 rw [← hq] at hqd ⊢
 have Q := zk hqd
 clear hq hqd b0 b1 b2 h0 h1 h2 hr1 hr2 hr3 hc1 hc2 hc3
 generalize tests.any (disagrees rivers i o) = b3 at *
 go_enter Tryz.func120, Tryz.ntmps120
 go_wp2_with (go_at_call 152; (with_reducible refine HP.out.mono ?_); rintro e w' ⟨rfl, hB'⟩)
 go_ret
 exact ⟨ret_bool (by rw [Q.out]), bt HB.out hB'⟩
end Go.Proofs.YtfijblhfgfefoaaGreatDoor.Rv
end
section
namespace Go.Proofs.YtfijblhfgfefoaaGreatDoor.Rv
open Go.RowKit Go.Shelf Go.IntWalk Go.Proofs.YtfijblhfgfefoaaGreatDoor.PAll Go.Proofs.YtfijblhfgfefoaaGreatDoorW.PrintWords Go.Proofs.YtfijblhfgfefoaaGreatDoorW.PrintLast
structure BMem (W0 W : World) (row : List S47) (b4 b5 : Bool) (u4 u5 : Value) : Prop where
 b : Below W0.heap.size W0 W
 m4 : b4 = true → ∃ A c, u4 = .slice A row.length c ∧ row.length ≤ c ∧ Kd.F k47 W (fun k => W0.heap.size ≤ k) A row.length row
 m5 : b5 = true → ∃ g, u5 = .slice (some ⟨g, 0, none⟩) 1 1 ∧ W.heap[g]? = some (.cells #[u4] 41 (0, 0))
structure BLoop (w wr : World) (p2 p3 : Nat) (rows : List (List S47)) (v : Value) (cells : List Value) : Prop where
 b : Below w.heap.size w wr
 lo : w.heap.size ≤ p2 ∧ w.heap.size ≤ p3 ∧ p2 ≠ p3
 h2 : wr.heap[p2]? = some (.cells #[.slice none 0 0, .slice none 0 0] 149 (0, 0))
 h3 : wr.heap[p3]? = some (.cells #[.slice none 0 0, v] 149 (0, 0))
 own : wr.ownsRow w.heap.size 41 1 v rows.length cells
 reps : Reps (fun x c => Kd.FK (Kd.slice 47 k47) wr (fun k => w.heap.size ≤ k ∧ k ≠ p2 ∧ k ≠ p3 ∧ some k ≠ v.ownBlock) x c) 1 rows cells
theorem BLoop.step {w wr W' : World} {p2 p3 : Nat} {rows : List (List S47)} {v : Value} {cells : List Value} (h : BLoop w wr p2 p3 rows v cells) (hB : Below wr.heap.size wr W') : BLoop w W' p2 p3 rows v cells :=
 ⟨bt h.b hB, h.lo, blk_below h.h2 hB, blk_below h.h3 hB, pw_own_below h.own hB, h.reps.imp_ fun _ _ hk => Kd.FK_below hk hB⟩
theorem BLoop.push {w W W2 : World} {p2 p3 : Nat} {rows : List (List S47)} {v v' : Value} {cells : List Value} (h : BLoop w W p2 p3 rows v cells) (row : List S47) (u : Value) (hg : W.grownBy W2 v.ownBlock) (hat : v'.ownBlock = v.ownBlock ∨ v'.ownBlock = some W.heap.size)
 (hown : W2.ownsRow w.heap.size 41 1 v' (rows.length + 1) (cells ++ [u])) (hu : Kd.FK (Kd.slice 47 k47) W (fun k => w.heap.size ≤ k ∧ k ≠ p2 ∧ k ≠ p3 ∧ some k ≠ v.ownBlock) row [u]) : BLoop w (W2.setCell ⟨p3, 1, none⟩ v') p2 p3 (rows ++ [row]) v' (cells ++ [u]) := by
 have h2 := blk_grown h.h2 hg (own_ne h.own h.h2 (by decide))
 have h3 := blk_grown h.h3 hg (own_ne h.own h.h3 (by decide))
 have mv : ∀ x c, Kd.FK (Kd.slice 47 k47) W (fun k => w.heap.size ≤ k ∧ k ≠ p2 ∧ k ≠ p3 ∧ some k ≠ v.ownBlock) x c → Kd.FK (Kd.slice 47 k47) (W2.setCell ⟨p3, 1, none⟩ v') (fun k => w.heap.size ≤ k ∧ k ≠ p2 ∧ k ≠ p3 ∧ some k ≠ v'.ownBlock) x c := fun x c hx => by
  refine Kd.FK_mono (Kd.FK_step (Kd.FK_bound hx) (W1 := W2.setCell ⟨p3, 1, none⟩ v') (fun k hk hlt => (Below.heap_setCell W2 ⟨p3, 1, none⟩ v' k hk.1.2.2.1).trans (hg.block k hlt hk.1.2.2.2))) (fun k hk => ⟨hk.1.1, hk.1.2.1, hk.1.2.2.1, ?_⟩)
  rcases hat with e | e
  ·rw [e]; exact hk.1.2.2.2
  ·rw [e]; intro e'; cases e'; have := hk.2; omega
 refine ⟨(h.b.grown hg h.b.size (own_base h.own)).setCell (p := ⟨p3, 1, none⟩) h.lo.2.1 _, h.lo, blk_far h2 (p := ⟨p3, 1, none⟩) h.lo.2.2 _, blk_put h3 1 _ rfl, ?_, ?_⟩
 ·rw [List.length_append]
  exact own_setCell hown (p := ⟨p3, 1, none⟩) (own_ne hown h3 (by decide)) _
 ·exact (h.reps.imp_ mv).snoc (mv row [u] hu) rfl
theorem info41' : (Tryz.prog.info? 41).map (fun i => (i.zero, i.size, i.bytes)) = some (some (.slice none 0 0), 1, 24) := by kernel_rfl
set_option maxRecDepth 100000 in
set_option maxHeartbeats 1000000 in
theorem begin_t (years : Int) (A1 : Option Addr) (c1 : Nat) (V2 V3 : Value) (w : World) (rivers : List S43) (R : Ending → World → Prop)
 (hB : Kd.C k43 w A1 rivers.length rivers) (hlen : rivers.length ≤ 1000) (hrow : ∀ r ∈ rivers, r.f0.length ≤ 1000)
 (hQ : ∀ w' A c, Below w.heap.size w w' → rivers.length ≤ c → Kd.F (Kd.slice 47 k47) w' (fun k => w.heap.size ≤ k) A rivers.length (rivers.map (·.f0)) → R (.returned (.agg #[.slice none 0 0, .slice A rivers.length c])) w') :
 Calls Tryz.prog 144 #[.agg #[.int .i64 years, .slice A1 rivers.length c1, V2, V3]] w R := by
 have HBK := zk hB
 have HROW := zk hrow
 have HQ := zk hQ
 clear hB hrow hQ
 have hu149 := Tryz.underlying149
 have hu138 := Tryz.underlying138
 have hu43 := Tryz.underlying43
 have hn1 : (rivers.length : Int) ≤ 1000 := by omega
 go_enter Tryz.func144, Tryz.ntmps144
 go_wp2
 have HL := zk (show BLoop w (((w.alloc (.cells #[.int .i64 years, .slice A1 rivers.length c1, V2, V3] 138)).alloc (.cells #[.slice none 0 0, .slice none 0 0] 149)).alloc (.cells #[.slice none 0 0, .slice none 0 0] 149)) (w.heap.size + 1) (w.heap.size + 1 + 1) [] (.slice none 0 0) [] from
  ⟨bl0, by omega, by
   have h := blk_alloc (blk_new (w.alloc (.cells #[.int .i64 years, .slice A1 rivers.length c1, V2, V3] 138)) (.cells #[.slice none 0 0, .slice none 0 0] 149)) (.cells #[.slice none 0 0, .slice none 0 0] 149)
   simpa only [World.size_alloc] using h, by
   have h := blk_new ((w.alloc (.cells #[.int .i64 years, .slice A1 rivers.length c1, V2, V3] 138)).alloc (.cells #[.slice none 0 0, .slice none 0 0] 149)) (.cells #[.slice none 0 0, .slice none 0 0] 149)
   simpa only [World.size_alloc] using h, own_nil _ _ _ _, Reps.none _ _⟩)
 generalize ((w.alloc (.cells #[.int .i64 years, .slice A1 rivers.length c1, V2, V3] 138)).alloc (.cells #[.slice none 0 0, .slice none 0 0] 149)).alloc (.cells #[.slice none 0 0, .slice none 0 0] 149) = wL at HL ⊢
 obtain ⟨p3, e3⟩ : ∃ p3, p3 = w.heap.size + 1 + 1 := ⟨_, rfl⟩
 obtain ⟨p2, e2⟩ : ∃ p2, p2 = w.heap.size + 1 := ⟨_, rfl⟩
 rw [← e3, ← e2] at HL
 rw [← e3, ← e2]
 clear e3 e2
 go_loopg [10] rivers.length (fun gg v10 wr => ∃ (k : Nat) (v : Value) (cells : List Value), k ≤ rivers.length ∧ rivers.length - k ≤ gg ∧ v10 = .int .i64 k ∧ Aside0 (BLoop w wr p2 p3 ((rivers.map (·.f0)).take k) v cells))
 case atStart => exact ⟨0, _, _, by omega, by omega, rfl, HL⟩
 case round =>
  obtain ⟨k, v, cells, hk, hgg, rfl, HI⟩ := hrel
  by_cases hlt : k < rivers.length
  ·have hltz : decide ((k : Int) < rivers.length) = true := by simp; omega
   obtain ⟨ad, A0, c0, rfl, d0, d1, d2, hl0, hC0⟩ := at_T43 (Kd.C_below HBK.out HI.out.b) k (by omega) (by omega)
   simp only [Int.toNat_natCast] at d0 d1 d2
   have HC0 := zk hC0
   have hks : (rd_T43 rivers k).f0.length ≤ 1000 := by
    have e : rd_T43 rivers k = rivers[k] := by simp [rd_T43, List.getD_eq_getElem?_getD, hlt]
    rw [e]
    exact HROW.out _ (List.getElem_mem hlt)
   clear hC0
   have L3 : p3 < wr.heap.size := blk_lt HI.out.h3
   go_wp2
   obtain ⟨row, erow⟩ : ∃ row, row = (rd_T43 rivers k).f0 := ⟨_, rfl⟩
   have ER := zk erow
   rw [← erow] at HC0 hl0 hks d0 ⊢
   clear erow d0 d1 d2
   have H5 := zk (blk_new wr (.cells #[.slice A0 row.length c0, .int .i64 (rd_T43 rivers k).f1, .int .i64 (rd_T43 rivers k).f2] 43))
   have HJ := zk (HI.out.step (below1 (.cells #[.slice A0 row.length c0, .int .i64 (rd_T43 rivers k).f1, .int .i64 (rd_T43 rivers k).f2] 43)))
   replace HC0 := zk (Kd.C_below HC0.out (below1 (.cells #[.slice A0 row.length c0, .int .i64 (rd_T43 rivers k).f1, .int .i64 (rd_T43 rivers k).f2] 43)))
   generalize wr.alloc (.cells #[.slice A0 row.length c0, .int .i64 (rd_T43 rivers k).f1, .int .i64 (rd_T43 rivers k).f2] 43) = W0 at H5 HJ HC0 ⊢
   generalize wr.heap.size = p5 at H5 ⊢
   obtain ⟨cells0, hr0, hp0⟩ := reps_cells HC0.out
   obtain rfl := reps47 hp0
   have HR0 := zk hr0
   clear hr0 hp0 HC0 HI
   obtain ⟨Av, cv, ev⟩ := own_slice HJ.out.own
   subst ev
   refine region_lit (lit := ?lit) 6 [[],[0],[],[2],[3],[4]]
    [some (.pointer (some ⟨p3, 1, none⟩)), some (.slice Av ((rivers.map (·.f0)).take k).length cv), some (.pointer (some ⟨p5, 0, none⟩)), some (.slice A0 row.length c0), none, none]
    (fun b u W => Aside0 (BMem W0 W row (b 4) (b 5) (u 4) (u 5))) ?hlit (by kernel_rfl) (by kernel_rfl) (by decide) ?_ ?_ ?_ ?_ ?_
   case hlit =>
    intro u
    simp only [List.take_succ_cons, List.take_zero, List.map_cons, List.map_nil, setAll, Nat.reduceAdd, Act.put, List.setIfInBounds_toArray, List.set_cons_succ, List.set_cons_zero]
    try rfl
   ·intro u w2 hw
    exact zk ⟨hw.below _, fun h => (by cases h), fun h => (by cases h)⟩
   ·intro i v b u W hv h
    have h4 : (4 : Nat) ≠ i := by rintro rfl; cases hv
    have h5 : (5 : Nat) ≠ i := by rintro rfl; cases hv
    rw [upd_ne h4, upd_ne h5, upf_ne h4, upf_ne h5]
    exact h
   ·intro i o v hi ho hv b u W hM hdep hd
    have H3W := zk (blk_below HJ.out.h3 hM.out.b)
    obtain ⟨c_p3_0, f_p3_0, c_p3_1, f_p3_1, l_p3⟩ := cl2 (W := W) (p := p3) (a := .slice none 0 0) (b := .slice Av ((rivers.map (·.f0)).take k).length cv) H3W.out
    have H5W := zk (blk_below H5.out hM.out.b)
    obtain ⟨c_p5_0, f_p5_0, c_p5_1, f_p5_1, c_p5_2, f_p5_2, l_p5⟩ := cl3 (W := W) (p := p5) (a := .slice A0 row.length c0) (b := .int .i64 (rd_T43 rivers k).f1) (c := .int .i64 (rd_T43 rivers k).f2) H5W.out
    clear H3W H5W hM hdep
    replace hi : i < 6 := hi
    match i, hi with
    |0, _ =>
     cases ho
     cases zs hv
     clear hd hv
     go_wp2
     exact zt
    |1, _ =>
     cases ho
     cases zs hv
     have e0 := hd 0 _ (by decide) rfl
     clear hd hv
     go_wp2
     exact zt
    |2, _ =>
     cases ho
     cases zs hv
     clear hd hv
     go_wp2
     exact zt
    |3, _ =>
     cases ho
     cases zs hv
     have e2 := hd 2 _ (by decide) rfl
     clear hd hv
     go_wp2
     exact zt
    |4, _ =>
     cases hv
    |5, _ =>
     cases hv
   ·intro i o hi ho hv b u W hM hb hdep hq hd
    match i, hi with
    |0, _ => cases hv
    |1, _ => cases hv
    |2, _ => cases hv
    |3, _ => cases hv
    |4, _ =>
     cases ho
     have e3 := hd 3 _ (by decide) rfl
     have h5 : b 5 = false := hq 5 (by decide) (by decide)
     replace h5 := zk h5
     clear hd hv hq hdep hb
     go_wp2_with (go_at_call 88; (with_reducible refine (clone88 _ _ _ _ _ (HR0.out.below hM.out.b) (by omega)).mono ?_); rintro e w' ⟨v, rfl, hown, hB'⟩)
     obtain ⟨A, c, rfl, hn, hle, hF⟩ := own47_F hown
     refine ⟨.slice A row.length c, by simp [upf, e3], zk ⟨bt hM.out.b hB', fun _ => ⟨A, c, rfl, hle, Kd.F_mono hF (fun k' hk' => Nat.le_trans hM.out.b.size (own_base hown k' hk'.symm))⟩, fun h => ?_⟩⟩
     have h' : b 5 = true := h
     rw [h5.out] at h'
     cases h'
    |5, _ =>
     cases ho
     obtain ⟨A, c, e4, hle, hF⟩ := hM.out.m4 (hdep 4 (by decide))
     clear hd hv hq hdep hb
     go_wp2
     refine ⟨.slice (some ⟨W.heap.size, 0, none⟩) 1 1, by simp [upf, e4], zk ⟨bt hM.out.b (below1 _), fun _ => ⟨A, c, e4, hle, Kd.F_alloc hF _⟩, fun _ => ⟨W.heap.size, rfl, ?_⟩⟩⟩
     have := blk_new W (.cells #[u 4] 41)
     simpa [upf, e4] using this
    |j + 6, hi => exact absurd hi (by omega)
   ·intro b u W hall hM hd
    obtain ⟨A, c, e4, hle, hF⟩ := hM.out.m4 (hall 4 (by decide))
    obtain ⟨g, e5, hg5⟩ := hM.out.m5 (hall 5 (by decide))
    have e1 := hd 1 _ (by decide) rfl
    clear hd hall
    obtain ⟨i0, hi, hzz⟩ := Option.map_eq_some_iff.1 info41'
    simp only [Prod.mk.injEq] at hzz
    obtain ⟨hz0, hz1, hz2⟩ := hzz
    have HI := zk (And.intro hi (And.intro hz0 (And.intro hz1 hz2)))
    clear hi hz0 hz1 hz2
    have HJW := zk (HJ.out.step hM.out.b)
    have hkl : ((rivers.map (·.f0)).take k).length = k := by simp; omega
    have HKL := zk hkl
    have HC := zk (show ∀ (j : Nat) (u' : Value), [u 4][j]? = some u' → W.cell? ((⟨g, 0, none⟩ : Addr).add j) = some u' from fun j u' hj => by
     rw [add_plain]
     match j, hj with
     |0, hj => cases hj; exact blk_cell hg5 0)
    simp only [List.drop]
    refine wpList_append_own_at _ rfl (.tmp 15) (.tmp 19) 64 rfl w.heap.size 41 i0 _ 1 24 Tryz.underlying64 HI.out.1 HI.out.2.1 HI.out.2.2.1 HI.out.2.2.2 rfl (by decide) _ _ cells e1 HJW.out.own ⟨g, 0, none⟩ 1 1 [u 4] e5 rfl HC.out (by intro u' hu'; simp at hu'; rw [hu', e4]; rfl) (by simp only [maxLen]; omega) (by omega) HJW.out.b.size ?_
    intro v20 W2 hown hg _ hat
    have hP := zk (HJW.out.push row (u 4) hg hat hown (by
     rw [e4]
     refine Kd.FK_slice_mk hle (Kd.F_mono hF (fun k' hk' => ⟨Nat.le_trans HJ.out.b.size hk', ?_, ?_, ?_⟩))
     ·have := blk_lt HJ.out.h2; omega
     ·have := blk_lt HJ.out.h3; omega
     ·intro e; have := own_lt HJ.out.own k' e.symm; omega))
    have h3W := zk (blk_grown HJW.out.h3 hg (own_ne HJW.out.own HJW.out.h3 (by decide)))
    obtain ⟨c_p3_0, f_p3_0, c_p3_1, f_p3_1, l_p3⟩ := cl2 (W := W2) (p := p3) (a := .slice none 0 0) (b := .slice Av ((rivers.map (·.f0)).take k).length cv) h3W.out
    obtain ⟨A20, c20, rfl⟩ := own_slice hown
    clear hown hg hat hF HC HI hg5 hM HJ HJW HR0
    go_wp2
    go_roundg (rivers.length - (k + 1))
    case measure => omega
    case rel =>
     refine ⟨k + 1, .slice A20 (k + 1) c20, cells ++ [u 4], by omega, by omega, by go_num, ?_⟩
     have hp := hP.out
     rw [HKL.out] at hp
     have et : (rivers.map (·.f0)).take (k + 1) = (rivers.map (·.f0)).take k ++ [row] := by
      rw [List.take_add_one, ER.out]
      simp [rd_T43, List.getD_eq_getElem?_getD, hlt]
     rw [et]
     exact ⟨hp⟩
  ·have hltz : decide ((k : Int) < rivers.length) = false := by simp; omega
   obtain rfl : k = rivers.length := by omega
   have ht : (rivers.map (·.f0)).take rivers.length = rivers.map (·.f0) := List.take_of_length_le (by simp)
   rw [ht] at HI
   obtain ⟨A, c, ev, hle, hF⟩ := own_F (d := Kd.slice 47 k47) HI.out.own HI.out.reps rfl
   subst ev
   have H2 := zk HI.out.h2
   have H3 := zk HI.out.h3
   have hne := HI.out.lo.2.2
   have hne' := hne.symm
   have HF := zk hF
   obtain ⟨c_p2_0, f_p2_0, c_p2_1, f_p2_1, l_p2⟩ := cl2 (W := wr) (p := p2) (a := .slice none 0 0) (b := .slice none 0 0) H2.out
   obtain ⟨c_p3_0, f_p3_0, c_p3_1, f_p3_1, l_p3⟩ := cl2 (W := wr) (p := p3) (a := .slice none 0 0) (b := .slice A (rivers.map (·.f0)).length c) H3.out
   clear hF ht
   go_wp2
   have hbf := (HI.out.b.setCell (p := ⟨p2, 0, none⟩) HI.out.lo.1 (.slice none 0 0)).setCell (p := ⟨p2, 1, none⟩) HI.out.lo.1 (.slice A (rivers.map (·.f0)).length c)
   have hFf : Kd.F (Kd.slice 47 k47) ((wr.setCell ⟨p2, 0, none⟩ (.slice none 0 0)).setCell ⟨p2, 1, none⟩ (.slice A (rivers.map (·.f0)).length c)) (fun k => w.heap.size ≤ k) A (rivers.map (·.f0)).length (rivers.map (·.f0)) := by
    have n2 := own_ne HI.out.own HI.out.h2 (by decide)
    have h1 := Kd.F_far (p := ⟨p2, 0, none⟩) HF.out (fun k hk => by rcases hk with hk | hk; exact hk.2.1; intro e; exact n2 (by rw [← hk, e])) (.slice none 0 0)
    have h2 := Kd.F_far (p := ⟨p2, 1, none⟩) h1 (fun k hk => by rcases hk with hk | hk; exact hk.2.1; intro e; exact n2 (by rw [← hk, e])) (.slice A (rivers.map (·.f0)).length c)
    exact Kd.F_mono h2 (fun k hk => by rcases hk with hk | hk; exact hk.1; exact own_base HI.out.own k hk.symm)
   have hlm : (rivers.map (·.f0)).length = rivers.length := by simp
   rw [hlm] at hle hFf hbf
   have hfin := HQ.out _ A c hbf hle hFf
   refine bodyPost_ret (results_cell_row rfl _ _ p2 149 #[.slice none 0 0, .slice A rivers.length c] (0, 0) _ rfl ?_ Tryz.underlying149 rfl (by kernel_rfl)) rfl ?_
   ·have := blk_put (blk_put H2.out 0 (.slice none 0 0) rfl) 1 (.slice A (rivers.map (·.f0)).length c) rfl
    simpa using this
   ·simpa using hfin
end Go.Proofs.YtfijblhfgfefoaaGreatDoor.Rv
end
section
namespace Go.Proofs.YtfijblhfgfefoaaGreatDoor.Rv
open Go.RowKit Go.Shelf Go.IntWalk Go.Proofs.YtfijblhfgfefoaaGreatDoor.PAll Go.Proofs.YtfijblhfgfefoaaGreatDoorW.PrintWords Go.Proofs.YtfijblhfgfefoaaGreatDoorW.PrintLast
theorem with_results (tm : Array Value) (W : World) (p8 p9 : Nat) (v0 v1 : Value) (c : Bool) (h8 : tm.getD 8 undef = .pointer (some ⟨p8, 0, none⟩)) (h9 : tm.getD 9 undef = .pointer (some ⟨p9, 0, none⟩))
 (H8 : W.heap[p8]? = some (.cells #[v0, v1] 149 (0, 0))) (H9 : W.heap[p9]? = some (.cells #[.bool c] 4 (0, 0))) :
 (results Tryz.f143 tm).run Tryz.prog W = .ok (.tuple #[.agg #[v0, v1], .bool c]) W := by
 have hp : tm[8]?.getD undef = .pointer (some ⟨p8, 0, none⟩) := by simpa using h8
 have hp' : tm[9]?.getD undef = .pointer (some ⟨p9, 0, none⟩) := by simpa using h9
 have hc : W.cell? ⟨p9, 0, none⟩ = some (.bool c) := blk_cell H9 0
 have h80 : W.cell? ⟨p8, 0, none⟩ = some v0 := blk_cell H8 0
 have h81 : W.cell? ⟨p8, 1, none⟩ = some v1 := blk_cell H8 1
 have hu149 := Tryz.underlying149
 have hu := Tryz.underlying4
 have hrs : Tryz.f143.results = #[.cell 8 149, .cell 9 4] := rfl
 simp [results, hrs, hp, hp', asAddr, go_sem, hc, hu, h80, h81, hu149]
set_option maxRecDepth 100000 in
theorem with_done (tm : Array Value) (W : World) (p8 p9 : Nat) (v0 v1 : Value) (c : Bool) (R : Ending → World → Prop) (h8 : tm.getD 8 undef = .pointer (some ⟨p8, 0, none⟩)) (h9 : tm.getD 9 undef = .pointer (some ⟨p9, 0, none⟩))
 (H8 : W.heap[p8]? = some (.cells #[v0, v1] 149 (0, 0))) (H9 : W.heap[p9]? = some (.cells #[.bool c] 4 (0, 0))) (hR : R (.returned (.tuple #[.agg #[v0, v1], .bool c])) W) :
 Leaves Tryz.prog Tryz.f143 tm R [{ target := .fn (.func 179) #[.pointer (some ⟨p8, 0, none⟩), .pointer (some ⟨p9, 0, none⟩)], args := #[] }] .returning W := by
 refine leaves_cons (f := 179) (args := #[.pointer (some ⟨p8, 0, none⟩), .pointer (some ⟨p9, 0, none⟩)]) (by simp) rfl ?_
 refine (catch_idle p8 p9 W).mono ?_
 rintro e u' w' ⟨rfl, rfl, rfl⟩
 exact ⟨_, with_results tm _ p8 p9 v0 v1 c h8 h9 H8 H9, hR⟩
set_option maxRecDepth 100000 in
theorem with_panics (tm : Array Value) (W : World) (p8 p9 : Nat) (v0 v1 v2 : Value) (r y : Int) (R : Ending → World → Prop) (h8 : tm.getD 8 undef = .pointer (some ⟨p8, 0, none⟩)) (h9 : tm.getD 9 undef = .pointer (some ⟨p9, 0, none⟩))
 (H8 : W.heap[p8]? = some (.cells #[v0, v1] 149 (0, 0))) (H9 : W.heap[p9]? = some (.cells #[v2] 4 (0, 0)))
 (hR : ∀ W', Chg (fun k => k = p8 ∨ k = p9) W W' → R (.returned (.tuple #[.agg #[.slice none 0 0, .slice none 0 0], .bool false])) W') :
 Leaves Tryz.prog Tryz.f143 tm R [{ target := .fn (.func 179) #[.pointer (some ⟨p8, 0, none⟩), .pointer (some ⟨p9, 0, none⟩)], args := #[] }] (.panicking [{ v := .iface 245 (.agg #[.int .i64 r, .int .i64 y]), recovered := false }]) W := by
 refine leaves_cons (f := 179) (args := #[.pointer (some ⟨p8, 0, none⟩), .pointer (some ⟨p9, 0, none⟩)]) (by simp) rfl ?_
 refine (catch_panicking p8 p9 _ r y rfl [] W v0 v1 v2 H8 H9).mono ?_
 rintro e u' w' ⟨rfl, rfl, hc, h8', h9'⟩
 exact ⟨_, with_results tm _ p8 p9 _ _ false h8 h9 h8' h9', hR w' hc⟩
end Go.Proofs.YtfijblhfgfefoaaGreatDoor.Rv
end
