/- A part of the proof: words, contracts of functions, and their walks. -/
import Derived.Test.YtfijblhfgfefoaaGreatDoorQLess3
import Derived.Test.YtfijblhfgfefoaaGreatDoorQLess12
set_option linter.unusedVariables false
set_option linter.unusedSimpArgs false
section
namespace Go.Proofs.YtfijblhfgfefoaaGreatDoor.Rv
open Go.RowKit Go.Shelf Go.IntWalk Go.Proofs.YtfijblhfgfefoaaGreatDoor.PAll Go.Proofs.YtfijblhfgfefoaaGreatDoorW.PrintWords Go.Proofs.YtfijblhfgfefoaaGreatDoorW.PrintLast
attribute [local go_sem] Oper.semAt_some wide_fn wide_depth
def Yielded (J Jx : List St → (Nat → Prop) → World → Prop) (pre : List St) (own : Nat → Prop) (W : World) (e : Ending) (W' : World) : Prop :=
 ∃ own', Moved own W own' W' ∧ ((e = .returned (.bool true) ∧ J pre own' W') ∨ (e = .returned (.bool false) ∧ Jx pre own' W'))
def Searched (J Jx : List St → (Nat → Prop) → World → Prop) (pre : List St) (own : Nat → Prop) (W : World) (e : Ending) (W' : World) : Prop :=
 ∃ own', Moved own W own' W' ∧ ((e = .returned (.bool true) ∧ J pre own' W') ∨ (e = .returned (.bool false) ∧ ∃ pre', Jx pre' own' W'))
structure Eats (s : Sk) (l N : Nat) (all : List St) (J Jx : List St → (Nat → Prop) → World → Prop) : Prop where
 lt : ∀ pre own W, J pre own W → ∀ k, own k → k < W.heap.size
 stab : ∀ pre own W W2, J pre own W → Chg (fun k => N ≤ k ∧ ¬ own k) W W2 → J pre own W2
 stabx : ∀ pre own W W2, Jx pre own W → Chg (fun k => N ≤ k ∧ ¬ own k) W W2 → Jx pre own W2
 ltx : ∀ pre own W, Jx pre own W → ∀ k, own k → k < W.heap.size
 eat : ∀ m pre x own W A A' c c', J pre own W → x ∈ all → SAt own W.heap.size W x A A' c c' → YieldAt Fence.wide m Tryz.prog l #[stV x A A' c c'] W (Yielded J Jx (pre ++ [x]) own W)
theorem search_results (tm : Array Value) (W : World) (p5 : Nat) (c : Bool) (h5 : tm.getD 5 undef = .pointer (some ⟨p5, 0, none⟩)) (H5 : W.heap[p5]? = some (.cells #[.bool c] 4 (0, 0))) :
 (results Tryz.f141 tm).run Tryz.prog W = .ok (.bool c) W := by
 have hp : tm[5]?.getD undef = .pointer (some ⟨p5, 0, none⟩) := by simpa using h5
 have hc : W.cell? ⟨p5, 0, none⟩ = some (.bool c) := blk_cell H5 0
 have hu := Tryz.underlying4
 have hrs : Tryz.f141.results = #[.cell 5 4] := rfl
 simp [results, hrs, hp, asAddr, go_sem, hc, hu]
theorem search_ret {m : Nat} {tm : Array Value} {W : World} {R : Ending → World → Prop} (p5 : Nat) (c : Bool) (h5 : tm.getD 5 undef = .pointer (some ⟨p5, 0, none⟩)) (H5 : W.heap[p5]? = some (.cells #[.bool c] 4 (0, 0))) (hR : R (.returned (.bool c)) W) :
 LeavesInM Fence.wide m Tryz.prog Tryz.f141 tm R [] .returning W := ⟨_, search_results tm W p5 c h5 H5, hR⟩
theorem search_ret1 {m : Nat} {tm : Array Value} {W : World} {R : Ending → World → Prop} (p5 D : Nat) (c : Bool) (h5 : tm.getD 5 undef = .pointer (some ⟨p5, 0, none⟩)) (H5 : W.heap[p5]? = some (.cells #[.bool c] 4 (0, 0))) (HD : W.heap[D]? = some (.deferred (some []))) (hne : p5 ≠ D) (hR : R (.returned (.bool c)) (W.putObj D (.deferred none))) :
 LeavesInM Fence.wide m Tryz.prog Tryz.f141 tm R [{ target := .collected D, args := #[] }] .returning W :=
 ⟨by simp, .inl ⟨D, _, rfl, run_takeDeferred HD, search_ret p5 c h5 ((World.putObj_heap_other hne).trans H5) hR⟩⟩
def Ft (own : Nat → Prop) (N M g : Nat) (b12 : Bool) : Nat → Prop := fun k => Low own N k ∨ (M ≤ k ∧ (b12 = true → k ≠ g))
structure SMem (s : Sk) (x : St) (sh : S45) (o : S27) (own : Nat → Prop) (N : Nat) (W0 : World) (A3 : Option Addr) (n3 c3 : Nat) (A4 : Option Addr) (n4 c4 : Nat) (bb : Bool) (g : Nat) (b8 b9 b10 b11 b12 b13 : Bool) (u8 u9 u10 u11 u12 : Value) (W : World) : Prop where
 b : Below W0.heap.size W0 W
 m8 : b8 = true → u8 = .tuple #[.agg #[.slice A3 n3 c3, .slice A4 n4 c4], .bool bb] ∧ WithIs s x sh o (Ft own N W0.heap.size g b12) A3 n3 c3 A4 n4 c4 bb W
 m9 : b9 = true → u9 = .tuple #[.agg #[.slice A3 n3 c3, .slice A4 n4 c4], .bool bb]
 m10 : b10 = true → u10 = .agg #[.slice A3 n3 c3, .slice A4 n4 c4]
 m11 : b11 = true → u11 = .bool bb
 m12 : b12 = true → u12 = .pointer (some ⟨g, 0, none⟩) ∧ W0.heap.size ≤ g ∧ (b13 = false → W.heap[g]? = some (.cells #[.slice none 0 0, .slice none 0 0] 149 (0, 0))) ∧ (b13 = true → W.heap[g]? = some (.cells #[.slice A3 n3 c3, .slice A4 n4 c4] 149 (0, 0)))
set_option maxRecDepth 100000 in
set_option maxHeartbeats 2000000 in
theorem search_calls (s : Sk) (hs : Good s) (B1 B2 B3 l N : Nat) (all : List St) (J Jx : List St → (Nat → Prop) → World → Prop) (HE : Eats s l N all J Jx) :
 ∀ (d : Nat) (x : St) (A A' : Option Addr) (c c' : Nat) (pre : List St) (own : Nat → Prop) (W : World) (m : Nat), N ≤ W.heap.size → x.1.length + d = s.shells.length → WFst s x → Env s B1 B2 B3 l own W.heap.size W → SAt own W.heap.size W x A A' c c' → J pre own W →
  (∀ t ∈ truthsFrom s.years s.rivers s.shells s.tests d x, t ∈ all) →
  CallsIn Fence.wide m Tryz.prog 141 #[stV x A A' c c', .pointer (some ⟨B1, 0, none⟩), .pointer (some ⟨B2, 0, none⟩), .pointer (some ⟨B3, 0, none⟩)] W (Searched J Jx (pre ++ truthsFrom s.years s.rivers s.shells s.tests d x) own W) := by
 intro d
 induction d with
 |zero =>
  intro x A A' c c' pre own W m hN hd hwf hE hS hJ hall
  have HN := zk hN
  clear hN
  have HEV := zk hE
  have HSV := zk hS
  have HJ := zk hJ
  have HALL := zk (hall x (by simp [truthsFrom]))
  have hlen : x.1.length = s.shells.length := by omega
  clear hE hS hJ hall
  have hu138 := Tryz.underlying138
  have hu149 := Tryz.underlying149
  refine callsIn_of_wp_marks Tryz.func141 rfl trivial ?_ rfl
  simp only [Tryz.ntmps141, List.size_toArray, List.length_cons, List.length_nil, Nat.reduceAdd, Nat.reduceSub, Array.replicate_succ, Array.replicate_zero, List.push_toArray, List.append_toArray, List.nil_append, List.cons_append, stV]
  have H1 := zk HEV.out.b1
  have H2 := zk HEV.out.b2
  unfold Sk.cells at H1
  obtain ⟨c_B1_0, f_B1_0, c_B1_1, f_B1_1, c_B1_2, f_B1_2, c_B1_3, f_B1_3, l_B1⟩ := cl4 (W := W) (p := B1) (a := .int .i64 s.years) (b := .slice s.A1 s.rivers.length s.c1) (c := .slice s.A2 s.shells.length s.c2) (d := .slice s.A3 s.tests.length s.c3) H1.out
  obtain ⟨c_B2_0, f_B2_0, l_B2⟩ := cl1 (W := W) (p := B2) (a := .func (.yield l) #[] #[]) H2.out
  have hb0 : decide ((x.1.length : Int) = s.shells.length) = true := by simp [hlen]
  have hbe : ((x.1.length : Int) == (s.shells.length : Int)) = true := by simp [hlen]
  replace hlen := zk hlen
  replace hd := zk hd
  have q1 : B1 < W.heap.size + 1 := by omega
  have q2 : B1 < W.heap.size + 1 + 1 := by omega
  have q3 : B2 < W.heap.size + 1 := by omega
  have q4 : B2 < W.heap.size + 1 + 1 := by omega
  have HB := zk (((below1 (w := W) (.cells #[.slice A x.1.length c, .slice A' x.2.length c'] 149)).alloc (by simp) (.cells #[.bool false] 4)).alloc (by simp; omega) (.cells #[.int .i64 x.1.length] 3))
  have b5 := blk_alloc (blk_new (W.alloc (.cells #[.slice A x.1.length c, .slice A' x.2.length c'] 149)) (.cells #[.bool false] 4)) (.cells #[.int .i64 x.1.length] 3)
  simp only [World.size_alloc] at b5
  obtain ⟨W1, hW1⟩ : ∃ W1, W1 = ((W.alloc (.cells #[.slice A x.1.length c, .slice A' x.2.length c'] 149)).alloc (.cells #[.bool false] 4)).alloc (.cells #[.int .i64 x.1.length] 3) := ⟨_, rfl⟩
  have HM := zk (Moved.of_below (own := own) HB.out)
  rw [← hW1] at HM b5
  obtain ⟨fn, tmps, assign, body, hyield, hRd⟩ := HE.eat (m - 1) pre x own W1 A A' c c' (HE.stab _ _ _ _ HJ.out (by rw [hW1]; exact Chg.fresh HB.out)) HALL.out ((HSV.out.moved HM.out).raise HM.out.size)
  unfold stV at hyield
  have HRd := zk hRd
  have H5 := zk b5
  rw [hW1] at hyield
  have HW1 := zk hW1
  clear hRd H1 H2 b5 hW1
  gi_wp2
  rw [← HW1.out]
  refine HRd.out.mono ?_
  rintro e W3 ⟨own', hm, h⟩
  obtain ⟨H53, hn5⟩ := hm.stay H5.out (fun h => by have := HE.lt _ _ _ HJ.out _ h; omega)
  have HM3 := zk (HM.out.trans hm)
  have H53 := zk H53
  have c5 : W3.cell? ⟨W.heap.size + 1, 0, none⟩ = some (.bool false) := blk_cell H53.out 0
  have f5 : W3.frozen? ⟨W.heap.size + 1, 0, none⟩ = false := blk_frozen H53.out 0
  have l5 := blk_lt H53.out
  have hMf : ∀ u, Moved own W own' (W3.setCell ⟨W.heap.size + 1, 0, none⟩ u) := fun u => HM3.out.below ((Below.refl _ _).setCell (p := ⟨W.heap.size + 1, 0, none⟩) (by simp) u)
  have hst : ∀ u, Chg (fun k => N ≤ k ∧ ¬ own' k) W3 (W3.setCell ⟨W.heap.size + 1, 0, none⟩ u) := fun u => (Chg.refl _ _).setCell (p := ⟨W.heap.size + 1, 0, none⟩) ⟨by have := HN.out; show N ≤ W.heap.size + 1; omega, hn5⟩ u
  have HMf := zk hMf
  have Hst := zk hst
  clear hMf hst hm
  rcases h with ⟨rfl, hJ'⟩ | ⟨rfl, hJ'⟩
  ·gi_wp2
   refine search_ret (W.heap.size + 1) true rfl (blk_put H53.out 0 _ rfl) ⟨own', HMf.out _, .inl ⟨rfl, ?_⟩⟩
   simp only [truthsFrom]
   exact HE.stab _ _ _ _ hJ' (Hst.out _)
  ·gi_wp2
   refine search_ret (W.heap.size + 1) false rfl (blk_put H53.out 0 _ rfl) ⟨own', HMf.out _, .inr ⟨rfl, pre ++ [x], HE.stabx _ _ _ _ hJ' (Hst.out _)⟩⟩
 |succ d ih =>
  intro x A A' c c' pre own W m hN hd hwf hE hS hJ hall
  have HN := zk hN
  clear hN
  have HEV := zk hE
  have HSV := zk hS
  have HJ := zk hJ
  have HALL := zk hall
  have hlt : x.1.length < s.shells.length := by omega
  have IH := zk ih
  clear ih
  clear hE hS hJ hall
  have hu138 := Tryz.underlying138
  have hu149 := Tryz.underlying149
  refine callsIn_of_wp_marks Tryz.func141 rfl trivial ?_ rfl
  simp only [Tryz.ntmps141, List.size_toArray, List.length_cons, List.length_nil, Nat.reduceAdd, Nat.reduceSub, Array.replicate_succ, Array.replicate_zero, List.push_toArray, List.append_toArray, List.nil_append, List.cons_append, stV]
  have H1 := zk HEV.out.b1
  unfold Sk.cells at H1
  obtain ⟨c_B1_0, f_B1_0, c_B1_1, f_B1_1, c_B1_2, f_B1_2, c_B1_3, f_B1_3, l_B1⟩ := cl4 (W := W) (p := B1) (a := .int .i64 s.years) (b := .slice s.A1 s.rivers.length s.c1) (c := .slice s.A2 s.shells.length s.c2) (d := .slice s.A3 s.tests.length s.c3) H1.out
  have hne0 : ¬ (x.1.length : Int) = s.shells.length := by omega
  have hb0 : decide ((x.1.length : Int) = s.shells.length) = false := by simp; omega
  have hbe : ((x.1.length : Int) == (s.shells.length : Int)) = false := by simp; omega
  replace hd := zk hd
  have q1 : B1 < W.heap.size + 1 := by omega
  have q2 : B1 < W.heap.size + 1 + 1 := by omega
  have HB := zk (((below1 (w := W) (.cells #[.slice A x.1.length c, .slice A' x.2.length c'] 149)).alloc (by simp) (.cells #[.bool false] 4)).alloc (by simp; omega) (.cells #[.int .i64 x.1.length] 3))
  have b4 := blk_alloc (blk_alloc (blk_new W (.cells #[.slice A x.1.length c, .slice A' x.2.length c'] 149)) (.cells #[.bool false] 4)) (.cells #[.int .i64 x.1.length] 3)
  have b5 := blk_alloc (blk_new (W.alloc (.cells #[.slice A x.1.length c, .slice A' x.2.length c'] 149)) (.cells #[.bool false] 4)) (.cells #[.int .i64 x.1.length] 3)
  have b6 := blk_new ((W.alloc (.cells #[.slice A x.1.length c, .slice A' x.2.length c'] 149)).alloc (.cells #[.bool false] 4)) (.cells #[.int .i64 x.1.length] 3)
  simp only [World.size_alloc] at b5 b6
  have HM := zk (Moved.of_below (own := own) HB.out)
  gi_wp2
  clear H1
  clear c_B1_0 f_B1_0 c_B1_1 f_B1_1 c_B1_2 f_B1_2 c_B1_3 f_B1_3 l_B1
  clear q1 q2 hb0 hbe hne0
  generalize ((W.alloc (.cells #[.slice A x.1.length c, .slice A' x.2.length c'] 149)).alloc (.cells #[.bool false] 4)).alloc (.cells #[.int .i64 x.1.length] 3) = W1 at HB b4 b5 b6 HM ⊢
  obtain ⟨p6, e6⟩ : ∃ p6, p6 = W.heap.size + 1 + 1 := ⟨_, rfl⟩
  obtain ⟨p5, e5⟩ : ∃ p5, p5 = W.heap.size + 1 := ⟨_, rfl⟩
  obtain ⟨p4, e4⟩ : ∃ p4, p4 = W.heap.size := ⟨_, rfl⟩
  rw [← e6] at b6
  rw [← e5] at b5
  rw [← e4] at b4
  rw [← e6, ← e5, ← e4]
  have H4 := zk b4
  have H5 := zk b5
  have H6 := zk b6
  have LO := zk (show W.heap.size ≤ p4 ∧ W.heap.size ≤ p5 ∧ W.heap.size ≤ p6 ∧ p4 ≠ p5 ∧ p4 ≠ p6 ∧ p5 ≠ p6 from by omega)
  clear b4 b5 b6 e4 e5 e6
  have HEV1 := zk (HEV.out.moved HM.out)
  have HSV1 := zk (HSV.out.moved HM.out)
  obtain ⟨ad, A0, c0, hA2, d0, d1, hl0, hC0⟩ := at_T45 (Kd.F_now HEV1.out.f2) (x.1.length : Int) (by omega) (by omega)
  obtain ⟨sh, esh⟩ : ∃ sh, sh = s.shells.getD x.1.length z45 := ⟨_, rfl⟩
  have ers : rd_T45 s.shells (x.1.length : Int) = sh := by rw [esh]; simp [rd_T45]
  rw [ers] at d0 d1 hl0 hC0
  simp only [Int.toNat_natCast] at d0 d1
  have ESH := zk esh
  have D0 := zk d0
  have D1 := zk d1
  have HC0 := zk hC0
  have HA2 := zk hA2
  clear ers esh d0 d1 hC0
  rw [hA2]
  clear hA2
  have hlti : (x.1.length : Int) < s.shells.length := by omega
  have hu45 := Tryz.underlying45
  refine region_litIn (lit := ?lit) 6 [[],[],[1],[],[2,3],[4]]
   [some (.agg #[.int .i64 s.years, .slice s.A1 s.rivers.length s.c1, .slice (some ad) s.shells.length s.c2, .slice s.A3 s.tests.length s.c3]), some (.pointer (some ⟨B1, 2, none⟩)), some (.slice (some ad) s.shells.length s.c2), some (.int .i64 x.1.length), some (.pointer (some (ad.add (x.1.length * 2)))), some (.agg #[.slice A0 sh.f0.length c0, .int .i64 sh.f1])]
   (fun b u W' => Aside0 (Below W1.heap.size W1 W')) ?hlit (by kernel_rfl) (by kernel_rfl) (by decide) ?_ ?_ ?_ ?_ ?_
  case hlit =>
   intro u
   simp only [List.take_succ_cons, List.take_zero, List.map_cons, List.map_nil, setAll, Nat.reduceAdd, Act.put, List.setIfInBounds_toArray, List.set_cons_succ, List.set_cons_zero]
   try rfl
  ·intro u w2 hw
   exact zk (hw.below _)
  ·intro i' v b u W' hv h
   exact h
  ·intro i o' v hi ho hv b u W' hM hdep hd'
   have hd := hd'
   clear hd'
   have H1W := zk (blk_below HEV1.out.b1 hM.out)
   unfold Sk.cells at H1W
   rw [HA2.out] at H1W
   obtain ⟨c_B1_0, f_B1_0, c_B1_1, f_B1_1, c_B1_2, f_B1_2, c_B1_3, f_B1_3, l_B1⟩ := cl4 (W := W') (p := B1) (a := .int .i64 s.years) (b := .slice s.A1 s.rivers.length s.c1) (c := .slice (some ad) s.shells.length s.c2) (d := .slice s.A3 s.tests.length s.c3) H1W.out
   have H6W := zk (blk_below H6.out hM.out)
   obtain ⟨c_p6_0, f_p6_0, l_p6⟩ := cl1 (W := W') (p := p6) (a := .int .i64 x.1.length) H6W.out
   have cd0 := pw_cell_below hM.out D0.out
   have cd1 := pw_cell_below hM.out D1.out
   clear H1W H6W hM hdep
   replace hi : i < 6 := hi
   match i, hi with
   |0, _ =>
    cases ho
    cases zs hv
    clear hd hv
    gi_wp2
    exact zt
   |1, _ =>
    cases ho
    cases zs hv
    clear hd hv
    gi_wp2
    exact zt
   |2, _ =>
    cases ho
    cases zs hv
    have e1 := hd 1 _ (by decide) rfl
    clear hd hv
    gi_wp2
    exact zt
   |3, _ =>
    cases ho
    cases zs hv
    clear hd hv
    gi_wp2
    exact zt
   |4, _ =>
    cases ho
    cases zs hv
    have e2 := hd 2 _ (by decide) rfl
    have e3 := hd 3 _ (by decide) rfl
    clear hd hv
    gi_wp2
    exact zt
   |5, _ =>
    cases ho
    cases zs hv
    have e4 := hd 4 _ (by decide) rfl
    clear hd hv
    gi_wp2
    exact zt
  ·intro i o' hi ho hv
   match i, hi with
   |0, _ => cases hv
   |1, _ => cases hv
   |2, _ => cases hv
   |3, _ => cases hv
   |4, _ => cases hv
   |5, _ => cases hv
   |j + 6, hi => exact absurd hi (by omega)
  ·intro b u W' hall' hM hd'
   have e0 := hd' 0 _ (by decide) rfl
   have e5 := hd' 5 _ (by decide) rfl
   have hbw := hM.out
   clear hall' hd' hM
   gi_wp2
   refine (callsIn_wide.2 (origins_calls _ _ _)).mono ?_
   rintro e w' ⟨rfl, rfl⟩
   gi_wp2
   have HWr := zk (((below1 (w := W') (.cells #[.int .i64 s.years, .slice s.A1 s.rivers.length s.c1, .slice (some ad) s.shells.length s.c2, .slice s.A3 s.tests.length s.c3] 138)).alloc (by simp) (.cells #[.slice A0 sh.f0.length c0, .int .i64 sh.f1] 45)))
   have g1 := blk_alloc (blk_new W' (.cells #[.int .i64 s.years, .slice s.A1 s.rivers.length s.c1, .slice (some ad) s.shells.length s.c2, .slice s.A3 s.tests.length s.c3] 138)) (.cells #[.slice A0 sh.f0.length c0, .int .i64 sh.f1] 45)
   have g2 := blk_new (W'.alloc (.cells #[.int .i64 s.years, .slice s.A1 s.rivers.length s.c1, .slice (some ad) s.shells.length s.c2, .slice s.A3 s.tests.length s.c3] 138)) (.cells #[.slice A0 sh.f0.length c0, .int .i64 sh.f1] 45)
   simp only [World.size_alloc] at g2
   generalize (W'.alloc (.cells #[.int .i64 s.years, .slice s.A1 s.rivers.length s.c1, .slice (some ad) s.shells.length s.c2, .slice s.A3 s.tests.length s.c3] 138)).alloc (.cells #[.slice A0 sh.f0.length c0, .int .i64 sh.f1] 45) = Wr at HWr g1 g2 ⊢
   have hkW : W1.heap.size ≤ W'.heap.size := hbw.size
   obtain ⟨k2, ek2⟩ : ∃ k2, k2 = W'.heap.size + 1 := ⟨_, rfl⟩
   obtain ⟨k1, ek1⟩ : ∃ k1, k1 = W'.heap.size := ⟨_, rfl⟩
   rw [← ek2] at g2
   rw [← ek1] at g1
   rw [← ek2, ← ek1]
   have HBr := zk (bt hbw HWr.out)
   have g4 := blk_lt H4.out
   have g5 := blk_lt H5.out
   have g6 := blk_lt H6.out
   have KK := zk (show W1.heap.size ≤ k1 ∧ W1.heap.size ≤ k2 ∧ k1 ≠ k2 ∧ k1 < Wr.heap.size ∧ k2 < Wr.heap.size from ⟨by omega, by omega, by omega, blk_lt g1, blk_lt g2⟩)
   have G1 := zk g1
   have G2 := zk g2
   clear g1 g2 ek1 ek2 hkW
   have hsl : sh ∈ s.shells := by
    rw [ESH.out]
    simp [List.getD_eq_getElem?_getD, hlt]
   have hring := hs.rings sh hsl
   have HLT := zk (HE.lt _ _ _ HJ.out)
   have HMr := zk (HM.out.below (bt hbw HWr.out |>.mono HB.out.size))
   obtain ⟨l2, el2⟩ : ∃ l2, l2 = Wr.heap.size + 1 := ⟨_, rfl⟩
   obtain ⟨dD, eD⟩ : ∃ dD, dD = Wr.heap.size := ⟨_, rfl⟩
   refine range_origins_box (lit := ?lit2) (years := s.years) (off := sh.f1) (A1 := s.A1) (AR := A0) (c1 := s.c1) (cR := c0) (R := s.rivers.length) (nR := sh.f0.length) (V2 := .slice s.A2 s.shells.length s.c2) (V3 := .slice s.A3 s.tests.length s.c3) (k1 := k1) (k2 := k2) rfl hs.rivers hring.2.1 hring.1 hs.years
    (fun pre2 W2 => ∃ own', InS s B1 B2 B3 l W own x A A' c c' sh A0 c0 p4 p5 p6 k1 k2 dD own' W2 ∧ J (pre ++ pre2.flatMap (kids s d x sh)) own' W2 ∧ ¬ own' l2)
    (fun cd pre2 W2 => cd = .ret ∧ ∃ own', Moved own W own' W2 ∧ (∃ pre', Jx pre' own' W2) ∧ W2.heap[p5]? = some (.cells #[.bool false] 4 (0, 0)) ∧ W2.heap[dD]? = some (.deferred (some [])) ∧ ¬ own' p5 ∧ ¬ own' dD ∧ ¬ own' l2)
    ?hI ?hIc ?hIxc ?h0 ?hassign ?hbody ?hdone ?hstop
   case hassign =>
    rintro m' pre2 x2 W2 ob ⟨own', hI, hJ', hl2⟩ hrec K hK
    rw [← el2] at hrec hK
    have hlr := blk_lt hrec
    have hb := below1 (w := W2) (.cells #[.int .i64 x2.f0, .int .i64 x2.f1] 27)
    have hmv : Moved own' W2 own' (W2.alloc (.cells #[.int .i64 x2.f0, .int .i64 x2.f1] 27)) := Moved.of_below hb
    have HK := zk (hK (W2.alloc (.cells #[.int .i64 x2.f0, .int .i64 x2.f1] 27)) ⟨own', hI.moved hmv, HE.stab _ _ _ _ hJ' (Chg.fresh hb), hl2⟩ (blk_alloc hrec _) W2.heap.size (by omega) (blk_new _ _))
    clear hI hJ' hK hb hmv hrec
    gi_wp2
    obtain ⟨b7, e7⟩ : ∃ b7, b7 = W2.heap.size := ⟨_, rfl⟩
    have hk := HK.out
    rw [← e7] at hk ⊢
    exact hk
   case hI =>
    rintro pre2 W2 ⟨own', hI, _, _⟩
    exact ⟨hI.hk1, hI.hk2⟩
   case hIc =>
    rintro pre2 W2 W3 ⟨own', hI, hJ', hl2⟩ hc
    rw [← el2] at hc
    refine ⟨own', hI.put l2 (by have := HM.out.size; have := HBr.out.size; omega) (by have := KK.out; omega) hc, HE.stab _ _ _ _ hJ' (hc.mono (fun i _ e => ⟨by have := HN.out; have := HM.out.size; have := HBr.out.size; omega, by rw [e]; exact hl2⟩)), hl2⟩
   case hIxc =>
    rintro cd pre2 W2 W3 ⟨rfl, own', hm, ⟨pre', hJ'⟩, h5, hD, n5, nD, nl⟩ hc
    rw [← el2] at hc
    refine ⟨rfl, own', hm.below (hc.below (fun i e => by have := HM.out.size; have := HBr.out.size; omega) hm.size), ⟨pre', HE.stabx _ _ _ _ hJ' (hc.mono (fun i _ e => ⟨by have := HN.out; have := HM.out.size; have := HBr.out.size; omega, by rw [e]; exact nl⟩))⟩, ?_, ?_, n5, nD, nl⟩
    ·exact (hc.block _ (blk_lt h5) (by have := KK.out; omega)).trans h5
    ·exact (hc.block _ (blk_lt hD) (by omega)).trans hD
   case h0 =>
    intro ob
    have hb2 : Below Wr.heap.size Wr ((Wr.alloc (.deferred (some []))).alloc (.loop ob)) := (below1 _).alloc (by simp) _
    have hmv := HMr.out.below (hb2.mono HMr.out.size)
    have own_lt : ∀ k, own k → k < W.heap.size := HLT.out
    have sz := HM.out.size
    have kk := KK.out
    refine ⟨own, ⟨hmv, (HEV.out.moved hmv), (HSV.out.moved hmv), ?_, ?_, ?_, ?_, ?_, ?_, ?_, ?_⟩, ?_, ?_⟩
    ·exact blk_alloc (blk_alloc (blk_below H4.out HBr.out) _) _
    ·exact blk_alloc (blk_alloc (blk_below H5.out HBr.out) _) _
    ·exact blk_alloc (blk_alloc (blk_below H6.out HBr.out) _) _
    ·have := blk_alloc (blk_alloc G1.out (.deferred (some []))) (.loop ob)
     unfold Sk.cells
     rw [HA2.out]
     exact this
    ·exact blk_alloc (blk_alloc G2.out _) _
    ·have := blk_alloc (blk_new Wr (.deferred (some []))) (.loop ob)
     rw [eD]
     exact this
    ·have lo := LO.out
     refine ⟨fun h => ?_, fun h => ?_, fun h => ?_, fun h => ?_, fun h => ?_, fun h => ?_⟩ <;> (have := own_lt _ h; omega)
    ·have lo := LO.out
     omega
    ·simpa using HE.stab _ _ _ _ HJ.out (stab_below (bt (bt HB.out HBr.out) hb2))
    ·intro h
     have := own_lt _ h
     omega
   case hbody =>
    rintro m' pre2 o b7 W2 ob ⟨own', hI, hJ', hl2⟩ hb7 hrec hpre
    rw [← el2] at hrec
    have ho : o ∈ originsL s.rivers.length sh.f0.length s.years := hpre.subset (by simp)
    obtain ⟨o0, o1, o2, o3⟩ := mem_originsL ho
    have HO := zk (And.intro o0 (And.intro o1 (And.intro o2 o3)))
    have HI := zk hI
    have HJ2 := zk hJ'
    have H7 := zk hb7
    have HREC := zk hrec
    have HL2 := zk hl2
    have hF1 := Kd.F_now hI.env.f1
    have hF3 := Kd.F_now hI.env.f3
    have hF2 := Kd.F_now hI.env.f2
    rw [HA2.out] at hF2
    have HTS := zk (tested_calls s.years s.A1 (some ad) s.A3 s.c1 s.c2 s.c3 s.rivers s.shells s.tests (x.1.length : Int) o W2 o0 o1 (by omega) hF1 hI.env.c.1 hF2 hI.env.c.2.1 hF3 hI.env.c.2.2)
    have H1W := zk hI.env.b1
    unfold Sk.cells at H1W
    rw [HA2.out] at H1W
    have H6W := zk hI.h6
    clear hI hJ' hb7 hrec hl2 ho o0 o1 o2 o3 hF1 hF2 hF3
    obtain ⟨c_B1_0, f_B1_0, c_B1_1, f_B1_1, c_B1_2, f_B1_2, c_B1_3, f_B1_3, l_B1⟩ := cl4 (W := W2) (p := B1) (a := .int .i64 s.years) (b := .slice s.A1 s.rivers.length s.c1) (c := .slice (some ad) s.shells.length s.c2) (d := .slice s.A3 s.tests.length s.c3) H1W.out
    obtain ⟨c_p6_0, f_p6_0, l_p6⟩ := cl1 (W := W2) (p := p6) (a := .int .i64 x.1.length) H6W.out
    obtain ⟨c_b7_0, f_b7_0, c_b7_1, f_b7_1, l_b7⟩ := cl2 (W := W2) (p := b7) (a := .int .i64 o.f0) (b := .int .i64 o.f1) H7.out
    have hu27 := Tryz.underlying27
    rw [← el2]
    obtain ⟨tb, etb⟩ : ∃ tb, tb = testedB s.rivers s.tests (x.1.length : Int) o := ⟨_, rfl⟩
    rw [← etb] at HTS
    have ETB := zk etb
    clear etb
    cases tb with
    |false =>
     gi_wp2_with (gi_at_call 120; refine (CallsIn.inRound l2 (callsIn_wide.2 HTS.out)).mono ?_; rintro e w' ⟨rfl, hB'⟩)
     refine ⟨blk_below HREC.out hB', own', HI.out.moved (Moved.of_below hB'), ?_, HL2.out⟩
     have hk : kids s d x sh o = [] := by
      unfold kids nextS
      rw [← ETB.out]
      rfl
     rw [List.flatMap_append, List.flatMap_cons, hk]
     simpa using HE.stab _ _ _ _ HJ2.out (stab_below hB')
    |true =>
     gi_wp2_with (gi_at_call 120; refine (CallsIn.inRound l2 (callsIn_wide.2 HTS.out)).mono ?_; rintro e w' ⟨rfl, hB'⟩)
     have hmv : Moved own' W2 own' w' := Moved.of_below hB'
     have HI3 := zk (HI.out.moved hmv)
     have HJ3 := zk (HE.stab _ _ _ _ HJ2.out (stab_below hB'))
     have HR3 := zk (blk_below HREC.out hB')
     have H73 := zk (blk_below H7.out hB')
     obtain ⟨ad', A5, c5, hA2', d0', d1', hl5, hC5⟩ := at_T45 (Kd.F_now HI3.out.env.f2) (x.1.length : Int) (by omega) (by omega)
     rw [HA2.out] at hA2'
     cases hA2'
     have ers : rd_T45 s.shells (x.1.length : Int) = sh := by rw [ESH.out]; simp [rd_T45]
     rw [ers] at d0' d1' hl5 hC5
     simp only [Int.toNat_natCast] at d0' d1'
     have D0' := zk d0'
     have D1' := zk d1'
     have HC5 := zk hC5
     clear ers d0' d1' hC5
     clear HI HJ2 HREC hmv hB' HTS H1W H6W
     clear c_B1_0 f_B1_0 c_B1_1 f_B1_1 c_B1_2 f_B1_2 c_B1_3 f_B1_3 l_B1 c_p6_0 f_p6_0 l_p6 c_b7_0 f_b7_0 c_b7_1 f_b7_1 l_b7
     have L5 : p5 < w'.heap.size := blk_lt HI3.out.h5
     refine region_litIn (lit := ?lit3) 14 [[],[],[],[2],[],[3,4],[5],[],[0,1,6,7],[8],[8,9],[8,9],[],[8,9,10,12]]
      [some (.agg #[.int .i64 s.years, .slice s.A1 s.rivers.length s.c1, .slice (some ad) s.shells.length s.c2, .slice s.A3 s.tests.length s.c3]), some (.agg #[.slice A x.1.length c, .slice A' x.2.length c']), some (.pointer (some ⟨B1, 2, none⟩)), some (.slice (some ad) s.shells.length s.c2), some (.int .i64 x.1.length), some (.pointer (some (ad.add (x.1.length * 2)))), some (.agg #[.slice A5 sh.f0.length c5, .int .i64 sh.f1]), some (.agg #[.int .i64 o.f0, .int .i64 o.f1]), none, none, none, none, none, none]
      (fun b u W' => ∃ A3 n3 c3 A4 n4 c4 bb g, Aside0 (SMem s x sh o own' W.heap.size w' A3 n3 c3 A4 n4 c4 bb g (b 8) (b 9) (b 10) (b 11) (b 12) (b 13) (u 8) (u 9) (u 10) (u 11) (u 12) W')) ?hlit3 (by kernel_rfl) (by kernel_rfl) (by decide) ?_ ?_ ?_ ?_ ?_
     case hlit3 =>
      intro u
      simp only [List.take_succ_cons, List.take_zero, List.map_cons, List.map_nil, setAll, Nat.reduceAdd, Act.put, List.setIfInBounds_toArray, List.set_cons_succ, List.set_cons_zero]
      try rfl
     ·intro u w2 hw
      exact ⟨none, 0, 0, none, 0, 0, false, 0, ⟨⟨hw.below _, fun h => (by cases h), fun h => (by cases h), fun h => (by cases h), fun h => (by cases h), fun h => (by cases h)⟩⟩⟩
     ·rintro i v b u W' hv ⟨A3, n3, c3, A4, n4, c4, bb, g, h⟩
      have h8 : (8 : Nat) ≠ i := by rintro rfl; cases hv
      have h9 : (9 : Nat) ≠ i := by rintro rfl; cases hv
      have h10 : (10 : Nat) ≠ i := by rintro rfl; cases hv
      have h11 : (11 : Nat) ≠ i := by rintro rfl; cases hv
      have h12 : (12 : Nat) ≠ i := by rintro rfl; cases hv
      have h13 : (13 : Nat) ≠ i := by rintro rfl; cases hv
      refine ⟨A3, n3, c3, A4, n4, c4, bb, g, ?_⟩
      rw [upd_ne h8, upd_ne h9, upd_ne h10, upd_ne h11, upd_ne h12, upd_ne h13, upf_ne h8, upf_ne h9, upf_ne h10, upf_ne h11, upf_ne h12]
      exact h
     ·rintro i o' v hi ho' hv b u W' ⟨A3, n3, c3, A4, n4, c4, bb, g, hM⟩ hdep hd
      replace ho := ho'
      have H1W := zk (blk_below HI3.out.env.b1 hM.out.b)
      unfold Sk.cells at H1W
      rw [HA2.out] at H1W
      obtain ⟨c_B1_0, f_B1_0, c_B1_1, f_B1_1, c_B1_2, f_B1_2, c_B1_3, f_B1_3, l_B1⟩ := cl4 (W := W') (p := B1) (a := .int .i64 s.years) (b := .slice s.A1 s.rivers.length s.c1) (c := .slice (some ad) s.shells.length s.c2) (d := .slice s.A3 s.tests.length s.c3) H1W.out
      have H4W := zk (blk_below HI3.out.h4 hM.out.b)
      obtain ⟨c_p4_0, f_p4_0, c_p4_1, f_p4_1, l_p4⟩ := cl2 (W := W') (p := p4) (a := .slice A x.1.length c) (b := .slice A' x.2.length c') H4W.out
      have H6W := zk (blk_below HI3.out.h6 hM.out.b)
      obtain ⟨c_p6_0, f_p6_0, l_p6⟩ := cl1 (W := W') (p := p6) (a := .int .i64 x.1.length) H6W.out
      have H7W := zk (blk_below H73.out hM.out.b)
      obtain ⟨c_b7_0, f_b7_0, c_b7_1, f_b7_1, l_b7⟩ := cl2 (W := W') (p := b7) (a := .int .i64 o.f0) (b := .int .i64 o.f1) H7W.out
      have cd0 := pw_cell_below hM.out.b D0'.out
      have cd1 := pw_cell_below hM.out.b D1'.out
      clear H1W H4W H6W H7W hM hdep ho'
      replace hi : i < 14 := hi
      match i, hi with
      |0, _ =>
       cases ho
       cases zs hv
       clear hd hv
       gi_wp2
       exact zt
      |1, _ =>
       cases ho
       cases zs hv
       clear hd hv
       gi_wp2
       exact zt
      |2, _ =>
       cases ho
       cases zs hv
       clear hd hv
       gi_wp2
       exact zt
      |3, _ =>
       cases ho
       cases zs hv
       have e2 := hd 2 _ (by decide) rfl
       clear hd hv
       gi_wp2
       exact zt
      |4, _ =>
       cases ho
       cases zs hv
       clear hd hv
       gi_wp2
       exact zt
      |5, _ =>
       cases ho
       cases zs hv
       have e3 := hd 3 _ (by decide) rfl
       have e4 := hd 4 _ (by decide) rfl
       clear hd hv
       gi_wp2
       exact zt
      |6, _ =>
       cases ho
       cases zs hv
       have e5 := hd 5 _ (by decide) rfl
       clear hd hv
       gi_wp2
       exact zt
      |7, _ =>
       cases ho
       cases zs hv
       clear hd hv
       gi_wp2
       exact zt
      |8, _ =>
       cases hv
      |9, _ =>
       cases hv
      |10, _ =>
       cases hv
      |11, _ =>
       cases hv
      |12, _ =>
       cases hv
      |13, _ =>
       cases hv
     ·rintro i o' hi ho hv b u W' ⟨A3, n3, c3, A4, n4, c4, bb, g, hM⟩ hb hdep hq hd
      match i, hi with
      |0, _ => cases hv
      |1, _ => cases hv
      |2, _ => cases hv
      |3, _ => cases hv
      |4, _ => cases hv
      |5, _ => cases hv
      |6, _ => cases hv
      |7, _ => cases hv
      |8, _ =>
       cases ho
       have e0 := hd 0 _ (by decide) rfl
       have e1 := hd 1 _ (by decide) rfl
       have e6 := hd 6 _ (by decide) rfl
       have e7 := hd 7 _ (by decide) rfl
       have f9 : b 9 = false := hq 9 (by decide) (by decide)
       have f10 : b 10 = false := hq 10 (by decide) (by decide)
       have f11 : b 11 = false := hq 11 (by decide) (by decide)
       have f13 : b 13 = false := hq 13 (by decide) (by decide)
       have FF := zk (And.intro f9 (And.intro f10 (And.intro f11 f13)))
       have hbw := hM.out.b
       have hI' := HI3.out
       have hF1 := Kd.F_now (Kd.F_below hI'.env.f1 hbw)
       have hFo := Kd.F_now (Kd.F_below hI'.st.f hbw)
       have hFw := Kd.F_below hI'.st.g hbw
       have HWS := zk (with_search s hs x hwf sh hsl o HO.out A A' A5 c c' c5 (.slice (some ad) s.shells.length s.c2) (.slice s.A3 s.tests.length s.c3) own' W.heap.size W' hF1 hFo hFw (Kd.C_below HC5.out hbw))
       clear hd hv hq hdep hb f9 f10 f11 f13 hI' hF1 hFo hFw
       gi_wp2_with (gi_at_call 143; refine (CallsIn.inRound l2 (callsIn_wide.2 HWS.out)).mono ?_; rintro e W9 ⟨hB9, A3', n3', c3', A4', n4', c4', bb', rfl, hWI⟩)
       refine ⟨.tuple #[.agg #[.slice A3' n3' c3', .slice A4' n4' c4'], .bool bb'], by simp [upf, e0, e1, e6, e7], A3', n3', c3', A4', n4', c4', bb', g, ⟨⟨bt hbw hB9, fun _ => ⟨upf_self _ _ _, hWI.step (fun _ _ _ => rfl) (fun k hk hlt => ?_)⟩, fun h => ?_, fun h => ?_, fun h => ?_, fun h => ?_⟩⟩⟩
       ·rcases hk with hk | hk
        ·exact .inl hk
        ·refine .inr ⟨Nat.le_trans hbw.size hk, fun h12 => ?_⟩
         have h12' : b 12 = true := h12
         have h13' : b 13 = false := FF.out.2.2.2
         have := blk_lt ((hM.out.m12 h12').2.2.1 h13')
         omega
       ·have h' : b 9 = true := h
        rw [FF.out.1] at h'
        cases h'
       ·have h' : b 10 = true := h
        rw [FF.out.2.1] at h'
        cases h'
       ·have h' : b 11 = true := h
        rw [FF.out.2.2.1] at h'
        cases h'
       ·have h12' : b 12 = true := h
        obtain ⟨q1, q2, q3, q4⟩ := hM.out.m12 h12'
        refine ⟨q1, q2, fun h13 => blk_below (q3 h13) hB9, fun h13 => ?_⟩
        have h' : b 13 = true := h13
        rw [FF.out.2.2.2] at h'
        cases h'
      |9, _ =>
       cases ho
       have e8 := (hM.out.m8 (hdep 8 (by decide))).1
       clear hd hv hq hdep hb
       gi_wp2
       refine ⟨.tuple #[.agg #[.slice A3 n3 c3, .slice A4 n4 c4], .bool bb], by simp [upf, e8], A3, n3, c3, A4, n4, c4, bb, g, ⟨⟨hM.out.b, fun h => hM.out.m8 h, fun _ => upf_self _ _ _, fun h => hM.out.m10 h, fun h => hM.out.m11 h, fun h => hM.out.m12 h⟩⟩⟩
      |10, _ =>
       cases ho
       have e9 := hM.out.m9 (hdep 9 (by decide))
       clear hd hv hq hdep hb
       gi_wp2
       refine ⟨.agg #[.slice A3 n3 c3, .slice A4 n4 c4], by simp [upf, e9], A3, n3, c3, A4, n4, c4, bb, g, ⟨⟨hM.out.b, fun h => hM.out.m8 h, fun h => hM.out.m9 h, fun _ => upf_self _ _ _, fun h => hM.out.m11 h, fun h => hM.out.m12 h⟩⟩⟩
      |11, _ =>
       cases ho
       have e9 := hM.out.m9 (hdep 9 (by decide))
       clear hd hv hq hdep hb
       gi_wp2
       refine ⟨.bool bb, by simp [upf, e9], A3, n3, c3, A4, n4, c4, bb, g, ⟨⟨hM.out.b, fun h => hM.out.m8 h, fun h => hM.out.m9 h, fun h => hM.out.m10 h, fun _ => upf_self _ _ _, fun h => hM.out.m12 h⟩⟩⟩
      |12, _ =>
       cases ho
       have f13 : b 13 = false := hq 13 (by decide) (by decide)
       have FF := zk (And.intro f13 hb)
       clear hd hv hq hdep hb f13
       gi_wp2
       refine ⟨.pointer (some ⟨W'.heap.size, 0, none⟩), by simp [upf], A3, n3, c3, A4, n4, c4, bb, W'.heap.size, ⟨⟨bt hM.out.b (below1 _), fun h => ⟨(hM.out.m8 h).1, (hM.out.m8 h).2.step (fun k _ hlt => Below.heap_alloc _ _ _ hlt) (fun k hk hlt => ?_)⟩, fun h => hM.out.m9 h, fun h => hM.out.m10 h, fun h => hM.out.m11 h, fun _ => ⟨upf_self _ _ _, hM.out.b.size, fun _ => blk_new _ _, fun h13 => ?_⟩⟩⟩⟩
       ·rcases hk with hk | hk
        ·exact .inl hk
        ·exact .inr ⟨hk.1, fun _ => by omega⟩
       ·have h' : b 13 = true := h13
        rw [FF.out.1] at h'
        cases h'
      |13, _ =>
       cases ho
       obtain ⟨e12, hge, hgc, _⟩ := hM.out.m12 (hdep 12 (by decide))
       have e10 := hM.out.m10 (hdep 10 (by decide))
       have hgc' := zk (hgc hb)
       obtain ⟨c_g_0, f_g_0, c_g_1, f_g_1, l_g⟩ := cl2 (W := W') (p := g) (a := .slice none 0 0) (b := .slice none 0 0) hgc'.out
       have FF := zk (And.intro hge (hdep 12 (by decide)))
       clear hd hv hq hdep hb hgc hge
       gi_wp2
       have hgN : ∀ k, Ft own' W.heap.size w'.heap.size g (b 12) k → k ≠ g := fun k hk => by
        rcases hk with hk | hk
        ·have := hk.2
         have := HI3.out.mv.size
         have := FF.out.1
         omega
        ·exact hk.2 FF.out.2
       refine ⟨undef, by simp [upf], A3, n3, c3, A4, n4, c4, bb, g, ⟨⟨(hM.out.b.setCell (p := ⟨g, 0, none⟩) FF.out.1 _).setCell (p := ⟨g, 1, none⟩) FF.out.1 _, fun h => ⟨(hM.out.m8 h).1, (hM.out.m8 h).2.step (fun k hk _ => (Below.heap_setCell _ _ _ _ (hgN k hk)).trans (Below.heap_setCell _ _ _ _ (hgN k hk))) (fun k hk _ => hk)⟩, fun h => hM.out.m9 h, fun h => hM.out.m10 h, fun h => hM.out.m11 h, fun _ => ⟨e12, FF.out.1, fun h13 => ?_, fun _ => blk_put (blk_put hgc'.out 0 _ rfl) 1 _ rfl⟩⟩⟩⟩
       have h' : true = false := h13
       cases h'
      |j + 14, hi => exact absurd hi (by omega)
     ·rintro b u W9 hall2 ⟨A3, n3, c3, A4, n4, c4, bb, g, hM⟩ _
      have hW := (hM.out.m8 (hall2 8 (by decide))).2
      have e11 := hM.out.m11 (hall2 11 (by decide))
      obtain ⟨e12, hge, _, hg9⟩ := hM.out.m12 (hall2 12 (by decide))
      have HG9 := zk (hg9 (hall2 13 (by decide)))
      have hb9 := hM.out.b
      have HI9 := zk (HI3.out.moved (Moved.of_below hb9))
      have HJ9 := zk (HE.stab _ _ _ _ HJ3.out (stab_below hb9))
      have HR9 := zk (blk_below HR3.out hb9)
      have HB9 := zk hb9
      clear hall2 hg9 hge hM HI3 HR3 hb9
      have hkd : ∀ z, stepS s.rivers x sh o = z → kids s d x sh o = match z with | none => [] | some y => truthsFrom s.years s.rivers s.shells s.tests d y := by
       intro z hz
       unfold kids nextS
       rw [← ETB.out, if_pos rfl, hz]
       cases z <;> rfl
      have HKD := zk hkd
      clear hkd
      rcases hW with ⟨rfl, hno⟩ | ⟨rfl, y, hyes, rfl, rfl, hc3, hc4, hf3, hf4⟩
      ·have HNO := zk hno
       clear hno
       gi_wp2
       refine ⟨HR9.out, own', HI9.out, ?_, HL2.out⟩
       rw [List.flatMap_append, List.flatMap_cons, HKD.out _ HNO.out]
       simpa using HJ9.out
      ·have HY := zk hyes
       have hft : ∀ k, Ft own' W.heap.size w'.heap.size g (b 12) k → k < W9.heap.size → Low own' W9.heap.size k := fun k hk hlt9 => by
        refine ⟨fun h => ?_, hlt9⟩
        rcases hk with hk | hk
        ·exact hk.1 h
        ·have := HE.lt _ _ _ HJ3.out _ h
         omega
       have HS9 := zk (show SAt own' W9.heap.size W9 y A3 A4 c3 c4 from ⟨Kd.F_mono (Kd.F_bound hf3) (fun k hk => hft k hk.1 hk.2), Kd.F_mono (Kd.F_bound hf4) (fun k hk => hft k hk.1 hk.2), hc3, hc4⟩)
       obtain ⟨hwy, hy1⟩ := step_WF hwf ⟨HO.out.1, HO.out.2.1⟩ hlt HY.out
       have hyl : y.1.length + d = s.shells.length := by rw [hy1]; simp; have := hd.out; omega
       have hsub : ∀ t ∈ truthsFrom s.years s.rivers s.shells s.tests d y, t ∈ all := fun t ht => by
        refine HALL.out t ?_
        have e : truthsFrom s.years s.rivers s.shells s.tests (d + 1) x = (originsL s.rivers.length sh.f0.length s.years).flatMap (kids s d x sh) := by
         rw [ESH.out]
         rfl
        rw [e]
        refine List.mem_flatMap.2 ⟨o, hpre.subset (by simp), ?_⟩
        rw [HKD.out _ HY.out]
        exact ht
       have HIH := zk (fun mm => IH.out y A3 A4 c3 c4 (pre ++ pre2.flatMap (kids s d x sh)) own' W9 mm (Nat.le_trans HN.out HI9.out.mv.size) hyl hwy (HI9.out.env.raise HI9.out.mv.size) HS9.out HJ9.out hsub)
       unfold stV at HIH
       have H3W := zk HI9.out.env.b3
       obtain ⟨c_B3_0, f_B3_0, l_B3⟩ := cl1 (W := W9) (p := B3) (a := .func (.func 141) #[] #[.pointer (some ⟨B1, 0, none⟩), .pointer (some ⟨B2, 0, none⟩), .pointer (some ⟨B3, 0, none⟩)]) H3W.out
       obtain ⟨c_g_0, f_g_0, c_g_1, f_g_1, l_g⟩ := cl2 (W := W9) (p := g) (a := .slice A3 y.1.length c3) (b := .slice A4 y.2.length c4) HG9.out
       clear hyes hft hc3 hc4 hf3 hf4 hwy hy1 hyl hsub
       gi_wp2_with (gi_at_call 141; refine (CallsIn.inRound l2 (HIH.out _)).mono ?_; rintro e W10 ⟨own2, hm2, h2⟩; have H5W := zk (hm2.stay HI9.out.h5 HI9.out.n.2.1).1; have c5 : W10.cell? ⟨p5, 0, none⟩ = some (.bool false) := blk_cell H5W.out 0; have f5 : W10.frozen? ⟨p5, 0, none⟩ = false := blk_frozen H5W.out 0; have l5 : p5 < W10.heap.size := blk_lt H5W.out; rcases h2 with ⟨rfl, hJ10⟩ | ⟨rfl, pre', hJ10⟩)
       ·refine ⟨(hm2.stay HR9.out HL2.out).1, own2, HI9.out.moved hm2, ?_, (hm2.stay HR9.out HL2.out).2⟩
        rw [List.flatMap_append, List.flatMap_cons, HKD.out _ HY.out]
        simpa using hJ10
       ·have hI10 := HI9.out.moved hm2
        have hR10 := hm2.stay HR9.out HL2.out
        have hlo := hI10.lo
        have hnn := hI10.n
        have hl2ge : W.heap.size ≤ l2 := by have := HM.out.size; have := HBr.out.size; omega
        have hne52 : p5 ≠ l2 := by have := KK.out; omega
        have hne5D : p5 ≠ dD := by have := KK.out; omega
        refine ⟨(Below.heap_setCell _ ⟨p5, 0, none⟩ _ _ (fun e => hne52 e.symm)).trans hR10.1, rfl, own2, hI10.mv.below ((Below.refl _ _).setCell (p := ⟨p5, 0, none⟩) hlo.2.1 _), ⟨pre', HE.stabx _ _ _ _ hJ10 ((Chg.refl _ _).setCell (p := ⟨p5, 0, none⟩) ⟨Nat.le_trans HN.out hlo.2.1, hnn.2.1⟩ _)⟩, blk_put H5W.out 0 _ rfl, (Below.heap_setCell _ ⟨p5, 0, none⟩ _ _ (fun e => hne5D e.symm)).trans hI10.hD, hnn.2.1, hnn.2.2.2.2.2, hR10.2⟩
   case hdone =>
    rintro W2 ⟨own', hI, hJ', hl2⟩
    have H5W := zk hI.h5
    obtain ⟨c_p5_0, f_p5_0, l_p5⟩ := cl1 (W := W2) (p := p5) (a := .bool false) H5W.out
    have hkids : truthsFrom s.years s.rivers s.shells s.tests (d + 1) x = (originsL s.rivers.length sh.f0.length s.years).flatMap (kids s d x sh) := by
     rw [ESH.out]
     rfl
    replace hkids := zk hkids
    have HI := zk hI
    have HJ' := zk hJ'
    have hn5 := hI.n.2.1
    have hnD := hI.n.2.2.2.2.2
    have hlo := hI.lo
    clear hI hJ'
    rw [← eD]
    gi_wp2
    have hne : p5 ≠ dD := by have := KK.out; omega
    have hHD : (W2.setCell ⟨p5, 0, none⟩ (.bool true)).heap[dD]? = some (.deferred (some [])) := (Below.heap_setCell _ _ _ _ (fun e => hne e.symm)).trans HI.out.hD
    refine search_ret1 p5 dD true rfl (blk_put H5W.out 0 _ rfl) hHD hne ⟨own', ?_, .inl ⟨rfl, ?_⟩⟩
    ·have hb := ((Below.refl W.heap.size W2).setCell (p := ⟨p5, 0, none⟩) hlo.2.1 (.bool true))
     have hc : Chg (fun k => k = dD) (W2.setCell ⟨p5, 0, none⟩ (.bool true)) ((W2.setCell ⟨p5, 0, none⟩ (.bool true)).putObj dD (.deferred none)) := chg_put _ _ _
     exact (HI.out.mv.below hb).below (hc.below (fun i e => by omega) (HI.out.mv.below hb).size)
    ·have hc : Chg (fun k => N ≤ k ∧ ¬ own' k) W2 ((W2.setCell ⟨p5, 0, none⟩ (.bool true)).putObj dD (.deferred none)) := ((Chg.refl _ W2).setCell (p := ⟨p5, 0, none⟩) ⟨Nat.le_trans HN.out hlo.2.1, hn5⟩ _).putObj (r := dD) ⟨Nat.le_trans HN.out hlo.2.2.2.2.2, hnD⟩ _
     rw [hkids.out]
     exact HE.stab _ _ _ _ HJ'.out hc
   case hstop =>
    rintro cd pre2 W2 ⟨rfl, own', hm, ⟨pre', hJ'⟩, h5, hD, n5, nD, _⟩
    have HH := zk (And.intro hm (And.intro hJ' (And.intro h5 hD)))
    clear hm hJ' h5 hD
    rw [← eD]
    gi_wp2
    refine search_ret1 p5 dD false rfl HH.out.2.2.1 HH.out.2.2.2 (by have := KK.out; omega) ⟨own', ?_, .inr ⟨rfl, pre', HE.stabx _ _ _ _ HH.out.2.1 ((Chg.refl _ W2).putObj (r := dD) ⟨by have := HN.out; have := HM.out.size; have := HBr.out.size; omega, nD⟩ _)⟩⟩
    have hc : Chg (fun k => k = dD) W2 (W2.putObj dD (.deferred none)) := chg_put _ _ _
    exact HH.out.1.below (hc.below (fun i e => by have := HM.out.size; have := HBr.out.size; omega) HH.out.1.size)
end Go.Proofs.YtfijblhfgfefoaaGreatDoor.Rv
end
