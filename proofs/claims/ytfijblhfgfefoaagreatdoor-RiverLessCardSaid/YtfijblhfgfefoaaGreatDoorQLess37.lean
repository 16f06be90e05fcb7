/- A part of the proof: words, contracts of functions, and their walks. -/
import Derived.Test.YtfijblhfgfefoaaGreatDoorQLess3
import Derived.Test.YtfijblhfgfefoaaGreatDoorQLess36
set_option linter.unusedVariables false
set_option linter.unusedSimpArgs false
section
namespace Go.Proofs.YtfijblhfgfefoaaGreatDoor.Rv
open Go.RowKit Go.Shelf Go.IntWalk Go.Proofs.YtfijblhfgfefoaaGreatDoor.PAll Go.Proofs.YtfijblhfgfefoaaGreatDoorW.PrintWords Go.Proofs.YtfijblhfgfefoaaGreatDoorW.PrintLast
attribute [local go_sem] Oper.semAt_some wide_fn wide_depth
theorem raw_int {w : World} {A : Option Addr} {xs : List Int} (h : Kd.C (Kd.int .i64) w A xs.length xs) : Raw w A xs.length 1 (nums64 xs) := by
 refine ⟨by simp [nums64], fun u hu => by obtain ⟨a, _, rfl⟩ := List.mem_map.1 hu; rfl, fun hn => ?_⟩
 obtain ⟨ad, e, hc⟩ := (Kd.reads_of_C (d := (0 : Int)) (h1 := fun _ => rfl) h).2.2 hn
 refine ⟨ad, e, fun j u hj => ?_⟩
 have hjl : j < xs.length := by
  have := (List.getElem?_eq_some_iff.1 hj).1
  simpa [nums64] using this
 rw [hc j hjl]
 simp [nums64, hjl] at hj
 rw [← hj]
 simp [List.getD_eq_getElem?_getD, hjl]
structure GdMem (gb : Bool) (W0 : World) (f : Nat → Bool) (u : Nat → Value) (W : World) : Prop where
 bw : Below W0.heap.size W0 W
 m6 : f 6 = true → u 6 = .bool gb
 m7 : f 7 = true → u 7 = .bool (!gb)
 m8 : f 8 = true → u 8 = .bool (!gb)
def DealC (s : Lt) (B1 B2 B3 B4 B5 l N : Nat) (all : List Dl) (J : List Dl → (Nat → Prop) → World → Prop) (d : Nat) : Prop :=
 ∀ (x : Dl) (D : Nat → Prop) (A : Option Addr) (c : Nat) (used : List Int) (Au : Option Addr) (cu : Nat) (pre : List Dl) (own : Nat → Prop) (W : World) (m : Nat), N ≤ W.heap.size → x.1.length + d = s.takes.length → DlOk s x used → EnvD s B1 B2 B3 B4 B5 l own W.heap.size W → DAx D own W.heap.size W x.1 A c → DAt own W.heap.size W used Au cu → J pre own W → (∀ t ∈ dealsFrom s d x used, t ∈ all) → (∀ k, D k → N ≤ k) →
  CallsIn Fence.wide m Tryz.prog 160 #[dlV x A c, .slice Au used.length cu, .pointer (some ⟨B1, 0, none⟩), .pointer (some ⟨B2, 0, none⟩), .pointer (some ⟨B3, 0, none⟩), .pointer (some ⟨B4, 0, none⟩), .pointer (some ⟨B5, 0, none⟩)] W (DealPost J (pre ++ dealsFrom s d x used) D own W)
set_option maxRecDepth 100000 in
set_option maxHeartbeats 8000000 in
theorem deal_step (s : Lt) (hs : LtGood s) (B1 B2 B3 B4 B5 l N : Nat) (all : List Dl) (J : List Dl → (Nat → Prop) → World → Prop) (HE : EatsD l N all J) (d : Nat) (ih : DealC s B1 B2 B3 B4 B5 l N all J d) : DealC s B1 B2 B3 B4 B5 l N all J (d + 1) := by
 intro x Dx A c used Au cu pre own W m hN hd hok hE hS hU hJ hall hDN
 have IH := zk ih
 have HN := zk hN
 have HEV := zk hE
 have HJ := zk hJ
 have HALL := zk hall
 have HOK := zk hok
 have hlt : x.1.length < s.takes.length := by omega
 have HT := zk (hs.at_ _ hlt)
 have HDF := zk (show dealsFrom s (d + 1) x used = dealsFrom s d (x.1 ++ [-1], x.2 + (takeAt s x.1.length).f2) used ++ (List.range s.lics.length).flatMap (fun k => if fitsL s used x.1.length k = true then dealsFrom s d (x.1 ++ [(k : Int)], x.2) (used.set k (used.getD k 0 + (takeAt s x.1.length).f2)) else []) from rfl)
 obtain ⟨KF, hKF⟩ : ∃ KF : Nat → List Dl, KF = fun k => if fitsL s used x.1.length k = true then dealsFrom s d (x.1 ++ [(k : Int)], x.2) (used.set k (used.getD k 0 + (takeAt s x.1.length).f2)) else [] := ⟨_, rfl⟩
 rw [← hKF] at HDF
 have HKF := zk (fun (k : Nat) => show (if fitsL s used x.1.length k = true then dealsFrom s d (x.1 ++ [(k : Int)], x.2) (used.set k (used.getD k 0 + (takeAt s x.1.length).f2)) else []) = KF k by rw [hKF])
 clear hKF
 have HX6 := zk (show x.1.length ≤ 6 by have := hs.nt; omega)
 have hu177 := Tryz.underlying177
 have hu174 := Tryz.underlying174
 have hu47 := Tryz.underlying47
 have H1 := zk hE.b1
 have hF3 := hE.f3
 obtain ⟨ad, hA3, d0, d1, d2, d3⟩ := at_T174 (Kd.F_now hF3) (x.1.length : Int) (by omega) (by omega)
 have eT : rd_T174 s.takes (x.1.length : Int) = takeAt s x.1.length := by simp [rd_T174, takeAt]
 rw [eT] at d0 d1 d2 d3
 simp only [Int.toNat_natCast] at d0 d1 d2 d3
 obtain ⟨T, hTe⟩ : ∃ T, T = takeAt s x.1.length := ⟨_, rfl⟩
 rw [← hTe] at d0 d1 d2 d3 HT
 have HTE := zk hTe
 have HST := zk hS
 have HUS := zk hU
 have hltz : (x.1.length : Int) < (s.takes.length : Int) := by omega
 have hbe : ((x.1.length : Int) == (s.takes.length : Int)) = false := by simp; omega
 have q0 := World.block_lt_of_cell? _ _ d0
 have q3 := World.block_lt_of_cell? _ _ d3
 rw [hA3] at H1
 obtain ⟨c_B1_0, f_B1_0, l_B1⟩ := cl1 (W := W) (p := B1) (a := .slice (some ad) s.takes.length s.c3) H1.out
 have HA3 := zk hA3
 have hd' := zk hd
 clear hd
 have HLT := zk hlt
 clear ih hN hE hJ hall hok hF3 eT hTe hS hU hA3 hlt
 refine callsIn_of_wp_marks Tryz.func160 rfl trivial ?_ rfl
 simp only [Tryz.ntmps160, List.size_toArray, List.length_cons, List.length_nil, Nat.reduceAdd, Nat.reduceSub, Array.replicate_succ, Array.replicate_zero, List.push_toArray, List.append_toArray, List.nil_append, List.cons_append, dlV]
 gi_wp2
 have HB := zk ((below1 (w := W) (.cells #[.slice A x.1.length c, .int .i64 x.2] 177)).alloc (by simp) (.cells #[.int .i64 T.f0, .int .i64 T.f1.f0, .int .i64 T.f1.f1, .int .i64 T.f2] 174))
 have h7 := blk_alloc (blk_new W (.cells #[.slice A x.1.length c, .int .i64 x.2] 177)) (.cells #[.int .i64 T.f0, .int .i64 T.f1.f0, .int .i64 T.f1.f1, .int .i64 T.f2] 174)
 have h11 := blk_new (W.alloc (.cells #[.slice A x.1.length c, .int .i64 x.2] 177)) (.cells #[.int .i64 T.f0, .int .i64 T.f1.f0, .int .i64 T.f1.f1, .int .i64 T.f2] 174)
 simp only [World.size_alloc] at h11
 generalize (W.alloc (.cells #[.slice A x.1.length c, .int .i64 x.2] 177)).alloc (.cells #[.int .i64 T.f0, .int .i64 T.f1.f0, .int .i64 T.f1.f1, .int .i64 T.f2] 174) = W1 at HB h7 h11 ⊢
 obtain ⟨p7, e7⟩ : ∃ p7, p7 = W.heap.size := ⟨_, rfl⟩
 obtain ⟨p11, e11⟩ : ∃ p11, p11 = W.heap.size + 1 := ⟨_, rfl⟩
 rw [← e7] at h7
 rw [← e11] at h11
 rw [← e11, ← e7]
 have HLE := zk (HE.lt _ _ _ HJ.out)
 have HMV := zk (Moved.of_below (own := own) HB.out)
 have HLO := zk (show W.heap.size ≤ p7 ∧ W.heap.size ≤ p11 ∧ p7 ≠ p11 by omega)
 have HIN := zk (show InD s B1 B2 B3 B4 B5 l W own Dx x A c used Au cu p7 p11 T own W1 from
  ⟨HMV.out, HEV.out.moved HMV.out, HST.out.moved HMV.out (Nat.le_refl _), HUS.out.moved HMV.out, h7, h11, ⟨fun h => by have := HLE.out _ h; have := HLO.out; omega, fun h => by have := HLE.out _ h; have := HLO.out; omega⟩⟩)
 have HINW := HIN
 have HJ1 := zk (HE.stab _ _ _ _ HJ.out (Chg.fresh HB.out))
 have RAWX := zk (show ∀ (own' : Nat → Prop) (W2 : World), InD s B1 B2 B3 B4 B5 l W own Dx x A c used Au cu p7 p11 T own' W2 → Raw W2 A x.1.length 1 (nums64 x.1) from fun own' W2 h => raw_int (Kd.F_now h.st.f))
 clear h7 h11 e7 e11 d0 d1 d2 d3 q0 q3 H1 hltz hbe
 clear c_B1_0 f_B1_0 l_B1
 refine region_litIn (lit := ?lit5) 13 [[],[],[1],[2],[],[3,4],[],[6],[],[8],[7,9],[3,4,5,10],[]]
  [some (.func (.func 160) #[] #[.pointer (some ⟨B1, 0, none⟩), .pointer (some ⟨B2, 0, none⟩), .pointer (some ⟨B3, 0, none⟩), .pointer (some ⟨B4, 0, none⟩), .pointer (some ⟨B5, 0, none⟩)]), some (.pointer (some ⟨p7, 0, none⟩)), some (.slice A x.1.length c), none, none, none, some (.pointer (some ⟨p7, 1, none⟩)), some (.int .i64 x.2), some (.pointer (some ⟨p11, 3, none⟩)), some (.int .i64 T.f2), some (.int .i64 (x.2 + T.f2)), none, some (.slice Au used.length cu)]
  (fun f u W' => Aside0 (AdMem 3 4 5 11 x.1 (-1) (x.2 + T.f2) W1 f u W')) ?hlit5 (by kernel_rfl) (by kernel_rfl) (by decide) ?_ ?_ ?_ ?_ ?_
 case hlit5 =>
  intro u
  simp only [List.take_succ_cons, List.take_zero, List.map_cons, List.map_nil, setAll, Nat.reduceAdd, Act.put, List.setIfInBounds_toArray, List.set_cons_succ, List.set_cons_zero]
  try rfl
 ·intro u w2 hw
  exact zk (AdMem.start (hw.below _))
 ·intro i v f u W' hv h
  have k3 : (3 : Nat) ≠ i := by rintro rfl; cases hv
  have k4 : (4 : Nat) ≠ i := by rintro rfl; cases hv
  have k5 : (5 : Nat) ≠ i := by rintro rfl; cases hv
  have k11 : (11 : Nat) ≠ i := by rintro rfl; cases hv
  exact zk (h.out.other i v k3 k4 k5 k11)
 ·intro j o' v hj ho hv f u W' hM hdep hd
  have HQ := HINW.out.below hM.out.bw
  have H7W := zk HQ.h7
  have H11W := zk HQ.h11
  have H3W := zk HQ.env.b3
  have brest := HOK.out.rest
  have bt2 := HT.out.2.2
  have bx6 := HX6.out
  obtain ⟨c_p7_0, f_p7_0, c_p7_1, f_p7_1, l_p7⟩ := cl2 (W := W') (p := p7) (a := .slice A x.1.length c) (b := .int .i64 x.2) H7W.out
  obtain ⟨c_p11_0, f_p11_0, c_p11_1, f_p11_1, c_p11_2, f_p11_2, c_p11_3, f_p11_3, l_p11⟩ := cl4 (W := W') (p := p11) (a := .int .i64 T.f0) (b := .int .i64 T.f1.f0) (c := .int .i64 T.f1.f1) (d := .int .i64 T.f2) H11W.out
  obtain ⟨c_B3_0, f_B3_0, l_B3⟩ := cl1 (W := W') (p := B3) (a := .func (.func 160) #[] #[.pointer (some ⟨B1, 0, none⟩), .pointer (some ⟨B2, 0, none⟩), .pointer (some ⟨B3, 0, none⟩), .pointer (some ⟨B4, 0, none⟩), .pointer (some ⟨B5, 0, none⟩)]) H3W.out
  clear H7W H11W H3W HQ
  clear hM hdep
  replace hj : j < 13 := hj
  match j, hj with
  |0, _ =>
   cases ho
   cases zs hv
   clear hd hv
   gi_wp2
   exact zt
  |1, _ =>
   cases ho
   cases zs hv
   clear hd hv
   gi_wp2
   exact zt
  |2, _ =>
   cases ho
   cases zs hv
   have e1 := hd 1 _ (by decide) rfl
   clear hd hv
   gi_wp2
   exact zt
  |3, _ =>
   cases hv
  |4, _ =>
   cases hv
  |5, _ =>
   cases hv
  |6, _ =>
   cases ho
   cases zs hv
   clear hd hv
   gi_wp2
   exact zt
  |7, _ =>
   cases ho
   cases zs hv
   have e6 := hd 6 _ (by decide) rfl
   clear hd hv
   gi_wp2
   exact zt
  |8, _ =>
   cases ho
   cases zs hv
   clear hd hv
   gi_wp2
   exact zt
  |9, _ =>
   cases ho
   cases zs hv
   have e8 := hd 8 _ (by decide) rfl
   clear hd hv
   gi_wp2
   exact zt
  |10, _ =>
   cases ho
   cases zs hv
   have e7 := hd 7 _ (by decide) rfl
   have e9 := hd 9 _ (by decide) rfl
   clear hd hv
   gi_wp2
   exact zt
  |11, _ =>
   cases hv
  |12, _ =>
   cases ho
   cases zs hv
   clear hd hv
   gi_wp2
   exact zt
 ·intro j o' hj ho hv f u W' hM hb hdep hq hd
  match j, hj with
  |0, _ => cases hv
  |1, _ => cases hv
  |2, _ => cases hv
  |6, _ => cases hv
  |7, _ => cases hv
  |8, _ => cases hv
  |9, _ => cases hv
  |10, _ => cases hv
  |12, _ => cases hv
  |3, _ =>
   cases ho
   have e2' := hd 2 _ (by decide) rfl
   have HM := zk (And.intro hM.out (And.intro (hq 5 (by decide) (by decide)) (hq 11 (by decide) (by decide))))
   have HCL := zk (clone161 A x.1.length c (nums64 x.1) W' (RAWX.out own W' (HINW.out.below hM.out.bw)) (by have := HX6.out; omega))
   clear hd hv hq hdep hb hM
   gi_wp2_with (gi_at_call 161; refine (callsIn_wide.2 HCL.out).mono ?_; rintro e W9 ⟨v9, rfl, hown9, hB9⟩)
   exact ⟨v9, by simp [upf, e2'], zk (HM.out.1.clone (by decide) HM.out.2.1 HM.out.2.2 hown9 hB9)⟩
  |4, _ =>
   cases ho
   have HM := zk (And.intro hM.out (And.intro (hq 5 (by decide) (by decide)) (hq 11 (by decide) (by decide))))
   clear hd hv hq hdep hb hM
   gi_wp2
   exact ⟨.slice (some ⟨W'.heap.size, 0, none⟩) 1 1, by simp [upf], zk (HM.out.1.build (by decide) HM.out.2.1 HM.out.2.2)⟩
  |5, _ =>
   cases ho
   have f3 := hdep 3 (by decide)
   obtain ⟨g4, e4', h4⟩ := hM.out.m4 (hdep 4 (by decide)) hb
   have HM := zk (And.intro hM.out (And.intro f3 (And.intro hb (hq 11 (by decide) (by decide)))))
   have HO3 := zk (hM.out.m3 f3 hb)
   have HC := zk (show ∀ (j : Nat) (u' : Value), [Value.int .i64 (-1)][j]? = some u' → W'.cell? ((⟨g4, 0, none⟩ : Addr).add j) = some u' from fun j u' hj => by
    rw [add_plain]
    match j, hj with
    |0, hj => cases hj; exact blk_cell h4 0)
   clear hd hv hq hdep hb hM f3 h4
   obtain ⟨i0, hi0, hzz⟩ := Option.map_eq_some_iff.1 info3
   simp only [Prod.mk.injEq] at hzz
   obtain ⟨hz0, hz1, hz2⟩ := hzz
   have HI0 := zk (And.intro hi0 (And.intro hz0 (And.intro hz1 hz2)))
   clear hi0 hz0 hz1 hz2
   refine wpListIn_append_own_at _ rfl (.tmp 31) (.tmp 32) 28 rfl W1.heap.size 3 i0 _ 1 8 Tryz.underlying28 HI0.out.1 HI0.out.2.1 HI0.out.2.2.1 HI0.out.2.2.2 rfl (by decide) (u 3) x.1.length (nums64 x.1) rfl HO3.out ⟨g4, 0, none⟩ 1 1 [.int .i64 (-1)] e4' rfl HC.out (by intro u' hu'; simp at hu'; rw [hu']; rfl) (by have := HX6.out; simp only [maxLen]; omega) (by have := HX6.out; omega) HM.out.1.bw.size ?_
   intro v8 W8 hown8 hg8 _ hat8
   have HO8 := zk hown8
   have HG8 := zk hg8
   clear hown8 hg8 hat8 HC HO3
   gi_wp2
   exact ⟨v8, by simp [upf, Act.put], zk (HM.out.1.append (by decide) HM.out.2.1 HM.out.2.2.1 HM.out.2.2.2 HO8.out HG8.out)⟩
  |11, _ =>
   cases ho
   have HM := zk hM.out
   obtain ⟨A5, c5, e5', _, _⟩ := hM.out.m5 (hdep 5 (by decide))
   have e10' := hd 10 _ (by decide) rfl
   clear hd hv hq hdep hb hM
   gi_wp2
   refine ⟨.agg #[u 5, .int .i64 (x.2 + T.f2)], by simp [upf, e5'], zk (HM.out.pack (by decide))⟩
  |j + 13, hj => exact absurd hj (by omega)
 ·intro f u W' hall hM hd
  have e0' := hd 0 _ (by decide) rfl
  have e12' := hd 12 _ (by decide) rfl
  have e11' := hM.out.m11 (hall 11 (by decide))
  obtain ⟨A5, c5, e5', hle5, hF5⟩ := hM.out.m5 (hall 5 (by decide))
  rw [e5'] at e11'
  have HI2 := zk (HIN.out.below hM.out.bw)
  have HJ2 := zk (HE.stab _ _ _ _ HJ1.out (Chg.fresh hM.out.bw))
  have hlo2 : W.heap.size ≤ W'.heap.size := HI2.out.mv.size
  have HS5 := zk (show DAx (fun k => W1.heap.size ≤ k ∧ k < W'.heap.size) own W'.heap.size W' (x.1 ++ [-1]) A5 c5 from ⟨Kd.F_bound hF5, fun k hk => ⟨fun h => by have := HE.lt _ _ _ HJ1.out _ h; have := hk.1; omega, hk.2⟩, hle5⟩)
  obtain ⟨y, ey⟩ : ∃ y : Dl, y = (x.1 ++ [-1], x.2 + T.f2) := ⟨_, rfl⟩
  have HY := zk ey
  have hy1 : x.1 ++ [-1] = y.1 := by rw [ey]
  have hy2 : x.2 + T.f2 = y.2 := by rw [ey]
  rw [hy1] at e11' HS5
  rw [hy2] at e11'
  have hyl : y.1.length = x.1.length + 1 := by rw [← hy1]; simp
  have hyo : DlOk s y used := by rw [ey, HTE.out]; exact HOK.out.none_ hs HLT.out
  have HIH := zk (fun mm => IH.out y (fun k => W1.heap.size ≤ k ∧ k < W'.heap.size) A5 c5 used Au cu pre own W' mm (Nat.le_trans HN.out hlo2) (by have := hd'.out; omega) hyo (HI2.out.env.raise hlo2) HS5.out (HI2.out.us.raise hlo2) HJ2.out (fun t ht => HALL.out t (by rw [HDF.out, ← HTE.out, ← ey]; exact List.mem_append_left _ ht)) (fun k hk => Nat.le_trans (Nat.le_trans HN.out HMV.out.size) hk.1))
  unfold dlV at HIH
  clear hall hd hM hF5 hle5 e5' ey hy1 hy2 hyl hyo
  gi_wp2_with (first
   |(gi_at_call 160
     refine (HIH.out _).mono ?_
     rintro e W10 ⟨rfl, own2, hm2, hJ10⟩
     have HI3 := zk (HI2.out.movedD hm2 (fun k hk => Nat.le_trans HMV.out.size hk.1) (fun h => by have := blk_lt HIN.out.h7; have := h.1; omega) (fun h => by have := blk_lt HIN.out.h11; have := h.1; omega))
     have HJ3 := zk hJ10
     have H4W := zk HI3.out.env.b4
     clear hm2 hJ10
     obtain ⟨c_B4_0, f_B4_0, l_B4⟩ := cl1 (W := W10) (p := B4) (a := .slice s.A2 s.lics.length s.c2) H4W.out
     skip))
  have hnl := hs.nl
  gi_loopw [45] (fun v45 wr => ∃ (k : Nat) (own' : Nat → Prop), k ≤ s.lics.length ∧ v45 = .int .i64 k ∧ Aside0 (InD s B1 B2 B3 B4 B5 l W own Dx x A c used Au cu p7 p11 T own' wr) ∧ Aside0 (J (pre ++ (dealsFrom s d y used ++ (List.range k).flatMap KF)) own' wr)) (fun v45 _ => s.lics.length - (intOf v45).toNat)
  case atStart => exact ⟨0, own2, by omega, rfl, HI3, ⟨by simpa using HJ3.out⟩⟩
  case round =>
   obtain ⟨k, own3, hk, rfl, BS, JS⟩ := hrel
   by_cases hlk : k < s.lics.length
   ·have hlkz : (k : Int) < (s.lics.length : Int) := by omega
    have HLK := zk hlk
    obtain ⟨adl, hA2, l0, l1, l2, l3⟩ := at_T114 (Kd.F_now BS.out.env.f2) (k : Int) (by omega) (by omega)
    have eL : rd_T114 s.lics (k : Int) = licAt s k := by simp [rd_T114, licAt]
    rw [eL] at l0 l1 l2 l3
    simp only [Int.toNat_natCast] at l0 l1 l2 l3
    obtain ⟨L, hLe⟩ : ∃ L, L = licAt s k := ⟨_, rfl⟩
    rw [← hLe] at l0 l1 l2 l3
    have hku : k < used.length := by have := HOK.out.n; omega
    obtain ⟨adu, hAu, u0⟩ := Kd.at_int (Kd.F_now BS.out.us.f) (k : Int) (by omega) (by omega)
    rw [Int.toNat_natCast] at u0
    obtain ⟨uk, huk⟩ : ∃ uk, uk = rd used (k : Int) := ⟨_, rfl⟩
    rw [← huk] at u0
    have huke : uk = used.getD k 0 := by rw [huk]; simp [rd]
    have HUK := zk (show 0 ≤ uk ∧ uk ≤ 100 by
     have e : uk = used[k] := by rw [huke]; simp [List.getD_eq_getElem?_getD, hku]
     rw [e]; exact HOK.out.used _ (List.getElem_mem hku))
    have HUKE := zk huke
    have CL := zk (And.intro l0 (And.intro l1 (And.intro l2 l3)))
    have CU := zk u0
    have HA2 := zk hA2
    have HLE2 := zk hLe
    have hgs := good_some s.years s.rivers L T HT.out.1 HT.out.2.1.1 HT.out.2.1.2
    have GOOD := zk (fun (W' : World) (h : Kd.C k43 W' s.A1 s.rivers.length s.rivers) => river_good.calls 100 s.years s.A1 s.c1 s.rivers L.f0 L.f1 L.f2 L.f3 T.f0 T.f1.f0 T.f1.f1 T.f2 _ W' h HEV.out.c.1 hgs)
    have HFIT := zk (show fitsL s used x.1.length k = (goodT s.years s.rivers L T && decide (uk + T.f2 ≤ L.f3)) by unfold fitsL; rw [← hLe, ← HTE.out, ← huke])
    have HRS := zk (show (List.range (k + 1)).flatMap KF = (List.range k).flatMap KF ++ KF k by rw [List.range_succ, List.flatMap_append]; simp)
    obtain ⟨gb, egb⟩ : ∃ gb, gb = goodT s.years s.rivers L T := ⟨_, rfl⟩
    rw [← egb] at GOOD HFIT
    clear l0 l1 l2 l3 u0 hku huk huke hLe hgs egb eL hA2 hlk
    subst hAu
    cases gb with
    |false =>
     gi_wp2
     refine region_litIn (lit := ?lit10) 22 [[],[],[],[1,2],[3],[],[0,4,5],[6],[6,7],[8],[8],[8,9,10],[8,11],[8],[8,13],[8,12,14],[8],[8],[8,16,17],[8,18],[8,19],[8,15,20]]
      [some (.agg #[.int .i64 s.years, .slice s.A1 s.rivers.length s.c1]), some (.slice (some adl) s.lics.length s.c2), some (.int .i64 k), some (.pointer (some (adl.add (k * 4)))), some (.agg #[.int .i64 L.f0, .int .i64 L.f1, .int .i64 L.f2, .int .i64 L.f3]), some (.agg #[.int .i64 T.f0, .int .i64 T.f1.f0, .int .i64 T.f1.f1, .int .i64 T.f2]), none, none, none, some undef, some undef, some undef, some undef, some undef, some undef, some undef, some undef, some undef, some undef, some undef, some undef, some undef]
      (fun f u W' => Aside0 (GdMem false wr f u W')) ?hlit10 (by kernel_rfl) (by kernel_rfl) (by decide) ?_ ?_ ?_ ?_ ?_
     case hlit10 =>
      intro u
      simp only [List.take_succ_cons, List.take_zero, List.map_cons, List.map_nil, setAll, Nat.reduceAdd, Act.put, List.setIfInBounds_toArray, List.set_cons_succ, List.set_cons_zero]
      try rfl
     ·intro u w2 hw
      exact zk ⟨hw.below _, fun h => (by cases h), fun h => (by cases h), fun h => (by cases h)⟩
     ·intro i v f u W' hv h
      have k6 : (6 : Nat) ≠ i := by rintro rfl; cases hv
      have k7 : (7 : Nat) ≠ i := by rintro rfl; cases hv
      have k8 : (8 : Nat) ≠ i := by rintro rfl; cases hv
      obtain ⟨⟨a0, a6, a7, a8⟩⟩ := h
      exact ⟨⟨a0, by rw [upd_ne k6, upf_ne k6]; exact a6, by rw [upd_ne k7, upf_ne k7]; exact a7, by rw [upd_ne k8, upf_ne k8]; exact a8⟩⟩
     ·intro j o' v hj ho hv f u W' hM hdep hd
      have HQ := BS.out.below hM.out.bw
      have H4W := zk HQ.env.b4
      have H5W := zk HQ.env.b5
      have H11W := zk HQ.h11
      rw [HA2.out] at H4W
      have cl0 := (hM.out.bw.cell (World.block_lt_of_cell? _ _ CL.out.1)).trans CL.out.1
      have cz1 := (hM.out.bw.cell (World.block_lt_of_cell? _ _ CL.out.2.1)).trans CL.out.2.1
      have cz2 := (hM.out.bw.cell (World.block_lt_of_cell? _ _ CL.out.2.2.1)).trans CL.out.2.2.1
      have cz3 := (hM.out.bw.cell (World.block_lt_of_cell? _ _ CL.out.2.2.2)).trans CL.out.2.2.2
      have cu0 := (hM.out.bw.cell (World.block_lt_of_cell? _ _ CU.out)).trans CU.out
      have bt2 := HT.out.2.2
      have buk := HUK.out
      have ilt : (k : Int) < (s.lics.length : Int) := by have := HLK.out; omega
      have ilu : (k : Int) < (used.length : Int) := by have := HLK.out; have := HOK.out.n; omega
      obtain ⟨c_B4_0, f_B4_0, l_B4⟩ := cl1 (W := W') (p := B4) (a := .slice (some adl) s.lics.length s.c2) H4W.out
      obtain ⟨c_B5_0, f_B5_0, c_B5_1, f_B5_1, l_B5⟩ := cl2 (W := W') (p := B5) (a := .int .i64 s.years) (b := .slice s.A1 s.rivers.length s.c1) H5W.out
      obtain ⟨c_p11_0, f_p11_0, c_p11_1, f_p11_1, c_p11_2, f_p11_2, c_p11_3, f_p11_3, l_p11⟩ := cl4 (W := W') (p := p11) (a := .int .i64 T.f0) (b := .int .i64 T.f1.f0) (c := .int .i64 T.f1.f1) (d := .int .i64 T.f2) H11W.out
      clear H4W H5W H11W HQ
      replace hj : j < 22 := hj
      match j, hj with
      |0, _ =>
       cases ho
       cases zs hv
       clear hd hv hM hdep
       gi_wp2
       exact zt
      |1, _ =>
       cases ho
       cases zs hv
       clear hd hv hM hdep
       gi_wp2
       exact zt
      |2, _ =>
       cases ho
       cases zs hv
       clear hd hv hM hdep
       gi_wp2
       exact zt
      |3, _ =>
       cases ho
       cases zs hv
       have e1 := hd 1 _ (by decide) rfl
       have e2 := hd 2 _ (by decide) rfl
       clear hd hv hM hdep
       gi_wp2
       exact zt
      |4, _ =>
       cases ho
       cases zs hv
       have e3 := hd 3 _ (by decide) rfl
       clear hd hv hM hdep
       gi_wp2
       exact zt
      |5, _ =>
       cases ho
       cases zs hv
       clear hd hv hM hdep
       gi_wp2
       exact zt
      |6, _ =>
       cases hv
      |7, _ =>
       cases hv
      |8, _ =>
       cases hv
      |9, _ =>
       cases ho
       cases zs hv
       have e8' := hM.out.m8 (hdep 8 (by decide))
       clear hd hv hM hdep
       gi_wp2
       exact zt
      |10, _ =>
       cases ho
       cases zs hv
       have e8' := hM.out.m8 (hdep 8 (by decide))
       clear hd hv hM hdep
       gi_wp2
       exact zt
      |11, _ =>
       cases ho
       cases zs hv
       have e8' := hM.out.m8 (hdep 8 (by decide))
       have e9 := hd 9 _ (by decide) rfl
       have e10 := hd 10 _ (by decide) rfl
       clear hd hv hM hdep
       gi_wp2
       exact zt
      |12, _ =>
       cases ho
       cases zs hv
       have e8' := hM.out.m8 (hdep 8 (by decide))
       have e11 := hd 11 _ (by decide) rfl
       clear hd hv hM hdep
       gi_wp2
       exact zt
      |13, _ =>
       cases ho
       cases zs hv
       have e8' := hM.out.m8 (hdep 8 (by decide))
       clear hd hv hM hdep
       gi_wp2
       exact zt
      |14, _ =>
       cases ho
       cases zs hv
       have e8' := hM.out.m8 (hdep 8 (by decide))
       have e13 := hd 13 _ (by decide) rfl
       clear hd hv hM hdep
       gi_wp2
       exact zt
      |15, _ =>
       cases ho
       cases zs hv
       have e8' := hM.out.m8 (hdep 8 (by decide))
       have e12 := hd 12 _ (by decide) rfl
       have e14 := hd 14 _ (by decide) rfl
       clear hd hv hM hdep
       gi_wp2
       exact zt
      |16, _ =>
       cases ho
       cases zs hv
       have e8' := hM.out.m8 (hdep 8 (by decide))
       clear hd hv hM hdep
       gi_wp2
       exact zt
      |17, _ =>
       cases ho
       cases zs hv
       have e8' := hM.out.m8 (hdep 8 (by decide))
       clear hd hv hM hdep
       gi_wp2
       exact zt
      |18, _ =>
       cases ho
       cases zs hv
       have e8' := hM.out.m8 (hdep 8 (by decide))
       have e16 := hd 16 _ (by decide) rfl
       have e17 := hd 17 _ (by decide) rfl
       clear hd hv hM hdep
       gi_wp2
       exact zt
      |19, _ =>
       cases ho
       cases zs hv
       have e8' := hM.out.m8 (hdep 8 (by decide))
       have e18 := hd 18 _ (by decide) rfl
       clear hd hv hM hdep
       gi_wp2
       exact zt
      |20, _ =>
       cases ho
       cases zs hv
       have e8' := hM.out.m8 (hdep 8 (by decide))
       have e19 := hd 19 _ (by decide) rfl
       clear hd hv hM hdep
       gi_wp2
       exact zt
      |21, _ =>
       cases ho
       cases zs hv
       have e8' := hM.out.m8 (hdep 8 (by decide))
       have e15 := hd 15 _ (by decide) rfl
       have e20 := hd 20 _ (by decide) rfl
       clear hd hv hM hdep
       gi_wp2
       exact zt
      |j + 22, hj => exact absurd hj (by omega)
     ·intro j o' hj ho hv f u W' hM hb hdep hq hd
      obtain ⟨⟨a0, a6, a7, a8⟩⟩ := hM
      have A0 := zk a0
      match j, hj with
      |0, _ => cases hv
      |1, _ => cases hv
      |2, _ => cases hv
      |3, _ => cases hv
      |4, _ => cases hv
      |5, _ => cases hv
      |9, _ => cases hv
      |10, _ => cases hv
      |11, _ => cases hv
      |12, _ => cases hv
      |13, _ => cases hv
      |14, _ => cases hv
      |15, _ => cases hv
      |16, _ => cases hv
      |17, _ => cases hv
      |18, _ => cases hv
      |19, _ => cases hv
      |20, _ => cases hv
      |21, _ => cases hv
      |6, _ =>
       cases ho
       have e0' := hd 0 _ (by decide) rfl
       have e4' := hd 4 _ (by decide) rfl
       have e5' := hd 5 _ (by decide) rfl
       have FF := zk (And.intro (hq 7 (by decide) (by decide)) (hq 8 (by decide) (by decide)))
       have HCL := zk (GOOD.out W' (Kd.F_now (BS.out.below a0).env.f1))
       clear hd hv hq hdep hb a0 a6 a7 a8
       gi_wp2_with (gi_at_call 111; refine (callsIn_wide.2 HCL.out).mono ?_; rintro e W9 ⟨rfl, hB9⟩)
       refine ⟨.bool false, by simp [upf, e0', e4', e5'], zk ⟨bt A0.out hB9, fun _ => upf_self _ _ _, fun h => ?_, fun h => ?_⟩⟩
       ·rw [upd_ne (by decide), FF.out.1] at h; cases h
       ·rw [upd_ne (by decide), FF.out.2] at h; cases h
      |7, _ =>
       cases ho
       have e6' := a6 (hdep 6 (by decide))
       have FF := zk (And.intro a6 (hq 8 (by decide) (by decide)))
       clear hd hv hq hdep hb a0 a6 a7 a8
       gi_wp2
       refine ⟨.bool (!false), by simp [upf, e6'], zk ⟨A0.out, fun h => ?_, fun _ => upf_self _ _ _, fun h => ?_⟩⟩
       ·rw [upf_ne (by decide)]; exact e6'
       ·rw [upd_ne (by decide), FF.out.2] at h; cases h
      |8, _ =>
       cases ho
       have e7' := a7 (hdep 7 (by decide))
       have FF := zk a6
       clear hd hv hq hdep hb a0 a6 a7 a8
       gi_wp2
       refine ⟨.bool (!false), by simp [upf, e7'], zk ⟨A0.out, fun h => ?_, fun h => ?_, fun _ => upf_self _ _ _⟩⟩
       ·rw [upf_ne (by decide)]; rw [upd_ne (by decide)] at h; exact FF.out h
       ·rw [upf_ne (by decide)]; exact e7'
      |j + 22, hj => exact absurd hj (by omega)
     ·intro f u W' hall hM hd
      have e8' : u 8 = .bool true := hM.out.m8 (hall 8 (by decide))
      have e21' := hd 21 _ (by decide) rfl
      have B2S := zk (BS.out.below hM.out.bw)
      have J2S := zk (HE.stab _ _ _ _ JS.out (Chg.fresh hM.out.bw))
      clear hall hd hM
      gi_wp2
      go_roundw
      case rel =>
       refine ⟨k + 1, own3, by have := HLK.out; omega, by go_num, B2S, ⟨?_⟩⟩
       rw [HRS.out, ← HKF.out, HFIT.out]
       simpa using J2S.out
      case measure => have := HLK.out; simp [intOf]; omega
    |true =>
     gi_wp2
     refine region_litIn (lit := ?lit10t) 22 [[],[],[],[1,2],[3],[],[0,4,5],[6],[6,7],[8],[8],[8,9,10],[8,11],[8],[8,13],[8,12,14],[8],[8],[8,16,17],[8,18],[8,19],[8,15,20]]
      [some (.agg #[.int .i64 s.years, .slice s.A1 s.rivers.length s.c1]), some (.slice (some adl) s.lics.length s.c2), some (.int .i64 k), some (.pointer (some (adl.add (k * 4)))), some (.agg #[.int .i64 L.f0, .int .i64 L.f1, .int .i64 L.f2, .int .i64 L.f3]), some (.agg #[.int .i64 T.f0, .int .i64 T.f1.f0, .int .i64 T.f1.f1, .int .i64 T.f2]), none, none, none, some (.slice (some adu) used.length cu), some (.int .i64 k), some (.pointer (some (adu.add k))), some (.int .i64 uk), some (.pointer (some ⟨p11, 3, none⟩)), some (.int .i64 T.f2), some (.int .i64 (uk + T.f2)), some (.slice (some adl) s.lics.length s.c2), some (.int .i64 k), some (.pointer (some (adl.add (k * 4)))), some (.pointer (some ⟨(adl.add (k * 4)).block, (adl.add (k * 4)).off + 3, none⟩)), some (.int .i64 L.f3), some (.bool (decide (L.f3 < uk + T.f2)))]
      (fun f u W' => Aside0 (GdMem true wr f u W')) ?hlit10t (by kernel_rfl) (by kernel_rfl) (by decide) ?_ ?_ ?_ ?_ ?_
     case hlit10t =>
      intro u
      simp only [List.take_succ_cons, List.take_zero, List.map_cons, List.map_nil, setAll, Nat.reduceAdd, Act.put, List.setIfInBounds_toArray, List.set_cons_succ, List.set_cons_zero]
      try rfl
     ·intro u w2 hw
      exact zk ⟨hw.below _, fun h => (by cases h), fun h => (by cases h), fun h => (by cases h)⟩
     ·intro i v f u W' hv h
      have k6 : (6 : Nat) ≠ i := by rintro rfl; cases hv
      have k7 : (7 : Nat) ≠ i := by rintro rfl; cases hv
      have k8 : (8 : Nat) ≠ i := by rintro rfl; cases hv
      obtain ⟨⟨a0, a6, a7, a8⟩⟩ := h
      exact ⟨⟨a0, by rw [upd_ne k6, upf_ne k6]; exact a6, by rw [upd_ne k7, upf_ne k7]; exact a7, by rw [upd_ne k8, upf_ne k8]; exact a8⟩⟩
     ·intro j o' v hj ho hv f u W' hM hdep hd
      have HQ := BS.out.below hM.out.bw
      have H4W := zk HQ.env.b4
      have H5W := zk HQ.env.b5
      have H11W := zk HQ.h11
      rw [HA2.out] at H4W
      have cl0 := (hM.out.bw.cell (World.block_lt_of_cell? _ _ CL.out.1)).trans CL.out.1
      have cz1 := (hM.out.bw.cell (World.block_lt_of_cell? _ _ CL.out.2.1)).trans CL.out.2.1
      have cz2 := (hM.out.bw.cell (World.block_lt_of_cell? _ _ CL.out.2.2.1)).trans CL.out.2.2.1
      have cz3 := (hM.out.bw.cell (World.block_lt_of_cell? _ _ CL.out.2.2.2)).trans CL.out.2.2.2
      have cu0 := (hM.out.bw.cell (World.block_lt_of_cell? _ _ CU.out)).trans CU.out
      have bt2 := HT.out.2.2
      have buk := HUK.out
      have ilt : (k : Int) < (s.lics.length : Int) := by have := HLK.out; omega
      have ilu : (k : Int) < (used.length : Int) := by have := HLK.out; have := HOK.out.n; omega
      obtain ⟨c_B4_0, f_B4_0, l_B4⟩ := cl1 (W := W') (p := B4) (a := .slice (some adl) s.lics.length s.c2) H4W.out
      obtain ⟨c_B5_0, f_B5_0, c_B5_1, f_B5_1, l_B5⟩ := cl2 (W := W') (p := B5) (a := .int .i64 s.years) (b := .slice s.A1 s.rivers.length s.c1) H5W.out
      obtain ⟨c_p11_0, f_p11_0, c_p11_1, f_p11_1, c_p11_2, f_p11_2, c_p11_3, f_p11_3, l_p11⟩ := cl4 (W := W') (p := p11) (a := .int .i64 T.f0) (b := .int .i64 T.f1.f0) (c := .int .i64 T.f1.f1) (d := .int .i64 T.f2) H11W.out
      clear H4W H5W H11W HQ
      replace hj : j < 22 := hj
      match j, hj with
      |0, _ =>
       cases ho
       cases zs hv
       clear hd hv hM hdep
       gi_wp2
       exact zt
      |1, _ =>
       cases ho
       cases zs hv
       clear hd hv hM hdep
       gi_wp2
       exact zt
      |2, _ =>
       cases ho
       cases zs hv
       clear hd hv hM hdep
       gi_wp2
       exact zt
      |3, _ =>
       cases ho
       cases zs hv
       have e1 := hd 1 _ (by decide) rfl
       have e2 := hd 2 _ (by decide) rfl
       clear hd hv hM hdep
       gi_wp2
       exact zt
      |4, _ =>
       cases ho
       cases zs hv
       have e3 := hd 3 _ (by decide) rfl
       clear hd hv hM hdep
       gi_wp2
       exact zt
      |5, _ =>
       cases ho
       cases zs hv
       clear hd hv hM hdep
       gi_wp2
       exact zt
      |6, _ =>
       cases hv
      |7, _ =>
       cases hv
      |8, _ =>
       cases hv
      |9, _ =>
       cases ho
       cases zs hv
       have e8' := hM.out.m8 (hdep 8 (by decide))
       clear hd hv hM hdep
       gi_wp2
       exact zt
      |10, _ =>
       cases ho
       cases zs hv
       have e8' := hM.out.m8 (hdep 8 (by decide))
       clear hd hv hM hdep
       gi_wp2
       exact zt
      |11, _ =>
       cases ho
       cases zs hv
       have e8' := hM.out.m8 (hdep 8 (by decide))
       have e9 := hd 9 _ (by decide) rfl
       have e10 := hd 10 _ (by decide) rfl
       clear hd hv hM hdep
       gi_wp2
       exact zt
      |12, _ =>
       cases ho
       cases zs hv
       have e8' := hM.out.m8 (hdep 8 (by decide))
       have e11 := hd 11 _ (by decide) rfl
       clear hd hv hM hdep
       gi_wp2
       exact zt
      |13, _ =>
       cases ho
       cases zs hv
       have e8' := hM.out.m8 (hdep 8 (by decide))
       clear hd hv hM hdep
       gi_wp2
       exact zt
      |14, _ =>
       cases ho
       cases zs hv
       have e8' := hM.out.m8 (hdep 8 (by decide))
       have e13 := hd 13 _ (by decide) rfl
       clear hd hv hM hdep
       gi_wp2
       exact zt
      |15, _ =>
       cases ho
       cases zs hv
       have e8' := hM.out.m8 (hdep 8 (by decide))
       have e12 := hd 12 _ (by decide) rfl
       have e14 := hd 14 _ (by decide) rfl
       clear hd hv hM hdep
       gi_wp2
       exact zt
      |16, _ =>
       cases ho
       cases zs hv
       have e8' := hM.out.m8 (hdep 8 (by decide))
       clear hd hv hM hdep
       gi_wp2
       exact zt
      |17, _ =>
       cases ho
       cases zs hv
       have e8' := hM.out.m8 (hdep 8 (by decide))
       clear hd hv hM hdep
       gi_wp2
       exact zt
      |18, _ =>
       cases ho
       cases zs hv
       have e8' := hM.out.m8 (hdep 8 (by decide))
       have e16 := hd 16 _ (by decide) rfl
       have e17 := hd 17 _ (by decide) rfl
       clear hd hv hM hdep
       gi_wp2
       exact zt
      |19, _ =>
       cases ho
       cases zs hv
       have e8' := hM.out.m8 (hdep 8 (by decide))
       have e18 := hd 18 _ (by decide) rfl
       clear hd hv hM hdep
       gi_wp2
       exact zt
      |20, _ =>
       cases ho
       cases zs hv
       have e8' := hM.out.m8 (hdep 8 (by decide))
       have e19 := hd 19 _ (by decide) rfl
       clear hd hv hM hdep
       gi_wp2
       exact zt
      |21, _ =>
       cases ho
       cases zs hv
       have e8' := hM.out.m8 (hdep 8 (by decide))
       have e15 := hd 15 _ (by decide) rfl
       have e20 := hd 20 _ (by decide) rfl
       clear hd hv hM hdep
       gi_wp2
       exact zt
      |j + 22, hj => exact absurd hj (by omega)
     ·intro j o' hj ho hv f u W' hM hb hdep hq hd
      obtain ⟨⟨a0, a6, a7, a8⟩⟩ := hM
      have A0 := zk a0
      match j, hj with
      |0, _ => cases hv
      |1, _ => cases hv
      |2, _ => cases hv
      |3, _ => cases hv
      |4, _ => cases hv
      |5, _ => cases hv
      |9, _ => cases hv
      |10, _ => cases hv
      |11, _ => cases hv
      |12, _ => cases hv
      |13, _ => cases hv
      |14, _ => cases hv
      |15, _ => cases hv
      |16, _ => cases hv
      |17, _ => cases hv
      |18, _ => cases hv
      |19, _ => cases hv
      |20, _ => cases hv
      |21, _ => cases hv
      |6, _ =>
       cases ho
       have e0' := hd 0 _ (by decide) rfl
       have e4' := hd 4 _ (by decide) rfl
       have e5' := hd 5 _ (by decide) rfl
       have FF := zk (And.intro (hq 7 (by decide) (by decide)) (hq 8 (by decide) (by decide)))
       have HCL := zk (GOOD.out W' (Kd.F_now (BS.out.below a0).env.f1))
       clear hd hv hq hdep hb a0 a6 a7 a8
       gi_wp2_with (gi_at_call 111; refine (callsIn_wide.2 HCL.out).mono ?_; rintro e W9 ⟨rfl, hB9⟩)
       refine ⟨.bool true, by simp [upf, e0', e4', e5'], zk ⟨bt A0.out hB9, fun _ => upf_self _ _ _, fun h => ?_, fun h => ?_⟩⟩
       ·rw [upd_ne (by decide), FF.out.1] at h; cases h
       ·rw [upd_ne (by decide), FF.out.2] at h; cases h
      |7, _ =>
       cases ho
       have e6' := a6 (hdep 6 (by decide))
       have FF := zk (And.intro a6 (hq 8 (by decide) (by decide)))
       clear hd hv hq hdep hb a0 a6 a7 a8
       gi_wp2
       refine ⟨.bool (!true), by simp [upf, e6'], zk ⟨A0.out, fun h => ?_, fun _ => upf_self _ _ _, fun h => ?_⟩⟩
       ·rw [upf_ne (by decide)]; exact e6'
       ·rw [upd_ne (by decide), FF.out.2] at h; cases h
      |8, _ =>
       cases ho
       have e7' := a7 (hdep 7 (by decide))
       have FF := zk a6
       clear hd hv hq hdep hb a0 a6 a7 a8
       gi_wp2
       refine ⟨.bool (!true), by simp [upf, e7'], zk ⟨A0.out, fun h => ?_, fun h => ?_, fun _ => upf_self _ _ _⟩⟩
       ·rw [upf_ne (by decide)]; rw [upd_ne (by decide)] at h; exact FF.out h
       ·rw [upf_ne (by decide)]; exact e7'
      |j + 22, hj => exact absurd hj (by omega)
     ·intro f u WQ hall hM hd
      have BRAW := zk hM.out.bw
      have e8' : u 8 = .bool false := hM.out.m8 (hall 8 (by decide))
      have e21' := hd 21 _ (by decide) rfl
      have B2S := zk (BS.out.below hM.out.bw)
      have J2S := zk (HE.stab _ _ _ _ JS.out (Chg.fresh hM.out.bw))
      clear hall hd hM
      have HBR := zk (BRAW.out)
      by_cases hf : L.f3 < uk + T.f2
      ·have hfb : decide (L.f3 < uk + T.f2) = true := by simpa using hf
       have hf2 : decide (uk + T.f2 ≤ L.f3) = false := by simpa using hf
       gi_wp2
       go_roundw
       case rel =>
        refine ⟨k + 1, own3, by have := HLK.out; omega, by go_num, B2S, ⟨?_⟩⟩
        rw [HRS.out, ← HKF.out, HFIT.out, hf2]
        simpa using J2S.out
       case measure => have := HLK.out; simp [intOf]; omega
      ·have hfb : decide (L.f3 < uk + T.f2) = false := by simpa using hf
       have hf2 : uk + T.f2 ≤ L.f3 := by omega
       have HF2 := zk hf2
       have HCU := zk (clone161 (some adu) used.length cu (nums64 used) WQ (raw_int (Kd.F_now B2S.out.us.f)) (by have := HOK.out.n; omega))
       clear hf hf2
       gi_wp2_with (first
        |(gi_at_call 161
          refine (callsIn_wide.2 HCU.out).mono ?_
          rintro e W9 ⟨v9, rfl, hown9, hB9⟩
          obtain ⟨gu, cu2, rfl⟩ : ∃ g c, v9 = .slice (some ⟨g, 0, none⟩) used.length c := by
           rcases hown9.2 with ⟨_, h0⟩ | ⟨g, cap, cur, e, _⟩
           ·have := HLK.out; have := HOK.out.n; omega
           ·exact ⟨g, cap, e⟩
          have HOU := zk hown9
          have HB9 := zk hB9
          have B9S := zk (B2S.out.below hB9)
          clear hown9 hB9))
       have HUC := zk (show (nums64 used)[k]? = some (.int .i64 uk) by
        have hku : k < used.length := by have := HLK.out; have := HOK.out.n; omega
        have e : uk = used[k] := by rw [HUKE.out]; simp [List.getD_eq_getElem?_getD, hku]
        rw [e]
        simp [nums64, hku])
       refine region_litIn (lit := ?lit12) 8 [[],[],[0,1],[2],[],[4],[3,5],[0,1,2,3,4,5,6]]
        [some (.slice (some ⟨gu, 0, none⟩) used.length cu2), some (.int .i64 k), some (.pointer (some ⟨gu, k, none⟩)), some (.int .i64 uk), some (.pointer (some ⟨p11, 3, none⟩)), some (.int .i64 T.f2), some (.int .i64 (uk + T.f2)), some (.pointer (some ⟨gu, k, none⟩))]
        (fun f u W' => Aside0 (Below W9.heap.size W9 W')) ?hlit12 (by kernel_rfl) (by kernel_rfl) (by decide) ?_ ?_ ?_ ?_ ?_
       case hlit12 =>
        intro u
        simp only [List.take_succ_cons, List.take_zero, List.map_cons, List.map_nil, setAll, Nat.reduceAdd, Act.put, List.setIfInBounds_toArray, List.set_cons_succ, List.set_cons_zero]
        try rfl
       ·intro u w2 hw
        exact zk (hw.below _)
       ·intro i v f u W' hv h
        exact h
       ·intro j o' v hj ho hv f u W' hM hdep hd
        have H11W := zk (blk_below B9S.out.h11 hM.out)
        have cu9 := (own_cell (pw_own_below HOU.out hM.out) k _ HUC.out).1
        have bt2 := HT.out.2.2
        have buk := HUK.out
        have ilu : (k : Int) < (used.length : Int) := by have := HLK.out; have := HOK.out.n; omega
        obtain ⟨c_p11_0, f_p11_0, c_p11_1, f_p11_1, c_p11_2, f_p11_2, c_p11_3, f_p11_3, l_p11⟩ := cl4 (W := W') (p := p11) (a := .int .i64 T.f0) (b := .int .i64 T.f1.f0) (c := .int .i64 T.f1.f1) (d := .int .i64 T.f2) H11W.out
        clear H11W hM hdep
        replace hj : j < 8 := hj
        match j, hj with
        |0, _ =>
         cases ho
         cases zs hv
         clear hd hv
         gi_wp2
         exact zt
        |1, _ =>
         cases ho
         cases zs hv
         clear hd hv
         gi_wp2
         exact zt
        |2, _ =>
         cases ho
         cases zs hv
         have e0 := hd 0 _ (by decide) rfl
         have e1 := hd 1 _ (by decide) rfl
         clear hd hv
         gi_wp2
         exact zt
        |3, _ =>
         cases ho
         cases zs hv
         have e2 := hd 2 _ (by decide) rfl
         clear hd hv
         gi_wp2
         exact zt
        |4, _ =>
         cases ho
         cases zs hv
         clear hd hv
         gi_wp2
         exact zt
        |5, _ =>
         cases ho
         cases zs hv
         have e4 := hd 4 _ (by decide) rfl
         clear hd hv
         gi_wp2
         exact zt
        |6, _ =>
         cases ho
         cases zs hv
         have e3 := hd 3 _ (by decide) rfl
         have e5 := hd 5 _ (by decide) rfl
         clear hd hv
         gi_wp2
         exact zt
        |7, _ =>
         cases ho
         cases zs hv
         have e0 := hd 0 _ (by decide) rfl
         have e1 := hd 1 _ (by decide) rfl
         have e2 := hd 2 _ (by decide) rfl
         have e3 := hd 3 _ (by decide) rfl
         have e4 := hd 4 _ (by decide) rfl
         have e5 := hd 5 _ (by decide) rfl
         have e6 := hd 6 _ (by decide) rfl
         clear hd hv
         gi_wp2
         exact zt
       ·intro j o' hj ho hv f u W' hM hb hdep hq hd
        match j, hj with
        |0, _ => cases hv
        |1, _ => cases hv
        |2, _ => cases hv
        |3, _ => cases hv
        |4, _ => cases hv
        |5, _ => cases hv
        |6, _ => cases hv
        |7, _ => cases hv
        |j + 8, hj => exact absurd hj (by omega)
       ·intro f u W5 hall hM hd
        have e6' := hd 6 _ (by decide) rfl
        have e7' := hd 7 _ (by decide) rfl
        have HOU5 := zk (pw_own_below HOU.out hM.out)
        obtain ⟨cu5, fu5⟩ := own_cell HOU5.out k _ HUC.out
        have lu5 := World.block_lt_of_cell? _ _ cu5
        have HB5 := zk (show Below wr.heap.size wr (W5.setCell ⟨gu, k, none⟩ (.int .i64 (uk + T.f2))) from below_set (bt (bt HBR.out HB9.out) hM.out) (Nat.le_trans HBR.out.size (own_base HOU.out gu rfl)))
        have HU5 := zk (show (W5.setCell ⟨gu, k, none⟩ (.int .i64 (uk + T.f2))).ownsRow WQ.heap.size 3 1 (.slice (some ⟨gu, 0, none⟩) used.length cu2) used.length (nums64 (used.set k (uk + T.f2))) from by
         have h := (HOU5.out.stored k (.int .i64 (uk + T.f2))).1
         have e : (nums64 used).set k (.int .i64 (uk + T.f2)) = nums64 (used.set k (uk + T.f2)) := by simp [nums64, List.map_set]
         rw [← e]
         exact h)
        clear hall hd hM
        gi_wp2
        generalize W5.setCell ⟨gu, k, none⟩ (.int .i64 (uk + T.f2)) = W6 at HB5 HU5 ⊢
        have BS6 := zk (BS.out.below HB5.out)
        have JS6 := zk (HE.stab _ _ _ _ JS.out (Chg.fresh HB5.out))
        refine region_litIn (lit := ?lit13) 11 [[],[],[1],[2],[],[4],[3,5],[],[7],[3,5,6,8],[]]
         [some (.func (.func 160) #[] #[.pointer (some ⟨B1, 0, none⟩), .pointer (some ⟨B2, 0, none⟩), .pointer (some ⟨B3, 0, none⟩), .pointer (some ⟨B4, 0, none⟩), .pointer (some ⟨B5, 0, none⟩)]), some (.pointer (some ⟨p7, 0, none⟩)), some (.slice A x.1.length c), none, some (.int .i64 k), none, none, some (.pointer (some ⟨p7, 1, none⟩)), some (.int .i64 x.2), none, some (.slice (some ⟨gu, 0, none⟩) used.length cu2)]
         (fun f u W' => Aside0 (AdMem 3 5 6 9 x.1 (k : Int) x.2 W6 f u W')) ?hlit13 (by kernel_rfl) (by kernel_rfl) (by decide) ?_ ?_ ?_ ?_ ?_
        case hlit13 =>
         intro u
         simp only [List.take_succ_cons, List.take_zero, List.map_cons, List.map_nil, setAll, Nat.reduceAdd, Act.put, List.setIfInBounds_toArray, List.set_cons_succ, List.set_cons_zero]
         try rfl
        ·intro u w2 hw
         exact zk (AdMem.start (hw.below _))
        ·intro i v f u W' hv h
         have k3 : (3 : Nat) ≠ i := by rintro rfl; cases hv
         have k5 : (5 : Nat) ≠ i := by rintro rfl; cases hv
         have k6 : (6 : Nat) ≠ i := by rintro rfl; cases hv
         have k9 : (9 : Nat) ≠ i := by rintro rfl; cases hv
         exact zk (h.out.other i v k3 k5 k6 k9)
        ·intro j o' v hj ho hv f u W' hM hdep hd
         have HQ := BS6.out.below hM.out.bw
         have H7W := zk HQ.h7
         have H3W := zk HQ.env.b3
         have brest := HOK.out.rest
         have bx6 := HX6.out
         obtain ⟨c_p7_0, f_p7_0, c_p7_1, f_p7_1, l_p7⟩ := cl2 (W := W') (p := p7) (a := .slice A x.1.length c) (b := .int .i64 x.2) H7W.out
         obtain ⟨c_B3_0, f_B3_0, l_B3⟩ := cl1 (W := W') (p := B3) (a := .func (.func 160) #[] #[.pointer (some ⟨B1, 0, none⟩), .pointer (some ⟨B2, 0, none⟩), .pointer (some ⟨B3, 0, none⟩), .pointer (some ⟨B4, 0, none⟩), .pointer (some ⟨B5, 0, none⟩)]) H3W.out
         clear H7W H3W HQ
         clear hM hdep
         replace hj : j < 11 := hj
         match j, hj with
         |0, _ =>
          cases ho
          cases zs hv
          clear hd hv
          gi_wp2
          exact zt
         |1, _ =>
          cases ho
          cases zs hv
          clear hd hv
          gi_wp2
          exact zt
         |2, _ =>
          cases ho
          cases zs hv
          have e1 := hd 1 _ (by decide) rfl
          clear hd hv
          gi_wp2
          exact zt
         |3, _ =>
          cases hv
         |4, _ =>
          cases ho
          cases zs hv
          clear hd hv
          gi_wp2
          exact zt
         |5, _ =>
          cases hv
         |6, _ =>
          cases hv
         |7, _ =>
          cases ho
          cases zs hv
          clear hd hv
          gi_wp2
          exact zt
         |8, _ =>
          cases ho
          cases zs hv
          have e7 := hd 7 _ (by decide) rfl
          clear hd hv
          gi_wp2
          exact zt
         |9, _ =>
          cases hv
         |10, _ =>
          cases ho
          cases zs hv
          clear hd hv
          gi_wp2
          exact zt
        ·intro j o' hj ho hv f u W' hM hb hdep hq hd
         match j, hj with
         |0, _ => cases hv
         |1, _ => cases hv
         |2, _ => cases hv
         |4, _ => cases hv
         |7, _ => cases hv
         |8, _ => cases hv
         |10, _ => cases hv
         |3, _ =>
          cases ho
          have e2' := hd 2 _ (by decide) rfl
          have HM := zk (And.intro hM.out (And.intro (hq 6 (by decide) (by decide)) (hq 9 (by decide) (by decide))))
          have HCL := zk (clone161 A x.1.length c (nums64 x.1) W' (RAWX.out own3 W' (BS6.out.below hM.out.bw)) (by have := HX6.out; omega))
          clear hd hv hq hdep hb hM
          gi_wp2_with (gi_at_call 161; refine (callsIn_wide.2 HCL.out).mono ?_; rintro e W9 ⟨v9, rfl, hown9, hB9⟩)
          exact ⟨v9, by simp [upf, e2'], zk (HM.out.1.clone (by decide) HM.out.2.1 HM.out.2.2 hown9 hB9)⟩
         |5, _ =>
          cases ho
          have HM := zk (And.intro hM.out (And.intro (hq 6 (by decide) (by decide)) (hq 9 (by decide) (by decide))))
          have e4' := hd 4 _ (by decide) rfl
          clear hd hv hq hdep hb hM
          gi_wp2
          exact ⟨.slice (some ⟨W'.heap.size, 0, none⟩) 1 1, by simp [upf, e4'], zk (HM.out.1.build (by decide) HM.out.2.1 HM.out.2.2)⟩
         |6, _ =>
          cases ho
          have f3 := hdep 3 (by decide)
          obtain ⟨g4, e4', h4⟩ := hM.out.m4 (hdep 5 (by decide)) hb
          have HM := zk (And.intro hM.out (And.intro f3 (And.intro hb (hq 9 (by decide) (by decide)))))
          have HO3 := zk (hM.out.m3 f3 hb)
          have HC := zk (show ∀ (j : Nat) (u' : Value), [Value.int .i64 (k : Int)][j]? = some u' → W'.cell? ((⟨g4, 0, none⟩ : Addr).add j) = some u' from fun j u' hj => by
           rw [add_plain]
           match j, hj with
           |0, hj => cases hj; exact blk_cell h4 0)
          clear hd hv hq hdep hb hM f3 h4
          obtain ⟨i0, hi0, hzz⟩ := Option.map_eq_some_iff.1 info3
          simp only [Prod.mk.injEq] at hzz
          obtain ⟨hz0, hz1, hz2⟩ := hzz
          have HI0 := zk (And.intro hi0 (And.intro hz0 (And.intro hz1 hz2)))
          clear hi0 hz0 hz1 hz2
          refine wpListIn_append_own_at _ rfl (.tmp 84) (.tmp 86) 28 rfl W6.heap.size 3 i0 _ 1 8 Tryz.underlying28 HI0.out.1 HI0.out.2.1 HI0.out.2.2.1 HI0.out.2.2.2 rfl (by decide) (u 3) x.1.length (nums64 x.1) rfl HO3.out ⟨g4, 0, none⟩ 1 1 [.int .i64 (k : Int)] e4' rfl HC.out (by intro u' hu'; simp at hu'; rw [hu']; rfl) (by have := HX6.out; simp only [maxLen]; omega) (by have := HX6.out; omega) HM.out.1.bw.size ?_
          intro v8 W8 hown8 hg8 _ hat8
          have HO8 := zk hown8
          have HG8 := zk hg8
          clear hown8 hg8 hat8 HC HO3
          gi_wp2
          exact ⟨v8, by simp [upf, Act.put], zk (HM.out.1.append (by decide) HM.out.2.1 HM.out.2.2.1 HM.out.2.2.2 HO8.out HG8.out)⟩
         |9, _ =>
          cases ho
          have HM := zk hM.out
          obtain ⟨A5, c5, e5', _, _⟩ := hM.out.m5 (hdep 6 (by decide))
          have e8' := hd 8 _ (by decide) rfl
          clear hd hv hq hdep hb hM
          gi_wp2
          refine ⟨.agg #[u 6, .int .i64 x.2], by simp [upf, e5'], zk (HM.out.pack (by decide))⟩
         |j + 11, hj => exact absurd hj (by omega)
        ·intro f u W' hall hM hd
         have e0' := hd 0 _ (by decide) rfl
         have e10' := hd 10 _ (by decide) rfl
         have e9' := hM.out.m11 (hall 9 (by decide))
         obtain ⟨A5, c5, e5', hle5, hF5⟩ := hM.out.m5 (hall 6 (by decide))
         rw [e5'] at e9'
         have HI7 := zk (BS6.out.below hM.out.bw)
         have HJ7 := zk (HE.stab _ _ _ _ JS6.out (Chg.fresh hM.out.bw))
         have hlo7 : W.heap.size ≤ W'.heap.size := HI7.out.mv.size
         have hnw : ∀ k', W6.heap.size ≤ k' → ¬ own3 k' := fun k' h1 h2 => by have := HE.lt _ _ _ JS6.out _ h2; omega
         have hng : ¬ own3 gu := fun h2 => by
          have := HE.lt _ _ _ JS.out _ h2
          have := own_base HOU.out gu rfl
          have := HBR.out.size
          omega
         have HS7 := zk (show DAx (fun k => W6.heap.size ≤ k ∧ k < W'.heap.size) own3 W'.heap.size W' (x.1 ++ [(k : Int)]) A5 c5 from ⟨Kd.F_bound hF5, fun k' hk' => ⟨hnw k' hk'.1, hk'.2⟩, hle5⟩)
         obtain ⟨Au9, cu9, eu9, hz9, hleu, hFu⟩ := ownI_F (show W'.ownsRow WQ.heap.size 3 1 (.slice (some ⟨gu, 0, none⟩) used.length cu2) used.length (nums64 (used.set k (uk + T.f2))) from pw_own_below HU5.out hM.out.bw)
         have hul : (used.set k (uk + T.f2)).length = used.length := by simp
         obtain ⟨used2, eu2⟩ : ∃ used2, used2 = used.set k (uk + T.f2) := ⟨_, rfl⟩
         rw [← eu2] at hFu hul
         simp only [Value.slice.injEq] at eu9
         obtain ⟨eu9a, eu9b, eu9c⟩ := eu9
         clear eu9b hz9
         rw [← eu9a] at hFu
         rw [← eu9c] at hleu
         have HU7 := zk (show DAt own3 W'.heap.size W' used2 (some ⟨gu, 0, none⟩) cu2 from ⟨Kd.F_mono (Kd.F_bound hFu) (fun k' hk' => ⟨by
          have e : k' = gu := by simpa [Value.ownBlock] using hk'.1
          rw [e]; exact hng, hk'.2⟩), by rw [hul]; exact hleu⟩)
         obtain ⟨y2, ey⟩ : ∃ y2 : Dl, y2 = (x.1 ++ [(k : Int)], x.2) := ⟨_, rfl⟩
         have hy1 : x.1 ++ [(k : Int)] = y2.1 := by rw [ey]
         have hy2 : x.2 = y2.2 := by rw [ey]
         rw [hy1] at e9' HS7
         have hyl : y2.1.length = x.1.length + 1 := by rw [← hy1]; simp
         have hkF : KF k = dealsFrom s d y2 used2 := by
          rw [← HKF.out, HFIT.out, if_pos (by simpa using HF2.out), ey, eu2, HUKE.out, ← HTE.out]
         have hyo : DlOk s y2 used2 := by
          have h := HOK.out.some_ hs HLT.out k HLK.out (by rw [HFIT.out]; simpa using HF2.out)
          rw [ey, eu2, HUKE.out, HTE.out]
          exact h
         have HIH := zk (fun mm => IH.out y2 (fun k => W6.heap.size ≤ k ∧ k < W'.heap.size) A5 c5 used2 (some ⟨gu, 0, none⟩) cu2 (pre ++ (dealsFrom s d y used ++ (List.range k).flatMap KF)) own3 W' mm (Nat.le_trans HN.out hlo7) (by have := hd'.out; omega) hyo (HI7.out.env.raise hlo7) HS7.out HU7.out HJ7.out (fun t ht => HALL.out t (by
          rw [HDF.out]
          refine List.mem_append_right _ (List.mem_flatMap.2 ⟨k, List.mem_range.2 HLK.out, ?_⟩)
          rw [hkF]
          exact ht)) (fun k hk => Nat.le_trans (Nat.le_trans HN.out BS6.out.mv.size) hk.1))
         rw [hul] at HIH
         unfold dlV at HIH
         rw [← hy2] at HIH
         have HKK := zk hkF
         clear hall hd hM hF5 hle5 e5' ey hy1 hy2 hyl hyo hkF eu2 eu9a eu9c hleu hFu hul hnw hng
         gi_wp2_with (first
          |(gi_at_call 160
            refine (HIH.out _).mono ?_
            rintro e W10 ⟨rfl, own4, hm4, hJ10⟩
            have HI8 := zk (HI7.out.movedD hm4 (fun k hk => Nat.le_trans BS6.out.mv.size hk.1) (fun h => by have := blk_lt BS6.out.h7; have := h.1; omega) (fun h => by have := blk_lt BS6.out.h11; have := h.1; omega))
            have HJ8 := zk hJ10
            clear hm4 hJ10))
         go_roundw
         case rel =>
          refine ⟨k + 1, own4, by have := HLK.out; omega, by go_num, HI8, ⟨?_⟩⟩
          have h := HJ8.out
          rw [HRS.out, HKK.out]
          simpa [List.append_assoc] using h
         case measure => have := HLK.out; simp [intOf]; omega
   ·have hlkz : decide ((k : Int) < (s.lics.length : Int)) = false := by simpa using hlk
    have hk2 : k = s.lics.length := by omega
    subst hk2
    have HF := zk (And.intro BS.out JS.out)
    clear hlk
    gi_wp2
    refine deal_ret (.bool true) rfl ⟨rfl, own3, .of HF.out.1.mv, ?_⟩
    have h := HF.out.2
    rw [HDF.out, ← HTE.out, ← HY.out]
    exact h
theorem deal_calls (s : Lt) (hs : LtGood s) (B1 B2 B3 B4 B5 l N : Nat) (all : List Dl) (J : List Dl → (Nat → Prop) → World → Prop) (HE : EatsD l N all J) : ∀ d, DealC s B1 B2 B3 B4 B5 l N all J d
 |0 => fun x D A c used Au cu pre own W m hN hd hok hE hS hU hJ hall hDN => deal_full s B1 B2 B3 B4 B5 l N all J HE x D A c _ pre own W m hN (by omega) hE hS hJ (hall x (by simp [dealsFrom])) hDN
 |d + 1 => deal_step s hs B1 B2 B3 B4 B5 l N all J HE d (deal_calls s hs B1 B2 B3 B4 B5 l N all J HE d)
end Go.Proofs.YtfijblhfgfefoaaGreatDoor.Rv
end
