/- A part of the proof: words, contracts of functions, and their walks. -/
import Derived.Test.YtfijblhfgfefoaaGreatDoorQLess3
import Derived.Test.YtfijblhfgfefoaaGreatDoorQLess28
set_option linter.unusedVariables false
set_option linter.unusedSimpArgs false
section
namespace Go.Proofs.YtfijblhfgfefoaaGreatDoor.Rv
open Go.RowKit Go.Shelf Go.IntWalk Go.Proofs.YtfijblhfgfefoaaGreatDoor.PAll Go.Proofs.YtfijblhfgfefoaaGreatDoorW.PrintWords Go.Proofs.YtfijblhfgfefoaaGreatDoorW.PrintLast
attribute [local go_sem] Oper.semAt_some wide_fn wide_depth
theorem weather_results (tm : Array Value) (W : World) (v u : Value) (h4 : tm.getD 4 undef = v) (h5 : tm.getD 5 undef = u) : (results Tryz.f34 tm).run Tryz.prog W = .ok (.tuple #[v, u]) W := by
 have hp : tm[4]?.getD undef = v := by simpa using h4
 have hq : tm[5]?.getD undef = u := by simpa using h5
 have hrs : Tryz.f34.results = #[.tmp 4, .tmp 5] := rfl
 simp [results, hrs, hp, hq, go_sem]
theorem weather_early {m : Nat} {tm : Array Value} {W : World} {R : Ending → World → Prop} (v u : Value) (h4 : tm.getD 4 undef = v) (h5 : tm.getD 5 undef = u) (hR : R (.returned (.tuple #[v, u])) W) :
 LeavesInM Fence.wide m Tryz.prog Tryz.f34 tm R [] .returning W := ⟨_, weather_results tm W v u h4 h5, hR⟩
theorem weather_ret {m : Nat} {tm : Array Value} {W : World} {R : Ending → World → Prop} (D : Nat) (v u : Value) (h4 : tm.getD 4 undef = v) (h5 : tm.getD 5 undef = u) (HD : W.heap[D]? = some (.deferred (some []))) (hR : R (.returned (.tuple #[v, u])) (W.putObj D (.deferred none))) :
 LeavesInM Fence.wide m Tryz.prog Tryz.f34 tm R [{ target := .collected D, args := #[] }] .returning W :=
 ⟨by simp, .inl ⟨D, _, rfl, run_takeDeferred HD, _, weather_results tm _ v u h4 h5, hR⟩⟩
theorem truth_shape (s : Sk) (hs : Good s) (x : St) (hx : x ∈ truthsOf s) : WShape s.rivers.length s.years.toNat x.2 := by
 obtain ⟨_, hw, _⟩ := truthsOf_valid s hs x hx
 refine ⟨hw.rows, fun i r hr => ?_⟩
 have := hw.row r (List.mem_of_getElem? hr)
 omega
theorem atLF {W : World} {ok : Nat → Prop} {A : Option Addr} {n : Nat} {xs : List (List S47)} (h : Kd.F (Kd.slice 47 k47) W ok A n xs) (i : Nat) (hi : i < n) : ∃ ad Ar cr, A = some ad ∧ W.cell? (ad.add i) = some (.slice Ar (xs.getD i []).length cr) ∧ (xs.getD i []).length ≤ cr ∧ Kd.F k47 W ok Ar (xs.getD i []).length (xs.getD i []) ∧ ok ad.block := by
 obtain ⟨ad, cs, rfl, _, hFK, hcell, hok⟩ := Kd.F_get h ([] : List S47) (i : Int) (by omega) (by omega)
 obtain ⟨Ar, cr, rfl, hle, hF⟩ := Kd.FK_slice_open hFK
 have h0 := hcell 0 _ rfl
 rw [Int.toNat_natCast] at h0 hle hF
 exact ⟨ad, Ar, cr, rfl, by simpa [Kd.slice] using h0, hle, hF, hok (by simp [Kd.slice])⟩
theorem set_getD_self {α : Type} (l : List (List α)) (i : Nat) : l.set i (l.getD i []) = l := by
 apply List.ext_getElem?
 intro t
 rw [List.getElem?_set]
 by_cases e : i = t
 ·subst e
  rw [if_pos rfl]
  by_cases h : i < l.length
  ·simp [h, List.getD_eq_getElem?_getD]
  ·rw [if_neg h, List.getElem?_eq_none (by omega)]
 ·rw [if_neg e]
theorem set_getD {α : Type} (l : List (List α)) (i : Nat) (r : List α) (h : i < l.length) : (l.set i r).getD i [] = r := by simp [List.getD_eq_getElem?_getD, h]
theorem startW_shape {R Y : Nat} {out rows : List (List S47)} (h : WShape R Y out ∨ (out = [] ∧ True)) (hr : WShape R Y rows) : WShape R Y (startW out rows) := by
 unfold startW
 split
 ·exact hr
 ·rename_i hne
  rcases h with h | h
  ·exact h
  ·exact absurd h.1 hne
def weatherR (s : Sk) (v : Value) (w w' : World) : Prop := Kd.V (Kd.slice 47 k47) 41 w' w.heap.size (fun k => w.heap.size ≤ k) v (accW (truthsOf s))
set_option maxRecDepth 100000 in
set_option maxHeartbeats 4000000 in
theorem weather_main (s : Sk) (hs : Good s) (hR : 1 ≤ s.rivers.length ∧ s.rivers.length ≤ 3) (hY : 1 ≤ s.years ∧ s.years ≤ 6) (hc : s.rivers.length ≤ s.c1 ∧ s.shells.length ≤ s.c2 ∧ s.tests.length ≤ s.c3) (hE : askedE s.years s.rivers s.shells s.tests true = 0) (w : World)
 (f1 : Kd.C k43 w s.A1 s.rivers.length s.rivers) (f2 : Kd.C k45 w s.A2 s.shells.length s.shells) (f3 : Kd.C k59 w s.A3 s.tests.length s.tests) :
 Calls Tryz.prog 34 #[.agg #[.int .i64 s.years, .slice s.A1 s.rivers.length s.c1], .agg #[.slice s.A2 s.shells.length s.c2, .slice s.A3 s.tests.length s.c3]] w fun e w' =>
  ∃ v, e = .returned (.tuple #[v, .int .i64 0]) ∧ weatherR s v w w' ∧ Below w.heap.size w w' := by
 rw [← callsIn_wide (n := 0)]
 have hu24 := Tryz.underlying24
 have hu39 := Tryz.underlying39
 have hu138 := Tryz.underlying138
 have hu149 := Tryz.underlying149
 have hu47 := Tryz.underlying47
 have hmf : ∀ (fn : Fn) (first cap : Array Value) (w : World), (Instr.makeFunc fn first cap).run Tryz.prog w = .ok (.func fn first cap) w := fun _ _ _ _ => rfl
 have heqn : ∀ W : World, (binOp .eql 64 (.slice none 0 0) (.slice none 0 0)).run Tryz.prog W = .ok (.bool true) W := fun W => by kernel_rfl
 have heqs : ∀ (ad : Addr) (n c : Nat) (W : World), (binOp .eql 64 (.slice (some ad) n c) (.slice none 0 0)).run Tryz.prog W = .ok (.bool false) W := fun ad n c W => by kernel_rfl
 have HF1 := zk f1
 have HF2 := zk f2
 have HF3 := zk f3
 have HCC := zk hc
 have HASK := zk (fun (W : World) (h1 : Kd.C k43 W s.A1 s.rivers.length s.rivers) (h2 : Kd.C k45 W s.A2 s.shells.length s.shells) (h3 : Kd.C k59 W s.A3 s.tests.length s.tests) => (asked_calls s true hc W h1 h2 h3).mono (fun e w' h => show e = .returned (.tuple #[.agg s.cells, .int .i64 0]) ∧ Below W.heap.size W w' by
  obtain ⟨hb, ⟨_, rfl⟩ | ⟨ha, _⟩⟩ := h
  ·exact ⟨rfl, hb⟩
  ·exact absurd hE ha))
 unfold Sk.cells at HASK
 have HSH := zk (truth_shape s hs)
 clear f1 f2 f3 hE
 refine callsIn_of_wp_marks Tryz.func34 rfl trivial ?_ rfl
 simp only [Tryz.ntmps34, List.size_toArray, List.length_cons, List.length_nil, Nat.reduceAdd, Nat.reduceSub, Array.replicate_succ, Array.replicate_zero, List.push_toArray, List.append_toArray, List.nil_append, List.cons_append]
 have HB0 := zk ((below1 (w := w) (.cells #[.int .i64 s.years, .slice s.A1 s.rivers.length s.c1] 24)).alloc (by simp) (.cells #[.slice s.A2 s.shells.length s.c2, .slice s.A3 s.tests.length s.c3] 39))
 gi_wp2_with (first
  |(gi_at_call 85
    refine (callsIn_wide.2 (HASK.out _ (Kd.C_below HF1.out HB0.out) (Kd.C_below HF2.out HB0.out) (Kd.C_below HF3.out HB0.out))).mono ?_
    rintro e wa ⟨rfl, hba⟩
    have HBA := zk (bt HB0.out hba)
    clear hba))
 have HB := zk (below_alloc (below_alloc HBA.out (.cells #[.int .i64 s.years, .slice s.A1 s.rivers.length s.c1, .slice s.A2 s.shells.length s.c2, .slice s.A3 s.tests.length s.c3] 138)) (.cells #[.slice none 0 0] 64))
 have b8 := blk_new (wa.alloc (.cells #[.int .i64 s.years, .slice s.A1 s.rivers.length s.c1, .slice s.A2 s.shells.length s.c2, .slice s.A3 s.tests.length s.c3] 138)) (.cells #[.slice none 0 0] 64)
 simp only [World.size_alloc] at b8
 obtain ⟨p8, e8⟩ : ∃ p8, p8 = wa.heap.size + 1 := ⟨_, rfl⟩
 rw [← e8] at b8 ⊢
 have lo8 : w.heap.size ≤ p8 := by have := HBA.out.size; omega
 generalize (wa.alloc (.cells #[.int .i64 s.years, .slice s.A1 s.rivers.length s.c1, .slice s.A2 s.shells.length s.c2, .slice s.A3 s.tests.length s.c3] 138)).alloc (.cells #[.slice none 0 0] 64) = w1 at HB b8 ⊢
 generalize wa.heap.size = p6
 have h8lt := blk_lt b8
 have H8 := zk b8
 clear b8 e8 HBA HB0
 have hne8 : p8 ≠ w1.heap.size + 1 := by omega
 have hneD : w1.heap.size ≠ w1.heap.size + 1 := by omega
 have hwsz := HB.out.size
 have hb2 : ∀ ob, Below w1.heap.size w1 ((w1.alloc (.deferred (some []))).alloc (.loop ob)) := fun ob => (below1 _).alloc (by simp) _
 have hFl : ∀ {α : Type} {d : Kd α} {A : Option Addr} {n : Nat} {xs : List α} (ob : Loop), Kd.Heap d → d.C w A n xs → Kd.F d ((w1.alloc (.deferred (some []))).alloc (.loop ob)) (Low (ownW p8 w1.heap.size (w1.heap.size + 1) (.slice none 0 0) []) (w1.heap.size + 2)) A n xs := fun ob hd h => by
  refine Kd.F_mono (Kd.F_below (Kd.F_below (Kd.C_F hd h) HB.out) (hb2 ob)) (fun k hk => ⟨fun h => ?_, ?_⟩)
  ·rcases h with h | h | h | h | h
   ·omega
   ·omega
   ·omega
   ·cases h
   ·cases h
  ·omega
 refine range_truths (lit := ?lit) s hs hc (fun x A A' c c' b own W => b ≠ w1.heap.size + 1 ∧ ¬ own b ∧ W.heap[b]? = some (.cells #[.slice A x.1.length c, .slice A' x.2.length c'] 149 (0, 0))) (fun x A A' c c' b own W W' h hch => ⟨h.1, h.2.1, (hch.block b (blk_lt h.2.2) h.1).trans h.2.2⟩) rfl
  (fun pre own W => WeIn w p8 w1.heap.size (w1.heap.size + 1) pre own W ∧ ∀ x ∈ pre, x ∈ truthsOf s)
  (fun _ _ _ _ => False)
  (ownW p8 w1.heap.size (w1.heap.size + 1) (.slice none 0 0) [])
  ?hlt (fun _ _ _ _ h => h.elim) ?hown (fun _ _ _ _ h => h.elim) ?hst (fun _ _ _ _ _ h _ => h.elim) ?h0 (fun ob => hFl ob heap43 HF1.out) (fun ob => hFl ob heap45 HF2.out) (fun ob => hFl ob heap59 HF3.out) ?hassign ?hbody ?hdone (fun _ _ _ _ _ _ h => h.elim)
 case hassign =>
  rintro m pre own x W A A' c c' ob ⟨hI, hv⟩ hS hl K hK
  have hb := below1 (w := W) (.cells #[.slice A x.1.length c, .slice A' x.2.length c'] 149)
  have hlr := blk_lt hl
  have hlt : ∀ k, own k → k < W.heap.size := fun k hk => by
   obtain ⟨v, gs, rfl, _, _, h5, ho, _⟩ := hI.row
   rcases hk with rfl | rfl | rfl | hk
   ·exact blk_lt h5
   ·exact blk_lt hI.hD
   ·exact hlr
   ·exact (ho.lt hk).1
  obtain ⟨b7, e7⟩ : ∃ b7, b7 = W.heap.size := ⟨_, rfl⟩
  have HK := zk (hK own (W.alloc (.cells #[.slice A x.1.length c, .slice A' x.2.length c'] 149)) (Moved.of_below hb) ⟨hI.chg (N := w1.heap.size + 2) (by omega) (by omega) hne8 hneD (stab_below hb), hv⟩ (blk_alloc hl _) b7 ⟨by omega, fun h => by have := hlt _ h; omega, by rw [e7]; exact blk_new _ _⟩)
  clear hK hI hS hb hl
  unfold stV
  gi_wp2
  rw [← e7]
  exact HK.out
 case hlt =>
  rintro pre own W ⟨hI, hv⟩ k hk
  obtain ⟨v, gs, rfl, _, _, h5, ho, _⟩ := hI.row
  rcases hk with rfl | rfl | rfl | hk
  ·exact blk_lt h5
  ·exact blk_lt hI.hD
  ·exact hI.sz
  ·exact (ho.lt hk).1
 case hown =>
  rintro pre own W ⟨hI, hv⟩
  obtain ⟨v, gs, rfl, _⟩ := hI.row
  exact .inr (.inr (.inl rfl))
 case hst =>
  rintro pre own W W' ⟨hI, hv⟩ hch
  exact ⟨hI.chg (by omega) (by omega) hne8 hneD hch, hv⟩
 case h0 =>
  intro ob
  refine ⟨⟨⟨.slice none 0 0, [], rfl, ?_, ?_, blk_alloc (blk_alloc H8.out _) _, ORows.nil _ _, fun _ => ⟨rfl, rfl⟩⟩, blk_alloc (blk_new _ _) _, by simp, bt HB.out (hb2 ob)⟩, fun x h => by cases h⟩
  ·rintro (h | h) <;> cases h
  ·rintro (h | h) <;> cases h
 case hbody =>
  rintro m pre own x W A A' c c' ob b ⟨hI, hv⟩ hS ⟨hbl, hbo, hbb⟩ hl hx
  obtain ⟨v0, gs0, hown, nl, nD, h5, ho, hnil⟩ := hI.row
  have HSX := zk (HSH.out x hx)
  have HXG := zk hS.g
  have HROWS := zk HSX.out.n
  have hx3 : 1 ≤ x.2.length ∧ x.2.length ≤ 3 := by have := HROWS.out; omega
  have B00 : WeSt w p8 w1.heap.size (w1.heap.size + 1) (.loop ob) own W (accW pre) v0 gs0 W := ⟨by rw [hown]; exact Moved.refl _ _, nl, nD, h5, hI.hD, hl, ho⟩
  have HBB := zk (And.intro hbb hbo)
  have HIW := zk hI
  have HV := zk hv
  have HX := zk hx
  have HACC := zk (accW_shape pre (fun y hy => HSH.out y (hv y hy)))
  have HSTART := zk (startW_shape (HACC.out.imp id (fun h => ⟨h.1, trivial⟩)) HSX.out)
  by_cases hp : accW pre = []
  ·obtain ⟨rfl, rfl⟩ := hnil hp
   rw [hp] at B00
   have HP := zk hp
   have B0 := zk B00
   have H8W := zk h5
   have HBW := zk hbb
   obtain ⟨c_p8_0, f_p8_0, l_p8⟩ := cl1 (W := W) (p := p8) (a := .slice none 0 0) H8W.out
   obtain ⟨c_b_0, f_b_0, c_b_1, f_b_1, l_b⟩ := cl2 (W := W) (p := b) (a := .slice A x.1.length c) (b := .slice A' x.2.length c') HBW.out
   clear hI hv hS hbl hbo hbb hl hx hown nl nD h5 ho hnil hp B00
   gi_wp2
   gi_loopw [34] (fun v34 wr => ∃ (kk : Nat) (v : Value) (gs : List (Nat × Nat)), kk ≤ x.2.length ∧ v34 = .int .i64 kk ∧ Aside0 (WeSt w p8 w1.heap.size (w1.heap.size + 1) (.loop ob) own W (x.2.take kk) v gs wr)) (fun v34 _ => x.2.length - (intOf v34).toNat)
   case atStart => exact ⟨0, _, _, by omega, rfl, B0⟩
   case round =>
    obtain ⟨kk, v, gs, hkk, rfl, BS⟩ := hrel
    by_cases hlt : kk < x.2.length
    ·have hltz : (kk : Int) < (x.2.length : Int) := by omega
     obtain ⟨adr, Ar, cr, er, r0, hler, hCr⟩ := atL (Kd.F_now (BS.out.mv.Fl HXG.out)) kk (by omega)
     have hry := HSX.out.getD kk (by have := HROWS.out; omega)
     have HTK := zk (show x.2.take (kk + 1) = x.2.take kk ++ [x.2.getD kk []] by
      have h : kk < x.2.length := by omega
      rw [List.take_succ_eq_append_getElem h]
      simp [List.getD_eq_getElem?_getD, h])
     have HLK := zk (show (x.2.take kk).length = kk by rw [List.length_take]; omega)
     obtain ⟨rr, err⟩ : ∃ rr, rr = x.2.getD kk [] := ⟨_, rfl⟩
     rw [← err] at r0 hler hCr hry HTK
     obtain ⟨cells0, hr0, hp0⟩ := reps_cells hCr
     obtain rfl := reps47 hp0
     have HR0 := zk hr0
     subst er
     clear hCr err hr0 hp0
     obtain ⟨Av, cv, ev⟩ := own_slice BS.out.o.out
     subst ev
     have hry6 : rr.length ≤ 6 ∧ 1 ≤ rr.length := by omega
     have HRY6 := zk hry6
     clear hry hry6
     have H8R := zk BS.out.h8
     have q8 : p8 < wr.heap.size := blk_lt BS.out.h8
     have hws : w.heap.size ≤ wr.heap.size := Nat.le_trans HIW.out.bw.size BS.out.mv.size
     rw [HLK.out] at H8R
     have HLT := zk hlt
     clear hlt
     gi_wp2
     refine region_litIn (lit := ?lit1) 4 [[],[],[1],[2]]
      [some (.slice Av kk cv), some (.slice Ar rr.length cr), none, none]
      (fun f u W' => Aside0 (CwMem rr wr W' (f 2) (f 3) (u 2) (u 3))) ?hlit1 (by kernel_rfl) (by kernel_rfl) (by decide) ?_ ?_ ?_ ?_ ?_
     case hlit1 =>
      intro u
      simp only [List.take_succ_cons, List.take_zero, List.map_cons, List.map_nil, setAll, Nat.reduceAdd, Act.put, List.setIfInBounds_toArray, List.set_cons_succ, List.set_cons_zero]
      try rfl
     ·intro u w2 hw
      exact zk ⟨hw.below _, fun h => (by cases h), fun h => (by cases h)⟩
     ·intro i v f u W' hv h
      have h2 : (2 : Nat) ≠ i := by rintro rfl; cases hv
      have h3 : (3 : Nat) ≠ i := by rintro rfl; cases hv
      rw [upd_ne h2, upd_ne h3, upf_ne h2, upf_ne h3]
      exact h
     ·intro i o' v hi ho hv f u W' hM hdep hd
      have H8Q := zk (blk_below H8R.out hM.out.b)
      obtain ⟨c_p8_0, f_p8_0, l_p8⟩ := cl1 (W := W') (p := p8) (a := .slice Av kk cv) H8Q.out
      clear H8Q hM hdep
      replace hi : i < 4 := hi
      match i, hi with
      |0, _ =>
       cases ho
       cases zs hv
       clear hd hv
       gi_wp2
       exact zt
      |1, _ =>
       cases ho
       cases zs hv
       clear hd hv
       gi_wp2
       exact zt
      |2, _ =>
       cases hv
      |3, _ =>
       cases hv
     ·intro i o' hi ho hv f u W' hM hb hdep hq hd
      match i, hi with
      |0, _ => cases hv
      |1, _ => cases hv
      |2, _ =>
       cases ho
       have e1' := hd 1 _ (by decide) rfl
       have h3 : f 3 = false := hq 3 (by decide) (by decide)
       have HMM := zk hM.out
       have HCL := zk (clone88 Ar rr.length cr (flat47 rr) W' (HR0.out.below HMM.out.b) (by have := HRY6.out; omega))
       clear hd hv hq hdep hb hM
       gi_wp2_with (gi_at_call 88; refine (CallsIn.inRound _ (callsIn_wide.2 HCL.out)).mono ?_; rintro e w' ⟨v9, rfl, hown9, hB9⟩)
       have hown9' := own_lower hown9 HMM.out.b.size
       obtain ⟨g9, c9, rfl⟩ : ∃ g c, v9 = .slice (some ⟨g, 0, none⟩) rr.length c := by
        rcases hown9.2 with ⟨_, h0⟩ | ⟨g, cap, cur, e, _⟩
        ·have := HRY6.out; omega
        ·exact ⟨g, cap, e⟩
       refine ⟨_, by simp [upf, e1'], zk ⟨bt HMM.out.b hB9, fun _ => ⟨g9, c9, upf_self _ _ _, hown9'⟩, fun h => ?_⟩⟩
       rw [upd_ne (by decide), h3] at h; cases h
      |3, _ =>
       cases ho
       obtain ⟨g9, c9, e2', h9⟩ := hM.out.m2 (hdep 2 (by decide))
       have HMM := zk hM.out
       have H9 := zk h9
       clear hd hv hq hdep hb hM h9
       gi_wp2
       refine ⟨.slice (some ⟨W'.heap.size, 0, none⟩) 1 1, by simp [upf, e2'], zk ⟨bt HMM.out.b (below1 _), fun _ => ⟨g9, c9, by rw [upf_ne (by decide)]; exact e2', pw_own_below H9.out (below1 _)⟩, fun _ => ⟨W'.heap.size, upf_self _ _ _, ?_, HMM.out.b.size⟩⟩⟩
       have := blk_new W' (.cells #[.slice (some ⟨g9, 0, none⟩) rr.length c9] 41)
       rw [upf_ne (by decide), e2']
       exact this
      |j + 4, hi => exact absurd hi (by omega)
     ·intro f u W' hall hM hd
      have e0' := hd 0 _ (by decide) rfl
      obtain ⟨g9, c9, e2', h9⟩ := hM.out.m2 (hall 2 (by decide))
      obtain ⟨g3, e3', h3, hg3⟩ := hM.out.m3 (hall 3 (by decide))
      rw [e2'] at h3
      obtain ⟨i0, hi0, hzz⟩ := Option.map_eq_some_iff.1 info41'
      simp only [Prod.mk.injEq] at hzz
      obtain ⟨hz0, hz1, hz2⟩ := hzz
      have HI0 := zk (And.intro hi0 (And.intro hz0 (And.intro hz1 hz2)))
      have BW' := zk (BS.out.below hM.out.b)
      have HBM := zk hM.out.b
      have H9 := zk h9
      have HOB := zk BW'.out.o.out
      rw [HLK.out] at HOB
      have HC := zk (show ∀ (j : Nat) (u' : Value), [Value.slice (some ⟨g9, 0, none⟩) rr.length c9][j]? = some u' → W'.cell? ((⟨g3, 0, none⟩ : Addr).add j) = some u' from fun j u' hj => by
       rw [add_plain]
       match j, hj with
       |0, hj => cases hj; exact blk_cell h3 0)
      clear hi0 hz0 hz1 hz2 hall hd hM h3 hg3 h9
      simp only [List.drop]
      refine wpListIn_append_own_at _ rfl (.tmp 38) (.tmp 41) 64 rfl w.heap.size 41 i0 _ 1 24 Tryz.underlying64 HI0.out.1 HI0.out.2.1 HI0.out.2.2.1 HI0.out.2.2.2 rfl (by decide) _ kk (List.zipWith rowCell gs (x.2.take kk)) e0' HOB.out ⟨g3, 0, none⟩ 1 1 [.slice (some ⟨g9, 0, none⟩) rr.length c9] e3' rfl HC.out (by intro u' hu'; simp at hu'; rw [hu']; rfl) (by simp only [maxLen]; omega) (by omega) (Nat.le_trans hws HBM.out.size) ?_
      intro v20 W8 hown8 hg8 _ hat8
      have HP8 := zk (BS.out.push hws hne8.symm rr g9 c9 HBM.out H9.out (by rw [HLK.out]; exact hown8) (by rw [HLK.out]; exact hg8) (by rw [HLK.out]; exact hat8))
      have H88 := zk (blk_grown (blk_below H8R.out HBM.out) hg8 (own_ne HOB.out (blk_below H8R.out HBM.out) (by decide)))
      obtain ⟨A20, c20, rfl⟩ := own_slice hown8
      clear hown8 hg8 hat8 HC HOB H9
      obtain ⟨c_p8_0, f_p8_0, l_p8⟩ := cl1 (W := W8) (p := p8) (a := .slice Av kk cv) H88.out
      gi_wp2
      go_roundw
      case rel =>
       refine ⟨kk + 1, .slice A20 (kk + 1) c20, gs ++ [(g9, c9)], by have := HLT.out; omega, by go_num, ⟨?_⟩⟩
       rw [HTK.out]
       exact HP8.out
      case measure => have := HLT.out; simp [intOf]; omega
    ·have hltz : decide ((kk : Int) < (x.2.length : Int)) = false := by simpa using hlt
     have hk2 : kk = x.2.length := by omega
     subst hk2
     rw [List.take_length] at BS
     have hne : x.2 ≠ [] := by intro h; rw [h] at hx3; simp at hx3
     have B1 := BS.out
     rw [show x.2 = startW (accW pre) x.2 by unfold startW; rw [if_pos HP.out]] at B1
     obtain ⟨g0, c0, _, _, go, co, ev, _⟩ := B1.o.at_ 0 (by rw [HSTART.out.n]; omega)
     subst ev
     rw [show (startW (accW pre) x.2).length = x.2.length by rw [HSTART.out.n, HROWS.out]] at B1
     have B0 := zk B1
     have H8R := zk B1.h8
     have HBR := zk (B1.mv.stay HBB.out.1 HBB.out.2).1
     clear B1 BS hne
     obtain ⟨c_p8_0, f_p8_0, l_p8⟩ := cl1 (W := wr) (p := p8) (a := .slice (some ⟨go, 0, none⟩) x.2.length co) H8R.out
     obtain ⟨c_b_0, f_b_0, c_b_1, f_b_1, l_b⟩ := cl2 (W := wr) (p := b) (a := .slice A x.1.length c) (b := .slice A' x.2.length c') HBR.out
     gi_wp2
     gi_loopw [47] (fun v47 wr => ∃ i : Nat, i ≤ x.2.length ∧ v47 = .int .i64 i ∧ Aside0 (WeSt w p8 w1.heap.size (w1.heap.size + 1) (.loop ob) own W (jrs (startW (accW pre) x.2) x.2 i) (.slice (some ⟨go, 0, none⟩) x.2.length co) gs wr)) (fun v47 _ => x.2.length - (intOf v47).toNat)
     case atStart => exact ⟨0, by omega, rfl, B0⟩
     case round =>
      obtain ⟨i, hi, rfl, BS⟩ := hrel
      by_cases hlt : i < x.2.length
      ·have hltz : (i : Int) < (x.2.length : Int) := by omega
       obtain ⟨adr, Ar, cr, er, r0W, hler, hFr, hokr⟩ := atLF HXG.out i hlt
       have r0 := (World.cell?_of_block (w := W) (w' := wr) (a := adr.add i) (by rw [add_block]; exact BS.out.mv.chg.block _ hokr.2 hokr.1)).trans r0W
       have hry := HSX.out.getD i (by have := HROWS.out; omega)
       have HJS := zk (jrs_shape (rows := x.2) HSTART.out i (by have := HROWS.out; omega))
       have HNEXT := zk (show jrs (startW (accW pre) x.2) x.2 (i + 1) = (jrs (startW (accW pre) x.2) x.2 i).set i (jr ((jrs (startW (accW pre) x.2) x.2 i).getD i []) (x.2.getD i []) (x.2.getD i []).length) from rfl)
       obtain ⟨rr, err⟩ : ∃ rr, rr = x.2.getD i [] := ⟨_, rfl⟩
       rw [← err] at r0 hler hFr hry HNEXT
       obtain ⟨J, eJ⟩ : ∃ J, J = jrs (startW (accW pre) x.2) x.2 i := ⟨_, rfl⟩
       rw [← eJ] at BS HJS HNEXT
       have HFR := zk hFr
       have hry6 : rr.length ≤ 6 ∧ 1 ≤ rr.length := by omega
       have HRY := zk hry
       have HLT := zk hlt
       have HER := zk er
       clear hFr err eJ r0W hry hlt
       subst er
       gi_wp2
       gi_loopw [54] (fun v54 wr => ∃ k : Nat, k ≤ rr.length ∧ v54 = .int .i64 k ∧ Aside0 (WeSt w p8 w1.heap.size (w1.heap.size + 1) (.loop ob) own W (J.set i (jr (J.getD i []) rr k)) (.slice (some ⟨go, 0, none⟩) x.2.length co) gs wr)) (fun v54 _ => rr.length - (intOf v54).toNat)
       case atStart => exact ⟨0, by omega, rfl, ⟨by rw [show jr (J.getD i []) rr 0 = J.getD i [] from rfl, set_getD_self]; exact BS.out⟩⟩
       case round =>
        obtain ⟨k, hk, rfl, BQ⟩ := hrel
        by_cases hlk : k < rr.length
        ·have hlkz : (k : Int) < (rr.length : Int) := by omega
         have HJL := zk (show J.length = x.2.length by have := HJS.out.n; have := HROWS.out; omega)
         obtain ⟨ad2, hA2, d0, d1⟩ := at_T47 (Kd.F_now (BQ.out.mv.Fl HFR.out)) (k : Int) (by omega) (by omega)
         subst hA2
         obtain ⟨r, er⟩ : ∃ r, rd_T47 rr (k : Int) = r := ⟨_, rfl⟩
         rw [er] at d0 d1
         simp only [Int.toNat_natCast] at d0 d1
         obtain ⟨g, cg, hg, h3, go', co', ev', hcell, hgo⟩ := BQ.out.o.at_ i (by have := HLT.out; have := HJL.out; simp; omega)
         simp only [Value.slice.injEq, Option.some.injEq, Addr.mk.injEq, and_true, true_and] at ev'
         obtain ⟨rfl, -, rfl⟩ := ev'
         have hjl : (jr (J.getD i []) rr k).length = rr.length := by rw [jr_length, HJS.out.getD i (by have := HLT.out; have := HROWS.out; omega), HRY.out]
         rw [set_getD _ _ _ (by have := HLT.out; have := HJL.out; omega)] at h3 hcell
         rw [hjl] at h3 hcell
         obtain ⟨a0, a1, b0, b1⟩ := own47_at h3 k (by omega)
         obtain ⟨o, eo⟩ : ∃ o, o = (jr (J.getD i []) rr k).getD k z47 := ⟨_, rfl⟩
         rw [← eo] at a0 a1
         have HG := zk hg
         have HEO := zk eo
         have HERR := zk er
         have HLK := zk hlk
         have H8Q := zk BQ.out.h8
         have q0 := World.block_lt_of_cell? _ _ hcell
         have q1 := World.block_lt_of_cell? _ _ a0
         have q2 := World.block_lt_of_cell? _ _ d0
         have q3 := World.block_lt_of_cell? _ _ d1
         obtain ⟨c_p8_0, f_p8_0, l_p8⟩ := cl1 (W := wr) (p := p8) (a := .slice (some ⟨go, 0, none⟩) x.2.length co) H8Q.out
         clear h3 hjl eo er hg hlk
         gi_wp2
         have BQ5 := zk (BQ.out.below ((below1 (w := wr) (.cells #[.int .i64 r.f0, .int .i64 r.f1] 47)).alloc (by simp) (.cells #[.int .i64 o.f0, .int .i64 o.f1] 47)))
         have HB5 := zk ((below1 (w := wr) (.cells #[.int .i64 r.f0, .int .i64 r.f1] 47)).alloc (by simp) (.cells #[.int .i64 o.f0, .int .i64 o.f1] 47))
         have H15 := zk (blk_alloc (blk_new wr (.cells #[.int .i64 r.f0, .int .i64 r.f1] 47)) (.cells #[.int .i64 o.f0, .int .i64 o.f1] 47))
         have h16 := blk_new (wr.alloc (.cells #[.int .i64 r.f0, .int .i64 r.f1] 47)) (.cells #[.int .i64 o.f0, .int .i64 o.f1] 47)
         simp only [World.size_alloc] at h16
         have H16 := zk h16
         have HCELL := zk hcell
         obtain ⟨p16, e16⟩ : ∃ p16, p16 = wr.heap.size + 1 := ⟨_, rfl⟩
         rw [← e16] at H16 ⊢
         generalize (wr.alloc (.cells #[.int .i64 r.f0, .int .i64 r.f1] 47)).alloc (.cells #[.int .i64 o.f0, .int .i64 o.f1] 47) = W5 at BQ5 HB5 H15 H16 ⊢
         obtain ⟨p15, e15⟩ : ∃ p15, p15 = wr.heap.size := ⟨_, rfl⟩
         rw [← e15] at H15 ⊢
         clear h16 e16 e15 hcell a0 a1 b0 b1 d0 d1 q0 q1 q2 q3 c_p8_0 f_p8_0 l_p8 H8Q
         refine region_litIn (lit := ?lit20) 17 [[],[],[0,1],[2],[],[],[5],[],[7],[6,8],[],[10],[],[12],[11,13],[9,14],[0,1,2,3,4,5,6,7,8,9,10,11,12,13,14,15]]
          [some (.slice (some ⟨go, 0, none⟩) x.2.length co), some (.int .i64 i), some (.pointer (some ⟨go, i, none⟩)), some (.slice (some ⟨g, 0, none⟩) rr.length cg), some (.int .i64 k),
           some (.pointer (some ⟨p16, 0, none⟩)), some (.int .i64 o.f0), some (.pointer (some ⟨p15, 0, none⟩)), some (.int .i64 r.f0), some (.int .i64 (min o.f0 r.f0)),
           some (.pointer (some ⟨p16, 1, none⟩)), some (.int .i64 o.f1), some (.pointer (some ⟨p15, 1, none⟩)), some (.int .i64 r.f1), some (.int .i64 (max o.f1 r.f1)),
           some (.agg #[.int .i64 (min o.f0 r.f0), .int .i64 (max o.f1 r.f1)]), some (.pointer (some ⟨g, k * 2, none⟩))]
          (fun f u W' => Aside0 (Below W5.heap.size W5 W')) ?hlit20 (by kernel_rfl) (by kernel_rfl) (by decide) ?_ ?_ ?_ ?_ ?_
         case hlit20 =>
          intro u
          simp only [List.take_succ_cons, List.take_zero, List.map_cons, List.map_nil, setAll, Nat.reduceAdd, Act.put, List.setIfInBounds_toArray, List.set_cons_succ, List.set_cons_zero]
          try rfl
         ·intro u w2 hw
          exact zk (hw.below _)
         ·intro i v f u W' hv h
          exact h
         ·intro j o' v hj ho hv f u W' hM hdep hd
          have H8W := zk (BQ5.out.below hM.out).h8
          have H15W := zk (blk_below H15.out hM.out)
          have H16W := zk (blk_below H16.out hM.out)
          have cg0 := ((bt HB5.out hM.out).cell (World.block_lt_of_cell? _ _ HCELL.out)).trans HCELL.out
          have ilt : (i : Int) < (x.2.length : Int) := by have := HLT.out; omega
          have klt : (k : Int) < (rr.length : Int) := by have := HLK.out; omega
          obtain ⟨c_p8_0, f_p8_0, l_p8⟩ := cl1 (W := W') (p := p8) (a := .slice (some ⟨go, 0, none⟩) x.2.length co) H8W.out
          obtain ⟨c_p15_0, f_p15_0, c_p15_1, f_p15_1, l_p15⟩ := cl2 (W := W') (p := p15) (a := .int .i64 r.f0) (b := .int .i64 r.f1) H15W.out
          obtain ⟨c_p16_0, f_p16_0, c_p16_1, f_p16_1, l_p16⟩ := cl2 (W := W') (p := p16) (a := .int .i64 o.f0) (b := .int .i64 o.f1) H16W.out
          clear H8W H15W H16W hM hdep
          replace hj : j < 17 := hj
          match j, hj with
          |0, _ =>
           cases ho
           cases zs hv
           clear hd hv
           gi_wp2
           exact zt
          |1, _ =>
           cases ho
           cases zs hv
           clear hd hv
           gi_wp2
           exact zt
          |2, _ =>
           cases ho
           cases zs hv
           have e0 := hd 0 _ (by decide) rfl
           have e1 := hd 1 _ (by decide) rfl
           clear hd hv
           gi_wp2
           exact zt
          |3, _ =>
           cases ho
           cases zs hv
           have e2 := hd 2 _ (by decide) rfl
           clear hd hv
           gi_wp2
           exact zt
          |4, _ =>
           cases ho
           cases zs hv
           clear hd hv
           gi_wp2
           exact zt
          |5, _ =>
           cases ho
           cases zs hv
           clear hd hv
           gi_wp2
           exact zt
          |6, _ =>
           cases ho
           cases zs hv
           have e5 := hd 5 _ (by decide) rfl
           clear hd hv
           gi_wp2
           exact zt
          |7, _ =>
           cases ho
           cases zs hv
           clear hd hv
           gi_wp2
           exact zt
          |8, _ =>
           cases ho
           cases zs hv
           have e7 := hd 7 _ (by decide) rfl
           clear hd hv
           gi_wp2
           exact zt
          |9, _ =>
           cases ho
           cases zs hv
           have e6 := hd 6 _ (by decide) rfl
           have e8 := hd 8 _ (by decide) rfl
           clear hd hv
           gi_wp2
           exact zt
          |10, _ =>
           cases ho
           cases zs hv
           clear hd hv
           gi_wp2
           exact zt
          |11, _ =>
           cases ho
           cases zs hv
           have e10 := hd 10 _ (by decide) rfl
           clear hd hv
           gi_wp2
           exact zt
          |12, _ =>
           cases ho
           cases zs hv
           clear hd hv
           gi_wp2
           exact zt
          |13, _ =>
           cases ho
           cases zs hv
           have e12 := hd 12 _ (by decide) rfl
           clear hd hv
           gi_wp2
           exact zt
          |14, _ =>
           cases ho
           cases zs hv
           have e11 := hd 11 _ (by decide) rfl
           have e13 := hd 13 _ (by decide) rfl
           clear hd hv
           gi_wp2
           exact zt
          |15, _ =>
           cases ho
           cases zs hv
           have e9 := hd 9 _ (by decide) rfl
           have e14 := hd 14 _ (by decide) rfl
           clear hd hv
           gi_wp2
           exact zt
          |16, _ =>
           cases ho
           cases zs hv
           have e3 := hd 3 _ (by decide) rfl
           have e4 := hd 4 _ (by decide) rfl
           clear hd hv
           gi_wp2
           exact zt
         ·intro j o' hj ho hv f u W' hM hb hdep hq hd
          match j, hj with
          |0, _ => cases hv
          |1, _ => cases hv
          |2, _ => cases hv
          |3, _ => cases hv
          |4, _ => cases hv
          |5, _ => cases hv
          |6, _ => cases hv
          |7, _ => cases hv
          |8, _ => cases hv
          |9, _ => cases hv
          |10, _ => cases hv
          |11, _ => cases hv
          |12, _ => cases hv
          |13, _ => cases hv
          |14, _ => cases hv
          |15, _ => cases hv
          |16, _ => cases hv
          |j + 17, hj => exact absurd hj (by omega)
         ·intro f u W' hall hM hd
          have e15' := hd 15 _ (by decide) rfl
          have e16' := hd 16 _ (by decide) rfl
          have B6 := zk (BQ5.out.below hM.out)
          obtain ⟨g', cg', hg', h3', go', co', ev', _, _⟩ := B6.out.o.at_ i (by have := HLT.out; have := HJL.out; simp; omega)
          rw [HG.out] at hg'
          cases hg'
          have hjl' : (jr (J.getD i []) rr k).length = rr.length := by rw [jr_length, HJS.out.getD i (by have := HLT.out; have := HROWS.out; omega), HRY.out]
          rw [set_getD _ _ _ (by have := HLT.out; have := HJL.out; omega), hjl'] at h3'
          obtain ⟨a0, a1, b0, b1⟩ := own47_at h3' k (by have := HLK.out; omega)
          have ql := World.block_lt_of_cell? _ _ a0
          have HNW := zk (B6.out.set (i := i) (g := g) (c := cg) (by have := HLT.out; have := HJL.out; simp; omega) HG.out k ⟨min o.f0 r.f0, max o.f1 r.f1⟩)
          clear hall hd hM h3' ev'
          gi_wp2
          go_roundw
          case rel =>
           refine ⟨k + 1, by have := HLK.out; omega, by go_num, ⟨?_⟩⟩
           have h9 := HNW.out
           rw [set_getD _ _ _ (by have := HLT.out; have := HJL.out; omega), List.set_set] at h9
           rw [show jr (J.getD i []) rr (k + 1) = (jr (J.getD i []) rr k).set k ⟨min o.f0 r.f0, max o.f1 r.f1⟩ by
            show (jr (J.getD i []) rr k).set k (joinS ((jr (J.getD i []) rr k).getD k z47) (rr.getD k z47)) = _
            rw [← HEO.out, show rr.getD k z47 = r by rw [← HERR.out]; simp [rd_T47]]
            rfl]
           exact h9
          case measure => have := HLK.out; simp [intOf]; omega
        ·have hlkz : decide ((k : Int) < (rr.length : Int)) = false := by simpa using hlk
         have hk2 : k = rr.length := by omega
         subst hk2
         have BN := zk (show WeSt w p8 w1.heap.size (w1.heap.size + 1) (.loop ob) own W (jrs (startW (accW pre) x.2) x.2 (i + 1)) (.slice (some ⟨go, 0, none⟩) x.2.length co) gs wr from by rw [HNEXT.out]; exact BQ.out)
         clear hlk
         gi_wp2
         go_roundw
         case rel => exact ⟨i + 1, by have := HLT.out; omega, by go_num, BN⟩
         case measure => have := HLT.out; simp [intOf]; omega
      ·have hltz : decide ((i : Int) < (x.2.length : Int)) = false := by simpa using hlt
       have hi2 : i = x.2.length := by omega
       subst hi2
       have BN := zk (show WeSt w p8 w1.heap.size (w1.heap.size + 1) (.loop ob) own W (accW (pre ++ [x])) (.slice (some ⟨go, 0, none⟩) x.2.length co) gs wr from by rw [accW_snoc]; exact BS.out)
       clear hlt
       gi_wp2
       refine ⟨BN.out.hl, ownW p8 w1.heap.size (w1.heap.size + 1) (.slice (some ⟨go, 0, none⟩) x.2.length co) gs, BN.out.mv, ⟨⟨_, _, rfl, BN.out.nl, BN.out.nD, BN.out.h8, BN.out.o, fun h => ?_⟩, BN.out.hD, Nat.lt_of_lt_of_le HIW.out.sz BN.out.mv.size, ?_⟩, ?_⟩
       ·have h9 := joinW_shape (R := s.rivers.length) (Y := s.years.toNat) (HACC.out.imp id (fun h => h.1)) HSX.out
        rw [accW_snoc] at h
        rw [h] at h9
        have := h9.n
        simp at this
        omega
       ·refine HIW.out.bw.trans (BN.out.mv.chg.below (fun k hk => ?_) HIW.out.bw.size)
        obtain ⟨v', gs', e', _, _, h8', ho', _⟩ := HIW.out.row
        rw [e'] at hk
        rcases hk with rfl | rfl | rfl | hk
        ·omega
        ·omega
        ·omega
        ·exact (ho'.lt hk).2
       ·intro y hy
        rcases List.mem_append.1 hy with h | h
        ·exact HV.out y h
        ·have : y = x := by simpa using h
         subst this
         exact HX.out
  ·have HP := zk hp
   obtain ⟨v, hv0⟩ : ∃ v, v = v0 := ⟨_, rfl⟩
   obtain ⟨gs, hgs0⟩ : ∃ gs, gs = gs0 := ⟨_, rfl⟩
   rw [← hv0, ← hgs0] at B00
   have B0 := zk (show WeSt w p8 w1.heap.size (w1.heap.size + 1) (.loop ob) own W (startW (accW pre) x.2) v gs W by unfold startW; rw [if_neg hp]; exact B00)
   obtain ⟨g0, c0, _, _, go, co, ev, _⟩ := B0.out.o.at_ 0 (by rw [HSTART.out.n]; omega)
   rw [← hv0] at h5
   subst ev
   have B1 := B0.out
   rw [show (startW (accW pre) x.2).length = x.2.length by rw [HSTART.out.n, HROWS.out]] at B1 h5
   replace B0 := zk B1
   have H8W := zk h5
   have HBW := zk hbb
   obtain ⟨c_p8_0, f_p8_0, l_p8⟩ := cl1 (W := W) (p := p8) (a := .slice (some ⟨go, 0, none⟩) x.2.length co) H8W.out
   obtain ⟨c_b_0, f_b_0, c_b_1, f_b_1, l_b⟩ := cl2 (W := W) (p := b) (a := .slice A x.1.length c) (b := .slice A' x.2.length c') HBW.out
   clear hI hv hS hbl hbo hbb hl hx hown nl nD h5 ho hnil hp B00 hv0 hgs0 B1
   gi_wp2
   gi_loopw [47] (fun v47 wr => ∃ i : Nat, i ≤ x.2.length ∧ v47 = .int .i64 i ∧ Aside0 (WeSt w p8 w1.heap.size (w1.heap.size + 1) (.loop ob) own W (jrs (startW (accW pre) x.2) x.2 i) (.slice (some ⟨go, 0, none⟩) x.2.length co) gs wr)) (fun v47 _ => x.2.length - (intOf v47).toNat)
   case atStart => exact ⟨0, by omega, rfl, B0⟩
   case round =>
    obtain ⟨i, hi, rfl, BS⟩ := hrel
    by_cases hlt : i < x.2.length
    ·have hltz : (i : Int) < (x.2.length : Int) := by omega
     obtain ⟨adr, Ar, cr, er, r0W, hler, hFr, hokr⟩ := atLF HXG.out i hlt
     have r0 := (World.cell?_of_block (w := W) (w' := wr) (a := adr.add i) (by rw [add_block]; exact BS.out.mv.chg.block _ hokr.2 hokr.1)).trans r0W
     have hry := HSX.out.getD i (by have := HROWS.out; omega)
     have HJS := zk (jrs_shape (rows := x.2) HSTART.out i (by have := HROWS.out; omega))
     have HNEXT := zk (show jrs (startW (accW pre) x.2) x.2 (i + 1) = (jrs (startW (accW pre) x.2) x.2 i).set i (jr ((jrs (startW (accW pre) x.2) x.2 i).getD i []) (x.2.getD i []) (x.2.getD i []).length) from rfl)
     obtain ⟨rr, err⟩ : ∃ rr, rr = x.2.getD i [] := ⟨_, rfl⟩
     rw [← err] at r0 hler hFr hry HNEXT
     obtain ⟨J, eJ⟩ : ∃ J, J = jrs (startW (accW pre) x.2) x.2 i := ⟨_, rfl⟩
     rw [← eJ] at BS HJS HNEXT
     have HFR := zk hFr
     have hry6 : rr.length ≤ 6 ∧ 1 ≤ rr.length := by omega
     have HRY := zk hry
     have HLT := zk hlt
     have HER := zk er
     clear hFr err eJ r0W hry hlt
     subst er
     gi_wp2
     gi_loopw [54] (fun v54 wr => ∃ k : Nat, k ≤ rr.length ∧ v54 = .int .i64 k ∧ Aside0 (WeSt w p8 w1.heap.size (w1.heap.size + 1) (.loop ob) own W (J.set i (jr (J.getD i []) rr k)) (.slice (some ⟨go, 0, none⟩) x.2.length co) gs wr)) (fun v54 _ => rr.length - (intOf v54).toNat)
     case atStart => exact ⟨0, by omega, rfl, ⟨by rw [show jr (J.getD i []) rr 0 = J.getD i [] from rfl, set_getD_self]; exact BS.out⟩⟩
     case round =>
      obtain ⟨k, hk, rfl, BQ⟩ := hrel
      by_cases hlk : k < rr.length
      ·have hlkz : (k : Int) < (rr.length : Int) := by omega
       have HJL := zk (show J.length = x.2.length by have := HJS.out.n; have := HROWS.out; omega)
       obtain ⟨ad2, hA2, d0, d1⟩ := at_T47 (Kd.F_now (BQ.out.mv.Fl HFR.out)) (k : Int) (by omega) (by omega)
       subst hA2
       obtain ⟨r, er⟩ : ∃ r, rd_T47 rr (k : Int) = r := ⟨_, rfl⟩
       rw [er] at d0 d1
       simp only [Int.toNat_natCast] at d0 d1
       obtain ⟨g, cg, hg, h3, go', co', ev', hcell, hgo⟩ := BQ.out.o.at_ i (by have := HLT.out; have := HJL.out; simp; omega)
       simp only [Value.slice.injEq, Option.some.injEq, Addr.mk.injEq, and_true, true_and] at ev'
       obtain ⟨rfl, -, rfl⟩ := ev'
       have hjl : (jr (J.getD i []) rr k).length = rr.length := by rw [jr_length, HJS.out.getD i (by have := HLT.out; have := HROWS.out; omega), HRY.out]
       rw [set_getD _ _ _ (by have := HLT.out; have := HJL.out; omega)] at h3 hcell
       rw [hjl] at h3 hcell
       obtain ⟨a0, a1, b0, b1⟩ := own47_at h3 k (by omega)
       obtain ⟨o, eo⟩ : ∃ o, o = (jr (J.getD i []) rr k).getD k z47 := ⟨_, rfl⟩
       rw [← eo] at a0 a1
       have HG := zk hg
       have HEO := zk eo
       have HERR := zk er
       have HLK := zk hlk
       have H8Q := zk BQ.out.h8
       have q0 := World.block_lt_of_cell? _ _ hcell
       have q1 := World.block_lt_of_cell? _ _ a0
       have q2 := World.block_lt_of_cell? _ _ d0
       have q3 := World.block_lt_of_cell? _ _ d1
       obtain ⟨c_p8_0, f_p8_0, l_p8⟩ := cl1 (W := wr) (p := p8) (a := .slice (some ⟨go, 0, none⟩) x.2.length co) H8Q.out
       clear h3 hjl eo er hg hlk
       gi_wp2
       have BQ5 := zk (BQ.out.below ((below1 (w := wr) (.cells #[.int .i64 r.f0, .int .i64 r.f1] 47)).alloc (by simp) (.cells #[.int .i64 o.f0, .int .i64 o.f1] 47)))
       have HB5 := zk ((below1 (w := wr) (.cells #[.int .i64 r.f0, .int .i64 r.f1] 47)).alloc (by simp) (.cells #[.int .i64 o.f0, .int .i64 o.f1] 47))
       have H15 := zk (blk_alloc (blk_new wr (.cells #[.int .i64 r.f0, .int .i64 r.f1] 47)) (.cells #[.int .i64 o.f0, .int .i64 o.f1] 47))
       have h16 := blk_new (wr.alloc (.cells #[.int .i64 r.f0, .int .i64 r.f1] 47)) (.cells #[.int .i64 o.f0, .int .i64 o.f1] 47)
       simp only [World.size_alloc] at h16
       have H16 := zk h16
       have HCELL := zk hcell
       obtain ⟨p16, e16⟩ : ∃ p16, p16 = wr.heap.size + 1 := ⟨_, rfl⟩
       rw [← e16] at H16 ⊢
       generalize (wr.alloc (.cells #[.int .i64 r.f0, .int .i64 r.f1] 47)).alloc (.cells #[.int .i64 o.f0, .int .i64 o.f1] 47) = W5 at BQ5 HB5 H15 H16 ⊢
       obtain ⟨p15, e15⟩ : ∃ p15, p15 = wr.heap.size := ⟨_, rfl⟩
       rw [← e15] at H15 ⊢
       clear h16 e16 e15 hcell a0 a1 b0 b1 d0 d1 q0 q1 q2 q3 c_p8_0 f_p8_0 l_p8 H8Q
       refine region_litIn (lit := ?lit20b) 17 [[],[],[0,1],[2],[],[],[5],[],[7],[6,8],[],[10],[],[12],[11,13],[9,14],[0,1,2,3,4,5,6,7,8,9,10,11,12,13,14,15]]
        [some (.slice (some ⟨go, 0, none⟩) x.2.length co), some (.int .i64 i), some (.pointer (some ⟨go, i, none⟩)), some (.slice (some ⟨g, 0, none⟩) rr.length cg), some (.int .i64 k),
         some (.pointer (some ⟨p16, 0, none⟩)), some (.int .i64 o.f0), some (.pointer (some ⟨p15, 0, none⟩)), some (.int .i64 r.f0), some (.int .i64 (min o.f0 r.f0)),
         some (.pointer (some ⟨p16, 1, none⟩)), some (.int .i64 o.f1), some (.pointer (some ⟨p15, 1, none⟩)), some (.int .i64 r.f1), some (.int .i64 (max o.f1 r.f1)),
         some (.agg #[.int .i64 (min o.f0 r.f0), .int .i64 (max o.f1 r.f1)]), some (.pointer (some ⟨g, k * 2, none⟩))]
        (fun f u W' => Aside0 (Below W5.heap.size W5 W')) ?hlit20b (by kernel_rfl) (by kernel_rfl) (by decide) ?_ ?_ ?_ ?_ ?_
       case hlit20b =>
        intro u
        simp only [List.take_succ_cons, List.take_zero, List.map_cons, List.map_nil, setAll, Nat.reduceAdd, Act.put, List.setIfInBounds_toArray, List.set_cons_succ, List.set_cons_zero]
        try rfl
       ·intro u w2 hw
        exact zk (hw.below _)
       ·intro i v f u W' hv h
        exact h
       ·intro j o' v hj ho hv f u W' hM hdep hd
        have H8W := zk (BQ5.out.below hM.out).h8
        have H15W := zk (blk_below H15.out hM.out)
        have H16W := zk (blk_below H16.out hM.out)
        have cg0 := ((bt HB5.out hM.out).cell (World.block_lt_of_cell? _ _ HCELL.out)).trans HCELL.out
        have ilt : (i : Int) < (x.2.length : Int) := by have := HLT.out; omega
        have klt : (k : Int) < (rr.length : Int) := by have := HLK.out; omega
        obtain ⟨c_p8_0, f_p8_0, l_p8⟩ := cl1 (W := W') (p := p8) (a := .slice (some ⟨go, 0, none⟩) x.2.length co) H8W.out
        obtain ⟨c_p15_0, f_p15_0, c_p15_1, f_p15_1, l_p15⟩ := cl2 (W := W') (p := p15) (a := .int .i64 r.f0) (b := .int .i64 r.f1) H15W.out
        obtain ⟨c_p16_0, f_p16_0, c_p16_1, f_p16_1, l_p16⟩ := cl2 (W := W') (p := p16) (a := .int .i64 o.f0) (b := .int .i64 o.f1) H16W.out
        clear H8W H15W H16W hM hdep
        replace hj : j < 17 := hj
        match j, hj with
        |0, _ =>
         cases ho
         cases zs hv
         clear hd hv
         gi_wp2
         exact zt
        |1, _ =>
         cases ho
         cases zs hv
         clear hd hv
         gi_wp2
         exact zt
        |2, _ =>
         cases ho
         cases zs hv
         have e0 := hd 0 _ (by decide) rfl
         have e1 := hd 1 _ (by decide) rfl
         clear hd hv
         gi_wp2
         exact zt
        |3, _ =>
         cases ho
         cases zs hv
         have e2 := hd 2 _ (by decide) rfl
         clear hd hv
         gi_wp2
         exact zt
        |4, _ =>
         cases ho
         cases zs hv
         clear hd hv
         gi_wp2
         exact zt
        |5, _ =>
         cases ho
         cases zs hv
         clear hd hv
         gi_wp2
         exact zt
        |6, _ =>
         cases ho
         cases zs hv
         have e5 := hd 5 _ (by decide) rfl
         clear hd hv
         gi_wp2
         exact zt
        |7, _ =>
         cases ho
         cases zs hv
         clear hd hv
         gi_wp2
         exact zt
        |8, _ =>
         cases ho
         cases zs hv
         have e7 := hd 7 _ (by decide) rfl
         clear hd hv
         gi_wp2
         exact zt
        |9, _ =>
         cases ho
         cases zs hv
         have e6 := hd 6 _ (by decide) rfl
         have e8 := hd 8 _ (by decide) rfl
         clear hd hv
         gi_wp2
         exact zt
        |10, _ =>
         cases ho
         cases zs hv
         clear hd hv
         gi_wp2
         exact zt
        |11, _ =>
         cases ho
         cases zs hv
         have e10 := hd 10 _ (by decide) rfl
         clear hd hv
         gi_wp2
         exact zt
        |12, _ =>
         cases ho
         cases zs hv
         clear hd hv
         gi_wp2
         exact zt
        |13, _ =>
         cases ho
         cases zs hv
         have e12 := hd 12 _ (by decide) rfl
         clear hd hv
         gi_wp2
         exact zt
        |14, _ =>
         cases ho
         cases zs hv
         have e11 := hd 11 _ (by decide) rfl
         have e13 := hd 13 _ (by decide) rfl
         clear hd hv
         gi_wp2
         exact zt
        |15, _ =>
         cases ho
         cases zs hv
         have e9 := hd 9 _ (by decide) rfl
         have e14 := hd 14 _ (by decide) rfl
         clear hd hv
         gi_wp2
         exact zt
        |16, _ =>
         cases ho
         cases zs hv
         have e3 := hd 3 _ (by decide) rfl
         have e4 := hd 4 _ (by decide) rfl
         clear hd hv
         gi_wp2
         exact zt
       ·intro j o' hj ho hv f u W' hM hb hdep hq hd
        match j, hj with
        |0, _ => cases hv
        |1, _ => cases hv
        |2, _ => cases hv
        |3, _ => cases hv
        |4, _ => cases hv
        |5, _ => cases hv
        |6, _ => cases hv
        |7, _ => cases hv
        |8, _ => cases hv
        |9, _ => cases hv
        |10, _ => cases hv
        |11, _ => cases hv
        |12, _ => cases hv
        |13, _ => cases hv
        |14, _ => cases hv
        |15, _ => cases hv
        |16, _ => cases hv
        |j + 17, hj => exact absurd hj (by omega)
       ·intro f u W' hall hM hd
        have e15' := hd 15 _ (by decide) rfl
        have e16' := hd 16 _ (by decide) rfl
        have B6 := zk (BQ5.out.below hM.out)
        obtain ⟨g', cg', hg', h3', go', co', ev', _, _⟩ := B6.out.o.at_ i (by have := HLT.out; have := HJL.out; simp; omega)
        rw [HG.out] at hg'
        cases hg'
        have hjl' : (jr (J.getD i []) rr k).length = rr.length := by rw [jr_length, HJS.out.getD i (by have := HLT.out; have := HROWS.out; omega), HRY.out]
        rw [set_getD _ _ _ (by have := HLT.out; have := HJL.out; omega), hjl'] at h3'
        obtain ⟨a0, a1, b0, b1⟩ := own47_at h3' k (by have := HLK.out; omega)
        have ql := World.block_lt_of_cell? _ _ a0
        have HNW := zk (B6.out.set (i := i) (g := g) (c := cg) (by have := HLT.out; have := HJL.out; simp; omega) HG.out k ⟨min o.f0 r.f0, max o.f1 r.f1⟩)
        clear hall hd hM h3' ev'
        gi_wp2
        go_roundw
        case rel =>
         refine ⟨k + 1, by have := HLK.out; omega, by go_num, ⟨?_⟩⟩
         have h9 := HNW.out
         rw [set_getD _ _ _ (by have := HLT.out; have := HJL.out; omega), List.set_set] at h9
         rw [show jr (J.getD i []) rr (k + 1) = (jr (J.getD i []) rr k).set k ⟨min o.f0 r.f0, max o.f1 r.f1⟩ by
          show (jr (J.getD i []) rr k).set k (joinS ((jr (J.getD i []) rr k).getD k z47) (rr.getD k z47)) = _
          rw [← HEO.out, show rr.getD k z47 = r by rw [← HERR.out]; simp [rd_T47]]
          rfl]
         exact h9
        case measure => have := HLK.out; simp [intOf]; omega
      ·have hlkz : decide ((k : Int) < (rr.length : Int)) = false := by simpa using hlk
       have hk2 : k = rr.length := by omega
       subst hk2
       have BN := zk (show WeSt w p8 w1.heap.size (w1.heap.size + 1) (.loop ob) own W (jrs (startW (accW pre) x.2) x.2 (i + 1)) (.slice (some ⟨go, 0, none⟩) x.2.length co) gs wr from by rw [HNEXT.out]; exact BQ.out)
       clear hlk
       gi_wp2
       go_roundw
       case rel => exact ⟨i + 1, by have := HLT.out; omega, by go_num, BN⟩
       case measure => have := HLT.out; simp [intOf]; omega
    ·have hltz : decide ((i : Int) < (x.2.length : Int)) = false := by simpa using hlt
     have hi2 : i = x.2.length := by omega
     subst hi2
     have BN := zk (show WeSt w p8 w1.heap.size (w1.heap.size + 1) (.loop ob) own W (accW (pre ++ [x])) (.slice (some ⟨go, 0, none⟩) x.2.length co) gs wr from by rw [accW_snoc]; exact BS.out)
     clear hlt
     gi_wp2
     refine ⟨BN.out.hl, ownW p8 w1.heap.size (w1.heap.size + 1) (.slice (some ⟨go, 0, none⟩) x.2.length co) gs, BN.out.mv, ⟨⟨_, _, rfl, BN.out.nl, BN.out.nD, BN.out.h8, BN.out.o, fun h => ?_⟩, BN.out.hD, Nat.lt_of_lt_of_le HIW.out.sz BN.out.mv.size, ?_⟩, ?_⟩
     ·have h9 := joinW_shape (R := s.rivers.length) (Y := s.years.toNat) (HACC.out.imp id (fun h => h.1)) HSX.out
      rw [accW_snoc] at h
      rw [h] at h9
      have := h9.n
      simp at this
      omega
     ·refine HIW.out.bw.trans (BN.out.mv.chg.below (fun k hk => ?_) HIW.out.bw.size)
      obtain ⟨v', gs', e', _, _, h8', ho', _⟩ := HIW.out.row
      rw [e'] at hk
      rcases hk with rfl | rfl | rfl | hk
      ·omega
      ·omega
      ·omega
      ·exact (ho'.lt hk).2
     ·intro y hy
      rcases List.mem_append.1 hy with h | h
      ·exact HV.out y h
      ·have : y = x := by simpa using h
       subst this
       exact HX.out
 case hdone =>
  rintro ob own W hm ⟨hI, hv⟩
  obtain ⟨v, gs, hown, nl, nD, h8, ho, _⟩ := hI.row
  have HOW := zk ho
  have HM := zk hm
  have HI := zk hI
  have HN := zk (And.intro nl nD)
  have HOWN := zk hown
  have H8W := zk h8
  have HV := zk ho.V
  obtain ⟨Av, cv, ev⟩ := own_slice ho.out
  subst ev
  obtain ⟨c_p8_0, f_p8_0, l_p8⟩ := cl1 (W := W) (p := p8) (a := .slice Av (accW (truthsOf s)).length cv) H8W.out
  clear ho hm hI nl nD hown h8 hv
  gi_wp2
  refine weather_ret w1.heap.size (.slice Av (accW (truthsOf s)).length cv) (.int .i64 0) rfl rfl HI.out.hD ⟨_, rfl, ?_, ?_⟩
  ·have h2 := (HOW.out.move (W' := W.putObj w1.heap.size (.deferred none)) (fun k hk => World.putObj_heap_other (fun e => HN.out.2 (e ▸ hk)))).V
   exact h2
  ·have h1 : Below w.heap.size w ((w1.alloc (.deferred (some []))).alloc (.loop ob)) := bt HB.out (hb2 ob)
   have h2 : Moved (ownW p8 w1.heap.size (w1.heap.size + 1) (.slice none 0 0) []) ((w1.alloc (.deferred (some []))).alloc (.loop ob)) own (W.putObj w1.heap.size (.deferred none)) :=
    HM.out.own_put (by rw [HOWN.out]; exact .inr (.inl rfl)) _
   exact h1.trans (h2.chg.below (fun k hk => by
    rcases hk with rfl | rfl | rfl | hk | hk
    ·omega
    ·omega
    ·omega
    ·cases hk
    ·cases hk) h1.size)
end Go.Proofs.YtfijblhfgfefoaaGreatDoor.Rv
end
