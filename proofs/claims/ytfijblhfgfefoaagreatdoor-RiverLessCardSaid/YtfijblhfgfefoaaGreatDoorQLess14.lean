/- A part of the proof: words, contracts of functions, and their walks. -/
import Derived.Laws.EntriesVeiled
import Derived.Test.YtfijblhfgfefoaaGreatDoorQLess3
import Derived.Test.YtfijblhfgfefoaaGreatDoorQLess13
set_option linter.unusedVariables false
set_option linter.unusedSimpArgs false
section
namespace Go.Proofs.YtfijblhfgfefoaaGreatDoor.Rv
open Go.RowKit Go.Shelf Go.IntWalk Go.Proofs.YtfijblhfgfefoaaGreatDoor.PAll Go.Proofs.YtfijblhfgfefoaaGreatDoorW.PrintWords Go.Proofs.YtfijblhfgfefoaaGreatDoorW.PrintLast
def truthsOf (s : Sk) : List St := truthsFrom s.years s.rivers s.shells s.tests s.shells.length ([], s.rivers.map (·.f0))
structure TrMem (s : Sk) (W0 W : World) (b2 : Bool) (u2 : Value) : Prop where
 b : Below W0.heap.size W0 W
 m : b2 = true → ∃ A c, u2 = .agg #[.slice none 0 0, .slice A s.rivers.length c] ∧ s.rivers.length ≤ c ∧ Kd.F (Kd.slice 47 k47) W (fun k => W0.heap.size ≤ k) A s.rivers.length (s.rivers.map (·.f0))
set_option maxRecDepth 100000 in
set_option maxHeartbeats 1000000 in
theorem truths_calls (s : Sk) (hs : Good s) (hc : s.rivers.length ≤ s.c1 ∧ s.shells.length ≤ s.c2 ∧ s.tests.length ≤ s.c3) (l : Nat) (J Jx : List St → (Nat → Prop) → World → Prop) (own : Nat → Prop) (W : World) (HE : Eats s l W.heap.size (truthsOf s) J Jx) (m : Nat)
 (f1 : Kd.F k43 W (Low own W.heap.size) s.A1 s.rivers.length s.rivers) (f2 : Kd.F k45 W (Low own W.heap.size) s.A2 s.shells.length s.shells) (f3 : Kd.F k59 W (Low own W.heap.size) s.A3 s.tests.length s.tests) (hJ : J [] own W) :
 CallsIn Fence.wide m Tryz.prog 87 #[.agg s.cells, .func (.yield l) #[] #[]] W fun e W' => (∃ v, e = .returned v) ∧ ∃ own', Moved own W own' W' ∧ (J (truthsOf s) own' W' ∨ ∃ pre', Jx pre' own' W') := by
 rw [callsIn_wide]
 have hu138 := Tryz.underlying138
 have hmf : ∀ (fn : Fn) (first cap : Array Value) (w : World), (Instr.makeFunc fn first cap).run Tryz.prog w = .ok (.func fn first cap) w := fun _ _ _ _ => rfl
 have HF1 := zk f1
 have HF2 := zk f2
 have HF3 := zk f3
 have HJ := zk hJ
 have HC := zk hc
 unfold Sk.cells
 clear f1 f2 f3 hJ hc
 go_enter Tryz.func87, Tryz.ntmps87
 go_wp2
 have HB := zk (((below1 (w := W) (.cells #[.int .i64 s.years, .slice s.A1 s.rivers.length s.c1, .slice s.A2 s.shells.length s.c2, .slice s.A3 s.tests.length s.c3] 138)).alloc (by simp) (.cells #[.func (.yield l) #[] #[]] 209)).alloc (by simp; omega) (.cells #[.func (.func 141) #[] #[.pointer (some ⟨W.heap.size, 0, none⟩), .pointer (some ⟨W.heap.size + 1, 0, none⟩), .pointer (some ⟨W.heap.size + 1 + 1, 0, none⟩)]] 209))
 have b1 := blk_alloc (blk_alloc (blk_new W (.cells #[.int .i64 s.years, .slice s.A1 s.rivers.length s.c1, .slice s.A2 s.shells.length s.c2, .slice s.A3 s.tests.length s.c3] 138)) (.cells #[.func (.yield l) #[] #[]] 209)) (.cells #[.func (.func 141) #[] #[.pointer (some ⟨W.heap.size, 0, none⟩), .pointer (some ⟨W.heap.size + 1, 0, none⟩), .pointer (some ⟨W.heap.size + 1 + 1, 0, none⟩)]] 209)
 have b2 := blk_alloc (blk_new (W.alloc (.cells #[.int .i64 s.years, .slice s.A1 s.rivers.length s.c1, .slice s.A2 s.shells.length s.c2, .slice s.A3 s.tests.length s.c3] 138)) (.cells #[.func (.yield l) #[] #[]] 209)) (.cells #[.func (.func 141) #[] #[.pointer (some ⟨W.heap.size, 0, none⟩), .pointer (some ⟨W.heap.size + 1, 0, none⟩), .pointer (some ⟨W.heap.size + 1 + 1, 0, none⟩)]] 209)
 have b3 := blk_new ((W.alloc (.cells #[.int .i64 s.years, .slice s.A1 s.rivers.length s.c1, .slice s.A2 s.shells.length s.c2, .slice s.A3 s.tests.length s.c3] 138)).alloc (.cells #[.func (.yield l) #[] #[]] 209)) (.cells #[.func (.func 141) #[] #[.pointer (some ⟨W.heap.size, 0, none⟩), .pointer (some ⟨W.heap.size + 1, 0, none⟩), .pointer (some ⟨W.heap.size + 1 + 1, 0, none⟩)]] 209)
 simp only [World.size_alloc] at b2 b3
 have hsz : (((W.alloc (.cells #[.int .i64 s.years, .slice s.A1 s.rivers.length s.c1, .slice s.A2 s.shells.length s.c2, .slice s.A3 s.tests.length s.c3] 138)).alloc (.cells #[.func (.yield l) #[] #[]] 209)).alloc (.cells #[.func (.func 141) #[] #[.pointer (some ⟨W.heap.size, 0, none⟩), .pointer (some ⟨W.heap.size + 1, 0, none⟩), .pointer (some ⟨W.heap.size + 1 + 1, 0, none⟩)]] 209)).heap.size = W.heap.size + 3 := by simp
 generalize ((W.alloc (.cells #[.int .i64 s.years, .slice s.A1 s.rivers.length s.c1, .slice s.A2 s.shells.length s.c2, .slice s.A3 s.tests.length s.c3] 138)).alloc (.cells #[.func (.yield l) #[] #[]] 209)).alloc (.cells #[.func (.func 141) #[] #[.pointer (some ⟨W.heap.size, 0, none⟩), .pointer (some ⟨W.heap.size + 1, 0, none⟩), .pointer (some ⟨W.heap.size + 1 + 1, 0, none⟩)]] 209) = W1 at HB b1 b2 b3 hsz ⊢
 have hlt := HE.lt _ _ _ HJ.out
 have hmv : Moved own W own W1 := Moved.of_below HB.out
 have HEV := zk (show Env s W.heap.size (W.heap.size + 1) (W.heap.size + 1 + 1) l own W1.heap.size W1 from
  ⟨F_raise (hmv.Fl HF1.out) hmv.size, F_raise (hmv.Fl HF2.out) hmv.size, F_raise (hmv.Fl HF3.out) hmv.size, HC.out, b1, b2, b3, ⟨fun h => by have := hlt _ h; omega, fun h => by have := hlt _ h; omega, fun h => by have := hlt _ h; omega⟩, by omega⟩)
 have HJ1 := zk (HE.stab _ _ _ _ HJ.out (stab_below HB.out))
 have HLT := zk hlt
 have HMV := zk hmv
 obtain ⟨B3, e3⟩ : ∃ B3, B3 = W.heap.size + 1 + 1 := ⟨_, rfl⟩
 obtain ⟨B2, e2⟩ : ∃ B2, B2 = W.heap.size + 1 := ⟨_, rfl⟩
 obtain ⟨B1, e1⟩ : ∃ B1, B1 = W.heap.size := ⟨_, rfl⟩
 rw [← e3, ← e2, ← e1] at HEV
 rw [← e3, ← e2, ← e1]
 clear b1 b2 b3 hlt hmv e1 e2 e3 hsz
 refine region_lit (lit := ?lit) 3 [[],[],[1]]
  [some (.func (.func 141) #[] #[.pointer (some ⟨B1, 0, none⟩), .pointer (some ⟨B2, 0, none⟩), .pointer (some ⟨B3, 0, none⟩)]), some (.agg #[.int .i64 s.years, .slice s.A1 s.rivers.length s.c1, .slice s.A2 s.shells.length s.c2, .slice s.A3 s.tests.length s.c3]), none]
  (fun b u W' => Aside0 (TrMem s W1 W' (b 2) (u 2))) ?hlit (by kernel_rfl) (by kernel_rfl) (by decide) ?_ ?_ ?_ ?_ ?_
 case hlit =>
  intro u
  simp only [List.take_succ_cons, List.take_zero, List.map_cons, List.map_nil, setAll, Nat.reduceAdd, Act.put, List.setIfInBounds_toArray, List.set_cons_succ, List.set_cons_zero]
  try rfl
 ·intro u w2 hw
  exact zk ⟨hw.below _, fun h => (by cases h)⟩
 ·intro i v b u W' hv h
  have h2 : (2 : Nat) ≠ i := by rintro rfl; cases hv
  rw [upd_ne h2, upf_ne h2]
  exact h
 ·intro i o' v hi ho hv b u W' hM hdep hd
  have H1W := zk (blk_below HEV.out.b1 hM.out.b)
  unfold Sk.cells at H1W
  obtain ⟨c_B1_0, f_B1_0, c_B1_1, f_B1_1, c_B1_2, f_B1_2, c_B1_3, f_B1_3, l_B1⟩ := cl4 (W := W') (p := B1) (a := .int .i64 s.years) (b := .slice s.A1 s.rivers.length s.c1) (c := .slice s.A2 s.shells.length s.c2) (d := .slice s.A3 s.tests.length s.c3) H1W.out
  have H3W := zk (blk_below HEV.out.b3 hM.out.b)
  obtain ⟨c_B3_0, f_B3_0, l_B3⟩ := cl1 (W := W') (p := B3) (a := .func (.func 141) #[] #[.pointer (some ⟨B1, 0, none⟩), .pointer (some ⟨B2, 0, none⟩), .pointer (some ⟨B3, 0, none⟩)]) H3W.out
  clear H1W H3W hM hdep
  replace hi : i < 3 := hi
  match i, hi with
  |0, _ =>
   cases ho
   cases zs hv
   clear hd hv
   go_wp2
   exact zt
  |1, _ =>
   cases ho
   cases zs hv
   clear hd hv
   go_wp2
   exact zt
  |2, _ =>
   cases hv
 ·intro i o' hi ho hv b u W' hM hb hdep hq hd
  match i, hi with
  |0, _ => cases hv
  |1, _ => cases hv
  |2, _ =>
   cases ho
   have e1' := hd 1 _ (by decide) rfl
   have hC1 := Kd.F_now (Kd.F_below HEV.out.f1 hM.out.b)
   have HBG := zk (begin_t s.years s.A1 s.c1 (.slice s.A2 s.shells.length s.c2) (.slice s.A3 s.tests.length s.c3) W' s.rivers (fun e w'' => Below W'.heap.size W' w'' ∧ ∃ A c, e = .returned (.agg #[.slice none 0 0, .slice A s.rivers.length c]) ∧ s.rivers.length ≤ c ∧ Kd.F (Kd.slice 47 k47) w'' (fun k => W'.heap.size ≤ k) A s.rivers.length (s.rivers.map (·.f0))) hC1 hs.rivers (fun r hr => by have := hs.grow r hr; have := hs.years; omega) (fun w'' A c hb' hle hF => ⟨hb', A, c, rfl, hle, hF⟩))
   clear hd hv hq hdep hb hC1
   go_wp2_with (go_at_call 144; (with_reducible refine HBG.out.mono ?_); rintro e W9 ⟨hB9, A, c, rfl, hle, hF⟩)
   refine ⟨.agg #[.slice none 0 0, .slice A s.rivers.length c], by simp [upf, e1'], zk ⟨bt hM.out.b hB9, fun _ => ⟨A, c, upf_self _ _ _, hle, Kd.F_mono hF (fun k hk => Nat.le_trans hM.out.b.size hk)⟩⟩⟩
  |j + 3, hi => exact absurd hi (by omega)
 ·intro b u W' hall hM hd
  have e0 := hd 0 _ (by decide) rfl
  obtain ⟨A, c, e2', hle, hF⟩ := hM.out.m (hall 2 (by decide))
  have hbw := hM.out.b
  have hmv' : Moved own W1 own W' := Moved.of_below hbw
  have hlen : (s.rivers.map (·.f0)).length = s.rivers.length := by simp
  have HS := zk (search_calls s hs B1 B2 B3 l W.heap.size (truthsOf s) J Jx HE s.shells.length (([] : List S27), s.rivers.map (fun r : S43 => r.f0)) none A 0 c [] own W' 0 (Nat.le_trans HB.out.size hbw.size) (by simp) ⟨hlen, fun r hr => by
   obtain ⟨q, hq, rfl⟩ := List.mem_map.1 hr
   exact hs.grow q hq, by simp⟩ ((HEV.out.moved hmv').raise hmv'.size) ⟨Kd.F_nil _ _ _, by
    rw [hlen]
    exact Kd.F_mono (Kd.F_bound hF) (fun k hk => ⟨fun h => by have := HLT.out k h; have := hk.1; have := HB.out.size; omega, hk.2⟩), by simpa using hle⟩ (HE.stab _ _ _ _ HJ1.out (stab_below hbw)) (fun t ht => ht))
  rw [callsIn_wide] at HS
  unfold stV at HS
  simp only [hlen, List.length_nil, List.nil_append] at HS
  have HBW := zk hbw
  clear hall hd hM hF hbw hmv' hlen
  go_wp2_with (go_at_call 141; (with_reducible refine HS.out.mono ?_); rintro e W9 ⟨own', hm9, ⟨rfl, hJ9⟩ | ⟨rfl, pre', hJ9⟩⟩)
  ·go_end0
   exact ⟨⟨_, rfl⟩, own', (HMV.out.trans (Moved.of_below HBW.out)).trans hm9, .inl (by simpa [truthsOf] using hJ9)⟩
  ·go_end0
   exact ⟨⟨_, rfl⟩, own', (HMV.out.trans (Moved.of_below HBW.out)).trans hm9, .inr ⟨pre', hJ9⟩⟩
end Go.Proofs.YtfijblhfgfefoaaGreatDoor.Rv
end
section
namespace Go.Proofs.YtfijblhfgfefoaaGreatDoor.Rv
open Go.RowKit Go.Shelf Go.IntWalk Go.Proofs.YtfijblhfgfefoaaGreatDoor.PAll Go.Proofs.YtfijblhfgfefoaaGreatDoorW.PrintWords Go.Proofs.YtfijblhfgfefoaaGreatDoorW.PrintLast
theorem range_enter1 {F : Fence} {n : Nat} {P : Program} {g : Operand} {ps : Array Tmp} {assign body : Code} {Q : Exit → Act → World → Prop} {a : Act} {w : World}
 (hro : F.round = none) (h1 : F.depth.isSome = true → 1 ≤ n) {gf : Nat} {v : Value} (hg : a.eval g = .func (.func gf) #[v] #[]) (hFg : F.fn gf) (eg : ∀ args w, (callFunc gf args).run P w = .ok (.enter gf args) w)
 (h : ∀ fn, F.fn fn → CallsIn F (n - 1) P gf #[v, .func (.yield (w.heap.size + 1)) #[] #[]] ((w.alloc (.deferred (some []))).alloc (.loop (rec0 fn a.tmps ps assign body w.heap.size .ready none)))
   (afterRange F n P (w.heap.size + 1) (rec0 fn a.tmps ps assign body w.heap.size) Q { a with defers := { target := .collected w.heap.size, args := #[] } :: a.defers })) :
 (Code.rangeFunc g ps assign body).wpIn F n P Q a w := by
 refine wpIn_rangeFunc ?_
 intro fn hfn
 rw [hro]
 obtain ⟨W1, hW1⟩ : ∃ W1, W1 = (w.alloc (.deferred (some []))).alloc (.loop (rec0 fn a.tmps ps assign body w.heap.size .ready none)) := ⟨_, rfl⟩
 have h' := h fn hfn
 rw [← hW1] at h'
 refine ⟨w.heap.size + 1, [{ target := .collected w.heap.size, args := #[] }], W1, { target := .fn (.func gf) #[], args := #[v, .func (.yield (w.heap.size + 1)) #[] #[]] }, W1, gf,
  #[v, .func (.yield (w.heap.size + 1)) #[] #[]], W1, by rw [hW1]; exact run_enterLoop_outer _ _ _ _ _, ?_, ?_, ?_, h1, ?_⟩
 ·simp only [resolve, hg]
  simp [go_sem]
 ·intro f' hf'; simp [Target.leads] at hf'; subst hf'; exact hFg
 ·simp [invoke, go_sem, eg]
 ·refine h'.mono ?_
  intro e W2 hq
  cases e with
  |returned v =>
   rcases hq with ⟨hl, hQ⟩ | ⟨c, hl, hQ⟩
   ·exact ⟨none, _, run_endLoop hl (by simp [rec0]), hQ⟩
   ·exact ⟨some c, _, run_endLoop hl (by simp [rec0]), hQ⟩
  |panicked c => exact hq.elim
  |outgrown => exact hq.elim
def bodyT (l : Nat) (ob : Obj) (I : List St → (Nat → Prop) → World → Prop) (Ix : Code → List St → (Nat → Prop) → World → Prop) (pre : List St) (own : Nat → Prop) (W0 : World) : Exit → Act → World → Prop
 | .normal, _, W => W.heap[l]? = some ob ∧ ∃ own', Moved own W0 own' W ∧ I pre own' W
 | .ret, _, W => W.heap[l]? = some ob ∧ ∃ own', Moved own W0 own' W ∧ Ix .ret pre own' W
 | .exit id, _, W => W.heap[l]? = some ob ∧ ∃ own', Moved own W0 own' W ∧ Ix (.exit id) pre own' W
 |_, _, _ => False
theorem Moved.own_put {own own' : Nat → Prop} {W W' : World} (h : Moved own W own' W') {l : Nat} (hl : own' l) (o : Obj) : Moved own W own' (W'.putObj l o) :=
 h.trans ⟨fun k hk => .inl hk, (Chg.refl own' W').putObj (r := l) hl o⟩
theorem range_truths {n : Nat} {g : Operand} {p : Tmp} {assign body : Code} {Q : Exit → Act → World → Prop} {a : Act} {w : World} (s : Sk) (hs : Good s) (hc : s.rivers.length ≤ s.c1 ∧ s.shells.length ≤ s.c2 ∧ s.tests.length ≤ s.c3)
 (lit : St → Option Addr → Option Addr → Nat → Nat → Nat → Act)
 (Bx : St → Option Addr → Option Addr → Nat → Nat → Nat → (Nat → Prop) → World → Prop) (hBx : ∀ x A A' c c' b own W W', Bx x A A' c c' b own W → Chg (fun k => k = w.heap.size + 1) W W' → Bx x A A' c c' b own W')
 (hg : a.eval g = .func (.func 87) #[.agg s.cells] #[])
 (I : List St → (Nat → Prop) → World → Prop) (Ix : Code → List St → (Nat → Prop) → World → Prop) (own0 : Nat → Prop)
 (hlt : ∀ pre own W, I pre own W → ∀ k, own k → k < W.heap.size) (hltx : ∀ c pre own W, Ix c pre own W → ∀ k, own k → k < W.heap.size)
 (hown : ∀ pre own W, I pre own W → own (w.heap.size + 1)) (hownx : ∀ c pre own W, Ix c pre own W → own (w.heap.size + 1))
 (hst : ∀ pre own W W', I pre own W → Chg (fun k => (w.heap.size + 2 ≤ k ∧ ¬ own k) ∨ k = w.heap.size + 1) W W' → I pre own W') (hstx : ∀ c pre own W W', Ix c pre own W → Chg (fun k => (w.heap.size + 2 ≤ k ∧ ¬ own k) ∨ k = w.heap.size + 1) W W' → Ix c pre own W')
 (h0 : ∀ ob, I [] own0 ((w.alloc (.deferred (some []))).alloc (.loop ob)))
 (hF1 : ∀ ob, Kd.F k43 ((w.alloc (.deferred (some []))).alloc (.loop ob)) (Low own0 (w.heap.size + 2)) s.A1 s.rivers.length s.rivers) (hF2 : ∀ ob, Kd.F k45 ((w.alloc (.deferred (some []))).alloc (.loop ob)) (Low own0 (w.heap.size + 2)) s.A2 s.shells.length s.shells) (hF3 : ∀ ob, Kd.F k59 ((w.alloc (.deferred (some []))).alloc (.loop ob)) (Low own0 (w.heap.size + 2)) s.A3 s.tests.length s.tests)
 (hassign : ∀ m pre own x W A A' c c' ob, I pre own W → SAt own W.heap.size W x A A' c c' → W.heap[w.heap.size + 1]? = some (.loop ob) → ∀ K : Act → World → Prop,
   (∀ own' W', Moved own W own' W' → I pre own' W' → W'.heap[w.heap.size + 1]? = some (.loop ob) → ∀ b, Bx x A A' c c' b own' W' → K (lit x A A' c c' b) W') →
   assign.wpIn (Fence.wide.inRound (w.heap.size + 1)) m Tryz.prog (Exit.then K (fun _ _ _ => False)) { tmps := a.tmps.setIfInBounds p (stV x A A' c c'), defers := [] } W)
 (hbody : ∀ m pre own x W A A' c c' ob b, I pre own W → SAt own W.heap.size W x A A' c c' → Bx x A A' c c' b own W → W.heap[w.heap.size + 1]? = some (.loop ob) → x ∈ truthsOf s →
   body.wpIn (Fence.wide.inRound (w.heap.size + 1)) m Tryz.prog (bodyT (w.heap.size + 1) (.loop ob) I Ix (pre ++ [x]) own W) (lit x A A' c c' b) W)
 (hdone : ∀ ob own W, Moved own0 ((w.alloc (.deferred (some []))).alloc (.loop ob)) own W → I (truthsOf s) own W → Q .normal { a with defers := { target := .collected w.heap.size, args := #[] } :: a.defers } W)
 (hstop : ∀ ob c pre own W, Moved own0 ((w.alloc (.deferred (some []))).alloc (.loop ob)) own W → Ix c pre own W → c.wpIn Fence.wide n Tryz.prog Q { a with defers := { target := .collected w.heap.size, args := #[] } :: a.defers } W) :
 (Code.rangeFunc g #[p] assign body).wpIn Fence.wide n Tryz.prog Q a w := by
 refine range_enter1 rfl (fun h => (by cases h)) (gf := 87) (v := .agg s.cells) hg trivial (enters_of Tryz.func87 (by kernel_rfl) rfl) ?_
 intro fn _
 have hrec := World.alloc_heap_new (w.alloc (.deferred (some []))) (.loop (rec0 fn a.tmps #[p] assign body w.heap.size .ready none))
 rw [World.size_alloc] at hrec
 have hsz : ((w.alloc (.deferred (some []))).alloc (.loop (rec0 fn a.tmps #[p] assign body w.heap.size .ready none))).heap.size = w.heap.size + 2 := by simp
 refine (truths_calls s hs hc (w.heap.size + 1)
  (fun pre own W => I pre own W ∧ W.heap[w.heap.size + 1]? = some (.loop (rec0 fn a.tmps #[p] assign body w.heap.size .ready none)))
  (fun pre own W => ∃ c, Ix c pre own W ∧ W.heap[w.heap.size + 1]? = some (.loop (rec0 fn a.tmps #[p] assign body w.heap.size .done (some c))))
  own0 _ ⟨fun pre own W h => hlt pre own W h.1, ?_, ?_, fun pre own W h => by obtain ⟨c, h, _⟩ := h; exact hltx c pre own W h, ?_⟩ (n - 1) (by rw [hsz]; exact hF1 _) (by rw [hsz]; exact hF2 _) (by rw [hsz]; exact hF3 _) ⟨h0 _, hrec⟩).mono ?_
 ·rintro pre own W W2 ⟨hi, hl⟩ hch
  rw [hsz] at hch
  exact ⟨hst _ _ _ _ hi (hch.mono (fun i _ h => .inl h)), (hch.block _ (blk_lt hl) (fun h => h.2 (hown _ _ _ hi))).trans hl⟩
 ·rintro pre own W W2 ⟨c, hi, hl⟩ hch
  rw [hsz] at hch
  exact ⟨c, hstx _ _ _ _ _ hi (hch.mono (fun i _ h => .inl h)), (hch.block _ (blk_lt hl) (fun h => h.2 (hownx _ _ _ _ hi))).trans hl⟩
 ·rintro m pre x own W A A' c c' ⟨hi, hl⟩ hx hS
  refine yield_round trivial hl rfl ?_
  have ez : (#[p].zip #[stV x A A' c c']).foldl (fun t (p, v) => t.setIfInBounds p v) a.tmps = a.tmps.setIfInBounds p (stV x A A' c c') := by simp
  rw [ez]
  refine hassign m pre own x W A A' c c' _ hi hS hl _ ?_
  intro own' W' hm hi' hl' b hbb
  have hm2 : Moved own W own' (W'.putObj (w.heap.size + 1) (.loop (rec0 fn a.tmps #[p] assign body w.heap.size .busy none))) := hm.own_put (hown _ _ _ hi') _
  refine ⟨hl', Go.wpIn_mono (hbody m pre own' x _ A A' c c' _ b (hst _ _ _ _ hi' ((chg_put _ _ _).mono (fun i _ h => .inr h))) ((hS.moved hm2).raise hm2.size) (hBx _ _ _ _ _ _ _ _ _ hbb (chg_put _ _ _)) (World.putObj_heap_same (blk_lt hl')) hx) ?_⟩
  intro e a3 W3 hq
  cases e with
  |normal =>
   obtain ⟨hl3, own3, hm3, hi3⟩ := hq
   exact ⟨hl3, own3, (hm2.trans hm3).own_put (hown _ _ _ hi3) _, .inl ⟨rfl, hst _ _ _ _ hi3 ((chg_put _ _ _).mono (fun i _ h => .inr h)), World.putObj_heap_same (blk_lt hl3)⟩⟩
  |ret =>
   obtain ⟨hl3, own3, hm3, hi3⟩ := hq
   exact ⟨hl3, own3, (hm2.trans hm3).own_put (hownx _ _ _ _ hi3) _, .inr ⟨rfl, .ret, hstx _ _ _ _ _ hi3 ((chg_put _ _ _).mono (fun i _ h => .inr h)), World.putObj_heap_same (blk_lt hl3)⟩⟩
  |exit id =>
   obtain ⟨hl3, own3, hm3, hi3⟩ := hq
   exact ⟨hl3, own3, (hm2.trans hm3).own_put (hownx _ _ _ _ hi3) _, .inr ⟨rfl, .exit id, hstx _ _ _ _ _ hi3 ((chg_put _ _ _).mono (fun i _ h => .inr h)), World.putObj_heap_same (blk_lt hl3)⟩⟩
  |goto t => exact hq.elim
  |panic c => exact hq.elim
  |outgrown => exact hq.elim
 ·rintro e W2 ⟨⟨v, rfl⟩, own', hm, ⟨hi, hl⟩ | ⟨pre, c, hi, hl⟩⟩
  ·exact .inl ⟨hl, hdone _ own' _ (hm.own_put (hown _ _ _ hi) _) (hst _ _ _ _ hi ((chg_put _ _ _).mono (fun i _ h => .inr h)))⟩
  ·exact .inr ⟨c, hl, hstop _ c pre own' _ (hm.own_put (hownx _ _ _ _ hi) _) (hstx _ _ _ _ _ hi ((chg_put _ _ _).mono (fun i _ h => .inr h)))⟩
end Go.Proofs.YtfijblhfgfefoaaGreatDoor.Rv
end
section
namespace Go.Proofs.YtfijblhfgfefoaaGreatDoor.Rv
open Go.RowKit Go.Shelf Go.IntWalk Go.Proofs.YtfijblhfgfefoaaGreatDoor.PAll Go.Proofs.YtfijblhfgfefoaaGreatDoorW.PrintWords Go.Proofs.YtfijblhfgfefoaaGreatDoorW.PrintLast
attribute [local go_sem] Oper.semAt_some wide_fn wide_depth
theorem heap47 : Kd.Heap k47 := Kd.heap_iso _ (Kd.heap_pair (Kd.heap_int _) (Kd.heap_int _))
theorem heap43 : Kd.Heap k43 := Kd.heap_iso _ (Kd.heap_pair (Kd.heap_slice 47 heap47) (Kd.heap_pair (Kd.heap_int _) (Kd.heap_int _)))
theorem heap45 : Kd.Heap k45 := Kd.heap_iso _ (Kd.heap_pair (Kd.heap_slice 3 (Kd.heap_int _)) (Kd.heap_int _))
theorem heap59 : Kd.Heap k59 := Kd.heap_iso _ (Kd.heap_pair (Kd.heap_int _) Kd.heap_bool)
theorem possible_results (tm : Array Value) (W : World) (p : Nat) (c : Bool) (h2 : tm.getD 2 undef = .pointer (some ⟨p, 0, none⟩)) (H2 : W.heap[p]? = some (.cells #[.bool c] 4 (0, 0))) :
 (results Tryz.f103 tm).run Tryz.prog W = .ok (.bool c) W := by
 have hp : tm[2]?.getD undef = .pointer (some ⟨p, 0, none⟩) := by simpa using h2
 have hc : W.cell? ⟨p, 0, none⟩ = some (.bool c) := blk_cell H2 0
 have hu := Tryz.underlying4
 have hrs : Tryz.f103.results = #[.cell 2 4] := rfl
 simp [results, hrs, hp, asAddr, go_sem, hc, hu]
theorem possible_ret {m : Nat} {tm : Array Value} {W : World} {R : Ending → World → Prop} (p D : Nat) (c : Bool) (h2 : tm.getD 2 undef = .pointer (some ⟨p, 0, none⟩)) (H2 : W.heap[p]? = some (.cells #[.bool c] 4 (0, 0))) (HD : W.heap[D]? = some (.deferred (some []))) (hne : p ≠ D) (hR : R (.returned (.bool c)) (W.putObj D (.deferred none))) :
 LeavesInM Fence.wide m Tryz.prog Tryz.f103 tm R [{ target := .collected D, args := #[] }] .returning W :=
 ⟨by simp, .inl ⟨D, _, rfl, run_takeDeferred HD, _, possible_results tm _ p c h2 ((World.putObj_heap_other hne).trans H2), hR⟩⟩
structure PIn (w : World) (p D l : Nat) (c : Bool) (own : Nat → Prop) (W : World) : Prop where
 ow : own = fun k => k = p ∨ k = D ∨ k = l
 h2 : W.heap[p]? = some (.cells #[.bool c] 4 (0, 0))
 hD : W.heap[D]? = some (.deferred (some []))
 sz : l < W.heap.size
theorem PIn.chg {w : World} {p D l N : Nat} {c : Bool} {own : Nat → Prop} {W W' : World} (h : PIn w p D l c own W) (hp : p ≠ l) (hD : D ≠ l) (hc : Chg (fun k => (N ≤ k ∧ ¬ own k) ∨ k = l) W W') : PIn w p D l c own W' := by
 obtain ⟨rfl, h2, h3, h4⟩ := h
 refine ⟨rfl, (hc.block _ (blk_lt h2) (fun h => ?_)).trans h2, (hc.block _ (blk_lt h3) (fun h => ?_)).trans h3, Nat.lt_of_lt_of_le h4 hc.size⟩
 ·rcases h with h | h
  ·exact h.2 (.inl rfl)
  ·exact hp h
 ·rcases h with h | h
  ·exact h.2 (.inr (.inl rfl))
  ·exact hD h
set_option maxRecDepth 100000 in
set_option maxHeartbeats 1000000 in
theorem possible_calls (s : Sk) (hs : Good s) (hc : s.rivers.length ≤ s.c1 ∧ s.shells.length ≤ s.c2 ∧ s.tests.length ≤ s.c3) (w : World)
 (f1 : Kd.C k43 w s.A1 s.rivers.length s.rivers) (f2 : Kd.C k45 w s.A2 s.shells.length s.shells) (f3 : Kd.C k59 w s.A3 s.tests.length s.tests) :
 Calls Tryz.prog 103 #[.agg s.cells] w fun e w' => e = .returned (.bool (decide (truthsOf s ≠ []))) ∧ Below w.heap.size w w' := by
 rw [← callsIn_wide (n := 0)]
 have hu138 := Tryz.underlying138
 have hmf : ∀ (fn : Fn) (first cap : Array Value) (w : World), (Instr.makeFunc fn first cap).run Tryz.prog w = .ok (.func fn first cap) w := fun _ _ _ _ => rfl
 have HF1 := zk f1
 have HF2 := zk f2
 have HF3 := zk f3
 clear f1 f2 f3
 refine callsIn_of_wp_marks Tryz.func103 rfl trivial ?_ rfl
 unfold Sk.cells
 simp only [Tryz.ntmps103, List.size_toArray, List.length_cons, List.length_nil, Nat.reduceAdd, Nat.reduceSub, Array.replicate_succ, Array.replicate_zero, List.push_toArray, List.append_toArray, List.nil_append, List.cons_append]
 gi_wp2
 have HB := zk ((below1 (w := w) (.cells #[.int .i64 s.years, .slice s.A1 s.rivers.length s.c1, .slice s.A2 s.shells.length s.c2, .slice s.A3 s.tests.length s.c3] 138)).alloc (by simp) (.cells #[.bool false] 4))
 have b2 := blk_new (w.alloc (.cells #[.int .i64 s.years, .slice s.A1 s.rivers.length s.c1, .slice s.A2 s.shells.length s.c2, .slice s.A3 s.tests.length s.c3] 138)) (.cells #[.bool false] 4)
 simp only [World.size_alloc] at b2
 generalize (w.alloc (.cells #[.int .i64 s.years, .slice s.A1 s.rivers.length s.c1, .slice s.A2 s.shells.length s.c2, .slice s.A3 s.tests.length s.c3] 138)).alloc (.cells #[.bool false] 4) = w1 at HB b2 ⊢
 have h2lt := blk_lt b2
 have H2 := zk b2
 obtain ⟨p2, e2⟩ : ∃ p2, p2 = w.heap.size + 1 := ⟨_, rfl⟩
 rw [← e2] at H2 h2lt
 rw [← e2]
 have lo2 : w.heap.size ≤ p2 := by omega
 clear b2 e2
 have hne2 : p2 ≠ w1.heap.size + 1 := by omega
 have hneD : w1.heap.size ≠ w1.heap.size + 1 := by omega
 have hb2 : ∀ ob, Below w1.heap.size w1 ((w1.alloc (.deferred (some []))).alloc (.loop ob)) := fun ob => (below1 _).alloc (by simp) _
 have hFl : ∀ {α : Type} {d : Kd α} {A : Option Addr} {n : Nat} {xs : List α} (ob : Loop), Kd.Heap d → d.C w A n xs → Kd.F d ((w1.alloc (.deferred (some []))).alloc (.loop ob)) (Low (fun k => k = p2 ∨ k = w1.heap.size ∨ k = w1.heap.size + 1) (w1.heap.size + 2)) A n xs := fun ob hd h => by
  refine Kd.F_mono (Kd.F_below (Kd.F_below (Kd.C_F hd h) HB.out) (hb2 ob)) (fun k hk => ⟨fun h => ?_, ?_⟩)
  ·have := HB.out.size; omega
  ·have := HB.out.size; omega
 have hbf : ∀ (ob : Loop) (own : Nat → Prop) (W : World), Moved (fun k => k = p2 ∨ k = w1.heap.size ∨ k = w1.heap.size + 1) ((w1.alloc (.deferred (some []))).alloc (.loop ob)) own W → own = (fun k => k = p2 ∨ k = w1.heap.size ∨ k = w1.heap.size + 1) → Below w.heap.size w (W.putObj w1.heap.size (.deferred none)) := fun ob own W hm _ => by
  have h1 : Below w.heap.size w ((w1.alloc (.deferred (some []))).alloc (.loop ob)) := bt HB.out (hb2 ob)
  have hsz := HB.out.size
  have h2 : Chg (fun k => k = p2 ∨ k = w1.heap.size ∨ k = w1.heap.size + 1) ((w1.alloc (.deferred (some []))).alloc (.loop ob)) (W.putObj w1.heap.size (.deferred none)) := hm.chg.putObj (r := w1.heap.size) (.inr (.inl rfl)) _
  exact h1.trans (h2.below (fun i hi => by rcases hi with rfl | rfl | rfl <;> omega) h1.size)
 refine range_truths (lit := ?lit) s hs hc (fun _ _ _ _ _ _ _ _ => True) (fun _ _ _ _ _ _ _ _ _ h _ => h) rfl
  (fun pre own W => pre = [] ∧ PIn w p2 w1.heap.size (w1.heap.size + 1) false own W)
  (fun c pre own W => c = .ret ∧ truthsOf s ≠ [] ∧ PIn w p2 w1.heap.size (w1.heap.size + 1) true own W)
  (fun k => k = p2 ∨ k = w1.heap.size ∨ k = w1.heap.size + 1)
  ?hlt ?hltx ?hown ?hownx ?hst ?hstx ?h0 (fun ob => hFl ob heap43 HF1.out) (fun ob => hFl ob heap45 HF2.out) (fun ob => hFl ob heap59 HF3.out) ?hassign ?hbody ?hdone ?hstop
 case hassign =>
  rintro m pre own x W A A' c c' ob hI hS hl K hK
  obtain ⟨b0, _⟩ : ∃ b0 : Nat, b0 = 0 := ⟨_, rfl⟩
  have HK := zk (hK own W (Moved.refl _ _) hI hl b0 trivial)
  clear hK hI hS
  unfold stV
  gi_wp2
  exact HK.out
 case hlt =>
  rintro pre own W ⟨_, h⟩ k hk
  rw [h.ow] at hk
  have := blk_lt h.h2
  have := blk_lt h.hD
  have := h.sz
  rcases hk with rfl | rfl | rfl <;> assumption
 case hltx =>
  rintro c pre own W ⟨_, _, h⟩ k hk
  rw [h.ow] at hk
  have := blk_lt h.h2
  have := blk_lt h.hD
  have := h.sz
  rcases hk with rfl | rfl | rfl <;> assumption
 case hown =>
  rintro pre own W ⟨_, h⟩
  rw [h.ow]
  exact .inr (.inr rfl)
 case hownx =>
  rintro c pre own W ⟨_, _, h⟩
  rw [h.ow]
  exact .inr (.inr rfl)
 case hst => exact fun pre own W W' h hch => ⟨h.1, h.2.chg hne2 hneD hch⟩
 case hstx => exact fun c pre own W W' h hch => ⟨h.1, h.2.1, h.2.2.chg hne2 hneD hch⟩
 case h0 =>
  intro ob
  refine ⟨rfl, rfl, blk_alloc (blk_alloc H2.out _) _, blk_alloc (blk_new _ _) _, by simp⟩
 case hbody =>
  rintro m pre own x W A A' c c' ob b ⟨rfl, hP⟩ hS _ hl hx
  have HP2 := zk hP
  have H2W := zk hP.h2
  obtain ⟨c_p2_0, f_p2_0, l_p2⟩ := cl1 (W := W) (p := p2) (a := .bool false) H2W.out
  have HL := zk hl
  have HX := zk hx
  clear hP hS hl hx
  gi_wp2
  have ho := HP2.out.ow
  have hch : Chg own W (W.setCell ⟨p2, 0, none⟩ (.bool true)) := (Chg.refl _ _).setCell (p := ⟨p2, 0, none⟩) (by rw [ho]; exact .inl rfl) _
  refine ⟨(Below.heap_setCell _ ⟨p2, 0, none⟩ _ _ (fun e => hne2 e.symm)).trans HL.out, own, ⟨fun k h => .inl h, hch⟩, rfl, ?_, ho, blk_put H2W.out 0 _ rfl, ?_, ?_⟩
  ·intro h
   have := HX.out
   rw [h] at this
   cases this
  ·exact (Below.heap_setCell _ ⟨p2, 0, none⟩ _ _ (fun e => by have e' : w1.heap.size = p2 := e; omega)).trans HP2.out.hD
  ·simpa [World.setCell] using HP2.out.sz
 case hdone =>
  rintro ob own W hm ⟨he, hP⟩
  have HP2 := zk hP
  have HM := zk hm
  have H2W := zk hP.h2
  obtain ⟨c_p2_0, f_p2_0, l_p2⟩ := cl1 (W := W) (p := p2) (a := .bool false) H2W.out
  have HE := zk he
  clear hP hm he
  gi_wp2
  have hb := hbf ob own (W.setCell ⟨p2, 0, none⟩ (.bool false)) (HM.out.trans ⟨fun k h => .inl h, (Chg.refl own W).setCell (p := ⟨p2, 0, none⟩) (by rw [HP2.out.ow]; exact .inl rfl) _⟩) HP2.out.ow
  refine possible_ret p2 w1.heap.size false rfl (blk_put H2W.out 0 _ rfl) ((Below.heap_setCell _ ⟨p2, 0, none⟩ _ _ (fun e => by have e' : w1.heap.size = p2 := e; omega)).trans HP2.out.hD) (by omega) ⟨by simp [HE.out], hb⟩
 case hstop =>
  rintro ob c pre own W hm ⟨rfl, hx, hP⟩
  have HP2 := zk hP
  have HM := zk hm
  have HX := zk hx
  clear hP hm hx
  gi_wp2
  refine possible_ret p2 w1.heap.size true rfl HP2.out.h2 HP2.out.hD (by omega) ⟨by simp [HX.out], hbf ob own W HM.out HP2.out.ow⟩
end Go.Proofs.YtfijblhfgfefoaaGreatDoor.Rv
end
