/- A part of the proof: words, contracts of functions, and their walks. -/
import Derived.RangeFuncNested
import Derived.RangeFuncLeaves
import Derived.Shelf.Abstract
import Derived.OwnWalkIn
import Derived.TacticsInMore
import Derived.LoopNIn
import Derived.LoopIn
import Derived.IntWalk
import Derived.Test.YtfijblhfgfefoaaGreatDoorQLess3
import Derived.Test.YtfijblhfgfefoaaGreatDoorQLess4
import Derived.Test.YtfijblhfgfefoaaGreatDoorQLess5
import Derived.Test.YtfijblhfgfefoaaGreatDoorQLess6
set_option linter.unusedVariables false
set_option linter.unusedSimpArgs false
section
namespace Go.Proofs.YtfijblhfgfefoaaGreatDoor.Rv
open Go.RowKit Go.Shelf Go.IntWalk Go.Proofs.YtfijblhfgfefoaaGreatDoor.PAll Go.Proofs.YtfijblhfgfefoaaGreatDoorW.PrintWords Go.Proofs.YtfijblhfgfefoaaGreatDoorW.PrintLast
def rec0 (fn : FuncId) (tmps : Array Value) (ps : Array Tmp) (assign body : Code) (D : Nat) (st : LoopState) (pe : Option Code) : Loop :=
 { state := st, pending := pe, fn, tmps, params := ps, assign, body, defers := D }
def roundQ (l : Nat) (rc : LoopState → Option Code → Loop) (R : Ending → World → Prop) : Exit → Act → World → Prop
 | .normal, _, w => w.heap[l]? = some (.loop (rc .busy none)) ∧ R (.returned (.bool true)) (w.putObj l (.loop (rc .ready none)))
 | .ret, _, w => w.heap[l]? = some (.loop (rc .busy none)) ∧ R (.returned (.bool false)) (w.putObj l (.loop (rc .done (some .ret))))
 | .exit id, _, w => w.heap[l]? = some (.loop (rc .busy none)) ∧ R (.returned (.bool false)) (w.putObj l (.loop (rc .done (some (.exit id)))))
 |_, _, _ => False
theorem yield_round {F : Fence} {m : Nat} {P : Program} {l : Nat} {fn : FuncId} {tmps : Array Value} {ps : Array Tmp} {assign body : Code} {D : Nat} {args : Array Value} {W : World} {R : Ending → World → Prop}
 (hF : F.fn fn) (hl : W.heap[l]? = some (.loop (rec0 fn tmps ps assign body D .ready none))) (hps : args.size = ps.size)
 (h : assign.wpIn (F.inRound l) m P (Exit.then (fun a1 w1 => w1.heap[l]? = some (.loop (rec0 fn tmps ps assign body D .ready none)) ∧ body.wpIn (F.inRound l) m P (roundQ l (rec0 fn tmps ps assign body D) R) a1 (w1.putObj l (.loop (rec0 fn tmps ps assign body D .busy none)))) (fun _ _ _ => False))
   { tmps := (ps.zip args).foldl (fun t (p, v) => t.setIfInBounds p v) tmps, defers := [] } W) : YieldAt F m P l args W R := by
 have hy := run_yield (P := P) (args := args) hl hps
 refine ⟨fn, _, assign, body, hy, roundIn_of_wpIn hF (Go.wpIn_mono h ?_)⟩
 intro e a1 w1 hq
 cases e <;> first | exact hq.elim | skip
 obtain ⟨hl1, hb⟩ := hq
 refine ⟨_, run_beginRound hl1 rfl, Go.wpIn_mono hb ?_⟩
 intro e2 a2 w2 hq2
 cases e2 with
 |normal => exact ⟨_, _, run_endRound none hq2.1, hq2.2⟩
 |ret => exact ⟨_, _, run_endRound (some .ret) hq2.1, hq2.2⟩
 |exit id => exact ⟨_, _, run_endRound (some (.exit id)) hq2.1, hq2.2⟩
 |goto t => exact hq2.elim
 |panic c => exact hq2.elim
 |outgrown => exact hq2.elim
def afterRange (F : Fence) (n : Nat) (P : Program) (l : Nat) (rc : LoopState → Option Code → Loop) (Q : Exit → Act → World → Prop) (a' : Act) : Ending → World → Prop
 | .returned _, w => (w.heap[l]? = some (.loop (rc .ready none)) ∧ Q .normal a' (w.putObj l (.loop (rc .exhausted none)))) ∨
  ∃ c, w.heap[l]? = some (.loop (rc .done (some c))) ∧ c.wpIn F n P Q a' (w.putObj l (.loop (rc .exhausted (some c))))
 |_, _ => False
theorem range_enter {F : Fence} {n : Nat} {P : Program} {g : Operand} {ps : Array Tmp} {assign body : Code} {Q : Exit → Act → World → Prop} {a : Act} {w : World}
 (hro : F.round = none) (h1 : F.depth.isSome = true → 1 ≤ n) {gf : Nat} {lb : Array Value} (hg : a.eval g = .func (.func gf) #[] lb) (hFg : F.fn gf) (eg : ∀ args w, (callFunc gf args).run P w = .ok (.enter gf args) w)
 (h : ∀ fn, F.fn fn → CallsIn F (n - 1) P gf (#[.func (.yield (w.heap.size + 1)) #[] #[]] ++ lb) ((w.alloc (.deferred (some []))).alloc (.loop (rec0 fn a.tmps ps assign body w.heap.size .ready none)))
   (afterRange F n P (w.heap.size + 1) (rec0 fn a.tmps ps assign body w.heap.size) Q { a with defers := { target := .collected w.heap.size, args := #[] } :: a.defers })) :
 (Code.rangeFunc g ps assign body).wpIn F n P Q a w := by
 refine wpIn_rangeFunc ?_
 intro fn hfn
 rw [hro]
 obtain ⟨W1, hW1⟩ : ∃ W1, W1 = (w.alloc (.deferred (some []))).alloc (.loop (rec0 fn a.tmps ps assign body w.heap.size .ready none)) := ⟨_, rfl⟩
 have h' := h fn hfn
 rw [← hW1] at h'
 refine ⟨w.heap.size + 1, [{ target := .collected w.heap.size, args := #[] }], W1, { target := .fn (.func gf) lb, args := #[.func (.yield (w.heap.size + 1)) #[] #[]] }, W1, gf,
  #[.func (.yield (w.heap.size + 1)) #[] #[]] ++ lb, W1, by rw [hW1]; exact run_enterLoop_outer _ _ _ _ _, ?_, ?_, ?_, h1, ?_⟩
 ·simp only [resolve, hg]
  simp [go_sem]
 ·intro f' hf'; simp [Target.leads] at hf'; subst hf'; exact hFg
 ·simp [invoke, go_sem, eg]
 ·refine h'.mono ?_
  intro e W2 hq
  cases e with
  |returned v =>
   rcases hq with ⟨hl, hQ⟩ | ⟨c, hl, hQ⟩
   ·exact ⟨none, _, run_endLoop hl (by simp [rec0]), hQ⟩
   ·exact ⟨some c, _, run_endLoop hl (by simp [rec0]), hQ⟩
  |panicked c => exact hq.elim
  |outgrown => exact hq.elim
attribute [local go_sem] Oper.semAt_some
def yearsOf (n years : Int) : List Int := (List.range (years - (n - 1)).toNat).map fun (i : Nat) => (n - 1) + (i : Int)
def riverOrigins (n years : Int) (r : Nat) : List S27 := (yearsOf n years).map fun y => ⟨r, y⟩
def originsL (R : Nat) (n years : Int) : List S27 := (List.range R).flatMap (riverOrigins n years)
theorem originsL_succ (R : Nat) (n years : Int) : originsL (R + 1) n years = originsL R n years ++ riverOrigins n years R := by
 simp [originsL, List.range_succ, List.flatMap_append]
theorem yearsOf_get (n years : Int) (i : Nat) (h : n - 1 + i < years) : (yearsOf n years)[i]? = some (n - 1 + i) := by
 unfold yearsOf
 rw [List.getElem?_map, List.getElem?_range (by omega)]
 rfl
theorem riverOrigins_take (n years : Int) (k i : Nat) (h : n - 1 + i < years) : (riverOrigins n years k).take (i + 1) = (riverOrigins n years k).take i ++ [⟨k, n - 1 + i⟩] := by
 have : (riverOrigins n years k)[i]? = some ⟨k, n - 1 + i⟩ := by
  unfold riverOrigins
  rw [List.getElem?_map, yearsOf_get n years i h]
  rfl
 rw [List.take_add_one, this]
 rfl
theorem riverOrigins_all (n years : Int) (k i : Nat) (h : years ≤ n - 1 + i) : (riverOrigins n years k).take i = riverOrigins n years k := by
 refine List.take_of_length_le ?_
 simp [riverOrigins, yearsOf]
 omega
theorem originsL_prefix (n years : Int) (R k : Nat) (h : k ≤ R) : originsL k n years <+: originsL R n years := by
 induction R with
 |zero => obtain rfl : k = 0 := by omega
          exact List.prefix_refl _
 |succ R ih =>
  rcases Nat.lt_or_ge R k with h1 | h1
  ·obtain rfl : k = R + 1 := by omega
   exact List.prefix_refl _
  ·rw [originsL_succ]
   exact (ih h1).trans (List.prefix_append _ _)
def encO (o : S27) : Array Value := #[.agg #[.int .i64 o.f0, .int .i64 o.f1]]
set_option maxRecDepth 100000 in
set_option maxHeartbeats 1000000 in
theorem origins_seq (m : Nat) (l B1 B2 : Nat) (years off : Int) (A1 AR : Option Addr) (c1 cR R nR : Nat) (V2 V3 : Value) (J Jx : List S27 → World → Prop) (W : World)
 (hR : R ≤ 1000) (hn : nR ≤ 1000) (hn1 : 1 ≤ nR) (hy0 : 0 ≤ years ∧ years ≤ 1000)
 (hJ : ∀ pre W, J pre W → W.heap[B1]? = some (.cells #[.int .i64 years, .slice A1 R c1, V2, V3] 138 (0, 0)) ∧ W.heap[B2]? = some (.cells #[.slice AR nR cR, .int .i64 off] 45 (0, 0)))
 (hY : ∀ pre x W, J pre W → pre ++ [x] <+: originsL R nR years → YieldAt Fence.wide (m - 1) Tryz.prog l (encO x) W fun e W' => (e = .returned (.bool true) ∧ J (pre ++ [x]) W') ∨ (e = .returned (.bool false) ∧ Jx (pre ++ [x]) W'))
 (h0 : J [] W) :
 CallsIn Fence.wide m Tryz.prog 178 #[.func (.yield l) #[] #[], .pointer (some ⟨B1, 0, none⟩), .pointer (some ⟨B2, 0, none⟩)] W fun e W' => (∃ v, e = .returned v) ∧ (J (originsL R nR years) W' ∨ ∃ pre, Jx pre W') := by
 have HJ := zk hJ
 have HY := zk hY
 clear hJ hY
 have hu138 := Tryz.underlying138
 have hu45 := Tryz.underlying45
 refine callsIn_of_wp Tryz.func178 rfl trivial ?_ rfl
 simp only [Tryz.ntmps178, List.size_toArray, List.length_cons, List.length_nil, Nat.reduceAdd, Nat.reduceSub, Array.replicate_succ, Array.replicate_zero, List.push_toArray, List.append_toArray, List.nil_append, List.cons_append]
 have H1 := zk (HJ.out _ _ h0).1
 have H2 := zk (HJ.out _ _ h0).2
 obtain ⟨c_B1_0, f_B1_0, c_B1_1, f_B1_1, c_B1_2, f_B1_2, c_B1_3, f_B1_3, l_B1⟩ := cl4 (W := W) (p := B1) (a := .int .i64 years) (b := .slice A1 R c1) (c := V2) (d := V3) H1.out
 gi_wp2
 clear H1 H2
 clear c_B1_0 f_B1_0 c_B1_1 f_B1_1 c_B1_2 f_B1_2 c_B1_3 f_B1_3 l_B1
 gi_loopw [10] (fun v10 wr => ∃ k : Nat, k ≤ R ∧ v10 = .int .i64 k ∧ J (originsL k nR years) wr) (fun v10 wr => (R - intOf v10).toNat)
 case atStart => exact ⟨0, by omega, rfl, h0⟩
 case round =>
  obtain ⟨k, hk, rfl, hJk⟩ := hrel
  by_cases hlt : k < R
  ·have hltz : decide ((k : Int) < R) = true := by simp; omega
   have H2 := zk (HJ.out _ _ hJk).2
   obtain ⟨c_B2_0, f_B2_0, c_B2_1, f_B2_1, l_B2⟩ := cl2 (W := wr) (p := B2) (a := .slice AR nR cR) (b := .int .i64 off) H2.out
   gi_wp2
   clear H2
   clear c_B2_0 f_B2_0 c_B2_1 f_B2_1 l_B2
   gi_loopw [5] (fun v5 wr2 => ∃ i : Nat, v5 = .int .i64 ((nR : Int) - 1 + i) ∧ (i = 0 ∨ (nR : Int) - 1 + i ≤ years) ∧ J (originsL k nR years ++ (riverOrigins nR years k).take i) wr2) (fun v5 wr2 => (years - intOf v5).toNat)
   case atStart => exact ⟨0, by simp, .inl rfl, by simpa using hJk⟩
   case round =>
    obtain ⟨i, rfl, hi, hJi⟩ := hrel
    have H1 := zk (HJ.out _ _ hJi).1
    obtain ⟨c_B1_0, f_B1_0, c_B1_1, f_B1_1, c_B1_2, f_B1_2, c_B1_3, f_B1_3, l_B1⟩ := cl4 (W := wr) (p := B1) (a := .int .i64 years) (b := .slice A1 R c1) (c := V2) (d := V3) H1.out
    by_cases hy : (nR : Int) - 1 + i < years
    ·have hyz : decide ((nR : Int) - 1 + i < years) = true := by simpa using hy
     have hpre : (originsL k nR years ++ (riverOrigins nR years k).take i) ++ [⟨k, (nR : Int) - 1 + i⟩] <+: originsL R nR years := by
      rw [List.append_assoc, ← riverOrigins_take nR years k i hy]
      refine List.IsPrefix.trans ?_ (originsL_prefix nR years R (k + 1) hlt)
      rw [originsL_succ]
      exact List.prefix_append_right_inj _ |>.2 (List.take_prefix _ _)
     obtain ⟨fn, tmps, assign, body, hyield, hRd⟩ := HY.out _ _ wr hJi hpre
     unfold encO at hyield
     have HRd := zk hRd
     have HJi := zk hJi
     clear hRd hJi H1 hpre
     gi_wp2
     refine ⟨fun h => (by cases h), HRd.out.mono ?_⟩
     rintro e W3 (⟨rfl, hJ3⟩ | ⟨rfl, hJx3⟩)
     ·gi_wp2
      go_roundw
      case rel =>
       refine ⟨i + 1, by go_num, .inr (by omega), ?_⟩
       rw [riverOrigins_take nR years k i hy, ← List.append_assoc]
       exact hJ3
      case measure => simp [intOf]; omega
     ·gi_wp2
      refine bodyPost_ret (results_none rfl _ _ _) rfl ?_
      exact ⟨⟨_, rfl⟩, .inr ⟨_, hJx3⟩⟩
    ·have hyz : decide ((nR : Int) - 1 + i < years) = false := by simpa using hy
     clear H1
     gi_wp2
     go_roundw
     case rel =>
      refine ⟨k + 1, by omega, by go_num, ?_⟩
      rw [originsL_succ, ← riverOrigins_all nR years k i (by omega)]
      exact hJi
     case measure => simp [intOf]; omega
  ·have hltz : decide ((k : Int) < R) = false := by simp; omega
   obtain rfl : k = R := by omega
   gi_wp2
   go_end0
   exact ⟨⟨_, rfl⟩, .inl hJk⟩
end Go.Proofs.YtfijblhfgfefoaaGreatDoor.Rv
end
section
namespace Go.Proofs.YtfijblhfgfefoaaGreatDoor.Rv
open Go.RowKit Go.Shelf Go.IntWalk Go.Proofs.YtfijblhfgfefoaaGreatDoor.PAll Go.Proofs.YtfijblhfgfefoaaGreatDoorW.PrintWords Go.Proofs.YtfijblhfgfefoaaGreatDoorW.PrintLast
theorem wide_fn (f : FuncId) : Fence.wide.fn f = True := rfl
theorem wide_depth : Fence.wide.depth = none := rfl
def bodyQ {ι : Type} (l : Nat) (ob : Obj) (I : ι → World → Prop) (Ix : Code → ι → World → Prop) (pre : ι) : Exit → Act → World → Prop
 | .normal, _, W => W.heap[l]? = some ob ∧ I pre W
 | .ret, _, W => W.heap[l]? = some ob ∧ Ix .ret pre W
 | .exit id, _, W => W.heap[l]? = some ob ∧ Ix (.exit id) pre W
 |_, _, _ => False
theorem chg_put (W : World) (l : Nat) (o : Obj) : Chg (fun k => k = l) W (W.putObj l o) := (Chg.refl (fun k => k = l) W).putObj (r := l) rfl o
theorem range_origins {n : Nat} {g : Operand} {p : Tmp} {assign body : Code} {Q : Exit → Act → World → Prop} {a : Act} {w : World} {k1 k2 : Nat} {years off : Int} {A1 AR : Option Addr} {c1 cR R nR : Nat} {V2 V3 : Value}
 (hg : a.eval g = .func (.func 178) #[] #[.pointer (some ⟨k1, 0, none⟩), .pointer (some ⟨k2, 0, none⟩)])
 (hR : R ≤ 1000) (hn : nR ≤ 1000) (hn1 : 1 ≤ nR) (hy0 : 0 ≤ years ∧ years ≤ 1000)
 (I : List S27 → World → Prop) (Ix : Code → List S27 → World → Prop) (Ax : S27 → Act → World → Prop)
 (hI : ∀ pre W, I pre W → W.heap[k1]? = some (.cells #[.int .i64 years, .slice A1 R c1, V2, V3] 138 (0, 0)) ∧ W.heap[k2]? = some (.cells #[.slice AR nR cR, .int .i64 off] 45 (0, 0)))
 (hIc : ∀ pre W W', I pre W → Chg (fun k => k = w.heap.size + 1) W W' → I pre W') (hIxc : ∀ c pre W W', Ix c pre W → Chg (fun k => k = w.heap.size + 1) W W' → Ix c pre W') (hAx : ∀ x a' W W', Ax x a' W → Chg (fun k => k = w.heap.size + 1) W W' → Ax x a' W')
 (h0 : ∀ ob, I [] ((w.alloc (.deferred (some []))).alloc (.loop ob)))
 (hassign : ∀ m pre x W ob, I pre W → W.heap[w.heap.size + 1]? = some (.loop ob) → ∀ K : Act → World → Prop, (∀ a' W', I pre W' → W'.heap[w.heap.size + 1]? = some (.loop ob) → Ax x a' W' → K a' W') →
   assign.wpIn (Fence.wide.inRound (w.heap.size + 1)) m Tryz.prog (Exit.then K (fun _ _ _ => False)) { tmps := a.tmps.setIfInBounds p (.agg #[.int .i64 x.f0, .int .i64 x.f1]), defers := [] } W)
 (hbody : ∀ m pre x a' W ob, I pre W → Ax x a' W → W.heap[w.heap.size + 1]? = some (.loop ob) → pre ++ [x] <+: originsL R nR years → body.wpIn (Fence.wide.inRound (w.heap.size + 1)) m Tryz.prog (bodyQ (w.heap.size + 1) (.loop ob) I Ix (pre ++ [x])) a' W)
 (hdone : ∀ W, I (originsL R nR years) W → Q .normal { a with defers := { target := .collected w.heap.size, args := #[] } :: a.defers } W)
 (hstop : ∀ c pre W, Ix c pre W → c.wpIn Fence.wide n Tryz.prog Q { a with defers := { target := .collected w.heap.size, args := #[] } :: a.defers } W) :
 (Code.rangeFunc g #[p] assign body).wpIn Fence.wide n Tryz.prog Q a w := by
 refine range_enter rfl (fun h => (by cases h)) (gf := 178) (lb := #[.pointer (some ⟨k1, 0, none⟩), .pointer (some ⟨k2, 0, none⟩)]) hg trivial (enters_of Tryz.func178 (by kernel_rfl) rfl) ?_
 intro fn _
 have hrec := World.alloc_heap_new (w.alloc (.deferred (some []))) (.loop (rec0 fn a.tmps #[p] assign body w.heap.size .ready none))
 rw [World.size_alloc] at hrec
 refine (origins_seq (n - 1) (w.heap.size + 1) k1 k2 years off A1 AR c1 cR R nR V2 V3
  (fun pre W => I pre W ∧ W.heap[w.heap.size + 1]? = some (.loop (rec0 fn a.tmps #[p] assign body w.heap.size .ready none)))
  (fun pre W => ∃ c, Ix c pre W ∧ W.heap[w.heap.size + 1]? = some (.loop (rec0 fn a.tmps #[p] assign body w.heap.size .done (some c)))) _ hR hn hn1 hy0 (fun pre W h => hI pre W h.1) ?_ ⟨h0 _, hrec⟩).mono ?_
 ·rintro pre x W ⟨hi, hl⟩ hpre
  refine yield_round trivial hl rfl ?_
  have ez : (#[p].zip (encO x)).foldl (fun t (p, v) => t.setIfInBounds p v) a.tmps = a.tmps.setIfInBounds p (.agg #[.int .i64 x.f0, .int .i64 x.f1]) := by simp [encO]
  rw [ez]
  refine hassign (n - 1 - 1) pre x W _ hi hl _ ?_
  intro a' W' hi' hl' hax
  refine ⟨hl', Go.wpIn_mono (hbody (n - 1 - 1) pre x a' _ _ (hIc _ _ _ hi' (chg_put _ _ _)) (hAx _ _ _ _ hax (chg_put _ _ _)) (World.putObj_heap_same (blk_lt hl')) hpre) ?_⟩
  intro e a3 W3 hq
  cases e with
  |normal => exact ⟨hq.1, .inl ⟨rfl, hIc _ _ _ hq.2 (chg_put _ _ _), World.putObj_heap_same (blk_lt hq.1)⟩⟩
  |ret => exact ⟨hq.1, .inr ⟨rfl, .ret, hIxc _ _ _ _ hq.2 (chg_put _ _ _), World.putObj_heap_same (blk_lt hq.1)⟩⟩
  |exit id => exact ⟨hq.1, .inr ⟨rfl, .exit id, hIxc _ _ _ _ hq.2 (chg_put _ _ _), World.putObj_heap_same (blk_lt hq.1)⟩⟩
  |goto t => exact hq.elim
  |panic c => exact hq.elim
  |outgrown => exact hq.elim
 ·rintro e W2 ⟨⟨v, rfl⟩, ⟨hi, hl⟩ | ⟨pre, c, hi, hl⟩⟩
  ·exact .inl ⟨hl, hdone _ (hIc _ _ _ hi (chg_put _ _ _))⟩
  ·exact .inr ⟨c, hl, hstop c pre _ (hIxc _ _ _ _ hi (chg_put _ _ _))⟩
theorem range_origins_box {n : Nat} {g : Operand} {p : Tmp} {assign body : Code} {Q : Exit → Act → World → Prop} {a : Act} {w : World} {k1 k2 : Nat} {years off : Int} {A1 AR : Option Addr} {c1 cR R nR : Nat} {V2 V3 : Value}
 (lit : S27 → Nat → Act)
 (hg : a.eval g = .func (.func 178) #[] #[.pointer (some ⟨k1, 0, none⟩), .pointer (some ⟨k2, 0, none⟩)])
 (hR : R ≤ 1000) (hn : nR ≤ 1000) (hn1 : 1 ≤ nR) (hy0 : 0 ≤ years ∧ years ≤ 1000)
 (I : List S27 → World → Prop) (Ix : Code → List S27 → World → Prop)
 (hI : ∀ pre W, I pre W → W.heap[k1]? = some (.cells #[.int .i64 years, .slice A1 R c1, V2, V3] 138 (0, 0)) ∧ W.heap[k2]? = some (.cells #[.slice AR nR cR, .int .i64 off] 45 (0, 0)))
 (hIc : ∀ pre W W', I pre W → Chg (fun k => k = w.heap.size + 1) W W' → I pre W') (hIxc : ∀ c pre W W', Ix c pre W → Chg (fun k => k = w.heap.size + 1) W W' → Ix c pre W')
 (h0 : ∀ ob, I [] ((w.alloc (.deferred (some []))).alloc (.loop ob)))
 (hassign : ∀ m pre x W ob, I pre W → W.heap[w.heap.size + 1]? = some (.loop ob) → ∀ K : Act → World → Prop, (∀ W', I pre W' → W'.heap[w.heap.size + 1]? = some (.loop ob) → ∀ b, b ≠ w.heap.size + 1 → W'.heap[b]? = some (.cells #[.int .i64 x.f0, .int .i64 x.f1] 27 (0, 0)) → K (lit x b) W') →
   assign.wpIn (Fence.wide.inRound (w.heap.size + 1)) m Tryz.prog (Exit.then K (fun _ _ _ => False)) { tmps := a.tmps.setIfInBounds p (.agg #[.int .i64 x.f0, .int .i64 x.f1]), defers := [] } W)
 (hbody : ∀ m pre x b W ob, I pre W → W.heap[b]? = some (.cells #[.int .i64 x.f0, .int .i64 x.f1] 27 (0, 0)) → W.heap[w.heap.size + 1]? = some (.loop ob) → pre ++ [x] <+: originsL R nR years → body.wpIn (Fence.wide.inRound (w.heap.size + 1)) m Tryz.prog (bodyQ (w.heap.size + 1) (.loop ob) I Ix (pre ++ [x])) (lit x b) W)
 (hdone : ∀ W, I (originsL R nR years) W → Q .normal { a with defers := { target := .collected w.heap.size, args := #[] } :: a.defers } W)
 (hstop : ∀ c pre W, Ix c pre W → c.wpIn Fence.wide n Tryz.prog Q { a with defers := { target := .collected w.heap.size, args := #[] } :: a.defers } W) :
 (Code.rangeFunc g #[p] assign body).wpIn Fence.wide n Tryz.prog Q a w :=
 range_origins hg hR hn hn1 hy0 I Ix (fun x a' W => ∃ b, a' = lit x b ∧ b ≠ w.heap.size + 1 ∧ W.heap[b]? = some (.cells #[.int .i64 x.f0, .int .i64 x.f1] 27 (0, 0))) hI hIc hIxc
  (fun x a' W W' h hc => by
    obtain ⟨b, e, hne, hb⟩ := h
    exact ⟨b, e, hne, (hc.block b (blk_lt hb) hne).trans hb⟩) h0
  (fun m pre x W ob hi hl K hK => hassign m pre x W ob hi hl K (fun W' hi' hl' b hne hb => hK _ W' hi' hl' ⟨b, rfl, hne, hb⟩))
  (fun m pre x a' W ob hi hax hl hpre => by
    obtain ⟨b, rfl, _, hb⟩ := hax
    exact hbody m pre x b W ob hi hb hl hpre) hdone hstop
def badSpan (s : S47) : Bool := !(inB s.f0 0 s.f1) || decide (40 < s.f1) || decide (4 < wrap64 (s.f1 - s.f0))
def badRiver (years : Int) (r : S43) : Bool := decide ((r.f0.length : Int) ≠ years) || !(inB r.f1 0 3) || !(inB r.f2 0 (2 ^ years.toNat - 1)) || r.f0.any badSpan
def isBookB (years : Int) (l : List S43) : Bool := inB years 1 6 && inB l.length 1 3 && !(l.any (badRiver years))
theorem badSpan_pred (l : List S47) (w : World) : PredK k47 133 #[] badSpan l w := by
 intro W x cs _ _ hk
 obtain rfl := k47_open hk
 show Calls Tryz.prog 133 #[.agg #[.int .i64 x.f0, .int .i64 x.f1]] W _
 have e1 := in_calls x.f0 0 x.f1
 have hq : badSpan x = (!(inB x.f0 0 x.f1) || decide (40 < x.f1) || decide (4 < wrap64 (x.f1 - x.f0))) := rfl
 obtain ⟨q, hq2⟩ : ∃ q, q = badSpan x := ⟨_, rfl⟩
 rw [← hq2] at hq ⊢
 clear hq2 hk
 generalize inB x.f0 0 x.f1 = b at e1 hq
 have Q := zk hq
 clear hq
 cases b with
 |false =>
  go_enter Tryz.func133, Tryz.ntmps133
  go_wp2_with (go_at_call 86; refine (e1 _).mono ?_; rintro e w' ⟨rfl, rfl⟩)
  go_ret
  exact ⟨by rw [Q.out]; rfl, below1 _⟩
 |true =>
  by_cases h : 40 < x.f1
  ·have h2 : decide (40 < x.f1) = true := by simpa using h
   go_enter Tryz.func133, Tryz.ntmps133
   go_wp2_with (go_at_call 86; refine (e1 _).mono ?_; rintro e w' ⟨rfl, rfl⟩)
   go_ret
   exact ⟨by rw [Q.out, h2]; rfl, below1 _⟩
  ·have h2 : decide (40 < x.f1) = false := by simpa using h
   go_enter Tryz.func133, Tryz.ntmps133
   go_wp2_with (go_at_call 86; refine (e1 _).mono ?_; rintro e w' ⟨rfl, rfl⟩)
   go_ret
   exact ⟨by rw [Q.out, h2]; rfl, below1 _⟩
set_option maxRecDepth 100000 in
set_option maxHeartbeats 400000 in
theorem badRiver_last (years P : Int) (hs : (Op.shift .shl .i64 1 .i64 years) = pure (.int .i64 P)) (B : Nat) (x : S43) (A0 : Option Addr) (c0 : Nat) (W : World) (hl : x.f0.length ≤ c0) (hC : k47.C W A0 x.f0.length x.f0)
 (h0 : W.cell? ⟨B, 0, none⟩ = some (.int .i64 years)) (q : Bool) (Q : Aside0 (q = (false || !true || !inB x.f2 0 (IntKind.i64.wrap (P - 1)) || x.f0.any badSpan))) (hB : B < W.heap.size) (c1b : ((x.f0.length : Int) != years) = false)
 (e1 : ∀ (w : World), Calls Tryz.prog 86 #[.int .i64 x.f1, .int .i64 0, .int .i64 3] w fun e w' => e = .returned (.bool true) ∧ w' = w) :
 Calls Tryz.prog 131 #[.agg #[.slice A0 x.f0.length c0, .int .i64 x.f1, .int .i64 x.f2], .pointer (some ⟨B, 0, none⟩)] W fun e w' => e = .returned (.bool q) ∧ Below W.heap.size W w' := by
 have e2 := in_q x.f2 0 (IntKind.i64.wrap (P - 1))
 generalize inB x.f2 0 (IntKind.i64.wrap (P - 1)) = b2 at e2 Q
 cases b2 with
 |false =>
  clear hC
  go_enter Tryz.func131, Tryz.ntmps131
  go_wp2
  go_quiet ((go_at_call 86; first | (with_reducible exact Calls.quiet_of_same (e1 _)) | (with_reducible exact Calls.quiet_of_same (e2 _))))
  go_wp2
  go_ret
  exact ⟨by rw [Q.out]; rfl, pw_below_drewN (below1 _) _⟩
 |true =>
  have HC := zk hC
  clear hC
  go_enter Tryz.func131, Tryz.ntmps131
  go_wp2
  obtain ⟨w1, hw1⟩ : ∃ w1, W.alloc (.cells #[.slice A0 x.f0.length c0, .int .i64 x.f1, .int .i64 x.f2] 43) = w1 := ⟨_, rfl⟩
  have HB := zk (show Below W.heap.size W w1 from hw1 ▸ below1 _)
  have g0 : w1.cell? ⟨W.heap.size, 0, none⟩ = some (.slice A0 x.f0.length c0) := by rw [← hw1]; simp
  have g1 : w1.cell? ⟨W.heap.size, 1, none⟩ = some (.int .i64 x.f1) := by rw [← hw1]; simp
  have g2 : w1.cell? ⟨W.heap.size, 2, none⟩ = some (.int .i64 x.f2) := by rw [← hw1]; simp
  have g3 := (HB.out.cell (p := ⟨B, 0, none⟩) hB).trans h0
  rw [hw1]
  clear hw1 h0
  refine region_tail 25 (by kernel_rfl) (by kernel_rfl) ?_
  intro w2 hs2
  replace g0 := (hs2.cell _).trans g0
  replace g1 := (hs2.cell _).trans g1
  replace g2 := (hs2.cell _).trans g2
  replace g3 := (hs2.cell _).trans g3
  replace HB := zk (HB.out.trans (hs2.below _))
  replace HC := zk (Kd.C_below HC.out HB.out)
  clear hs2
  have hany := cont132 133 #[] (enters_of Tryz.func133 (by kernel_rfl) rfl) badSpan A0 c0 x.f0 w2 HC.out (badSpan_pred _ _)
  generalize x.f0.any badSpan = b3 at hany Q
  simp only [List.take_succ_cons, List.take_zero, List.drop_succ_cons, List.drop_zero]
  repeat still_step
  still_call (e1 _)
  repeat still_step
  still_call (e2 _)
  repeat still_step
  refine wpStill_nil ?_
  go_wp2_with (go_at_call 132; (with_reducible refine hany.mono ?_); rintro e w' ⟨rfl, hb⟩)
  go_ret
  exact ⟨by rw [Q.out]; rfl, HB.out.trans (hb.mono HB.out.size)⟩
set_option maxRecDepth 100000 in
set_option maxHeartbeats 400000 in
theorem badRiver_calls (years : Int) (hy : 1 ≤ years ∧ years ≤ 6) (B : Nat) (x : S43) (A0 : Option Addr) (c0 : Nat) (W : World) (hl : x.f0.length ≤ c0) (hC : k47.C W A0 x.f0.length x.f0)
 (h0 : W.cell? ⟨B, 0, none⟩ = some (.int .i64 years)) :
 Calls Tryz.prog 131 #[.agg #[.slice A0 x.f0.length c0, .int .i64 x.f1, .int .i64 x.f2], .pointer (some ⟨B, 0, none⟩)] W fun e w' => e = .returned (.bool (badRiver years x)) ∧ Below W.heap.size W w' := by
 obtain ⟨q, hq⟩ : ∃ q, q = badRiver years x := ⟨_, rfl⟩
 have hqd : badRiver years x = (decide ((x.f0.length : Int) ≠ years) || !(inB x.f1 0 3) || !(inB x.f2 0 (2 ^ years.toNat - 1)) || x.f0.any badSpan) := rfl
 rw [← hq] at hqd ⊢
 have Q := zk hqd
 clear hq hqd
 have hB : B < W.heap.size := World.block_lt_of_cell? W ⟨B, 0, none⟩ h0
 by_cases c1 : (x.f0.length : Int) = years
 ·have c1b : ((x.f0.length : Int) != years) = false := by simp [c1]
  have c1d : decide ((x.f0.length : Int) ≠ years) = false := by simp [c1]
  rw [c1d] at Q
  clear c1 c1d
  have e1 := in_q x.f1 0 3
  generalize inB x.f1 0 3 = b1 at e1 Q
  cases b1 with
  |false =>
   clear hC
   go_enter Tryz.func131, Tryz.ntmps131
   go_wp2
   go_quiet ((go_at_call 86; exact Calls.quiet_of_same (e1 _)))
   go_wp2
   go_ret
   exact ⟨by rw [Q.out]; rfl, pw_below_drewN (below1 _) _⟩
  |true =>
   have hcases : years = 1 ∨ years = 2 ∨ years = 3 ∨ years = 4 ∨ years = 5 ∨ years = 6 := by omega
   clear hy
   rcases hcases with rfl | rfl | rfl | rfl | rfl | rfl
   ·simp only [Int.reducePow, Int.reduceSub, Int.reduceToNat] at Q
    exact badRiver_last 1 2 rfl B x A0 c0 W hl hC h0 q (by rw [show IntKind.i64.wrap (2 - 1) = 1 from (Go.IntWalk.i64_in (2 - 1) (by omega)).trans rfl]; exact Q) hB c1b e1
   ·simp only [Int.reducePow, Int.reduceSub, Int.reduceToNat] at Q
    exact badRiver_last 2 4 rfl B x A0 c0 W hl hC h0 q (by rw [show IntKind.i64.wrap (4 - 1) = 3 from (Go.IntWalk.i64_in (4 - 1) (by omega)).trans rfl]; exact Q) hB c1b e1
   ·simp only [Int.reducePow, Int.reduceSub, Int.reduceToNat] at Q
    exact badRiver_last 3 8 rfl B x A0 c0 W hl hC h0 q (by rw [show IntKind.i64.wrap (8 - 1) = 7 from (Go.IntWalk.i64_in (8 - 1) (by omega)).trans rfl]; exact Q) hB c1b e1
   ·simp only [Int.reducePow, Int.reduceSub, Int.reduceToNat] at Q
    exact badRiver_last 4 16 rfl B x A0 c0 W hl hC h0 q (by rw [show IntKind.i64.wrap (16 - 1) = 15 from (Go.IntWalk.i64_in (16 - 1) (by omega)).trans rfl]; exact Q) hB c1b e1
   ·simp only [Int.reducePow, Int.reduceSub, Int.reduceToNat] at Q
    exact badRiver_last 5 32 rfl B x A0 c0 W hl hC h0 q (by rw [show IntKind.i64.wrap (32 - 1) = 31 from (Go.IntWalk.i64_in (32 - 1) (by omega)).trans rfl]; exact Q) hB c1b e1
   ·simp only [Int.reducePow, Int.reduceSub, Int.reduceToNat] at Q
    exact badRiver_last 6 64 rfl B x A0 c0 W hl hC h0 q (by rw [show IntKind.i64.wrap (64 - 1) = 63 from (Go.IntWalk.i64_in (64 - 1) (by omega)).trans rfl]; exact Q) hB c1b e1
 ·have c1b : ((x.f0.length : Int) != years) = true := by simp [c1]
  have c1d : decide ((x.f0.length : Int) ≠ years) = true := by simp [c1]
  rw [c1d] at Q
  clear c1 c1d hC
  go_enter Tryz.func131, Tryz.ntmps131
  go_wp2
  go_quiet (fail)
  go_wp2
  go_ret
  exact ⟨by rw [Q.out]; rfl, pw_below_drewN (below1 _) _⟩
end Go.Proofs.YtfijblhfgfefoaaGreatDoor.Rv
end
section
namespace Go.Proofs.YtfijblhfgfefoaaGreatDoor.Rv
open Go.RowKit Go.Shelf Go.IntWalk Go.Proofs.YtfijblhfgfefoaaGreatDoor.PAll Go.Proofs.YtfijblhfgfefoaaGreatDoorW.PrintWords Go.Proofs.YtfijblhfgfefoaaGreatDoorW.PrintLast
theorem inB_iff {x lo hi : Int} : inB x lo hi = true ↔ lo ≤ x ∧ x ≤ hi := by simp [inB]
theorem badRiver_pred (years : Int) (hy : inB years 1 6 = true) (B : Nat) (l : List S43) (w : World) (h0 : w.cell? ⟨B, 0, none⟩ = some (.int .i64 years)) :
 PredK k43 131 #[.pointer (some ⟨B, 0, none⟩)] (badRiver years) l w := by
 intro W x cs _ hb hk
 obtain ⟨A0, c0, rfl, hl, hC⟩ := k43_open hk
 have hB : B < w.heap.size := World.block_lt_of_cell? w ⟨B, 0, none⟩ h0
 exact badRiver_calls years (inB_iff.1 hy) B x A0 c0 W hl hC ((hb.cell (p := ⟨B, 0, none⟩) hB).trans h0)
set_option maxRecDepth 100000 in
set_option maxHeartbeats 1000000 in
theorem isBook_calls (years : Int) (A : Option Addr) (c : Nat) (l : List S43) (w : World) (hr : Kd.C k43 w A l.length l) :
 Calls Tryz.prog 79 #[.agg #[.int .i64 years, .slice A l.length c]] w fun e w' => e = .returned (.bool (isBookB years l)) ∧ Below w.heap.size w w' := by
 have HR := zk hr
 clear hr
 obtain ⟨q, hq⟩ : ∃ q, q = isBookB years l := ⟨_, rfl⟩
 have hqd : isBookB years l = (inB years 1 6 && inB l.length 1 3 && !(l.any (badRiver years))) := rfl
 rw [← hq] at hqd ⊢
 have Q := zk hqd
 clear hq hqd
 have HC := zk (fun (h : inB years 1 6 = true) (W : World) (h1 : Kd.C k43 W A l.length l) (h2 : W.cell? ⟨w.heap.size, 0, none⟩ = some (.int .i64 years)) => cont130 131 #[.pointer (some ⟨w.heap.size, 0, none⟩)] (enters_of Tryz.func131 (by kernel_rfl) rfl) (badRiver years) A c l W h1 (badRiver_pred years h _ l W h2))
 go_enter Tryz.func79, Tryz.ntmps79
 go_wp2_with (first | (go_at_call 86; (with_reducible refine (in_calls _ _ _ _).mono ?_); rintro e w' ⟨rfl, rfl⟩) | (go_at_call 130; ((with_reducible refine (HC.out (by assumption) _ (Kd.C_alloc HR.out _) (by simp)).mono ?_); rintro e w' ⟨rfl, hb⟩)))
 all_goals
  go_ret
  refine ⟨ret_bool (by rw [Q.out]; first | (simp [*]; done) | (simp [*]; omega)), ?_⟩
  first | exact below1 _ | exact bt (below1 _) hb
def badRing (n : Int) : Bool := !(inB n 0 60)
def isShellB (rings : List Int) (off : Int) : Bool := inB rings.length 1 5 && inB off 0 3 && !(rings.any badRing)
theorem badRing_pred (l : List Int) (w : World) : PredI 134 #[] badRing l w := by
 intro W x _ _
 show Calls Tryz.prog 134 #[.int .i64 x] W _
 obtain ⟨q, hq⟩ : ∃ q, q = badRing x := ⟨_, rfl⟩
 have hqd : badRing x = !(inB x 0 60) := rfl
 rw [← hq] at hqd ⊢
 have Q := zk hqd
 clear hq hqd
 go_enter Tryz.func134, Tryz.ntmps134
 go_wp2_with (go_at_call 86; (with_reducible refine (in_calls _ _ _ _).mono ?_); rintro e w' ⟨rfl, rfl⟩)
 go_ret
 exact ⟨ret_bool (by rw [Q.out]), Below.refl _ _⟩
set_option maxRecDepth 100000 in
set_option maxHeartbeats 1000000 in
theorem isShell_calls (off : Int) (A : Option Addr) (c : Nat) (l : List Int) (w : World) (hr : Kd.C (Kd.int .i64) w A l.length l) :
 Calls Tryz.prog 80 #[.agg #[.slice A l.length c, .int .i64 off]] w fun e w' => e = .returned (.bool (isShellB l off)) ∧ Below w.heap.size w w' := by
 have HR := zk hr
 clear hr
 obtain ⟨q, hq⟩ : ∃ q, q = isShellB l off := ⟨_, rfl⟩
 have hqd : isShellB l off = (inB l.length 1 5 && inB off 0 3 && !(l.any badRing)) := rfl
 rw [← hq] at hqd ⊢
 have Q := zk hqd
 clear hq hqd
 have HC := zk (fun (W : World) (h1 : Kd.C (Kd.int .i64) W A l.length l) => cont109 134 #[] (enters_of Tryz.func134 (by kernel_rfl) rfl) badRing A c l W h1 (badRing_pred l W))
 go_enter Tryz.func80, Tryz.ntmps80
 go_wp2_with (first | (go_at_call 86; (with_reducible refine (in_calls _ _ _ _).mono ?_); rintro e w' ⟨rfl, rfl⟩) | (go_at_call 109; ((with_reducible refine (HC.out _ (Kd.C_alloc HR.out _)).mono ?_); rintro e w' ⟨rfl, hb⟩)))
 all_goals
  go_ret
  refine ⟨ret_bool (by rw [Q.out]; first | (simp [*]; done) | (simp [*]; omega)), ?_⟩
  first | exact below1 _ | exact bt (below1 _) hb
def badShell (s : S45) : Bool := !(isShellB s.f0 s.f1)
theorem badShell_pred (l : List S45) (w : World) : PredK k45 151 #[] badShell l w := by
 intro W x cs _ _ hk
 obtain ⟨A0, c0, rfl, hl, hC⟩ := k45_open hk
 show Calls Tryz.prog 151 #[.agg #[.slice A0 x.f0.length c0, .int .i64 x.f1]] W _
 have HC := zk hC
 have hu := Tryz.underlying45
 clear hC hk
 obtain ⟨q, hq⟩ : ∃ q, q = badShell x := ⟨_, rfl⟩
 have hqd : badShell x = !(isShellB x.f0 x.f1) := rfl
 rw [← hq] at hqd ⊢
 have Q := zk hqd
 clear hq hqd
 go_enter Tryz.func151, Tryz.ntmps151
 go_wp2_with (go_at_call 80; (with_reducible refine (isShell_calls _ _ _ _ _ (Kd.C_alloc HC.out _)).mono ?_); rintro e w' ⟨rfl, hb⟩)
 go_ret
 exact ⟨ret_bool (by rw [Q.out]), bt (below1 _) hb⟩
def badTest (n : Int) (t : S59) : Bool := !(inB t.f0 0 (wrap64 (n - 1)))
theorem badTest_pred (n c0 : Nat) (A0 : Option Addr) (B : Nat) (l : List S59) (w : World) (hn : n ≤ 9223372036854775807) (h0 : w.cell? ⟨B, 0, none⟩ = some (.slice A0 n c0)) :
 PredK k59 153 #[.pointer (some ⟨B, 0, none⟩)] (badTest n) l w := by
 intro W x cs _ hb hk
 obtain rfl := k59_open hk
 have hB : B < w.heap.size := World.block_lt_of_cell? w ⟨B, 0, none⟩ h0
 have h1 := (hb.cell (p := ⟨B, 0, none⟩) hB).trans h0
 have hB2 : B < W.heap.size := World.block_lt_of_cell? W ⟨B, 0, none⟩ h1
 show Calls Tryz.prog 153 #[.agg #[.int .i64 x.f0, .bool x.f1], .pointer (some ⟨B, 0, none⟩)] W _
 clear h0 hb hB hk
 obtain ⟨q, hq⟩ : ∃ q, q = badTest n x := ⟨_, rfl⟩
 have hqd : badTest n x = !(inB x.f0 0 (wrap64 ((n : Int) - 1))) := rfl
 rw [← hq] at hqd ⊢
 have Q := zk hqd
 clear hq hqd
 go_enter Tryz.func153, Tryz.ntmps153
 go_wp2_with (go_at_call 86; (with_reducible refine (in_calls _ _ _ _).mono ?_); rintro e w' ⟨rfl, rfl⟩)
 go_ret
 exact ⟨ret_bool (by rw [Q.out]; first | rfl | (rw [wrap64_in _ (by omega)])), below1 _⟩
def isSackB (l1 : List S45) (l2 : List S59) : Bool := inB l1.length 1 4 && decide ((l2.length : Int) ≤ 6) && !(l1.any badShell) && !(l2.any (badTest l1.length))
set_option maxRecDepth 100000 in
set_option maxHeartbeats 1000000 in
theorem isSack_calls (A1 : Option Addr) (c1 : Nat) (l1 : List S45) (A2 : Option Addr) (c2 : Nat) (l2 : List S59) (w : World) (hr1 : Kd.C k45 w A1 l1.length l1) (hr2 : Kd.C k59 w A2 l2.length l2) :
 Calls Tryz.prog 102 #[.agg #[.slice A1 l1.length c1, .slice A2 l2.length c2]] w fun e w' => e = .returned (.bool (isSackB l1 l2)) ∧ Below w.heap.size w w' := by
 have hn := hr1.2.1
 have HR1 := zk hr1
 have HR2 := zk hr2
 clear hr1 hr2
 obtain ⟨q, hq⟩ : ∃ q, q = isSackB l1 l2 := ⟨_, rfl⟩
 have hqd : isSackB l1 l2 = (inB l1.length 1 4 && decide ((l2.length : Int) ≤ 6) && !(l1.any badShell) && !(l2.any (badTest l1.length))) := rfl
 rw [← hq] at hqd ⊢
 have Q := zk hqd
 clear hq hqd
 have HC1 := zk (fun (W : World) (h1 : Kd.C k45 W A1 l1.length l1) => cont150 151 #[] (enters_of Tryz.func151 (by kernel_rfl) rfl) badShell A1 c1 l1 W h1 (badShell_pred l1 W))
 have HC2 := zk (fun (W : World) (h1 : Kd.C k59 W A2 l2.length l2) (h2 : W.cell? ⟨w.heap.size, 0, none⟩ = some (.slice A1 l1.length c1)) => cont152 153 #[.pointer (some ⟨w.heap.size, 0, none⟩)] (enters_of Tryz.func153 (by kernel_rfl) rfl) (badTest l1.length) A2 c2 l2 W h1 (badTest_pred l1.length c1 A1 _ l2 W hn h2))
 clear hn
 generalize l1.any badShell = b3 at *
 generalize l2.any (badTest l1.length) = b4 at *
 go_enter Tryz.func102, Tryz.ntmps102
 go_wp2_with (first | (go_at_call 86; (with_reducible refine (in_calls _ _ _ _).mono ?_); rintro e w' ⟨rfl, rfl⟩) | (go_at_call 150; ((with_reducible refine (HC1.out _ (Kd.C_alloc HR1.out _)).mono ?_); rintro e w1 ⟨rfl, hb1⟩; have g0 := (hb1.cell (p := ⟨w.heap.size, 0, none⟩) (by simp)); have g1 := (hb1.cell (p := ⟨w.heap.size, 1, none⟩) (by simp)); simp at g0 g1)) | (go_at_call 152; ((with_reducible refine (HC2.out _ (Kd.C_below (Kd.C_alloc HR2.out _) hb1) g0).mono ?_); rintro e w2 ⟨rfl, hb2⟩)))
 all_goals
  go_ret
  refine ⟨ret_bool (by rw [Q.out]; first | (simp [*]; done) | (simp [*]; omega)), ?_⟩
  first | exact below1 _ | exact bt (bt (below1 _) hb1) hb2 | exact bt (below1 _) hb1
end Go.Proofs.YtfijblhfgfefoaaGreatDoor.Rv
end
