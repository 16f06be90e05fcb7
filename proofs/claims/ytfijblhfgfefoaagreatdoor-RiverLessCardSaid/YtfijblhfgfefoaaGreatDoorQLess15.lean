/- A part of the proof: words, contracts of functions, and their walks. -/
import Derived.Sort.Grow
import Derived.Shelf.GgSortFunc.RowK
import Derived.Shelf.SlSortCmp.Insertion
import Derived.Shelf.SlGeneric
import Derived.Shelf.SlLaysF0
import Derived.Ground.SlsfProg
import Derived.Test.YtfijblhfgfefoaaGreatDoorProg
import Derived.Shelf.SlSortCmp.WholeK
import Derived.Shelf.SlSortCmp.Xorshift
import Derived.Test.YtfijblhfgfefoaaGreatDoorQLess3
import Derived.Test.YtfijblhfgfefoaaGreatDoorQLess9
import Derived.Test.YtfijblhfgfefoaaGreatDoorQLess14
set_option linter.unusedVariables false
set_option linter.unusedSimpArgs false
section
namespace Go.Proofs.YtfijblhfgfefoaaGreatDoor.Rv
open Go.RowKit Go.Shelf Go.IntWalk Go.Proofs.YtfijblhfgfefoaaGreatDoor.PAll Go.Proofs.YtfijblhfgfefoaaGreatDoorW.PrintWords Go.Proofs.YtfijblhfgfefoaaGreatDoorW.PrintLast
def isO (a b : Int) (o : S27) : Bool := a == o.f0 && b == o.f1
theorem index_l0 (l : List S27) (a b : Int) (hl : l.length ≤ 1000000) : ∀ (d i : Nat), i + d = l.length → ∃ k r, api_RiverOrigin_174.l0 k l (l.length : Int) (i : Int) a b = some r ∧ decide (r ≥ 0) = (l.drop i).any (isO a b)
 |0, i, h => ⟨1, -1, by
   have hn : ¬ (i : Int) < l.length := by omega
   simp only [api_RiverOrigin_174.l0]
   rw [if_neg hn], by rw [List.drop_of_length_le (by omega)]; rfl⟩
 |d + 1, i, h => by
  have hlt : i < l.length := by omega
  have hd : l.drop i = l[i] :: l.drop (i + 1) := List.drop_eq_getElem_cons hlt
  have hr : rd_T27 l (i : Int) = l[i] := by simp [rd_T27, List.getD_eq_getElem?_getD, hlt]
  rw [hd, List.any_cons]
  by_cases hc : isO a b l[i] = true
  ·refine ⟨1, i, ?_, by rw [hc]; simp⟩
   simp only [api_RiverOrigin_174.l0]
   rw [if_pos (by omega), if_pos (by omega), if_pos (by omega), hr, if_pos (show (a == l[i].f0 && b == l[i].f1) = true from hc)]
  ·obtain ⟨k, r, h1, h2⟩ := index_l0 l a b hl d (i + 1) (by omega)
   refine ⟨k + 1, r, ?_, by rw [h2]; simp [hc]⟩
   simp only [api_RiverOrigin_174.l0]
   rw [if_pos (by omega), if_pos (by omega), if_pos (by omega), hr, if_neg (show ¬ (a == l[i].f0 && b == l[i].f1) = true from hc), wrap64_in _ (by omega)]
   exact h1
theorem contains_f (l : List S27) (a b : Int) (hl : l.length ≤ 1000000) : ∃ k, api_RiverOrigin_135.f k l a b = some (l.any (isO a b)) := by
 obtain ⟨k, r, h1, h2⟩ := index_l0 l a b hl l.length 0 (by omega)
 refine ⟨k, ?_⟩
 unfold api_RiverOrigin_135.f api_RiverOrigin_174.f
 have h1' : api_RiverOrigin_174.l0 k l (l.length : Int) 0 a b = some r := h1
 rw [h1']
 simp only [Option.bind_some, h2, List.drop_zero]
theorem contains_calls (A : Option Addr) (c : Nat) (l : List S27) (a b : Int) (w : World) (hr : Kd.C k27 w A l.length l) (hc : l.length ≤ c) (hl : l.length ≤ 1000000) :
 Calls Tryz.prog 135 #[.slice A l.length c, .agg #[.int .i64 a, .int .i64 b]] w fun e w' => e = .returned (.bool (l.any (isO a b))) ∧ Below w.heap.size w w' := by
 obtain ⟨k, h⟩ := contains_f l a b hl
 exact api_RiverOrigin_135.calls k A c l a b _ w hr hc h
def Valid (s : Sk) (x : St) : Prop := ∀ o ∈ x.1, 0 ≤ o.f0 ∧ o.f0 < s.rivers.length ∧ 0 ≤ o.f1 ∧ o.f1 < s.years
theorem truthsFrom_valid (s : Sk) (hs : Good s) : ∀ (d : Nat) (x : St), x.1.length + d = s.shells.length → WFst s x → Valid s x → ∀ t ∈ truthsFrom s.years s.rivers s.shells s.tests d x, t.1.length = s.shells.length ∧ WFst s t ∧ Valid s t
 |0, x, hd, hw, hv, t, ht => by
  have : t = x := by simpa [truthsFrom] using ht
  subst this
  exact ⟨by omega, hw, hv⟩
 |d + 1, x, hd, hw, hv, t, ht => by
  have hlt : x.1.length < s.shells.length := by omega
  have hsl : s.shells.getD x.1.length z45 ∈ s.shells := by simp [List.getD_eq_getElem?_getD, hlt]
  have hring := hs.rings _ hsl
  unfold truthsFrom at ht
  obtain ⟨o, ho, hto⟩ := List.mem_flatMap.1 ht
  obtain ⟨h0, h1, h2, h3⟩ := mem_originsL ho
  cases hn : nextS s.rivers s.tests x (s.shells.getD x.1.length z45) o with
  |none => rw [hn] at hto; cases hto
  |some y =>
   rw [hn] at hto
   have hst : stepS s.rivers x (s.shells.getD x.1.length z45) o = some y := by
    unfold nextS at hn
    split at hn
    ·exact hn
    ·cases hn
   obtain ⟨hwy, hy1⟩ := step_WF hw ⟨h0, h1⟩ hlt hst
   refine truthsFrom_valid s hs d y (by rw [hy1]; simp; omega) hwy (fun o' ho' => ?_) t hto
   rw [hy1] at ho'
   rcases List.mem_append.1 ho' with h | h
   ·exact hv o' h
   ·have : o' = o := by simpa using h
    subst this
    exact ⟨h0, h1, by omega, h3⟩
theorem truthsOf_valid (s : Sk) (hs : Good s) : ∀ t ∈ truthsOf s, t.1.length = s.shells.length ∧ WFst s t ∧ Valid s t :=
 truthsFrom_valid s hs s.shells.length _ (by simp) ⟨by simp, fun r hr => by
  obtain ⟨q, hq, rfl⟩ := List.mem_map.1 hr
  exact hs.grow q hq, by simp⟩ (fun o ho => by cases ho)
def addO (acc : List S27) (o : S27) : List S27 := if acc.any (isO o.f0 o.f1) = true then acc else acc ++ [o]
def accO (i : Nat) (xs : List St) : List S27 := xs.foldl (fun acc x => addO acc (x.1.getD i z27)) []
theorem accO_snoc (i : Nat) (xs : List St) (x : St) : accO i (xs ++ [x]) = addO (accO i xs) (x.1.getD i z27) := by simp [accO, List.foldl_append]
theorem any_isO (l : List S27) (o : S27) : l.any (isO o.f0 o.f1) = true ↔ o ∈ l := by
 rw [List.any_eq_true]
 constructor
 ·rintro ⟨q, hq, h⟩
  simp only [isO, Bool.and_eq_true, beq_iff_eq] at h
  have : o = q := by cases o; cases q; simp_all
  rw [this]
  exact hq
 ·intro h
  exact ⟨o, h, by simp [isO]⟩
theorem nodup_le {l m : List S27} (hn : l.Nodup) (hs : ∀ o ∈ l, o ∈ m) : l.length ≤ m.length := by
 induction l generalizing m with
 |nil => simp
 |cons a l ih =>
  obtain ⟨ha, hl⟩ := List.nodup_cons.1 hn
  have ham := hs a (by simp)
  obtain ⟨m1, m2, rfl⟩ := List.append_of_mem ham
  have := ih (m := m1 ++ m2) hl (fun o ho => by
   have := hs o (by simp [ho])
   simp only [List.mem_append, List.mem_cons] at this ⊢
   rcases this with h | rfl | h
   ·exact .inl h
   ·exact absurd ho ha
   ·exact .inr h)
  simp at this ⊢
  omega
theorem addO_nodup {acc : List S27} {o : S27} (h : acc.Nodup) : (addO acc o).Nodup := by
 unfold addO
 split
 ·exact h
 ·rename_i hn
  rw [any_isO] at hn
  exact List.nodup_append.2 ⟨h, by simp, fun a ha b hb => by
   have : b = o := by simpa using hb
   subst this
   rintro rfl
   exact hn ha⟩
theorem accO_facts (s : Sk) (i : Nat) (xs : List St) (hx : ∀ x ∈ xs, i < x.1.length ∧ Valid s x) : (accO i xs).Nodup ∧ ∀ o ∈ accO i xs, 0 ≤ o.f0 ∧ o.f0 < s.rivers.length ∧ 0 ≤ o.f1 ∧ o.f1 < s.years := by
 suffices h : ∀ acc : List S27, acc.Nodup → (∀ o ∈ acc, 0 ≤ o.f0 ∧ o.f0 < s.rivers.length ∧ 0 ≤ o.f1 ∧ o.f1 < s.years) → (xs.foldl (fun acc x => addO acc (x.1.getD i z27)) acc).Nodup ∧ ∀ o ∈ xs.foldl (fun acc x => addO acc (x.1.getD i z27)) acc, 0 ≤ o.f0 ∧ o.f0 < s.rivers.length ∧ 0 ≤ o.f1 ∧ o.f1 < s.years from h [] (by simp) (by simp)
 induction xs with
 |nil => exact fun acc h1 h2 => ⟨h1, h2⟩
 |cons x xs ih =>
  intro acc h1 h2
  refine ih (fun y hy => hx y (by simp [hy])) _ (addO_nodup h1) (fun o ho => ?_)
  replace ho : o ∈ addO acc (x.1.getD i z27) := ho
  unfold addO at ho
  split at ho
  ·exact h2 o ho
  ·rcases List.mem_append.1 ho with h | h
   ·exact h2 o h
   ·obtain ⟨hi, hv⟩ := hx x (by simp)
    have e : o = x.1[i] := by simpa [List.getD_eq_getElem?_getD, hi] using h
    rw [e]
    exact hv _ (List.getElem_mem hi)
theorem accO_len (s : Sk) (hs : Good s) (i : Nat) (xs : List St) (hx : ∀ x ∈ xs, i < x.1.length ∧ Valid s x) : (accO i xs).length ≤ 1000000 := by
 obtain ⟨h1, h2⟩ := accO_facts s i xs hx
 have h3 := nodup_le (m := originsL s.rivers.length 1 s.years) h1 (fun o ho => by
  obtain ⟨a, b, c, d⟩ := h2 o ho
  unfold originsL riverOrigins yearsOf
  simp only [List.mem_flatMap, List.mem_range, List.mem_map]
  refine ⟨o.f0.toNat, by omega, o.f1, ⟨o.f1.toNat, by omega, by omega⟩, ?_⟩
  cases o
  simp at a
  simp
  omega)
 have h4 : (originsL s.rivers.length 1 s.years).length ≤ s.rivers.length * s.years.toNat := by
  unfold originsL
  rw [List.length_flatMap]
  have : (List.map (fun r => (riverOrigins 1 s.years r).length) (List.range s.rivers.length)).sum ≤ (List.map (fun _ => s.years.toNat) (List.range s.rivers.length)).sum := by
   have e : (fun r => (riverOrigins 1 s.years r).length) = fun _ => s.years.toNat := by
    funext r
    simp [riverOrigins, yearsOf]
   rw [e]
   exact Nat.le_refl _
  refine Nat.le_trans this ?_
  rw [List.map_const', List.sum_replicate_nat, List.length_range]
  exact Nat.le_refl _
 have h5 : s.rivers.length * s.years.toNat ≤ 1000 * 1000 := Nat.mul_le_mul hs.rivers (by have := hs.years; omega)
 omega
open Go.Sort
def cmpI (x y : Int) : Int := if x < y then -1 else if y < x then 1 else 0
def orI (a b : Int) : Int := if a = 0 then b else a
def cmpO (x y : S27) : Int := orI (cmpI x.f0 y.f0) (cmpI x.f1 y.f1)
theorem compare_calls (x y : Int) (w : World) : Calls Tryz.prog 139 #[.int .i64 x, .int .i64 y] w fun e w' => e = .returned (.int .i64 (cmpI x y)) ∧ w' = w := by
 by_cases h : x < y
 ·go_enter Tryz.func139, Tryz.ntmps139
  go_wp2
  go_ret
  exact ⟨ret_i64 (by unfold cmpI; rw [if_pos h]), rfl⟩
 ·by_cases h2 : y < x
  ·go_enter Tryz.func139, Tryz.ntmps139
   go_wp2
   go_ret
   exact ⟨ret_i64 (by unfold cmpI; rw [if_neg (by omega), if_pos h2]), rfl⟩
  ·go_enter Tryz.func139, Tryz.ntmps139
   go_wp2
   go_ret
   exact ⟨ret_i64 (by unfold cmpI; rw [if_neg (by omega), if_neg (by omega)]), rfl⟩
set_option maxRecDepth 100000 in
set_option maxHeartbeats 1000000 in
theorem or_calls (g c : Nat) (a b : Int) (w : World) (h0 : w.cell? ⟨g, 0, none⟩ = some (.int .i64 a)) (h1 : w.cell? ⟨g, 1, none⟩ = some (.int .i64 b)) :
 Calls Tryz.prog 138 #[.slice (some ⟨g, 0, none⟩) 2 c] w fun e w' => e = .returned (.int .i64 (orI a b)) ∧ w' = w := by
 have hg : g < w.heap.size := World.block_lt_of_cell? w _ h0
 by_cases ha : a = 0
 ·have hab : (a != 0) = false := by simpa using ha
  have HA := zk ha
  clear ha
  by_cases hb : b = 0
  ·have hbb : (b != 0) = false := by simpa using hb
   have HB := zk hb
   clear hb
   go_enter Tryz.func138, Tryz.ntmps138
   go_wp2
   refine wp_loop_rounds 3 ?_
   rw [rounds_succ]
   go_wp2
   rw [rounds_succ]
   go_wp2
   rw [rounds_succ]
   go_wp2
   go_ret
   exact ⟨ret_i64 (by unfold orI; rw [if_pos HA.out, HB.out]), rfl⟩
  ·have hbb : (b != 0) = true := by simpa using hb
   have HB := zk hb
   clear hb
   go_enter Tryz.func138, Tryz.ntmps138
   go_wp2
   refine wp_loop_rounds 3 ?_
   rw [rounds_succ]
   go_wp2
   rw [rounds_succ]
   go_wp2
   go_ret
   exact ⟨ret_i64 (by unfold orI; rw [if_pos HA.out]), rfl⟩
 ·have hab : (a != 0) = true := by simpa using ha
  have HA := zk ha
  clear ha
  go_enter Tryz.func138, Tryz.ntmps138
  go_wp2
  refine wp_loop_rounds 3 ?_
  rw [rounds_succ]
  go_wp2
  go_ret
  exact ⟨ret_i64 (by unfold orI; rw [if_neg HA.out]), rfl⟩
set_option maxRecDepth 100000 in
set_option maxHeartbeats 1000000 in
theorem cmpO_calls (x y : S27) (W : World) :
 Calls Tryz.prog 137 #[.agg #[.int .i64 x.f0, .int .i64 x.f1], .agg #[.int .i64 y.f0, .int .i64 y.f1]] W fun e w' => e = .returned (.int .i64 (cmpO x y)) ∧ ∃ q os', w' = grow (W.drewN q) os' := by
 have e1 := compare_calls x.f0 y.f0
 have e2 := compare_calls x.f1 y.f1
 have Q := zk (show cmpO x y = orI (cmpI x.f0 y.f0) (cmpI x.f1 y.f1) from rfl)
 generalize cmpO x y = q at Q ⊢
 generalize cmpI x.f0 y.f0 = a at e1 Q
 generalize cmpI x.f1 y.f1 = b at e2 Q
 go_enter Tryz.func137, Tryz.ntmps137
 go_wp2
 have H2 := zk (blk_alloc (blk_new W (.cells #[.int .i64 x.f0, .int .i64 x.f1] 27)) (.cells #[.int .i64 y.f0, .int .i64 y.f1] 27))
 have H3 := zk (blk_new (W.alloc (.cells #[.int .i64 x.f0, .int .i64 x.f1] 27)) (.cells #[.int .i64 y.f0, .int .i64 y.f1] 27))
 simp only [World.size_alloc] at H3
 obtain ⟨w1, hw1⟩ : ∃ w1, w1 = (W.alloc (.cells #[.int .i64 x.f0, .int .i64 x.f1] 27)).alloc (.cells #[.int .i64 y.f0, .int .i64 y.f1] 27) := ⟨_, rfl⟩
 rw [← hw1] at H2 H3 ⊢
 have HW := zk hw1
 clear hw1
 generalize W.heap.size = p2 at H2 H3 ⊢
 refine region_tail 10 (by kernel_rfl) (by kernel_rfl) ?_
 intro w2 hs2
 have HQ := zk hs2.drawn
 have H2W := zk ((show w2.heap[p2]? = w1.heap[p2]? by rw [hs2.heap]).trans H2.out)
 have H3W := zk ((show w2.heap[p2 + 1]? = w1.heap[p2 + 1]? by rw [hs2.heap]).trans H3.out)
 obtain ⟨p3, e3⟩ : ∃ p3, p3 = p2 + 1 := ⟨_, rfl⟩
 rw [← e3] at H3W
 rw [← e3]
 clear H2 H3 hs2 e3
 obtain ⟨c_p2_0, f_p2_0, c_p2_1, f_p2_1, l_p2⟩ := cl2 (W := w2) (p := p2) (a := .int .i64 x.f0) (b := .int .i64 x.f1) H2W.out
 obtain ⟨c_p3_0, f_p3_0, c_p3_1, f_p3_1, l_p3⟩ := cl2 (W := w2) (p := p3) (a := .int .i64 y.f0) (b := .int .i64 y.f1) H3W.out
 simp only [List.take_succ_cons, List.take_zero, List.drop_succ_cons, List.drop_zero]
 repeat still_step
 still_call (e1 _)
 repeat still_step
 still_call (e2 _)
 repeat still_step
 refine wpStill_nil ?_
 have hn := blk_new w2 (.cells #[.int .i64 a, .int .i64 b] 3)
 have HO := zk (or_calls w2.heap.size 2 a b (w2.alloc (.cells #[.int .i64 a, .int .i64 b] 3)) (blk_cell hn 0) (blk_cell hn 1))
 clear hn
 go_wp2_with (go_at_call 138; (with_reducible refine HO.out.mono ?_); rintro e w' ⟨rfl, rfl⟩)
 go_ret
 refine ⟨ret_i64 Q.out.symm, ?_⟩
 obtain ⟨n, hn⟩ := HQ.out
 refine ⟨n, (#[.cells #[.int .i64 x.f0, .int .i64 x.f1] 27] ++ #[.cells #[.int .i64 y.f0, .int .i64 y.f1] 27]) ++ #[.cells #[.int .i64 a, .int .i64 b] 3], ?_⟩
 rw [hn, HW.out, alloc_eq_grow, alloc_eq_grow W, alloc_eq_grow, ← grow_grow, ← grow_grow]
 rfl
end Go.Proofs.YtfijblhfgfefoaaGreatDoor.Rv
end
section
namespace Go.Proofs.YtfijblhfgfefoaaGreatDoor.Rv
open Go.RowKit Go.Shelf Go.IntWalk Go.Proofs.YtfijblhfgfefoaaGreatDoor.PAll Go.Proofs.YtfijblhfgfefoaaGreatDoorW.PrintWords Go.Proofs.YtfijblhfgfefoaaGreatDoorW.PrintLast
open Go.Sort
instance inh27 : Inhabited S27 := ⟨z27⟩
def enc27 (x : S27) : List Value := [.int .i64 x.f0, .int .i64 x.f1]
theorem flatK27_get (l : List S27) (t : Nat) (ht : t < l.length * 2) : (flatK enc27 2 l.toArray)[t]? = (flat27 l)[t]? := by
 have hl : t / 2 < l.length := by omega
 have hsz : t < (flatK enc27 2 l.toArray).size := by simp; omega
 rw [Array.getElem?_eq_getElem hsz, ← getElem!_pos _ t hsz, get_flatK _ _ _ _ (by simpa using ht)]
 have hg := flat27_get l (t / 2) hl
 have he : l.toArray[t / 2]! = l[t / 2] := by simp [hl]
 rw [he]
 rcases Nat.mod_two_eq_zero_or_one t with h | h
 ·have e := hg.1
  rw [show t / 2 * 2 = t by omega] at e
  rw [h, e]
  rfl
 ·have e := hg.2
  rw [show t / 2 * 2 + 1 = t by omega] at e
  rw [h, e]
  rfl
theorem holds27 {w : World} {base g n cap : Nat} {xs : List S27} (h : w.ownsRow base 27 2 (.slice (some ⟨g, 0, none⟩) n cap) n (flat27 xs)) : HoldsK enc27 2 w g 0 xs.toArray := by
 intro j hj
 have hj' : j < xs.length * 2 := by simpa using hj
 have h1 := flatK27_get xs j hj'
 rw [Array.getElem?_eq_getElem hj, ← getElem!_pos _ j hj] at h1
 have h2 := own_cell h j _ h1.symm
 rw [Nat.zero_add]
 exact h2
theorem putCells_take (ys : List S27) (cur : Array Value) (n : Nat) (hn : n = ys.length) (hc : n * 2 ≤ cur.size) : (putCells id 0 (flatK enc27 2 ys.toArray) cur).toList.take (n * 2) = flat27 ys := by
 subst hn
 apply List.ext_getElem?
 intro t
 rcases Nat.lt_or_ge t (ys.length * 2) with ht | ht
 ·rw [List.getElem?_take_of_lt ht, Array.getElem?_toList, ← flatK27_get ys t ht]
  have hsz : t < (flatK enc27 2 ys.toArray).size := by simp; omega
  have hk : t < ys.length * 2 := ht
  simp [putCells, hk, show t < cur.size by omega]
 ·rw [List.getElem?_eq_none (by rw [List.length_take]; omega), List.getElem?_eq_none (by rw [flat27_length]; omega)]
theorem sorted27 {w w' : World} {base g n cap m : Nat} {os : Array Obj} {xs ys : List S27} (h : w.ownsRow base 27 2 (.slice (some ⟨g, 0, none⟩) n cap) n (flat27 xs)) (hn : xs.length = n) (hl : ys.length = xs.length)
 (hw : w' = grow (putRowK enc27 2 (Sort.ahead w m) g 0 ys.toArray) os) : w'.ownsRow base 27 2 (.slice (some ⟨g, 0, none⟩) n cap) n (flat27 ys) ∧ Chg (fun k => k = g) w w' := by
 obtain ⟨h1, h2⟩ := h
 rcases h2 with ⟨h3, _⟩ | ⟨g', cap', cur, h3, hb, hh, hc1, hc2, hc3, hc4⟩
 ·cases h3
 ·have e : g = g' ∧ cap = cap' := by
   injection h3 with h3 _ h5
   injection h3 with h3
   injection h3 with h3
   exact ⟨h3, h5⟩
  obtain ⟨rfl, rfl⟩ := e
  have hlt : g < w.heap.size := blk_lt hh
  have hheap : w'.heap = w.heap.modify g (onCells (putCells id 0 (flatK enc27 2 ys.toArray))) ++ os := by rw [hw]; rfl
  have hg : w'.heap[g]? = some (.cells (putCells id 0 (flatK enc27 2 ys.toArray) cur) 27 (0, 0)) := by
   rw [hheap, Array.getElem?_append_left (by simpa using hlt), Array.getElem?_modify]
   rw [if_pos rfl, hh]
   rfl
  refine ⟨⟨by rw [flat27_length]; omega, .inr ⟨g, cap, _, rfl, hb, hg, hc1, hc2, by simpa [putCells] using hc3, ?_⟩⟩, ⟨by rw [hw]; rfl, by rw [hw]; rfl, by rw [hw]; rfl, by rw [hheap]; simp, fun i hi hne => ?_⟩⟩
  ·exact putCells_take ys cur n (by omega) (by rw [hc3]; exact Nat.mul_le_mul_right 2 hc1)
  ·rw [hheap, Array.getElem?_append_left (by simpa using hi), Array.getElem?_modify]
   rw [if_neg (fun e => hne e.symm)]
open Go.Sort
def ltO (a b : S27) : Prop := a.f0 < b.f0 ∨ (a.f0 = b.f0 ∧ a.f1 < b.f1)
theorem cmpO_lt (x y : S27) : cmpO x y < 0 ↔ ltO x y := by
 unfold cmpO orI cmpI ltO
 by_cases h1 : x.f0 < y.f0
 ·simp [h1]
 ·by_cases h2 : y.f0 < x.f0
  ·simp [h1, h2]; omega
  ·have h3 : x.f0 = y.f0 := by omega
   by_cases h4 : x.f1 < y.f1
   ·simp [h3, h4]
   ·by_cases h5 : y.f1 < x.f1 <;> simp [h3, h4, h5]
theorem ltOf_cmpO (x y : S27) : ltOf cmpO x y = true ↔ ltO x y := by
 unfold ltOf
 rw [decide_eq_true_iff, cmpO_lt]
theorem ltOf_cmpO_f (x y : S27) : ltOf cmpO x y = false ↔ ¬ ltO x y := by
 rw [← ltOf_cmpO]
 simp
theorem swoO : SWO (ltOf cmpO) where
 irrefl x := by rw [ltOf_cmpO_f]; unfold ltO; omega
 trans x y z h1 h2 := by rw [ltOf_cmpO] at *; unfold ltO at *; omega
 ntrans x y z h1 h2 := by rw [ltOf_cmpO_f] at *; unfold ltO at *; omega
theorem strict_eq : ∀ (ys zs : List S27), ys.Pairwise ltO → zs.Pairwise ltO → (∀ o, o ∈ ys ↔ o ∈ zs) → ys = zs
 | [], [], _, _, _ => rfl
 | [], b :: zs, _, _, h => absurd ((h b).2 (by simp)) (by simp)
 |a :: ys, [], _, _, h => absurd ((h a).1 (by simp)) (by simp)
 |a :: ys, b :: zs, h1, h2, h => by
  obtain ⟨p1, q1⟩ := List.pairwise_cons.1 h1
  obtain ⟨p2, q2⟩ := List.pairwise_cons.1 h2
  have hab : a = b := by
   rcases List.mem_cons.1 ((h a).1 (by simp)) with e | e
   ·exact e
   ·rcases List.mem_cons.1 ((h b).2 (by simp)) with e' | e'
    ·exact e'.symm
    ·have h3 := p2 a e
     have h4 := p1 b e'
     unfold ltO at h3 h4
     omega
  subst hab
  rw [strict_eq ys zs q1 q2 (fun o => ?_)]
  have hne : ∀ o, ltO a o → o ≠ a := fun o ho e => by subst e; unfold ltO at ho; omega
  constructor
  ·intro ho
   rcases List.mem_cons.1 ((h o).1 (by simp [ho])) with e | e
   ·exact absurd e (hne o (p1 o ho))
   ·exact e
  ·intro ho
   rcases List.mem_cons.1 ((h o).2 (by simp [ho])) with e | e
   ·exact absurd e (hne o (p2 o ho))
   ·exact e
theorem originsL_strict (n years : Int) : ∀ R : Nat, (originsL R n years).Pairwise ltO
 |0 => by simp [originsL]
 |R + 1 => by
  rw [originsL_succ, List.pairwise_append]
  refine ⟨originsL_strict n years R, ?_, ?_⟩
  ·unfold riverOrigins yearsOf
   rw [List.map_map, List.pairwise_map]
   refine List.Pairwise.imp ?_ List.pairwise_lt_range
   intro a b hab
   right
   refine ⟨rfl, ?_⟩
   simp
   omega
  ·intro a ha b hb
   obtain ⟨_, h1, _⟩ := mem_originsL ha
   unfold riverOrigins at hb
   obtain ⟨y, _, rfl⟩ := List.mem_map.1 hb
   left
   exact h1
def couldL (s : Sk) (i : Nat) : List S27 := (originsL s.rivers.length 1 s.years).filter fun o => (truthsOf s).any fun x => isO o.f0 o.f1 (x.1.getD i z27)
theorem mem_accO (i : Nat) (xs : List St) (o : S27) : o ∈ accO i xs ↔ ∃ x ∈ xs, x.1.getD i z27 = o := by
 suffices h : ∀ acc : List S27, o ∈ xs.foldl (fun acc x => addO acc (x.1.getD i z27)) acc ↔ o ∈ acc ∨ ∃ x ∈ xs, x.1.getD i z27 = o by
  unfold accO
  rw [h]
  simp
 induction xs with
 |nil => simp
 |cons x xs ih =>
  intro acc
  rw [List.foldl_cons, ih]
  have : o ∈ addO acc (x.1.getD i z27) ↔ o ∈ acc ∨ x.1.getD i z27 = o := by
   unfold addO
   split
   ·rename_i hc
    rw [any_isO] at hc
    constructor
    ·exact .inl
    ·rintro (h | h)
     ·exact h
     ·rw [← h]; exact hc
   ·simp [eq_comm]
  rw [this]
  simp only [List.mem_cons]
  constructor
  ·rintro ((h | h) | ⟨y, hy, h⟩)
   ·exact .inl h
   ·exact .inr ⟨x, .inl rfl, h⟩
   ·exact .inr ⟨y, .inr hy, h⟩
  ·rintro (h | ⟨y, rfl | hy, h⟩)
   ·exact .inl (.inl h)
   ·exact .inl (.inr h)
   ·exact .inr ⟨y, hy, h⟩
theorem mem_originsL_iff {R : Nat} {n years : Int} {o : S27} : o ∈ originsL R n years ↔ 0 ≤ o.f0 ∧ o.f0 < R ∧ n - 1 ≤ o.f1 ∧ o.f1 < years := by
 constructor
 ·exact mem_originsL
 ·rintro ⟨a, b, c, d⟩
  unfold originsL riverOrigins yearsOf
  simp only [List.mem_flatMap, List.mem_range, List.mem_map]
  refine ⟨o.f0.toNat, by omega, o.f1, ⟨(o.f1 - (n - 1)).toNat, by omega, by omega⟩, ?_⟩
  cases o
  simp at a
  simp
  omega
theorem could_sorted (s : Sk) (hs : Good s) (i : Nat) (hi : i < s.shells.length) (ys : Array S27) (hp : PermIn 0 (accO i (truthsOf s)).toArray.size (accO i (truthsOf s)).toArray ys) (hq : SortedIn (ltOf cmpO) 0 (accO i (truthsOf s)).toArray.size ys) : ys.toList = couldL s i := by
 have hx : ∀ x ∈ truthsOf s, i < x.1.length ∧ Valid s x := fun x hx => by
  obtain ⟨h1, _, h3⟩ := truthsOf_valid s hs x hx
  exact ⟨by omega, h3⟩
 obtain ⟨hn, hb⟩ := accO_facts s i (truthsOf s) hx
 obtain ⟨hsz, _, hpm⟩ := hp
 have hperm : ys.toList.Perm (accO i (truthsOf s)) := by
  have e1 : (ys.extract 0 (accO i (truthsOf s)).toArray.size).toList = ys.toList := by rw [← hsz]; simp
  have e2 : ((accO i (truthsOf s)).toArray.extract 0 (accO i (truthsOf s)).toArray.size).toList = accO i (truthsOf s) := by simp
  rw [e1, e2] at hpm
  exact hpm
 have hnd : ys.toList.Nodup := hperm.nodup_iff.2 hn
 have hst : ys.toList.Pairwise ltO := by
  rw [List.pairwise_iff_getElem]
  intro a b ha hb' hab
  have h1 := hq a b (Nat.zero_le _) hab (by rw [← hsz]; simpa using hb')
  have ea : ys[a]! = ys.toList[a] := by simp at ha; simp [ha]
  have eb : ys[b]! = ys.toList[b] := by simp at hb'; simp [hb']
  rw [ltOf_cmpO_f, ea, eb] at h1
  have hne : ys.toList[a] ≠ ys.toList[b] := by
   have := (List.pairwise_iff_getElem.1 hnd) a b ha hb' hab
   exact this
  have : ys.toList[a].f0 ≠ ys.toList[b].f0 ∨ ys.toList[a].f1 ≠ ys.toList[b].f1 := by
   rcases Classical.em (ys.toList[a].f0 = ys.toList[b].f0) with e | e
   ·right
    intro e'
    apply hne
    cases h3 : ys.toList[a]
    cases h4 : ys.toList[b]
    rw [h3, h4] at e e'
    simp_all
   ·exact .inl e
  unfold ltO at h1 ⊢
  omega
 refine strict_eq _ _ hst (List.Pairwise.filter _ (originsL_strict _ _ _)) (fun o => ?_)
 rw [hperm.mem_iff]
 constructor
 ·intro ho
  obtain ⟨a, b, c, d⟩ := hb o ho
  refine List.mem_filter.2 ⟨mem_originsL_iff.2 ⟨a, b, by omega, d⟩, ?_⟩
  obtain ⟨x, hx, e⟩ := (mem_accO i _ o).1 ho
  rw [List.any_eq_true]
  exact ⟨x, hx, by rw [e]; simp [isO]⟩
 ·intro ho
  obtain ⟨_, h2⟩ := List.mem_filter.1 ho
  rw [List.any_eq_true] at h2
  obtain ⟨x, hx, e⟩ := h2
  refine (mem_accO i _ o).2 ⟨x, hx, ?_⟩
  simp only [isO, Bool.and_eq_true, beq_iff_eq] at e
  cases h3 : x.1.getD i z27
  cases o
  rw [h3] at e
  simp_all
end Go.Proofs.YtfijblhfgfefoaaGreatDoor.Rv
end
section
namespace Go.Proofs
open Go.Shelf
def Tryz.sortIv_ren : Go.Shelf.Ren := ⟨fun | 6 => 136 | 15 => 176 | 14 => 175 | 28 => 204 | 29 => 205 | 20 => 196 | 21 => 197 | 22 => 198 | 23 => 199 | 24 => 200 | 25 => 201 | 26 => 202 | 27 => 203 | 46 => 221 | 47 => 222 | 48 => 223 | 49 => 224 | 50 => 225 | 57 => 239 | n => n, fun | 22 => 31 | 24 => 27 | 25 => 204 | 3 => 3 | 39 => 56 | 0 => 0 | 53 => 275 | 55 => 277 | 4 => 4 | 46 => 268 | 45 => 267 | 50 => 272 | 5 => 5 | 9 => 9 | 66 => 287 | 70 => 291 | 76 => 305 | 77 => 75 | n => n, fun | n => n⟩
theorem Tryz.sortIv : Go.Proofs.SlLaysF0.n6 Tryz.prog Tryz.sortIv_ren := {
 mixed := by kernel_rfl
 f6 := ⟨Tryz.f136.name, by decide, Tryz.func136.trans (congrArg some (by kernel_rfl))⟩
 f14 := ⟨Tryz.f175.name, by decide, Tryz.func175.trans (congrArg some (by kernel_rfl))⟩
 f15 := Tryz.func176.trans (congrArg some (by kernel_rfl))
 f20 := ⟨Tryz.f196.name, by decide, Tryz.func196.trans (congrArg some (by kernel_rfl))⟩
 f21 := ⟨Tryz.f197.name, by decide, Tryz.func197.trans (congrArg some (by kernel_rfl))⟩
 f22 := ⟨Tryz.f198.name, by decide, Tryz.func198.trans (congrArg some (by kernel_rfl))⟩
 f23 := ⟨Tryz.f199.name, by decide, Tryz.func199.trans (congrArg some (by kernel_rfl))⟩
 f24 := ⟨Tryz.f200.name, by decide, Tryz.func200.trans (congrArg some (by kernel_rfl))⟩
 f25 := ⟨Tryz.f201.name, by decide, Tryz.func201.trans (congrArg some (by kernel_rfl))⟩
 f26 := ⟨Tryz.f202.name, by decide, Tryz.func202.trans (congrArg some (by kernel_rfl))⟩
 f27 := ⟨Tryz.f203.name, by decide, Tryz.func203.trans (congrArg some (by kernel_rfl))⟩
 f28 := Tryz.func204.trans (congrArg some (by kernel_rfl))
 f29 := Tryz.func205.trans (congrArg some (by kernel_rfl))
 f46 := ⟨Tryz.f221.name, by decide, Tryz.func221.trans (congrArg some (by kernel_rfl))⟩
 f47 := Tryz.func222.trans (congrArg some (by kernel_rfl))
 f48 := Tryz.func223.trans (congrArg some (by kernel_rfl))
 f49 := ⟨Tryz.f224.name, by decide, Tryz.func224.trans (congrArg some (by kernel_rfl))⟩
 f50 := ⟨Tryz.f225.name, by decide, Tryz.func225.trans (congrArg some (by kernel_rfl))⟩
 f57 := ⟨Tryz.f239.name, by decide, Tryz.func239.trans (congrArg some (by kernel_rfl))⟩
 t0 := Tryz.underlying0
 a0 := Tryz.isAgg0
 z0 := Tryz.sizeOf0
 v0 := Tryz.zeroValue0
 t3 := Tryz.underlying3
 a3 := Tryz.isAgg3
 z3 := Tryz.sizeOf3
 v3 := Tryz.zeroValue3
 t4 := Tryz.underlying4
 a4 := Tryz.isAgg4
 z4 := Tryz.sizeOf4
 v4 := Tryz.zeroValue4
 t5 := Tryz.underlying5
 a5 := Tryz.isAgg5
 z5 := Tryz.sizeOf5
 v5 := Tryz.zeroValue5
 t9 := Tryz.underlying9
 a9 := Tryz.isAgg9
 z9 := Tryz.sizeOf9
 v9 := Tryz.zeroValue9
 t22 := Tryz.underlying31
 a22 := Tryz.isAgg31
 z22 := Tryz.sizeOf31
 v22 := Tryz.zeroValue31
 t25 := Tryz.underlying204
 a25 := Tryz.isAgg204
 z25 := Tryz.sizeOf204
 v25 := Tryz.zeroValue204
 t39 := Tryz.underlying56
 a39 := Tryz.isAgg56
 z39 := Tryz.sizeOf56
 v39 := Tryz.zeroValue56
 t45 := Tryz.underlying267
 a45 := Tryz.isAgg267
 z45 := Tryz.sizeOf267
 v45 := Tryz.zeroValue267
 t46 := Tryz.underlying268
 a46 := Tryz.isAgg268
 z46 := Tryz.sizeOf268
 v46 := Tryz.zeroValue268
 t50 := Tryz.underlying272
 a50 := Tryz.isAgg272
 z50 := Tryz.sizeOf272
 v50 := Tryz.zeroValue272
 t53 := Tryz.underlying275
 a53 := Tryz.isAgg275
 z53 := Tryz.sizeOf275
 v53 := Tryz.zeroValue275
 t55 := Tryz.underlying277
 a55 := Tryz.isAgg277
 z55 := Tryz.sizeOf277
 v55 := Tryz.zeroValue277
 t66 := Tryz.underlying287
 a66 := Tryz.isAgg287
 z66 := Tryz.sizeOf287
 v66 := Tryz.zeroValue287
 t70 := Tryz.underlying291
 a70 := Tryz.isAgg291
 z70 := Tryz.sizeOf291
 v70 := Tryz.zeroValue291
 t76 := Tryz.underlying305
 a76 := Tryz.isAgg305
 z76 := Tryz.sizeOf305
 v76 := Tryz.zeroValue305
 t77 := Tryz.underlying75
 a77 := Tryz.isAgg75
 z77 := Tryz.sizeOf75
 v77 := Tryz.zeroValue75 }
end Go.Proofs
end
section
namespace Go.Proofs.YtfijblhfgfefoaaGreatDoor.Rv
open Go.RowKit Go.Shelf Go.IntWalk Go.Proofs.YtfijblhfgfefoaaGreatDoor.PAll Go.Proofs.YtfijblhfgfefoaaGreatDoorW.PrintWords Go.Proofs.YtfijblhfgfefoaaGreatDoorW.PrintLast
open Go.Sort
theorem isAgg27 (w : World) : (isAgg 27).run Tryz.prog w = .ok true w := by kernel_rfl
theorem sizeOf27 (w : World) : (Go.sizeOf 27).run Tryz.prog w = .ok 2 w := by kernel_rfl
set_option maxHeartbeats 1000000 in
theorem ins_nil (p : Option Addr) (cap : Nat) (fv : Value) (w : World) : Calls Tryz.prog 196 #[.slice p 0 cap, .int .i64 0, .int .i64 0, fv] w fun e w' => e = .returned (.tuple #[]) ∧ w' = w := by
 go_enter Tryz.func196, Tryz.ntmps196
 go_wp2
 refine wp_loop_rounds 1 ?_
 rw [rounds_succ]
 go_wp2
 go_end0
 exact ⟨rfl, rfl⟩
set_option maxHeartbeats 1000000 in
theorem pdq_nil (p : Option Addr) (cap : Nat) (lim : Int) (fv : Value) (w : World) : Calls Tryz.prog 175 #[.slice p 0 cap, .int .i64 0, .int .i64 0, .int .i64 lim, fv] w fun e w' => e = .returned (.tuple #[]) ∧ w' = w := by
 go_enter Tryz.func175, Tryz.ntmps175
 go_wp2
 refine wp_loop_rounds 1 ?_
 rw [rounds_succ]
 go_wp2_with (go_at_call 196; (with_reducible refine (ins_nil _ _ _ _).mono ?_); rintro e w' ⟨rfl, rfl⟩)
 (try simp only [Exit.inBlock, Exit.then]); refine bodyPost_ret (results_none rfl _ _ _) rfl ?_
 exact ⟨rfl, rfl⟩
theorem len_nil (w : World) : Calls Tryz.prog 176 #[.int .u64 0] w fun e w' => e = .returned (.int .i64 (Lib.bitLen 0 : Nat)) ∧ w' = w :=
 Any.bits_Len (SlLaysF0.n15.bits (P := Tryz.prog) (ρ := Tryz.sortIv_ren) { Tryz.sortIv with }) 0 w (by omega) (by omega)
set_option maxHeartbeats 1000000 in
theorem sort_nil (p : Option Addr) (cap : Nat) (fv : Value) (w : World) : Calls Tryz.prog 136 #[.slice p 0 cap, fv] w fun e w' => e = .returned (.tuple #[]) ∧ w' = w := by
 go_enter Tryz.func136, Tryz.ntmps136
 go_wp2_with (first | (go_at_call 176; (with_reducible refine (len_nil _).mono ?_); rintro e w' ⟨rfl, rfl⟩) | (go_at_call 175; (with_reducible refine (pdq_nil _ _ _ _ _).mono ?_); rintro e w' ⟨rfl, rfl⟩))
 go_end0
 exact ⟨rfl, rfl⟩
theorem sort_own (base : Nat) (v : Value) (xs : List S27) (w : World) (h : w.ownsRow base 27 2 v xs.length (flat27 xs)) (hlen : xs.length ≤ 1000000) :
 Calls Tryz.prog 136 #[v, .func (.func 137) #[] #[]] w fun e w' => e = .returned (.tuple #[]) ∧ ∃ ys : Array S27, PermIn 0 xs.toArray.size xs.toArray ys ∧ SortedIn (ltOf cmpO) 0 xs.toArray.size ys ∧ w'.ownsRow base 27 2 v xs.length (flat27 ys.toList) ∧ Chg (fun k => some k = v.ownBlock) w w' := by
 have h' := h
 obtain ⟨h1, h2⟩ := h'
 rcases h2 with ⟨rfl, h0⟩ | ⟨g, cap, cur, rfl, hb, hh, hc1, hc2, hc3, hc4⟩
 ·have hx : xs = [] := List.eq_nil_of_length_eq_zero h0
  subst hx
  refine (sort_nil none 0 (.func (.func 137) #[] #[]) w).mono ?_
  rintro e w' ⟨rfl, rfl⟩
  refine ⟨rfl, #[], ⟨rfl, fun _ _ => rfl, by simp⟩, fun i j _ h3 h4 => ?_, h, Chg.refl _ _⟩
  simp at h4
 ·have eg : ∀ args w, (callFunc 137 args).run Tryz.prog w = .ok (.enter 137 args) w := enters_of Tryz.func137 (by kernel_rfl) rfl
  have hcon := AnyQ.slices_SortFunc Tryz.sortIv 2 isAgg27 sizeOf27 enc27 (fun _ => rfl) (fun x v hv => by simp [enc27] at hv; rcases hv with rfl | rfl <;> rfl) cmpO swoO 137 #[] g 0 cap xs.toArray w eg (fun _ _ _ _ x y => cmpO_calls x y _) (holds27 h) (blk_lt hh) (by simp; omega)
  have hcon' : Calls Tryz.prog 136 #[.slice (some ⟨g, 0, none⟩) xs.length cap, .func (.func 137) #[] #[]] w _ := hcon
  refine hcon'.mono ?_
  rintro e w' ⟨rfl, d', n, os, hp, hs, rfl⟩
  have hsz : d'.toList.length = xs.length := by have := hp.1; simpa using this
  have hso := sorted27 (w' := sortWorldK enc27 2 w g 0 n d' os) (m := n) (os := os) (ys := d'.toList) h rfl hsz (by unfold sortWorldK; simp)
  refine ⟨rfl, d', hp, hs, hso.1, hso.2.mono (fun i _ e => ?_)⟩
  subst e
  rfl
end Go.Proofs.YtfijblhfgfefoaaGreatDoor.Rv
end
