/- A part of the proof: words, contracts of functions, and their walks. -/
import Derived.Shelf.Sort.Plain
import Derived.Shelf.Slices.In.SortNone
import Derived.Test.YtfijblhfgfefoaaGreatDoorProg
import Derived.Test.YtfijblhfgfefoaaGreatDoorQLess3
import Derived.Test.YtfijblhfgfefoaaGreatDoorQLess15
import Derived.Test.YtfijblhfgfefoaaGreatDoorQLess23
set_option linter.unusedVariables false
set_option linter.unusedSimpArgs false
section
namespace Go.Proofs.YtfijblhfgfefoaaGreatDoor.Rv
open Go.RowKit Go.Shelf Go.IntWalk Go.Proofs.YtfijblhfgfefoaaGreatDoor.PAll Go.Proofs.YtfijblhfgfefoaaGreatDoorW.PrintWords Go.Proofs.YtfijblhfgfefoaaGreatDoorW.PrintLast
def setTo (rivers : List S43) (l : List S27) : Nat → Int
 |0 => 0
 |k + 1 => if closedB rivers (l.getD k z27) = true then Go.bits .or .i64 (setTo rivers l k) (2 ^ k) else setTo rivers l k
def setOf (rivers : List S43) (l : List S27) : Int := setTo rivers l l.length
def addP (acc : List Int) (n : Int) : List Int := if acc.any (fun m => m == n) = true then acc else acc ++ [n]
def accP (rivers : List S43) (xs : List St) : List Int := xs.foldl (fun acc x => addP acc (setOf rivers x.1)) []
theorem accP_snoc (rivers : List S43) (xs : List St) (x : St) : accP rivers (xs ++ [x]) = addP (accP rivers xs) (setOf rivers x.1) := by simp [accP, List.foldl_append]
theorem or_two (k : Nat) (hk : k < 4) : ∀ n : Nat, n < 2 ^ k → Go.bits .or .i64 (n : Int) (2 ^ k) = (n : Int) + 2 ^ k := by
 match k, hk with
 |0, _ => intro n hn; have : n = 0 := by omega
          subst this; rfl
 |1, _ => intro n hn; match n, hn with
          |0, _ => rfl
          |1, _ => rfl
 |2, _ => intro n hn; match n, hn with
          |0, _ => rfl
          |1, _ => rfl
          |2, _ => rfl
          |3, _ => rfl
 |3, _ => intro n hn; match n, hn with
          |0, _ => rfl
          |1, _ => rfl
          |2, _ => rfl
          |3, _ => rfl
          |4, _ => rfl
          |5, _ => rfl
          |6, _ => rfl
          |7, _ => rfl
theorem setTo_lt (rivers : List S43) (l : List S27) : ∀ k, k ≤ 4 → ∃ n : Nat, setTo rivers l k = n ∧ n < 2 ^ k
 |0, _ => ⟨0, rfl, by decide⟩
 |k + 1, h => by
  obtain ⟨n, hn, hlt⟩ := setTo_lt rivers l k (by omega)
  unfold setTo
  split
  ·rw [hn, or_two k (by omega) n hlt]
   exact ⟨n + 2 ^ k, by simp, by rw [Nat.pow_succ]; omega⟩
  ·exact ⟨n, hn, by rw [Nat.pow_succ]; omega⟩
theorem setOf_lt (rivers : List S43) (l : List S27) (h : l.length ≤ 4) : ∃ n : Nat, setOf rivers l = n ∧ n < 16 := by
 obtain ⟨n, hn, hlt⟩ := setTo_lt rivers l l.length h
 refine ⟨n, hn, Nat.lt_of_lt_of_le hlt ?_⟩
 exact Nat.pow_le_pow_right (by decide) h
theorem mem_addP (acc : List Int) (n m : Int) : m ∈ addP acc n ↔ m ∈ acc ∨ m = n := by
 unfold addP
 split
 ·rename_i h
  rw [List.any_eq_true] at h
  obtain ⟨q, hq, e⟩ := h
  have : q = n := by simpa using e
  subst this
  constructor
  ·exact .inl
  ·rintro (h | rfl)
   ·exact h
   ·exact hq
 ·simp
theorem addP_nodup {acc : List Int} {n : Int} (h : acc.Nodup) : (addP acc n).Nodup := by
 unfold addP
 split
 ·exact h
 ·rename_i hn
  refine List.nodup_append.2 ⟨h, by simp, fun a ha b hb => ?_⟩
  have : b = n := by simpa using hb
  subst this
  rintro rfl
  apply hn
  rw [List.any_eq_true]
  exact ⟨a, ha, by simp⟩
theorem accP_facts (rivers : List S43) (xs : List St) : (accP rivers xs).Nodup ∧ ∀ m, m ∈ accP rivers xs ↔ ∃ x ∈ xs, setOf rivers x.1 = m := by
 suffices h : ∀ acc : List Int, acc.Nodup → (xs.foldl (fun acc x => addP acc (setOf rivers x.1)) acc).Nodup ∧ ∀ m, m ∈ xs.foldl (fun acc x => addP acc (setOf rivers x.1)) acc ↔ m ∈ acc ∨ ∃ x ∈ xs, setOf rivers x.1 = m by
  have := h [] (by simp)
  refine ⟨this.1, fun m => ?_⟩
  have h2 := this.2 m
  unfold accP
  rw [h2]
  constructor
  ·rintro (h | h)
   ·cases h
   ·exact h
  ·exact .inr
 induction xs with
 |nil => exact fun acc h1 => ⟨h1, fun m => by simp⟩
 |cons x xs ih =>
  intro acc h1
  obtain ⟨h2, h3⟩ := ih _ (addP_nodup h1)
  refine ⟨h2, fun m => ?_⟩
  rw [List.foldl_cons, h3, mem_addP]
  simp only [List.mem_cons]
  constructor
  ·rintro ((h | h) | ⟨y, hy, h⟩)
   ·exact .inl h
   ·exact .inr ⟨x, .inl rfl, h.symm⟩
   ·exact .inr ⟨y, .inr hy, h⟩
  ·rintro (h | ⟨y, rfl | hy, h⟩)
   ·exact .inl (.inl h)
   ·exact .inl (.inr h.symm)
   ·exact .inr ⟨y, hy, h⟩
def patternsL (s : Sk) : List Int := ((List.range 16).filter fun (m : Nat) => (truthsOf s).any fun x => setOf s.rivers x.1 == (m : Int)).map fun (m : Nat) => (m : Int)
theorem ints_eq : ∀ (ys zs : List Int), ys.Pairwise (· < ·) → zs.Pairwise (· < ·) → (∀ o, o ∈ ys ↔ o ∈ zs) → ys = zs
 | [], [], _, _, _ => rfl
 | [], b :: zs, _, _, h => absurd ((h b).2 (by simp)) (by simp)
 |a :: ys, [], _, _, h => absurd ((h a).1 (by simp)) (by simp)
 |a :: ys, b :: zs, h1, h2, h => by
  obtain ⟨p1, q1⟩ := List.pairwise_cons.1 h1
  obtain ⟨p2, q2⟩ := List.pairwise_cons.1 h2
  have hab : a = b := by
   rcases List.mem_cons.1 ((h a).1 (by simp)) with e | e
   ·exact e
   ·rcases List.mem_cons.1 ((h b).2 (by simp)) with e' | e'
    ·exact e'.symm
    ·have h3 := p2 a e
     have h4 := p1 b e'
     omega
  subst hab
  rw [ints_eq ys zs q1 q2 (fun o => ?_)]
  constructor
  ·intro ho
   rcases List.mem_cons.1 ((h o).1 (by simp [ho])) with e | e
   ·have := p1 o ho; omega
   ·exact e
  ·intro ho
   rcases List.mem_cons.1 ((h o).2 (by simp [ho])) with e | e
   ·have := p2 o ho; omega
   ·exact e
theorem patterns_sorted (s : Sk) (hs : Good s) (h4 : s.shells.length ≤ 4) : ((accP s.rivers (truthsOf s)).mergeSort fun x y => decide (x ≤ y)) = patternsL s := by
 obtain ⟨h1, h2⟩ := accP_facts s.rivers (truthsOf s)
 have hp := List.mergeSort_perm (accP s.rivers (truthsOf s)) (fun x y => decide (x ≤ y))
 have hsorted := List.pairwise_mergeSort (le := fun x y : Int => decide (x ≤ y)) (fun a b c hab hbc => by simp at *; omega) (fun a b => by simp; omega) (accP s.rivers (truthsOf s))
 have hnd := hp.nodup_iff.2 h1
 refine ints_eq _ _ ?_ ?_ (fun o => ?_)
 ·refine (hsorted.and hnd).imp ?_
  rintro a b ⟨hab, hne⟩
  have : a ≤ b := by simpa using hab
  have : a ≠ b := hne
  omega
 ·unfold patternsL
  rw [List.pairwise_map]
  refine List.Pairwise.imp ?_ (List.Pairwise.filter _ List.pairwise_lt_range)
  intro a b hab
  omega
 ·rw [hp.mem_iff, h2]
  unfold patternsL
  simp only [List.mem_map, List.mem_filter, List.mem_range, List.any_eq_true, beq_iff_eq]
  constructor
  ·rintro ⟨x, hx, e⟩
   have hl := (truthsOf_valid s hs x hx).1
   obtain ⟨n, hn, hlt⟩ := setOf_lt s.rivers x.1 (by omega)
   exact ⟨n, ⟨hlt, x, hx, hn⟩, by rw [← e, hn]⟩
  ·rintro ⟨m, ⟨_, x, hx, e⟩, rfl⟩
   exact ⟨x, hx, e⟩
theorem accP_len (s : Sk) (hs : Good s) (h4 : s.shells.length ≤ 4) (xs : List St) (hx : ∀ x ∈ xs, x ∈ truthsOf s) : (accP s.rivers xs).length ≤ 16 := by
 obtain ⟨h1, h2⟩ := accP_facts s.rivers xs
 have : ∀ (l : List Int) (N : Nat), l.Nodup → (∀ m ∈ l, ∃ n : Nat, m = n ∧ n < N) → l.length ≤ N := by
  intro l N
  induction N generalizing l with
  |zero =>
   intro _ h
   cases l with
   |nil => simp
   |cons a l => obtain ⟨n, _, h0⟩ := h a (by simp); omega
  |succ N ih =>
   intro hn h
   have h3 := ih (l.filter fun m => m != (N : Int)) (hn.filter _) (fun m hm => by
    obtain ⟨hm1, hm2⟩ := List.mem_filter.1 hm
    obtain ⟨n, rfl, hlt⟩ := h m hm1
    have : (n : Int) ≠ N := by simpa using hm2
    exact ⟨n, rfl, by omega⟩)
   have h5 : l.length ≤ (l.filter fun m => m != (N : Int)).length + 1 := by
    clear ih h h3
    induction l with
    |nil => simp
    |cons a l ih =>
     obtain ⟨ha, hl⟩ := List.nodup_cons.1 hn
     by_cases e : a = (N : Int)
     ·subst e
      have : (l.filter fun m => m != (N : Int)) = l := List.filter_eq_self.2 (fun m hm => by simp; rintro rfl; exact ha hm)
      simp [this]
     ·have := ih hl
      simp [List.filter_cons, e]
      omega
   omega
 refine this _ 16 h1 (fun m hm => ?_)
 obtain ⟨x, hx', e⟩ := (h2 m).1 hm
 have hl := (truthsOf_valid s hs x (hx x hx')).1
 obtain ⟨n, hn, hlt⟩ := setOf_lt s.rivers x.1 (by omega)
 exact ⟨n, by rw [← e, hn], hlt⟩
theorem index_int_l0 (l : List Int) (n : Int) (hl : l.length ≤ 1000000) : ∀ (d i : Nat), i + d = l.length → ∃ k r, slices_Index_int_int.l0 k l n (l.length : Int) (i : Int) = some r ∧ decide (r ≥ 0) = (l.drop i).any (fun m => m == n)
 |0, i, h => ⟨1, -1, by
   have hn : ¬ (i : Int) < l.length := by omega
   simp only [slices_Index_int_int.l0]
   rw [if_neg hn], by rw [List.drop_of_length_le (by omega)]; rfl⟩
 |d + 1, i, h => by
  have hlt : i < l.length := by omega
  have hd : l.drop i = l[i] :: l.drop (i + 1) := List.drop_eq_getElem_cons hlt
  have hr : rd l (i : Int) = l[i] := by simp [rd, List.getD_eq_getElem?_getD, hlt]
  rw [hd, List.any_cons]
  by_cases hc : n = l[i]
  ·refine ⟨1, i, ?_, by simp [hc]⟩
   simp only [slices_Index_int_int.l0]
   rw [if_pos (by omega), if_pos (by omega), if_pos (by omega), hr, if_pos hc]
  ·obtain ⟨k, r, h1, h2⟩ := index_int_l0 l n hl d (i + 1) (by omega)
   refine ⟨k + 1, r, ?_, by rw [h2]; simp [Ne.symm hc]⟩
   simp only [slices_Index_int_int.l0]
   rw [if_pos (by omega), if_pos (by omega), if_pos (by omega), hr, if_neg hc, wrap64_in _ (by omega)]
   exact h1
theorem contains_int_calls (A : Option Addr) (c : Nat) (l : List Int) (n : Int) (w : World) (hr : Kd.C (Kd.int .i64) w A l.length l) (hc : l.length ≤ c) (hl : l.length ≤ 1000000) :
 Calls Tryz.prog 145 #[.slice A l.length c, .int .i64 n] w fun e w' => e = .returned (.bool (l.any (fun m => m == n))) ∧ Below w.heap.size w w' := by
 obtain ⟨k, r, h1, h2⟩ := index_int_l0 l n hl l.length 0 (by omega)
 have h : slices_Contains_int_int.f k l n = some (l.any (fun m => m == n)) := by
  unfold slices_Contains_int_int.f slices_Index_int_int.f
  have h1' : slices_Index_int_int.l0 k l n (l.length : Int) 0 = some r := h1
  rw [h1']
  simp only [Option.bind_some, h2, List.drop_zero]
 exact (slices_Contains_int_int.calls k A c l n _ w hr hc h).mono fun e w' h => ⟨h.1, by first | exact h.2 | exact h.2.below⟩
end Go.Proofs.YtfijblhfgfefoaaGreatDoor.Rv
end
section
namespace Go.Proofs
open Go.Shelf
def Tryz.lays189_ren : Go.Shelf.Ren := ⟨fun | 189 => 146 | 125 => 176 | 257 => 184 | 128 => 204 | 129 => 205 | 294 => 206 | 295 => 207 | 296 => 208 | 297 => 209 | 298 => 210 | 299 => 211 | 216 => 212 | 300 => 213 | 301 => 214 | 328 => 226 | 329 => 222 | 330 => 223 | 331 => 227 | 332 => 228 | 215 => 177 | 343 => 240 | n => n, fun | 28 => 28 | 3 => 3 | 46 => 56 | 0 => 0 | 51 => 275 | 53 => 277 | 4 => 4 | 183 => 268 | 182 => 267 | 131 => 272 | 5 => 5 | 9 => 9 | 218 => 287 | 222 => 291 | 228 => 305 | 229 => 75 | n => n, fun | n => n⟩
theorem Tryz.lays189 : Go.Proofs.Lays.n189 Tryz.prog Tryz.lays189_ren := {
 mixed := by kernel_rfl
 f125 := Tryz.func176.trans (congrArg some (by kernel_rfl))
 f128 := Tryz.func204.trans (congrArg some (by kernel_rfl))
 f129 := Tryz.func205.trans (congrArg some (by kernel_rfl))
 f189 := Tryz.func146.trans (congrArg some (by kernel_rfl))
 f215 := Tryz.func177.trans (congrArg some (by kernel_rfl))
 f216 := Tryz.func212.trans (congrArg some (by kernel_rfl))
 f257 := Tryz.func184.trans (congrArg some (by kernel_rfl))
 f294 := Tryz.func206.trans (congrArg some (by kernel_rfl))
 f295 := Tryz.func207.trans (congrArg some (by kernel_rfl))
 f296 := Tryz.func208.trans (congrArg some (by kernel_rfl))
 f297 := Tryz.func209.trans (congrArg some (by kernel_rfl))
 f298 := Tryz.func210.trans (congrArg some (by kernel_rfl))
 f299 := Tryz.func211.trans (congrArg some (by kernel_rfl))
 f300 := Tryz.func213.trans (congrArg some (by kernel_rfl))
 f301 := Tryz.func214.trans (congrArg some (by kernel_rfl))
 f328 := Tryz.func226.trans (congrArg some (by kernel_rfl))
 f329 := Tryz.func222.trans (congrArg some (by kernel_rfl))
 f330 := Tryz.func223.trans (congrArg some (by kernel_rfl))
 f331 := Tryz.func227.trans (congrArg some (by kernel_rfl))
 f332 := Tryz.func228.trans (congrArg some (by kernel_rfl))
 f343 := Tryz.func240.trans (congrArg some (by kernel_rfl))
 t0 := Tryz.underlying0
 a0 := Tryz.isAgg0
 z0 := Tryz.sizeOf0
 v0 := Tryz.zeroValue0
 t3 := Tryz.underlying3
 a3 := Tryz.isAgg3
 z3 := Tryz.sizeOf3
 v3 := Tryz.zeroValue3
 t4 := Tryz.underlying4
 a4 := Tryz.isAgg4
 z4 := Tryz.sizeOf4
 v4 := Tryz.zeroValue4
 t5 := Tryz.underlying5
 a5 := Tryz.isAgg5
 z5 := Tryz.sizeOf5
 v5 := Tryz.zeroValue5
 t9 := Tryz.underlying9
 a9 := Tryz.isAgg9
 z9 := Tryz.sizeOf9
 v9 := Tryz.zeroValue9
 t28 := Tryz.underlying28
 a28 := Tryz.isAgg28
 z28 := Tryz.sizeOf28
 v28 := Tryz.zeroValue28
 t46 := Tryz.underlying56
 a46 := Tryz.isAgg56
 z46 := Tryz.sizeOf56
 v46 := Tryz.zeroValue56
 t51 := Tryz.underlying275
 a51 := Tryz.isAgg275
 z51 := Tryz.sizeOf275
 v51 := Tryz.zeroValue275
 t53 := Tryz.underlying277
 a53 := Tryz.isAgg277
 z53 := Tryz.sizeOf277
 v53 := Tryz.zeroValue277
 t131 := Tryz.underlying272
 a131 := Tryz.isAgg272
 z131 := Tryz.sizeOf272
 v131 := Tryz.zeroValue272
 t182 := Tryz.underlying267
 a182 := Tryz.isAgg267
 z182 := Tryz.sizeOf267
 v182 := Tryz.zeroValue267
 t183 := Tryz.underlying268
 a183 := Tryz.isAgg268
 z183 := Tryz.sizeOf268
 v183 := Tryz.zeroValue268
 t218 := Tryz.underlying287
 a218 := Tryz.isAgg287
 z218 := Tryz.sizeOf287
 v218 := Tryz.zeroValue287
 t222 := Tryz.underlying291
 a222 := Tryz.isAgg291
 z222 := Tryz.sizeOf291
 v222 := Tryz.zeroValue291
 t228 := Tryz.underlying305
 a228 := Tryz.isAgg305
 z228 := Tryz.sizeOf305
 v228 := Tryz.zeroValue305
 t229 := Tryz.underlying75
 a229 := Tryz.isAgg75
 z229 := Tryz.sizeOf75
 v229 := Tryz.zeroValue75 }
open Go.Sort Go.RowKit in
theorem Tryz.slices_Sort_int (blk off cap : Nat) (zs : List Int) (w : World) (hH : Holds (Value.int .i64) w blk off zs.toArray) (hblk : blk < w.heap.size) (hsz : zs.length < 4611686018427387904) :
 Calls Tryz.prog 146 #[.slice (some ⟨blk, off, none⟩) zs.length cap] w fun e w' =>
  e = .returned (.tuple #[]) ∧ ∃ n os, w' = grow (putRow (Value.int .i64) (Sort.ahead w n) blk off (zs.mergeSort fun x y => decide (x ≤ y)).toArray) os := Any.slices_Sort_int Tryz.lays189 blk off cap zs w hH hblk hsz
open Go.RowKit Go.Sort in
theorem Tryz.slices_Sort_int_none (p : Option Addr) (cap : Nat) (w : World) :
 Calls Tryz.prog 146 #[.slice p 0 cap] w fun e w' => e = .returned (.tuple #[]) ∧ w' = w := Any.slices_Sort_int_none Tryz.lays189 p cap w
end Go.Proofs
end
section
namespace Go.Proofs.YtfijblhfgfefoaaGreatDoor.Rv
open Go.RowKit Go.Shelf Go.IntWalk Go.Proofs.YtfijblhfgfefoaaGreatDoor.PAll Go.Proofs.YtfijblhfgfefoaaGreatDoorW.PrintWords Go.Proofs.YtfijblhfgfefoaaGreatDoorW.PrintLast
open Go.Sort
abbrev nums64 (xs : List Int) : List Value := xs.map (Value.int .i64)
theorem holdsI {w : World} {base g n cap : Nat} {xs : List Int} (h : w.ownsRow base 3 1 (.slice (some ⟨g, 0, none⟩) n cap) n (nums64 xs)) : Holds (Value.int .i64) w g 0 xs.toArray := by
 intro j hj
 have hj' : j < xs.length := by simpa using hj
 have h1 : (nums64 xs)[j]? = some (.int .i64 xs[j]) := by simp [nums64, hj']
 have h2 := own_cell h j _ h1
 rw [Nat.zero_add]
 have e : xs.toArray[j]! = xs[j] := by simp [hj']
 rw [e]
 exact h2
theorem sortedI {w w' : World} {base g n cap m : Nat} {os : Array Obj} {xs ys : List Int} (h : w.ownsRow base 3 1 (.slice (some ⟨g, 0, none⟩) n cap) n (nums64 xs)) (hn : xs.length = n) (hl : ys.length = xs.length)
 (hw : w' = grow (putRow (Value.int .i64) (Sort.ahead w m) g 0 ys.toArray) os) : w'.ownsRow base 3 1 (.slice (some ⟨g, 0, none⟩) n cap) n (nums64 ys) ∧ Chg (fun k => k = g) w w' := by
 obtain ⟨h1, h2⟩ := h
 rcases h2 with ⟨h3, _⟩ | ⟨g', cap', cur, h3, hb, hh, hc1, hc2, hc3, hc4⟩
 ·cases h3
 ·have e : g = g' ∧ cap = cap' := by
   injection h3 with h3 _ h5
   injection h3 with h3
   injection h3 with h3
   exact ⟨h3, h5⟩
  obtain ⟨rfl, rfl⟩ := e
  have hlt : g < w.heap.size := blk_lt hh
  have hheap : w'.heap = w.heap.modify g (onCells (putCells (Value.int .i64) 0 ys.toArray)) ++ os := by rw [hw]; rfl
  have hg : w'.heap[g]? = some (.cells (putCells (Value.int .i64) 0 ys.toArray cur) 3 (0, 0)) := by
   rw [hheap, Array.getElem?_append_left (by simpa using hlt), Array.getElem?_modify]
   rw [if_pos rfl, hh]
   rfl
  refine ⟨⟨by simp [nums64]; omega, .inr ⟨g, cap, _, rfl, hb, hg, hc1, hc2, by simpa [putCells] using hc3, ?_⟩⟩, ⟨by rw [hw]; rfl, by rw [hw]; rfl, by rw [hw]; rfl, by rw [hheap]; simp, fun i hi hne => ?_⟩⟩
  ·rw [Nat.mul_one] at hc3 ⊢
   apply List.ext_getElem?
   intro t
   rcases Nat.lt_or_ge t n with ht | ht
   ·rw [List.getElem?_take_of_lt ht, Array.getElem?_toList]
    have hy : t < ys.length := by omega
    simp [putCells, nums64, hy, show t < cur.size by omega]
   ·rw [List.getElem?_eq_none (by rw [List.length_take]; omega), List.getElem?_eq_none (by simp [nums64]; omega)]
  ·rw [hheap, Array.getElem?_append_left (by simpa using hi), Array.getElem?_modify]
   rw [if_neg (fun e => hne e.symm)]
theorem sortI_own (base : Nat) (v : Value) (xs : List Int) (w : World) (h : w.ownsRow base 3 1 v xs.length (nums64 xs)) (hlen : xs.length ≤ 1000000) :
 Calls Tryz.prog 146 #[v] w fun e w' => e = .returned (.tuple #[]) ∧ w'.ownsRow base 3 1 v xs.length (nums64 (xs.mergeSort fun x y => decide (x ≤ y))) ∧ Chg (fun k => some k = v.ownBlock) w w' := by
 have h' := h
 obtain ⟨h1, h2⟩ := h'
 rcases h2 with ⟨rfl, h0⟩ | ⟨g, cap, cur, rfl, hb, hh, hc1, hc2, hc3, hc4⟩
 ·have hx : xs = [] := List.eq_nil_of_length_eq_zero h0
  subst hx
  refine (Tryz.slices_Sort_int_none none 0 w).mono ?_
  rintro e w' ⟨rfl, rfl⟩
  exact ⟨rfl, by simpa using h, Chg.refl _ _⟩
 ·refine (Tryz.slices_Sort_int g 0 cap xs w (holdsI h) (blk_lt hh) (by omega)).mono ?_
  rintro e w' ⟨rfl, n, os, hw⟩
  have hso := sortedI (m := n) (os := os) (ys := xs.mergeSort fun x y => decide (x ≤ y)) h rfl (List.length_mergeSort _) hw
  refine ⟨rfl, hso.1, hso.2.mono (fun i _ e => ?_)⟩
  subst e
  rfl
theorem ownI_F {w : World} {base n : Nat} {v : Value} {xs : List Int} (h : w.ownsRow base 3 1 v n (nums64 xs)) : ∃ A c, v = .slice A n c ∧ n = xs.length ∧ n ≤ c ∧ Kd.F (Kd.int .i64) w (fun k => some k = v.ownBlock) A xs.length xs := by
 have hn : n = xs.length := by have := h.1; simp [nums64] at this; omega
 have hR : Kd.R (Kd.int .i64) 3 w base (fun k => some k = v.ownBlock) v xs := Kd.R_of_own (by rw [← hn]; exact h) (fun k hk => hk.symm)
 obtain ⟨A, c, rfl, hle, _⟩ := Kd.R_reads hR
 exact ⟨A, c, by rw [hn], hn, by omega, by have := Kd.R_F hR; simpa using this⟩
theorem RI_of_own {w : World} {base : Nat} {v : Value} {xs : List Int} (h : w.ownsRow base 3 1 v xs.length (nums64 xs)) : Kd.R (Kd.int .i64) 3 w base (fun _ => True) v xs := Kd.R_of_own h (fun _ _ => trivial)
end Go.Proofs.YtfijblhfgfefoaaGreatDoor.Rv
end
section
namespace Go.Proofs.YtfijblhfgfefoaaGreatDoor.Rv
open Go.RowKit Go.Shelf Go.IntWalk Go.Proofs.YtfijblhfgfefoaaGreatDoor.PAll Go.Proofs.YtfijblhfgfefoaaGreatDoorW.PrintWords Go.Proofs.YtfijblhfgfefoaaGreatDoorW.PrintLast
def bitB (m : Int) (i : Nat) : Bool := m.toNat.testBit i
def manyI (m : Int) : Int := ((List.range 4).filter fun i => m.toNat.testBit i).length
def knownB (least : Int) (l : List Int) : Bool := !(l.any fun m => decide (least ≤ manyI m)) || !(l.any fun m => decide (manyI m < least))
def yesL (l : List Int) (i : Nat) : List Int := l.filter fun m => bitB m i
def noL (l : List Int) (i : Nat) : List Int := l.filter fun m => !bitB m i
def bestStep (need : List Int → Int) (l : List Int) (out : Int × Int) (i : Nat) : Int × Int :=
 if (yesL l i).isEmpty || (noL l i).isEmpty then out
 else if out.1 < 0 ∨ 1 + mx (need (yesL l i)) (need (noL l i)) < out.2 then ((i : Int), 1 + mx (need (yesL l i)) (need (noL l i))) else out
def bestF (least : Int) : Nat → List Int → Int × Int
 |0, _ => (-1, 0)
 |f + 1, l => (List.range 4).foldl (bestStep (fun l' => if knownB least l' = true then 0 else (bestF least f l').2) l) (-1, 0)
def bestP (least : Int) (l : List Int) : Int × Int := bestF least l.length l
def needP (least : Int) (l : List Int) : Int := if knownB least l = true then 0 else (bestP least l).2
theorem yes_no_length (l : List Int) (i : Nat) : (yesL l i).length + (noL l i).length = l.length := by
 unfold yesL noL
 induction l with
 |nil => rfl
 |cons a l ih => by_cases h : bitB a i = true <;> simp [List.filter_cons, h] <;> omega
theorem step_congr (n1 n2 : List Int → Int) (l : List Int) (h : ∀ l', l'.length < l.length → n1 l' = n2 l') (out : Int × Int) (i : Nat) : bestStep n1 l out i = bestStep n2 l out i := by
 unfold bestStep
 split
 ·rfl
 ·rename_i hc
  simp only [Bool.or_eq_true, not_or, Bool.not_eq_true] at hc
  have hy : (yesL l i).length ≠ 0 := by
   intro e
   rw [List.eq_nil_of_length_eq_zero e] at hc
   simp at hc
  have hn : (noL l i).length ≠ 0 := by
   intro e
   rw [List.eq_nil_of_length_eq_zero e] at hc
   simp at hc
  have := yes_no_length l i
  rw [h _ (by omega), h _ (by omega)]
theorem foldl_congr' {α β : Type} (f g : β → α → β) (h : ∀ b a, f b a = g b a) (l : List α) (b : β) : l.foldl f b = l.foldl g b := by
 induction l generalizing b with
 |nil => rfl
 |cons a l ih => rw [List.foldl_cons, List.foldl_cons, h, ih]
theorem bestF_fuel (least : Int) : ∀ (f g : Nat) (l : List Int), l.length ≤ f → l.length ≤ g → bestF least f l = bestF least g l
 |0, 0, _, _, _ => rfl
 |0, g + 1, l, h, _ => by
  have : l = [] := List.eq_nil_of_length_eq_zero (by omega)
  subst this
  rfl
 |f + 1, 0, l, _, h => by
  have : l = [] := List.eq_nil_of_length_eq_zero (by omega)
  subst this
  rfl
 |f + 1, g + 1, l, h1, h2 => by
  unfold bestF
  refine foldl_congr' _ _ (fun out i => step_congr _ _ _ (fun l' hl => ?_) _ _) _ _
  rw [bestF_fuel least f g l' (by omega) (by omega)]
theorem bestP_eq (least : Int) (l : List Int) : bestP least l = (List.range 4).foldl (bestStep (needP least) l) (-1, 0) := by
 unfold bestP
 cases hl : l.length with
 |zero =>
  have : l = [] := List.eq_nil_of_length_eq_zero hl
  subst this
  rfl
 |succ f =>
  unfold bestF
  refine foldl_congr' _ _ (fun out i => step_congr _ _ _ (fun l' h => ?_) _ _) _ _
  unfold needP bestP
  rw [bestF_fuel least f l'.length l' (by omega) (Nat.le_refl _)]
def bestTo (least : Int) (l : List Int) (k : Nat) : Int × Int := (List.range k).foldl (bestStep (needP least) l) (-1, 0)
theorem bestTo_succ (least : Int) (l : List Int) (k : Nat) : bestTo least l (k + 1) = bestStep (needP least) l (bestTo least l k) k := by
 unfold bestTo
 rw [List.range_succ, List.foldl_append]
 rfl
theorem bestTo_four (least : Int) (l : List Int) : bestTo least l 4 = bestP least l := (bestP_eq least l).symm
theorem best_bounds (least : Int) : ∀ (n : Nat) (l : List Int), l.length ≤ n → ∀ k, k ≤ 4 → -1 ≤ (bestTo least l k).1 ∧ (bestTo least l k).1 ≤ 3 ∧ 0 ≤ (bestTo least l k).2 ∧ (bestTo least l k).2 ≤ l.length := by
 intro n
 induction n with
 |zero =>
  intro l hl k hk
  have : l = [] := List.eq_nil_of_length_eq_zero (by omega)
  subst this
  have e : ∀ k, bestTo least [] k = (-1, 0) := by
   intro k
   induction k with
   |zero => rfl
   |succ k ih => rw [bestTo_succ, ih]; rfl
  rw [e]
  simp
 |succ n ih =>
  intro l hl k
  induction k with
  |zero => intro _; simp [bestTo]
  |succ k ihk =>
   intro hk
   have h := ihk (by omega)
   rw [bestTo_succ]
   unfold bestStep
   split
   ·exact h
   ·rename_i hc
    simp only [Bool.or_eq_true, not_or, Bool.not_eq_true] at hc
    have hy : (yesL l k).length ≠ 0 := by
     intro e
     rw [List.eq_nil_of_length_eq_zero e] at hc
     simp at hc
    have hn : (noL l k).length ≠ 0 := by
     intro e
     rw [List.eq_nil_of_length_eq_zero e] at hc
     simp at hc
    have hs := yes_no_length l k
    have hneed : ∀ l', l'.length < l.length → 0 ≤ needP least l' ∧ needP least l' ≤ l'.length := by
     intro l' hl'
     unfold needP
     split
     ·omega
     ·have := ih l' (by omega) 4 (Nat.le_refl _)
      rw [bestTo_four] at this
      omega
    have h1 := hneed (yesL l k) (by omega)
    have h2 := hneed (noL l k) (by omega)
    have h3 : 0 ≤ mx (needP least (yesL l k)) (needP least (noL l k)) ∧ mx (needP least (yesL l k)) (needP least (noL l k)) + 1 ≤ l.length := by
     unfold mx
     split <;> omega
    split
    ·simp only
     omega
    ·exact h
theorem need_bounds (least : Int) (l : List Int) : 0 ≤ needP least l ∧ needP least l ≤ l.length := by
 unfold needP
 split
 ·omega
 ·have := best_bounds least l.length l (Nat.le_refl _) 4 (Nat.le_refl _)
  rw [bestTo_four] at this
  omega
def Canon (l : List Int) : Prop := ∃ p : Nat → Bool, l = ((List.range 16).filter p).map fun (m : Nat) => (m : Int)
theorem Canon.filter {l : List Int} (h : Canon l) (q : Int → Bool) : Canon (l.filter q) := by
 obtain ⟨p, rfl⟩ := h
 refine ⟨fun m => q (m : Int) && p m, ?_⟩
 rw [List.filter_map, List.filter_filter]
 rfl
theorem Canon.mem {l : List Int} (h : Canon l) {m : Int} (hm : m ∈ l) : ∃ n : Nat, m = n ∧ n < 16 := by
 obtain ⟨p, rfl⟩ := h
 simp only [List.mem_map, List.mem_filter, List.mem_range] at hm
 obtain ⟨n, ⟨h1, _⟩, rfl⟩ := hm
 exact ⟨n, rfl, h1⟩
theorem Canon.length {l : List Int} (h : Canon l) : l.length ≤ 16 := by
 obtain ⟨p, rfl⟩ := h
 rw [List.length_map]
 exact Nat.le_trans (List.length_filter_le _ _) (by simp)
theorem canon_patterns (s : Sk) : Canon (patternsL s) := ⟨_, rfl⟩
def keyN (l : List Int) : Nat := l.foldl (fun n m => n ||| 2 ^ m.toNat) 0
theorem keyN_snoc (l : List Int) (m : Int) : keyN (l ++ [m]) = keyN l ||| 2 ^ m.toNat := by simp [keyN, List.foldl_append]
theorem testBit_keyN (l : List Int) (j : Nat) : (keyN l).testBit j = true ↔ ∃ m ∈ l, m.toNat = j := by
 suffices h : ∀ n0 : Nat, (l.foldl (fun n m => n ||| 2 ^ m.toNat) n0).testBit j = true ↔ n0.testBit j = true ∨ ∃ m ∈ l, m.toNat = j by
  have := h 0
  unfold keyN
  rw [this]
  simp
 induction l with
 |nil => simp
 |cons a l ih =>
  intro n0
  rw [List.foldl_cons, ih, Nat.testBit_or, Nat.testBit_two_pow, Bool.or_eq_true, decide_eq_true_iff]
  simp only [List.mem_cons]
  constructor
  ·rintro ((h | h) | ⟨m, hm, h⟩)
   ·exact .inl h
   ·exact .inr ⟨a, .inl rfl, h⟩
   ·exact .inr ⟨m, .inr hm, h⟩
  ·rintro (h | ⟨m, rfl | hm, h⟩)
   ·exact .inl (.inl h)
   ·exact .inl (.inr h)
   ·exact .inr ⟨m, hm, h⟩
theorem keyN_lt {l : List Int} (h : ∀ m ∈ l, ∃ n : Nat, m = n ∧ n < 16) : keyN l < 2 ^ 16 := by
 suffices hh : ∀ n0 : Nat, n0 < 2 ^ 16 → l.foldl (fun n m => n ||| 2 ^ m.toNat) n0 < 2 ^ 16 from hh 0 (by decide)
 induction l with
 |nil => exact fun n0 h0 => h0
 |cons a l ih =>
  intro n0 h0
  obtain ⟨n, rfl, hn⟩ := h a (by simp)
  refine ih (fun m hm => h m (by simp [hm])) _ (Nat.or_lt_two_pow h0 ?_)
  rw [Int.toNat_natCast]
  exact Nat.pow_lt_pow_right (by decide) hn
theorem canon_eq {l l' : List Int} (h : Canon l) (h' : Canon l') (hk : keyN l = keyN l') : l = l' := by
 have hm : ∀ n : Nat, (n : Int) ∈ l ↔ (n : Int) ∈ l' := by
  intro n
  have a := testBit_keyN l n
  have b := testBit_keyN l' n
  rw [hk] at a
  have e : ∀ {q : List Int}, Canon q → ((∃ m ∈ q, m.toNat = n) ↔ (n : Int) ∈ q) := by
   intro q hq
   constructor
   ·rintro ⟨m, hm, e⟩
    obtain ⟨k, rfl, _⟩ := hq.mem hm
    rw [Int.toNat_natCast] at e
    rw [← e]
    exact hm
   ·intro hm
    exact ⟨_, hm, by simp⟩
  rw [← e h, ← e h', ← a, ← b]
 obtain ⟨p, rfl⟩ := h
 obtain ⟨p', rfl⟩ := h'
 congr 1
 refine List.filter_congr (fun x hx => ?_)
 have := hm x
 have hx' := List.mem_range.1 hx
 have e : ∀ q : Nat → Bool, ((x : Int) ∈ ((List.range 16).filter q).map fun (m : Nat) => (m : Int)) ↔ q x = true := by
  intro q
  simp only [List.mem_map, List.mem_filter, List.mem_range]
  constructor
  ·rintro ⟨y, ⟨_, h2⟩, e⟩
   have : y = x := by omega
   rw [← this]
   exact h2
  ·intro h2
   exact ⟨x, ⟨hx', h2⟩, rfl⟩
 rw [e, e] at this
 cases h1 : p x <;> cases h2 : p' x <;> simp_all
theorem or_nat (a b : Nat) (ha : a < 2 ^ 16) (hb : b < 2 ^ 16) : Go.bits .or .i64 (a : Int) (b : Int) = ((a ||| b : Nat) : Int) := by
 have h1 : (BitVec.ofInt 64 (a : Int)) = BitVec.ofNat 64 a := by simp
 have h2 : (BitVec.ofInt 64 (b : Int)) = BitVec.ofNat 64 b := by simp
 have h3 : a ||| b < 2 ^ 16 := Nat.or_lt_two_pow ha hb
 show IntKind.i64.wrap ((BitVec.ofInt 64 (a : Int) ||| BitVec.ofInt 64 (b : Int)).toNat : Int) = _
 rw [h1, h2, BitVec.toNat_or, BitVec.toNat_ofNat, BitVec.toNat_ofNat, Nat.mod_eq_of_lt (by omega), Nat.mod_eq_of_lt (by omega)]
 exact i64_in _ (by omega)
theorem shl_nat (n : Nat) (hn : n < 16) : shl .i64 1 (n : Int) = ((2 ^ n : Nat) : Int) := by
 have : ∀ n : Fin 16, shl .i64 1 (n.val : Int) = ((2 ^ n.val : Nat) : Int) := by decide +kernel
 exact this ⟨n, hn⟩
theorem key_l0 (l : List Int) (h : ∀ m ∈ l, ∃ n : Nat, m = n ∧ n < 16) (hl : l.length ≤ 1000000) : ∀ (d i : Nat), i + d = l.length → ∃ k, river_key.l0 k (keyN (l.take i) : Nat) l (l.length : Int) (i : Int) = some ((keyN l : Nat) : Int)
 |0, i, hd => ⟨1, by
   have hn : ¬ (i : Int) < l.length := by omega
   simp only [river_key.l0]
   rw [if_neg hn, List.take_of_length_le (by omega)]⟩
 |d + 1, i, hd => by
  have hlt : i < l.length := by omega
  have hr : rd l (i : Int) = l[i] := by simp [rd, List.getD_eq_getElem?_getD, hlt]
  obtain ⟨n, hn, h16⟩ := h l[i] (List.getElem_mem hlt)
  obtain ⟨k, hk⟩ := key_l0 l h hl d (i + 1) (by omega)
  refine ⟨k + 1, ?_⟩
  simp only [river_key.l0]
  rw [if_pos (by omega), if_pos (by omega), if_pos (by omega), hr, hn, if_pos (by omega), shl_nat n h16, or_nat _ _ (keyN_lt (fun m hm => h m (List.mem_of_mem_take hm))) (Nat.pow_lt_pow_right (by decide) h16), wrap64_in _ (by omega)]
  rw [List.take_succ_eq_append_getElem hlt, keyN_snoc, hn, Int.toNat_natCast] at hk
  exact hk
theorem key_f (l : List Int) (h : ∀ m ∈ l, ∃ n : Nat, m = n ∧ n < 16) (hl : l.length ≤ 1000000) : ∃ k, river_key.f k l = some ((keyN l : Nat) : Int) := by
 obtain ⟨k, hk⟩ := key_l0 l h hl l.length 0 (by omega)
 exact ⟨k, hk⟩
theorem many_f (n : Nat) (hn : n < 16) : river_many.f 10 (n : Int) = some (manyI n) := by
 have : ∀ n : Fin 16, river_many.f 10 (n.val : Int) = some (manyI (n.val : Int)) := by decide +kernel
 exact this ⟨n, hn⟩
theorem has_f (n i : Nat) (hn : n < 16) (hi : i < 4) : river_has.f (n : Int) (i : Int) = some (bitB n i) := by
 have : ∀ n : Fin 16, ∀ i : Fin 4, river_has.f (n.val : Int) (i.val : Int) = some (bitB (n.val : Int) i.val) := by decide +kernel
 exact this ⟨n, hn⟩ ⟨i, hi⟩
end Go.Proofs.YtfijblhfgfefoaaGreatDoor.Rv
end
