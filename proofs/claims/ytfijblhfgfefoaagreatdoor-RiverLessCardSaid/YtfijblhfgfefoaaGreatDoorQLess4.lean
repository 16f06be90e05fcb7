/- A part of the proof: words, contracts of functions, and their walks. -/
import Derived.StillTailTactics
import Derived.IntWalk
import Derived.WalkSpells
import Derived.Test.YtfijblhfgfefoaaGreatDoorQLess3
set_option linter.unusedVariables false
set_option linter.unusedSimpArgs false
section
namespace Go.Proofs.YtfijblhfgfefoaaGreatDoor.Rv
open Go.RowKit Go.Shelf Go.Proofs.YtfijblhfgfefoaaGreatDoor.PAll Go.Proofs.YtfijblhfgfefoaaGreatDoorW.PrintWords Go.Proofs.YtfijblhfgfefoaaGreatDoorW.PrintLast
set_option maxRecDepth 100000 in
set_option maxHeartbeats 1000000 in
theorem idx172 (g : Nat) (lb : Array Value) (eg : ∀ args w, (callFunc g args).run Tryz.prog w = .ok (.enter g args) w) (p : S43 → Bool) (A : Option Addr) (c : Nat) (l : List S43) (w : World) (hr : Kd.C k43 w A l.length l) (hp : PredK k43 g lb p l w) :
 Calls Tryz.prog 172 #[.slice A l.length c, .func (.func g) #[] lb] w fun e w' => e = .returned (.int .i64 (idxOf p l)) ∧ Below w.heap.size w w' := by
 have hbig : l.length ≤ 9223372036854775807 := hr.2.1
 have HR := zk hr
 have HP := zk hp
 clear hr hp
 have hu := Tryz.underlying43
 go_enter Tryz.func172, Tryz.ntmps172
 go_wp2
 go_loopg [5, 8] l.length (fun gg _ s8 wr => ∃ kk : Nat, kk ≤ l.length ∧ l.length - kk ≤ gg ∧ s8 = .int .i64 kk ∧ Aside0 (Below w.heap.size w wr) ∧ Aside0 (∀ j, (hj : j < l.length) → j < kk → p l[j] = false))
 case atStart => exact ⟨0, Nat.zero_le _, by omega, rfl, ⟨Below.refl _ w⟩, ⟨fun j hj h => absurd h (Nat.not_lt_zero _)⟩⟩
 case round =>
  obtain ⟨kk, hkk, hg, rfl, BW, AA⟩ := hrel
  by_cases hlt : kk < l.length
  ·have hltz : (kk : Int) < (l.length : Int) := by omega
   obtain ⟨ad, A0, c0, e, h0, h1, h2, hk⟩ := at_T43 (Kd.C_below HR.out BW.out) (kk : Int) (by omega) (by omega)
   cases e
   simp only [Int.toNat_natCast] at h0 h1 h2
   have hx : l[kk] = rd_T43 l (kk : Int) := by simp [rd_T43, List.getD_eq_getElem?_getD, List.getElem?_eq_getElem hlt]
   obtain ⟨y, hy⟩ : ∃ y, rd_T43 l (kk : Int) = y := ⟨_, rfl⟩
   rw [hy] at h0 h1 h2 hk hx
   clear hy
   have hcall := HP.out wr y [_, _, _] (by rw [← hx]; exact List.getElem_mem hlt) BW.out (k43_mk wr y hk.1 hk.2)
   have B := zk hx
   have KK := zk hk
   clear hk
   clear hx
   cases hq : p y with
   |true =>
    rw [hq] at hcall
    go_wp2_with (go_at_fn g; refine hcall.mono ?_; rintro e w' ⟨rfl, hb'⟩)
    go_ret
    refine ⟨?_, BW.out.trans (hb'.mono BW.out.size)⟩
    rw [idxOf_hit p l kk hlt (by rw [B.out]; exact hq) (fun j hj => AA.out j (by omega) hj)]
    rfl
   |false =>
    rw [hq] at hcall
    go_wp2_with (go_at_fn g; refine hcall.mono ?_; rintro e w' ⟨rfl, hb'⟩)
    go_roundg (l.length - (kk + 1))
    case measure => omega
    case rel =>
     refine ⟨kk + 1, by omega, by omega, by go_num, ⟨BW.out.trans (hb'.mono BW.out.size)⟩, ⟨fun j hj hj2 => ?_⟩⟩
     by_cases e : j = kk
     ·subst e
      rw [B.out]; exact hq
     ·exact AA.out j hj (by omega)
  ·have hltz : decide ((kk : Int) < (l.length : Int)) = false := by simpa using hlt
   have hk2 : l.length ≤ kk := by omega
   clear hlt
   go_wp2
   go_ret
   refine ⟨?_, BW.out⟩
   rw [idxOf_miss p l (fun j hj => AA.out j hj (by omega))]
   rfl
set_option maxHeartbeats 1000000 in
theorem cont130 (g : Nat) (lb : Array Value) (eg : ∀ args w, (callFunc g args).run Tryz.prog w = .ok (.enter g args) w) (p : S43 → Bool) (A : Option Addr) (c : Nat) (l : List S43) (w : World) (hr : Kd.C k43 w A l.length l) (hp : PredK k43 g lb p l w) :
 Calls Tryz.prog 130 #[.slice A l.length c, .func (.func g) #[] lb] w fun e w' => e = .returned (.bool (l.any p)) ∧ Below w.heap.size w w' := by
 have hcall := idx172 g lb eg p A c l w hr hp
 have hz := idxOf_nonneg p l
 clear hp hr
 generalize idxOf p l = z at hcall hz
 have Z := zk hz
 clear hz
 go_enter Tryz.func130, Tryz.ntmps130
 go_wp2_with (go_at_call 172; refine hcall.mono ?_; rintro e w' ⟨rfl, hb'⟩)
 go_ret
 refine ⟨?_, hb'⟩
 rw [← Z.out]
 rfl
set_option maxRecDepth 100000 in
set_option maxHeartbeats 1000000 in
theorem idx173 (g : Nat) (lb : Array Value) (eg : ∀ args w, (callFunc g args).run Tryz.prog w = .ok (.enter g args) w) (p : S47 → Bool) (A : Option Addr) (c : Nat) (l : List S47) (w : World) (hr : Kd.C k47 w A l.length l) (hp : PredK k47 g lb p l w) :
 Calls Tryz.prog 173 #[.slice A l.length c, .func (.func g) #[] lb] w fun e w' => e = .returned (.int .i64 (idxOf p l)) ∧ Below w.heap.size w w' := by
 have hbig : l.length ≤ 9223372036854775807 := hr.2.1
 have HR := zk hr
 have HP := zk hp
 clear hr hp
 have hu := Tryz.underlying47
 go_enter Tryz.func173, Tryz.ntmps173
 go_wp2
 go_loopg [5, 8] l.length (fun gg _ s8 wr => ∃ kk : Nat, kk ≤ l.length ∧ l.length - kk ≤ gg ∧ s8 = .int .i64 kk ∧ Aside0 (Below w.heap.size w wr) ∧ Aside0 (∀ j, (hj : j < l.length) → j < kk → p l[j] = false))
 case atStart => exact ⟨0, Nat.zero_le _, by omega, rfl, ⟨Below.refl _ w⟩, ⟨fun j hj h => absurd h (Nat.not_lt_zero _)⟩⟩
 case round =>
  obtain ⟨kk, hkk, hg, rfl, BW, AA⟩ := hrel
  by_cases hlt : kk < l.length
  ·have hltz : (kk : Int) < (l.length : Int) := by omega
   obtain ⟨ad, e, h0, h1⟩ := at_T47 (Kd.C_below HR.out BW.out) (kk : Int) (by omega) (by omega)
   cases e
   simp only [Int.toNat_natCast] at h0 h1
   have hx : l[kk] = rd_T47 l (kk : Int) := by simp [rd_T47, List.getD_eq_getElem?_getD, List.getElem?_eq_getElem hlt]
   obtain ⟨y, hy⟩ : ∃ y, rd_T47 l (kk : Int) = y := ⟨_, rfl⟩
   rw [hy] at h0 h1 hx
   clear hy
   have hcall := HP.out wr y [_, _] (by rw [← hx]; exact List.getElem_mem hlt) BW.out (k47_mk wr y)
   have B := zk hx
   skip
   clear hx
   cases hq : p y with
   |true =>
    rw [hq] at hcall
    go_wp2_with (go_at_fn g; refine hcall.mono ?_; rintro e w' ⟨rfl, hb'⟩)
    go_ret
    refine ⟨?_, BW.out.trans (hb'.mono BW.out.size)⟩
    rw [idxOf_hit p l kk hlt (by rw [B.out]; exact hq) (fun j hj => AA.out j (by omega) hj)]
    rfl
   |false =>
    rw [hq] at hcall
    go_wp2_with (go_at_fn g; refine hcall.mono ?_; rintro e w' ⟨rfl, hb'⟩)
    go_roundg (l.length - (kk + 1))
    case measure => omega
    case rel =>
     refine ⟨kk + 1, by omega, by omega, by go_num, ⟨BW.out.trans (hb'.mono BW.out.size)⟩, ⟨fun j hj hj2 => ?_⟩⟩
     by_cases e : j = kk
     ·subst e
      rw [B.out]; exact hq
     ·exact AA.out j hj (by omega)
  ·have hltz : decide ((kk : Int) < (l.length : Int)) = false := by simpa using hlt
   have hk2 : l.length ≤ kk := by omega
   clear hlt
   go_wp2
   go_ret
   refine ⟨?_, BW.out⟩
   rw [idxOf_miss p l (fun j hj => AA.out j hj (by omega))]
   rfl
set_option maxHeartbeats 1000000 in
theorem cont132 (g : Nat) (lb : Array Value) (eg : ∀ args w, (callFunc g args).run Tryz.prog w = .ok (.enter g args) w) (p : S47 → Bool) (A : Option Addr) (c : Nat) (l : List S47) (w : World) (hr : Kd.C k47 w A l.length l) (hp : PredK k47 g lb p l w) :
 Calls Tryz.prog 132 #[.slice A l.length c, .func (.func g) #[] lb] w fun e w' => e = .returned (.bool (l.any p)) ∧ Below w.heap.size w w' := by
 have hcall := idx173 g lb eg p A c l w hr hp
 have hz := idxOf_nonneg p l
 clear hp hr
 generalize idxOf p l = z at hcall hz
 have Z := zk hz
 clear hz
 go_enter Tryz.func132, Tryz.ntmps132
 go_wp2_with (go_at_call 173; refine hcall.mono ?_; rintro e w' ⟨rfl, hb'⟩)
 go_ret
 refine ⟨?_, hb'⟩
 rw [← Z.out]
 rfl
set_option maxRecDepth 100000 in
set_option maxHeartbeats 1000000 in
theorem idx185 (g : Nat) (lb : Array Value) (eg : ∀ args w, (callFunc g args).run Tryz.prog w = .ok (.enter g args) w) (p : S45 → Bool) (A : Option Addr) (c : Nat) (l : List S45) (w : World) (hr : Kd.C k45 w A l.length l) (hp : PredK k45 g lb p l w) :
 Calls Tryz.prog 185 #[.slice A l.length c, .func (.func g) #[] lb] w fun e w' => e = .returned (.int .i64 (idxOf p l)) ∧ Below w.heap.size w w' := by
 have hbig : l.length ≤ 9223372036854775807 := hr.2.1
 have HR := zk hr
 have HP := zk hp
 clear hr hp
 have hu := Tryz.underlying45
 go_enter Tryz.func185, Tryz.ntmps185
 go_wp2
 go_loopg [5, 8] l.length (fun gg _ s8 wr => ∃ kk : Nat, kk ≤ l.length ∧ l.length - kk ≤ gg ∧ s8 = .int .i64 kk ∧ Aside0 (Below w.heap.size w wr) ∧ Aside0 (∀ j, (hj : j < l.length) → j < kk → p l[j] = false))
 case atStart => exact ⟨0, Nat.zero_le _, by omega, rfl, ⟨Below.refl _ w⟩, ⟨fun j hj h => absurd h (Nat.not_lt_zero _)⟩⟩
 case round =>
  obtain ⟨kk, hkk, hg, rfl, BW, AA⟩ := hrel
  by_cases hlt : kk < l.length
  ·have hltz : (kk : Int) < (l.length : Int) := by omega
   obtain ⟨ad, A0, c0, e, h0, h1, hk⟩ := at_T45 (Kd.C_below HR.out BW.out) (kk : Int) (by omega) (by omega)
   cases e
   simp only [Int.toNat_natCast] at h0 h1
   have hx : l[kk] = rd_T45 l (kk : Int) := by simp [rd_T45, List.getD_eq_getElem?_getD, List.getElem?_eq_getElem hlt]
   obtain ⟨y, hy⟩ : ∃ y, rd_T45 l (kk : Int) = y := ⟨_, rfl⟩
   rw [hy] at h0 h1 hk hx
   clear hy
   have hcall := HP.out wr y [_, _] (by rw [← hx]; exact List.getElem_mem hlt) BW.out (k45_mk wr y hk.1 hk.2)
   have B := zk hx
   have KK := zk hk
   clear hk
   clear hx
   cases hq : p y with
   |true =>
    rw [hq] at hcall
    go_wp2_with (go_at_fn g; refine hcall.mono ?_; rintro e w' ⟨rfl, hb'⟩)
    go_ret
    refine ⟨?_, BW.out.trans (hb'.mono BW.out.size)⟩
    rw [idxOf_hit p l kk hlt (by rw [B.out]; exact hq) (fun j hj => AA.out j (by omega) hj)]
    rfl
   |false =>
    rw [hq] at hcall
    go_wp2_with (go_at_fn g; refine hcall.mono ?_; rintro e w' ⟨rfl, hb'⟩)
    go_roundg (l.length - (kk + 1))
    case measure => omega
    case rel =>
     refine ⟨kk + 1, by omega, by omega, by go_num, ⟨BW.out.trans (hb'.mono BW.out.size)⟩, ⟨fun j hj hj2 => ?_⟩⟩
     by_cases e : j = kk
     ·subst e
      rw [B.out]; exact hq
     ·exact AA.out j hj (by omega)
  ·have hltz : decide ((kk : Int) < (l.length : Int)) = false := by simpa using hlt
   have hk2 : l.length ≤ kk := by omega
   clear hlt
   go_wp2
   go_ret
   refine ⟨?_, BW.out⟩
   rw [idxOf_miss p l (fun j hj => AA.out j hj (by omega))]
   rfl
set_option maxHeartbeats 1000000 in
theorem cont150 (g : Nat) (lb : Array Value) (eg : ∀ args w, (callFunc g args).run Tryz.prog w = .ok (.enter g args) w) (p : S45 → Bool) (A : Option Addr) (c : Nat) (l : List S45) (w : World) (hr : Kd.C k45 w A l.length l) (hp : PredK k45 g lb p l w) :
 Calls Tryz.prog 150 #[.slice A l.length c, .func (.func g) #[] lb] w fun e w' => e = .returned (.bool (l.any p)) ∧ Below w.heap.size w w' := by
 have hcall := idx185 g lb eg p A c l w hr hp
 have hz := idxOf_nonneg p l
 clear hp hr
 generalize idxOf p l = z at hcall hz
 have Z := zk hz
 clear hz
 go_enter Tryz.func150, Tryz.ntmps150
 go_wp2_with (go_at_call 185; refine hcall.mono ?_; rintro e w' ⟨rfl, hb'⟩)
 go_ret
 refine ⟨?_, hb'⟩
 rw [← Z.out]
 rfl
set_option maxRecDepth 100000 in
set_option maxHeartbeats 1000000 in
theorem idx186 (g : Nat) (lb : Array Value) (eg : ∀ args w, (callFunc g args).run Tryz.prog w = .ok (.enter g args) w) (p : S59 → Bool) (A : Option Addr) (c : Nat) (l : List S59) (w : World) (hr : Kd.C k59 w A l.length l) (hp : PredK k59 g lb p l w) :
 Calls Tryz.prog 186 #[.slice A l.length c, .func (.func g) #[] lb] w fun e w' => e = .returned (.int .i64 (idxOf p l)) ∧ Below w.heap.size w w' := by
 have hbig : l.length ≤ 9223372036854775807 := hr.2.1
 have HR := zk hr
 have HP := zk hp
 clear hr hp
 have hu := Tryz.underlying59
 go_enter Tryz.func186, Tryz.ntmps186
 go_wp2
 go_loopg [5, 8] l.length (fun gg _ s8 wr => ∃ kk : Nat, kk ≤ l.length ∧ l.length - kk ≤ gg ∧ s8 = .int .i64 kk ∧ Aside0 (Below w.heap.size w wr) ∧ Aside0 (∀ j, (hj : j < l.length) → j < kk → p l[j] = false))
 case atStart => exact ⟨0, Nat.zero_le _, by omega, rfl, ⟨Below.refl _ w⟩, ⟨fun j hj h => absurd h (Nat.not_lt_zero _)⟩⟩
 case round =>
  obtain ⟨kk, hkk, hg, rfl, BW, AA⟩ := hrel
  by_cases hlt : kk < l.length
  ·have hltz : (kk : Int) < (l.length : Int) := by omega
   obtain ⟨ad, e, h0, h1⟩ := at_T59 (Kd.C_below HR.out BW.out) (kk : Int) (by omega) (by omega)
   cases e
   simp only [Int.toNat_natCast] at h0 h1
   have hx : l[kk] = rd_T59 l (kk : Int) := by simp [rd_T59, List.getD_eq_getElem?_getD, List.getElem?_eq_getElem hlt]
   obtain ⟨y, hy⟩ : ∃ y, rd_T59 l (kk : Int) = y := ⟨_, rfl⟩
   rw [hy] at h0 h1 hx
   clear hy
   have hcall := HP.out wr y [_, _] (by rw [← hx]; exact List.getElem_mem hlt) BW.out (k59_mk wr y)
   have B := zk hx
   skip
   clear hx
   cases hq : p y with
   |true =>
    rw [hq] at hcall
    go_wp2_with (go_at_fn g; refine hcall.mono ?_; rintro e w' ⟨rfl, hb'⟩)
    go_ret
    refine ⟨?_, BW.out.trans (hb'.mono BW.out.size)⟩
    rw [idxOf_hit p l kk hlt (by rw [B.out]; exact hq) (fun j hj => AA.out j (by omega) hj)]
    rfl
   |false =>
    rw [hq] at hcall
    go_wp2_with (go_at_fn g; refine hcall.mono ?_; rintro e w' ⟨rfl, hb'⟩)
    go_roundg (l.length - (kk + 1))
    case measure => omega
    case rel =>
     refine ⟨kk + 1, by omega, by omega, by go_num, ⟨BW.out.trans (hb'.mono BW.out.size)⟩, ⟨fun j hj hj2 => ?_⟩⟩
     by_cases e : j = kk
     ·subst e
      rw [B.out]; exact hq
     ·exact AA.out j hj (by omega)
  ·have hltz : decide ((kk : Int) < (l.length : Int)) = false := by simpa using hlt
   have hk2 : l.length ≤ kk := by omega
   clear hlt
   go_wp2
   go_ret
   refine ⟨?_, BW.out⟩
   rw [idxOf_miss p l (fun j hj => AA.out j hj (by omega))]
   rfl
set_option maxHeartbeats 1000000 in
theorem cont152 (g : Nat) (lb : Array Value) (eg : ∀ args w, (callFunc g args).run Tryz.prog w = .ok (.enter g args) w) (p : S59 → Bool) (A : Option Addr) (c : Nat) (l : List S59) (w : World) (hr : Kd.C k59 w A l.length l) (hp : PredK k59 g lb p l w) :
 Calls Tryz.prog 152 #[.slice A l.length c, .func (.func g) #[] lb] w fun e w' => e = .returned (.bool (l.any p)) ∧ Below w.heap.size w w' := by
 have hcall := idx186 g lb eg p A c l w hr hp
 have hz := idxOf_nonneg p l
 clear hp hr
 generalize idxOf p l = z at hcall hz
 have Z := zk hz
 clear hz
 go_enter Tryz.func152, Tryz.ntmps152
 go_wp2_with (go_at_call 186; refine hcall.mono ?_; rintro e w' ⟨rfl, hb'⟩)
 go_ret
 refine ⟨?_, hb'⟩
 rw [← Z.out]
 rfl
set_option maxRecDepth 100000 in
set_option maxHeartbeats 1000000 in
theorem idx187 (g : Nat) (lb : Array Value) (eg : ∀ args w, (callFunc g args).run Tryz.prog w = .ok (.enter g args) w) (p : S114 → Bool) (A : Option Addr) (c : Nat) (l : List S114) (w : World) (hr : Kd.C k114 w A l.length l) (hp : PredK k114 g lb p l w) :
 Calls Tryz.prog 187 #[.slice A l.length c, .func (.func g) #[] lb] w fun e w' => e = .returned (.int .i64 (idxOf p l)) ∧ Below w.heap.size w w' := by
 have hbig : l.length ≤ 9223372036854775807 := hr.2.1
 have HR := zk hr
 have HP := zk hp
 clear hr hp
 have hu := Tryz.underlying114
 go_enter Tryz.func187, Tryz.ntmps187
 go_wp2
 go_loopg [5, 8] l.length (fun gg _ s8 wr => ∃ kk : Nat, kk ≤ l.length ∧ l.length - kk ≤ gg ∧ s8 = .int .i64 kk ∧ Aside0 (Below w.heap.size w wr) ∧ Aside0 (∀ j, (hj : j < l.length) → j < kk → p l[j] = false))
 case atStart => exact ⟨0, Nat.zero_le _, by omega, rfl, ⟨Below.refl _ w⟩, ⟨fun j hj h => absurd h (Nat.not_lt_zero _)⟩⟩
 case round =>
  obtain ⟨kk, hkk, hg, rfl, BW, AA⟩ := hrel
  by_cases hlt : kk < l.length
  ·have hltz : (kk : Int) < (l.length : Int) := by omega
   obtain ⟨ad, e, h0, h1, h2, h3⟩ := at_T114 (Kd.C_below HR.out BW.out) (kk : Int) (by omega) (by omega)
   cases e
   simp only [Int.toNat_natCast] at h0 h1 h2 h3
   have hx : l[kk] = rd_T114 l (kk : Int) := by simp [rd_T114, List.getD_eq_getElem?_getD, List.getElem?_eq_getElem hlt]
   obtain ⟨y, hy⟩ : ∃ y, rd_T114 l (kk : Int) = y := ⟨_, rfl⟩
   rw [hy] at h0 h1 h2 h3 hx
   clear hy
   have hcall := HP.out wr y [_, _, _, _] (by rw [← hx]; exact List.getElem_mem hlt) BW.out (k114_mk wr y)
   have B := zk hx
   skip
   clear hx
   cases hq : p y with
   |true =>
    rw [hq] at hcall
    go_wp2_with (go_at_fn g; refine hcall.mono ?_; rintro e w' ⟨rfl, hb'⟩)
    go_ret
    refine ⟨?_, BW.out.trans (hb'.mono BW.out.size)⟩
    rw [idxOf_hit p l kk hlt (by rw [B.out]; exact hq) (fun j hj => AA.out j (by omega) hj)]
    rfl
   |false =>
    rw [hq] at hcall
    go_wp2_with (go_at_fn g; refine hcall.mono ?_; rintro e w' ⟨rfl, hb'⟩)
    go_roundg (l.length - (kk + 1))
    case measure => omega
    case rel =>
     refine ⟨kk + 1, by omega, by omega, by go_num, ⟨BW.out.trans (hb'.mono BW.out.size)⟩, ⟨fun j hj hj2 => ?_⟩⟩
     by_cases e : j = kk
     ·subst e
      rw [B.out]; exact hq
     ·exact AA.out j hj (by omega)
  ·have hltz : decide ((kk : Int) < (l.length : Int)) = false := by simpa using hlt
   have hk2 : l.length ≤ kk := by omega
   clear hlt
   go_wp2
   go_ret
   refine ⟨?_, BW.out⟩
   rw [idxOf_miss p l (fun j hj => AA.out j hj (by omega))]
   rfl
set_option maxHeartbeats 1000000 in
theorem cont154 (g : Nat) (lb : Array Value) (eg : ∀ args w, (callFunc g args).run Tryz.prog w = .ok (.enter g args) w) (p : S114 → Bool) (A : Option Addr) (c : Nat) (l : List S114) (w : World) (hr : Kd.C k114 w A l.length l) (hp : PredK k114 g lb p l w) :
 Calls Tryz.prog 154 #[.slice A l.length c, .func (.func g) #[] lb] w fun e w' => e = .returned (.bool (l.any p)) ∧ Below w.heap.size w w' := by
 have hcall := idx187 g lb eg p A c l w hr hp
 have hz := idxOf_nonneg p l
 clear hp hr
 generalize idxOf p l = z at hcall hz
 have Z := zk hz
 clear hz
 go_enter Tryz.func154, Tryz.ntmps154
 go_wp2_with (go_at_call 187; refine hcall.mono ?_; rintro e w' ⟨rfl, hb'⟩)
 go_ret
 refine ⟨?_, hb'⟩
 rw [← Z.out]
 rfl
set_option maxRecDepth 100000 in
set_option maxHeartbeats 1000000 in
theorem idx188 (g : Nat) (lb : Array Value) (eg : ∀ args w, (callFunc g args).run Tryz.prog w = .ok (.enter g args) w) (p : S174 → Bool) (A : Option Addr) (c : Nat) (l : List S174) (w : World) (hr : Kd.C k174 w A l.length l) (hp : PredK k174 g lb p l w) :
 Calls Tryz.prog 188 #[.slice A l.length c, .func (.func g) #[] lb] w fun e w' => e = .returned (.int .i64 (idxOf p l)) ∧ Below w.heap.size w w' := by
 have hbig : l.length ≤ 9223372036854775807 := hr.2.1
 have HR := zk hr
 have HP := zk hp
 clear hr hp
 have hu := Tryz.underlying174
 go_enter Tryz.func188, Tryz.ntmps188
 go_wp2
 go_loopg [5, 8] l.length (fun gg _ s8 wr => ∃ kk : Nat, kk ≤ l.length ∧ l.length - kk ≤ gg ∧ s8 = .int .i64 kk ∧ Aside0 (Below w.heap.size w wr) ∧ Aside0 (∀ j, (hj : j < l.length) → j < kk → p l[j] = false))
 case atStart => exact ⟨0, Nat.zero_le _, by omega, rfl, ⟨Below.refl _ w⟩, ⟨fun j hj h => absurd h (Nat.not_lt_zero _)⟩⟩
 case round =>
  obtain ⟨kk, hkk, hg, rfl, BW, AA⟩ := hrel
  by_cases hlt : kk < l.length
  ·have hltz : (kk : Int) < (l.length : Int) := by omega
   obtain ⟨ad, e, h0, h1, h2, h3⟩ := at_T174 (Kd.C_below HR.out BW.out) (kk : Int) (by omega) (by omega)
   cases e
   simp only [Int.toNat_natCast] at h0 h1 h2 h3
   have hx : l[kk] = rd_T174 l (kk : Int) := by simp [rd_T174, List.getD_eq_getElem?_getD, List.getElem?_eq_getElem hlt]
   obtain ⟨y, hy⟩ : ∃ y, rd_T174 l (kk : Int) = y := ⟨_, rfl⟩
   rw [hy] at h0 h1 h2 h3 hx
   clear hy
   have hcall := HP.out wr y [_, _, _, _] (by rw [← hx]; exact List.getElem_mem hlt) BW.out (k174_mk wr y)
   have B := zk hx
   skip
   clear hx
   cases hq : p y with
   |true =>
    rw [hq] at hcall
    go_wp2_with (go_at_fn g; refine hcall.mono ?_; rintro e w' ⟨rfl, hb'⟩)
    go_ret
    refine ⟨?_, BW.out.trans (hb'.mono BW.out.size)⟩
    rw [idxOf_hit p l kk hlt (by rw [B.out]; exact hq) (fun j hj => AA.out j (by omega) hj)]
    rfl
   |false =>
    rw [hq] at hcall
    go_wp2_with (go_at_fn g; refine hcall.mono ?_; rintro e w' ⟨rfl, hb'⟩)
    go_roundg (l.length - (kk + 1))
    case measure => omega
    case rel =>
     refine ⟨kk + 1, by omega, by omega, by go_num, ⟨BW.out.trans (hb'.mono BW.out.size)⟩, ⟨fun j hj hj2 => ?_⟩⟩
     by_cases e : j = kk
     ·subst e
      rw [B.out]; exact hq
     ·exact AA.out j hj (by omega)
  ·have hltz : decide ((kk : Int) < (l.length : Int)) = false := by simpa using hlt
   have hk2 : l.length ≤ kk := by omega
   clear hlt
   go_wp2
   go_ret
   refine ⟨?_, BW.out⟩
   rw [idxOf_miss p l (fun j hj => AA.out j hj (by omega))]
   rfl
set_option maxHeartbeats 1000000 in
theorem cont156 (g : Nat) (lb : Array Value) (eg : ∀ args w, (callFunc g args).run Tryz.prog w = .ok (.enter g args) w) (p : S174 → Bool) (A : Option Addr) (c : Nat) (l : List S174) (w : World) (hr : Kd.C k174 w A l.length l) (hp : PredK k174 g lb p l w) :
 Calls Tryz.prog 156 #[.slice A l.length c, .func (.func g) #[] lb] w fun e w' => e = .returned (.bool (l.any p)) ∧ Below w.heap.size w w' := by
 have hcall := idx188 g lb eg p A c l w hr hp
 have hz := idxOf_nonneg p l
 clear hp hr
 generalize idxOf p l = z at hcall hz
 have Z := zk hz
 clear hz
 go_enter Tryz.func156, Tryz.ntmps156
 go_wp2_with (go_at_call 188; refine hcall.mono ?_; rintro e w' ⟨rfl, hb'⟩)
 go_ret
 refine ⟨?_, hb'⟩
 rw [← Z.out]
 rfl
set_option maxRecDepth 100000 in
set_option maxHeartbeats 1000000 in
theorem idx158 (g : Nat) (lb : Array Value) (eg : ∀ args w, (callFunc g args).run Tryz.prog w = .ok (.enter g args) w) (p : Int → Bool) (A : Option Addr) (c : Nat) (l : List Int) (w : World) (hr : Kd.C (Kd.int .i64) w A l.length l) (hp : PredI g lb p l w) :
 Calls Tryz.prog 158 #[.slice A l.length c, .func (.func g) #[] lb] w fun e w' => e = .returned (.int .i64 (idxOf p l)) ∧ Below w.heap.size w w' := by
 have hbig : l.length ≤ 9223372036854775807 := hr.2.1
 have HR := zk hr
 have HP := zk hp
 clear hr hp
 have hu := Tryz.underlying3
 go_enter Tryz.func158, Tryz.ntmps158
 go_wp2
 go_loopg [5, 8] l.length (fun gg _ s8 wr => ∃ kk : Nat, kk ≤ l.length ∧ l.length - kk ≤ gg ∧ s8 = .int .i64 kk ∧ Aside0 (Below w.heap.size w wr) ∧ Aside0 (∀ j, (hj : j < l.length) → j < kk → p l[j] = false))
 case atStart => exact ⟨0, Nat.zero_le _, by omega, rfl, ⟨Below.refl _ w⟩, ⟨fun j hj h => absurd h (Nat.not_lt_zero _)⟩⟩
 case round =>
  obtain ⟨kk, hkk, hg, rfl, BW, AA⟩ := hrel
  by_cases hlt : kk < l.length
  ·have hltz : (kk : Int) < (l.length : Int) := by omega
   obtain ⟨ad, e, h0⟩ := Kd.at_int (Kd.C_below HR.out BW.out) (kk : Int) (by omega) (by omega)
   cases e
   simp only [Int.toNat_natCast] at h0
   have hx : l[kk] = rd l (kk : Int) := by simp [rd, List.getD_eq_getElem?_getD, List.getElem?_eq_getElem hlt]
   obtain ⟨y, hy⟩ : ∃ y, rd l (kk : Int) = y := ⟨_, rfl⟩
   rw [hy] at h0 hx
   clear hy
   have hcall := HP.out wr y (by rw [← hx]; exact List.getElem_mem hlt) BW.out
   have B := zk hx
   skip
   clear hx
   cases hq : p y with
   |true =>
    rw [hq] at hcall
    go_wp2_with (go_at_fn g; refine hcall.mono ?_; rintro e w' ⟨rfl, hb'⟩)
    go_ret
    refine ⟨?_, BW.out.trans (hb'.mono BW.out.size)⟩
    rw [idxOf_hit p l kk hlt (by rw [B.out]; exact hq) (fun j hj => AA.out j (by omega) hj)]
    rfl
   |false =>
    rw [hq] at hcall
    go_wp2_with (go_at_fn g; refine hcall.mono ?_; rintro e w' ⟨rfl, hb'⟩)
    go_roundg (l.length - (kk + 1))
    case measure => omega
    case rel =>
     refine ⟨kk + 1, by omega, by omega, by go_num, ⟨BW.out.trans (hb'.mono BW.out.size)⟩, ⟨fun j hj hj2 => ?_⟩⟩
     by_cases e : j = kk
     ·subst e
      rw [B.out]; exact hq
     ·exact AA.out j hj (by omega)
  ·have hltz : decide ((kk : Int) < (l.length : Int)) = false := by simpa using hlt
   have hk2 : l.length ≤ kk := by omega
   clear hlt
   go_wp2
   go_ret
   refine ⟨?_, BW.out⟩
   rw [idxOf_miss p l (fun j hj => AA.out j hj (by omega))]
   rfl
set_option maxHeartbeats 1000000 in
theorem cont109 (g : Nat) (lb : Array Value) (eg : ∀ args w, (callFunc g args).run Tryz.prog w = .ok (.enter g args) w) (p : Int → Bool) (A : Option Addr) (c : Nat) (l : List Int) (w : World) (hr : Kd.C (Kd.int .i64) w A l.length l) (hp : PredI g lb p l w) :
 Calls Tryz.prog 109 #[.slice A l.length c, .func (.func g) #[] lb] w fun e w' => e = .returned (.bool (l.any p)) ∧ Below w.heap.size w w' := by
 have hcall := idx158 g lb eg p A c l w hr hp
 have hz := idxOf_nonneg p l
 clear hp hr
 generalize idxOf p l = z at hcall hz
 have Z := zk hz
 clear hz
 go_enter Tryz.func109, Tryz.ntmps109
 go_wp2_with (go_at_call 158; refine hcall.mono ?_; rintro e w' ⟨rfl, hb'⟩)
 go_ret
 refine ⟨?_, hb'⟩
 rw [← Z.out]
 rfl
end Go.Proofs.YtfijblhfgfefoaaGreatDoor.Rv
end
section
namespace Go.Proofs.YtfijblhfgfefoaaGreatDoor.Rv
open Go.RowKit Go.Shelf Go.IntWalk Go.Proofs.YtfijblhfgfefoaaGreatDoor.PAll Go.Proofs.YtfijblhfgfefoaaGreatDoorW.PrintWords Go.Proofs.YtfijblhfgfefoaaGreatDoorW.PrintLast
structure Same (w1 w2 : World) : Prop where
 cell : ∀ a, w2.cell? a = w1.cell? a
 frozen : ∀ a, w2.frozen? a = w1.frozen? a
 size : w2.heap.size = w1.heap.size
 heap : w2.heap = w1.heap
 below : ∀ n, Below n w1 w2
 drawn : ∃ q, w2 = w1.drewN q
theorem same_drew (w : World) : Same w { w with drawn := w.drawn + 1 } :=
 ⟨fun _ => rfl, fun _ => rfl, rfl, rfl, fun n => below_drew (Below.refl n w), ⟨1, rfl⟩⟩
theorem region_tail {P : Program} {id : Nat} {Q : Exit → Act → World → Prop} {a : Act} {w : World} {l : List Oper} (n : Nat) (hm : P.follows .mixedOrders = true) (hB : Region.lexTailB .any l.toArray n = true)
 (h : ∀ w2, Same w w2 → wpStill P l.toArray w2 (fun a' => wpList P l.toArray Q (l.drop n) a' w2) (l.take n) a) : (Code.region id l.toArray true).wp P Q a w :=
 wp_region_still_tail n hm hB (h _ (same_drew w))
theorem bt {w w1 w2 : World} (h : Below w.heap.size w w1) (k : Below w1.heap.size w1 w2) : Below w.heap.size w w2 := below_then h h.size k
theorem ret_bool {a b : Bool} (h : a = b) : Ending.returned (.bool a) = Ending.returned (.bool b) := by rw [h]
theorem ret_i64 {a b : Int} (h : a = b) : Ending.returned (.int .i64 a) = Ending.returned (.int .i64 b) := by rw [h]
theorem below1 {w : World} (o : Obj) : Below w.heap.size w (w.alloc o) := (Below.refl _ w).alloc (Nat.le_refl _) o
theorem in_q (x lo hi : Int) (w : World) : Calls Tryz.prog 86 #[.int .i64 x, .int .i64 lo, .int .i64 hi] w fun e w' => e = .returned (.bool (inB x lo hi)) ∧ w' = w :=
 (in_calls x lo hi w).mono fun _ _ h => ⟨h.1, h.2.symm⟩
def Raw (w : World) (A : Option Addr) (n sz : Nat) (cells : List Value) : Prop :=
 cells.length = n * sz ∧ (∀ u ∈ cells, u.oneCell' = true) ∧ (0 < n → ∃ ad, A = some ad ∧ ∀ j u, cells[j]? = some u → w.cell? (ad.add j) = some u)
theorem info41 : (Tryz.prog.info? 41).map (fun i => (i.zero, i.size, i.bytes)) = some (some (.slice none 0 0), 1, 24) := by kernel_rfl
theorem Raw.below {w w1 : World} {A : Option Addr} {n sz : Nat} {cells : List Value} (h : Raw w A n sz cells) (hb : Below w.heap.size w w1) : Raw w1 A n sz cells :=
 ⟨h.1, h.2.1, fun hn => by
  obtain ⟨ad, e, hc⟩ := h.2.2 hn
  exact ⟨ad, e, fun j u hu => pw_cell_below hb (hc j u hu)⟩⟩
theorem Raw.get {w : World} {ad : Addr} {n sz : Nat} {cells : List Value} (h : Raw w (some ad) n sz cells) (j : Nat) (u : Value) (hu : cells[j]? = some u) : w.cell? (ad.add j) = some u := by
 have hj := (List.getElem?_eq_some_iff.1 hu).1
 have hn : 0 < n := by
  rcases Nat.eq_zero_or_pos n with h0 | h0
  ·have := h.1; subst h0; simp at this; subst this; simp at hj
  ·exact h0
 obtain ⟨ad', e, hc⟩ := h.2.2 hn
 cases e
 exact hc j u hu
set_option maxHeartbeats 1000000 in
theorem clone88 (A : Option Addr) (n c : Nat) (cells : List Value) (w : World) (hR : Raw w A n 2 cells) (hb : n ≤ 1000000) :
 Calls Tryz.prog 88 #[.slice A n c] w fun e w' => ∃ v, e = .returned v ∧ w'.ownsRow w.heap.size 47 2 v n cells ∧ Below w.heap.size w w' := by
 cases A with
 |none =>
  have h0 : n = 0 := by
   rcases Nat.eq_zero_or_pos n with h0 | h0
   ·exact h0
   ·obtain ⟨ad, h, _⟩ := hR.2.2 h0
    cases h
  subst h0
  obtain rfl : cells = [] := List.eq_nil_of_length_eq_zero (by simpa using hR.1)
  clear hR
  have hnil := fun (W : World) (a : Option Addr) (n c n' c' : Nat) => Lib.run_eql_slice_nil W 41 47 a n c n' c' Tryz.underlying41
  go_enter Tryz.func88, Tryz.ntmps88
  go_wp2
  go_ret
  exact ⟨_, rfl, own_nil _ _ _ _, Below.refl _ _⟩
 |some ad =>
  have hnil := fun (W : World) (a : Option Addr) (n c n' c' : Nat) => Lib.run_eql_slice_nil W 41 47 a n c n' c' Tryz.underlying41
  obtain ⟨i0, hi, hzz⟩ := Option.map_eq_some_iff.1 info47
  simp only [Prod.mk.injEq] at hzz
  obtain ⟨hz0, hz1, hz2⟩ := hzz
  have HC := zk (Raw.get (hR.below (below1 (.cells #[] 47))))
  obtain ⟨hl, hone, _⟩ := hR
  have H1 := zk hone
  have HL := zk hl
  have HI := zk (And.intro hi (And.intro hz0 (And.intro hz1 hz2)))
  have HO := zk (World.ownsRow_lit (base := w.heap.size) (e := 47) (size := 2) w #[] 0 (Nat.le_refl _) (by simp [maxLen]) rfl)
  clear hone hl hi hz0 hz1 hz2
  go_enter Tryz.func88, Tryz.ntmps88
  go_wp2_with (at_builtin; (refine wpList_append_own _ rfl (.tmp 5) (.tmp 6) 41 rfl w.heap.size 47 i0 _ 2 16 Tryz.underlying41 HI.out.1 HI.out.2.1 HI.out.2.2.1 HI.out.2.2.2 rfl (by decide) _ 0 [] rfl HO.out ad n c cells rfl HL.out HC.out H1.out (by simp only [maxLen]; omega) (by omega) (by simp) ?_); intro v' w1 hown hg _)
  go_ret
  refine ⟨_, rfl, by simpa using hown, ?_⟩
  exact (below1 (w := w) (.cells #[] 47)).grown hg (by simp) (fun k hk => by cases hk; exact Nat.le_refl _)
set_option maxHeartbeats 1000000 in
theorem clone161 (A : Option Addr) (n c : Nat) (cells : List Value) (w : World) (hR : Raw w A n 1 cells) (hb : n ≤ 1000000) :
 Calls Tryz.prog 161 #[.slice A n c] w fun e w' => ∃ v, e = .returned v ∧ w'.ownsRow w.heap.size 3 1 v n cells ∧ Below w.heap.size w w' := by
 cases A with
 |none =>
  have h0 : n = 0 := by
   rcases Nat.eq_zero_or_pos n with h0 | h0
   ·exact h0
   ·obtain ⟨ad, h, _⟩ := hR.2.2 h0
    cases h
  subst h0
  obtain rfl : cells = [] := List.eq_nil_of_length_eq_zero (by simpa using hR.1)
  clear hR
  have hnil := fun (W : World) (a : Option Addr) (n c n' c' : Nat) => Lib.run_eql_slice_nil W 28 3 a n c n' c' Tryz.underlying28
  go_enter Tryz.func161, Tryz.ntmps161
  go_wp2
  go_ret
  exact ⟨_, rfl, own_nil _ _ _ _, Below.refl _ _⟩
 |some ad =>
  have hnil := fun (W : World) (a : Option Addr) (n c n' c' : Nat) => Lib.run_eql_slice_nil W 28 3 a n c n' c' Tryz.underlying28
  obtain ⟨i0, hi, hzz⟩ := Option.map_eq_some_iff.1 info3
  simp only [Prod.mk.injEq] at hzz
  obtain ⟨hz0, hz1, hz2⟩ := hzz
  have HC := zk (Raw.get (hR.below (below1 (.cells #[] 3))))
  obtain ⟨hl, hone, _⟩ := hR
  have H1 := zk hone
  have HL := zk hl
  have HI := zk (And.intro hi (And.intro hz0 (And.intro hz1 hz2)))
  have HO := zk (World.ownsRow_lit (base := w.heap.size) (e := 3) (size := 1) w #[] 0 (Nat.le_refl _) (by simp [maxLen]) rfl)
  clear hone hl hi hz0 hz1 hz2
  go_enter Tryz.func161, Tryz.ntmps161
  go_wp2_with (at_builtin; (refine wpList_append_own _ rfl (.tmp 5) (.tmp 6) 28 rfl w.heap.size 3 i0 _ 1 8 Tryz.underlying28 HI.out.1 HI.out.2.1 HI.out.2.2.1 HI.out.2.2.2 rfl (by decide) _ 0 [] rfl HO.out ad n c cells rfl HL.out HC.out H1.out (by simp only [maxLen]; omega) (by omega) (by simp) ?_); intro v' w1 hown hg _)
  go_ret
  refine ⟨_, rfl, by simpa using hown, ?_⟩
  exact (below1 (w := w) (.cells #[] 3)).grown hg (by simp) (fun k hk => by cases hk; exact Nat.le_refl _)
set_option maxHeartbeats 1000000 in
theorem clone180 (A : Option Addr) (n c : Nat) (cells : List Value) (w : World) (hR : Raw w A n 2 cells) (hb : n ≤ 1000000) :
 Calls Tryz.prog 180 #[.slice A n c] w fun e w' => ∃ v, e = .returned v ∧ w'.ownsRow w.heap.size 27 2 v n cells ∧ Below w.heap.size w w' := by
 cases A with
 |none =>
  have h0 : n = 0 := by
   rcases Nat.eq_zero_or_pos n with h0 | h0
   ·exact h0
   ·obtain ⟨ad, h, _⟩ := hR.2.2 h0
    cases h
  subst h0
  obtain rfl : cells = [] := List.eq_nil_of_length_eq_zero (by simpa using hR.1)
  clear hR
  have hnil := fun (W : World) (a : Option Addr) (n c n' c' : Nat) => Lib.run_eql_slice_nil W 31 27 a n c n' c' Tryz.underlying31
  go_enter Tryz.func180, Tryz.ntmps180
  go_wp2
  go_ret
  exact ⟨_, rfl, own_nil _ _ _ _, Below.refl _ _⟩
 |some ad =>
  have hnil := fun (W : World) (a : Option Addr) (n c n' c' : Nat) => Lib.run_eql_slice_nil W 31 27 a n c n' c' Tryz.underlying31
  obtain ⟨i0, hi, hzz⟩ := Option.map_eq_some_iff.1 info27
  simp only [Prod.mk.injEq] at hzz
  obtain ⟨hz0, hz1, hz2⟩ := hzz
  have HC := zk (Raw.get (hR.below (below1 (.cells #[] 27))))
  obtain ⟨hl, hone, _⟩ := hR
  have H1 := zk hone
  have HL := zk hl
  have HI := zk (And.intro hi (And.intro hz0 (And.intro hz1 hz2)))
  have HO := zk (World.ownsRow_lit (base := w.heap.size) (e := 27) (size := 2) w #[] 0 (Nat.le_refl _) (by simp [maxLen]) rfl)
  clear hone hl hi hz0 hz1 hz2
  go_enter Tryz.func180, Tryz.ntmps180
  go_wp2_with (at_builtin; (refine wpList_append_own _ rfl (.tmp 5) (.tmp 6) 31 rfl w.heap.size 27 i0 _ 2 16 Tryz.underlying31 HI.out.1 HI.out.2.1 HI.out.2.2.1 HI.out.2.2.2 rfl (by decide) _ 0 [] rfl HO.out ad n c cells rfl HL.out HC.out H1.out (by simp only [maxLen]; omega) (by omega) (by simp) ?_); intro v' w1 hown hg _)
  go_ret
  refine ⟨_, rfl, by simpa using hown, ?_⟩
  exact (below1 (w := w) (.cells #[] 27)).grown hg (by simp) (fun k hk => by cases hk; exact Nat.le_refl _)
set_option maxHeartbeats 1000000 in
theorem clone181 (A : Option Addr) (n c : Nat) (cells : List Value) (w : World) (hR : Raw w A n 1 cells) (hb : n ≤ 1000000) :
 Calls Tryz.prog 181 #[.slice A n c] w fun e w' => ∃ v, e = .returned v ∧ w'.ownsRow w.heap.size 41 1 v n cells ∧ Below w.heap.size w w' := by
 cases A with
 |none =>
  have h0 : n = 0 := by
   rcases Nat.eq_zero_or_pos n with h0 | h0
   ·exact h0
   ·obtain ⟨ad, h, _⟩ := hR.2.2 h0
    cases h
  subst h0
  obtain rfl : cells = [] := List.eq_nil_of_length_eq_zero (by simpa using hR.1)
  clear hR
  have hnil := fun (W : World) (a : Option Addr) (n c n' c' : Nat) => Lib.run_eql_slice_nil W 64 41 a n c n' c' Tryz.underlying64
  go_enter Tryz.func181, Tryz.ntmps181
  go_wp2
  go_ret
  exact ⟨_, rfl, own_nil _ _ _ _, Below.refl _ _⟩
 |some ad =>
  have hnil := fun (W : World) (a : Option Addr) (n c n' c' : Nat) => Lib.run_eql_slice_nil W 64 41 a n c n' c' Tryz.underlying64
  obtain ⟨i0, hi, hzz⟩ := Option.map_eq_some_iff.1 info41
  simp only [Prod.mk.injEq] at hzz
  obtain ⟨hz0, hz1, hz2⟩ := hzz
  have HC := zk (Raw.get (hR.below (below1 (.cells #[] 41))))
  obtain ⟨hl, hone, _⟩ := hR
  have H1 := zk hone
  have HL := zk hl
  have HI := zk (And.intro hi (And.intro hz0 (And.intro hz1 hz2)))
  have HO := zk (World.ownsRow_lit (base := w.heap.size) (e := 41) (size := 1) w #[] 0 (Nat.le_refl _) (by simp [maxLen]) rfl)
  clear hone hl hi hz0 hz1 hz2
  go_enter Tryz.func181, Tryz.ntmps181
  go_wp2_with (at_builtin; (refine wpList_append_own _ rfl (.tmp 5) (.tmp 6) 64 rfl w.heap.size 41 i0 _ 1 24 Tryz.underlying64 HI.out.1 HI.out.2.1 HI.out.2.2.1 HI.out.2.2.2 rfl (by decide) _ 0 [] rfl HO.out ad n c cells rfl HL.out HC.out H1.out (by simp only [maxLen]; omega) (by omega) (by simp) ?_); intro v' w1 hown hg _)
  go_ret
  refine ⟨_, rfl, by simpa using hown, ?_⟩
  exact (below1 (w := w) (.cells #[] 41)).grown hg (by simp) (fun k hk => by cases hk; exact Nat.le_refl _)
end Go.Proofs.YtfijblhfgfefoaaGreatDoor.Rv
end
