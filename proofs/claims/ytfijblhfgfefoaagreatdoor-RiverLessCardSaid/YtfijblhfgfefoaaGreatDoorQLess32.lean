/- A part of the proof: words, contracts of functions, and their walks. -/
import Derived.Test.YtfijblhfgfefoaaGreatDoorQLess3
import Derived.Test.YtfijblhfgfefoaaGreatDoorQLess31
set_option linter.unusedVariables false
set_option linter.unusedSimpArgs false
section
namespace Go.Proofs.YtfijblhfgfefoaaGreatDoor.Rv
open Go.RowKit Go.Shelf Go.IntWalk Go.Proofs.YtfijblhfgfefoaaGreatDoor.PAll Go.Proofs.YtfijblhfgfefoaaGreatDoorW.PrintWords Go.Proofs.YtfijblhfgfefoaaGreatDoorW.PrintLast
set_option maxRecDepth 100000 in
set_option maxHeartbeats 2000000 in
theorem Length_err (years : Int) (A1 : Option Addr) (c1 : Nat) (rivers : List S43) (n a b : Int) (w : World) (hr1 : Kd.C k43 w A1 rivers.length rivers)
 (h : (isBookB years rivers && inB n 0 ((rivers.length : Int) - 1) && inB a 0 (years - 1) && inB b 0 (years - 1) && !(decide (b < a))) = false) :
 Calls Tryz.prog 38 #[.agg #[.int .i64 years, .slice A1 rivers.length c1], .int .i64 n, .int .i64 a, .int .i64 b] w fun e w' =>
  e = .returned (.tuple #[.agg #[.int .i64 0, .int .i64 0], .int .i64 2]) ∧ Below w.heap.size w w' := by
 have hu24 := Tryz.underlying24
 have hu47 := Tryz.underlying47
 have HR1 := zk hr1
 have hlen := Kd.C_max hr1
 have E79 := zk (fun (W : World) (h : Kd.C k43 W A1 rivers.length rivers) => isBook_calls years A1 c1 rivers W h)
 have E96 := zk (fun (W : World) => (isRiver_calls years n A1 c1 rivers.length W (by omega)).mono (fun e w' h => And.intro h.1 (show Below W.heap.size W w' by rw [h.2]; exact below1 _)))
 clear hr1
 cases hb1 : isBookB years rivers with
 |false =>
  rw [hb1] at E79
  clear hb1 h E96
  go_enter Tryz.func38, Tryz.ntmps38
  go_wp2_with (first
   |(go_at_call 79
     (with_reducible refine (E79.out _ (Kd.C_alloc (Kd.C_alloc HR1.out _) _)).mono ?_)
     rintro e w2 ⟨rfl, hB⟩
     have HB := zk (bt ((below1 (w := w) (.cells #[.int .i64 years, .slice A1 rivers.length c1] 24)).alloc (by simp) (.cells #[.int .i64 0, .int .i64 0] 47)) hB)
     have H4 := zk (blk_below (blk_alloc (blk_new w (.cells #[.int .i64 years, .slice A1 rivers.length c1] 24)) (.cells #[.int .i64 0, .int .i64 0] 47)) hB)
     have h8 := blk_below (blk_new (w.alloc (.cells #[.int .i64 years, .slice A1 rivers.length c1] 24)) (.cells #[.int .i64 0, .int .i64 0] 47)) hB
     simp only [World.size_alloc] at h8
     obtain ⟨p4, e4⟩ : ∃ p4, p4 = w.heap.size := ⟨_, rfl⟩
     obtain ⟨p8, e8⟩ : ∃ p8, p8 = w.heap.size + 1 := ⟨_, rfl⟩
     rw [← e4] at H4
     rw [← e8] at h8
     rw [← e8, ← e4]
     have H8 := zk h8
     have HP := zk (show w.heap.size ≤ p4 ∧ w.heap.size ≤ p8 by omega)
     clear hB e4 e8 h8
     obtain ⟨c_p4_0, f_p4_0, c_p4_1, f_p4_1, l_p4⟩ := cl2 (W := w2) (p := p4) (a := .int .i64 years) (b := .slice A1 rivers.length c1) H4.out
     obtain ⟨c_p8_0, f_p8_0, c_p8_1, f_p8_1, l_p8⟩ := cl2 (W := w2) (p := p8) (a := .int .i64 0) (b := .int .i64 0) H8.out
     skip)
   |(go_at_call 96
     (with_reducible refine (E96.out _).mono ?_)
     rintro e w3 ⟨rfl, hB⟩
     replace HB := zk (bt HB.out hB)
     replace H4 := zk (blk_below H4.out hB)
     replace H8 := zk (blk_below H8.out hB)
     clear hB
     clear c_p4_0 f_p4_0 c_p4_1 f_p4_1 l_p4 c_p8_0 f_p8_0 c_p8_1 f_p8_1 l_p8
     obtain ⟨c_p4_0, f_p4_0, c_p4_1, f_p4_1, l_p4⟩ := cl2 (W := w3) (p := p4) (a := .int .i64 years) (b := .slice A1 rivers.length c1) H4.out
     obtain ⟨c_p8_0, f_p8_0, c_p8_1, f_p8_1, l_p8⟩ := cl2 (W := w3) (p := p8) (a := .int .i64 0) (b := .int .i64 0) H8.out
     skip)
   |(go_at_call 97
     first
      |(with_reducible refine (E97a.out _).mono ?_)
      |(with_reducible refine (E97b.out _).mono ?_)
     rintro e w3 ⟨rfl, hB⟩
     replace HB := zk (bt HB.out hB)
     replace H4 := zk (blk_below H4.out hB)
     replace H8 := zk (blk_below H8.out hB)
     clear hB
     clear c_p4_0 f_p4_0 c_p4_1 f_p4_1 l_p4 c_p8_0 f_p8_0 c_p8_1 f_p8_1 l_p8
     obtain ⟨c_p4_0, f_p4_0, c_p4_1, f_p4_1, l_p4⟩ := cl2 (W := w3) (p := p4) (a := .int .i64 years) (b := .slice A1 rivers.length c1) H4.out
     obtain ⟨c_p8_0, f_p8_0, c_p8_1, f_p8_1, l_p8⟩ := cl2 (W := w3) (p := p8) (a := .int .i64 0) (b := .int .i64 0) H8.out
     skip))
  have h4 := blk_put (blk_put H8.out 0 (.int .i64 0) rfl) 1 (.int .i64 0) rfl
  refine bodyPost_ret (results_ct rfl _ _ p8 47 #[.int .i64 0, .int .i64 0] (0, 0) _ rfl h4 Tryz.underlying47 rfl (by kernel_rfl)) rfl ⟨rfl, ?_⟩
  exact below_set (below_set HB.out HP.out.2) HP.out.2
 |true =>
  obtain ⟨hy, _, _⟩ := book_facts hb1
  have E97a := zk (fun (W : World) => (isYear_calls years a hy A1 c1 rivers.length W).mono (fun e w' h => And.intro h.1 (show Below W.heap.size W w' by rw [h.2]; exact below1 _)))
  have E97b := zk (fun (W : World) => (isYear_calls years b hy A1 c1 rivers.length W).mono (fun e w' h => And.intro h.1 (show Below W.heap.size W w' by rw [h.2]; exact below1 _)))
  rw [hb1] at E79 h
  rw [Bool.true_and] at h
  clear hb1 hy
  generalize inB n 0 ((rivers.length : Int) - 1) = b2 at E96 h
  generalize inB a 0 (years - 1) = b3 at E97a h
  generalize inB b 0 (years - 1) = b4 at E97b h
  cases b2 with
  |false =>
   clear h
   go_enter Tryz.func38, Tryz.ntmps38
   go_wp2_with (first
    |(go_at_call 79
      (with_reducible refine (E79.out _ (Kd.C_alloc (Kd.C_alloc HR1.out _) _)).mono ?_)
      rintro e w2 ⟨rfl, hB⟩
      have HB := zk (bt ((below1 (w := w) (.cells #[.int .i64 years, .slice A1 rivers.length c1] 24)).alloc (by simp) (.cells #[.int .i64 0, .int .i64 0] 47)) hB)
      have H4 := zk (blk_below (blk_alloc (blk_new w (.cells #[.int .i64 years, .slice A1 rivers.length c1] 24)) (.cells #[.int .i64 0, .int .i64 0] 47)) hB)
      have h8 := blk_below (blk_new (w.alloc (.cells #[.int .i64 years, .slice A1 rivers.length c1] 24)) (.cells #[.int .i64 0, .int .i64 0] 47)) hB
      simp only [World.size_alloc] at h8
      obtain ⟨p4, e4⟩ : ∃ p4, p4 = w.heap.size := ⟨_, rfl⟩
      obtain ⟨p8, e8⟩ : ∃ p8, p8 = w.heap.size + 1 := ⟨_, rfl⟩
      rw [← e4] at H4
      rw [← e8] at h8
      rw [← e8, ← e4]
      have H8 := zk h8
      have HP := zk (show w.heap.size ≤ p4 ∧ w.heap.size ≤ p8 by omega)
      clear hB e4 e8 h8
      obtain ⟨c_p4_0, f_p4_0, c_p4_1, f_p4_1, l_p4⟩ := cl2 (W := w2) (p := p4) (a := .int .i64 years) (b := .slice A1 rivers.length c1) H4.out
      obtain ⟨c_p8_0, f_p8_0, c_p8_1, f_p8_1, l_p8⟩ := cl2 (W := w2) (p := p8) (a := .int .i64 0) (b := .int .i64 0) H8.out
      skip)
    |(go_at_call 96
      (with_reducible refine (E96.out _).mono ?_)
      rintro e w3 ⟨rfl, hB⟩
      replace HB := zk (bt HB.out hB)
      replace H4 := zk (blk_below H4.out hB)
      replace H8 := zk (blk_below H8.out hB)
      clear hB
      clear c_p4_0 f_p4_0 c_p4_1 f_p4_1 l_p4 c_p8_0 f_p8_0 c_p8_1 f_p8_1 l_p8
      obtain ⟨c_p4_0, f_p4_0, c_p4_1, f_p4_1, l_p4⟩ := cl2 (W := w3) (p := p4) (a := .int .i64 years) (b := .slice A1 rivers.length c1) H4.out
      obtain ⟨c_p8_0, f_p8_0, c_p8_1, f_p8_1, l_p8⟩ := cl2 (W := w3) (p := p8) (a := .int .i64 0) (b := .int .i64 0) H8.out
      skip)
    |(go_at_call 97
      first
       |(with_reducible refine (E97a.out _).mono ?_)
       |(with_reducible refine (E97b.out _).mono ?_)
      rintro e w3 ⟨rfl, hB⟩
      replace HB := zk (bt HB.out hB)
      replace H4 := zk (blk_below H4.out hB)
      replace H8 := zk (blk_below H8.out hB)
      clear hB
      clear c_p4_0 f_p4_0 c_p4_1 f_p4_1 l_p4 c_p8_0 f_p8_0 c_p8_1 f_p8_1 l_p8
      obtain ⟨c_p4_0, f_p4_0, c_p4_1, f_p4_1, l_p4⟩ := cl2 (W := w3) (p := p4) (a := .int .i64 years) (b := .slice A1 rivers.length c1) H4.out
      obtain ⟨c_p8_0, f_p8_0, c_p8_1, f_p8_1, l_p8⟩ := cl2 (W := w3) (p := p8) (a := .int .i64 0) (b := .int .i64 0) H8.out
      skip))
   have h4 := blk_put (blk_put H8.out 0 (.int .i64 0) rfl) 1 (.int .i64 0) rfl
   refine bodyPost_ret (results_ct rfl _ _ p8 47 #[.int .i64 0, .int .i64 0] (0, 0) _ rfl h4 Tryz.underlying47 rfl (by kernel_rfl)) rfl ⟨rfl, ?_⟩
   exact below_set (below_set HB.out HP.out.2) HP.out.2
  |true =>
   cases b3 with
   |false =>
    clear h
    go_enter Tryz.func38, Tryz.ntmps38
    go_wp2_with (first
     |(go_at_call 79
       (with_reducible refine (E79.out _ (Kd.C_alloc (Kd.C_alloc HR1.out _) _)).mono ?_)
       rintro e w2 ⟨rfl, hB⟩
       have HB := zk (bt ((below1 (w := w) (.cells #[.int .i64 years, .slice A1 rivers.length c1] 24)).alloc (by simp) (.cells #[.int .i64 0, .int .i64 0] 47)) hB)
       have H4 := zk (blk_below (blk_alloc (blk_new w (.cells #[.int .i64 years, .slice A1 rivers.length c1] 24)) (.cells #[.int .i64 0, .int .i64 0] 47)) hB)
       have h8 := blk_below (blk_new (w.alloc (.cells #[.int .i64 years, .slice A1 rivers.length c1] 24)) (.cells #[.int .i64 0, .int .i64 0] 47)) hB
       simp only [World.size_alloc] at h8
       obtain ⟨p4, e4⟩ : ∃ p4, p4 = w.heap.size := ⟨_, rfl⟩
       obtain ⟨p8, e8⟩ : ∃ p8, p8 = w.heap.size + 1 := ⟨_, rfl⟩
       rw [← e4] at H4
       rw [← e8] at h8
       rw [← e8, ← e4]
       have H8 := zk h8
       have HP := zk (show w.heap.size ≤ p4 ∧ w.heap.size ≤ p8 by omega)
       clear hB e4 e8 h8
       obtain ⟨c_p4_0, f_p4_0, c_p4_1, f_p4_1, l_p4⟩ := cl2 (W := w2) (p := p4) (a := .int .i64 years) (b := .slice A1 rivers.length c1) H4.out
       obtain ⟨c_p8_0, f_p8_0, c_p8_1, f_p8_1, l_p8⟩ := cl2 (W := w2) (p := p8) (a := .int .i64 0) (b := .int .i64 0) H8.out
       skip)
     |(go_at_call 96
       (with_reducible refine (E96.out _).mono ?_)
       rintro e w3 ⟨rfl, hB⟩
       replace HB := zk (bt HB.out hB)
       replace H4 := zk (blk_below H4.out hB)
       replace H8 := zk (blk_below H8.out hB)
       clear hB
       clear c_p4_0 f_p4_0 c_p4_1 f_p4_1 l_p4 c_p8_0 f_p8_0 c_p8_1 f_p8_1 l_p8
       obtain ⟨c_p4_0, f_p4_0, c_p4_1, f_p4_1, l_p4⟩ := cl2 (W := w3) (p := p4) (a := .int .i64 years) (b := .slice A1 rivers.length c1) H4.out
       obtain ⟨c_p8_0, f_p8_0, c_p8_1, f_p8_1, l_p8⟩ := cl2 (W := w3) (p := p8) (a := .int .i64 0) (b := .int .i64 0) H8.out
       skip)
     |(go_at_call 97
       first
        |(with_reducible refine (E97a.out _).mono ?_)
        |(with_reducible refine (E97b.out _).mono ?_)
       rintro e w3 ⟨rfl, hB⟩
       replace HB := zk (bt HB.out hB)
       replace H4 := zk (blk_below H4.out hB)
       replace H8 := zk (blk_below H8.out hB)
       clear hB
       clear c_p4_0 f_p4_0 c_p4_1 f_p4_1 l_p4 c_p8_0 f_p8_0 c_p8_1 f_p8_1 l_p8
       obtain ⟨c_p4_0, f_p4_0, c_p4_1, f_p4_1, l_p4⟩ := cl2 (W := w3) (p := p4) (a := .int .i64 years) (b := .slice A1 rivers.length c1) H4.out
       obtain ⟨c_p8_0, f_p8_0, c_p8_1, f_p8_1, l_p8⟩ := cl2 (W := w3) (p := p8) (a := .int .i64 0) (b := .int .i64 0) H8.out
       skip))
    have h4 := blk_put (blk_put H8.out 0 (.int .i64 0) rfl) 1 (.int .i64 0) rfl
    refine bodyPost_ret (results_ct rfl _ _ p8 47 #[.int .i64 0, .int .i64 0] (0, 0) _ rfl h4 Tryz.underlying47 rfl (by kernel_rfl)) rfl ⟨rfl, ?_⟩
    exact below_set (below_set HB.out HP.out.2) HP.out.2
   |true =>
    cases b4 with
    |false =>
     clear h
     go_enter Tryz.func38, Tryz.ntmps38
     go_wp2_with (first
      |(go_at_call 79
        (with_reducible refine (E79.out _ (Kd.C_alloc (Kd.C_alloc HR1.out _) _)).mono ?_)
        rintro e w2 ⟨rfl, hB⟩
        have HB := zk (bt ((below1 (w := w) (.cells #[.int .i64 years, .slice A1 rivers.length c1] 24)).alloc (by simp) (.cells #[.int .i64 0, .int .i64 0] 47)) hB)
        have H4 := zk (blk_below (blk_alloc (blk_new w (.cells #[.int .i64 years, .slice A1 rivers.length c1] 24)) (.cells #[.int .i64 0, .int .i64 0] 47)) hB)
        have h8 := blk_below (blk_new (w.alloc (.cells #[.int .i64 years, .slice A1 rivers.length c1] 24)) (.cells #[.int .i64 0, .int .i64 0] 47)) hB
        simp only [World.size_alloc] at h8
        obtain ⟨p4, e4⟩ : ∃ p4, p4 = w.heap.size := ⟨_, rfl⟩
        obtain ⟨p8, e8⟩ : ∃ p8, p8 = w.heap.size + 1 := ⟨_, rfl⟩
        rw [← e4] at H4
        rw [← e8] at h8
        rw [← e8, ← e4]
        have H8 := zk h8
        have HP := zk (show w.heap.size ≤ p4 ∧ w.heap.size ≤ p8 by omega)
        clear hB e4 e8 h8
        obtain ⟨c_p4_0, f_p4_0, c_p4_1, f_p4_1, l_p4⟩ := cl2 (W := w2) (p := p4) (a := .int .i64 years) (b := .slice A1 rivers.length c1) H4.out
        obtain ⟨c_p8_0, f_p8_0, c_p8_1, f_p8_1, l_p8⟩ := cl2 (W := w2) (p := p8) (a := .int .i64 0) (b := .int .i64 0) H8.out
        skip)
      |(go_at_call 96
        (with_reducible refine (E96.out _).mono ?_)
        rintro e w3 ⟨rfl, hB⟩
        replace HB := zk (bt HB.out hB)
        replace H4 := zk (blk_below H4.out hB)
        replace H8 := zk (blk_below H8.out hB)
        clear hB
        clear c_p4_0 f_p4_0 c_p4_1 f_p4_1 l_p4 c_p8_0 f_p8_0 c_p8_1 f_p8_1 l_p8
        obtain ⟨c_p4_0, f_p4_0, c_p4_1, f_p4_1, l_p4⟩ := cl2 (W := w3) (p := p4) (a := .int .i64 years) (b := .slice A1 rivers.length c1) H4.out
        obtain ⟨c_p8_0, f_p8_0, c_p8_1, f_p8_1, l_p8⟩ := cl2 (W := w3) (p := p8) (a := .int .i64 0) (b := .int .i64 0) H8.out
        skip)
      |(go_at_call 97
        first
         |(with_reducible refine (E97a.out _).mono ?_)
         |(with_reducible refine (E97b.out _).mono ?_)
        rintro e w3 ⟨rfl, hB⟩
        replace HB := zk (bt HB.out hB)
        replace H4 := zk (blk_below H4.out hB)
        replace H8 := zk (blk_below H8.out hB)
        clear hB
        clear c_p4_0 f_p4_0 c_p4_1 f_p4_1 l_p4 c_p8_0 f_p8_0 c_p8_1 f_p8_1 l_p8
        obtain ⟨c_p4_0, f_p4_0, c_p4_1, f_p4_1, l_p4⟩ := cl2 (W := w3) (p := p4) (a := .int .i64 years) (b := .slice A1 rivers.length c1) H4.out
        obtain ⟨c_p8_0, f_p8_0, c_p8_1, f_p8_1, l_p8⟩ := cl2 (W := w3) (p := p8) (a := .int .i64 0) (b := .int .i64 0) H8.out
        skip))
     have h4 := blk_put (blk_put H8.out 0 (.int .i64 0) rfl) 1 (.int .i64 0) rfl
     refine bodyPost_ret (results_ct rfl _ _ p8 47 #[.int .i64 0, .int .i64 0] (0, 0) _ rfl h4 Tryz.underlying47 rfl (by kernel_rfl)) rfl ⟨rfl, ?_⟩
     exact below_set (below_set HB.out HP.out.2) HP.out.2
    |true =>
     have hab : decide (b < a) = true := by simpa using h
     clear h
     go_enter Tryz.func38, Tryz.ntmps38
     go_wp2_with (first
      |(go_at_call 79
        (with_reducible refine (E79.out _ (Kd.C_alloc (Kd.C_alloc HR1.out _) _)).mono ?_)
        rintro e w2 ⟨rfl, hB⟩
        have HB := zk (bt ((below1 (w := w) (.cells #[.int .i64 years, .slice A1 rivers.length c1] 24)).alloc (by simp) (.cells #[.int .i64 0, .int .i64 0] 47)) hB)
        have H4 := zk (blk_below (blk_alloc (blk_new w (.cells #[.int .i64 years, .slice A1 rivers.length c1] 24)) (.cells #[.int .i64 0, .int .i64 0] 47)) hB)
        have h8 := blk_below (blk_new (w.alloc (.cells #[.int .i64 years, .slice A1 rivers.length c1] 24)) (.cells #[.int .i64 0, .int .i64 0] 47)) hB
        simp only [World.size_alloc] at h8
        obtain ⟨p4, e4⟩ : ∃ p4, p4 = w.heap.size := ⟨_, rfl⟩
        obtain ⟨p8, e8⟩ : ∃ p8, p8 = w.heap.size + 1 := ⟨_, rfl⟩
        rw [← e4] at H4
        rw [← e8] at h8
        rw [← e8, ← e4]
        have H8 := zk h8
        have HP := zk (show w.heap.size ≤ p4 ∧ w.heap.size ≤ p8 by omega)
        clear hB e4 e8 h8
        obtain ⟨c_p4_0, f_p4_0, c_p4_1, f_p4_1, l_p4⟩ := cl2 (W := w2) (p := p4) (a := .int .i64 years) (b := .slice A1 rivers.length c1) H4.out
        obtain ⟨c_p8_0, f_p8_0, c_p8_1, f_p8_1, l_p8⟩ := cl2 (W := w2) (p := p8) (a := .int .i64 0) (b := .int .i64 0) H8.out
        skip)
      |(go_at_call 96
        (with_reducible refine (E96.out _).mono ?_)
        rintro e w3 ⟨rfl, hB⟩
        replace HB := zk (bt HB.out hB)
        replace H4 := zk (blk_below H4.out hB)
        replace H8 := zk (blk_below H8.out hB)
        clear hB
        clear c_p4_0 f_p4_0 c_p4_1 f_p4_1 l_p4 c_p8_0 f_p8_0 c_p8_1 f_p8_1 l_p8
        obtain ⟨c_p4_0, f_p4_0, c_p4_1, f_p4_1, l_p4⟩ := cl2 (W := w3) (p := p4) (a := .int .i64 years) (b := .slice A1 rivers.length c1) H4.out
        obtain ⟨c_p8_0, f_p8_0, c_p8_1, f_p8_1, l_p8⟩ := cl2 (W := w3) (p := p8) (a := .int .i64 0) (b := .int .i64 0) H8.out
        skip)
      |(go_at_call 97
        first
         |(with_reducible refine (E97a.out _).mono ?_)
         |(with_reducible refine (E97b.out _).mono ?_)
        rintro e w3 ⟨rfl, hB⟩
        replace HB := zk (bt HB.out hB)
        replace H4 := zk (blk_below H4.out hB)
        replace H8 := zk (blk_below H8.out hB)
        clear hB
        clear c_p4_0 f_p4_0 c_p4_1 f_p4_1 l_p4 c_p8_0 f_p8_0 c_p8_1 f_p8_1 l_p8
        obtain ⟨c_p4_0, f_p4_0, c_p4_1, f_p4_1, l_p4⟩ := cl2 (W := w3) (p := p4) (a := .int .i64 years) (b := .slice A1 rivers.length c1) H4.out
        obtain ⟨c_p8_0, f_p8_0, c_p8_1, f_p8_1, l_p8⟩ := cl2 (W := w3) (p := p8) (a := .int .i64 0) (b := .int .i64 0) H8.out
        skip))
     have h4 := blk_put (blk_put H8.out 0 (.int .i64 0) rfl) 1 (.int .i64 0) rfl
     refine bodyPost_ret (results_ct rfl _ _ p8 47 #[.int .i64 0, .int .i64 0] (0, 0) _ rfl h4 Tryz.underlying47 rfl (by kernel_rfl)) rfl ⟨rfl, ?_⟩
     exact below_set (below_set HB.out HP.out.2) HP.out.2
end Go.Proofs.YtfijblhfgfefoaaGreatDoor.Rv
namespace Go.Proofs.YtfijblhfgfefoaaGreatDoor.PAll
open Go.RowKit Go.Proofs.YtfijblhfgfefoaaGreatDoor.Rv Go.Proofs.YtfijblhfgfefoaaGreatDoorW.PrintWords Go.Proofs.YtfijblhfgfefoaaGreatDoorW.PrintLast
def lengthOk (years : Int) (rivers : List S43) (n a b : Int) : Bool := isBookB years rivers && inB n 0 ((rivers.length : Int) - 1) && inB a 0 (years - 1) && inB b 0 (years - 1) && !(decide (b < a))
def river_Length.f (a0_0 : Int) (l0_1 : List (S43)) (a1 : Int) (a2 : Int) (a3 : Int) : Option (Int × Int × Int) :=
 if lengthOk a0_0 l0_1 a1 a2 a3 = true then some (sumF (leastY (rd_T43 l0_1 a1)) a2 (a3 + 1 - a2).toNat, sumF (greatY (rd_T43 l0_1 a1)) a2 (a3 + 1 - a2).toNat, 0) else some (0, 0, 2)
theorem river_Length.calls (a0_0 : Int) (A0_1 : Option Addr) (c0_1 : Nat) (l0_1 : List (S43)) (a1 : Int) (a2 : Int) (a3 : Int) (r1 : Int) (r2 : Int) (r3 : Int) (w : World) (hr0_1 : Kd.C k43 w A0_1 l0_1.length l0_1) (hc0_1 : l0_1.length ≤ c0_1) (h : river_Length.f a0_0 l0_1 a1 a2 a3 = some (r1, r2, r3)) :
 Calls Tryz.prog 38 #[.agg #[.int .i64 a0_0, .slice A0_1 l0_1.length c0_1], .int .i64 a1, .int .i64 a2, .int .i64 a3] w fun e w' => e = .returned (.tuple #[.agg #[.int .i64 r1, .int .i64 r2], .int .i64 r3]) ∧ Below w.heap.size w w' := by
 unfold river_Length.f at h
 split at h
 ·rename_i hc
  cases h
  unfold lengthOk at hc
  simp only [Bool.and_eq_true, Bool.not_eq_true', decide_eq_false_iff_not, inB_iff] at hc
  exact Length_ok _ _ _ _ _ _ _ _ hr0_1 hc0_1 hc.1.1.1.1 hc.1.1.1.2 hc.1.1.2 hc.1.2 (by omega)
 ·rename_i hc
  cases h
  exact Length_err _ _ _ _ _ _ _ _ hr0_1 (by simpa [lengthOk] using hc)
end Go.Proofs.YtfijblhfgfefoaaGreatDoor.PAll
end
