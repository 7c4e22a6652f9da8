-- PRINTED by print.py (a twelfth state) out of the translation. Not trusted: Lean checks it.
import Derived.Test.YthkheemjgcbofaaDoorPScx0
import Derived.Test.YthkheemjgcbofaaDoorPScx1
import Derived.Test.YthkheemjgcbofaaDoorPScx4
namespace Go.Proofs.YthkheemjgcbofaaDoor.PSc
open Go.RowKit Go.Proofs.YthkheemjgcbofaaDoorW.PrintWords Go.Proofs.YthkheemjgcbofaaDoorW.PrintLast Go.Proofs.YthkheemjgcbofaaDoorW.PrintMore
attribute [local go_sem] max2_int min2_int max_two min_two max_three min_three max_four min_four   -- for this text's walks alone
set_option linter.unusedVariables false
set_option linter.unusedSimpArgs false

attribute [local go_sem high] eqA24
/-! ### gazetteerref26_Same: function 12 -/
mutual
def gazetteerref26_Same.j0 : Nat → Bool → Int → Int → List (S46) → Int → Int → List (S46) → Option (Bool)
  | 0, _, _, _, _, _, _, _ => none
  | k + 1, x19, x131000, x131001, x131002, x132000, x132001, x132002 => if x19 = true then (some false) else (gazetteerref26_Same.l0 k (x131002.length : Int) 0 x131000 x131001 x131002 x132000 x132001 x132002)
def gazetteerref26_Same.l0 : Nat → Int → Int → Int → Int → List (S46) → Int → Int → List (S46) → Option (Bool)
  | 0, _, _, _, _, _, _, _, _ => none
  | k + 1, x22, x23, x131000, x131001, x131002, x132000, x132001, x132002 => if x23 < x22 then (if 0 ≤ x23 then (if x23 < (x131002.length : Int) then (if x23 < (x132002.length : Int) then ((gazetteerref26_same.f k ((rd_T46 x131002 x23).f0) ((rd_T46 x131002 x23).f1) ((rd_T46 x131002 x23).f2.f0) ((rd_T46 x131002 x23).f2.f1) ((rd_T46 x131002 x23).f2.f2) ((rd_T46 x131002 x23).f2.f3.f0) ((rd_T46 x131002 x23).f2.f3.f1) ((rd_T46 x131002 x23).f2.f3.f2) ((rd_T46 x131002 x23).f2.f3.f3) ((rd_T46 x131002 x23).f2.f4) ((rd_T46 x131002 x23).f3) ((rd_T46 x131002 x23).f4) ((rd_T46 x132002 x23).f0) ((rd_T46 x132002 x23).f1) ((rd_T46 x132002 x23).f2.f0) ((rd_T46 x132002 x23).f2.f1) ((rd_T46 x132002 x23).f2.f2) ((rd_T46 x132002 x23).f2.f3.f0) ((rd_T46 x132002 x23).f2.f3.f1) ((rd_T46 x132002 x23).f2.f3.f2) ((rd_T46 x132002 x23).f2.f3.f3) ((rd_T46 x132002 x23).f2.f4) ((rd_T46 x132002 x23).f3) ((rd_T46 x132002 x23).f4)).bind fun t134 => (if t134 = true then (gazetteerref26_Same.l0 k x22 (wrap64 (x23 + 1)) x131000 x131001 x131002 x132000 x132001 x132002) else (some false))) else (none)) else (none)) else (none)) else (some true)
end
def gazetteerref26_Same.f (k : Nat) (a0_0 : Int) (a0_1 : Int) (l0_2 : List (S46)) (a1_0 : Int) (a1_1 : Int) (l1_2 : List (S46)) : Option (Bool) := if (!(a0_0 == a1_0) || (!(a0_1 == a1_1))) = true then (gazetteerref26_Same.j0 k true a0_0 a0_1 l0_2 a1_0 a1_1 l1_2) else (gazetteerref26_Same.j0 k ((l0_2.length : Int) != (l1_2.length : Int)) a0_0 a0_1 l0_2 a1_0 a1_1 l1_2)
theorem gazetteerref26_Same.mono_l : ∀ k, (∀ y0 y1 y2 y3 y4 y5 y6, LeO (gazetteerref26_Same.j0 k y0 y1 y2 y3 y4 y5 y6) (gazetteerref26_Same.j0 (k + 1) y0 y1 y2 y3 y4 y5 y6)) ∧ (∀ y0 y1 y2 y3 y4 y5 y6 y7, LeO (gazetteerref26_Same.l0 k y0 y1 y2 y3 y4 y5 y6 y7) (gazetteerref26_Same.l0 (k + 1) y0 y1 y2 y3 y4 y5 y6 y7))
  | 0 => ⟨fun _ _ _ _ _ _ _ r h => by simp [gazetteerref26_Same.j0] at h, fun _ _ _ _ _ _ _ _ r h => by simp [gazetteerref26_Same.l0] at h⟩
  | k + 1 => by
    obtain ⟨ih0, ih1⟩ := gazetteerref26_Same.mono_l k
    refine ⟨?_, ?_⟩
    · intro y0 y1 y2 y3 y4 y5 y6
      unfold gazetteerref26_Same.j0
      repeat' first
      | (with_reducible exact ih0 _ _ _ _ _ _ _)
      | (with_reducible exact ih1 _ _ _ _ _ _ _ _)
      | (with_reducible exact gazetteerref26_same.mono _ _ _ _ _ _ _ _ _ _ _ _ _ _ _ _ _ _ _ _ _ _ _ _ _)
      | (with_reducible exact LeO.refl _)
      | (with_reducible exact LeO.none _)
      | (with_reducible refine LeO.ite ?_ ?_)
      | (with_reducible refine LeO.bind ?_ (fun _ => ?_))
      | exact ih0 _ _ _ _ _ _ _
      | exact ih1 _ _ _ _ _ _ _ _
      | exact gazetteerref26_same.mono _ _ _ _ _ _ _ _ _ _ _ _ _ _ _ _ _ _ _ _ _ _ _ _ _
      | exact LeO.none _
      | refine LeO.ite ?_ ?_
      | refine LeO.bind ?_ (fun _ => ?_)
    · intro y0 y1 y2 y3 y4 y5 y6 y7
      unfold gazetteerref26_Same.l0
      repeat' first
      | (with_reducible exact ih0 _ _ _ _ _ _ _)
      | (with_reducible exact ih1 _ _ _ _ _ _ _ _)
      | (with_reducible exact gazetteerref26_same.mono _ _ _ _ _ _ _ _ _ _ _ _ _ _ _ _ _ _ _ _ _ _ _ _ _)
      | (with_reducible exact LeO.refl _)
      | (with_reducible exact LeO.none _)
      | (with_reducible refine LeO.ite ?_ ?_)
      | (with_reducible refine LeO.bind ?_ (fun _ => ?_))
      | exact ih0 _ _ _ _ _ _ _
      | exact ih1 _ _ _ _ _ _ _ _
      | exact gazetteerref26_same.mono _ _ _ _ _ _ _ _ _ _ _ _ _ _ _ _ _ _ _ _ _ _ _ _ _
      | exact LeO.none _
      | refine LeO.ite ?_ ?_
      | refine LeO.bind ?_ (fun _ => ?_)
theorem gazetteerref26_Same.mono : ∀ a0 a1 a2 a3 a4 a5 k, LeO (gazetteerref26_Same.f k a0 a1 a2 a3 a4 a5) (gazetteerref26_Same.f (k + 1) a0 a1 a2 a3 a4 a5) := by
  intro a0 a1 a2 a3 a4 a5 k
  obtain ⟨ih0, ih1⟩ := gazetteerref26_Same.mono_l k
  unfold gazetteerref26_Same.f
  repeat' first
      | (with_reducible exact ih0 _ _ _ _ _ _ _)
      | (with_reducible exact ih1 _ _ _ _ _ _ _ _)
      | (with_reducible exact gazetteerref26_same.mono _ _ _ _ _ _ _ _ _ _ _ _ _ _ _ _ _ _ _ _ _ _ _ _ _)
      | (with_reducible exact LeO.refl _)
      | (with_reducible exact LeO.none _)
      | (with_reducible refine LeO.ite ?_ ?_)
      | (with_reducible refine LeO.bind ?_ (fun _ => ?_))
      | exact ih0 _ _ _ _ _ _ _
      | exact ih1 _ _ _ _ _ _ _ _
      | exact gazetteerref26_same.mono _ _ _ _ _ _ _ _ _ _ _ _ _ _ _ _ _ _ _ _ _ _ _ _ _
      | exact LeO.none _
      | refine LeO.ite ?_ ?_
      | refine LeO.bind ?_ (fun _ => ?_)
def gazetteerref26_Same.T6 : Bool × List (List Nat × List Nat) := (true, [([], []), ([0], [0]), ([], []), ([1, 2], [1, 2]), ([3], [3]), ([], []), ([5], [5]), ([], []), ([6, 7], [6, 7]), ([8], [8]), ([4, 9], [4, 9]), ([10], [10])])
def gazetteerref26_Same.B6 : List Nat := [0, 1, 0, 7, 15, 0, 32, 0, 224, 480, 1023, 2047]
theorem gazetteerref26_Same.tab6 : rtab .any (opsOf Tryd.f12 6) = gazetteerref26_Same.T6 := by kernel_rfl
theorem gazetteerref26_Same.bits6 : waitsOk gazetteerref26_Same.T6.2 gazetteerref26_Same.B6 = true := by kernel_rfl
set_option maxHeartbeats 8000000 in
set_option maxRecDepth 100000 in
theorem gazetteerref26_Same.calls (k : Nat) (a0_0 : Int) (a0_1 : Int) (A0_2 : Option Addr) (c0_2 : Nat) (l0_2 : List (S46)) (a1_0 : Int) (a1_1 : Int) (A1_2 : Option Addr) (c1_2 : Nat) (l1_2 : List (S46)) (r : Bool) (w : World) (hr0_2 : Kd.C k46 w A0_2 l0_2.length l0_2) (hc0_2 : l0_2.length ≤ c0_2) (hr1_2 : Kd.C k46 w A1_2 l1_2.length l1_2) (hc1_2 : l1_2.length ≤ c1_2) (h : gazetteerref26_Same.f k a0_0 a0_1 l0_2 a1_0 a1_1 l1_2 = some r) :
    Calls Tryd.prog 12 #[.agg #[.int .i64 a0_0, .int .i64 a0_1, .slice A0_2 l0_2.length c0_2], .agg #[.int .i64 a1_0, .int .i64 a1_1, .slice A1_2 l1_2.length c1_2]] w fun e w' => e = .returned (.bool r) ∧ Below w.heap.size w w' := by
  have hu27 := Tryd.underlying27
  have hu24 := Tryd.underlying24
  have hu46 := Tryd.underlying46
  have HR0_2 := Aside0.mk hr0_2
  have HC0_2 := Aside0.mk hc0_2
  clear hr0_2 hc0_2
  have HR1_2 := Aside0.mk hr1_2
  have HC1_2 := Aside0.mk hc1_2
  clear hr1_2 hc1_2
  have HB := Aside0.mk (Below.refl w.heap.size w)
  have H : (if (!(a0_0 == a1_0) || (!(a0_1 == a1_1))) = true then (gazetteerref26_Same.j0 k true a0_0 a0_1 l0_2 a1_0 a1_1 l1_2) else (gazetteerref26_Same.j0 k ((l0_2.length : Int) != (l1_2.length : Int)) a0_0 a0_1 l0_2 a1_0 a1_1 l1_2)) = some r := h
  clear h
  have HC3 := Aside0.mk H
  clear H
  go_enter Tryd.func12, Tryd.ntmps12
  go_upto_region 1 with (first | ((with_reducible refine gate_dst (N := 2) rfl ?_); (try (refine gate_guard (by rfl) ?_; dsimp only)); refine box_event ?hg (N := 2) ?hd (cs := #[.int .i64 a0_0, .int .i64 a0_1, .slice A0_2 l0_2.length c0_2]) (t := 27) ?hr ?_; (case hd => rfl); (case hg => rfl); (case hr => first | (go_simp; done) | (go_simp; rfl)); intro gb130 hg w4 hbox hb; have n0_ := Aside0.mk (below_step (by repeat (first | (with_reducible first | exact HB.out | apply below_alloc | apply pw_below_drewN | apply below_drew1) | exact HB.out)) hb); have n1_ := Aside0.mk (hbox); have n2_ := Aside0.mk ((by rw [hg]; exact (below_size (by repeat (first | (with_reducible first | exact HB.out | apply below_alloc | apply pw_below_drewN | apply below_drew1) | exact HB.out))) : w.heap.size ≤ gb130)); have n3_ := Aside0.mk ((by rw [hg]; exact (below_size (by repeat (first | (with_reducible first | exact HB.out | apply below_alloc | apply pw_below_drewN | apply below_drew1) | exact HB.out))) : w.heap.size ≤ gb130)); clear HB; have HB := n0_; have BK130 := n1_; have GW130 := n2_; have GE130 := n3_; clear n0_ n1_ n2_ n3_; clear hb hbox hg) | ((with_reducible refine gate_dst (N := 3) rfl ?_); (try (refine gate_guard (by rfl) ?_; dsimp only)); refine box_event ?hg (N := 3) ?hd (cs := #[.int .i64 a1_0, .int .i64 a1_1, .slice A1_2 l1_2.length c1_2]) (t := 27) ?hr ?_; (case hd => rfl); (case hg => rfl); (case hr => first | (go_simp; done) | (go_simp; rfl)); intro gb131 hg w5 hbox hb; have n0_ := Aside0.mk (blk_below (g := gb130) (o := .cells #[.int .i64 a0_0, .int .i64 a0_1, .slice A0_2 l0_2.length c0_2] 27 (0, 0)) (by (with_reducible repeat (first | refine blk_drewN ?_ _ | refine blk_drew ?_ | refine blk_alloc ?_ _)); exact BK130.out) hb); have n1_ := Aside0.mk (below_step (by repeat (first | (with_reducible first | exact HB.out | apply below_alloc | apply pw_below_drewN | apply below_drew1 | refine below_set ?_ GE130.out) | exact HB.out)) hb); have n2_ := Aside0.mk (hbox); have n3_ := Aside0.mk ((by rw [hg]; exact (below_size (by repeat (first | (with_reducible first | exact HB.out | apply below_alloc | apply pw_below_drewN | apply below_drew1 | refine below_set ?_ GE130.out) | exact HB.out))) : w.heap.size ≤ gb131)); have n4_ := Aside0.mk ((by rw [hg]; exact (below_size (by repeat (first | (with_reducible first | exact HB.out | apply below_alloc | apply pw_below_drewN | apply below_drew1 | refine below_set ?_ GE130.out) | exact HB.out))) : w.heap.size ≤ gb131)); have n5_ := Aside0.mk ((by rw [hg]; exact Nat.ne_of_lt (blk_lt (g := gb130) (o := .cells #[.int .i64 a0_0, .int .i64 a0_1, .slice A0_2 l0_2.length c0_2] 27 (0, 0)) (by (with_reducible repeat (first | refine blk_drewN ?_ _ | refine blk_drew ?_ | refine blk_alloc ?_ _)); exact BK130.out)) : gb130 ≠ gb131)); have n6_ := Aside0.mk ((by rw [hg]; exact Nat.ne_of_gt (blk_lt (g := gb130) (o := .cells #[.int .i64 a0_0, .int .i64 a0_1, .slice A0_2 l0_2.length c0_2] 27 (0, 0)) (by (with_reducible repeat (first | refine blk_drewN ?_ _ | refine blk_drew ?_ | refine blk_alloc ?_ _)); exact BK130.out)) : gb131 ≠ gb130)); clear BK130; clear HB; have BK130 := n0_; have HB := n1_; have BK131 := n2_; have GW131 := n3_; have GE131 := n4_; have NB130_131 := n5_; have NB131_130 := n6_; clear n0_ n1_ n2_ n3_ n4_ n5_ n6_; clear hb hbox hg))
  (try simp only [Act.put, List.setIfInBounds_toArray, List.set_cons_zero, List.set_cons_succ])
  go_cut [19] (fun v19 wc => ∃ (kq : Nat) (x19_2 : Bool), v19 = .bool x19_2 ∧ Aside0 (gazetteerref26_Same.j0 kq x19_2 a0_0 a0_1 l0_2 a1_0 a1_1 l1_2 = some r) ∧ Aside0 (kq ≤ k) ∧ Aside0 (wc.heap[gb130]? = some (.cells #[.int .i64 a0_0, .int .i64 a0_1, (.slice A0_2 l0_2.length c0_2)] 27 (0, 0))) ∧ Aside0 (wc.heap[gb131]? = some (.cells #[.int .i64 a1_0, .int .i64 a1_1, (.slice A1_2 l1_2.length c1_2)] 27 (0, 0))) ∧ Aside0 (Below w.heap.size w wc))
  case first =>
    have H := HC3.out
    clear HC3
    by_cases c6 : (!(a0_0 == a1_0) || (!(a0_1 == a1_1))) = true
    · rw [if_pos c6] at H
      have c6b0 : (!(a0_0 == a1_0) || (!(a0_1 == a1_1))) = true := c6
      clear c6
      (first | rw [c6b0] | (simp only [i64_w, i32_w]; rw [c6b0]) | skip)
      have H' := Aside0.mk H
      clear H
      have hnb7 := NB130_131.out
      have hnc7 := NB131_130.out
      have hcz8_0 : w5.cell? ⟨gb130, 0, none⟩ = some (.int .i64 a0_0) := (blk_cell BK130.out 0).trans rfl
      have hcz8_1 : w5.cell? ⟨gb130, 1, none⟩ = some (.int .i64 a0_1) := (blk_cell BK130.out 1).trans rfl
      have hcz8_2 : w5.cell? ⟨gb130, 2, none⟩ = some (.slice A0_2 l0_2.length c0_2) := (blk_cell BK130.out 2).trans rfl
      have hfz8_0 := blk_frozen BK130.out 0
      have hfz8_1 := blk_frozen BK130.out 1
      have hfz8_2 := blk_frozen BK130.out 2
      have hcz9_0 : w5.cell? ⟨gb131, 0, none⟩ = some (.int .i64 a1_0) := (blk_cell BK131.out 0).trans rfl
      have hcz9_1 : w5.cell? ⟨gb131, 1, none⟩ = some (.int .i64 a1_1) := (blk_cell BK131.out 1).trans rfl
      have hcz9_2 : w5.cell? ⟨gb131, 2, none⟩ = some (.slice A1_2 l1_2.length c1_2) := (blk_cell BK131.out 2).trans rfl
      have hfz9_0 := blk_frozen BK131.out 0
      have hfz9_1 := blk_frozen BK131.out 1
      have hfz9_2 := blk_frozen BK131.out 2
      go_wp2
      go_meet
      case rel => exact ⟨_, (true), (by first | rfl | (simp; done) | (simp [*]; done)), H', ⟨by first | omega | exact Nat.le_refl _⟩, ⟨by (with_reducible repeat (first | refine blk_drewN ?_ _ | refine blk_drew ?_ | refine blk_alloc ?_ _)); exact BK130.out⟩, ⟨by (with_reducible repeat (first | refine blk_drewN ?_ _ | refine blk_drew ?_ | refine blk_alloc ?_ _)); exact BK131.out⟩, ⟨by repeat (first | (with_reducible first | exact HB.out | apply below_alloc | apply pw_below_drewN | apply below_drew1 | refine below_set ?_ GE130.out | refine below_set ?_ GE131.out) | exact HB.out)⟩⟩
    · rw [if_neg c6] at H
      have c6b0 : (!(a0_0 == a1_0) || (!(a0_1 == a1_1))) = false := by simpa using c6
      clear c6
      (first | rw [c6b0] | (simp only [i64_w, i32_w]; rw [c6b0]) | skip)
      have H' := Aside0.mk H
      clear H
      have hnb10 := NB130_131.out
      have hnc10 := NB131_130.out
      have hcz11_0 : w5.cell? ⟨gb130, 0, none⟩ = some (.int .i64 a0_0) := (blk_cell BK130.out 0).trans rfl
      have hcz11_1 : w5.cell? ⟨gb130, 1, none⟩ = some (.int .i64 a0_1) := (blk_cell BK130.out 1).trans rfl
      have hcz11_2 : w5.cell? ⟨gb130, 2, none⟩ = some (.slice A0_2 l0_2.length c0_2) := (blk_cell BK130.out 2).trans rfl
      have hfz11_0 := blk_frozen BK130.out 0
      have hfz11_1 := blk_frozen BK130.out 1
      have hfz11_2 := blk_frozen BK130.out 2
      have hcz12_0 : w5.cell? ⟨gb131, 0, none⟩ = some (.int .i64 a1_0) := (blk_cell BK131.out 0).trans rfl
      have hcz12_1 : w5.cell? ⟨gb131, 1, none⟩ = some (.int .i64 a1_1) := (blk_cell BK131.out 1).trans rfl
      have hcz12_2 : w5.cell? ⟨gb131, 2, none⟩ = some (.slice A1_2 l1_2.length c1_2) := (blk_cell BK131.out 2).trans rfl
      have hfz12_0 := blk_frozen BK131.out 0
      have hfz12_1 := blk_frozen BK131.out 1
      have hfz12_2 := blk_frozen BK131.out 2
      go_wp2
      go_meet
      case rel => exact ⟨_, (((l0_2.length : Int) != (l1_2.length : Int))), (by first | rfl | (simp; done) | (simp [*]; done)), H', ⟨by first | omega | exact Nat.le_refl _⟩, ⟨by (with_reducible repeat (first | refine blk_drewN ?_ _ | refine blk_drew ?_ | refine blk_alloc ?_ _)); exact BK130.out⟩, ⟨by (with_reducible repeat (first | refine blk_drewN ?_ _ | refine blk_drew ?_ | refine blk_alloc ?_ _)); exact BK131.out⟩, ⟨by repeat (first | (with_reducible first | exact HB.out | apply below_alloc | apply pw_below_drewN | apply below_drew1 | refine below_set ?_ GE130.out | refine below_set ?_ GE131.out) | exact HB.out)⟩⟩
  case rest =>
    clear HC3
    try clear c1
    try clear p2
    try clear c6
    try clear c6b0
    try clear c7
    try clear c10
    try clear c12
    try clear hcz11_0
    try clear hcz11_1
    try clear hcz11_2
    try clear hcz12_0
    try clear hcz12_1
    try clear hcz12_2
    try clear hcz8_0
    try clear hcz8_1
    try clear hcz8_2
    try clear hcz9_0
    try clear hcz9_1
    try clear hcz9_2
    try clear hfz11_0
    try clear hfz11_1
    try clear hfz11_2
    try clear hfz12_0
    try clear hfz12_1
    try clear hfz12_2
    try clear hfz8_0
    try clear hfz8_1
    try clear hfz8_2
    try clear hfz9_0
    try clear hfz9_1
    try clear hfz9_2
    obtain ⟨kq, x19_2, rfl, HA, HJ2, BK130, BK131, HB⟩ := hcut
    cases kq with
    | zero => exact absurd HA.out (by simp [gazetteerref26_Same.j0])
    | succ kj2 =>
      have H := HA.out
      clear HA
      simp only [gazetteerref26_Same.j0] at H
      by_cases c13 : x19_2 = true
      · subst c13
        have H1 : (some false) = some r := by rw [if_pos rfl] at H; exact H
        clear H
        have H := H1
        clear H1
        obtain rfl := Option.some.inj H
        go_wp2
        go_ret
        exact ⟨by first | rfl | (simp [errW_none, errW_some] <;> rfl) | (simp [*, errW_none, errW_some] <;> rfl), by repeat (first | (with_reducible first | exact HB.out | apply below_alloc | apply pw_below_drewN | apply below_drew1 | refine below_set ?_ GE130.out | refine below_set ?_ GE131.out) | exact HB.out)⟩
      · replace c13 := Bool.eq_false_iff.mpr c13
        subst c13
        have H1 : (gazetteerref26_Same.l0 kj2 (l0_2.length : Int) 0 a0_0 a0_1 l0_2 a1_0 a1_1 l1_2) = some r := by rw [if_neg (show ¬ (false = true) by decide)] at H; exact H
        clear H
        have H := H1
        clear H1
        have H' := Aside0.mk H
        clear H
        have hnb14 := NB130_131.out
        have hnc14 := NB131_130.out
        have hcz15_0 : wc.cell? ⟨gb130, 0, none⟩ = some (.int .i64 a0_0) := (blk_cell BK130.out 0).trans rfl
        have hcz15_1 : wc.cell? ⟨gb130, 1, none⟩ = some (.int .i64 a0_1) := (blk_cell BK130.out 1).trans rfl
        have hcz15_2 : wc.cell? ⟨gb130, 2, none⟩ = some (.slice A0_2 l0_2.length c0_2) := (blk_cell BK130.out 2).trans rfl
        have hfz15_0 := blk_frozen BK130.out 0
        have hfz15_1 := blk_frozen BK130.out 1
        have hfz15_2 := blk_frozen BK130.out 2
        go_wp2
        go_loopg [23] kj2 (fun kq v23 w' => ∃ (x23_2 : Int), v23 = .int .i64 x23_2 ∧ Aside0 (gazetteerref26_Same.l0 kq (l0_2.length : Int) x23_2 a0_0 a0_1 l0_2 a1_0 a1_1 l1_2 = some r) ∧ Aside0 (kq ≤ kj2) ∧ Aside0 (w'.heap[gb130]? = some (.cells #[.int .i64 a0_0, .int .i64 a0_1, (.slice A0_2 l0_2.length c0_2)] 27 (0, 0))) ∧ Aside0 (w'.heap[gb131]? = some (.cells #[.int .i64 a1_0, .int .i64 a1_1, (.slice A1_2 l1_2.length c1_2)] 27 (0, 0))) ∧ Aside0 (Below w.heap.size w w'))
        case atStart => exact ⟨(0), (by first | rfl | (simp; done) | (simp [*]; done)), H', ⟨Nat.le_refl _⟩, ⟨by (with_reducible repeat (first | refine blk_drewN ?_ _ | refine blk_drew ?_ | refine blk_alloc ?_ _)); exact BK130.out⟩, ⟨by (with_reducible repeat (first | refine blk_drewN ?_ _ | refine blk_drew ?_ | refine blk_alloc ?_ _)); exact BK131.out⟩, ⟨by repeat (first | (with_reducible first | exact HB.out | apply below_alloc | apply pw_below_drewN | apply below_drew1 | refine below_set ?_ GE130.out | refine below_set ?_ GE131.out) | exact HB.out)⟩⟩
        case round =>
          clear H'
          try clear c1
          try clear p2
          try clear c6
          try clear c6b0
          try clear c7
          try clear c10
          try clear c12
          try clear c13
          try clear c14
          try clear hcz11_0
          try clear hcz11_1
          try clear hcz11_2
          try clear hcz12_0
          try clear hcz12_1
          try clear hcz12_2
          try clear hcz15_0
          try clear hcz15_1
          try clear hcz15_2
          try clear hcz8_0
          try clear hcz8_1
          try clear hcz8_2
          try clear hcz9_0
          try clear hcz9_1
          try clear hcz9_2
          try clear hfz11_0
          try clear hfz11_1
          try clear hfz11_2
          try clear hfz12_0
          try clear hfz12_1
          try clear hfz12_2
          try clear hfz15_0
          try clear hfz15_1
          try clear hfz15_2
          try clear hfz8_0
          try clear hfz8_1
          try clear hfz8_2
          try clear hfz9_0
          try clear hfz9_1
          try clear hfz9_2
          try clear p2
          obtain ⟨x23_2, rfl, HA, HK2, BK130, BK131, HB⟩ := hrel
          cases gk with
          | zero => exact absurd HA.out (by simp [gazetteerref26_Same.l0])
          | succ k2 =>
            have H := HA.out
            clear HA
            simp only [gazetteerref26_Same.l0] at H
            by_cases c16 : x23_2 < (l0_2.length : Int)
            · rw [if_pos c16] at H
              have c16b0 : decide (x23_2 < (l0_2.length : Int)) = true := decide_eq_true c16
              clear c16
              by_cases c17 : 0 ≤ x23_2
              · rw [if_pos c17] at H
                have c17b0 : decide (0 ≤ x23_2) = true := decide_eq_true c17
                clear c17
                by_cases c18 : x23_2 < (l0_2.length : Int)
                · rw [if_pos c18] at H
                  have c18b0 : decide (x23_2 < (l0_2.length : Int)) = true := decide_eq_true c18
                  clear c18
                  by_cases c19 : x23_2 < (l1_2.length : Int)
                  · rw [if_pos c19] at H
                    have c19b0 : decide (x23_2 < (l1_2.length : Int)) = true := decide_eq_true c19
                    clear c19
                    replace H := Option.bind_eq_some_iff.mp H
                    obtain ⟨t134, A200, H⟩ := H
                    replace H : (if t134 = true then (gazetteerref26_Same.l0 k2 (l0_2.length : Int) (wrap64 (x23_2 + 1)) a0_0 a0_1 l0_2 a1_0 a1_1 l1_2) else (some false)) = some r := H
                    have A20 := Aside0.mk A200
                    clear A200
                    by_cases c21 : t134 = true
                    · subst c21
                      have H1 : (gazetteerref26_Same.l0 k2 (l0_2.length : Int) (wrap64 (x23_2 + 1)) a0_0 a0_1 l0_2 a1_0 a1_1 l1_2) = some r := by rw [if_pos rfl] at H; exact H
                      clear H
                      have H := H1
                      clear H1
                      have H' := Aside0.mk H
                      clear H
                      try go_wp2
                      have n0_ := Aside0.mk (blk_drew BK130.out)
                      have n1_ := Aside0.mk (blk_drew BK131.out)
                      have n2_ := Aside0.mk (below_drew1 HB.out)
                      clear BK130
                      clear BK131
                      clear HB
                      have BK130 := n0_
                      have BK131 := n1_
                      have HB := n2_
                      clear n0_ n1_ n2_
                      have p132 : 0 ≤ (x23_2 : Int) := of_decide_eq_true (by first | (with_reducible assumption) | assumption)
                      have q132 : x23_2 < (l0_2.length : Int) := of_decide_eq_true (by first | (with_reducible assumption) | assumption)
                      obtain ⟨ad132, A132_11, c132_11, e132, hx132_0, hx132_1, hx132_2, hx132_3, hx132_4, hx132_5, hx132_6, hx132_7, hx132_8, hx132_9, hx132_10, hx132_11, hl132_11, hi132_11⟩ := at_T46 HR0_2.out x23_2 p132 q132
                      have hw132_11 := hx132_11
                      have hw132_10 := hx132_10
                      have hw132_9 := hx132_9
                      have hw132_8 := hx132_8
                      have hw132_7 := hx132_7
                      have hw132_6 := hx132_6
                      have hw132_5 := hx132_5
                      have hw132_4 := hx132_4
                      have hw132_3 := hx132_3
                      have hw132_2 := hx132_2
                      have hw132_1 := hx132_1
                      have hw132_0 := hx132_0
                      cases e132
                      replace hx132_0 := (HB.out.cell (World.block_lt_of_cell? w _ hx132_0)).trans hx132_0
                      replace hx132_1 := (HB.out.cell (World.block_lt_of_cell? w _ hx132_1)).trans hx132_1
                      replace hx132_2 := (HB.out.cell (World.block_lt_of_cell? w _ hx132_2)).trans hx132_2
                      replace hx132_3 := (HB.out.cell (World.block_lt_of_cell? w _ hx132_3)).trans hx132_3
                      replace hx132_4 := (HB.out.cell (World.block_lt_of_cell? w _ hx132_4)).trans hx132_4
                      replace hx132_5 := (HB.out.cell (World.block_lt_of_cell? w _ hx132_5)).trans hx132_5
                      replace hx132_6 := (HB.out.cell (World.block_lt_of_cell? w _ hx132_6)).trans hx132_6
                      replace hx132_7 := (HB.out.cell (World.block_lt_of_cell? w _ hx132_7)).trans hx132_7
                      replace hx132_8 := (HB.out.cell (World.block_lt_of_cell? w _ hx132_8)).trans hx132_8
                      replace hx132_9 := (HB.out.cell (World.block_lt_of_cell? w _ hx132_9)).trans hx132_9
                      replace hx132_10 := (HB.out.cell (World.block_lt_of_cell? w _ hx132_10)).trans hx132_10
                      replace hx132_11 := (HB.out.cell (World.block_lt_of_cell? w _ hx132_11)).trans hx132_11
                      have HR132_11 := Aside0.mk hi132_11
                      have HC132_11 := Aside0.mk hl132_11
                      clear hi132_11 hl132_11
                      replace p132 := eq_true p132
                      replace q132 := eq_true q132
                      have p133 : 0 ≤ (x23_2 : Int) := of_decide_eq_true (by first | (with_reducible assumption) | assumption)
                      have q133 : x23_2 < (l1_2.length : Int) := of_decide_eq_true (by first | (with_reducible assumption) | assumption)
                      obtain ⟨ad133, A133_11, c133_11, e133, hx133_0, hx133_1, hx133_2, hx133_3, hx133_4, hx133_5, hx133_6, hx133_7, hx133_8, hx133_9, hx133_10, hx133_11, hl133_11, hi133_11⟩ := at_T46 HR1_2.out x23_2 p133 q133
                      have hw133_11 := hx133_11
                      have hw133_10 := hx133_10
                      have hw133_9 := hx133_9
                      have hw133_8 := hx133_8
                      have hw133_7 := hx133_7
                      have hw133_6 := hx133_6
                      have hw133_5 := hx133_5
                      have hw133_4 := hx133_4
                      have hw133_3 := hx133_3
                      have hw133_2 := hx133_2
                      have hw133_1 := hx133_1
                      have hw133_0 := hx133_0
                      cases e133
                      replace hx133_0 := (HB.out.cell (World.block_lt_of_cell? w _ hx133_0)).trans hx133_0
                      replace hx133_1 := (HB.out.cell (World.block_lt_of_cell? w _ hx133_1)).trans hx133_1
                      replace hx133_2 := (HB.out.cell (World.block_lt_of_cell? w _ hx133_2)).trans hx133_2
                      replace hx133_3 := (HB.out.cell (World.block_lt_of_cell? w _ hx133_3)).trans hx133_3
                      replace hx133_4 := (HB.out.cell (World.block_lt_of_cell? w _ hx133_4)).trans hx133_4
                      replace hx133_5 := (HB.out.cell (World.block_lt_of_cell? w _ hx133_5)).trans hx133_5
                      replace hx133_6 := (HB.out.cell (World.block_lt_of_cell? w _ hx133_6)).trans hx133_6
                      replace hx133_7 := (HB.out.cell (World.block_lt_of_cell? w _ hx133_7)).trans hx133_7
                      replace hx133_8 := (HB.out.cell (World.block_lt_of_cell? w _ hx133_8)).trans hx133_8
                      replace hx133_9 := (HB.out.cell (World.block_lt_of_cell? w _ hx133_9)).trans hx133_9
                      replace hx133_10 := (HB.out.cell (World.block_lt_of_cell? w _ hx133_10)).trans hx133_10
                      replace hx133_11 := (HB.out.cell (World.block_lt_of_cell? w _ hx133_11)).trans hx133_11
                      have HR133_11 := Aside0.mk hi133_11
                      have HC133_11 := Aside0.mk hl133_11
                      clear hi133_11 hl133_11
                      replace p133 := eq_true p133
                      replace q133 := eq_true q133
                      refine start_ (n := 12) (S := fun w' => w'.cell? ⟨gb130, 0, none⟩ = some (.int .i64 a0_0) ∧ w'.cell? ⟨gb130, 1, none⟩ = some (.int .i64 a0_1) ∧ w'.cell? ⟨gb130, 2, none⟩ = some (.slice (some ad132) l0_2.length c0_2) ∧ w'.cell? ⟨gb131, 0, none⟩ = some (.int .i64 a1_0) ∧ w'.cell? ⟨gb131, 1, none⟩ = some (.int .i64 a1_1) ∧ w'.cell? ⟨gb131, 2, none⟩ = some (.slice (some ad133) l1_2.length c1_2) ∧ w'.cell? (ad132.add ((x23_2).toNat * 12)) = some (.int .i64 ((rd_T46 l0_2 x23_2).f0)) ∧ w'.cell? ⟨(ad132.add ((x23_2).toNat * 12)).block, (ad132.add ((x23_2).toNat * 12)).off + 1, none⟩ = some (.int .i64 ((rd_T46 l0_2 x23_2).f1)) ∧ w'.cell? ⟨(ad132.add ((x23_2).toNat * 12)).block, (ad132.add ((x23_2).toNat * 12)).off + 2, none⟩ = some (.int .i64 ((rd_T46 l0_2 x23_2).f2.f0)) ∧ w'.cell? ⟨(ad132.add ((x23_2).toNat * 12)).block, (ad132.add ((x23_2).toNat * 12)).off + 3, none⟩ = some (.bool ((rd_T46 l0_2 x23_2).f2.f1)) ∧ w'.cell? ⟨(ad132.add ((x23_2).toNat * 12)).block, (ad132.add ((x23_2).toNat * 12)).off + 4, none⟩ = some (.int .u32 ((rd_T46 l0_2 x23_2).f2.f2)) ∧ w'.cell? ⟨(ad132.add ((x23_2).toNat * 12)).block, (ad132.add ((x23_2).toNat * 12)).off + 5, none⟩ = some (.int .i64 ((rd_T46 l0_2 x23_2).f2.f3.f0)) ∧ w'.cell? ⟨(ad132.add ((x23_2).toNat * 12)).block, (ad132.add ((x23_2).toNat * 12)).off + 6, none⟩ = some (.int .i64 ((rd_T46 l0_2 x23_2).f2.f3.f1)) ∧ w'.cell? ⟨(ad132.add ((x23_2).toNat * 12)).block, (ad132.add ((x23_2).toNat * 12)).off + 7, none⟩ = some (.int .i64 ((rd_T46 l0_2 x23_2).f2.f3.f2)) ∧ w'.cell? ⟨(ad132.add ((x23_2).toNat * 12)).block, (ad132.add ((x23_2).toNat * 12)).off + 8, none⟩ = some (.int .i64 ((rd_T46 l0_2 x23_2).f2.f3.f3)) ∧ w'.cell? ⟨(ad132.add ((x23_2).toNat * 12)).block, (ad132.add ((x23_2).toNat * 12)).off + 9, none⟩ = some (.int .i64 ((rd_T46 l0_2 x23_2).f2.f4)) ∧ w'.cell? ⟨(ad132.add ((x23_2).toNat * 12)).block, (ad132.add ((x23_2).toNat * 12)).off + 10, none⟩ = some (.int .i64 ((rd_T46 l0_2 x23_2).f3)) ∧ w'.cell? ⟨(ad132.add ((x23_2).toNat * 12)).block, (ad132.add ((x23_2).toNat * 12)).off + 11, none⟩ = some (.slice A132_11 ((rd_T46 l0_2 x23_2).f4).length c132_11) ∧ w'.cell? (ad133.add ((x23_2).toNat * 12)) = some (.int .i64 ((rd_T46 l1_2 x23_2).f0)) ∧ w'.cell? ⟨(ad133.add ((x23_2).toNat * 12)).block, (ad133.add ((x23_2).toNat * 12)).off + 1, none⟩ = some (.int .i64 ((rd_T46 l1_2 x23_2).f1)) ∧ w'.cell? ⟨(ad133.add ((x23_2).toNat * 12)).block, (ad133.add ((x23_2).toNat * 12)).off + 2, none⟩ = some (.int .i64 ((rd_T46 l1_2 x23_2).f2.f0)) ∧ w'.cell? ⟨(ad133.add ((x23_2).toNat * 12)).block, (ad133.add ((x23_2).toNat * 12)).off + 3, none⟩ = some (.bool ((rd_T46 l1_2 x23_2).f2.f1)) ∧ w'.cell? ⟨(ad133.add ((x23_2).toNat * 12)).block, (ad133.add ((x23_2).toNat * 12)).off + 4, none⟩ = some (.int .u32 ((rd_T46 l1_2 x23_2).f2.f2)) ∧ w'.cell? ⟨(ad133.add ((x23_2).toNat * 12)).block, (ad133.add ((x23_2).toNat * 12)).off + 5, none⟩ = some (.int .i64 ((rd_T46 l1_2 x23_2).f2.f3.f0)) ∧ w'.cell? ⟨(ad133.add ((x23_2).toNat * 12)).block, (ad133.add ((x23_2).toNat * 12)).off + 6, none⟩ = some (.int .i64 ((rd_T46 l1_2 x23_2).f2.f3.f1)) ∧ w'.cell? ⟨(ad133.add ((x23_2).toNat * 12)).block, (ad133.add ((x23_2).toNat * 12)).off + 7, none⟩ = some (.int .i64 ((rd_T46 l1_2 x23_2).f2.f3.f2)) ∧ w'.cell? ⟨(ad133.add ((x23_2).toNat * 12)).block, (ad133.add ((x23_2).toNat * 12)).off + 8, none⟩ = some (.int .i64 ((rd_T46 l1_2 x23_2).f2.f3.f3)) ∧ w'.cell? ⟨(ad133.add ((x23_2).toNat * 12)).block, (ad133.add ((x23_2).toNat * 12)).off + 9, none⟩ = some (.int .i64 ((rd_T46 l1_2 x23_2).f2.f4)) ∧ w'.cell? ⟨(ad133.add ((x23_2).toNat * 12)).block, (ad133.add ((x23_2).toNat * 12)).off + 10, none⟩ = some (.int .i64 ((rd_T46 l1_2 x23_2).f3)) ∧ w'.cell? ⟨(ad133.add ((x23_2).toNat * 12)).block, (ad133.add ((x23_2).toNat * 12)).off + 11, none⟩ = some (.slice A133_11 ((rd_T46 l1_2 x23_2).f4).length c133_11)) (ds := []) #[false, false, false, false, false, false, false, false, false, false, false, false] (by kernel_rfl) rfl rfl ⟨(blk_cell BK130.out 0).trans rfl, (blk_cell BK130.out 1).trans rfl, (blk_cell BK130.out 2).trans rfl, (blk_cell BK131.out 0).trans rfl, (blk_cell BK131.out 1).trans rfl, (blk_cell BK131.out 2).trans rfl, ((HB.out.cell (World.block_lt_of_cell? w _ hw132_0)).trans hw132_0), ((HB.out.cell (World.block_lt_of_cell? w _ hw132_1)).trans hw132_1), ((HB.out.cell (World.block_lt_of_cell? w _ hw132_2)).trans hw132_2), ((HB.out.cell (World.block_lt_of_cell? w _ hw132_3)).trans hw132_3), ((HB.out.cell (World.block_lt_of_cell? w _ hw132_4)).trans hw132_4), ((HB.out.cell (World.block_lt_of_cell? w _ hw132_5)).trans hw132_5), ((HB.out.cell (World.block_lt_of_cell? w _ hw132_6)).trans hw132_6), ((HB.out.cell (World.block_lt_of_cell? w _ hw132_7)).trans hw132_7), ((HB.out.cell (World.block_lt_of_cell? w _ hw132_8)).trans hw132_8), ((HB.out.cell (World.block_lt_of_cell? w _ hw132_9)).trans hw132_9), ((HB.out.cell (World.block_lt_of_cell? w _ hw132_10)).trans hw132_10), ((HB.out.cell (World.block_lt_of_cell? w _ hw132_11)).trans hw132_11), ((HB.out.cell (World.block_lt_of_cell? w _ hw133_0)).trans hw133_0), ((HB.out.cell (World.block_lt_of_cell? w _ hw133_1)).trans hw133_1), ((HB.out.cell (World.block_lt_of_cell? w _ hw133_2)).trans hw133_2), ((HB.out.cell (World.block_lt_of_cell? w _ hw133_3)).trans hw133_3), ((HB.out.cell (World.block_lt_of_cell? w _ hw133_4)).trans hw133_4), ((HB.out.cell (World.block_lt_of_cell? w _ hw133_5)).trans hw133_5), ((HB.out.cell (World.block_lt_of_cell? w _ hw133_6)).trans hw133_6), ((HB.out.cell (World.block_lt_of_cell? w _ hw133_7)).trans hw133_7), ((HB.out.cell (World.block_lt_of_cell? w _ hw133_8)).trans hw133_8), ((HB.out.cell (World.block_lt_of_cell? w _ hw133_9)).trans hw133_9), ((HB.out.cell (World.block_lt_of_cell? w _ hw133_10)).trans hw133_10), ((HB.out.cell (World.block_lt_of_cell? w _ hw133_11)).trans hw133_11)⟩ (fun hHeld => ?_); refine with_tabW gazetteerref26_Same.tab6 gazetteerref26_Same.bits6 (fun HT_ HW_ => ?_)
                      generalize wr.drew = w22 at BK130 BK131 HB HR132_11 HR133_11 hx132_0 hx132_1 hx132_10 hx132_11 hx132_2 hx132_3 hx132_4 hx132_5 hx132_6 hx132_7 hx132_8 hx132_9 hx133_0 hx133_1 hx133_10 hx133_11 hx133_2 hx133_3 hx133_4 hx133_5 hx133_6 hx133_7 hx133_8 hx133_9 hHeld ⊢
                      refine pure_ (i := 0) (N := some 26) (v := ?_) (a' := ?_) #[true, false, false, false, false, false, false, false, false, false, false, false] rfl rfl (any_of HT_.out (by kernel_rfl)) (fun _ _ _ h => h) (Or.inl ⟨by rfl, ?_⟩) ?_ ?_
                      rotate_left
                      · intro w'
                        go_simp
                        with_reducible rfl
                      rotate_left
                      · simp only [Act.put, List.setIfInBounds_toArray, List.set_cons_zero, List.set_cons_succ, i64_w, i32_w]
                        rfl
                      refine pure_ (i := 2) (N := some 28) (v := ?_) (a' := ?_) #[true, false, true, false, false, false, false, false, false, false, false, false] rfl rfl (any_of HT_.out (by kernel_rfl)) (fun _ _ _ h => h) (Or.inl ⟨by rfl, ?_⟩) ?_ ?_
                      rotate_left
                      · intro w'
                        go_simp
                        with_reducible rfl
                      rotate_left
                      · simp only [Act.put, List.setIfInBounds_toArray, List.set_cons_zero, List.set_cons_succ, i64_w, i32_w]
                        rfl
                      refine pure_ (i := 5) (N := some 31) (v := ?_) (a' := ?_) #[true, false, true, false, false, true, false, false, false, false, false, false] rfl rfl (any_of HT_.out (by kernel_rfl)) (fun _ _ _ h => h) (Or.inl ⟨by rfl, ?_⟩) ?_ ?_
                      rotate_left
                      · intro w'
                        go_simp
                        with_reducible rfl
                      rotate_left
                      · simp only [Act.put, List.setIfInBounds_toArray, List.set_cons_zero, List.set_cons_succ, i64_w, i32_w]
                        rfl
                      refine pure_ (i := 7) (N := some 33) (v := ?_) (a' := ?_) #[true, false, true, false, false, true, false, true, false, false, false, false] rfl rfl (any_of HT_.out (by kernel_rfl)) (fun _ _ _ h => h) (Or.inl ⟨by rfl, ?_⟩) ?_ ?_
                      rotate_left
                      · intro w'
                        go_simp
                        with_reducible rfl
                      rotate_left
                      · simp only [Act.put, List.setIfInBounds_toArray, List.set_cons_zero, List.set_cons_succ, i64_w, i32_w]
                        rfl
                      refine take_ (i := 1) (N := some 27) (v := ?_) (a' := ?_) #[true, true, true, false, false, true, false, true, false, false, false, false] rfl rfl (take_ofW HT_.out HW_.out (by kernel_rfl)) (fun _ _ _ h => h) (Or.inl ⟨by rfl, ?_⟩) hHeld ?_ ?_
                      rotate_left
                      · rintro w' ⟨s0, s1, s2, s3, s4, s5, s6, s7, s8, s9, s10, s11, s12, s13, s14, s15, s16, s17, s18, s19, s20, s21, s22, s23, s24, s25, s26, s27, s28, s29⟩
                        go_simp
                        with_reducible rfl
                      rotate_left
                      · simp only [Act.put, List.setIfInBounds_toArray, List.set_cons_zero, List.set_cons_succ, i64_w, i32_w]
                        rfl
                      refine pure_ (i := 3) (N := some 29) (v := ?_) (a' := ?_) #[true, true, true, true, false, true, false, true, false, false, false, false] rfl rfl (any_of HT_.out (by kernel_rfl)) (fun _ _ _ h => h) (Or.inl ⟨by rfl, ?_⟩) ?_ ?_
                      rotate_left
                      · intro w'
                        go_simp
                        with_reducible rfl
                      rotate_left
                      · simp only [Act.put, List.setIfInBounds_toArray, List.set_cons_zero, List.set_cons_succ, i64_w, i32_w]
                        rfl
                      refine take_ (i := 4) (N := some 30) (v := ?_) (a' := ?_) #[true, true, true, true, true, true, false, true, false, false, false, false] rfl rfl (take_ofW HT_.out HW_.out (by kernel_rfl)) (fun _ _ _ h => h) (Or.inl ⟨by rfl, ?_⟩) hHeld ?_ ?_
                      rotate_left
                      · rintro w' ⟨s0, s1, s2, s3, s4, s5, s6, s7, s8, s9, s10, s11, s12, s13, s14, s15, s16, s17, s18, s19, s20, s21, s22, s23, s24, s25, s26, s27, s28, s29⟩
                        go_simp
                        with_reducible rfl
                      rotate_left
                      · simp only [Act.put, List.setIfInBounds_toArray, List.set_cons_zero, List.set_cons_succ, i64_w, i32_w]
                        rfl
                      refine take_ (i := 6) (N := some 32) (v := ?_) (a' := ?_) #[true, true, true, true, true, true, true, true, false, false, false, false] rfl rfl (take_ofW HT_.out HW_.out (by kernel_rfl)) (fun _ _ _ h => h) (Or.inl ⟨by rfl, ?_⟩) hHeld ?_ ?_
                      rotate_left
                      · rintro w' ⟨s0, s1, s2, s3, s4, s5, s6, s7, s8, s9, s10, s11, s12, s13, s14, s15, s16, s17, s18, s19, s20, s21, s22, s23, s24, s25, s26, s27, s28, s29⟩
                        go_simp
                        with_reducible rfl
                      rotate_left
                      · simp only [Act.put, List.setIfInBounds_toArray, List.set_cons_zero, List.set_cons_succ, i64_w, i32_w]
                        rfl
                      refine pure_ (i := 8) (N := some 34) (v := ?_) (a' := ?_) #[true, true, true, true, true, true, true, true, true, false, false, false] rfl rfl (any_of HT_.out (by kernel_rfl)) (fun _ _ _ h => h) (Or.inl ⟨by rfl, ?_⟩) ?_ ?_
                      rotate_left
                      · intro w'
                        go_simp
                        with_reducible rfl
                      rotate_left
                      · simp only [Act.put, List.setIfInBounds_toArray, List.set_cons_zero, List.set_cons_succ, i64_w, i32_w]
                        rfl
                      refine take_ (i := 9) (N := some 35) (v := ?_) (a' := ?_) #[true, true, true, true, true, true, true, true, true, true, false, false] rfl rfl (take_ofW HT_.out HW_.out (by kernel_rfl)) (fun _ _ _ h => h) (Or.inl ⟨by rfl, ?_⟩) hHeld ?_ ?_
                      rotate_left
                      · rintro w' ⟨s0, s1, s2, s3, s4, s5, s6, s7, s8, s9, s10, s11, s12, s13, s14, s15, s16, s17, s18, s19, s20, s21, s22, s23, s24, s25, s26, s27, s28, s29⟩
                        go_simp
                        with_reducible rfl
                      rotate_left
                      · simp only [Act.put, List.setIfInBounds_toArray, List.set_cons_zero, List.set_cons_succ, i64_w, i32_w]
                        rfl
                      refine one_ (i := 10) (N := some 36) #[true, true, true, true, true, true, true, true, true, true, true, false] rfl rfl (one_of HT_.out (by kernel_rfl)) (by decide) (fun K hK => ?_)
                      refine goes_ Tryd.func23 (by kernel_rfl) rfl #[.agg #[.int .i64 ((rd_T46 l0_2 x23_2).f0), .int .i64 ((rd_T46 l0_2 x23_2).f1), .int .i64 ((rd_T46 l0_2 x23_2).f2.f0), .bool ((rd_T46 l0_2 x23_2).f2.f1), .int .u32 ((rd_T46 l0_2 x23_2).f2.f2), .int .i64 ((rd_T46 l0_2 x23_2).f2.f3.f0), .int .i64 ((rd_T46 l0_2 x23_2).f2.f3.f1), .int .i64 ((rd_T46 l0_2 x23_2).f2.f3.f2), .int .i64 ((rd_T46 l0_2 x23_2).f2.f3.f3), .int .i64 ((rd_T46 l0_2 x23_2).f2.f4), .int .i64 ((rd_T46 l0_2 x23_2).f3), .slice A132_11 ((rd_T46 l0_2 x23_2).f4).length c132_11], .agg #[.int .i64 ((rd_T46 l1_2 x23_2).f0), .int .i64 ((rd_T46 l1_2 x23_2).f1), .int .i64 ((rd_T46 l1_2 x23_2).f2.f0), .bool ((rd_T46 l1_2 x23_2).f2.f1), .int .u32 ((rd_T46 l1_2 x23_2).f2.f2), .int .i64 ((rd_T46 l1_2 x23_2).f2.f3.f0), .int .i64 ((rd_T46 l1_2 x23_2).f2.f3.f1), .int .i64 ((rd_T46 l1_2 x23_2).f2.f3.f2), .int .i64 ((rd_T46 l1_2 x23_2).f2.f3.f3), .int .i64 ((rd_T46 l1_2 x23_2).f2.f4), .int .i64 ((rd_T46 l1_2 x23_2).f3), .slice A133_11 ((rd_T46 l1_2 x23_2).f4).length c133_11]] (by rfl) rfl rfl (by (try simp only [List.map_toArray, List.map_cons, List.map_nil]); first | done | rfl | (simp only [List.length_drop, List.length_take]; rfl)) ?_
                      with_reducible refine (gazetteerref26_same.calls k2 ((rd_T46 l0_2 x23_2).f0) ((rd_T46 l0_2 x23_2).f1) ((rd_T46 l0_2 x23_2).f2.f0) ((rd_T46 l0_2 x23_2).f2.f1) ((rd_T46 l0_2 x23_2).f2.f2) ((rd_T46 l0_2 x23_2).f2.f3.f0) ((rd_T46 l0_2 x23_2).f2.f3.f1) ((rd_T46 l0_2 x23_2).f2.f3.f2) ((rd_T46 l0_2 x23_2).f2.f3.f3) ((rd_T46 l0_2 x23_2).f2.f4) ((rd_T46 l0_2 x23_2).f3) _ _ ((rd_T46 l0_2 x23_2).f4) ((rd_T46 l1_2 x23_2).f0) ((rd_T46 l1_2 x23_2).f1) ((rd_T46 l1_2 x23_2).f2.f0) ((rd_T46 l1_2 x23_2).f2.f1) ((rd_T46 l1_2 x23_2).f2.f2) ((rd_T46 l1_2 x23_2).f2.f3.f0) ((rd_T46 l1_2 x23_2).f2.f3.f1) ((rd_T46 l1_2 x23_2).f2.f3.f2) ((rd_T46 l1_2 x23_2).f2.f3.f3) ((rd_T46 l1_2 x23_2).f2.f4) ((rd_T46 l1_2 x23_2).f3) _ _ ((rd_T46 l1_2 x23_2).f4) true _ ?side1 ?side2 ?side3 ?side4 A20.out).mono ?_
                      (case side1 => repeat (first | exact (Kd.C_below HR132_11.out HB.out) | (with_reducible refine Kd.C_alloc ?_ _) | (with_reducible refine Kd.C_drewN ?_ _) | (with_reducible refine Kd.C_drew ?_)))
                      (case side2 => exact HC132_11.out)
                      (case side3 => repeat (first | exact (Kd.C_below HR133_11.out HB.out) | (with_reducible refine Kd.C_alloc ?_ _) | (with_reducible refine Kd.C_drewN ?_ _) | (with_reducible refine Kd.C_drew ?_)))
                      (case side4 => exact HC133_11.out)
                      rintro e w23 ⟨rfl, hb⟩
                      refine ⟨_, rfl, ?_⟩
                      have n0_ := Aside0.mk (blk_below (g := gb130) (o := .cells #[.int .i64 a0_0, .int .i64 a0_1, .slice (some ad132) l0_2.length c0_2] 27 (0, 0)) (by (with_reducible repeat (first | refine blk_drewN ?_ _ | refine blk_drew ?_ | refine blk_alloc ?_ _)); exact BK130.out) hb)
                      have n1_ := Aside0.mk (blk_below (g := gb131) (o := .cells #[.int .i64 a1_0, .int .i64 a1_1, .slice (some ad133) l1_2.length c1_2] 27 (0, 0)) (by (with_reducible repeat (first | refine blk_drewN ?_ _ | refine blk_drew ?_ | refine blk_alloc ?_ _)); exact BK131.out) hb)
                      have n2_ := Aside0.mk (below_step (by repeat (first | (with_reducible first | exact HB.out | apply below_alloc | apply pw_below_drewN | apply below_drew1 | refine below_set ?_ GE130.out | refine below_set ?_ GE131.out) | exact HB.out)) hb)
                      clear BK130
                      clear BK131
                      clear HB
                      have BK130 := n0_
                      have BK131 := n1_
                      have HB := n2_
                      clear n0_ n1_ n2_
                      (try clear hb)
                      (try clear hb2)
                      (try clear hk)
                      (try clear hi)
                      refine hK.out _ _ ⟨(blk_cell BK130.out 0).trans rfl, (blk_cell BK130.out 1).trans rfl, (blk_cell BK130.out 2).trans rfl, (blk_cell BK131.out 0).trans rfl, (blk_cell BK131.out 1).trans rfl, (blk_cell BK131.out 2).trans rfl, ((HB.out.cell (World.block_lt_of_cell? w _ hw132_0)).trans hw132_0), ((HB.out.cell (World.block_lt_of_cell? w _ hw132_1)).trans hw132_1), ((HB.out.cell (World.block_lt_of_cell? w _ hw132_2)).trans hw132_2), ((HB.out.cell (World.block_lt_of_cell? w _ hw132_3)).trans hw132_3), ((HB.out.cell (World.block_lt_of_cell? w _ hw132_4)).trans hw132_4), ((HB.out.cell (World.block_lt_of_cell? w _ hw132_5)).trans hw132_5), ((HB.out.cell (World.block_lt_of_cell? w _ hw132_6)).trans hw132_6), ((HB.out.cell (World.block_lt_of_cell? w _ hw132_7)).trans hw132_7), ((HB.out.cell (World.block_lt_of_cell? w _ hw132_8)).trans hw132_8), ((HB.out.cell (World.block_lt_of_cell? w _ hw132_9)).trans hw132_9), ((HB.out.cell (World.block_lt_of_cell? w _ hw132_10)).trans hw132_10), ((HB.out.cell (World.block_lt_of_cell? w _ hw132_11)).trans hw132_11), ((HB.out.cell (World.block_lt_of_cell? w _ hw133_0)).trans hw133_0), ((HB.out.cell (World.block_lt_of_cell? w _ hw133_1)).trans hw133_1), ((HB.out.cell (World.block_lt_of_cell? w _ hw133_2)).trans hw133_2), ((HB.out.cell (World.block_lt_of_cell? w _ hw133_3)).trans hw133_3), ((HB.out.cell (World.block_lt_of_cell? w _ hw133_4)).trans hw133_4), ((HB.out.cell (World.block_lt_of_cell? w _ hw133_5)).trans hw133_5), ((HB.out.cell (World.block_lt_of_cell? w _ hw133_6)).trans hw133_6), ((HB.out.cell (World.block_lt_of_cell? w _ hw133_7)).trans hw133_7), ((HB.out.cell (World.block_lt_of_cell? w _ hw133_8)).trans hw133_8), ((HB.out.cell (World.block_lt_of_cell? w _ hw133_9)).trans hw133_9), ((HB.out.cell (World.block_lt_of_cell? w _ hw133_10)).trans hw133_10), ((HB.out.cell (World.block_lt_of_cell? w _ hw133_11)).trans hw133_11)⟩ (fun hHeld => ?_)
                      clear hK K
                      refine norm_ (a' := ?_) ?_ ?_
                      rotate_left
                      · show Act.put _ (some 36) _ = _
                        simp only [Act.put, List.setIfInBounds_toArray, List.set_cons_zero, List.set_cons_succ, i64_w, i32_w]
                        rfl
                      refine pure_ (i := 11) (N := some 37) (v := ?_) (a' := ?_) #[true, true, true, true, true, true, true, true, true, true, true, true] rfl rfl (any_of HT_.out (by kernel_rfl)) (fun _ _ _ h => h) (Or.inl ⟨by rfl, ?_⟩) ?_ ?_
                      rotate_left
                      · intro w'
                        go_simp
                        with_reducible rfl
                      rotate_left
                      · simp only [Act.put, List.setIfInBounds_toArray, List.set_cons_zero, List.set_cons_succ, i64_w, i32_w]
                        rfl
                      refine done_ (done_of HT_.out (by kernel_rfl)) ?_
                      try go_wp2
                      go_roundg k2
                      case measure => have := HJ2.out; have := HK2.out; omega
                      case rel => exact ⟨(wrap64 (x23_2 + 1)), (by first | rfl | (simp; done) | (simp [*]; done)), H', ⟨by have := HJ2.out; have := HK2.out; omega⟩, ⟨by (with_reducible repeat (first | refine blk_drewN ?_ _ | refine blk_drew ?_ | refine blk_alloc ?_ _)); exact BK130.out⟩, ⟨by (with_reducible repeat (first | refine blk_drewN ?_ _ | refine blk_drew ?_ | refine blk_alloc ?_ _)); exact BK131.out⟩, ⟨by repeat (first | (with_reducible first | exact HB.out | apply below_alloc | apply pw_below_drewN | apply below_drew1 | refine below_set ?_ GE130.out | refine below_set ?_ GE131.out) | exact HB.out)⟩⟩
                    · replace c21 := Bool.eq_false_iff.mpr c21
                      subst c21
                      have H1 : (some false) = some r := by rw [if_neg (show ¬ (false = true) by decide)] at H; exact H
                      clear H
                      have H := H1
                      clear H1
                      obtain rfl := Option.some.inj H
                      try go_wp2
                      have n0_ := Aside0.mk (blk_drew BK130.out)
                      have n1_ := Aside0.mk (blk_drew BK131.out)
                      have n2_ := Aside0.mk (below_drew1 HB.out)
                      clear BK130
                      clear BK131
                      clear HB
                      have BK130 := n0_
                      have BK131 := n1_
                      have HB := n2_
                      clear n0_ n1_ n2_
                      have p132 : 0 ≤ (x23_2 : Int) := of_decide_eq_true (by first | (with_reducible assumption) | assumption)
                      have q132 : x23_2 < (l0_2.length : Int) := of_decide_eq_true (by first | (with_reducible assumption) | assumption)
                      obtain ⟨ad132, A132_11, c132_11, e132, hx132_0, hx132_1, hx132_2, hx132_3, hx132_4, hx132_5, hx132_6, hx132_7, hx132_8, hx132_9, hx132_10, hx132_11, hl132_11, hi132_11⟩ := at_T46 HR0_2.out x23_2 p132 q132
                      have hw132_11 := hx132_11
                      have hw132_10 := hx132_10
                      have hw132_9 := hx132_9
                      have hw132_8 := hx132_8
                      have hw132_7 := hx132_7
                      have hw132_6 := hx132_6
                      have hw132_5 := hx132_5
                      have hw132_4 := hx132_4
                      have hw132_3 := hx132_3
                      have hw132_2 := hx132_2
                      have hw132_1 := hx132_1
                      have hw132_0 := hx132_0
                      cases e132
                      replace hx132_0 := (HB.out.cell (World.block_lt_of_cell? w _ hx132_0)).trans hx132_0
                      replace hx132_1 := (HB.out.cell (World.block_lt_of_cell? w _ hx132_1)).trans hx132_1
                      replace hx132_2 := (HB.out.cell (World.block_lt_of_cell? w _ hx132_2)).trans hx132_2
                      replace hx132_3 := (HB.out.cell (World.block_lt_of_cell? w _ hx132_3)).trans hx132_3
                      replace hx132_4 := (HB.out.cell (World.block_lt_of_cell? w _ hx132_4)).trans hx132_4
                      replace hx132_5 := (HB.out.cell (World.block_lt_of_cell? w _ hx132_5)).trans hx132_5
                      replace hx132_6 := (HB.out.cell (World.block_lt_of_cell? w _ hx132_6)).trans hx132_6
                      replace hx132_7 := (HB.out.cell (World.block_lt_of_cell? w _ hx132_7)).trans hx132_7
                      replace hx132_8 := (HB.out.cell (World.block_lt_of_cell? w _ hx132_8)).trans hx132_8
                      replace hx132_9 := (HB.out.cell (World.block_lt_of_cell? w _ hx132_9)).trans hx132_9
                      replace hx132_10 := (HB.out.cell (World.block_lt_of_cell? w _ hx132_10)).trans hx132_10
                      replace hx132_11 := (HB.out.cell (World.block_lt_of_cell? w _ hx132_11)).trans hx132_11
                      have HR132_11 := Aside0.mk hi132_11
                      have HC132_11 := Aside0.mk hl132_11
                      clear hi132_11 hl132_11
                      replace p132 := eq_true p132
                      replace q132 := eq_true q132
                      have p133 : 0 ≤ (x23_2 : Int) := of_decide_eq_true (by first | (with_reducible assumption) | assumption)
                      have q133 : x23_2 < (l1_2.length : Int) := of_decide_eq_true (by first | (with_reducible assumption) | assumption)
                      obtain ⟨ad133, A133_11, c133_11, e133, hx133_0, hx133_1, hx133_2, hx133_3, hx133_4, hx133_5, hx133_6, hx133_7, hx133_8, hx133_9, hx133_10, hx133_11, hl133_11, hi133_11⟩ := at_T46 HR1_2.out x23_2 p133 q133
                      have hw133_11 := hx133_11
                      have hw133_10 := hx133_10
                      have hw133_9 := hx133_9
                      have hw133_8 := hx133_8
                      have hw133_7 := hx133_7
                      have hw133_6 := hx133_6
                      have hw133_5 := hx133_5
                      have hw133_4 := hx133_4
                      have hw133_3 := hx133_3
                      have hw133_2 := hx133_2
                      have hw133_1 := hx133_1
                      have hw133_0 := hx133_0
                      cases e133
                      replace hx133_0 := (HB.out.cell (World.block_lt_of_cell? w _ hx133_0)).trans hx133_0
                      replace hx133_1 := (HB.out.cell (World.block_lt_of_cell? w _ hx133_1)).trans hx133_1
                      replace hx133_2 := (HB.out.cell (World.block_lt_of_cell? w _ hx133_2)).trans hx133_2
                      replace hx133_3 := (HB.out.cell (World.block_lt_of_cell? w _ hx133_3)).trans hx133_3
                      replace hx133_4 := (HB.out.cell (World.block_lt_of_cell? w _ hx133_4)).trans hx133_4
                      replace hx133_5 := (HB.out.cell (World.block_lt_of_cell? w _ hx133_5)).trans hx133_5
                      replace hx133_6 := (HB.out.cell (World.block_lt_of_cell? w _ hx133_6)).trans hx133_6
                      replace hx133_7 := (HB.out.cell (World.block_lt_of_cell? w _ hx133_7)).trans hx133_7
                      replace hx133_8 := (HB.out.cell (World.block_lt_of_cell? w _ hx133_8)).trans hx133_8
                      replace hx133_9 := (HB.out.cell (World.block_lt_of_cell? w _ hx133_9)).trans hx133_9
                      replace hx133_10 := (HB.out.cell (World.block_lt_of_cell? w _ hx133_10)).trans hx133_10
                      replace hx133_11 := (HB.out.cell (World.block_lt_of_cell? w _ hx133_11)).trans hx133_11
                      have HR133_11 := Aside0.mk hi133_11
                      have HC133_11 := Aside0.mk hl133_11
                      clear hi133_11 hl133_11
                      replace p133 := eq_true p133
                      replace q133 := eq_true q133
                      refine start_ (n := 12) (S := fun w' => w'.cell? ⟨gb130, 0, none⟩ = some (.int .i64 a0_0) ∧ w'.cell? ⟨gb130, 1, none⟩ = some (.int .i64 a0_1) ∧ w'.cell? ⟨gb130, 2, none⟩ = some (.slice (some ad132) l0_2.length c0_2) ∧ w'.cell? ⟨gb131, 0, none⟩ = some (.int .i64 a1_0) ∧ w'.cell? ⟨gb131, 1, none⟩ = some (.int .i64 a1_1) ∧ w'.cell? ⟨gb131, 2, none⟩ = some (.slice (some ad133) l1_2.length c1_2) ∧ w'.cell? (ad132.add ((x23_2).toNat * 12)) = some (.int .i64 ((rd_T46 l0_2 x23_2).f0)) ∧ w'.cell? ⟨(ad132.add ((x23_2).toNat * 12)).block, (ad132.add ((x23_2).toNat * 12)).off + 1, none⟩ = some (.int .i64 ((rd_T46 l0_2 x23_2).f1)) ∧ w'.cell? ⟨(ad132.add ((x23_2).toNat * 12)).block, (ad132.add ((x23_2).toNat * 12)).off + 2, none⟩ = some (.int .i64 ((rd_T46 l0_2 x23_2).f2.f0)) ∧ w'.cell? ⟨(ad132.add ((x23_2).toNat * 12)).block, (ad132.add ((x23_2).toNat * 12)).off + 3, none⟩ = some (.bool ((rd_T46 l0_2 x23_2).f2.f1)) ∧ w'.cell? ⟨(ad132.add ((x23_2).toNat * 12)).block, (ad132.add ((x23_2).toNat * 12)).off + 4, none⟩ = some (.int .u32 ((rd_T46 l0_2 x23_2).f2.f2)) ∧ w'.cell? ⟨(ad132.add ((x23_2).toNat * 12)).block, (ad132.add ((x23_2).toNat * 12)).off + 5, none⟩ = some (.int .i64 ((rd_T46 l0_2 x23_2).f2.f3.f0)) ∧ w'.cell? ⟨(ad132.add ((x23_2).toNat * 12)).block, (ad132.add ((x23_2).toNat * 12)).off + 6, none⟩ = some (.int .i64 ((rd_T46 l0_2 x23_2).f2.f3.f1)) ∧ w'.cell? ⟨(ad132.add ((x23_2).toNat * 12)).block, (ad132.add ((x23_2).toNat * 12)).off + 7, none⟩ = some (.int .i64 ((rd_T46 l0_2 x23_2).f2.f3.f2)) ∧ w'.cell? ⟨(ad132.add ((x23_2).toNat * 12)).block, (ad132.add ((x23_2).toNat * 12)).off + 8, none⟩ = some (.int .i64 ((rd_T46 l0_2 x23_2).f2.f3.f3)) ∧ w'.cell? ⟨(ad132.add ((x23_2).toNat * 12)).block, (ad132.add ((x23_2).toNat * 12)).off + 9, none⟩ = some (.int .i64 ((rd_T46 l0_2 x23_2).f2.f4)) ∧ w'.cell? ⟨(ad132.add ((x23_2).toNat * 12)).block, (ad132.add ((x23_2).toNat * 12)).off + 10, none⟩ = some (.int .i64 ((rd_T46 l0_2 x23_2).f3)) ∧ w'.cell? ⟨(ad132.add ((x23_2).toNat * 12)).block, (ad132.add ((x23_2).toNat * 12)).off + 11, none⟩ = some (.slice A132_11 ((rd_T46 l0_2 x23_2).f4).length c132_11) ∧ w'.cell? (ad133.add ((x23_2).toNat * 12)) = some (.int .i64 ((rd_T46 l1_2 x23_2).f0)) ∧ w'.cell? ⟨(ad133.add ((x23_2).toNat * 12)).block, (ad133.add ((x23_2).toNat * 12)).off + 1, none⟩ = some (.int .i64 ((rd_T46 l1_2 x23_2).f1)) ∧ w'.cell? ⟨(ad133.add ((x23_2).toNat * 12)).block, (ad133.add ((x23_2).toNat * 12)).off + 2, none⟩ = some (.int .i64 ((rd_T46 l1_2 x23_2).f2.f0)) ∧ w'.cell? ⟨(ad133.add ((x23_2).toNat * 12)).block, (ad133.add ((x23_2).toNat * 12)).off + 3, none⟩ = some (.bool ((rd_T46 l1_2 x23_2).f2.f1)) ∧ w'.cell? ⟨(ad133.add ((x23_2).toNat * 12)).block, (ad133.add ((x23_2).toNat * 12)).off + 4, none⟩ = some (.int .u32 ((rd_T46 l1_2 x23_2).f2.f2)) ∧ w'.cell? ⟨(ad133.add ((x23_2).toNat * 12)).block, (ad133.add ((x23_2).toNat * 12)).off + 5, none⟩ = some (.int .i64 ((rd_T46 l1_2 x23_2).f2.f3.f0)) ∧ w'.cell? ⟨(ad133.add ((x23_2).toNat * 12)).block, (ad133.add ((x23_2).toNat * 12)).off + 6, none⟩ = some (.int .i64 ((rd_T46 l1_2 x23_2).f2.f3.f1)) ∧ w'.cell? ⟨(ad133.add ((x23_2).toNat * 12)).block, (ad133.add ((x23_2).toNat * 12)).off + 7, none⟩ = some (.int .i64 ((rd_T46 l1_2 x23_2).f2.f3.f2)) ∧ w'.cell? ⟨(ad133.add ((x23_2).toNat * 12)).block, (ad133.add ((x23_2).toNat * 12)).off + 8, none⟩ = some (.int .i64 ((rd_T46 l1_2 x23_2).f2.f3.f3)) ∧ w'.cell? ⟨(ad133.add ((x23_2).toNat * 12)).block, (ad133.add ((x23_2).toNat * 12)).off + 9, none⟩ = some (.int .i64 ((rd_T46 l1_2 x23_2).f2.f4)) ∧ w'.cell? ⟨(ad133.add ((x23_2).toNat * 12)).block, (ad133.add ((x23_2).toNat * 12)).off + 10, none⟩ = some (.int .i64 ((rd_T46 l1_2 x23_2).f3)) ∧ w'.cell? ⟨(ad133.add ((x23_2).toNat * 12)).block, (ad133.add ((x23_2).toNat * 12)).off + 11, none⟩ = some (.slice A133_11 ((rd_T46 l1_2 x23_2).f4).length c133_11)) (ds := []) #[false, false, false, false, false, false, false, false, false, false, false, false] (by kernel_rfl) rfl rfl ⟨(blk_cell BK130.out 0).trans rfl, (blk_cell BK130.out 1).trans rfl, (blk_cell BK130.out 2).trans rfl, (blk_cell BK131.out 0).trans rfl, (blk_cell BK131.out 1).trans rfl, (blk_cell BK131.out 2).trans rfl, ((HB.out.cell (World.block_lt_of_cell? w _ hw132_0)).trans hw132_0), ((HB.out.cell (World.block_lt_of_cell? w _ hw132_1)).trans hw132_1), ((HB.out.cell (World.block_lt_of_cell? w _ hw132_2)).trans hw132_2), ((HB.out.cell (World.block_lt_of_cell? w _ hw132_3)).trans hw132_3), ((HB.out.cell (World.block_lt_of_cell? w _ hw132_4)).trans hw132_4), ((HB.out.cell (World.block_lt_of_cell? w _ hw132_5)).trans hw132_5), ((HB.out.cell (World.block_lt_of_cell? w _ hw132_6)).trans hw132_6), ((HB.out.cell (World.block_lt_of_cell? w _ hw132_7)).trans hw132_7), ((HB.out.cell (World.block_lt_of_cell? w _ hw132_8)).trans hw132_8), ((HB.out.cell (World.block_lt_of_cell? w _ hw132_9)).trans hw132_9), ((HB.out.cell (World.block_lt_of_cell? w _ hw132_10)).trans hw132_10), ((HB.out.cell (World.block_lt_of_cell? w _ hw132_11)).trans hw132_11), ((HB.out.cell (World.block_lt_of_cell? w _ hw133_0)).trans hw133_0), ((HB.out.cell (World.block_lt_of_cell? w _ hw133_1)).trans hw133_1), ((HB.out.cell (World.block_lt_of_cell? w _ hw133_2)).trans hw133_2), ((HB.out.cell (World.block_lt_of_cell? w _ hw133_3)).trans hw133_3), ((HB.out.cell (World.block_lt_of_cell? w _ hw133_4)).trans hw133_4), ((HB.out.cell (World.block_lt_of_cell? w _ hw133_5)).trans hw133_5), ((HB.out.cell (World.block_lt_of_cell? w _ hw133_6)).trans hw133_6), ((HB.out.cell (World.block_lt_of_cell? w _ hw133_7)).trans hw133_7), ((HB.out.cell (World.block_lt_of_cell? w _ hw133_8)).trans hw133_8), ((HB.out.cell (World.block_lt_of_cell? w _ hw133_9)).trans hw133_9), ((HB.out.cell (World.block_lt_of_cell? w _ hw133_10)).trans hw133_10), ((HB.out.cell (World.block_lt_of_cell? w _ hw133_11)).trans hw133_11)⟩ (fun hHeld => ?_); refine with_tabW gazetteerref26_Same.tab6 gazetteerref26_Same.bits6 (fun HT_ HW_ => ?_)
                      generalize wr.drew = w24 at BK130 BK131 HB HR132_11 HR133_11 hx132_0 hx132_1 hx132_10 hx132_11 hx132_2 hx132_3 hx132_4 hx132_5 hx132_6 hx132_7 hx132_8 hx132_9 hx133_0 hx133_1 hx133_10 hx133_11 hx133_2 hx133_3 hx133_4 hx133_5 hx133_6 hx133_7 hx133_8 hx133_9 hHeld ⊢
                      refine pure_ (i := 0) (N := some 26) (v := ?_) (a' := ?_) #[true, false, false, false, false, false, false, false, false, false, false, false] rfl rfl (any_of HT_.out (by kernel_rfl)) (fun _ _ _ h => h) (Or.inl ⟨by rfl, ?_⟩) ?_ ?_
                      rotate_left
                      · intro w'
                        go_simp
                        with_reducible rfl
                      rotate_left
                      · simp only [Act.put, List.setIfInBounds_toArray, List.set_cons_zero, List.set_cons_succ, i64_w, i32_w]
                        rfl
                      refine pure_ (i := 2) (N := some 28) (v := ?_) (a' := ?_) #[true, false, true, false, false, false, false, false, false, false, false, false] rfl rfl (any_of HT_.out (by kernel_rfl)) (fun _ _ _ h => h) (Or.inl ⟨by rfl, ?_⟩) ?_ ?_
                      rotate_left
                      · intro w'
                        go_simp
                        with_reducible rfl
                      rotate_left
                      · simp only [Act.put, List.setIfInBounds_toArray, List.set_cons_zero, List.set_cons_succ, i64_w, i32_w]
                        rfl
                      refine pure_ (i := 5) (N := some 31) (v := ?_) (a' := ?_) #[true, false, true, false, false, true, false, false, false, false, false, false] rfl rfl (any_of HT_.out (by kernel_rfl)) (fun _ _ _ h => h) (Or.inl ⟨by rfl, ?_⟩) ?_ ?_
                      rotate_left
                      · intro w'
                        go_simp
                        with_reducible rfl
                      rotate_left
                      · simp only [Act.put, List.setIfInBounds_toArray, List.set_cons_zero, List.set_cons_succ, i64_w, i32_w]
                        rfl
                      refine pure_ (i := 7) (N := some 33) (v := ?_) (a' := ?_) #[true, false, true, false, false, true, false, true, false, false, false, false] rfl rfl (any_of HT_.out (by kernel_rfl)) (fun _ _ _ h => h) (Or.inl ⟨by rfl, ?_⟩) ?_ ?_
                      rotate_left
                      · intro w'
                        go_simp
                        with_reducible rfl
                      rotate_left
                      · simp only [Act.put, List.setIfInBounds_toArray, List.set_cons_zero, List.set_cons_succ, i64_w, i32_w]
                        rfl
                      refine take_ (i := 1) (N := some 27) (v := ?_) (a' := ?_) #[true, true, true, false, false, true, false, true, false, false, false, false] rfl rfl (take_ofW HT_.out HW_.out (by kernel_rfl)) (fun _ _ _ h => h) (Or.inl ⟨by rfl, ?_⟩) hHeld ?_ ?_
                      rotate_left
                      · rintro w' ⟨s0, s1, s2, s3, s4, s5, s6, s7, s8, s9, s10, s11, s12, s13, s14, s15, s16, s17, s18, s19, s20, s21, s22, s23, s24, s25, s26, s27, s28, s29⟩
                        go_simp
                        with_reducible rfl
                      rotate_left
                      · simp only [Act.put, List.setIfInBounds_toArray, List.set_cons_zero, List.set_cons_succ, i64_w, i32_w]
                        rfl
                      refine pure_ (i := 3) (N := some 29) (v := ?_) (a' := ?_) #[true, true, true, true, false, true, false, true, false, false, false, false] rfl rfl (any_of HT_.out (by kernel_rfl)) (fun _ _ _ h => h) (Or.inl ⟨by rfl, ?_⟩) ?_ ?_
                      rotate_left
                      · intro w'
                        go_simp
                        with_reducible rfl
                      rotate_left
                      · simp only [Act.put, List.setIfInBounds_toArray, List.set_cons_zero, List.set_cons_succ, i64_w, i32_w]
                        rfl
                      refine take_ (i := 4) (N := some 30) (v := ?_) (a' := ?_) #[true, true, true, true, true, true, false, true, false, false, false, false] rfl rfl (take_ofW HT_.out HW_.out (by kernel_rfl)) (fun _ _ _ h => h) (Or.inl ⟨by rfl, ?_⟩) hHeld ?_ ?_
                      rotate_left
                      · rintro w' ⟨s0, s1, s2, s3, s4, s5, s6, s7, s8, s9, s10, s11, s12, s13, s14, s15, s16, s17, s18, s19, s20, s21, s22, s23, s24, s25, s26, s27, s28, s29⟩
                        go_simp
                        with_reducible rfl
                      rotate_left
                      · simp only [Act.put, List.setIfInBounds_toArray, List.set_cons_zero, List.set_cons_succ, i64_w, i32_w]
                        rfl
                      refine take_ (i := 6) (N := some 32) (v := ?_) (a' := ?_) #[true, true, true, true, true, true, true, true, false, false, false, false] rfl rfl (take_ofW HT_.out HW_.out (by kernel_rfl)) (fun _ _ _ h => h) (Or.inl ⟨by rfl, ?_⟩) hHeld ?_ ?_
                      rotate_left
                      · rintro w' ⟨s0, s1, s2, s3, s4, s5, s6, s7, s8, s9, s10, s11, s12, s13, s14, s15, s16, s17, s18, s19, s20, s21, s22, s23, s24, s25, s26, s27, s28, s29⟩
                        go_simp
                        with_reducible rfl
                      rotate_left
                      · simp only [Act.put, List.setIfInBounds_toArray, List.set_cons_zero, List.set_cons_succ, i64_w, i32_w]
                        rfl
                      refine pure_ (i := 8) (N := some 34) (v := ?_) (a' := ?_) #[true, true, true, true, true, true, true, true, true, false, false, false] rfl rfl (any_of HT_.out (by kernel_rfl)) (fun _ _ _ h => h) (Or.inl ⟨by rfl, ?_⟩) ?_ ?_
                      rotate_left
                      · intro w'
                        go_simp
                        with_reducible rfl
                      rotate_left
                      · simp only [Act.put, List.setIfInBounds_toArray, List.set_cons_zero, List.set_cons_succ, i64_w, i32_w]
                        rfl
                      refine take_ (i := 9) (N := some 35) (v := ?_) (a' := ?_) #[true, true, true, true, true, true, true, true, true, true, false, false] rfl rfl (take_ofW HT_.out HW_.out (by kernel_rfl)) (fun _ _ _ h => h) (Or.inl ⟨by rfl, ?_⟩) hHeld ?_ ?_
                      rotate_left
                      · rintro w' ⟨s0, s1, s2, s3, s4, s5, s6, s7, s8, s9, s10, s11, s12, s13, s14, s15, s16, s17, s18, s19, s20, s21, s22, s23, s24, s25, s26, s27, s28, s29⟩
                        go_simp
                        with_reducible rfl
                      rotate_left
                      · simp only [Act.put, List.setIfInBounds_toArray, List.set_cons_zero, List.set_cons_succ, i64_w, i32_w]
                        rfl
                      refine one_ (i := 10) (N := some 36) #[true, true, true, true, true, true, true, true, true, true, true, false] rfl rfl (one_of HT_.out (by kernel_rfl)) (by decide) (fun K hK => ?_)
                      refine goes_ Tryd.func23 (by kernel_rfl) rfl #[.agg #[.int .i64 ((rd_T46 l0_2 x23_2).f0), .int .i64 ((rd_T46 l0_2 x23_2).f1), .int .i64 ((rd_T46 l0_2 x23_2).f2.f0), .bool ((rd_T46 l0_2 x23_2).f2.f1), .int .u32 ((rd_T46 l0_2 x23_2).f2.f2), .int .i64 ((rd_T46 l0_2 x23_2).f2.f3.f0), .int .i64 ((rd_T46 l0_2 x23_2).f2.f3.f1), .int .i64 ((rd_T46 l0_2 x23_2).f2.f3.f2), .int .i64 ((rd_T46 l0_2 x23_2).f2.f3.f3), .int .i64 ((rd_T46 l0_2 x23_2).f2.f4), .int .i64 ((rd_T46 l0_2 x23_2).f3), .slice A132_11 ((rd_T46 l0_2 x23_2).f4).length c132_11], .agg #[.int .i64 ((rd_T46 l1_2 x23_2).f0), .int .i64 ((rd_T46 l1_2 x23_2).f1), .int .i64 ((rd_T46 l1_2 x23_2).f2.f0), .bool ((rd_T46 l1_2 x23_2).f2.f1), .int .u32 ((rd_T46 l1_2 x23_2).f2.f2), .int .i64 ((rd_T46 l1_2 x23_2).f2.f3.f0), .int .i64 ((rd_T46 l1_2 x23_2).f2.f3.f1), .int .i64 ((rd_T46 l1_2 x23_2).f2.f3.f2), .int .i64 ((rd_T46 l1_2 x23_2).f2.f3.f3), .int .i64 ((rd_T46 l1_2 x23_2).f2.f4), .int .i64 ((rd_T46 l1_2 x23_2).f3), .slice A133_11 ((rd_T46 l1_2 x23_2).f4).length c133_11]] (by rfl) rfl rfl (by (try simp only [List.map_toArray, List.map_cons, List.map_nil]); first | done | rfl | (simp only [List.length_drop, List.length_take]; rfl)) ?_
                      with_reducible refine (gazetteerref26_same.calls k2 ((rd_T46 l0_2 x23_2).f0) ((rd_T46 l0_2 x23_2).f1) ((rd_T46 l0_2 x23_2).f2.f0) ((rd_T46 l0_2 x23_2).f2.f1) ((rd_T46 l0_2 x23_2).f2.f2) ((rd_T46 l0_2 x23_2).f2.f3.f0) ((rd_T46 l0_2 x23_2).f2.f3.f1) ((rd_T46 l0_2 x23_2).f2.f3.f2) ((rd_T46 l0_2 x23_2).f2.f3.f3) ((rd_T46 l0_2 x23_2).f2.f4) ((rd_T46 l0_2 x23_2).f3) _ _ ((rd_T46 l0_2 x23_2).f4) ((rd_T46 l1_2 x23_2).f0) ((rd_T46 l1_2 x23_2).f1) ((rd_T46 l1_2 x23_2).f2.f0) ((rd_T46 l1_2 x23_2).f2.f1) ((rd_T46 l1_2 x23_2).f2.f2) ((rd_T46 l1_2 x23_2).f2.f3.f0) ((rd_T46 l1_2 x23_2).f2.f3.f1) ((rd_T46 l1_2 x23_2).f2.f3.f2) ((rd_T46 l1_2 x23_2).f2.f3.f3) ((rd_T46 l1_2 x23_2).f2.f4) ((rd_T46 l1_2 x23_2).f3) _ _ ((rd_T46 l1_2 x23_2).f4) false _ ?side1 ?side2 ?side3 ?side4 A20.out).mono ?_
                      (case side1 => repeat (first | exact (Kd.C_below HR132_11.out HB.out) | (with_reducible refine Kd.C_alloc ?_ _) | (with_reducible refine Kd.C_drewN ?_ _) | (with_reducible refine Kd.C_drew ?_)))
                      (case side2 => exact HC132_11.out)
                      (case side3 => repeat (first | exact (Kd.C_below HR133_11.out HB.out) | (with_reducible refine Kd.C_alloc ?_ _) | (with_reducible refine Kd.C_drewN ?_ _) | (with_reducible refine Kd.C_drew ?_)))
                      (case side4 => exact HC133_11.out)
                      rintro e w25 ⟨rfl, hb⟩
                      refine ⟨_, rfl, ?_⟩
                      have n0_ := Aside0.mk (blk_below (g := gb130) (o := .cells #[.int .i64 a0_0, .int .i64 a0_1, .slice (some ad132) l0_2.length c0_2] 27 (0, 0)) (by (with_reducible repeat (first | refine blk_drewN ?_ _ | refine blk_drew ?_ | refine blk_alloc ?_ _)); exact BK130.out) hb)
                      have n1_ := Aside0.mk (blk_below (g := gb131) (o := .cells #[.int .i64 a1_0, .int .i64 a1_1, .slice (some ad133) l1_2.length c1_2] 27 (0, 0)) (by (with_reducible repeat (first | refine blk_drewN ?_ _ | refine blk_drew ?_ | refine blk_alloc ?_ _)); exact BK131.out) hb)
                      have n2_ := Aside0.mk (below_step (by repeat (first | (with_reducible first | exact HB.out | apply below_alloc | apply pw_below_drewN | apply below_drew1 | refine below_set ?_ GE130.out | refine below_set ?_ GE131.out) | exact HB.out)) hb)
                      clear BK130
                      clear BK131
                      clear HB
                      have BK130 := n0_
                      have BK131 := n1_
                      have HB := n2_
                      clear n0_ n1_ n2_
                      (try clear hb)
                      (try clear hb2)
                      (try clear hk)
                      (try clear hi)
                      refine hK.out _ _ ⟨(blk_cell BK130.out 0).trans rfl, (blk_cell BK130.out 1).trans rfl, (blk_cell BK130.out 2).trans rfl, (blk_cell BK131.out 0).trans rfl, (blk_cell BK131.out 1).trans rfl, (blk_cell BK131.out 2).trans rfl, ((HB.out.cell (World.block_lt_of_cell? w _ hw132_0)).trans hw132_0), ((HB.out.cell (World.block_lt_of_cell? w _ hw132_1)).trans hw132_1), ((HB.out.cell (World.block_lt_of_cell? w _ hw132_2)).trans hw132_2), ((HB.out.cell (World.block_lt_of_cell? w _ hw132_3)).trans hw132_3), ((HB.out.cell (World.block_lt_of_cell? w _ hw132_4)).trans hw132_4), ((HB.out.cell (World.block_lt_of_cell? w _ hw132_5)).trans hw132_5), ((HB.out.cell (World.block_lt_of_cell? w _ hw132_6)).trans hw132_6), ((HB.out.cell (World.block_lt_of_cell? w _ hw132_7)).trans hw132_7), ((HB.out.cell (World.block_lt_of_cell? w _ hw132_8)).trans hw132_8), ((HB.out.cell (World.block_lt_of_cell? w _ hw132_9)).trans hw132_9), ((HB.out.cell (World.block_lt_of_cell? w _ hw132_10)).trans hw132_10), ((HB.out.cell (World.block_lt_of_cell? w _ hw132_11)).trans hw132_11), ((HB.out.cell (World.block_lt_of_cell? w _ hw133_0)).trans hw133_0), ((HB.out.cell (World.block_lt_of_cell? w _ hw133_1)).trans hw133_1), ((HB.out.cell (World.block_lt_of_cell? w _ hw133_2)).trans hw133_2), ((HB.out.cell (World.block_lt_of_cell? w _ hw133_3)).trans hw133_3), ((HB.out.cell (World.block_lt_of_cell? w _ hw133_4)).trans hw133_4), ((HB.out.cell (World.block_lt_of_cell? w _ hw133_5)).trans hw133_5), ((HB.out.cell (World.block_lt_of_cell? w _ hw133_6)).trans hw133_6), ((HB.out.cell (World.block_lt_of_cell? w _ hw133_7)).trans hw133_7), ((HB.out.cell (World.block_lt_of_cell? w _ hw133_8)).trans hw133_8), ((HB.out.cell (World.block_lt_of_cell? w _ hw133_9)).trans hw133_9), ((HB.out.cell (World.block_lt_of_cell? w _ hw133_10)).trans hw133_10), ((HB.out.cell (World.block_lt_of_cell? w _ hw133_11)).trans hw133_11)⟩ (fun hHeld => ?_)
                      clear hK K
                      refine norm_ (a' := ?_) ?_ ?_
                      rotate_left
                      · show Act.put _ (some 36) _ = _
                        simp only [Act.put, List.setIfInBounds_toArray, List.set_cons_zero, List.set_cons_succ, i64_w, i32_w]
                        rfl
                      refine pure_ (i := 11) (N := some 37) (v := ?_) (a' := ?_) #[true, true, true, true, true, true, true, true, true, true, true, true] rfl rfl (any_of HT_.out (by kernel_rfl)) (fun _ _ _ h => h) (Or.inl ⟨by rfl, ?_⟩) ?_ ?_
                      rotate_left
                      · intro w'
                        go_simp
                        with_reducible rfl
                      rotate_left
                      · simp only [Act.put, List.setIfInBounds_toArray, List.set_cons_zero, List.set_cons_succ, i64_w, i32_w]
                        rfl
                      refine done_ (done_of HT_.out (by kernel_rfl)) ?_
                      try go_wp2
                      go_ret
                      exact ⟨by first | rfl | (simp [errW_none, errW_some] <;> rfl) | (simp [*, errW_none, errW_some] <;> rfl), by repeat (first | (with_reducible first | exact HB.out | apply below_alloc | apply pw_below_drewN | apply below_drew1 | refine below_set ?_ GE130.out | refine below_set ?_ GE131.out) | exact HB.out)⟩
                  · rw [if_neg c19] at H
                    exact absurd H (by simp)
                · rw [if_neg c18] at H
                  exact absurd H (by simp)
              · rw [if_neg c17] at H
                exact absurd H (by simp)
            · rw [if_neg c16] at H
              have c16b0 : decide (x23_2 < (l0_2.length : Int)) = false := decide_eq_false c16
              clear c16
              obtain rfl := Option.some.inj H
              go_wp2
              go_ret
              exact ⟨by first | rfl | (simp [errW_none, errW_some] <;> rfl) | (simp [*, errW_none, errW_some] <;> rfl), by repeat (first | (with_reducible first | exact HB.out | apply below_alloc | apply pw_below_drewN | apply below_drew1 | refine below_set ?_ GE130.out | refine below_set ?_ GE131.out) | exact HB.out)⟩

end Go.Proofs.YthkheemjgcbofaaDoor.PSc
