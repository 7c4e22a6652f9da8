/-
  Whether an event may not be (script.wrong).
  script.wrong, all kinds together.
  The words of events and operations; the place of a word among them (slices.Index by its printed contract).
-/
import Derived.Test.YthkheemjgcbofaaDoorGB

namespace Go.Proofs.YthkheemjgcbofaaDoor
set_option linter.unusedVariables false
set_option linter.unusedSimpArgs false
open Go.RowKit Go.Proofs.YthkheemjgcbofaaDoor.PSc Go.Proofs.YthkheemjgcbofaaDoorW.PrintWords Go.Proofs.YthkheemjgcbofaaDoorW.PrintLast Go.Proofs.YthkheemjgcbofaaDoorW.PrintMore

/-- The event with just the fields that its kind says. -/
def only (x : S46) : S46 := ⟨x.f0, if x.f0 = 1 ∨ x.f0 = 2 then x.f1 else 0, if x.f0 = 1 then spokenF x.f2 else z43, if x.f0 = 5 then x.f3 else 0, if x.f0 = 6 then x.f4 else []⟩
def wrongF (x : S46) : Bool :=
  if x.f0 < 1 ∨ 7 < x.f0 then true
  else if x.f0 = 1 ∧ (x.f2.f0 < 1 ∨ 6 < x.f2.f0) then true
  else !(eq46 x (only x)) || decide (2048 < x.f4.length)

theorem fields_at (b : Nat) (k : Int) (os : List Nat) (ho : fieldsOf k = os) (w : World) (hc : w.cell? ⟨b, 0, none⟩ = some (.int .i64 k)) :
    Calls Tryd.prog 51 #[.pointer (some ⟨b, 0, none⟩)] w fun e w' => ∃ A c, e = .returned (.slice A os.length c) ∧ IsPtrs w.heap.size b os A w' ∧ Below w.heap.size w w' := by
  subst ho; exact fields_calls b k w hc

theorem Kd_nil (w : World) : Kd.C Kd.bool w none 0 [] := ⟨rfl, by decide, fun h => absurd h (by decide)⟩
theorem addr_add0 (a : Addr) : a.add 0 = a := by unfold Addr.add; simp
theorem cells12 {w : World} {b : Nat} {a0 a1 a2 a3 a4 a5 a6 a7 a8 a9 a10 a11 : Value} {T : TypeId} {fr : Nat × Nat} (h : w.heap[b]? = some (.cells #[a0, a1, a2, a3, a4, a5, a6, a7, a8, a9, a10, a11] T fr)) :
    w.cell? ⟨b, 0, none⟩ = some a0 ∧ w.cell? ⟨b, 1, none⟩ = some a1 ∧ w.cell? ⟨b, 2, none⟩ = some a2 ∧ w.cell? ⟨b, 3, none⟩ = some a3 ∧ w.cell? ⟨b, 4, none⟩ = some a4 ∧ w.cell? ⟨b, 5, none⟩ = some a5 ∧ w.cell? ⟨b, 6, none⟩ = some a6 ∧ w.cell? ⟨b, 7, none⟩ = some a7 ∧ w.cell? ⟨b, 8, none⟩ = some a8 ∧ w.cell? ⟨b, 9, none⟩ = some a9 ∧ w.cell? ⟨b, 10, none⟩ = some a10 ∧ w.cell? ⟨b, 11, none⟩ = some a11 :=
  ⟨(blk_cell h 0).trans rfl, (blk_cell h 1).trans rfl, (blk_cell h 2).trans rfl, (blk_cell h 3).trans rfl, (blk_cell h 4).trans rfl, (blk_cell h 5).trans rfl, (blk_cell h 6).trans rfl, (blk_cell h 7).trans rfl, (blk_cell h 8).trans rfl, (blk_cell h 9).trans rfl, (blk_cell h 10).trans rfl, (blk_cell h 11).trans rfl⟩

set_option maxHeartbeats 4000000 in
set_option maxRecDepth 100000 in
theorem wrong_two (x1 x2 : Int) (x3 : Bool) (x4 x5 x6 x7 x8 x9 x10 : Int) (x11 : List Bool) (A : Option Addr) (c : Nat) (w : World) (hr : Kd.C Kd.bool w A x11.length x11) (hc : x11.length ≤ c) :
    Calls Tryd.prog 31 #[.agg #[.int .i64 2, .int .i64 x1, .int .i64 x2, .bool x3, .int .u32 x4, .int .i64 x5, .int .i64 x6, .int .i64 x7, .int .i64 x8, .int .i64 x9, .int .i64 x10, .slice A x11.length c]] w fun e w' => e = .returned (.bool (!(eq46 ⟨2, x1, ⟨x2, x3, x4, ⟨x5, x6, x7, x8⟩, x9⟩, x10, x11⟩ ⟨2, x1, ⟨0, false, 0, ⟨0, 0, 0, 0⟩, 0⟩, 0, []⟩) || decide (2048 < x11.length))) ∧ Below w.heap.size w w' := by
  have HS := Lib.hid (fun (W : World) (hb : Below w.heap.size w W) => same_calls ⟨2, x1, ⟨x2, x3, x4, ⟨x5, x6, x7, x8⟩, x9⟩, x10, x11⟩ ⟨2, x1, ⟨0, false, 0, ⟨0, 0, 0, 0⟩, 0⟩, 0, []⟩ A c none 0 W (Kd.C_below hr hb) hc (Kd_nil W) (Nat.le_refl _))
  clear hr
  simp only [vals46, List.length_nil] at HS
  obtain ⟨rr, hrr⟩ : ∃ rr, rr = eq46 ⟨2, x1, ⟨x2, x3, x4, ⟨x5, x6, x7, x8⟩, x9⟩, x10, x11⟩ ⟨2, x1, ⟨0, false, 0, ⟨0, 0, 0, 0⟩, 0⟩, 0, []⟩ := ⟨_, rfl⟩
  rw [← hrr] at HS ⊢
  clear hrr
  have hu46 := Tryd.underlying46
  have hu43 := Tryd.underlying43
  go_enter Tryd.func31, Tryd.ntmps31
  go_wp2_with fail
  refine (fields_at _ 2 [1] rfl _ ?_).mono ?_
  · exact (blk_cell (blk_at _ _ (by simp)) 0).trans rfl
  rintro e w1 ⟨A1, c1, rfl, hp1, hb1⟩
  have BX1 := Lib.hid (blk_below (blk_alloc (blk_new w _) _) hb1)
  have BY1 := Lib.hid (blk_below (blk_at (n := w.heap.size + 1) (w.alloc _) _ (by simp)) hb1)
  have hb1' : Below w.heap.size w w1 := Below.trans (((Below.refl _ w).alloc (Nat.le_refl _) _).alloc (by simp) _) (hb1.mono (by simp; omega))
  have hz1 := hb1.size
  simp at hz1
  clear hb1
  have cx1 := (blk_cell BX1.out 0).trans rfl
  go_wp2_with fail
  refine (fields_at _ 2 [1] rfl _ ?_).mono ?_
  · exact cx1
  rintro e w2 ⟨A2, c2, rfl, hp2, hb2⟩
  clear cx1
  have BX2 := Lib.hid (blk_below BX1.out hb2)
  have BY2 := Lib.hid (blk_below BY1.out hb2)
  have hb2' : Below w.heap.size w w2 := hb1'.trans (hb2.mono (by omega))
  have hz2 := hb2.size
  obtain ⟨cx0, cx1, cx2, cx3, cx4, cx5, cx6, cx7, cx8, cx9, cx10, cx11⟩ := cells12 BX2.out
  obtain ⟨cy0, cy1, cy2, cy3, cy4, cy5, cy6, cy7, cy8, cy9, cy10, cy11⟩ := cells12 BY2.out
  obtain ⟨ad1, rfl, hq1, hq2⟩ := hp1 0 (by decide)
  obtain ⟨ad2, rfl, hr1, hr2⟩ := hp2 0 (by decide)
  have dx2 : w2.cell? ad2 = some (.pointer (some ⟨w.heap.size, 1, none⟩)) := by rw [addr_add0] at hr1; exact hr1
  have dy2 : w2.cell? ad1 = some (.pointer (some ⟨w.heap.size + 1, 1, none⟩)) := by
    have h : w2.cell? (ad1.add 0) = some (.pointer (some ⟨w.heap.size + 1, 1, none⟩)) := by rw [hb2.cell (World.block_lt_of_cell? _ _ hq1)]; exact hq1
    rw [addr_add0] at h; exact h
  have fy2 := blk_free BY2.out 1
  clear hq1 hr1
  clear hp1 hp2 hb1' hb2
  go_wp2
  refine wp_loop_rounds 2 ?_
  rw [rounds_succ]
  go_wp2
  go_region
  go_wp2
  rw [rounds_succ]
  go_wp2_with fail
  refine (HS.out _ ?_).mono ?_
  · (repeat (first | (with_reducible exact hb2') | (with_reducible refine Below.drew ?_) | (with_reducible refine Below.alloc ?_ (by simp; try omega) _) | (with_reducible refine Below.setCell ?_ (by simp; try omega) _)))
  rintro e w4 ⟨rfl, hb4⟩
  have hb4' : Below w.heap.size w w4 := Below.trans (by repeat (first | (with_reducible exact hb2') | (with_reducible refine Below.drew ?_) | (with_reducible refine Below.alloc ?_ (by simp; try omega) _) | (with_reducible refine Below.setCell ?_ (by simp; try omega) _))) (hb4.mono (by first | omega | (simp; omega)))
  have BX4 : w4.heap[w.heap.size]? = some (.cells #[.int .i64 2, .int .i64 x1, .int .i64 x2, .bool x3, .int .u32 x4, .int .i64 x5, .int .i64 x6, .int .i64 x7, .int .i64 x8, .int .i64 x9, .int .i64 x10, .slice A x11.length c] 46 (0, 0)) :=
    blk_below (by repeat (first | (with_reducible exact BX2.out) | (with_reducible refine blk_drew ?_) | (with_reducible refine blk_alloc ?_ _) | (with_reducible refine blk_far ?_ (by simp) _))) hb4
  have cx := (blk_cell BX4 11).trans rfl
  clear hb4 BX4 cx0 cx1 cx2 cx3 cx4 cx5 cx6 cx7 cx8 cx9 cx10 cx11 cy0 cy1 cy2 cy3 cy4 cy5 cy6 cy7 cy8 cy9 cy10 cy11
  cases rr with
  | false =>
    go_wp2
    go_ret
    exact ⟨rfl, hb4'⟩
  | true =>
    go_wp2
    all_goals go_ret
    all_goals refine ⟨?_, hb4'⟩
    all_goals first | (simp; done) | (simp; omega)

set_option maxHeartbeats 4000000 in
set_option maxRecDepth 100000 in
theorem wrong_five (x1 x2 : Int) (x3 : Bool) (x4 x5 x6 x7 x8 x9 x10 : Int) (x11 : List Bool) (A : Option Addr) (c : Nat) (w : World) (hr : Kd.C Kd.bool w A x11.length x11) (hc : x11.length ≤ c) :
    Calls Tryd.prog 31 #[.agg #[.int .i64 5, .int .i64 x1, .int .i64 x2, .bool x3, .int .u32 x4, .int .i64 x5, .int .i64 x6, .int .i64 x7, .int .i64 x8, .int .i64 x9, .int .i64 x10, .slice A x11.length c]] w fun e w' => e = .returned (.bool (!(eq46 ⟨5, x1, ⟨x2, x3, x4, ⟨x5, x6, x7, x8⟩, x9⟩, x10, x11⟩ ⟨5, 0, ⟨0, false, 0, ⟨0, 0, 0, 0⟩, 0⟩, x10, []⟩) || decide (2048 < x11.length))) ∧ Below w.heap.size w w' := by
  have HS := Lib.hid (fun (W : World) (hb : Below w.heap.size w W) => same_calls ⟨5, x1, ⟨x2, x3, x4, ⟨x5, x6, x7, x8⟩, x9⟩, x10, x11⟩ ⟨5, 0, ⟨0, false, 0, ⟨0, 0, 0, 0⟩, 0⟩, x10, []⟩ A c none 0 W (Kd.C_below hr hb) hc (Kd_nil W) (Nat.le_refl _))
  clear hr
  simp only [vals46, List.length_nil] at HS
  obtain ⟨rr, hrr⟩ : ∃ rr, rr = eq46 ⟨5, x1, ⟨x2, x3, x4, ⟨x5, x6, x7, x8⟩, x9⟩, x10, x11⟩ ⟨5, 0, ⟨0, false, 0, ⟨0, 0, 0, 0⟩, 0⟩, x10, []⟩ := ⟨_, rfl⟩
  rw [← hrr] at HS ⊢
  clear hrr
  have hu46 := Tryd.underlying46
  have hu43 := Tryd.underlying43
  go_enter Tryd.func31, Tryd.ntmps31
  go_wp2_with fail
  refine (fields_at _ 5 [10] rfl _ ?_).mono ?_
  · exact (blk_cell (blk_at _ _ (by simp)) 0).trans rfl
  rintro e w1 ⟨A1, c1, rfl, hp1, hb1⟩
  have BX1 := Lib.hid (blk_below (blk_alloc (blk_new w _) _) hb1)
  have BY1 := Lib.hid (blk_below (blk_at (n := w.heap.size + 1) (w.alloc _) _ (by simp)) hb1)
  have hb1' : Below w.heap.size w w1 := Below.trans (((Below.refl _ w).alloc (Nat.le_refl _) _).alloc (by simp) _) (hb1.mono (by simp; omega))
  have hz1 := hb1.size
  simp at hz1
  clear hb1
  have cx1 := (blk_cell BX1.out 0).trans rfl
  go_wp2_with fail
  refine (fields_at _ 5 [10] rfl _ ?_).mono ?_
  · exact cx1
  rintro e w2 ⟨A2, c2, rfl, hp2, hb2⟩
  clear cx1
  have BX2 := Lib.hid (blk_below BX1.out hb2)
  have BY2 := Lib.hid (blk_below BY1.out hb2)
  have hb2' : Below w.heap.size w w2 := hb1'.trans (hb2.mono (by omega))
  have hz2 := hb2.size
  obtain ⟨cx0, cx1, cx2, cx3, cx4, cx5, cx6, cx7, cx8, cx9, cx10, cx11⟩ := cells12 BX2.out
  obtain ⟨cy0, cy1, cy2, cy3, cy4, cy5, cy6, cy7, cy8, cy9, cy10, cy11⟩ := cells12 BY2.out
  obtain ⟨ad1, rfl, hq1, hq2⟩ := hp1 0 (by decide)
  obtain ⟨ad2, rfl, hr1, hr2⟩ := hp2 0 (by decide)
  have dx2 : w2.cell? ad2 = some (.pointer (some ⟨w.heap.size, 10, none⟩)) := by rw [addr_add0] at hr1; exact hr1
  have dy2 : w2.cell? ad1 = some (.pointer (some ⟨w.heap.size + 1, 10, none⟩)) := by
    have h : w2.cell? (ad1.add 0) = some (.pointer (some ⟨w.heap.size + 1, 10, none⟩)) := by rw [hb2.cell (World.block_lt_of_cell? _ _ hq1)]; exact hq1
    rw [addr_add0] at h; exact h
  have fy2 := blk_free BY2.out 10
  clear hq1 hr1
  clear hp1 hp2 hb1' hb2
  go_wp2
  refine wp_loop_rounds 2 ?_
  rw [rounds_succ]
  go_wp2
  go_region
  go_wp2
  rw [rounds_succ]
  go_wp2_with fail
  refine (HS.out _ ?_).mono ?_
  · (repeat (first | (with_reducible exact hb2') | (with_reducible refine Below.drew ?_) | (with_reducible refine Below.alloc ?_ (by simp; try omega) _) | (with_reducible refine Below.setCell ?_ (by simp; try omega) _)))
  rintro e w4 ⟨rfl, hb4⟩
  have hb4' : Below w.heap.size w w4 := Below.trans (by repeat (first | (with_reducible exact hb2') | (with_reducible refine Below.drew ?_) | (with_reducible refine Below.alloc ?_ (by simp; try omega) _) | (with_reducible refine Below.setCell ?_ (by simp; try omega) _))) (hb4.mono (by first | omega | (simp; omega)))
  have BX4 : w4.heap[w.heap.size]? = some (.cells #[.int .i64 5, .int .i64 x1, .int .i64 x2, .bool x3, .int .u32 x4, .int .i64 x5, .int .i64 x6, .int .i64 x7, .int .i64 x8, .int .i64 x9, .int .i64 x10, .slice A x11.length c] 46 (0, 0)) :=
    blk_below (by repeat (first | (with_reducible exact BX2.out) | (with_reducible refine blk_drew ?_) | (with_reducible refine blk_alloc ?_ _) | (with_reducible refine blk_far ?_ (by simp) _))) hb4
  have cx := (blk_cell BX4 11).trans rfl
  clear hb4 BX4 cx0 cx1 cx2 cx3 cx4 cx5 cx6 cx7 cx8 cx9 cx10 cx11 cy0 cy1 cy2 cy3 cy4 cy5 cy6 cy7 cy8 cy9 cy10 cy11
  cases rr with
  | false =>
    go_wp2
    go_ret
    exact ⟨rfl, hb4'⟩
  | true =>
    go_wp2
    all_goals go_ret
    all_goals refine ⟨?_, hb4'⟩
    all_goals first | (simp; done) | (simp; omega)

set_option maxHeartbeats 4000000 in
set_option maxRecDepth 100000 in
theorem wrong_three (x1 x2 : Int) (x3 : Bool) (x4 x5 x6 x7 x8 x9 x10 : Int) (x11 : List Bool) (A : Option Addr) (c : Nat) (w : World) (hr : Kd.C Kd.bool w A x11.length x11) (hc : x11.length ≤ c) :
    Calls Tryd.prog 31 #[.agg #[.int .i64 3, .int .i64 x1, .int .i64 x2, .bool x3, .int .u32 x4, .int .i64 x5, .int .i64 x6, .int .i64 x7, .int .i64 x8, .int .i64 x9, .int .i64 x10, .slice A x11.length c]] w fun e w' => e = .returned (.bool (!(eq46 ⟨3, x1, ⟨x2, x3, x4, ⟨x5, x6, x7, x8⟩, x9⟩, x10, x11⟩ ⟨3, 0, ⟨0, false, 0, ⟨0, 0, 0, 0⟩, 0⟩, 0, []⟩) || decide (2048 < x11.length))) ∧ Below w.heap.size w w' := by
  have HS := Lib.hid (fun (W : World) (hb : Below w.heap.size w W) => same_calls ⟨3, x1, ⟨x2, x3, x4, ⟨x5, x6, x7, x8⟩, x9⟩, x10, x11⟩ ⟨3, 0, ⟨0, false, 0, ⟨0, 0, 0, 0⟩, 0⟩, 0, []⟩ A c none 0 W (Kd.C_below hr hb) hc (Kd_nil W) (Nat.le_refl _))
  clear hr
  simp only [vals46, List.length_nil] at HS
  obtain ⟨rr, hrr⟩ : ∃ rr, rr = eq46 ⟨3, x1, ⟨x2, x3, x4, ⟨x5, x6, x7, x8⟩, x9⟩, x10, x11⟩ ⟨3, 0, ⟨0, false, 0, ⟨0, 0, 0, 0⟩, 0⟩, 0, []⟩ := ⟨_, rfl⟩
  rw [← hrr] at HS ⊢
  clear hrr
  have hu46 := Tryd.underlying46
  have hu43 := Tryd.underlying43
  go_enter Tryd.func31, Tryd.ntmps31
  go_wp2_with fail
  refine (fields_at _ 3 [] rfl _ ?_).mono ?_
  · exact (blk_cell (blk_at _ _ (by simp)) 0).trans rfl
  rintro e w1 ⟨A1, c1, rfl, hp1, hb1⟩
  have BX1 := Lib.hid (blk_below (blk_alloc (blk_new w _) _) hb1)
  have BY1 := Lib.hid (blk_below (blk_at (n := w.heap.size + 1) (w.alloc _) _ (by simp)) hb1)
  have hb1' : Below w.heap.size w w1 := Below.trans (((Below.refl _ w).alloc (Nat.le_refl _) _).alloc (by simp) _) (hb1.mono (by simp; omega))
  have hz1 := hb1.size
  simp at hz1
  clear hb1
  have cx1 := (blk_cell BX1.out 0).trans rfl
  go_wp2_with fail
  refine (fields_at _ 3 [] rfl _ ?_).mono ?_
  · exact cx1
  rintro e w2 ⟨A2, c2, rfl, hp2, hb2⟩
  clear cx1
  have BX2 := Lib.hid (blk_below BX1.out hb2)
  have BY2 := Lib.hid (blk_below BY1.out hb2)
  have hb2' : Below w.heap.size w w2 := hb1'.trans (hb2.mono (by omega))
  have hz2 := hb2.size
  obtain ⟨cx0, cx1, cx2, cx3, cx4, cx5, cx6, cx7, cx8, cx9, cx10, cx11⟩ := cells12 BX2.out
  obtain ⟨cy0, cy1, cy2, cy3, cy4, cy5, cy6, cy7, cy8, cy9, cy10, cy11⟩ := cells12 BY2.out
  clear hp1 hp2 hb1' hb2
  go_wp2
  refine wp_loop_rounds 1 ?_
  rw [rounds_succ]
  go_wp2_with fail
  refine (HS.out _ ?_).mono ?_
  · (repeat (first | (with_reducible exact hb2') | (with_reducible refine Below.drew ?_) | (with_reducible refine Below.alloc ?_ (by simp; try omega) _) | (with_reducible refine Below.setCell ?_ (by simp; try omega) _)))
  rintro e w4 ⟨rfl, hb4⟩
  have hb4' : Below w.heap.size w w4 := Below.trans (by repeat (first | (with_reducible exact hb2') | (with_reducible refine Below.drew ?_) | (with_reducible refine Below.alloc ?_ (by simp; try omega) _) | (with_reducible refine Below.setCell ?_ (by simp; try omega) _))) (hb4.mono (by first | omega | (simp; omega)))
  have BX4 : w4.heap[w.heap.size]? = some (.cells #[.int .i64 3, .int .i64 x1, .int .i64 x2, .bool x3, .int .u32 x4, .int .i64 x5, .int .i64 x6, .int .i64 x7, .int .i64 x8, .int .i64 x9, .int .i64 x10, .slice A x11.length c] 46 (0, 0)) :=
    blk_below (by repeat (first | (with_reducible exact BX2.out) | (with_reducible refine blk_drew ?_) | (with_reducible refine blk_alloc ?_ _) | (with_reducible refine blk_far ?_ (by simp) _))) hb4
  have cx := (blk_cell BX4 11).trans rfl
  clear hb4 BX4 cx0 cx1 cx2 cx3 cx4 cx5 cx6 cx7 cx8 cx9 cx10 cx11 cy0 cy1 cy2 cy3 cy4 cy5 cy6 cy7 cy8 cy9 cy10 cy11
  cases rr with
  | false =>
    go_wp2
    go_ret
    exact ⟨rfl, hb4'⟩
  | true =>
    go_wp2
    all_goals go_ret
    all_goals refine ⟨?_, hb4'⟩
    all_goals first | (simp; done) | (simp; omega)

set_option maxHeartbeats 4000000 in
set_option maxRecDepth 100000 in
theorem wrong_four (x1 x2 : Int) (x3 : Bool) (x4 x5 x6 x7 x8 x9 x10 : Int) (x11 : List Bool) (A : Option Addr) (c : Nat) (w : World) (hr : Kd.C Kd.bool w A x11.length x11) (hc : x11.length ≤ c) :
    Calls Tryd.prog 31 #[.agg #[.int .i64 4, .int .i64 x1, .int .i64 x2, .bool x3, .int .u32 x4, .int .i64 x5, .int .i64 x6, .int .i64 x7, .int .i64 x8, .int .i64 x9, .int .i64 x10, .slice A x11.length c]] w fun e w' => e = .returned (.bool (!(eq46 ⟨4, x1, ⟨x2, x3, x4, ⟨x5, x6, x7, x8⟩, x9⟩, x10, x11⟩ ⟨4, 0, ⟨0, false, 0, ⟨0, 0, 0, 0⟩, 0⟩, 0, []⟩) || decide (2048 < x11.length))) ∧ Below w.heap.size w w' := by
  have HS := Lib.hid (fun (W : World) (hb : Below w.heap.size w W) => same_calls ⟨4, x1, ⟨x2, x3, x4, ⟨x5, x6, x7, x8⟩, x9⟩, x10, x11⟩ ⟨4, 0, ⟨0, false, 0, ⟨0, 0, 0, 0⟩, 0⟩, 0, []⟩ A c none 0 W (Kd.C_below hr hb) hc (Kd_nil W) (Nat.le_refl _))
  clear hr
  simp only [vals46, List.length_nil] at HS
  obtain ⟨rr, hrr⟩ : ∃ rr, rr = eq46 ⟨4, x1, ⟨x2, x3, x4, ⟨x5, x6, x7, x8⟩, x9⟩, x10, x11⟩ ⟨4, 0, ⟨0, false, 0, ⟨0, 0, 0, 0⟩, 0⟩, 0, []⟩ := ⟨_, rfl⟩
  rw [← hrr] at HS ⊢
  clear hrr
  have hu46 := Tryd.underlying46
  have hu43 := Tryd.underlying43
  go_enter Tryd.func31, Tryd.ntmps31
  go_wp2_with fail
  refine (fields_at _ 4 [] rfl _ ?_).mono ?_
  · exact (blk_cell (blk_at _ _ (by simp)) 0).trans rfl
  rintro e w1 ⟨A1, c1, rfl, hp1, hb1⟩
  have BX1 := Lib.hid (blk_below (blk_alloc (blk_new w _) _) hb1)
  have BY1 := Lib.hid (blk_below (blk_at (n := w.heap.size + 1) (w.alloc _) _ (by simp)) hb1)
  have hb1' : Below w.heap.size w w1 := Below.trans (((Below.refl _ w).alloc (Nat.le_refl _) _).alloc (by simp) _) (hb1.mono (by simp; omega))
  have hz1 := hb1.size
  simp at hz1
  clear hb1
  have cx1 := (blk_cell BX1.out 0).trans rfl
  go_wp2_with fail
  refine (fields_at _ 4 [] rfl _ ?_).mono ?_
  · exact cx1
  rintro e w2 ⟨A2, c2, rfl, hp2, hb2⟩
  clear cx1
  have BX2 := Lib.hid (blk_below BX1.out hb2)
  have BY2 := Lib.hid (blk_below BY1.out hb2)
  have hb2' : Below w.heap.size w w2 := hb1'.trans (hb2.mono (by omega))
  have hz2 := hb2.size
  obtain ⟨cx0, cx1, cx2, cx3, cx4, cx5, cx6, cx7, cx8, cx9, cx10, cx11⟩ := cells12 BX2.out
  obtain ⟨cy0, cy1, cy2, cy3, cy4, cy5, cy6, cy7, cy8, cy9, cy10, cy11⟩ := cells12 BY2.out
  clear hp1 hp2 hb1' hb2
  go_wp2
  refine wp_loop_rounds 1 ?_
  rw [rounds_succ]
  go_wp2_with fail
  refine (HS.out _ ?_).mono ?_
  · (repeat (first | (with_reducible exact hb2') | (with_reducible refine Below.drew ?_) | (with_reducible refine Below.alloc ?_ (by simp; try omega) _) | (with_reducible refine Below.setCell ?_ (by simp; try omega) _)))
  rintro e w4 ⟨rfl, hb4⟩
  have hb4' : Below w.heap.size w w4 := Below.trans (by repeat (first | (with_reducible exact hb2') | (with_reducible refine Below.drew ?_) | (with_reducible refine Below.alloc ?_ (by simp; try omega) _) | (with_reducible refine Below.setCell ?_ (by simp; try omega) _))) (hb4.mono (by first | omega | (simp; omega)))
  have BX4 : w4.heap[w.heap.size]? = some (.cells #[.int .i64 4, .int .i64 x1, .int .i64 x2, .bool x3, .int .u32 x4, .int .i64 x5, .int .i64 x6, .int .i64 x7, .int .i64 x8, .int .i64 x9, .int .i64 x10, .slice A x11.length c] 46 (0, 0)) :=
    blk_below (by repeat (first | (with_reducible exact BX2.out) | (with_reducible refine blk_drew ?_) | (with_reducible refine blk_alloc ?_ _) | (with_reducible refine blk_far ?_ (by simp) _))) hb4
  have cx := (blk_cell BX4 11).trans rfl
  clear hb4 BX4 cx0 cx1 cx2 cx3 cx4 cx5 cx6 cx7 cx8 cx9 cx10 cx11 cy0 cy1 cy2 cy3 cy4 cy5 cy6 cy7 cy8 cy9 cy10 cy11
  cases rr with
  | false =>
    go_wp2
    go_ret
    exact ⟨rfl, hb4'⟩
  | true =>
    go_wp2
    all_goals go_ret
    all_goals refine ⟨?_, hb4'⟩
    all_goals first | (simp; done) | (simp; omega)

set_option maxHeartbeats 4000000 in
set_option maxRecDepth 100000 in
theorem wrong_seven (x1 x2 : Int) (x3 : Bool) (x4 x5 x6 x7 x8 x9 x10 : Int) (x11 : List Bool) (A : Option Addr) (c : Nat) (w : World) (hr : Kd.C Kd.bool w A x11.length x11) (hc : x11.length ≤ c) :
    Calls Tryd.prog 31 #[.agg #[.int .i64 7, .int .i64 x1, .int .i64 x2, .bool x3, .int .u32 x4, .int .i64 x5, .int .i64 x6, .int .i64 x7, .int .i64 x8, .int .i64 x9, .int .i64 x10, .slice A x11.length c]] w fun e w' => e = .returned (.bool (!(eq46 ⟨7, x1, ⟨x2, x3, x4, ⟨x5, x6, x7, x8⟩, x9⟩, x10, x11⟩ ⟨7, 0, ⟨0, false, 0, ⟨0, 0, 0, 0⟩, 0⟩, 0, []⟩) || decide (2048 < x11.length))) ∧ Below w.heap.size w w' := by
  have HS := Lib.hid (fun (W : World) (hb : Below w.heap.size w W) => same_calls ⟨7, x1, ⟨x2, x3, x4, ⟨x5, x6, x7, x8⟩, x9⟩, x10, x11⟩ ⟨7, 0, ⟨0, false, 0, ⟨0, 0, 0, 0⟩, 0⟩, 0, []⟩ A c none 0 W (Kd.C_below hr hb) hc (Kd_nil W) (Nat.le_refl _))
  clear hr
  simp only [vals46, List.length_nil] at HS
  obtain ⟨rr, hrr⟩ : ∃ rr, rr = eq46 ⟨7, x1, ⟨x2, x3, x4, ⟨x5, x6, x7, x8⟩, x9⟩, x10, x11⟩ ⟨7, 0, ⟨0, false, 0, ⟨0, 0, 0, 0⟩, 0⟩, 0, []⟩ := ⟨_, rfl⟩
  rw [← hrr] at HS ⊢
  clear hrr
  have hu46 := Tryd.underlying46
  have hu43 := Tryd.underlying43
  go_enter Tryd.func31, Tryd.ntmps31
  go_wp2_with fail
  refine (fields_at _ 7 [] rfl _ ?_).mono ?_
  · exact (blk_cell (blk_at _ _ (by simp)) 0).trans rfl
  rintro e w1 ⟨A1, c1, rfl, hp1, hb1⟩
  have BX1 := Lib.hid (blk_below (blk_alloc (blk_new w _) _) hb1)
  have BY1 := Lib.hid (blk_below (blk_at (n := w.heap.size + 1) (w.alloc _) _ (by simp)) hb1)
  have hb1' : Below w.heap.size w w1 := Below.trans (((Below.refl _ w).alloc (Nat.le_refl _) _).alloc (by simp) _) (hb1.mono (by simp; omega))
  have hz1 := hb1.size
  simp at hz1
  clear hb1
  have cx1 := (blk_cell BX1.out 0).trans rfl
  go_wp2_with fail
  refine (fields_at _ 7 [] rfl _ ?_).mono ?_
  · exact cx1
  rintro e w2 ⟨A2, c2, rfl, hp2, hb2⟩
  clear cx1
  have BX2 := Lib.hid (blk_below BX1.out hb2)
  have BY2 := Lib.hid (blk_below BY1.out hb2)
  have hb2' : Below w.heap.size w w2 := hb1'.trans (hb2.mono (by omega))
  have hz2 := hb2.size
  obtain ⟨cx0, cx1, cx2, cx3, cx4, cx5, cx6, cx7, cx8, cx9, cx10, cx11⟩ := cells12 BX2.out
  obtain ⟨cy0, cy1, cy2, cy3, cy4, cy5, cy6, cy7, cy8, cy9, cy10, cy11⟩ := cells12 BY2.out
  clear hp1 hp2 hb1' hb2
  go_wp2
  refine wp_loop_rounds 1 ?_
  rw [rounds_succ]
  go_wp2_with fail
  refine (HS.out _ ?_).mono ?_
  · (repeat (first | (with_reducible exact hb2') | (with_reducible refine Below.drew ?_) | (with_reducible refine Below.alloc ?_ (by simp; try omega) _) | (with_reducible refine Below.setCell ?_ (by simp; try omega) _)))
  rintro e w4 ⟨rfl, hb4⟩
  have hb4' : Below w.heap.size w w4 := Below.trans (by repeat (first | (with_reducible exact hb2') | (with_reducible refine Below.drew ?_) | (with_reducible refine Below.alloc ?_ (by simp; try omega) _) | (with_reducible refine Below.setCell ?_ (by simp; try omega) _))) (hb4.mono (by first | omega | (simp; omega)))
  have BX4 : w4.heap[w.heap.size]? = some (.cells #[.int .i64 7, .int .i64 x1, .int .i64 x2, .bool x3, .int .u32 x4, .int .i64 x5, .int .i64 x6, .int .i64 x7, .int .i64 x8, .int .i64 x9, .int .i64 x10, .slice A x11.length c] 46 (0, 0)) :=
    blk_below (by repeat (first | (with_reducible exact BX2.out) | (with_reducible refine blk_drew ?_) | (with_reducible refine blk_alloc ?_ _) | (with_reducible refine blk_far ?_ (by simp) _))) hb4
  have cx := (blk_cell BX4 11).trans rfl
  clear hb4 BX4 cx0 cx1 cx2 cx3 cx4 cx5 cx6 cx7 cx8 cx9 cx10 cx11 cy0 cy1 cy2 cy3 cy4 cy5 cy6 cy7 cy8 cy9 cy10 cy11
  cases rr with
  | false =>
    go_wp2
    go_ret
    exact ⟨rfl, hb4'⟩
  | true =>
    go_wp2
    all_goals go_ret
    all_goals refine ⟨?_, hb4'⟩
    all_goals first | (simp; done) | (simp; omega)

set_option maxHeartbeats 4000000 in
set_option maxRecDepth 100000 in
theorem wrong_six (x1 x2 : Int) (x3 : Bool) (x4 x5 x6 x7 x8 x9 x10 : Int) (x11 : List Bool) (A : Option Addr) (c : Nat) (w : World) (hr : Kd.C Kd.bool w A x11.length x11) (hc : x11.length ≤ c) :
    Calls Tryd.prog 31 #[.agg #[.int .i64 6, .int .i64 x1, .int .i64 x2, .bool x3, .int .u32 x4, .int .i64 x5, .int .i64 x6, .int .i64 x7, .int .i64 x8, .int .i64 x9, .int .i64 x10, .slice A x11.length c]] w fun e w' => e = .returned (.bool (!(eq46 ⟨6, x1, ⟨x2, x3, x4, ⟨x5, x6, x7, x8⟩, x9⟩, x10, x11⟩ ⟨6, 0, ⟨0, false, 0, ⟨0, 0, 0, 0⟩, 0⟩, 0, x11⟩) || decide (2048 < x11.length))) ∧ Below w.heap.size w w' := by
  have HS := Lib.hid (fun (W : World) (hb : Below w.heap.size w W) => same_calls ⟨6, x1, ⟨x2, x3, x4, ⟨x5, x6, x7, x8⟩, x9⟩, x10, x11⟩ ⟨6, 0, ⟨0, false, 0, ⟨0, 0, 0, 0⟩, 0⟩, 0, x11⟩ A c A c W (Kd.C_below hr hb) hc (Kd.C_below hr hb) hc)
  clear hr
  simp only [vals46] at HS
  obtain ⟨rr, hrr⟩ : ∃ rr, rr = eq46 ⟨6, x1, ⟨x2, x3, x4, ⟨x5, x6, x7, x8⟩, x9⟩, x10, x11⟩ ⟨6, 0, ⟨0, false, 0, ⟨0, 0, 0, 0⟩, 0⟩, 0, x11⟩ := ⟨_, rfl⟩
  rw [← hrr] at HS ⊢
  clear hrr
  have hu46 := Tryd.underlying46
  have hu43 := Tryd.underlying43
  go_enter Tryd.func31, Tryd.ntmps31
  go_wp2_with fail
  refine (fields_at _ 6 [] rfl _ ?_).mono ?_
  · exact (blk_cell (blk_at _ _ (by simp)) 0).trans rfl
  rintro e w1 ⟨A1, c1, rfl, hp1, hb1⟩
  have BX1 := Lib.hid (blk_below (blk_alloc (blk_new w _) _) hb1)
  have BY1 := Lib.hid (blk_below (blk_at (n := w.heap.size + 1) (w.alloc _) _ (by simp)) hb1)
  have hb1' : Below w.heap.size w w1 := Below.trans (((Below.refl _ w).alloc (Nat.le_refl _) _).alloc (by simp) _) (hb1.mono (by simp; omega))
  have hz1 := hb1.size
  simp at hz1
  clear hb1
  have cx1 := (blk_cell BX1.out 0).trans rfl
  go_wp2_with fail
  refine (fields_at _ 6 [] rfl _ ?_).mono ?_
  · exact cx1
  rintro e w2 ⟨A2, c2, rfl, hp2, hb2⟩
  clear cx1
  have BX2 := Lib.hid (blk_below BX1.out hb2)
  have BY2 := Lib.hid (blk_below BY1.out hb2)
  have hb2' : Below w.heap.size w w2 := hb1'.trans (hb2.mono (by omega))
  have hz2 := hb2.size
  obtain ⟨cx0, cx1, cx2, cx3, cx4, cx5, cx6, cx7, cx8, cx9, cx10, cx11⟩ := cells12 BX2.out
  obtain ⟨cy0, cy1, cy2, cy3, cy4, cy5, cy6, cy7, cy8, cy9, cy10, cy11⟩ := cells12 BY2.out
  clear hp1 hp2 hb1' hb2
  have fy2 := blk_free BY2.out 11
  go_wp2
  refine wp_loop_rounds 1 ?_
  rw [rounds_succ]
  go_wp2_with fail
  refine (HS.out _ ?_).mono ?_
  · (repeat (first | (with_reducible exact hb2') | (with_reducible refine Below.drew ?_) | (with_reducible refine Below.alloc ?_ (by simp; try omega) _) | (with_reducible refine Below.setCell ?_ (by simp; try omega) _)))
  rintro e w4 ⟨rfl, hb4⟩
  have hb4' : Below w.heap.size w w4 := Below.trans (by repeat (first | (with_reducible exact hb2') | (with_reducible refine Below.drew ?_) | (with_reducible refine Below.alloc ?_ (by simp; try omega) _) | (with_reducible refine Below.setCell ?_ (by simp; try omega) _))) (hb4.mono (by first | omega | (simp; omega)))
  have BX4 : w4.heap[w.heap.size]? = some (.cells #[.int .i64 6, .int .i64 x1, .int .i64 x2, .bool x3, .int .u32 x4, .int .i64 x5, .int .i64 x6, .int .i64 x7, .int .i64 x8, .int .i64 x9, .int .i64 x10, .slice A x11.length c] 46 (0, 0)) :=
    blk_below (by repeat (first | (with_reducible exact BX2.out) | (with_reducible refine blk_drew ?_) | (with_reducible refine blk_alloc ?_ _) | (with_reducible refine blk_far ?_ (by simp) _))) hb4
  have cx := (blk_cell BX4 11).trans rfl
  clear hb4 BX4 cx0 cx1 cx2 cx3 cx4 cx5 cx6 cx7 cx8 cx9 cx10 cx11 cy0 cy1 cy2 cy3 cy4 cy5 cy6 cy7 cy8 cy9 cy10 cy11
  cases rr with
  | false =>
    go_wp2
    go_ret
    exact ⟨rfl, hb4'⟩
  | true =>
    go_wp2
    all_goals go_ret
    all_goals refine ⟨?_, hb4'⟩
    all_goals first | (simp; done) | (simp; omega)

set_option maxHeartbeats 4000000 in
set_option maxRecDepth 100000 in
theorem wrong_one (x1 x2 : Int) (x3 : Bool) (x4 x5 x6 x7 x8 x9 x10 : Int) (x11 : List Bool) (A : Option Addr) (c : Nat) (w : World) (hr : Kd.C Kd.bool w A x11.length x11) (hc : x11.length ≤ c) (ho1 : 1 ≤ x2) (ho2 : x2 ≤ 6) :
    Calls Tryd.prog 31 #[.agg #[.int .i64 1, .int .i64 x1, .int .i64 x2, .bool x3, .int .u32 x4, .int .i64 x5, .int .i64 x6, .int .i64 x7, .int .i64 x8, .int .i64 x9, .int .i64 x10, .slice A x11.length c]] w fun e w' => e = .returned (.bool (!(eq46 ⟨1, x1, ⟨x2, x3, x4, ⟨x5, x6, x7, x8⟩, x9⟩, x10, x11⟩ ⟨1, x1, spokenF ⟨x2, x3, x4, ⟨x5, x6, x7, x8⟩, x9⟩, 0, []⟩) || decide (2048 < x11.length))) ∧ Below w.heap.size w w' := by
  have HS := Lib.hid (fun (W : World) (hb : Below w.heap.size w W) => same_calls ⟨1, x1, ⟨x2, x3, x4, ⟨x5, x6, x7, x8⟩, x9⟩, x10, x11⟩ ⟨1, x1, spokenF ⟨x2, x3, x4, ⟨x5, x6, x7, x8⟩, x9⟩, 0, []⟩ A c none 0 W (Kd.C_below hr hb) hc (Kd_nil W) (Nat.le_refl _))
  clear hr
  simp only [vals46, List.length_nil] at HS
  obtain ⟨rr, hrr⟩ : ∃ rr, rr = eq46 ⟨1, x1, ⟨x2, x3, x4, ⟨x5, x6, x7, x8⟩, x9⟩, x10, x11⟩ ⟨1, x1, spokenF ⟨x2, x3, x4, ⟨x5, x6, x7, x8⟩, x9⟩, 0, []⟩ := ⟨_, rfl⟩
  rw [← hrr] at HS ⊢
  clear hrr
  have hu46 := Tryd.underlying46
  have hu43 := Tryd.underlying43
  have HP := Lib.hid (spoken_calls ⟨x2, x3, x4, ⟨x5, x6, x7, x8⟩, x9⟩)
  obtain ⟨⟨s2, s3, s4, ⟨s5, s6, s7, s8⟩, s9⟩, hsp⟩ : ∃ y, y = spokenF ⟨x2, x3, x4, ⟨x5, x6, x7, x8⟩, x9⟩ := ⟨_, rfl⟩
  rw [← hsp] at HP HS
  clear hsp
  simp only [vals43] at HP HS
  go_enter Tryd.func31, Tryd.ntmps31
  go_wp2_with fail
  refine (fields_at _ 1 [1] rfl _ ?_).mono ?_
  · exact (blk_cell (blk_at _ _ (by simp)) 0).trans rfl
  rintro e w1 ⟨A1, c1, rfl, hp1, hb1⟩
  have BX1 := Lib.hid (blk_below (blk_alloc (blk_new w _) _) hb1)
  have BY1 := Lib.hid (blk_below (blk_at (n := w.heap.size + 1) (w.alloc _) _ (by simp)) hb1)
  have hb1' : Below w.heap.size w w1 := Below.trans (((Below.refl _ w).alloc (Nat.le_refl _) _).alloc (by simp) _) (hb1.mono (by simp; omega))
  have hz1 := hb1.size
  simp at hz1
  clear hb1
  have cx1 := (blk_cell BX1.out 0).trans rfl
  go_wp2_with fail
  refine (fields_at _ 1 [1] rfl _ ?_).mono ?_
  · exact cx1
  rintro e w2 ⟨A2, c2, rfl, hp2, hb2⟩
  clear cx1
  have BX2 := Lib.hid (blk_below BX1.out hb2)
  have BY2 := Lib.hid (blk_below BY1.out hb2)
  have hb2' : Below w.heap.size w w2 := hb1'.trans (hb2.mono (by omega))
  have hz2 := hb2.size
  obtain ⟨cx0, cx1, cx2, cx3, cx4, cx5, cx6, cx7, cx8, cx9, cx10, cx11⟩ := cells12 BX2.out
  obtain ⟨cy0, cy1, cy2, cy3, cy4, cy5, cy6, cy7, cy8, cy9, cy10, cy11⟩ := cells12 BY2.out
  obtain ⟨ad1, rfl, hq1, hq2⟩ := hp1 0 (by decide)
  obtain ⟨ad2, rfl, hr1, hr2⟩ := hp2 0 (by decide)
  have dx2 : w2.cell? ad2 = some (.pointer (some ⟨w.heap.size, 1, none⟩)) := by rw [addr_add0] at hr1; exact hr1
  have dy2 : w2.cell? ad1 = some (.pointer (some ⟨w.heap.size + 1, 1, none⟩)) := by
    have h : w2.cell? (ad1.add 0) = some (.pointer (some ⟨w.heap.size + 1, 1, none⟩)) := by rw [hb2.cell (World.block_lt_of_cell? _ _ hq1)]; exact hq1
    rw [addr_add0] at h; exact h
  have fy2 := blk_free BY2.out 1
  clear hq1 hr1
  clear hp1 hp2 hb1' hb2
  have fy2_2 := blk_free BY2.out 2
  have fy2_3 := blk_free BY2.out 3
  have fy2_4 := blk_free BY2.out 4
  have fy2_5 := blk_free BY2.out 5
  have fy2_6 := blk_free BY2.out 6
  have fy2_7 := blk_free BY2.out 7
  have fy2_8 := blk_free BY2.out 8
  have fy2_9 := blk_free BY2.out 9
  go_wp2
  refine wp_loop_rounds 2 ?_
  rw [rounds_succ]
  go_wp2
  go_region
  go_wp2
  rw [rounds_succ]
  go_wp2_with fail
  refine (HP.out _).mono ?_
  rintro e w3 ⟨rfl, hb3⟩
  have BX3 : w3.heap[w.heap.size]? = some (.cells #[.int .i64 1, .int .i64 x1, .int .i64 x2, .bool x3, .int .u32 x4, .int .i64 x5, .int .i64 x6, .int .i64 x7, .int .i64 x8, .int .i64 x9, .int .i64 x10, .slice A x11.length c] 46 (0, 0)) :=
    blk_below (by repeat (first | exact BX2.out | refine blk_drew ?_ | refine blk_alloc ?_ _ | refine blk_far ?_ (by simp) _)) hb3
  have BY3 : w3.heap[w.heap.size + 1]? = some (.cells #[.int .i64 1, .int .i64 x1, .int .i64 0, .bool false, .int .u32 0, .int .i64 0, .int .i64 0, .int .i64 0, .int .i64 0, .int .i64 0, .int .i64 0, .slice none 0 0] 46 (0, 0)) :=
    blk_below (by exact blk_set BY2.out 1 _) hb3
  have hb2'' : Below w.heap.size w w3 := Below.trans (by repeat (first | (with_reducible exact hb2') | (with_reducible refine Below.drew ?_) | (with_reducible refine Below.alloc ?_ (by simp; try omega) _) | (with_reducible refine Below.setCell ?_ (by simp; try omega) _))) (hb3.mono (by first | omega | (simp; omega)))
  have hz3 := hb3.size
  simp at hz3
  clear hb3 cx0 cx1 cx2 cx3 cx4 cx5 cx6 cx7 cx8 cx9 cx10 cx11 cy0 cy1 cy2 cy3 cy4 cy5 cy6 cy7 cy8 cy9 cy10 cy11 hb2' fy2 fy2_2 fy2_3 fy2_4 fy2_5 fy2_6 fy2_7 fy2_8 fy2_9 dx2 dy2
  obtain ⟨cx0, cx1, cx2, cx3, cx4, cx5, cx6, cx7, cx8, cx9, cx10, cx11⟩ := cells12 BX3
  obtain ⟨cy0, cy1, cy2, cy3, cy4, cy5, cy6, cy7, cy8, cy9, cy10, cy11⟩ := cells12 BY3
  have gy2_2 := blk_free BY3 2
  have gy2_3 := blk_free BY3 3
  have gy2_4 := blk_free BY3 4
  have gy2_5 := blk_free BY3 5
  have gy2_6 := blk_free BY3 6
  have gy2_7 := blk_free BY3 7
  have gy2_8 := blk_free BY3 8
  have gy2_9 := blk_free BY3 9
  replace BX3 := Lib.hid BX3
  replace BY3 := Lib.hid BY3
  go_wp2_with fail
  refine (HS.out _ ?_).mono ?_
  · (repeat (first | (with_reducible exact hb2'') | (with_reducible refine Below.drew ?_) | (with_reducible refine Below.alloc ?_ (by simp; try omega) _) | (with_reducible refine Below.setCell ?_ (by simp; try omega) _)))
  rintro e w4 ⟨rfl, hb4⟩
  have hb4' : Below w.heap.size w w4 := Below.trans (by repeat (first | (with_reducible exact hb2'') | (with_reducible refine Below.drew ?_) | (with_reducible refine Below.alloc ?_ (by simp; try omega) _) | (with_reducible refine Below.setCell ?_ (by simp; try omega) _))) (hb4.mono (by first | omega | (simp; omega)))
  have BX4 : w4.heap[w.heap.size]? = some (.cells #[.int .i64 1, .int .i64 x1, .int .i64 x2, .bool x3, .int .u32 x4, .int .i64 x5, .int .i64 x6, .int .i64 x7, .int .i64 x8, .int .i64 x9, .int .i64 x10, .slice A x11.length c] 46 (0, 0)) :=
    blk_below (by repeat (first | (with_reducible exact BX3.out) | (with_reducible refine blk_drew ?_) | (with_reducible refine blk_alloc ?_ _) | (with_reducible refine blk_far ?_ (by simp) _))) hb4
  have cx := (blk_cell BX4 11).trans rfl
  clear hb4 BX4 cx0 cx1 cx2 cx3 cx4 cx5 cx6 cx7 cx8 cx9 cx10 cx11 cy0 cy1 cy2 cy3 cy4 cy5 cy6 cy7 cy8 cy9 cy10 cy11
  cases rr with
  | false =>
    go_wp2
    go_ret
    exact ⟨rfl, hb4'⟩
  | true =>
    go_wp2
    all_goals go_ret
    all_goals refine ⟨?_, hb4'⟩
    all_goals first | (simp; done) | (simp; omega)

set_option maxHeartbeats 4000000 in
set_option maxRecDepth 100000 in
theorem wrong_op (x1 x2 : Int) (x3 : Bool) (x4 x5 x6 x7 x8 x9 x10 : Int) (x11 : List Bool) (A : Option Addr) (c : Nat) (w : World) (hr : Kd.C Kd.bool w A x11.length x11) (hc : x11.length ≤ c) (ho : x2 < 1 ∨ 6 < x2) :
    Calls Tryd.prog 31 #[.agg #[.int .i64 1, .int .i64 x1, .int .i64 x2, .bool x3, .int .u32 x4, .int .i64 x5, .int .i64 x6, .int .i64 x7, .int .i64 x8, .int .i64 x9, .int .i64 x10, .slice A x11.length c]] w fun e w' => e = .returned (.bool true) ∧ Below w.heap.size w w' := by
  clear hr hc
  have hu46 := Tryd.underlying46
  have hu43 := Tryd.underlying43
  have ho' : (x2 < 1) ∨ (¬ x2 < 1 ∧ 6 < x2) := by omega
  clear ho
  go_enter Tryd.func31, Tryd.ntmps31
  go_wp2_with fail
  refine (fields_at _ 1 [1] rfl _ ?_).mono ?_
  · exact (blk_cell (blk_at _ _ (by simp)) 0).trans rfl
  rintro e w1 ⟨A1, c1, rfl, hp1, hb1⟩
  have BX1 := Lib.hid (blk_below (blk_alloc (blk_new w _) _) hb1)
  have BY1 := Lib.hid (blk_below (blk_at (n := w.heap.size + 1) (w.alloc _) _ (by simp)) hb1)
  have hb1' : Below w.heap.size w w1 := Below.trans (((Below.refl _ w).alloc (Nat.le_refl _) _).alloc (by simp) _) (hb1.mono (by simp; omega))
  have hz1 := hb1.size
  simp at hz1
  clear hb1
  have cx1 := (blk_cell BX1.out 0).trans rfl
  go_wp2_with fail
  refine (fields_at _ 1 [1] rfl _ ?_).mono ?_
  · exact cx1
  rintro e w2 ⟨A2, c2, rfl, hp2, hb2⟩
  clear cx1
  have BX2 := Lib.hid (blk_below BX1.out hb2)
  have BY2 := Lib.hid (blk_below BY1.out hb2)
  have hb2' : Below w.heap.size w w2 := hb1'.trans (hb2.mono (by omega))
  have hz2 := hb2.size
  obtain ⟨cx0, cx1, cx2, cx3, cx4, cx5, cx6, cx7, cx8, cx9, cx10, cx11⟩ := cells12 BX2.out
  obtain ⟨cy0, cy1, cy2, cy3, cy4, cy5, cy6, cy7, cy8, cy9, cy10, cy11⟩ := cells12 BY2.out
  obtain ⟨ad1, rfl, hq1, hq2⟩ := hp1 0 (by decide)
  obtain ⟨ad2, rfl, hr1, hr2⟩ := hp2 0 (by decide)
  have dx2 : w2.cell? ad2 = some (.pointer (some ⟨w.heap.size, 1, none⟩)) := by rw [addr_add0] at hr1; exact hr1
  have dy2 : w2.cell? ad1 = some (.pointer (some ⟨w.heap.size + 1, 1, none⟩)) := by
    have h : w2.cell? (ad1.add 0) = some (.pointer (some ⟨w.heap.size + 1, 1, none⟩)) := by rw [hb2.cell (World.block_lt_of_cell? _ _ hq1)]; exact hq1
    rw [addr_add0] at h; exact h
  have fy2 := blk_free BY2.out 1
  clear hq1 hr1
  clear hp1 hp2 hb1' hb2
  have fy2_2 := blk_free BY2.out 2
  have fy2_3 := blk_free BY2.out 3
  have fy2_4 := blk_free BY2.out 4
  have fy2_5 := blk_free BY2.out 5
  have fy2_6 := blk_free BY2.out 6
  have fy2_7 := blk_free BY2.out 7
  have fy2_8 := blk_free BY2.out 8
  have fy2_9 := blk_free BY2.out 9
  go_wp2
  refine wp_loop_rounds 2 ?_
  rw [rounds_succ]
  go_wp2
  go_region
  go_wp2
  rw [rounds_succ]
  rcases ho' with ho | ⟨ho, ho2⟩
  · go_wp2_with fail
    go_ret
    exact ⟨rfl, by repeat (first | (with_reducible exact hb2') | (with_reducible refine Below.drew ?_) | (with_reducible refine Below.alloc ?_ (by simp; try omega) _) | (with_reducible refine Below.setCell ?_ (by simp; try omega) _))⟩
  · go_wp2_with fail
    go_ret
    exact ⟨rfl, by repeat (first | (with_reducible exact hb2') | (with_reducible refine Below.drew ?_) | (with_reducible refine Below.alloc ?_ (by simp; try omega) _) | (with_reducible refine Below.setCell ?_ (by simp; try omega) _))⟩

set_option maxHeartbeats 1000000 in
theorem wrong_kind (x0 x1 x2 : Int) (x3 : Bool) (x4 x5 x6 x7 x8 x9 x10 : Int) (v : Value) (w : World) (h : x0 < 1 ∨ 7 < x0) :
    Calls Tryd.prog 31 #[.agg #[.int .i64 x0, .int .i64 x1, .int .i64 x2, .bool x3, .int .u32 x4, .int .i64 x5, .int .i64 x6, .int .i64 x7, .int .i64 x8, .int .i64 x9, .int .i64 x10, v]] w fun e w' => e = .returned (.bool true) ∧ Below w.heap.size w w' := by
  have hu46 := Tryd.underlying46
  rcases h with h | h
  · go_enter Tryd.func31, Tryd.ntmps31
    go_wp2_with fail
    go_ret
    exact ⟨rfl, by (repeat (first | exact Below.refl _ _ | refine Below.drew ?_ | refine Below.drewN ?_ _ | refine Below.alloc ?_ (by simp; try omega) _ | refine Below.setCell ?_ (by simp; try omega) _))⟩
  · have h' : ¬ x0 < 1 := by omega
    go_enter Tryd.func31, Tryd.ntmps31
    go_wp2_with fail
    go_ret
    exact ⟨rfl, by (repeat (first | exact Below.refl _ _ | refine Below.drew ?_ | refine Below.drewN ?_ _ | refine Below.alloc ?_ (by simp; try omega) _ | refine Below.setCell ?_ (by simp; try omega) _))⟩

end Go.Proofs.YthkheemjgcbofaaDoor

namespace Go.Proofs.YthkheemjgcbofaaDoor
set_option linter.unusedVariables false
set_option linter.unusedSimpArgs false
open Go.RowKit Go.Proofs.YthkheemjgcbofaaDoor.PSc Go.Proofs.YthkheemjgcbofaaDoorW.PrintWords

theorem wrong_calls (x : S46) (A : Option Addr) (c : Nat) (w : World) (hr : Kd.C Kd.bool w A x.f4.length x.f4) (hc : x.f4.length ≤ c) :
    Calls Tryd.prog 31 #[.agg (vals46 x (.slice A x.f4.length c))] w fun e w' => e = .returned (.bool (wrongF x)) ∧ Below w.heap.size w w' := by
  obtain ⟨x0, x1, ⟨x2, x3, x4, ⟨x5, x6, x7, x8⟩, x9⟩, x10, x11⟩ := x
  by_cases hk : x0 < 1 ∨ 7 < x0
  · have h := wrong_kind x0 x1 x2 x3 x4 x5 x6 x7 x8 x9 x10 (.slice A x11.length c) w hk
    simpa [wrongF, hk, vals46] using h
  · simp only at hr hc
    obtain rfl | rfl | rfl | rfl | rfl | rfl | rfl : x0 = 1 ∨ x0 = 2 ∨ x0 = 3 ∨ x0 = 4 ∨ x0 = 5 ∨ x0 = 6 ∨ x0 = 7 := by omega
    · by_cases ho : x2 < 1 ∨ 6 < x2
      · have h := wrong_op x1 x2 x3 x4 x5 x6 x7 x8 x9 x10 x11 A c w hr hc ho
        simpa [wrongF, ho, vals46] using h
      · have h := wrong_one x1 x2 x3 x4 x5 x6 x7 x8 x9 x10 x11 A c w hr hc (by omega) (by omega)
        simpa [wrongF, only, ho, vals46, z43, z41] using h
    · have h := wrong_two x1 x2 x3 x4 x5 x6 x7 x8 x9 x10 x11 A c w hr hc
      simpa [wrongF, only, vals46, z43, z41] using h
    · have h := wrong_three x1 x2 x3 x4 x5 x6 x7 x8 x9 x10 x11 A c w hr hc
      simpa [wrongF, only, vals46, z43, z41] using h
    · have h := wrong_four x1 x2 x3 x4 x5 x6 x7 x8 x9 x10 x11 A c w hr hc
      simpa [wrongF, only, vals46, z43, z41] using h
    · have h := wrong_five x1 x2 x3 x4 x5 x6 x7 x8 x9 x10 x11 A c w hr hc
      simpa [wrongF, only, vals46, z43, z41] using h
    · have h := wrong_six x1 x2 x3 x4 x5 x6 x7 x8 x9 x10 x11 A c w hr hc
      simpa [wrongF, only, vals46, z43, z41] using h
    · have h := wrong_seven x1 x2 x3 x4 x5 x6 x7 x8 x9 x10 x11 A c w hr hc
      simpa [wrongF, only, vals46, z43, z41] using h
end Go.Proofs.YthkheemjgcbofaaDoor

namespace Go.Proofs.YthkheemjgcbofaaDoor
set_option linter.unusedVariables false
set_option linter.unusedSimpArgs false
open Go.RowKit Go.Proofs.YthkheemjgcbofaaDoor.PSc Go.Proofs.YthkheemjgcbofaaDoorW.PrintWords

def wordsL : List By := [[], [97, 115, 107], [115, 116, 101, 112], [118, 97, 99, 117, 117, 109], [99, 104, 101, 99, 107], [97, 114, 109], [99, 114, 97, 115, 104], [111, 112, 101, 110]]
def verbsL : List By := [[97, 110, 121], [98, 101, 103, 105, 110], [105, 110, 115, 101, 114, 116], [100, 101, 108, 101, 116, 101], [113, 117, 101, 114, 121], [99, 111, 109, 109, 105, 116], [97, 98, 111, 114, 116]]
def baOf (l : By) : ByteArray := ⟨l.toArray⟩
/-- The place of a word; -1: there is none. -/
def idxF : List By → By → Int → Int
  | [], _, _ => -1
  | x :: xs, s, i => if s = x then i else idxF xs s (i + 1)

theorem ba_toList (l : By) : (baOf l).toList = l := by
  unfold baOf; simp

theorem index_l0 (s : By) (all : List By) (hall : all.length ≤ 1000) (l : List By) : ∀ (k i : Nat), all.drop i = l → i + l.length = all.length → l.length < k → slices_Index_string_string.l0 k (all.map baOf) (baOf s) (all.length : Int) (i : Int) = some (idxF l s i) := by
  induction l with
  | nil =>
    intro k i h1 h2 hk
    obtain ⟨k, rfl⟩ : ∃ j, k = j + 1 := ⟨k - 1, by omega⟩
    simp only [slices_Index_string_string.l0, List.length_nil] at *
    rw [if_neg (by omega)]; rfl
  | cons x l ih =>
    intro k i h1 h2 hk
    simp only [List.length_cons] at h2 hk
    obtain ⟨k, rfl⟩ : ∃ j, k = j + 1 := ⟨k - 1, by omega⟩
    have hw : wrap64 ((i : Int) + 1) = ((i + 1 : Nat) : Int) := by unfold wrap64; omega
    have hx : rdOf ByteArray.empty (all.map baOf) (i : Int) = baOf x := by
      have h3 : all[i]? = some x := by
        have : (all.drop i)[0]? = some x := by rw [h1]; rfl
        simpa using this
      simp [rdOf, List.getD_eq_getElem?_getD, h3]
    have hd : all.drop (i + 1) = l := by
      have : (all.drop i).drop 1 = l := by rw [h1]; rfl
      rw [List.drop_drop] at this; exact this
    simp only [slices_Index_string_string.l0, List.length_map]
    rw [if_pos (by omega), if_pos (by omega), if_pos (by omega), hx, ba_toList, ba_toList, idxF]
    by_cases h : s = x
    · rw [if_pos h, if_pos h]
    · rw [if_neg h, if_neg h, hw, ih k (i + 1) hd (by omega) (by omega)]
      congr 2
theorem index_f (s : By) (all : List By) (hall : all.length ≤ 1000) : slices_Index_string_string.f (all.length + 1) (all.map baOf) (baOf s) = some (idxF all s 0) := by
  unfold slices_Index_string_string.f
  rw [List.length_map]
  exact index_l0 s all hall all (all.length + 1) 0 rfl (by omega) (by omega)

/-- A list of strings lies at A, in the blocks from base on, and stays readable while these stay. -/
def StrsAt (base : Nat) (A : Option Addr) (l : List By) (w : World) : Prop :=
  ∀ W : World, (∀ k, base ≤ k → k < w.heap.size → W.heap[k]? = w.heap[k]?) → Kd.C Kd.string W A l.length (l.map baOf)
theorem strs_of_R {w w' : World} {v : Value} {l : List By} (h : Kd.R Kd.string 9 w' w.heap.size (fun _ => True) v (l.map baOf)) : ∃ A c, v = .slice A l.length c ∧ l.length ≤ c ∧ StrsAt w.heap.size A l w' := by
  obtain ⟨A, c, rfl, hl, hr⟩ := Kd.R_reads h
  rw [List.length_map] at hl hr ⊢
  refine ⟨A, c, rfl, hl, fun W hW => ?_⟩
  have h' : Kd.R Kd.string 9 W w.heap.size (fun k => True ∧ w.heap.size ≤ k ∧ k < w'.heap.size ∧ ∃ q, q ∈ 9 :: Kd.string.E ∧ ∃ cells, w'.heap[k]? = some (.cells cells q (0, 0))) (.slice A l.length c) (l.map baOf) := by
    have := Kd.R_bound h
    rw [List.length_map] at this
    exact Kd.R_move this (fun k hk => hW k hk.2.1 hk.2.2.1)
  obtain ⟨A', c', e, _, hr'⟩ := Kd.R_reads h'
  rw [List.length_map] at e hr'
  injection e with e1 e2 e3
  rw [e1]
  exact hr'
theorem StrsAt.mod {base : Nat} {A : Option Addr} {l : List By} {w w1 : World} {S : List Nat} (h : StrsAt base A l w) (hm : Mod S w w1) (hS : ∀ k, k ∈ S → k < base) : Kd.C Kd.string w1 A l.length (l.map baOf) :=
  h w1 fun k hk hlt => hm.block k hlt (fun h' => by have := hS k h'; omega)
theorem verbs_calls (w : World) : Calls Tryd.prog 55 #[] w fun e w' => ∃ A c, e = .returned (.slice A 7 c) ∧ 7 ≤ c ∧ StrsAt w.heap.size A verbsL w' ∧ Below w.heap.size w w' := by
  refine (script_verbs.calls (verbsL.map baOf) w rfl).mono ?_
  rintro e w' ⟨v, rfl, h, hb⟩
  obtain ⟨A, c, rfl, hl, hr⟩ := strs_of_R h
  exact ⟨A, c, rfl, hl, hr, hb⟩
theorem words_calls (w : World) : Calls Tryd.prog 50 #[] w fun e w' => ∃ A c, e = .returned (.slice A 8 c) ∧ 8 ≤ c ∧ StrsAt w.heap.size A wordsL w' ∧ Below w.heap.size w w' := by
  refine (script_words.calls (wordsL.map baOf) w rfl).mono ?_
  rintro e w' ⟨v, rfl, h, hb⟩
  obtain ⟨A, c, rfl, hl, hr⟩ := strs_of_R h
  exact ⟨A, c, rfl, hl, hr, hb⟩
theorem index_calls (all : List By) (n : Nat) (hn : n = all.length) (s : By) (A : Option Addr) (c : Nat) (w : World) (hr : Kd.C Kd.string w A n (all.map baOf)) (hc : n ≤ c) (hall : n ≤ 1000) :
    Calls Tryd.prog 60 #[.slice A n c, .string ⟨s.toArray⟩] w fun e w' => e = .returned (.int .i64 (idxF all s 0)) ∧ ∃ m, w' = w.drewN m := by
  subst hn
  have h := slices_Index_string_string.calls (all.length + 1) A c (all.map baOf) (baOf s) (idxF all s 0) w (by rw [List.length_map]; exact hr) (by rw [List.length_map]; exact hc) (index_f s all hall)
  rw [List.length_map] at h
  exact h.mono fun e w' ⟨h1, h2⟩ => ⟨h1, h2.out⟩
end Go.Proofs.YthkheemjgcbofaaDoor
