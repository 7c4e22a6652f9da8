/-
  The reader's operation.
  The reader's operation: its other kinds.
  The reader's operation, all kinds together; an event's words, read (evF).
-/
import Derived.Test.YthkheemjgcbofaaDoorGC

namespace Go.Proofs.YthkheemjgcbofaaDoor
set_option linter.unusedVariables false
set_option linter.unusedSimpArgs false
open Go.RowKit Go.Proofs.YthkheemjgcbofaaDoor.PSc Go.Proofs.YthkheemjgcbofaaDoorW.PrintWords

/-- An operation's words, read. -/
def opF (r : Rd) : S43 × Rd :=
  let k := idxF verbsL (tok r).1 0
  let r1 := (tok r).2
  if k = 1 then (⟨k, (num r1).1 == 1, 0, z41, 0⟩, ⟨(num r1).2.rest, (num r1).2.bad || (decide ((num r1).1 < 0) || decide (1 < (num r1).1))⟩)
  else if k = 2 then
    (⟨k, false, (row r1).1, ⟨(nums 4 (row r1).2).1.getD 0 0, (nums 4 (row r1).2).1.getD 1 0, (nums 4 (row r1).2).1.getD 2 0, (nums 4 (row r1).2).1.getD 3 0⟩, (num (nums 4 (row r1).2).2).1⟩, (num (nums 4 (row r1).2).2).2)
  else if k = 3 then (⟨k, false, (row r1).1, z41, 0⟩, (row r1).2)
  else if k = 4 then (⟨k, false, 0, ⟨(nums 4 r1).1.getD 0 0, (nums 4 r1).1.getD 1 0, (nums 4 r1).1.getD 2 0, (nums 4 r1).1.getD 3 0⟩, 0⟩, (nums 4 r1).2)
  else (⟨k, false, 0, z41, 0⟩, r1)

theorem cells8 {w : World} {b : Nat} {a0 a1 a2 a3 a4 a5 a6 a7 : Value} {T : TypeId} {fr : Nat × Nat} (h : w.heap[b]? = some (.cells #[a0, a1, a2, a3, a4, a5, a6, a7] T fr)) :
    w.cell? ⟨b, 0, none⟩ = some a0 ∧ w.cell? ⟨b, 1, none⟩ = some a1 ∧ w.cell? ⟨b, 2, none⟩ = some a2 ∧ w.cell? ⟨b, 3, none⟩ = some a3 ∧ w.cell? ⟨b, 4, none⟩ = some a4 ∧ w.cell? ⟨b, 5, none⟩ = some a5 ∧ w.cell? ⟨b, 6, none⟩ = some a6 ∧ w.cell? ⟨b, 7, none⟩ = some a7 :=
  ⟨(blk_cell h 0).trans rfl, (blk_cell h 1).trans rfl, (blk_cell h 2).trans rfl, (blk_cell h 3).trans rfl, (blk_cell h 4).trans rfl, (blk_cell h 5).trans rfl, (blk_cell h 6).trans rfl, (blk_cell h 7).trans rfl⟩

theorem blk_far_eq {w : World} {b : Nat} {p : Addr} (u : Value) (hp : b ≠ p.block) : (w.setCell p u).heap[b]? = w.heap[b]? := Below.heap_setCell w p u b hp
theorem frees8 {w : World} {b : Nat} {cs : Array Value} {T : TypeId} (h : w.heap[b]? = some (.cells cs T (0, 0))) :
    w.frozen? ⟨b, 0, none⟩ = false ∧ w.frozen? ⟨b, 1, none⟩ = false ∧ w.frozen? ⟨b, 2, none⟩ = false ∧ w.frozen? ⟨b, 3, none⟩ = false ∧ w.frozen? ⟨b, 4, none⟩ = false ∧ w.frozen? ⟨b, 5, none⟩ = false ∧ w.frozen? ⟨b, 6, none⟩ = false ∧ w.frozen? ⟨b, 7, none⟩ = false :=
  ⟨blk_free h 0, blk_free h 1, blk_free h 2, blk_free h 3, blk_free h 4, blk_free h 5, blk_free h 6, blk_free h 7⟩

set_option maxHeartbeats 4000000 in
set_option maxRecDepth 100000 in
theorem operation_one (b : Nat) (r : Rd) (w : World) (hG : Glob w) (hl : r.rest.length < 4294967281) (h6 : 6 ≤ b) (hb : w.heap[b]? = some r.blk) (k : Int) (hk : idxF verbsL (tok r).1 0 = k) (h : k = 1) :
    Calls Tryd.prog 61 #[.pointer (some ⟨b, 0, none⟩)] w fun e w' => e = .returned (.agg #[.int .i64 1, .bool ((num (tok r).2).1 == 1), .int .u32 0, .int .i64 0, .int .i64 0, .int .i64 0, .int .i64 0, .int .i64 0]) ∧ w'.heap[b]? = some (⟨(num (tok r).2).2.rest, (num (tok r).2).2.bad || (decide ((num (tok r).2).1 < 0) || decide (1 < (num (tok r).2).1))⟩ : Rd).blk ∧ Mod [b] w w' := by
  subst h
  have HB := Lib.hid hb
  have HK := Lib.hid hk
  have HL := tok_le r
  have hblt := blk_lt hb
  have hne : ¬ b = w.heap.size := by omega
  have hne' : ¬ w.heap.size = b := by omega
  have hsz := hG.size
  clear hb hk
  have hu43 := Tryd.underlying43
  go_enter Tryd.func61, Tryd.ntmps61
  go_wp2_with fail
  refine (verbs_calls _).mono ?_
  rintro e w1 ⟨A, c, rfl, hc7, hC1, hb1⟩
  have HB1 := Lib.hid (blk_below (blk_alloc HB.out _) hb1)
  have HO1 := Lib.hid (blk_below (blk_new w _) hb1)
  have HC1 := Lib.hid hC1
  have HG1 := Lib.hid (hG.below (Below.trans ((Below.refl _ w).alloc (Nat.le_refl _) _) (hb1.mono (by simp))) (by omega))
  have HM1 := Lib.hid (((Mod.refl [b] w).alloc _).thenBelow hb1)
  have hz1 := hb1.size
  simp at hz1
  clear hC1 hb1
  go_wp2_with fail
  refine (token_calls b r w1 HG1.out hl HB1.out).mono ?_
  rintro e w2 ⟨rfl, hb2, hm2⟩
  have HB2 := Lib.hid hb2
  have HO2 := Lib.hid (blk_mod HO1.out hm2 (by simp; omega))
  have HC2 := Lib.hid (HC1.out.mod hm2 (by simp; omega))
  have HM2 := Lib.hid (HM1.out.trans hm2)
  have hz2 := hm2.size
  clear hb2 hm2
  go_wp2_with fail
  refine (index_calls verbsL 7 rfl (tok r).1 A c w2 HC2.out hc7 (by omega)).mono ?_
  rintro e w3 ⟨rfl, m, rfl⟩
  rw [HK.out]
  obtain ⟨co0, co1, co2, co3, co4, co5, co6, co7⟩ := cells8 HO2.out
  have fo0 := blk_free HO2.out 0
  go_wp2_with fail
  have HBW := Lib.hid (blk_far (blk_drewN HB2.out m) (p := ⟨w.heap.size, 0, none⟩) (by simp; omega) (.int .i64 1))
  have HOW := Lib.hid (blk_set (blk_drewN HO2.out m) 0 (.int .i64 1))
  have HMW := Lib.hid ((HM2.out.drewN m).setNew (p := ⟨w.heap.size, 0, none⟩) (Nat.le_refl _) (.int .i64 1))
  have HGW := Lib.hid (hG.mod HMW.out (by simp; omega))
  have hzw := HMW.out.size
  refine (number_calls b (tok r).2 _ HGW.out (by omega) h6 HBW.out).mono ?_
  rintro e w4 ⟨rfl, hb4, hm4⟩
  have HB4 := Lib.hid hb4
  have HO4 : Hid (w4.heap[w.heap.size]? = some (.cells #[.int .i64 1, .bool false, .int .u32 0, .int .i64 0, .int .i64 0, .int .i64 0, .int .i64 0, .int .i64 0] 43 (0, 0))) := Lib.hid (blk_mod (HOW.out) hm4 (by simp; omega))
  have HM4 := Lib.hid (HMW.out.trans hm4)
  have HG4 := Lib.hid (hG.mod HM4.out (by simp; omega))
  have hz4 := hm4.size
  clear hb4 hm4 fo0 co0 co1 co2 co3 co4 co5 co6 co7
  obtain ⟨co0, co1, co2, co3, co4, co5, co6, co7⟩ := cells8 HO4.out
  obtain ⟨fo0, fo1, fo2, fo3, fo4, fo5, fo6, fo7⟩ := frees8 HO4.out
  obtain ⟨cr0, cr1, fr0, fr1⟩ := rd_cells HB4.out
  by_cases hbad : (num (tok r).2).2.bad = true
  · go_wp2_with fail
    refine bodyPost_ret (v := .agg #[.int .i64 1, .bool ((num (tok r).2).1 == 1), .int .u32 0, .int .i64 0, .int .i64 0, .int .i64 0, .int .i64 0, .int .i64 0]) (by simp [results, Tryd.results61, go_sem, co0, co1, co2, co3, co4, co5, co6, co7, hne, hne']) rfl ⟨rfl, ?_, ?_⟩
    · repeat rw [blk_far_eq _ (by simp; omega)]
      rw [blk_set (blk_far HB4.out (by simp; omega) _) 1 _]; simp [Rd.blk, hbad]
    · (repeat (first | (with_reducible assumption) | (with_reducible exact HM4.out) | (with_reducible refine Mod.drewN ?_ _) | (with_reducible refine Mod.drew ?_) | (with_reducible refine Mod.alloc ?_ _) | (with_reducible refine Mod.set ?_ (by simp; try omega) _)))
  · have hbad' : (num (tok r).2).2.bad = false := by simpa using hbad
    by_cases hn : (num (tok r).2).1 < 0
    · go_wp2_with fail
      refine bodyPost_ret (v := .agg #[.int .i64 1, .bool ((num (tok r).2).1 == 1), .int .u32 0, .int .i64 0, .int .i64 0, .int .i64 0, .int .i64 0, .int .i64 0]) (by simp [results, Tryd.results61, go_sem, co0, co1, co2, co3, co4, co5, co6, co7, hne, hne']) rfl ⟨rfl, ?_, ?_⟩
      · repeat rw [blk_far_eq _ (by simp; omega)]
        rw [blk_set (blk_far HB4.out (by simp; omega) _) 1 _]; simp [Rd.blk, hbad', hn]
      · (repeat (first | (with_reducible assumption) | (with_reducible exact HM4.out) | (with_reducible refine Mod.drewN ?_ _) | (with_reducible refine Mod.drew ?_) | (with_reducible refine Mod.alloc ?_ _) | (with_reducible refine Mod.set ?_ (by simp; try omega) _)))
    · by_cases hp : 1 < (num (tok r).2).1
      · go_wp2_with fail
        refine bodyPost_ret (v := .agg #[.int .i64 1, .bool ((num (tok r).2).1 == 1), .int .u32 0, .int .i64 0, .int .i64 0, .int .i64 0, .int .i64 0, .int .i64 0]) (by simp [results, Tryd.results61, go_sem, co0, co1, co2, co3, co4, co5, co6, co7, hne, hne']) rfl ⟨rfl, ?_, ?_⟩
        · repeat rw [blk_far_eq _ (by simp; omega)]
          rw [blk_set (blk_far HB4.out (by simp; omega) _) 1 _]; simp [Rd.blk, hbad', hn, hp]
        · (repeat (first | (with_reducible assumption) | (with_reducible exact HM4.out) | (with_reducible refine Mod.drewN ?_ _) | (with_reducible refine Mod.drew ?_) | (with_reducible refine Mod.alloc ?_ _) | (with_reducible refine Mod.set ?_ (by simp; try omega) _)))
      · go_wp2_with fail
        refine bodyPost_ret (v := .agg #[.int .i64 1, .bool ((num (tok r).2).1 == 1), .int .u32 0, .int .i64 0, .int .i64 0, .int .i64 0, .int .i64 0, .int .i64 0]) (by simp [results, Tryd.results61, go_sem, co0, co1, co2, co3, co4, co5, co6, co7, hne, hne']) rfl ⟨rfl, ?_, ?_⟩
        · repeat rw [blk_far_eq _ (by simp; omega)]
          rw [blk_set (blk_far HB4.out (by simp; omega) _) 1 _]; simp [Rd.blk, hbad', hn, hp]
        · (repeat (first | (with_reducible assumption) | (with_reducible exact HM4.out) | (with_reducible refine Mod.drewN ?_ _) | (with_reducible refine Mod.drew ?_) | (with_reducible refine Mod.alloc ?_ _) | (with_reducible refine Mod.set ?_ (by simp; try omega) _)))

end Go.Proofs.YthkheemjgcbofaaDoor

namespace Go.Proofs.YthkheemjgcbofaaDoor
set_option linter.unusedVariables false
set_option linter.unusedSimpArgs false
open Go.RowKit Go.Proofs.YthkheemjgcbofaaDoor.PSc Go.Proofs.YthkheemjgcbofaaDoorW.PrintWords

set_option maxHeartbeats 4000000 in
set_option maxRecDepth 100000 in
theorem operation_else (b : Nat) (r : Rd) (w : World) (hG : Glob w) (hl : r.rest.length < 4294967281) (h6 : 6 ≤ b) (hb : w.heap[b]? = some r.blk) (k : Int) (hk : idxF verbsL (tok r).1 0 = k) (h1 : (k == 1) = false) (h2 : (k == 2) = false) (h3 : (k == 3) = false) (h4 : (k == 4) = false) :
    Calls Tryd.prog 61 #[.pointer (some ⟨b, 0, none⟩)] w fun e w' => e = .returned (.agg #[.int .i64 k, .bool false, .int .u32 0, .int .i64 0, .int .i64 0, .int .i64 0, .int .i64 0, .int .i64 0]) ∧ w'.heap[b]? = some ((tok r).2 : Rd).blk ∧ Mod [b] w w' := by
  have HB := Lib.hid hb
  have HK := Lib.hid hk
  have HL := tok_le r
  have hblt := blk_lt hb
  have hne : ¬ b = w.heap.size := by omega
  have hne' : ¬ w.heap.size = b := by omega
  have hsz := hG.size
  clear hb hk
  have hu43 := Tryd.underlying43
  go_enter Tryd.func61, Tryd.ntmps61
  go_wp2_with fail
  refine (verbs_calls _).mono ?_
  rintro e w1 ⟨A, c, rfl, hc7, hC1, hb1⟩
  have HB1 := Lib.hid (blk_below (blk_alloc HB.out _) hb1)
  have HO1 := Lib.hid (blk_below (blk_new w _) hb1)
  have HC1 := Lib.hid hC1
  have HG1 := Lib.hid (hG.below (Below.trans ((Below.refl _ w).alloc (Nat.le_refl _) _) (hb1.mono (by simp))) (by omega))
  have HM1 := Lib.hid (((Mod.refl [b] w).alloc _).thenBelow hb1)
  have hz1 := hb1.size
  simp at hz1
  clear hC1 hb1
  go_wp2_with fail
  refine (token_calls b r w1 HG1.out hl HB1.out).mono ?_
  rintro e w2 ⟨rfl, hb2, hm2⟩
  have HB2 := Lib.hid hb2
  have HO2 := Lib.hid (blk_mod HO1.out hm2 (by simp; omega))
  have HC2 := Lib.hid (HC1.out.mod hm2 (by simp; omega))
  have HM2 := Lib.hid (HM1.out.trans hm2)
  have hz2 := hm2.size
  clear hb2 hm2
  go_wp2_with fail
  refine (index_calls verbsL 7 rfl (tok r).1 A c w2 HC2.out hc7 (by omega)).mono ?_
  rintro e w3 ⟨rfl, m, rfl⟩
  rw [HK.out]
  obtain ⟨co0, co1, co2, co3, co4, co5, co6, co7⟩ := cells8 HO2.out
  obtain ⟨fo0, fo1, fo2, fo3, fo4, fo5, fo6, fo7⟩ := frees8 HO2.out
  go_wp2_with fail
  refine bodyPost_ret (v := .agg #[.int .i64 k, .bool false, .int .u32 0, .int .i64 0, .int .i64 0, .int .i64 0, .int .i64 0, .int .i64 0]) (by simp [results, Tryd.results61, go_sem, co0, co1, co2, co3, co4, co5, co6, co7, hne, hne']) rfl ⟨rfl, ?_, ?_⟩
  · repeat rw [blk_far_eq _ (by simp; omega)]
    exact HB2.out
  · (repeat (first | (with_reducible assumption) | (with_reducible exact HM2.out) | (with_reducible refine Mod.drewN ?_ _) | (with_reducible refine Mod.drew ?_) | (with_reducible refine Mod.alloc ?_ _) | (with_reducible refine Mod.set ?_ (by simp; try omega) _)))

set_option maxHeartbeats 4000000 in
set_option maxRecDepth 100000 in
theorem operation_three (b : Nat) (r : Rd) (w : World) (hG : Glob w) (hl : r.rest.length < 4294967281) (h6 : 6 ≤ b) (hb : w.heap[b]? = some r.blk) (k : Int) (hk : idxF verbsL (tok r).1 0 = k) (h : k = 3) :
    Calls Tryd.prog 61 #[.pointer (some ⟨b, 0, none⟩)] w fun e w' => e = .returned (.agg #[.int .i64 3, .bool false, .int .u32 (row (tok r).2).1, .int .i64 0, .int .i64 0, .int .i64 0, .int .i64 0, .int .i64 0]) ∧ w'.heap[b]? = some ((row (tok r).2).2 : Rd).blk ∧ Mod [b] w w' := by
  subst h
  have HB := Lib.hid hb
  have HK := Lib.hid hk
  have HL := tok_le r
  have hblt := blk_lt hb
  have hne : ¬ b = w.heap.size := by omega
  have hne' : ¬ w.heap.size = b := by omega
  have hsz := hG.size
  clear hb hk
  have hu43 := Tryd.underlying43
  go_enter Tryd.func61, Tryd.ntmps61
  go_wp2_with fail
  refine (verbs_calls _).mono ?_
  rintro e w1 ⟨A, c, rfl, hc7, hC1, hb1⟩
  have HB1 := Lib.hid (blk_below (blk_alloc HB.out _) hb1)
  have HO1 := Lib.hid (blk_below (blk_new w _) hb1)
  have HC1 := Lib.hid hC1
  have HG1 := Lib.hid (hG.below (Below.trans ((Below.refl _ w).alloc (Nat.le_refl _) _) (hb1.mono (by simp))) (by omega))
  have HM1 := Lib.hid (((Mod.refl [b] w).alloc _).thenBelow hb1)
  have hz1 := hb1.size
  simp at hz1
  clear hC1 hb1
  go_wp2_with fail
  refine (token_calls b r w1 HG1.out hl HB1.out).mono ?_
  rintro e w2 ⟨rfl, hb2, hm2⟩
  have HB2 := Lib.hid hb2
  have HO2 := Lib.hid (blk_mod HO1.out hm2 (by simp; omega))
  have HC2 := Lib.hid (HC1.out.mod hm2 (by simp; omega))
  have HM2 := Lib.hid (HM1.out.trans hm2)
  have hz2 := hm2.size
  clear hb2 hm2
  go_wp2_with fail
  refine (index_calls verbsL 7 rfl (tok r).1 A c w2 HC2.out hc7 (by omega)).mono ?_
  rintro e w3 ⟨rfl, m, rfl⟩
  rw [HK.out]
  obtain ⟨co0, co1, co2, co3, co4, co5, co6, co7⟩ := cells8 HO2.out
  have fo0 := blk_free HO2.out 0
  go_wp2_with fail
  have HBW := Lib.hid (blk_far (blk_drewN HB2.out m) (p := ⟨w.heap.size, 0, none⟩) (by simp; omega) (.int .i64 3))
  have HOW := Lib.hid (blk_set (blk_drewN HO2.out m) 0 (.int .i64 3))
  have HMW := Lib.hid ((HM2.out.drewN m).setNew (p := ⟨w.heap.size, 0, none⟩) (Nat.le_refl _) (.int .i64 3))
  have HGW := Lib.hid (hG.mod HMW.out (by simp; omega))
  have hzw := HMW.out.size
  refine (row_calls b (tok r).2 _ HGW.out (by omega) h6 HBW.out).mono ?_
  rintro e w4 ⟨rfl, hb4, hm4⟩
  have HB4 := Lib.hid hb4
  have HO4 : Hid (w4.heap[w.heap.size]? = some (.cells #[.int .i64 3, .bool false, .int .u32 0, .int .i64 0, .int .i64 0, .int .i64 0, .int .i64 0, .int .i64 0] 43 (0, 0))) := Lib.hid (blk_mod (HOW.out) hm4 (by simp; omega))
  have HM4 := Lib.hid (HMW.out.trans hm4)
  have HG4 := Lib.hid (hG.mod HM4.out (by simp; omega))
  have hz4 := hm4.size
  clear hb4 hm4 fo0 co0 co1 co2 co3 co4 co5 co6 co7
  obtain ⟨co0, co1, co2, co3, co4, co5, co6, co7⟩ := cells8 HO4.out
  obtain ⟨fo0, fo1, fo2, fo3, fo4, fo5, fo6, fo7⟩ := frees8 HO4.out
  go_wp2_with fail
  refine bodyPost_ret (v := .agg #[.int .i64 3, .bool false, .int .u32 (row (tok r).2).1, .int .i64 0, .int .i64 0, .int .i64 0, .int .i64 0, .int .i64 0]) (by simp [results, Tryd.results61, go_sem, co0, co1, co2, co3, co4, co5, co6, co7, hne, hne']) rfl ⟨rfl, ?_, ?_⟩
  · repeat rw [blk_far_eq _ (by simp; omega)]
    exact HB4.out
  · (repeat (first | (with_reducible assumption) | (with_reducible exact HM4.out) | (with_reducible refine Mod.drewN ?_ _) | (with_reducible refine Mod.drew ?_) | (with_reducible refine Mod.alloc ?_ _) | (with_reducible refine Mod.set ?_ (by simp; try omega) _)))

set_option maxHeartbeats 4000000 in
set_option maxRecDepth 100000 in
theorem operation_four (b : Nat) (r : Rd) (w : World) (hG : Glob w) (hl : r.rest.length < 4294967281) (h6 : 6 ≤ b) (hb : w.heap[b]? = some r.blk) (k : Int) (hk : idxF verbsL (tok r).1 0 = k) (h : k = 4) :
    Calls Tryd.prog 61 #[.pointer (some ⟨b, 0, none⟩)] w fun e w' => e = .returned (.agg #[.int .i64 4, .bool false, .int .u32 0, .int .i64 ((nums 4 (tok r).2).1.getD 0 0), .int .i64 ((nums 4 (tok r).2).1.getD 1 0), .int .i64 ((nums 4 (tok r).2).1.getD 2 0), .int .i64 ((nums 4 (tok r).2).1.getD 3 0), .int .i64 0]) ∧ w'.heap[b]? = some ((nums 4 (tok r).2).2 : Rd).blk ∧ Mod [b] w w' := by
  subst h
  have HB := Lib.hid hb
  have HK := Lib.hid hk
  have HL := tok_le r
  have hblt := blk_lt hb
  have hne : ¬ b = w.heap.size := by omega
  have hne' : ¬ w.heap.size = b := by omega
  have hsz := hG.size
  clear hb hk
  have hu43 := Tryd.underlying43
  go_enter Tryd.func61, Tryd.ntmps61
  go_wp2_with fail
  refine (verbs_calls _).mono ?_
  rintro e w1 ⟨A, c, rfl, hc7, hC1, hb1⟩
  have HB1 := Lib.hid (blk_below (blk_alloc HB.out _) hb1)
  have HO1 := Lib.hid (blk_below (blk_new w _) hb1)
  have HC1 := Lib.hid hC1
  have HG1 := Lib.hid (hG.below (Below.trans ((Below.refl _ w).alloc (Nat.le_refl _) _) (hb1.mono (by simp))) (by omega))
  have HM1 := Lib.hid (((Mod.refl [b] w).alloc _).thenBelow hb1)
  have hz1 := hb1.size
  simp at hz1
  clear hC1 hb1
  go_wp2_with fail
  refine (token_calls b r w1 HG1.out hl HB1.out).mono ?_
  rintro e w2 ⟨rfl, hb2, hm2⟩
  have HB2 := Lib.hid hb2
  have HO2 := Lib.hid (blk_mod HO1.out hm2 (by simp; omega))
  have HC2 := Lib.hid (HC1.out.mod hm2 (by simp; omega))
  have HM2 := Lib.hid (HM1.out.trans hm2)
  have hz2 := hm2.size
  clear hb2 hm2
  go_wp2_with fail
  refine (index_calls verbsL 7 rfl (tok r).1 A c w2 HC2.out hc7 (by omega)).mono ?_
  rintro e w3 ⟨rfl, m, rfl⟩
  rw [HK.out]
  obtain ⟨co0, co1, co2, co3, co4, co5, co6, co7⟩ := cells8 HO2.out
  have fo0 := blk_free HO2.out 0
  go_wp2_with fail
  have HBW := Lib.hid (blk_far (blk_drewN HB2.out m) (p := ⟨w.heap.size, 0, none⟩) (by simp; omega) (.int .i64 4))
  have HOW := Lib.hid (blk_set (blk_drewN HO2.out m) 0 (.int .i64 4))
  have HMW := Lib.hid ((HM2.out.drewN m).setNew (p := ⟨w.heap.size, 0, none⟩) (Nat.le_refl _) (.int .i64 4))
  have HGW := Lib.hid (hG.mod HMW.out (by simp; omega))
  have hzw := HMW.out.size
  refine (box_calls _ 3 _).mono ?_
  rintro e w4 ⟨A4, rfl, hp4, hbx4⟩
  have HB4 := Lib.hid (blk_below HBW.out hbx4)
  have HO4 : Hid (w4.heap[w.heap.size]? = some (.cells #[.int .i64 4, .bool false, .int .u32 0, .int .i64 0, .int .i64 0, .int .i64 0, .int .i64 0, .int .i64 0] 43 (0, 0))) := Lib.hid (blk_below HOW.out hbx4)
  have HM4 := Lib.hid (HMW.out.thenBelow hbx4)
  have HG4 := Lib.hid (hG.mod HM4.out (by simp; omega))
  have hz4 := hbx4.size
  have HP4 := Lib.hid (IsPtrs.far hp4 (b := b) (b' := w.heap.size) (by have := HMW.out.size; omega) (by have := blk_lt HOW.out; omega))
  clear hp4 hbx4
  go_wp2_with fail
  refine (longs_calls b w.heap.size [3, 4, 5, 6] A4 4 #[.int .i64 4, .bool false, .int .u32 0, .int .i64 0, .int .i64 0, .int .i64 0, .int .i64 0, .int .i64 0] 43 ((tok r).2) w4 HG4.out (by omega) h6 (by omega) hne HB4.out HO4.out (by simp) HP4.out (by simp)).mono ?_
  rintro e w5 ⟨rfl, hb5, ho5, hm5⟩
  have HB5 := Lib.hid hb5
  have HO5 := Lib.hid ho5
  have HM5 := Lib.hid (HM4.out.then hm5 (by simp))
  have HG5 := Lib.hid (hG.mod HM5.out (by simp; omega))
  have hz5 := hm5.size
  clear hb5 ho5 hm5
  obtain ⟨n0, n1, n2, n3, hn4⟩ : ∃ n0 n1 n2 n3, (nums 4 ((tok r).2)).1 = [n0, n1, n2, n3] := ⟨_, _, _, _, rfl⟩
  replace HO5 : Hid (w5.heap[w.heap.size]? = some (.cells #[.int .i64 4, .bool false, .int .u32 0, .int .i64 n0, .int .i64 n1, .int .i64 n2, .int .i64 n3, .int .i64 0] 43 (0, 0))) := by
    have h := HO5.out
    rw [show ([3, 4, 5, 6] : List Nat).length = 4 from rfl, hn4] at h
    exact Lib.hid h
  clear co0 co1 co2 co3 co4 co5 co6 co7 fo0
  obtain ⟨co0, co1, co2, co3, co4, co5, co6, co7⟩ := cells8 HO5.out
  obtain ⟨fo0, fo1, fo2, fo3, fo4, fo5, fo6, fo7⟩ := frees8 HO5.out
  replace hn4 := Lib.hid hn4
  go_wp2_with fail
  refine bodyPost_ret (v := .agg #[.int .i64 4, .bool false, .int .u32 0, .int .i64 n0, .int .i64 n1, .int .i64 n2, .int .i64 n3, .int .i64 0]) (by simp [results, Tryd.results61, go_sem, co0, co1, co2, co3, co4, co5, co6, co7, hne, hne']) rfl ⟨by rw [hn4.out]; rfl, ?_, ?_⟩
  · repeat rw [blk_far_eq _ (by simp; omega)]
    exact HB5.out
  · (repeat (first | (with_reducible assumption) | (with_reducible exact HM5.out) | (with_reducible refine Mod.drewN ?_ _) | (with_reducible refine Mod.drew ?_) | (with_reducible refine Mod.alloc ?_ _) | (with_reducible refine Mod.set ?_ (by simp; try omega) _)))

set_option maxHeartbeats 4000000 in
set_option maxRecDepth 100000 in
theorem operation_two (b : Nat) (r : Rd) (w : World) (hG : Glob w) (hl : r.rest.length < 4294967281) (h6 : 6 ≤ b) (hb : w.heap[b]? = some r.blk) (k : Int) (hk : idxF verbsL (tok r).1 0 = k) (h : k = 2) :
    Calls Tryd.prog 61 #[.pointer (some ⟨b, 0, none⟩)] w fun e w' => e = .returned (.agg #[.int .i64 2, .bool false, .int .u32 (row (tok r).2).1, .int .i64 ((nums 4 (row (tok r).2).2).1.getD 0 0), .int .i64 ((nums 4 (row (tok r).2).2).1.getD 1 0), .int .i64 ((nums 4 (row (tok r).2).2).1.getD 2 0), .int .i64 ((nums 4 (row (tok r).2).2).1.getD 3 0), .int .i64 (num (nums 4 (row (tok r).2).2).2).1]) ∧ w'.heap[b]? = some ((num (nums 4 (row (tok r).2).2).2).2 : Rd).blk ∧ Mod [b] w w' := by
  subst h
  have HB := Lib.hid hb
  have HK := Lib.hid hk
  have HL := tok_le r
  have hblt := blk_lt hb
  have hne : ¬ b = w.heap.size := by omega
  have hne' : ¬ w.heap.size = b := by omega
  have hsz := hG.size
  clear hb hk
  have hu43 := Tryd.underlying43
  go_enter Tryd.func61, Tryd.ntmps61
  go_wp2_with fail
  refine (verbs_calls _).mono ?_
  rintro e w1 ⟨A, c, rfl, hc7, hC1, hb1⟩
  have HB1 := Lib.hid (blk_below (blk_alloc HB.out _) hb1)
  have HO1 := Lib.hid (blk_below (blk_new w _) hb1)
  have HC1 := Lib.hid hC1
  have HG1 := Lib.hid (hG.below (Below.trans ((Below.refl _ w).alloc (Nat.le_refl _) _) (hb1.mono (by simp))) (by omega))
  have HM1 := Lib.hid (((Mod.refl [b] w).alloc _).thenBelow hb1)
  have hz1 := hb1.size
  simp at hz1
  clear hC1 hb1
  go_wp2_with fail
  refine (token_calls b r w1 HG1.out hl HB1.out).mono ?_
  rintro e w2 ⟨rfl, hb2, hm2⟩
  have HB2 := Lib.hid hb2
  have HO2 := Lib.hid (blk_mod HO1.out hm2 (by simp; omega))
  have HC2 := Lib.hid (HC1.out.mod hm2 (by simp; omega))
  have HM2 := Lib.hid (HM1.out.trans hm2)
  have hz2 := hm2.size
  clear hb2 hm2
  go_wp2_with fail
  refine (index_calls verbsL 7 rfl (tok r).1 A c w2 HC2.out hc7 (by omega)).mono ?_
  rintro e w3 ⟨rfl, m, rfl⟩
  rw [HK.out]
  obtain ⟨co0, co1, co2, co3, co4, co5, co6, co7⟩ := cells8 HO2.out
  have fo0 := blk_free HO2.out 0
  go_wp2_with fail
  have HBW := Lib.hid (blk_far (blk_drewN HB2.out m) (p := ⟨w.heap.size, 0, none⟩) (by simp; omega) (.int .i64 2))
  have HOW := Lib.hid (blk_set (blk_drewN HO2.out m) 0 (.int .i64 2))
  have HMW := Lib.hid ((HM2.out.drewN m).setNew (p := ⟨w.heap.size, 0, none⟩) (Nat.le_refl _) (.int .i64 2))
  have HGW := Lib.hid (hG.mod HMW.out (by simp; omega))
  have hzw := HMW.out.size
  refine (row_calls b (tok r).2 _ HGW.out (by omega) h6 HBW.out).mono ?_
  rintro e w4 ⟨rfl, hb4, hm4⟩
  have HB4 := Lib.hid hb4
  have HO4 : Hid (w4.heap[w.heap.size]? = some (.cells #[.int .i64 2, .bool false, .int .u32 0, .int .i64 0, .int .i64 0, .int .i64 0, .int .i64 0, .int .i64 0] 43 (0, 0))) := Lib.hid (blk_mod (HOW.out) hm4 (by simp; omega))
  have HM4 := Lib.hid (HMW.out.trans hm4)
  have HG4 := Lib.hid (hG.mod HM4.out (by simp; omega))
  have hz4 := hm4.size
  clear hb4 hm4 fo0 co0 co1 co2 co3 co4 co5 co6 co7
  obtain ⟨co0, co1, co2, co3, co4, co5, co6, co7⟩ := cells8 HO4.out
  obtain ⟨fo0, fo1, fo2, fo3, fo4, fo5, fo6, fo7⟩ := frees8 HO4.out
  have HBV := Lib.hid (blk_far HB4.out (p := ⟨w.heap.size, 2, none⟩) (by simp; omega) (.int .u32 (row (tok r).2).1))
  have HOV : Hid ((w4.setCell ⟨w.heap.size, 2, none⟩ (.int .u32 (row (tok r).2).1)).heap[w.heap.size]? = some (.cells #[.int .i64 2, .bool false, .int .u32 (row (tok r).2).1, .int .i64 0, .int .i64 0, .int .i64 0, .int .i64 0, .int .i64 0] 43 (0, 0))) := Lib.hid (blk_set HO4.out 2 (.int .u32 (row (tok r).2).1))
  have HMV := Lib.hid (HM4.out.setNew (p := ⟨w.heap.size, 2, none⟩) (Nat.le_refl _) (.int .u32 (row (tok r).2).1))
  have HLr := row_le (tok r).2
  have HLn := nums_le 4 (row (tok r).2).2
  go_wp2_with fail
  refine (box_calls _ 3 _).mono ?_
  rintro e w5 ⟨A5, rfl, hp5, hbx5⟩
  have HB5 := Lib.hid (blk_below HBV.out hbx5)
  have HO5 : Hid (w5.heap[w.heap.size]? = some (.cells #[.int .i64 2, .bool false, .int .u32 (row (tok r).2).1, .int .i64 0, .int .i64 0, .int .i64 0, .int .i64 0, .int .i64 0] 43 (0, 0))) := Lib.hid (blk_below HOV.out hbx5)
  have HM5 := Lib.hid (HMV.out.thenBelow hbx5)
  have HG5 := Lib.hid (hG.mod HM5.out (by simp; omega))
  have hz5 := hbx5.size
  have HP5 := Lib.hid (IsPtrs.far hp5 (b := b) (b' := w.heap.size) (by have := HMV.out.size; omega) (by have := blk_lt HOV.out; omega))
  clear hp5 hbx5
  go_wp2_with fail
  refine (longs_calls b w.heap.size [3, 4, 5, 6] A5 4 #[.int .i64 2, .bool false, .int .u32 (row (tok r).2).1, .int .i64 0, .int .i64 0, .int .i64 0, .int .i64 0, .int .i64 0] 43 ((row (tok r).2).2) w5 HG5.out (by omega) h6 (by omega) hne HB5.out HO5.out (by simp) HP5.out (by simp)).mono ?_
  rintro e w6 ⟨rfl, hb6, ho6, hm6⟩
  have HB6 := Lib.hid hb6
  have HO6 := Lib.hid ho6
  have HM6 := Lib.hid (HM5.out.then hm6 (by simp))
  have HG6 := Lib.hid (hG.mod HM6.out (by simp; omega))
  have hz6 := hm6.size
  clear hb6 ho6 hm6
  obtain ⟨n0, n1, n2, n3, hn4⟩ : ∃ n0 n1 n2 n3, (nums 4 ((row (tok r).2).2)).1 = [n0, n1, n2, n3] := ⟨_, _, _, _, rfl⟩
  replace HO6 : Hid (w6.heap[w.heap.size]? = some (.cells #[.int .i64 2, .bool false, .int .u32 (row (tok r).2).1, .int .i64 n0, .int .i64 n1, .int .i64 n2, .int .i64 n3, .int .i64 0] 43 (0, 0))) := by
    have h := HO6.out
    rw [show ([3, 4, 5, 6] : List Nat).length = 4 from rfl, hn4] at h
    exact Lib.hid h
  replace HB6 : Hid (w6.heap[b]? = some (nums 4 (row (tok r).2).2).2.blk) := HB6
  replace hn4 := Lib.hid hn4
  clear co0 co1 co2 co3 co4 co5 co6 co7 fo0 fo1 fo2 fo3 fo4 fo5 fo6 fo7
  go_wp2_with fail
  refine (longs_calls b w.heap.size [7] (some ⟨w6.heap.size, 0, none⟩) 1 #[.int .i64 2, .bool false, .int .u32 (row (tok r).2).1, .int .i64 n0, .int .i64 n1, .int .i64 n2, .int .i64 n3, .int .i64 0] 43 (nums 4 (row (tok r).2).2).2 _ (HG6.out.mod ((Mod.refl [] w6).alloc _) (by simp)) (by omega) h6 (by omega) hne (blk_alloc HB6.out _) (blk_alloc HO6.out _) (by simp) ?_ (by simp)).mono ?_
  · intro i hi
    obtain rfl : i = 0 := by simp at hi; exact hi
    refine ⟨_, rfl, ?_, ?_, ?_⟩
    · exact (blk_cell (blk_new w6 _) 0).trans rfl
    · show w6.heap.size ≠ b
      have := blk_lt HB6.out; omega
    · show w6.heap.size ≠ w.heap.size
      have := blk_lt HO6.out; omega
  rintro e w7 ⟨rfl, hb7, ho7, hm7⟩
  have HB7 : Hid (w7.heap[b]? = some (num (nums 4 (row (tok r).2).2).2).2.blk) := Lib.hid hb7
  have HO7 : Hid (w7.heap[w.heap.size]? = some (.cells #[.int .i64 2, .bool false, .int .u32 (row (tok r).2).1, .int .i64 n0, .int .i64 n1, .int .i64 n2, .int .i64 n3, .int .i64 (num (nums 4 (row (tok r).2).2).2).1] 43 (0, 0))) := Lib.hid ho7
  have HM7 := Lib.hid ((HM6.out.alloc _).then hm7 (by simp))
  clear hb7 ho7 hm7
  obtain ⟨co0, co1, co2, co3, co4, co5, co6, co7⟩ := cells8 HO7.out
  obtain ⟨fo0, fo1, fo2, fo3, fo4, fo5, fo6, fo7⟩ := frees8 HO7.out
  go_wp2_with fail
  refine bodyPost_ret (v := .agg #[.int .i64 2, .bool false, .int .u32 (row (tok r).2).1, .int .i64 n0, .int .i64 n1, .int .i64 n2, .int .i64 n3, .int .i64 (num (nums 4 (row (tok r).2).2).2).1]) (by simp [results, Tryd.results61, go_sem, co0, co1, co2, co3, co4, co5, co6, co7, hne, hne']) rfl ⟨by rw [hn4.out]; rfl, ?_, ?_⟩
  · repeat rw [blk_far_eq _ (by simp; omega)]
    exact HB7.out
  · (repeat (first | (with_reducible assumption) | (with_reducible exact HM7.out) | (with_reducible refine Mod.drewN ?_ _) | (with_reducible refine Mod.drew ?_) | (with_reducible refine Mod.alloc ?_ _) | (with_reducible refine Mod.set ?_ (by simp; try omega) _)))

end Go.Proofs.YthkheemjgcbofaaDoor

namespace Go.Proofs.YthkheemjgcbofaaDoor
set_option linter.unusedVariables false
set_option linter.unusedSimpArgs false
open Go.RowKit Go.Proofs.YthkheemjgcbofaaDoor.PSc Go.Proofs.YthkheemjgcbofaaDoorW.PrintWords

theorem operation_calls (b : Nat) (r : Rd) (w : World) (hG : Glob w) (hl : r.rest.length < 4294967281) (h6 : 6 ≤ b) (hb : w.heap[b]? = some r.blk) :
    Calls Tryd.prog 61 #[.pointer (some ⟨b, 0, none⟩)] w fun e w' => e = .returned (.agg (vals43 (opF r).1)) ∧ w'.heap[b]? = some (opF r).2.blk ∧ Mod [b] w w' := by
  unfold opF
  by_cases h1 : idxF verbsL (tok r).1 0 = 1
  · have h := operation_one b r w hG hl h6 hb 1 h1 rfl
    simpa [h1, vals43, z41] using h
  · by_cases h2 : idxF verbsL (tok r).1 0 = 2
    · have h := operation_two b r w hG hl h6 hb 2 h2 rfl
      simpa [h2, vals43, z41] using h
    · by_cases h3 : idxF verbsL (tok r).1 0 = 3
      · have h := operation_three b r w hG hl h6 hb 3 h3 rfl
        simpa [h3, vals43, z41] using h
      · by_cases h4 : idxF verbsL (tok r).1 0 = 4
        · have h := operation_four b r w hG hl h6 hb 4 h4 rfl
          simpa [h4, vals43, z41] using h
        · have h := operation_else b r w hG hl h6 hb _ rfl (by simpa using h1) (by simpa using h2) (by simpa using h3) (by simpa using h4)
          simpa [h1, h2, h3, h4, vals43, z41] using h

theorem op_le (r : Rd) : (opF r).2.rest.length ≤ r.rest.length := by
  have h0 := (tok_le r).1
  unfold opF
  simp only []
  split
  · exact Nat.le_trans (num_le _) h0
  · split
    · exact Nat.le_trans (num_le _) (Nat.le_trans (nums_le 4 _) (Nat.le_trans (row_le _) h0))
    · split
      · exact Nat.le_trans (row_le _) h0
      · split
        · exact Nat.le_trans (nums_le 4 _) h0
        · exact h0

/-- An event's words behind its own, read. -/
def evRaw (word : By) (r : Rd) : S46 × Rd :=
  let k := max (idxF wordsL word 0) 0
  if k = 1 then (⟨1, (num r).1, (opF (num r).2).1, 0, []⟩, (opF (num r).2).2)
  else if k = 2 then (⟨2, (num r).1, z43, 0, []⟩, (num r).2)
  else if k = 5 then (⟨5, 0, z43, (num r).1, []⟩, (num r).2)
  else if k = 6 then
    (⟨6, 0, z43, 0, (Lib.trimPrefix (tok r).1 [61]).map (· == 49)⟩,
      ⟨(tok r).2.rest, (tok r).2.bad || !(Lib.hasPrefix (tok r).1 [61] && (Lib.trimPrefix (tok r).1 [61]).all fun c => c == 48 || c == 49)⟩)
  else (⟨k, 0, z43, 0, []⟩, r)
def evF (word : By) (r : Rd) : S46 × Rd := ((evRaw word r).1, ⟨(evRaw word r).2.rest, (evRaw word r).2.bad || wrongF (evRaw word r).1⟩)
theorem ev_le (word : By) (r : Rd) : (evF word r).2.rest.length ≤ r.rest.length := by
  show (evRaw word r).2.rest.length ≤ _
  unfold evRaw
  simp only []
  split
  · exact Nat.le_trans (op_le _) (num_le _)
  · split
    · exact num_le _
    · split
      · exact num_le _
      · split
        · exact (tok_le r).1
        · exact Nat.le_refl _

theorem frees12 {w : World} {b : Nat} {cs : Array Value} {T : TypeId} (h : w.heap[b]? = some (.cells cs T (0, 0))) :
    w.frozen? ⟨b, 0, none⟩ = false ∧ w.frozen? ⟨b, 1, none⟩ = false ∧ w.frozen? ⟨b, 2, none⟩ = false ∧ w.frozen? ⟨b, 3, none⟩ = false ∧ w.frozen? ⟨b, 4, none⟩ = false ∧ w.frozen? ⟨b, 5, none⟩ = false ∧ w.frozen? ⟨b, 6, none⟩ = false ∧ w.frozen? ⟨b, 7, none⟩ = false ∧ w.frozen? ⟨b, 8, none⟩ = false ∧ w.frozen? ⟨b, 9, none⟩ = false ∧ w.frozen? ⟨b, 10, none⟩ = false ∧ w.frozen? ⟨b, 11, none⟩ = false :=
  ⟨blk_free h 0, blk_free h 1, blk_free h 2, blk_free h 3, blk_free h 4, blk_free h 5, blk_free h 6, blk_free h 7, blk_free h 8, blk_free h 9, blk_free h 10, blk_free h 11⟩
end Go.Proofs.YthkheemjgcbofaaDoor
