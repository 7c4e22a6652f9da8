/-
  The reader's event (the crash apart).
  The reader's event (the crash apart).
  The reader's event (the crash apart).
  The reader's event (the crash apart).
-/
import Derived.Test.YthkheemjgcbofaaDoorGD
import Derived.Deep.Cut

namespace Go.Proofs.YthkheemjgcbofaaDoor
set_option linter.unusedVariables false
set_option linter.unusedSimpArgs false
open Go.RowKit Go.Proofs.YthkheemjgcbofaaDoor.PSc Go.Proofs.YthkheemjgcbofaaDoorW.PrintWords

set_option maxHeartbeats 4000000 in
set_option maxRecDepth 100000 in
theorem event_two (b : Nat) (word : By) (r : Rd) (w : World) (hG : Glob w) (hl : r.rest.length < 4294967281) (h6 : 6 ≤ b) (hb : w.heap[b]? = some r.blk) (k : Int) (hk : max (idxF wordsL word 0) 0 = k) (h : k = 2) :
    Calls Tryd.prog 45 #[.pointer (some ⟨b, 0, none⟩), .string ⟨word.toArray⟩] w fun e w' => e = .returned (.agg #[.int .i64 2, .int .i64 (num r).1, .int .i64 0, .bool false, .int .u32 0, .int .i64 0, .int .i64 0, .int .i64 0, .int .i64 0, .int .i64 0, .int .i64 0, .slice none 0 0]) ∧ w'.heap[b]? = some (⟨(num r).2.rest, (num r).2.bad || wrongF ⟨2, (num r).1, ⟨0, false, 0, ⟨0, 0, 0, 0⟩, 0⟩, 0, []⟩⟩ : Rd).blk ∧ Mod [b] w w' := by
  subst h
  have HB := Lib.hid hb
  have HK := Lib.hid hk
  have HL := tok_le r
  have hblt := blk_lt hb
  have hne : ¬ b = w.heap.size := by omega
  have hne' : ¬ w.heap.size = b := by omega
  have hsz := hG.size
  clear hb hk
  have hu46 := Tryd.underlying46
  have hu43 := Tryd.underlying43
  go_enter Tryd.func45, Tryd.ntmps45
  go_wp2_with fail
  refine (words_calls _).mono ?_
  rintro e w1 ⟨A, c, rfl, hc7, hC1, hb1⟩
  have HB1 := Lib.hid (blk_below (blk_alloc HB.out _) hb1)
  have HO1 := Lib.hid (blk_below (blk_new w _) hb1)
  have HC1 := Lib.hid (hC1.mod (Mod.refl [] w1) (by simp))
  have HM1 := Lib.hid (((Mod.refl [b] w).alloc _).thenBelow hb1)
  have hz1 := hb1.size
  simp at hz1
  clear hC1 hb1
  go_wp2_with fail
  refine (index_calls wordsL 8 rfl word A c w1 HC1.out hc7 (by omega)).mono ?_
  rintro e w3 ⟨rfl, m, rfl⟩
  obtain ⟨co0, co1, co2, co3, co4, co5, co6, co7, co8, co9, co10, co11⟩ := cells12 HO1.out
  obtain ⟨fo0, fo1, fo2, fo3, fo4, fo5, fo6, fo7, fo8, fo9, fo10, fo11⟩ := frees12 HO1.out
  obtain ⟨K, hK⟩ : ∃ K, K = idxF wordsL word 0 := ⟨_, rfl⟩
  have HK' : Hid (max K 0 = 2) := by rw [hK]; exact HK
  rw [← hK]
  clear hK HK
  go_wp2_with fail
  simp only [HK'.out]
  have HBW := Lib.hid (blk_far (blk_drewN HB1.out m) (p := ⟨w.heap.size, 0, none⟩) (by simp; omega) (.int .i64 2))
  have HOW : Hid (((w1.drewN m).setCell ⟨w.heap.size, 0, none⟩ (.int .i64 2)).heap[w.heap.size]? = some (.cells #[.int .i64 2, .int .i64 0, .int .i64 0, .bool false, .int .u32 0, .int .i64 0, .int .i64 0, .int .i64 0, .int .i64 0, .int .i64 0, .int .i64 0, .slice none 0 0] 46 (0, 0))) := Lib.hid (blk_set (blk_drewN HO1.out m) 0 (.int .i64 2))
  have HMW := Lib.hid ((HM1.out.drewN m).setNew (p := ⟨w.heap.size, 0, none⟩) (Nat.le_refl _) (.int .i64 2))
  refine (fields_at _ 2 [1] rfl _ ((blk_cell HOW.out 0).trans rfl)).mono ?_
  rintro e w4 ⟨A4, c4, rfl, hp4, hbx4⟩
  have HB4 := Lib.hid (blk_below HBW.out hbx4)
  have HO4 : Hid (w4.heap[w.heap.size]? = some (.cells #[.int .i64 2, .int .i64 0, .int .i64 0, .bool false, .int .u32 0, .int .i64 0, .int .i64 0, .int .i64 0, .int .i64 0, .int .i64 0, .int .i64 0, .slice none 0 0] 46 (0, 0))) := Lib.hid (blk_below HOW.out hbx4)
  have HM4 := Lib.hid (HMW.out.thenBelow hbx4)
  have HG4 := Lib.hid (hG.mod HM4.out (by simp; omega))
  have hz4 := hbx4.size
  simp at hz4
  have HP4 := Lib.hid (IsPtrs.far hp4 (b := b) (b' := w.heap.size) (by have := HMW.out.size; omega) (by have := blk_lt HOW.out; omega))
  clear hp4 hbx4
  go_wp2_with fail
  refine (numbers_calls b w.heap.size [1] A4 c4 #[.int .i64 2, .int .i64 0, .int .i64 0, .bool false, .int .u32 0, .int .i64 0, .int .i64 0, .int .i64 0, .int .i64 0, .int .i64 0, .int .i64 0, .slice none 0 0] 46 r w4 HG4.out (by omega) h6 (by omega) hne HB4.out HO4.out (by simp) HP4.out (by simp)).mono ?_
  rintro e w5 ⟨rfl, hb5, ho5, hm5⟩
  have HB5 : Hid (w5.heap[b]? = some ((num r).2).blk) := Lib.hid hb5
  have HO5 : Hid (w5.heap[w.heap.size]? = some (.cells #[.int .i64 2, .int .i64 (num r).1, .int .i64 0, .bool false, .int .u32 0, .int .i64 0, .int .i64 0, .int .i64 0, .int .i64 0, .int .i64 0, .int .i64 0, .slice none 0 0] 46 (0, 0))) := Lib.hid ho5
  have HM5 := Lib.hid (HM4.out.then hm5 (by simp))
  have HG5 := Lib.hid (hG.mod HM5.out (by simp; omega))
  have hz5 := hm5.size
  clear hb5 ho5 hm5
  clear co0 co1 co2 co3 co4 co5 co6 co7 co8 co9 co10 co11 fo0 fo1 fo2 fo3 fo4 fo5 fo6 fo7 fo8 fo9 fo10 fo11
  obtain ⟨co0, co1, co2, co3, co4, co5, co6, co7, co8, co9, co10, co11⟩ := cells12 HO5.out
  obtain ⟨fo0, fo1, fo2, fo3, fo4, fo5, fo6, fo7, fo8, fo9, fo10, fo11⟩ := frees12 HO5.out
  obtain ⟨cr0, cr1, fr0, fr1⟩ := rd_cells HB5.out
  by_cases hbad : ((num r).2).bad = true
  · go_wp2_with fail
    refine bodyPost_ret (v := .agg #[.int .i64 2, .int .i64 (num r).1, .int .i64 0, .bool false, .int .u32 0, .int .i64 0, .int .i64 0, .int .i64 0, .int .i64 0, .int .i64 0, .int .i64 0, .slice none 0 0]) (by simp [results, Tryd.results45, go_sem, co0, co1, co2, co3, co4, co5, co6, co7, co8, co9, co10, co11, hne, hne']) rfl ⟨rfl, ?_, ?_⟩
    · repeat rw [blk_far_eq _ (by simp; omega)]
      rw [blk_set HB5.out 1 _]; simp [Rd.blk, hbad]
    · (repeat (first | (with_reducible assumption) | (with_reducible exact HM5.out) | (with_reducible refine Mod.drewN ?_ _) | (with_reducible refine Mod.drew ?_) | (with_reducible refine Mod.alloc ?_ _) | (with_reducible refine Mod.set ?_ (by simp; try omega) _)))
  · have hbad' : ((num r).2).bad = false := by simpa using hbad
    clear hbad
    have HW := Lib.hid (wrong_calls ⟨2, (num r).1, ⟨0, false, 0, ⟨0, 0, 0, 0⟩, 0⟩, 0, []⟩ none 0 w5 (Kd_nil _) (Nat.le_refl _))
    go_wp2_with fail
    refine HW.out.mono ?_
    rintro e w6 ⟨rfl, hb6⟩
    have HB6 := Lib.hid (blk_below HB5.out hb6)
    have HO6 : Hid (w6.heap[w.heap.size]? = some (.cells #[.int .i64 2, .int .i64 (num r).1, .int .i64 0, .bool false, .int .u32 0, .int .i64 0, .int .i64 0, .int .i64 0, .int .i64 0, .int .i64 0, .int .i64 0, .slice none 0 0] 46 (0, 0))) := Lib.hid (blk_below HO5.out hb6)
    have HM6 := Lib.hid (HM5.out.thenBelow hb6)
    clear hb6 cr0 cr1 fr0 fr1
    obtain ⟨cr0, cr1, fr0, fr1⟩ := rd_cells HB6.out
    clear co0 co1 co2 co3 co4 co5 co6 co7 co8 co9 co10 co11 fo0 fo1 fo2 fo3 fo4 fo5 fo6 fo7 fo8 fo9 fo10 fo11
    obtain ⟨co0, co1, co2, co3, co4, co5, co6, co7, co8, co9, co10, co11⟩ := cells12 HO6.out
    obtain ⟨fo0, fo1, fo2, fo3, fo4, fo5, fo6, fo7, fo8, fo9, fo10, fo11⟩ := frees12 HO6.out
    go_wp2_with fail
    refine bodyPost_ret (v := .agg #[.int .i64 2, .int .i64 (num r).1, .int .i64 0, .bool false, .int .u32 0, .int .i64 0, .int .i64 0, .int .i64 0, .int .i64 0, .int .i64 0, .int .i64 0, .slice none 0 0]) (by simp [results, Tryd.results45, go_sem, co0, co1, co2, co3, co4, co5, co6, co7, co8, co9, co10, co11, hne, hne']) rfl ⟨rfl, ?_, ?_⟩
    · repeat rw [blk_far_eq _ (by simp; omega)]
      rw [blk_set HB6.out 1 _]; simp [Rd.blk, hbad']
    · (repeat (first | (with_reducible assumption) | (with_reducible exact HM6.out) | (with_reducible refine Mod.drewN ?_ _) | (with_reducible refine Mod.drew ?_) | (with_reducible refine Mod.alloc ?_ _) | (with_reducible refine Mod.set ?_ (by simp; try omega) _)))

end Go.Proofs.YthkheemjgcbofaaDoor

namespace Go.Proofs.YthkheemjgcbofaaDoor
set_option linter.unusedVariables false
set_option linter.unusedSimpArgs false
open Go.RowKit Go.Proofs.YthkheemjgcbofaaDoor.PSc Go.Proofs.YthkheemjgcbofaaDoorW.PrintWords

set_option maxHeartbeats 4000000 in
set_option maxRecDepth 100000 in
theorem event_five (b : Nat) (word : By) (r : Rd) (w : World) (hG : Glob w) (hl : r.rest.length < 4294967281) (h6 : 6 ≤ b) (hb : w.heap[b]? = some r.blk) (k : Int) (hk : max (idxF wordsL word 0) 0 = k) (h : k = 5) :
    Calls Tryd.prog 45 #[.pointer (some ⟨b, 0, none⟩), .string ⟨word.toArray⟩] w fun e w' => e = .returned (.agg #[.int .i64 5, .int .i64 0, .int .i64 0, .bool false, .int .u32 0, .int .i64 0, .int .i64 0, .int .i64 0, .int .i64 0, .int .i64 0, .int .i64 (num r).1, .slice none 0 0]) ∧ w'.heap[b]? = some (⟨(num r).2.rest, (num r).2.bad || wrongF ⟨5, 0, ⟨0, false, 0, ⟨0, 0, 0, 0⟩, 0⟩, (num r).1, []⟩⟩ : Rd).blk ∧ Mod [b] w w' := by
  subst h
  have HB := Lib.hid hb
  have HK := Lib.hid hk
  have HL := tok_le r
  have hblt := blk_lt hb
  have hne : ¬ b = w.heap.size := by omega
  have hne' : ¬ w.heap.size = b := by omega
  have hsz := hG.size
  clear hb hk
  have hu46 := Tryd.underlying46
  have hu43 := Tryd.underlying43
  go_enter Tryd.func45, Tryd.ntmps45
  go_wp2_with fail
  refine (words_calls _).mono ?_
  rintro e w1 ⟨A, c, rfl, hc7, hC1, hb1⟩
  have HB1 := Lib.hid (blk_below (blk_alloc HB.out _) hb1)
  have HO1 := Lib.hid (blk_below (blk_new w _) hb1)
  have HC1 := Lib.hid (hC1.mod (Mod.refl [] w1) (by simp))
  have HM1 := Lib.hid (((Mod.refl [b] w).alloc _).thenBelow hb1)
  have hz1 := hb1.size
  simp at hz1
  clear hC1 hb1
  go_wp2_with fail
  refine (index_calls wordsL 8 rfl word A c w1 HC1.out hc7 (by omega)).mono ?_
  rintro e w3 ⟨rfl, m, rfl⟩
  obtain ⟨co0, co1, co2, co3, co4, co5, co6, co7, co8, co9, co10, co11⟩ := cells12 HO1.out
  obtain ⟨fo0, fo1, fo2, fo3, fo4, fo5, fo6, fo7, fo8, fo9, fo10, fo11⟩ := frees12 HO1.out
  obtain ⟨K, hK⟩ : ∃ K, K = idxF wordsL word 0 := ⟨_, rfl⟩
  have HK' : Hid (max K 0 = 5) := by rw [hK]; exact HK
  rw [← hK]
  clear hK HK
  go_wp2_with fail
  simp only [HK'.out]
  have HBW := Lib.hid (blk_far (blk_drewN HB1.out m) (p := ⟨w.heap.size, 0, none⟩) (by simp; omega) (.int .i64 5))
  have HOW : Hid (((w1.drewN m).setCell ⟨w.heap.size, 0, none⟩ (.int .i64 5)).heap[w.heap.size]? = some (.cells #[.int .i64 5, .int .i64 0, .int .i64 0, .bool false, .int .u32 0, .int .i64 0, .int .i64 0, .int .i64 0, .int .i64 0, .int .i64 0, .int .i64 0, .slice none 0 0] 46 (0, 0))) := Lib.hid (blk_set (blk_drewN HO1.out m) 0 (.int .i64 5))
  have HMW := Lib.hid ((HM1.out.drewN m).setNew (p := ⟨w.heap.size, 0, none⟩) (Nat.le_refl _) (.int .i64 5))
  refine (fields_at _ 5 [10] rfl _ ((blk_cell HOW.out 0).trans rfl)).mono ?_
  rintro e w4 ⟨A4, c4, rfl, hp4, hbx4⟩
  have HB4 := Lib.hid (blk_below HBW.out hbx4)
  have HO4 : Hid (w4.heap[w.heap.size]? = some (.cells #[.int .i64 5, .int .i64 0, .int .i64 0, .bool false, .int .u32 0, .int .i64 0, .int .i64 0, .int .i64 0, .int .i64 0, .int .i64 0, .int .i64 0, .slice none 0 0] 46 (0, 0))) := Lib.hid (blk_below HOW.out hbx4)
  have HM4 := Lib.hid (HMW.out.thenBelow hbx4)
  have HG4 := Lib.hid (hG.mod HM4.out (by simp; omega))
  have hz4 := hbx4.size
  simp at hz4
  have HP4 := Lib.hid (IsPtrs.far hp4 (b := b) (b' := w.heap.size) (by have := HMW.out.size; omega) (by have := blk_lt HOW.out; omega))
  clear hp4 hbx4
  go_wp2_with fail
  refine (numbers_calls b w.heap.size [10] A4 c4 #[.int .i64 5, .int .i64 0, .int .i64 0, .bool false, .int .u32 0, .int .i64 0, .int .i64 0, .int .i64 0, .int .i64 0, .int .i64 0, .int .i64 0, .slice none 0 0] 46 r w4 HG4.out (by omega) h6 (by omega) hne HB4.out HO4.out (by simp) HP4.out (by simp)).mono ?_
  rintro e w5 ⟨rfl, hb5, ho5, hm5⟩
  have HB5 : Hid (w5.heap[b]? = some ((num r).2).blk) := Lib.hid hb5
  have HO5 : Hid (w5.heap[w.heap.size]? = some (.cells #[.int .i64 5, .int .i64 0, .int .i64 0, .bool false, .int .u32 0, .int .i64 0, .int .i64 0, .int .i64 0, .int .i64 0, .int .i64 0, .int .i64 (num r).1, .slice none 0 0] 46 (0, 0))) := Lib.hid ho5
  have HM5 := Lib.hid (HM4.out.then hm5 (by simp))
  have HG5 := Lib.hid (hG.mod HM5.out (by simp; omega))
  have hz5 := hm5.size
  clear hb5 ho5 hm5
  clear co0 co1 co2 co3 co4 co5 co6 co7 co8 co9 co10 co11 fo0 fo1 fo2 fo3 fo4 fo5 fo6 fo7 fo8 fo9 fo10 fo11
  obtain ⟨co0, co1, co2, co3, co4, co5, co6, co7, co8, co9, co10, co11⟩ := cells12 HO5.out
  obtain ⟨fo0, fo1, fo2, fo3, fo4, fo5, fo6, fo7, fo8, fo9, fo10, fo11⟩ := frees12 HO5.out
  obtain ⟨cr0, cr1, fr0, fr1⟩ := rd_cells HB5.out
  by_cases hbad : ((num r).2).bad = true
  · go_wp2_with fail
    refine bodyPost_ret (v := .agg #[.int .i64 5, .int .i64 0, .int .i64 0, .bool false, .int .u32 0, .int .i64 0, .int .i64 0, .int .i64 0, .int .i64 0, .int .i64 0, .int .i64 (num r).1, .slice none 0 0]) (by simp [results, Tryd.results45, go_sem, co0, co1, co2, co3, co4, co5, co6, co7, co8, co9, co10, co11, hne, hne']) rfl ⟨rfl, ?_, ?_⟩
    · repeat rw [blk_far_eq _ (by simp; omega)]
      rw [blk_set HB5.out 1 _]; simp [Rd.blk, hbad]
    · (repeat (first | (with_reducible assumption) | (with_reducible exact HM5.out) | (with_reducible refine Mod.drewN ?_ _) | (with_reducible refine Mod.drew ?_) | (with_reducible refine Mod.alloc ?_ _) | (with_reducible refine Mod.set ?_ (by simp; try omega) _)))
  · have hbad' : ((num r).2).bad = false := by simpa using hbad
    clear hbad
    have HW := Lib.hid (wrong_calls ⟨5, 0, ⟨0, false, 0, ⟨0, 0, 0, 0⟩, 0⟩, (num r).1, []⟩ none 0 w5 (Kd_nil _) (Nat.le_refl _))
    go_wp2_with fail
    refine HW.out.mono ?_
    rintro e w6 ⟨rfl, hb6⟩
    have HB6 := Lib.hid (blk_below HB5.out hb6)
    have HO6 : Hid (w6.heap[w.heap.size]? = some (.cells #[.int .i64 5, .int .i64 0, .int .i64 0, .bool false, .int .u32 0, .int .i64 0, .int .i64 0, .int .i64 0, .int .i64 0, .int .i64 0, .int .i64 (num r).1, .slice none 0 0] 46 (0, 0))) := Lib.hid (blk_below HO5.out hb6)
    have HM6 := Lib.hid (HM5.out.thenBelow hb6)
    clear hb6 cr0 cr1 fr0 fr1
    obtain ⟨cr0, cr1, fr0, fr1⟩ := rd_cells HB6.out
    clear co0 co1 co2 co3 co4 co5 co6 co7 co8 co9 co10 co11 fo0 fo1 fo2 fo3 fo4 fo5 fo6 fo7 fo8 fo9 fo10 fo11
    obtain ⟨co0, co1, co2, co3, co4, co5, co6, co7, co8, co9, co10, co11⟩ := cells12 HO6.out
    obtain ⟨fo0, fo1, fo2, fo3, fo4, fo5, fo6, fo7, fo8, fo9, fo10, fo11⟩ := frees12 HO6.out
    go_wp2_with fail
    refine bodyPost_ret (v := .agg #[.int .i64 5, .int .i64 0, .int .i64 0, .bool false, .int .u32 0, .int .i64 0, .int .i64 0, .int .i64 0, .int .i64 0, .int .i64 0, .int .i64 (num r).1, .slice none 0 0]) (by simp [results, Tryd.results45, go_sem, co0, co1, co2, co3, co4, co5, co6, co7, co8, co9, co10, co11, hne, hne']) rfl ⟨rfl, ?_, ?_⟩
    · repeat rw [blk_far_eq _ (by simp; omega)]
      rw [blk_set HB6.out 1 _]; simp [Rd.blk, hbad']
    · (repeat (first | (with_reducible assumption) | (with_reducible exact HM6.out) | (with_reducible refine Mod.drewN ?_ _) | (with_reducible refine Mod.drew ?_) | (with_reducible refine Mod.alloc ?_ _) | (with_reducible refine Mod.set ?_ (by simp; try omega) _)))

end Go.Proofs.YthkheemjgcbofaaDoor

namespace Go.Proofs.YthkheemjgcbofaaDoor
set_option linter.unusedVariables false
set_option linter.unusedSimpArgs false
open Go.RowKit Go.Proofs.YthkheemjgcbofaaDoor.PSc Go.Proofs.YthkheemjgcbofaaDoorW.PrintWords

set_option maxHeartbeats 4000000 in
set_option maxRecDepth 100000 in
theorem event_else (b : Nat) (word : By) (r : Rd) (w : World) (hG : Glob w) (hl : r.rest.length < 4294967281) (h6 : 6 ≤ b) (hb : w.heap[b]? = some r.blk) (k : Int) (hk : max (idxF wordsL word 0) 0 = k) (h1 : (k == 1) = false) (h6' : (k == 6) = false) (hf : fieldsOf k = []) :
    Calls Tryd.prog 45 #[.pointer (some ⟨b, 0, none⟩), .string ⟨word.toArray⟩] w fun e w' => e = .returned (.agg #[.int .i64 k, .int .i64 0, .int .i64 0, .bool false, .int .u32 0, .int .i64 0, .int .i64 0, .int .i64 0, .int .i64 0, .int .i64 0, .int .i64 0, .slice none 0 0]) ∧ w'.heap[b]? = some (⟨r.rest, r.bad || wrongF ⟨k, 0, ⟨0, false, 0, ⟨0, 0, 0, 0⟩, 0⟩, 0, []⟩⟩ : Rd).blk ∧ Mod [b] w w' := by
  have HB := Lib.hid hb
  have HK := Lib.hid hk
  have HL := tok_le r
  have hblt := blk_lt hb
  have hne : ¬ b = w.heap.size := by omega
  have hne' : ¬ w.heap.size = b := by omega
  have hsz := hG.size
  have HFO := Lib.hid hf
  clear hb hk hf
  have hu46 := Tryd.underlying46
  have hu43 := Tryd.underlying43
  go_enter Tryd.func45, Tryd.ntmps45
  go_wp2_with fail
  refine (words_calls _).mono ?_
  rintro e w1 ⟨A, c, rfl, hc7, hC1, hb1⟩
  have HB1 := Lib.hid (blk_below (blk_alloc HB.out _) hb1)
  have HO1 := Lib.hid (blk_below (blk_new w _) hb1)
  have HC1 := Lib.hid (hC1.mod (Mod.refl [] w1) (by simp))
  have HM1 := Lib.hid (((Mod.refl [b] w).alloc _).thenBelow hb1)
  have hz1 := hb1.size
  simp at hz1
  clear hC1 hb1
  go_wp2_with fail
  refine (index_calls wordsL 8 rfl word A c w1 HC1.out hc7 (by omega)).mono ?_
  rintro e w3 ⟨rfl, m, rfl⟩
  obtain ⟨co0, co1, co2, co3, co4, co5, co6, co7, co8, co9, co10, co11⟩ := cells12 HO1.out
  obtain ⟨fo0, fo1, fo2, fo3, fo4, fo5, fo6, fo7, fo8, fo9, fo10, fo11⟩ := frees12 HO1.out
  obtain ⟨K, hK⟩ : ∃ K, K = idxF wordsL word 0 := ⟨_, rfl⟩
  have HK' : Hid (max K 0 = k) := by rw [hK]; exact HK
  rw [← hK]
  clear hK HK
  go_wp2_with fail
  simp only [HK'.out]
  have HBW := Lib.hid (blk_far (blk_drewN HB1.out m) (p := ⟨w.heap.size, 0, none⟩) (by simp; omega) (.int .i64 k))
  have HOW : Hid (((w1.drewN m).setCell ⟨w.heap.size, 0, none⟩ (.int .i64 k)).heap[w.heap.size]? = some (.cells #[.int .i64 k, .int .i64 0, .int .i64 0, .bool false, .int .u32 0, .int .i64 0, .int .i64 0, .int .i64 0, .int .i64 0, .int .i64 0, .int .i64 0, .slice none 0 0] 46 (0, 0))) := Lib.hid (blk_set (blk_drewN HO1.out m) 0 (.int .i64 k))
  have HMW := Lib.hid ((HM1.out.drewN m).setNew (p := ⟨w.heap.size, 0, none⟩) (Nat.le_refl _) (.int .i64 k))
  refine (fields_at _ k [] HFO.out _ ((blk_cell HOW.out 0).trans rfl)).mono ?_
  rintro e w4 ⟨A4, c4, rfl, hp4, hbx4⟩
  have HB4 := Lib.hid (blk_below HBW.out hbx4)
  have HO4 : Hid (w4.heap[w.heap.size]? = some (.cells #[.int .i64 k, .int .i64 0, .int .i64 0, .bool false, .int .u32 0, .int .i64 0, .int .i64 0, .int .i64 0, .int .i64 0, .int .i64 0, .int .i64 0, .slice none 0 0] 46 (0, 0))) := Lib.hid (blk_below HOW.out hbx4)
  have HM4 := Lib.hid (HMW.out.thenBelow hbx4)
  have HG4 := Lib.hid (hG.mod HM4.out (by simp; omega))
  have hz4 := hbx4.size
  simp at hz4
  have HP4 := Lib.hid (IsPtrs.far hp4 (b := b) (b' := w.heap.size) (by have := HMW.out.size; omega) (by have := blk_lt HOW.out; omega))
  clear hp4 hbx4
  go_wp2_with fail
  refine (numbers_calls b w.heap.size [] A4 c4 #[.int .i64 k, .int .i64 0, .int .i64 0, .bool false, .int .u32 0, .int .i64 0, .int .i64 0, .int .i64 0, .int .i64 0, .int .i64 0, .int .i64 0, .slice none 0 0] 46 r w4 HG4.out (by omega) h6 (by omega) hne HB4.out HO4.out (by simp) HP4.out (by simp)).mono ?_
  rintro e w5 ⟨rfl, hb5, ho5, hm5⟩
  have HB5 : Hid (w5.heap[b]? = some (r).blk) := Lib.hid hb5
  have HO5 : Hid (w5.heap[w.heap.size]? = some (.cells #[.int .i64 k, .int .i64 0, .int .i64 0, .bool false, .int .u32 0, .int .i64 0, .int .i64 0, .int .i64 0, .int .i64 0, .int .i64 0, .int .i64 0, .slice none 0 0] 46 (0, 0))) := Lib.hid ho5
  have HM5 := Lib.hid (HM4.out.then hm5 (by simp))
  have HG5 := Lib.hid (hG.mod HM5.out (by simp; omega))
  have hz5 := hm5.size
  clear hb5 ho5 hm5
  clear co0 co1 co2 co3 co4 co5 co6 co7 co8 co9 co10 co11 fo0 fo1 fo2 fo3 fo4 fo5 fo6 fo7 fo8 fo9 fo10 fo11
  obtain ⟨co0, co1, co2, co3, co4, co5, co6, co7, co8, co9, co10, co11⟩ := cells12 HO5.out
  obtain ⟨fo0, fo1, fo2, fo3, fo4, fo5, fo6, fo7, fo8, fo9, fo10, fo11⟩ := frees12 HO5.out
  obtain ⟨cr0, cr1, fr0, fr1⟩ := rd_cells HB5.out
  by_cases hbad : (r).bad = true
  · go_wp2_with fail
    refine bodyPost_ret (v := .agg #[.int .i64 k, .int .i64 0, .int .i64 0, .bool false, .int .u32 0, .int .i64 0, .int .i64 0, .int .i64 0, .int .i64 0, .int .i64 0, .int .i64 0, .slice none 0 0]) (by simp [results, Tryd.results45, go_sem, co0, co1, co2, co3, co4, co5, co6, co7, co8, co9, co10, co11, hne, hne']) rfl ⟨rfl, ?_, ?_⟩
    · repeat rw [blk_far_eq _ (by simp; omega)]
      rw [blk_set HB5.out 1 _]; simp [Rd.blk, hbad]
    · (repeat (first | (with_reducible assumption) | (with_reducible exact HM5.out) | (with_reducible refine Mod.drewN ?_ _) | (with_reducible refine Mod.drew ?_) | (with_reducible refine Mod.alloc ?_ _) | (with_reducible refine Mod.set ?_ (by simp; try omega) _)))
  · have hbad' : (r).bad = false := by simpa using hbad
    clear hbad
    have HW := Lib.hid (wrong_calls ⟨k, 0, ⟨0, false, 0, ⟨0, 0, 0, 0⟩, 0⟩, 0, []⟩ none 0 w5 (Kd_nil _) (Nat.le_refl _))
    go_wp2_with fail
    refine HW.out.mono ?_
    rintro e w6 ⟨rfl, hb6⟩
    have HB6 := Lib.hid (blk_below HB5.out hb6)
    have HO6 : Hid (w6.heap[w.heap.size]? = some (.cells #[.int .i64 k, .int .i64 0, .int .i64 0, .bool false, .int .u32 0, .int .i64 0, .int .i64 0, .int .i64 0, .int .i64 0, .int .i64 0, .int .i64 0, .slice none 0 0] 46 (0, 0))) := Lib.hid (blk_below HO5.out hb6)
    have HM6 := Lib.hid (HM5.out.thenBelow hb6)
    clear hb6 cr0 cr1 fr0 fr1
    obtain ⟨cr0, cr1, fr0, fr1⟩ := rd_cells HB6.out
    clear co0 co1 co2 co3 co4 co5 co6 co7 co8 co9 co10 co11 fo0 fo1 fo2 fo3 fo4 fo5 fo6 fo7 fo8 fo9 fo10 fo11
    obtain ⟨co0, co1, co2, co3, co4, co5, co6, co7, co8, co9, co10, co11⟩ := cells12 HO6.out
    obtain ⟨fo0, fo1, fo2, fo3, fo4, fo5, fo6, fo7, fo8, fo9, fo10, fo11⟩ := frees12 HO6.out
    go_wp2_with fail
    refine bodyPost_ret (v := .agg #[.int .i64 k, .int .i64 0, .int .i64 0, .bool false, .int .u32 0, .int .i64 0, .int .i64 0, .int .i64 0, .int .i64 0, .int .i64 0, .int .i64 0, .slice none 0 0]) (by simp [results, Tryd.results45, go_sem, co0, co1, co2, co3, co4, co5, co6, co7, co8, co9, co10, co11, hne, hne']) rfl ⟨rfl, ?_, ?_⟩
    · repeat rw [blk_far_eq _ (by simp; omega)]
      rw [blk_set HB6.out 1 _]; simp [Rd.blk, hbad']
    · (repeat (first | (with_reducible assumption) | (with_reducible exact HM6.out) | (with_reducible refine Mod.drewN ?_ _) | (with_reducible refine Mod.drew ?_) | (with_reducible refine Mod.alloc ?_ _) | (with_reducible refine Mod.set ?_ (by simp; try omega) _)))

end Go.Proofs.YthkheemjgcbofaaDoor

namespace Go.Proofs.YthkheemjgcbofaaDoor
set_option linter.unusedVariables false
set_option linter.unusedSimpArgs false
open Go.RowKit Go.Proofs.YthkheemjgcbofaaDoor.PSc Go.Proofs.YthkheemjgcbofaaDoorW.PrintWords

set_option maxHeartbeats 4000000 in
set_option maxRecDepth 100000 in
theorem event_one (b : Nat) (word : By) (r : Rd) (w : World) (hG : Glob w) (hl : r.rest.length < 4294967281) (h6 : 6 ≤ b) (hb : w.heap[b]? = some r.blk) (k : Int) (hk : max (idxF wordsL word 0) 0 = k) (h : k = 1) (o0 : Int) (o1 : Bool) (o2 o3 o4 o5 o6 o7 : Int) (ro : Rd) (hop : opF (num r).2 = (⟨o0, o1, o2, ⟨o3, o4, o5, o6⟩, o7⟩, ro)) :
    Calls Tryd.prog 45 #[.pointer (some ⟨b, 0, none⟩), .string ⟨word.toArray⟩] w fun e w' => e = .returned (.agg #[.int .i64 1, .int .i64 (num r).1, .int .i64 o0, .bool o1, .int .u32 o2, .int .i64 o3, .int .i64 o4, .int .i64 o5, .int .i64 o6, .int .i64 o7, .int .i64 0, .slice none 0 0]) ∧ w'.heap[b]? = some (⟨ro.rest, ro.bad || wrongF ⟨1, (num r).1, ⟨o0, o1, o2, ⟨o3, o4, o5, o6⟩, o7⟩, 0, []⟩⟩ : Rd).blk ∧ Mod [b] w w' := by
  subst h
  have HB := Lib.hid hb
  have HK := Lib.hid hk
  have HL := tok_le r
  have hblt := blk_lt hb
  have hne : ¬ b = w.heap.size := by omega
  have hne' : ¬ w.heap.size = b := by omega
  have hsz := hG.size
  have HOP0 := Lib.hid hop
  clear hb hk hop
  have hu46 := Tryd.underlying46
  have hu43 := Tryd.underlying43
  go_enter Tryd.func45, Tryd.ntmps45
  go_wp2_with fail
  refine (words_calls _).mono ?_
  rintro e w1 ⟨A, c, rfl, hc7, hC1, hb1⟩
  have HB1 := Lib.hid (blk_below (blk_alloc HB.out _) hb1)
  have HO1 := Lib.hid (blk_below (blk_new w _) hb1)
  have HC1 := Lib.hid (hC1.mod (Mod.refl [] w1) (by simp))
  have HM1 := Lib.hid (((Mod.refl [b] w).alloc _).thenBelow hb1)
  have hz1 := hb1.size
  simp at hz1
  clear hC1 hb1
  go_wp2_with fail
  refine (index_calls wordsL 8 rfl word A c w1 HC1.out hc7 (by omega)).mono ?_
  rintro e w3 ⟨rfl, m, rfl⟩
  obtain ⟨co0, co1, co2, co3, co4, co5, co6, co7, co8, co9, co10, co11⟩ := cells12 HO1.out
  obtain ⟨fo0, fo1, fo2, fo3, fo4, fo5, fo6, fo7, fo8, fo9, fo10, fo11⟩ := frees12 HO1.out
  obtain ⟨K, hK⟩ : ∃ K, K = idxF wordsL word 0 := ⟨_, rfl⟩
  have HK' : Hid (max K 0 = 1) := by rw [hK]; exact HK
  rw [← hK]
  clear hK HK
  go_wp2_with fail
  simp only [HK'.out]
  have HBW := Lib.hid (blk_far (blk_drewN HB1.out m) (p := ⟨w.heap.size, 0, none⟩) (by simp; omega) (.int .i64 1))
  have HOW : Hid (((w1.drewN m).setCell ⟨w.heap.size, 0, none⟩ (.int .i64 1)).heap[w.heap.size]? = some (.cells #[.int .i64 1, .int .i64 0, .int .i64 0, .bool false, .int .u32 0, .int .i64 0, .int .i64 0, .int .i64 0, .int .i64 0, .int .i64 0, .int .i64 0, .slice none 0 0] 46 (0, 0))) := Lib.hid (blk_set (blk_drewN HO1.out m) 0 (.int .i64 1))
  have HMW := Lib.hid ((HM1.out.drewN m).setNew (p := ⟨w.heap.size, 0, none⟩) (Nat.le_refl _) (.int .i64 1))
  refine (fields_at _ 1 [1] rfl _ ((blk_cell HOW.out 0).trans rfl)).mono ?_
  rintro e w4 ⟨A4, c4, rfl, hp4, hbx4⟩
  have HB4 := Lib.hid (blk_below HBW.out hbx4)
  have HO4 : Hid (w4.heap[w.heap.size]? = some (.cells #[.int .i64 1, .int .i64 0, .int .i64 0, .bool false, .int .u32 0, .int .i64 0, .int .i64 0, .int .i64 0, .int .i64 0, .int .i64 0, .int .i64 0, .slice none 0 0] 46 (0, 0))) := Lib.hid (blk_below HOW.out hbx4)
  have HM4 := Lib.hid (HMW.out.thenBelow hbx4)
  have HG4 := Lib.hid (hG.mod HM4.out (by simp; omega))
  have hz4 := hbx4.size
  simp at hz4
  have HP4 := Lib.hid (IsPtrs.far hp4 (b := b) (b' := w.heap.size) (by have := HMW.out.size; omega) (by have := blk_lt HOW.out; omega))
  clear hp4 hbx4
  go_wp2_with fail
  refine (numbers_calls b w.heap.size [1] A4 c4 #[.int .i64 1, .int .i64 0, .int .i64 0, .bool false, .int .u32 0, .int .i64 0, .int .i64 0, .int .i64 0, .int .i64 0, .int .i64 0, .int .i64 0, .slice none 0 0] 46 r w4 HG4.out (by omega) h6 (by omega) hne HB4.out HO4.out (by simp) HP4.out (by simp)).mono ?_
  rintro e w5 ⟨rfl, hb5, ho5, hm5⟩
  have HB5 : Hid (w5.heap[b]? = some ((num r).2).blk) := Lib.hid hb5
  have HO5 : Hid (w5.heap[w.heap.size]? = some (.cells #[.int .i64 1, .int .i64 (num r).1, .int .i64 0, .bool false, .int .u32 0, .int .i64 0, .int .i64 0, .int .i64 0, .int .i64 0, .int .i64 0, .int .i64 0, .slice none 0 0] 46 (0, 0))) := Lib.hid ho5
  have HM5 := Lib.hid (HM4.out.then hm5 (by simp))
  have HG5 := Lib.hid (hG.mod HM5.out (by simp; omega))
  have hz5 := hm5.size
  clear hb5 ho5 hm5
  clear co0 co1 co2 co3 co4 co5 co6 co7 co8 co9 co10 co11 fo0 fo1 fo2 fo3 fo4 fo5 fo6 fo7 fo8 fo9 fo10 fo11
  obtain ⟨co0, co1, co2, co3, co4, co5, co6, co7, co8, co9, co10, co11⟩ := cells12 HO5.out
  obtain ⟨fo0, fo1, fo2, fo3, fo4, fo5, fo6, fo7, fo8, fo9, fo10, fo11⟩ := frees12 HO5.out
  have HLn := num_le r
  have HOP : Hid (Calls Tryd.prog 61 #[.pointer (some ⟨b, 0, none⟩)] w5 fun e w' => e = .returned (.agg (vals43 ⟨o0, o1, o2, ⟨o3, o4, o5, o6⟩, o7⟩)) ∧ w'.heap[b]? = some ro.blk ∧ Mod [b] w5 w') := Lib.hid (by have h := operation_calls b (num r).2 w5 HG5.out (by omega) h6 HB5.out; rw [HOP0.out] at h; exact h)
  go_wp2_with fail
  refine HOP.out.mono ?_
  rintro e w7 ⟨rfl, hb7, hm7⟩
  have HB7 := Lib.hid hb7
  have HO7 : Hid (w7.heap[w.heap.size]? = some (.cells #[.int .i64 1, .int .i64 (num r).1, .int .i64 0, .bool false, .int .u32 0, .int .i64 0, .int .i64 0, .int .i64 0, .int .i64 0, .int .i64 0, .int .i64 0, .slice none 0 0] 46 (0, 0))) := Lib.hid (blk_mod HO5.out hm7 (by simp; omega))
  have HM7 := Lib.hid (HM5.out.then hm7 (by simp))
  have hz7 := hm7.size
  simp only [vals43]
  clear hb7 hm7
  clear co0 co1 co2 co3 co4 co5 co6 co7 co8 co9 co10 co11 fo0 fo1 fo2 fo3 fo4 fo5 fo6 fo7 fo8 fo9 fo10 fo11
  obtain ⟨co0, co1, co2, co3, co4, co5, co6, co7, co8, co9, co10, co11⟩ := cells12 HO7.out
  obtain ⟨fo0, fo1, fo2, fo3, fo4, fo5, fo6, fo7, fo8, fo9, fo10, fo11⟩ := frees12 HO7.out
  go_upto_region 15 with (fail)
  obtain ⟨w8, hw8⟩ : ∃ W, W = ((((((((w7.setCell ⟨w.heap.size, 2, none⟩ (.int .i64 o0)).setCell ⟨w.heap.size, 3, none⟩ (.bool o1)).setCell ⟨w.heap.size, 4, none⟩ (.int .u32 o2)).setCell ⟨w.heap.size, 5, none⟩ (.int .i64 o3)).setCell ⟨w.heap.size, 6, none⟩ (.int .i64 o4)).setCell ⟨w.heap.size, 7, none⟩ (.int .i64 o5)).setCell ⟨w.heap.size, 8, none⟩ (.int .i64 o6)).setCell ⟨w.heap.size, 9, none⟩ (.int .i64 o7)) := ⟨_, rfl⟩
  rw [← hw8]
  have HB8 : Hid (w8.heap[b]? = some ro.blk) := Lib.hid (by rw [hw8]; repeat (first | (with_reducible exact HB7.out) | (with_reducible refine blk_far ?_ (by simp; omega) _)))
  have hs0 : (w7.setCell ⟨w.heap.size, 2, none⟩ (.int .i64 o0)).heap[w.heap.size]? = some (.cells #[.int .i64 1, .int .i64 (num r).1, .int .i64 o0, .bool false, .int .u32 0, .int .i64 0, .int .i64 0, .int .i64 0, .int .i64 0, .int .i64 0, .int .i64 0, .slice none 0 0] 46 (0, 0)) := blk_set HO7.out 2 _
  have hs1 : ((w7.setCell ⟨w.heap.size, 2, none⟩ (.int .i64 o0)).setCell ⟨w.heap.size, 3, none⟩ (.bool o1)).heap[w.heap.size]? = some (.cells #[.int .i64 1, .int .i64 (num r).1, .int .i64 o0, .bool o1, .int .u32 0, .int .i64 0, .int .i64 0, .int .i64 0, .int .i64 0, .int .i64 0, .int .i64 0, .slice none 0 0] 46 (0, 0)) := blk_set hs0 3 _
  have hs2 : (((w7.setCell ⟨w.heap.size, 2, none⟩ (.int .i64 o0)).setCell ⟨w.heap.size, 3, none⟩ (.bool o1)).setCell ⟨w.heap.size, 4, none⟩ (.int .u32 o2)).heap[w.heap.size]? = some (.cells #[.int .i64 1, .int .i64 (num r).1, .int .i64 o0, .bool o1, .int .u32 o2, .int .i64 0, .int .i64 0, .int .i64 0, .int .i64 0, .int .i64 0, .int .i64 0, .slice none 0 0] 46 (0, 0)) := blk_set hs1 4 _
  have hs3 : ((((w7.setCell ⟨w.heap.size, 2, none⟩ (.int .i64 o0)).setCell ⟨w.heap.size, 3, none⟩ (.bool o1)).setCell ⟨w.heap.size, 4, none⟩ (.int .u32 o2)).setCell ⟨w.heap.size, 5, none⟩ (.int .i64 o3)).heap[w.heap.size]? = some (.cells #[.int .i64 1, .int .i64 (num r).1, .int .i64 o0, .bool o1, .int .u32 o2, .int .i64 o3, .int .i64 0, .int .i64 0, .int .i64 0, .int .i64 0, .int .i64 0, .slice none 0 0] 46 (0, 0)) := blk_set hs2 5 _
  have hs4 : (((((w7.setCell ⟨w.heap.size, 2, none⟩ (.int .i64 o0)).setCell ⟨w.heap.size, 3, none⟩ (.bool o1)).setCell ⟨w.heap.size, 4, none⟩ (.int .u32 o2)).setCell ⟨w.heap.size, 5, none⟩ (.int .i64 o3)).setCell ⟨w.heap.size, 6, none⟩ (.int .i64 o4)).heap[w.heap.size]? = some (.cells #[.int .i64 1, .int .i64 (num r).1, .int .i64 o0, .bool o1, .int .u32 o2, .int .i64 o3, .int .i64 o4, .int .i64 0, .int .i64 0, .int .i64 0, .int .i64 0, .slice none 0 0] 46 (0, 0)) := blk_set hs3 6 _
  have hs5 : ((((((w7.setCell ⟨w.heap.size, 2, none⟩ (.int .i64 o0)).setCell ⟨w.heap.size, 3, none⟩ (.bool o1)).setCell ⟨w.heap.size, 4, none⟩ (.int .u32 o2)).setCell ⟨w.heap.size, 5, none⟩ (.int .i64 o3)).setCell ⟨w.heap.size, 6, none⟩ (.int .i64 o4)).setCell ⟨w.heap.size, 7, none⟩ (.int .i64 o5)).heap[w.heap.size]? = some (.cells #[.int .i64 1, .int .i64 (num r).1, .int .i64 o0, .bool o1, .int .u32 o2, .int .i64 o3, .int .i64 o4, .int .i64 o5, .int .i64 0, .int .i64 0, .int .i64 0, .slice none 0 0] 46 (0, 0)) := blk_set hs4 7 _
  have hs6 : (((((((w7.setCell ⟨w.heap.size, 2, none⟩ (.int .i64 o0)).setCell ⟨w.heap.size, 3, none⟩ (.bool o1)).setCell ⟨w.heap.size, 4, none⟩ (.int .u32 o2)).setCell ⟨w.heap.size, 5, none⟩ (.int .i64 o3)).setCell ⟨w.heap.size, 6, none⟩ (.int .i64 o4)).setCell ⟨w.heap.size, 7, none⟩ (.int .i64 o5)).setCell ⟨w.heap.size, 8, none⟩ (.int .i64 o6)).heap[w.heap.size]? = some (.cells #[.int .i64 1, .int .i64 (num r).1, .int .i64 o0, .bool o1, .int .u32 o2, .int .i64 o3, .int .i64 o4, .int .i64 o5, .int .i64 o6, .int .i64 0, .int .i64 0, .slice none 0 0] 46 (0, 0)) := blk_set hs5 8 _
  have hs7 : ((((((((w7.setCell ⟨w.heap.size, 2, none⟩ (.int .i64 o0)).setCell ⟨w.heap.size, 3, none⟩ (.bool o1)).setCell ⟨w.heap.size, 4, none⟩ (.int .u32 o2)).setCell ⟨w.heap.size, 5, none⟩ (.int .i64 o3)).setCell ⟨w.heap.size, 6, none⟩ (.int .i64 o4)).setCell ⟨w.heap.size, 7, none⟩ (.int .i64 o5)).setCell ⟨w.heap.size, 8, none⟩ (.int .i64 o6)).setCell ⟨w.heap.size, 9, none⟩ (.int .i64 o7)).heap[w.heap.size]? = some (.cells #[.int .i64 1, .int .i64 (num r).1, .int .i64 o0, .bool o1, .int .u32 o2, .int .i64 o3, .int .i64 o4, .int .i64 o5, .int .i64 o6, .int .i64 o7, .int .i64 0, .slice none 0 0] 46 (0, 0)) := blk_set hs6 9 _
  have HO8 : Hid (w8.heap[w.heap.size]? = some (.cells #[.int .i64 1, .int .i64 (num r).1, .int .i64 o0, .bool o1, .int .u32 o2, .int .i64 o3, .int .i64 o4, .int .i64 o5, .int .i64 o6, .int .i64 o7, .int .i64 0, .slice none 0 0] 46 (0, 0))) := Lib.hid (by rw [hw8]; exact hs7)
  clear hs0 hs1 hs2 hs3 hs4 hs5 hs6 hs7
  have HM8 : Hid (Mod [b] w w8) := Lib.hid (by rw [hw8]; repeat (first | (with_reducible assumption) | (with_reducible exact HM7.out) | (with_reducible refine Mod.drewN ?_ _) | (with_reducible refine Mod.drew ?_) | (with_reducible refine Mod.alloc ?_ _) | (with_reducible refine Mod.set ?_ (by simp; try omega) _)))
  have hz8 : w7.heap.size ≤ w8.heap.size := by rw [hw8]; simp [World.setCell]
  clear hw8
  clear co0 co1 co2 co3 co4 co5 co6 co7 co8 co9 co10 co11 fo0 fo1 fo2 fo3 fo4 fo5 fo6 fo7 fo8 fo9 fo10 fo11
  obtain ⟨co0, co1, co2, co3, co4, co5, co6, co7, co8, co9, co10, co11⟩ := cells12 HO8.out
  obtain ⟨fo0, fo1, fo2, fo3, fo4, fo5, fo6, fo7, fo8, fo9, fo10, fo11⟩ := frees12 HO8.out
  obtain ⟨cr0, cr1, fr0, fr1⟩ := rd_cells HB8.out
  by_cases hbad : (ro).bad = true
  · go_wp2_with fail
    refine bodyPost_ret (v := .agg #[.int .i64 1, .int .i64 (num r).1, .int .i64 o0, .bool o1, .int .u32 o2, .int .i64 o3, .int .i64 o4, .int .i64 o5, .int .i64 o6, .int .i64 o7, .int .i64 0, .slice none 0 0]) (by simp [results, Tryd.results45, go_sem, co0, co1, co2, co3, co4, co5, co6, co7, co8, co9, co10, co11, hne, hne']) rfl ⟨rfl, ?_, ?_⟩
    · repeat rw [blk_far_eq _ (by simp; omega)]
      rw [blk_set HB8.out 1 _]; simp [Rd.blk, hbad]
    · (repeat (first | (with_reducible assumption) | (with_reducible exact HM8.out) | (with_reducible refine Mod.drewN ?_ _) | (with_reducible refine Mod.drew ?_) | (with_reducible refine Mod.alloc ?_ _) | (with_reducible refine Mod.set ?_ (by simp; try omega) _)))
  · have hbad' : (ro).bad = false := by simpa using hbad
    clear hbad
    have HW := Lib.hid (wrong_calls ⟨1, (num r).1, ⟨o0, o1, o2, ⟨o3, o4, o5, o6⟩, o7⟩, 0, []⟩ none 0 w8 (Kd_nil _) (Nat.le_refl _))
    go_wp2_with fail
    refine HW.out.mono ?_
    rintro e w6 ⟨rfl, hb6⟩
    have HB6 := Lib.hid (blk_below HB8.out hb6)
    have HO6 : Hid (w6.heap[w.heap.size]? = some (.cells #[.int .i64 1, .int .i64 (num r).1, .int .i64 o0, .bool o1, .int .u32 o2, .int .i64 o3, .int .i64 o4, .int .i64 o5, .int .i64 o6, .int .i64 o7, .int .i64 0, .slice none 0 0] 46 (0, 0))) := Lib.hid (blk_below HO8.out hb6)
    have HM6 := Lib.hid (HM8.out.thenBelow hb6)
    clear hb6 cr0 cr1 fr0 fr1
    obtain ⟨cr0, cr1, fr0, fr1⟩ := rd_cells HB6.out
    clear co0 co1 co2 co3 co4 co5 co6 co7 co8 co9 co10 co11 fo0 fo1 fo2 fo3 fo4 fo5 fo6 fo7 fo8 fo9 fo10 fo11
    obtain ⟨co0, co1, co2, co3, co4, co5, co6, co7, co8, co9, co10, co11⟩ := cells12 HO6.out
    obtain ⟨fo0, fo1, fo2, fo3, fo4, fo5, fo6, fo7, fo8, fo9, fo10, fo11⟩ := frees12 HO6.out
    go_wp2_with fail
    refine bodyPost_ret (v := .agg #[.int .i64 1, .int .i64 (num r).1, .int .i64 o0, .bool o1, .int .u32 o2, .int .i64 o3, .int .i64 o4, .int .i64 o5, .int .i64 o6, .int .i64 o7, .int .i64 0, .slice none 0 0]) (by simp [results, Tryd.results45, go_sem, co0, co1, co2, co3, co4, co5, co6, co7, co8, co9, co10, co11, hne, hne']) rfl ⟨rfl, ?_, ?_⟩
    · repeat rw [blk_far_eq _ (by simp; omega)]
      rw [blk_set HB6.out 1 _]; simp [Rd.blk, hbad']
    · (repeat (first | (with_reducible assumption) | (with_reducible exact HM6.out) | (with_reducible refine Mod.drewN ?_ _) | (with_reducible refine Mod.drew ?_) | (with_reducible refine Mod.alloc ?_ _) | (with_reducible refine Mod.set ?_ (by simp; try omega) _)))

end Go.Proofs.YthkheemjgcbofaaDoor
