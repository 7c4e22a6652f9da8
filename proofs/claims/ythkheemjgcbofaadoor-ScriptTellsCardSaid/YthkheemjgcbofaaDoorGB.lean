/-
  The reader's methods: token, number, row, numbers, longs.
  Lists of pointers to an event's and a key's numbers: fields, box.
  What an operation's line says of it (spoken); whether two events are one (same); whether an event may not be (wrong).
  Whether two events are one (script.same), by the printed contract for slices.Equal.
-/
import Derived.Test.YthkheemjgcbofaaDoorGA
import Derived.Outline
import Derived.Deep.QuietTactic
import Derived.BigQuiet
import Derived.BigRegion
import Derived.Laws.ResultCell
import Derived.Test.YthkheemjgcbofaaDoorPScx2
import Derived.Test.YthkheemjgcbofaaDoorPScx6
import Derived.Test.YthkheemjgcbofaaDoorPScx7

namespace Go.Proofs.YthkheemjgcbofaaDoor
set_option linter.unusedVariables false
set_option linter.unusedSimpArgs false
open Go.RowKit

set_option maxHeartbeats 400000 in
theorem token_calls (b : Nat) (r : Rd) (w : World) (hG : Glob w) (hl : r.rest.length < 4294967281) (hb : w.heap[b]? = some r.blk) :
    Calls Tryd.prog 43 #[.pointer (some ⟨b, 0, none⟩)] w fun e w' => e = .returned (.string ⟨(tok r).1.toArray⟩) ∧ w'.heap[b]? = some (tok r).2.blk ∧ Mod [b] w w' := by
  obtain ⟨rest, bad⟩ := r
  unfold Rd.blk at hb
  have HB := Lib.hid hb
  have c0 : w.cell? ⟨b, 0, none⟩ = some (.string ⟨rest.toArray⟩) := (blk_cell hb 0).trans rfl
  have c1 : w.cell? ⟨b, 1, none⟩ = some (.bool bad) := (blk_cell hb 1).trans rfl
  have f0 := blk_free hb 0
  have f1 := blk_free hb 1
  clear hb
  go_enter Tryd.func43, Tryd.ntmps43
  go_wp2_with (go_at_call 18; refine (cut_calls _ _ _ hG hl).mono ?_; rintro e w' ⟨rfl, n, rfl⟩)
  all_goals go_ret
  · have h1 : (Lib.cut rest [32]).snd.snd = true := by assumption
    have h2 : (Lib.cut rest [32]).snd.fst.isEmpty = true := by assumption
    refine ⟨rfl, ?_, ?_⟩
    · rw [blk_set (blk_set (blk_drewN HB.out n) 0 _) 1 _]; simp [tok, Rd.blk, h1, h2]
    · (repeat (first | exact Mod.refl _ _ | assumption | refine Mod.drewN ?_ _ | refine Mod.drew ?_ | refine Mod.alloc ?_ _ | (refine Mod.set ?_ (by simp; try omega) _)))
  · have h1 : (Lib.cut rest [32]).snd.snd = true := by assumption
    have h2 : (Lib.cut rest [32]).snd.fst.isEmpty = false := by assumption
    refine ⟨rfl, ?_, ?_⟩
    · rw [blk_set (blk_drewN HB.out n) 0 _]; simp [tok, Rd.blk, h2]
    · (repeat (first | exact Mod.refl _ _ | assumption | refine Mod.drewN ?_ _ | refine Mod.drew ?_ | refine Mod.alloc ?_ _ | (refine Mod.set ?_ (by simp; try omega) _)))
  · have h1 : ¬ (Lib.cut rest [32]).snd.snd = true := by assumption
    refine ⟨rfl, ?_, ?_⟩
    · rw [blk_set (blk_drewN HB.out n) 0 _]; simp [tok, Rd.blk, h1]
    · (repeat (first | exact Mod.refl _ _ | assumption | refine Mod.drewN ?_ _ | refine Mod.drew ?_ | refine Mod.alloc ?_ _ | (refine Mod.set ?_ (by simp; try omega) _)))

theorem parse_range (l : By) (v : Int) (h : Lib.parseIntB 64 l = .ok v) : -9223372036854775808 ≤ v ∧ v ≤ 9223372036854775807 := by
  unfold Lib.parseIntB at h
  cases l with
  | nil => simp at h
  | cons c r =>
    simp only at h
    split at h
    · cases h
    · cases h
    · rename_i u _
      split at h
      · cases h
      · rename_i h1
        split at h
        · cases h
        · rename_i h2
          injection h with h
          subst h
          by_cases hn : c.toNat = 45
          · simp only [hn, not_true, false_and, true_and, if_true] at h1 h2 ⊢
            omega
          · simp only [hn, not_false_iff, false_and, true_and, if_false] at h1 h2 ⊢
            omega

theorem rd_cells {w : World} {b : Nat} {r : Rd} (h : w.heap[b]? = some r.blk) :
    w.cell? ⟨b, 0, none⟩ = some (.string ⟨r.rest.toArray⟩) ∧ w.cell? ⟨b, 1, none⟩ = some (.bool r.bad) ∧ w.frozen? ⟨b, 0, none⟩ = false ∧ w.frozen? ⟨b, 1, none⟩ = false :=
  ⟨(blk_cell h 0).trans rfl, (blk_cell h 1).trans rfl, blk_free h 0, blk_free h 1⟩

set_option maxHeartbeats 400000 in
theorem number_calls (b : Nat) (r : Rd) (w : World) (hG : Glob w) (hl : r.rest.length < 4294967281) (h6 : 6 ≤ b) (hb : w.heap[b]? = some r.blk) :
    Calls Tryd.prog 59 #[.pointer (some ⟨b, 0, none⟩)] w fun e w' => e = .returned (.int .i64 (num r).1) ∧ w'.heap[b]? = some (num r).2.blk ∧ Mod [b] w w' := by
  have HL := tok_le r
  have HT := Lib.hid (token_calls b r w hG hl hb)
  clear hb
  by_cases hp : ∃ v, Lib.parseIntB 64 (tok r).1 = .ok v
  · obtain ⟨v, hp⟩ := hp
    have HP := Lib.hid hp
    have HR := parse_range _ v hp
    obtain ⟨hr0, hr1⟩ := HR
    clear hp
    go_enter Tryd.func59, Tryd.ntmps59
    go_wp2_with fail
    refine HT.out.mono ?_
    rintro e w1 ⟨rfl, hb1, hm1⟩
    have HB1 := Lib.hid hb1
    clear hb1
    have HG1 := Lib.hid (hG.mod hm1 (by simp; exact h6))
    go_wp2_with fail
    refine (parseInt_ok _ w1 v (by omega) HP.out).mono ?_
    rintro e w2 ⟨rfl, hb2⟩
    have HB2 := Lib.hid (blk_below HB1.out hb2)
    have HG2 := Lib.hid (HG1.out.below hb2 HG1.out.size)
    go_wp2_with fail
    refine (formatInt_calls v w2 HG2.out hr0 hr1).mono ?_
    rintro e w3 ⟨rfl, hb3⟩
    have HB3 := Lib.hid (blk_below HB2.out hb3)
    obtain ⟨c0, c1, f0, f1⟩ := rd_cells HB3.out
    have hm3 : Mod [b] w w3 := (hm1.thenBelow hb2).thenBelow hb3
    go_wp2
    all_goals go_ret
    · have h1 : (Lib.itoa v == (tok r).fst) = false := by
        have h : (!Lib.itoa v == (tok r).fst) = true := by assumption
        simpa using h
      refine ⟨by simp [num, numOf, HP.out], ?_, hm3.setIn (by simp) _⟩
      rw [blk_set HB3.out 1 _]; simp [num, numOf, HP.out, h1, Rd.blk]
    · have h1 : (Lib.itoa v == (tok r).fst) = true := by
        have h : (!Lib.itoa v == (tok r).fst) = false := by assumption
        simpa using h
      refine ⟨by simp [num, numOf, HP.out], ?_, hm3⟩
      rw [HB3.out]; simp [num, numOf, HP.out, h1, Rd.blk]
  · have HP := Lib.hid (show ∀ v, Lib.parseIntB 64 (tok r).1 ≠ .ok v from fun v h => hp ⟨v, h⟩)
    clear hp
    go_enter Tryd.func59, Tryd.ntmps59
    go_wp2_with fail
    refine HT.out.mono ?_
    rintro e w1 ⟨rfl, hb1, hm1⟩
    have HB1 := Lib.hid hb1
    clear hb1
    have HG1 := Lib.hid (hG.mod hm1 (by simp; exact h6))
    go_wp2_with fail
    refine (parseInt_bad _ w1 HG1.out (by omega) HP.out).mono ?_
    rintro e w2 ⟨N, rfl, hb2⟩
    have HB2 := Lib.hid (blk_below HB1.out hb2)
    obtain ⟨c0, c1, f0, f1⟩ := rd_cells HB2.out
    have hm3 : Mod [b] w w2 := hm1.thenBelow hb2
    go_wp2
    go_ret
    have h1 : (numOf (tok r).1).2 = false := by
      unfold numOf
      split
      · rename_i v hv; exact absurd hv (HP.out v)
      · rfl
      · rfl
    refine ⟨rfl, ?_, hm3.setIn (by simp) _⟩
    rw [blk_set HB2.out 1 _]; simp [num, h1, Rd.blk]

set_option maxHeartbeats 400000 in
theorem row_calls (b : Nat) (r : Rd) (w : World) (hG : Glob w) (hl : r.rest.length < 4294967281) (h6 : 6 ≤ b) (hb : w.heap[b]? = some r.blk) :
    Calls Tryd.prog 70 #[.pointer (some ⟨b, 0, none⟩)] w fun e w' => e = .returned (.int .u32 (row r).1) ∧ w'.heap[b]? = some (row r).2.blk ∧ Mod [b] w w' := by
  have HT := Lib.hid (number_calls b r w hG hl h6 hb)
  clear hb
  go_enter Tryd.func70, Tryd.ntmps70
  go_wp2_with fail
  refine HT.out.mono ?_
  rintro e w1 ⟨rfl, hb1, hm1⟩
  have HB1 := Lib.hid hb1
  clear hb1
  obtain ⟨c0, c1, f0, f1⟩ := rd_cells HB1.out
  go_wp2
  all_goals go_ret
  · have h1 : (num r).1 < 0 ∨ 4294967295 < (num r).1 := by assumption
    refine ⟨by simp [row], ?_, hm1.setIn (by simp) _⟩
    rw [blk_set HB1.out 1 _]; simp [row, h1, Rd.blk]
  · have h1 : 0 ≤ (num r).1 ∧ (num r).1 ≤ 4294967295 := by assumption
    have h2 : ¬ ((num r).1 < 0 ∨ 4294967295 < (num r).1) := by omega
    refine ⟨by simp [row]; omega, ?_, hm1⟩
    rw [HB1.out]; simp [row, h2, Rd.blk]
  · have h1 : (num r).1 < 0 := by assumption
    refine ⟨by simp [row], ?_, hm1.setIn (by simp) _⟩
    rw [blk_set HB1.out 1 _]; simp [row, h1, Rd.blk]

/-- The pointers to places of one block, as a slice has them. -/
def ptrs (bt : Nat) (os : List Nat) : List Value := os.map fun o => .pointer (some ⟨bt, o, none⟩)
/-- The places filled. -/
def fill (cs : Array Value) : List Nat → List Int → Array Value
  | o :: os, n :: ns => fill (cs.setIfInBounds o (.int .i64 n)) os ns
  | _, _ => cs

theorem nums_snoc (k : Nat) : ∀ r, nums (k + 1) r = ((nums k r).1 ++ [(num (nums k r).2).1], (num (nums k r).2).2) := by
  induction k with
  | zero => intro r; rfl
  | succ k ih => intro r; rw [nums, ih]; simp [nums]
theorem fill_snoc (os : List Nat) : ∀ (cs : Array Value) (ns : List Int) (o : Nat) (n : Int), ns.length = os.length → fill cs (os ++ [o]) (ns ++ [n]) = (fill cs os ns).setIfInBounds o (.int .i64 n) := by
  induction os with
  | nil =>
    intro cs ns o n h
    cases ns with
    | nil => rfl
    | cons _ _ => simp at h
  | cons o' os ih =>
    intro cs ns o n h
    cases ns with
    | nil => simp at h
    | cons n' ns => exact ih _ _ _ _ (by simpa using h)
theorem fill_int (os : List Nat) : ∀ (cs : Array Value) (ns : List Int) (o : Nat), (∃ n : Int, cs[o]? = some (.int .i64 n)) → ∃ n : Int, (fill cs os ns)[o]? = some (.int .i64 n) := by
  induction os with
  | nil => intro cs ns o h; cases ns <;> exact h
  | cons o' os ih =>
    intro cs ns o h
    cases ns with
    | nil => exact h
    | cons n' ns =>
      refine ih _ _ _ ?_
      obtain ⟨n, hn⟩ := h
      by_cases e : o' = o
      · subst e
        have : o' < cs.size := by rw [Array.getElem?_eq_some_iff] at hn; exact hn.1
        exact ⟨n', by simp [this]⟩
      · exact ⟨n, by rw [Array.getElem?_setIfInBounds_ne e]; exact hn⟩

set_option maxHeartbeats 400000 in
theorem longs_calls (b bt : Nat) (os : List Nat) (A : Option Addr) (c : Nat) (cs : Array Value) (T : TypeId) (r : Rd) (w : World) (hG : Glob w) (hl : r.rest.length < 4294967281) (h6 : 6 ≤ b) (h6' : 6 ≤ bt) (hne : b ≠ bt) (hb : w.heap[b]? = some r.blk) (hbt : w.heap[bt]? = some (.cells cs T (0, 0)))
    (hos : ∀ o, o ∈ os → ∃ n : Int, cs[o]? = some (.int .i64 n)) (hA : ∀ i, i < os.length → ∃ ad, A = some ad ∧ w.cell? (ad.add i) = some (.pointer (some ⟨bt, os.getD i 0, none⟩)) ∧ (ad.add i).block ≠ b ∧ (ad.add i).block ≠ bt) (hlen : os.length ≤ 1000) :
    Calls Tryd.prog 71 #[.pointer (some ⟨b, 0, none⟩), .slice A os.length c] w fun e w' => e = .returned (.tuple #[]) ∧ w'.heap[b]? = some (nums os.length r).2.blk ∧ w'.heap[bt]? = some (.cells (fill cs os (nums os.length r).1) T (0, 0)) ∧ Mod [b, bt] w w' := by
  have HO := Lib.hid hos
  have HA := Lib.hid hA
  have HB := Lib.hid hb
  have HT := Lib.hid hbt
  clear hos hA hb hbt
  go_enter Tryd.func71, Tryd.ntmps71
  go_wp2
  go_loopw [8] (fun i wr => ∃ k : Nat, k ≤ os.length ∧ i = .int .i64 k ∧ Hid (wr.heap[b]? = some (nums k r).2.blk) ∧ Hid (wr.heap[bt]? = some (.cells (fill cs (os.take k) (nums k r).1) T (0, 0))) ∧ Hid (Mod [b, bt] w wr)) (fun i _ => os.length - (intOf i).toNat)
  case atStart => exact ⟨0, by omega, rfl, HB, HT, Lib.hid (Mod.refl _ _)⟩
  case round =>
    obtain ⟨k, hk, rfl, HB1, HT1, HM⟩ := hrel
    by_cases hlt : k < os.length
    · obtain ⟨ad, rfl, hc, hn1, hn2⟩ := HA.out k hlt
      have hcw : wr.cell? (ad.add k) = some (.pointer (some ⟨bt, os.getD k 0, none⟩)) := by
        rw [World.cell?_of_block (w := w) (HM.out.block _ (World.block_lt_of_cell? _ _ hc) (by simp; exact ⟨hn1, hn2⟩))]; exact hc
      have hG1 : Hid (Glob wr) := Lib.hid (hG.mod HM.out (by simp; omega))
      have hlk := nums_le k r
      have hmem : os.getD k 0 ∈ os := by simp [List.getD_eq_getElem?_getD, List.getElem?_eq_getElem hlt]
      have htk : os.take (k + 1) = os.take k ++ [os.getD k 0] := by
        rw [List.take_add_one]; simp [List.getD_eq_getElem?_getD, List.getElem?_eq_getElem hlt]
      obtain ⟨o, ho⟩ : ∃ o, o = os.getD k 0 := ⟨_, rfl⟩
      rw [← ho] at hcw hmem htk
      have HTK := Lib.hid htk
      obtain ⟨m, hm⟩ := fill_int (os.take k) cs (nums k r).1 o (HO.out o hmem)
      have HMI := Lib.hid hm
      clear hc ho htk hm
      go_wp2_with fail
      refine (number_calls b (nums k r).2 wr hG1.out (by omega) h6 HB1.out).mono ?_
      rintro e w1 ⟨rfl, hb1, hm1⟩
      have HB2 := Lib.hid hb1
      have HT2 := Lib.hid (blk_mod HT1.out hm1 (by simp; omega))
      have hc1 : w1.cell? ⟨bt, o, none⟩ = some (.int .i64 m) := (blk_cell HT2.out o).trans HMI.out
      have hf1 := blk_free HT2.out o
      have HM2 := Lib.hid hm1
      clear hb1 hm1
      go_wp2
      go_roundw
      case rel =>
        refine ⟨k + 1, by omega, by go_num, ?_, ?_, ?_⟩
        · refine Lib.hid ?_
          rw [blk_far HB2.out (by simpa using hne) _, nums_snoc]
        · refine Lib.hid ?_
          rw [blk_set HT2.out o _, HTK.out, nums_snoc, fill_snoc _ _ _ _ _ (by rw [nums_length]; simp; omega)]
        · exact Lib.hid ((HM.out.then HM2.out (by simp)).setIn (by simp) _)
      case measure => simp [intOf]; omega
    · have he : k = os.length := by omega
      subst he
      go_wp2
      go_end0
      exact ⟨rfl, HB1.out, by rw [HT1.out, List.take_length], HM.out⟩

set_option maxHeartbeats 400000 in
theorem numbers_calls (b bt : Nat) (os : List Nat) (A : Option Addr) (c : Nat) (cs : Array Value) (T : TypeId) (r : Rd) (w : World) (hG : Glob w) (hl : r.rest.length < 4294967281) (h6 : 6 ≤ b) (h6' : 6 ≤ bt) (hne : b ≠ bt) (hb : w.heap[b]? = some r.blk) (hbt : w.heap[bt]? = some (.cells cs T (0, 0)))
    (hos : ∀ o, o ∈ os → ∃ n : Int, cs[o]? = some (.int .i64 n)) (hA : ∀ i, i < os.length → ∃ ad, A = some ad ∧ w.cell? (ad.add i) = some (.pointer (some ⟨bt, os.getD i 0, none⟩)) ∧ (ad.add i).block ≠ b ∧ (ad.add i).block ≠ bt) (hlen : os.length ≤ 1000) :
    Calls Tryd.prog 44 #[.pointer (some ⟨b, 0, none⟩), .slice A os.length c] w fun e w' => e = .returned (.tuple #[]) ∧ w'.heap[b]? = some (nums os.length r).2.blk ∧ w'.heap[bt]? = some (.cells (fill cs os (nums os.length r).1) T (0, 0)) ∧ Mod [b, bt] w w' := by
  have HO := Lib.hid hos
  have HA := Lib.hid hA
  have HB := Lib.hid hb
  have HT := Lib.hid hbt
  clear hos hA hb hbt
  go_enter Tryd.func44, Tryd.ntmps44
  go_wp2
  go_loopw [8] (fun i wr => ∃ k : Nat, k ≤ os.length ∧ i = .int .i64 k ∧ Hid (wr.heap[b]? = some (nums k r).2.blk) ∧ Hid (wr.heap[bt]? = some (.cells (fill cs (os.take k) (nums k r).1) T (0, 0))) ∧ Hid (Mod [b, bt] w wr)) (fun i _ => os.length - (intOf i).toNat)
  case atStart => exact ⟨0, by omega, rfl, HB, HT, Lib.hid (Mod.refl _ _)⟩
  case round =>
    obtain ⟨k, hk, rfl, HB1, HT1, HM⟩ := hrel
    by_cases hlt : k < os.length
    · obtain ⟨ad, rfl, hc, hn1, hn2⟩ := HA.out k hlt
      have hcw : wr.cell? (ad.add k) = some (.pointer (some ⟨bt, os.getD k 0, none⟩)) := by
        rw [World.cell?_of_block (w := w) (HM.out.block _ (World.block_lt_of_cell? _ _ hc) (by simp; exact ⟨hn1, hn2⟩))]; exact hc
      have hG1 : Hid (Glob wr) := Lib.hid (hG.mod HM.out (by simp; omega))
      have hlk := nums_le k r
      have hmem : os.getD k 0 ∈ os := by simp [List.getD_eq_getElem?_getD, List.getElem?_eq_getElem hlt]
      have htk : os.take (k + 1) = os.take k ++ [os.getD k 0] := by
        rw [List.take_add_one]; simp [List.getD_eq_getElem?_getD, List.getElem?_eq_getElem hlt]
      obtain ⟨o, ho⟩ : ∃ o, o = os.getD k 0 := ⟨_, rfl⟩
      rw [← ho] at hcw hmem htk
      have HTK := Lib.hid htk
      obtain ⟨m, hm⟩ := fill_int (os.take k) cs (nums k r).1 o (HO.out o hmem)
      have HMI := Lib.hid hm
      clear hc ho htk hm
      go_wp2_with fail
      refine (number_calls b (nums k r).2 wr hG1.out (by omega) h6 HB1.out).mono ?_
      rintro e w1 ⟨rfl, hb1, hm1⟩
      have HB2 := Lib.hid hb1
      have HT2 := Lib.hid (blk_mod HT1.out hm1 (by simp; omega))
      have hc1 : w1.cell? ⟨bt, o, none⟩ = some (.int .i64 m) := (blk_cell HT2.out o).trans HMI.out
      have hf1 := blk_free HT2.out o
      have HM2 := Lib.hid hm1
      clear hb1 hm1
      go_wp2
      go_roundw
      case rel =>
        refine ⟨k + 1, by omega, by go_num, ?_, ?_, ?_⟩
        · refine Lib.hid ?_
          rw [blk_far HB2.out (by simpa using hne) _, nums_snoc]
        · refine Lib.hid ?_
          rw [blk_set HT2.out o _, HTK.out, nums_snoc, fill_snoc _ _ _ _ _ (by rw [nums_length]; simp; omega)]
        · exact Lib.hid ((HM.out.then HM2.out (by simp)).setIn (by simp) _)
      case measure => simp [intOf]; omega
    · have he : k = os.length := by omega
      subst he
      go_wp2
      go_end0
      exact ⟨rfl, HB1.out, by rw [HT1.out, List.take_length], HM.out⟩

end Go.Proofs.YthkheemjgcbofaaDoor

namespace Go.Proofs.YthkheemjgcbofaaDoor
set_option linter.unusedVariables false
set_option linter.unusedSimpArgs false
open Go.RowKit

/-- The slice at A holds pointers to the places os of the block bt; it lies in a block from base on. -/
def IsPtrs (base bt : Nat) (os : List Nat) (A : Option Addr) (w : World) : Prop :=
  ∀ i, i < os.length → ∃ ad, A = some ad ∧ w.cell? (ad.add i) = some (.pointer (some ⟨bt, os.getD i 0, none⟩)) ∧ base ≤ (ad.add i).block
theorem IsPtrs.far {base bt : Nat} {os : List Nat} {A : Option Addr} {w : World} (h : IsPtrs base bt os A w) {b b' : Nat} (hb : b < base) (hb' : b' < base) :
    ∀ i, i < os.length → ∃ ad, A = some ad ∧ w.cell? (ad.add i) = some (.pointer (some ⟨bt, os.getD i 0, none⟩)) ∧ (ad.add i).block ≠ b ∧ (ad.add i).block ≠ b' := by
  intro i hi
  obtain ⟨ad, h1, h2, h3⟩ := h i hi
  exact ⟨ad, h1, h2, by omega, by omega⟩
theorem add_blk (g j : Nat) : (⟨g, 0, none⟩ : Addr).add j = ⟨g, j, none⟩ := by unfold Addr.add; split <;> simp_all

/-- The places of an event's numbers. -/
def fieldsOf (k : Int) : List Nat := if k = 1 ∨ k = 2 then [1] else if k = 5 then [10] else []

set_option maxHeartbeats 400000 in
theorem fields_calls (b : Nat) (k : Int) (w : World) (hc : w.cell? ⟨b, 0, none⟩ = some (.int .i64 k)) :
    Calls Tryd.prog 51 #[.pointer (some ⟨b, 0, none⟩)] w fun e w' => ∃ A c, e = .returned (.slice A (fieldsOf k).length c) ∧ IsPtrs w.heap.size b (fieldsOf k) A w' ∧ Below w.heap.size w w' := by
  by_cases h1 : k = 1
  · subst h1
    go_enter Tryd.func51, Tryd.ntmps51
    go_wp2
    go_ret
    refine ⟨some ⟨w.heap.size, 0, none⟩, 1, by rfl, ?_, by repeat (first | exact Below.refl _ _ | exact Below.alloc (Below.refl _ _) (Nat.le_refl _) _)⟩
    intro i hi
    obtain rfl : i = 0 := by simp [fieldsOf] at hi; exact hi
    exact ⟨_, rfl, (blk_cell (blk_new w _) 0).trans rfl, Nat.le_refl _⟩
  · by_cases h2 : k = 2
    · subst h2
      go_enter Tryd.func51, Tryd.ntmps51
      go_wp2
      go_ret
      refine ⟨some ⟨w.heap.size, 0, none⟩, 1, by rfl, ?_, by repeat (first | exact Below.refl _ _ | exact Below.alloc (Below.refl _ _) (Nat.le_refl _) _)⟩
      intro i hi
      obtain rfl : i = 0 := by simp [fieldsOf] at hi; exact hi
      exact ⟨_, rfl, (blk_cell (blk_new w _) 0).trans rfl, Nat.le_refl _⟩
    · by_cases h5 : k = 5
      · subst h5
        go_enter Tryd.func51, Tryd.ntmps51
        go_wp2
        go_ret
        refine ⟨some ⟨w.heap.size, 0, none⟩, 1, by rfl, ?_, by repeat (first | exact Below.refl _ _ | exact Below.alloc (Below.refl _ _) (Nat.le_refl _) _)⟩
        intro i hi
        obtain rfl : i = 0 := by simp [fieldsOf] at hi; exact hi
        exact ⟨_, rfl, (blk_cell (blk_new w _) 0).trans rfl, Nat.le_refl _⟩
      · have hf : fieldsOf k = [] := by simp [fieldsOf, h1, h2, h5]
        have b1 : (k == 1) = false := by simpa using h1
        have b2 : (k == 2) = false := by simpa using h2
        have b5 : (k == 5) = false := by simpa using h5
        rw [hf]
        clear h1 h2 h5 hf
        go_enter Tryd.func51, Tryd.ntmps51
        go_wp2
        go_ret
        exact ⟨none, 0, by rfl, fun i hi => by simp at hi, Below.refl _ _⟩

set_option maxHeartbeats 400000 in
theorem box_calls (b o : Nat) (w : World) :
    Calls Tryd.prog 57 #[.pointer (some ⟨b, o, none⟩)] w fun e w' => ∃ A, e = .returned (.slice A 4 4) ∧ IsPtrs w.heap.size b [o, o + 1, o + 2, o + 3] A w' ∧ Below w.heap.size w w' := by
  go_enter Tryd.func57, Tryd.ntmps57
  go_wp2
  go_region
  go_wp2
  go_ret
  refine ⟨some ⟨w.heap.size, 0, none⟩, by rfl, ?_, ((Below.refl _ _).alloc (Nat.le_refl _) _).drew⟩
  intro i hi
  refine ⟨_, rfl, ?_, by rw [add_blk]; exact Nat.le_refl _⟩
  rw [add_blk, blk_cell (blk_drew (blk_new w _)) i]
  match i, hi with
  | 0, _ => rfl
  | 1, _ => rfl
  | 2, _ => rfl
  | 3, _ => rfl
end Go.Proofs.YthkheemjgcbofaaDoor

namespace Go.Proofs.YthkheemjgcbofaaDoor
set_option linter.unusedVariables false
set_option linter.unusedSimpArgs false
open Go.RowKit Go.Proofs.YthkheemjgcbofaaDoor.PSc

def vals43 (x : S43) : Array Value := #[.int .i64 x.f0, .bool x.f1, .int .u32 x.f2, .int .i64 x.f3.f0, .int .i64 x.f3.f1, .int .i64 x.f3.f2, .int .i64 x.f3.f3, .int .i64 x.f4]
def spokenF (x : S43) : S43 :=
  if x.f0 = 1 then ⟨x.f0, x.f1, 0, z41, 0⟩ else if x.f0 = 2 then ⟨x.f0, false, x.f2, x.f3, x.f4⟩ else if x.f0 = 3 then ⟨x.f0, false, x.f2, z41, 0⟩ else if x.f0 = 4 then ⟨x.f0, false, 0, x.f3, 0⟩ else ⟨x.f0, false, 0, z41, 0⟩

set_option maxHeartbeats 1000000 in
theorem spoken_one (a0 : Int) (a1 : Bool) (a2 a3 a4 a5 a6 a7 : Int) (w : World) (h : a0 = 1) :
    Calls Tryd.prog 54 #[.agg #[.int .i64 a0, .bool a1, .int .u32 a2, .int .i64 a3, .int .i64 a4, .int .i64 a5, .int .i64 a6, .int .i64 a7]] w fun e w' => e = .returned (.agg #[.int .i64 a0, .bool a1, .int .u32 0, .int .i64 0, .int .i64 0, .int .i64 0, .int .i64 0, .int .i64 0]) ∧ Below w.heap.size w w' := by
  subst h
  have hu43 := Tryd.underlying43
  have hu41 := Tryd.underlying41
  go_enter Tryd.func54, Tryd.ntmps54
  go_wp2
  refine bodyPost_ret (v := .agg #[.int .i64 1, .bool a1, .int .u32 0, .int .i64 0, .int .i64 0, .int .i64 0, .int .i64 0, .int .i64 0]) (by simp [results, Tryd.results54, go_sem]) rfl ⟨rfl, ?_⟩
  repeat (first | exact Below.refl _ _ | refine Below.drew ?_ | refine Below.alloc ?_ (by simp; try omega) _)

set_option maxHeartbeats 1000000 in
theorem spoken_two (a0 : Int) (a1 : Bool) (a2 a3 a4 a5 a6 a7 : Int) (w : World) (h : a0 = 2) :
    Calls Tryd.prog 54 #[.agg #[.int .i64 a0, .bool a1, .int .u32 a2, .int .i64 a3, .int .i64 a4, .int .i64 a5, .int .i64 a6, .int .i64 a7]] w fun e w' => e = .returned (.agg #[.int .i64 a0, .bool false, .int .u32 a2, .int .i64 a3, .int .i64 a4, .int .i64 a5, .int .i64 a6, .int .i64 a7]) ∧ Below w.heap.size w w' := by
  subst h
  have hu43 := Tryd.underlying43
  have hu41 := Tryd.underlying41
  go_enter Tryd.func54, Tryd.ntmps54
  go_wp2
  go_region
  go_wp2
  refine bodyPost_ret (v := .agg #[.int .i64 2, .bool false, .int .u32 a2, .int .i64 a3, .int .i64 a4, .int .i64 a5, .int .i64 a6, .int .i64 a7]) (by simp [results, Tryd.results54, go_sem]) rfl ⟨rfl, ?_⟩
  repeat (first | exact Below.refl _ _ | refine Below.drew ?_ | refine Below.alloc ?_ (by simp; try omega) _)

set_option maxHeartbeats 1000000 in
theorem spoken_three (a0 : Int) (a1 : Bool) (a2 a3 a4 a5 a6 a7 : Int) (w : World) (h : a0 = 3) :
    Calls Tryd.prog 54 #[.agg #[.int .i64 a0, .bool a1, .int .u32 a2, .int .i64 a3, .int .i64 a4, .int .i64 a5, .int .i64 a6, .int .i64 a7]] w fun e w' => e = .returned (.agg #[.int .i64 a0, .bool false, .int .u32 a2, .int .i64 0, .int .i64 0, .int .i64 0, .int .i64 0, .int .i64 0]) ∧ Below w.heap.size w w' := by
  subst h
  have hu43 := Tryd.underlying43
  have hu41 := Tryd.underlying41
  go_enter Tryd.func54, Tryd.ntmps54
  go_wp2
  refine bodyPost_ret (v := .agg #[.int .i64 3, .bool false, .int .u32 a2, .int .i64 0, .int .i64 0, .int .i64 0, .int .i64 0, .int .i64 0]) (by simp [results, Tryd.results54, go_sem]) rfl ⟨rfl, ?_⟩
  repeat (first | exact Below.refl _ _ | refine Below.drew ?_ | refine Below.alloc ?_ (by simp; try omega) _)

set_option maxHeartbeats 1000000 in
theorem spoken_four (a0 : Int) (a1 : Bool) (a2 a3 a4 a5 a6 a7 : Int) (w : World) (h : a0 = 4) :
    Calls Tryd.prog 54 #[.agg #[.int .i64 a0, .bool a1, .int .u32 a2, .int .i64 a3, .int .i64 a4, .int .i64 a5, .int .i64 a6, .int .i64 a7]] w fun e w' => e = .returned (.agg #[.int .i64 a0, .bool false, .int .u32 0, .int .i64 a3, .int .i64 a4, .int .i64 a5, .int .i64 a6, .int .i64 0]) ∧ Below w.heap.size w w' := by
  subst h
  have hu43 := Tryd.underlying43
  have hu41 := Tryd.underlying41
  go_enter Tryd.func54, Tryd.ntmps54
  go_wp2
  refine bodyPost_ret (v := .agg #[.int .i64 4, .bool false, .int .u32 0, .int .i64 a3, .int .i64 a4, .int .i64 a5, .int .i64 a6, .int .i64 0]) (by simp [results, Tryd.results54, go_sem]) rfl ⟨rfl, ?_⟩
  repeat (first | exact Below.refl _ _ | refine Below.drew ?_ | refine Below.alloc ?_ (by simp; try omega) _)

set_option maxHeartbeats 1000000 in
theorem spoken_else (a0 : Int) (a1 : Bool) (a2 a3 a4 a5 a6 a7 : Int) (w : World) (h1 : (a0 == 1) = false) (h2 : (a0 == 2) = false) (h3 : (a0 == 3) = false) (h4 : (a0 == 4) = false) :
    Calls Tryd.prog 54 #[.agg #[.int .i64 a0, .bool a1, .int .u32 a2, .int .i64 a3, .int .i64 a4, .int .i64 a5, .int .i64 a6, .int .i64 a7]] w fun e w' => e = .returned (.agg #[.int .i64 a0, .bool false, .int .u32 0, .int .i64 0, .int .i64 0, .int .i64 0, .int .i64 0, .int .i64 0]) ∧ Below w.heap.size w w' := by
  have hu43 := Tryd.underlying43
  have hu41 := Tryd.underlying41
  go_enter Tryd.func54, Tryd.ntmps54
  go_wp2
  refine bodyPost_ret (v := .agg #[.int .i64 a0, .bool false, .int .u32 0, .int .i64 0, .int .i64 0, .int .i64 0, .int .i64 0, .int .i64 0]) (by simp [results, Tryd.results54, go_sem]) rfl ⟨rfl, ?_⟩
  repeat (first | exact Below.refl _ _ | refine Below.drew ?_ | refine Below.alloc ?_ (by simp; try omega) _)

theorem spoken_calls (x : S43) (w : World) : Calls Tryd.prog 54 #[.agg (vals43 x)] w fun e w' => e = .returned (.agg (vals43 (spokenF x))) ∧ Below w.heap.size w w' := by
  obtain ⟨a0, a1, a2, ⟨a3, a4, a5, a6⟩, a7⟩ := x
  unfold spokenF
  by_cases h1 : a0 = 1
  · simpa [h1, vals43, z41] using spoken_one a0 a1 a2 a3 a4 a5 a6 a7 w h1
  · by_cases h2 : a0 = 2
    · simpa [h2, vals43, z41] using spoken_two a0 a1 a2 a3 a4 a5 a6 a7 w h2
    · by_cases h3 : a0 = 3
      · simpa [h3, vals43, z41] using spoken_three a0 a1 a2 a3 a4 a5 a6 a7 w h3
      · by_cases h4 : a0 = 4
        · simpa [h4, vals43, z41] using spoken_four a0 a1 a2 a3 a4 a5 a6 a7 w h4
        · have h := spoken_else a0 a1 a2 a3 a4 a5 a6 a7 w (by simpa using h1) (by simpa using h2) (by simpa using h3) (by simpa using h4)
          simpa [h1, h2, h3, h4, vals43, z41] using h

/-- An event's cells, its Keep at hand. -/
def vals46 (x : S46) (v : Value) : Array Value := #[.int .i64 x.f0, .int .i64 x.f1, .int .i64 x.f2.f0, .bool x.f2.f1, .int .u32 x.f2.f2, .int .i64 x.f2.f3.f0, .int .i64 x.f2.f3.f1, .int .i64 x.f2.f3.f2, .int .i64 x.f2.f3.f3, .int .i64 x.f2.f4, .int .i64 x.f3, v]
end Go.Proofs.YthkheemjgcbofaaDoor

namespace Go.Proofs.YthkheemjgcbofaaDoor
set_option linter.unusedVariables false
set_option linter.unusedSimpArgs false
open Go.RowKit Go.Proofs.YthkheemjgcbofaaDoor.PSc Go.Proofs.YthkheemjgcbofaaDoorW.PrintWords Go.Proofs.YthkheemjgcbofaaDoorW.PrintLast Go.Proofs.YthkheemjgcbofaaDoorW.PrintMore
attribute [local go_sem high] eqA43

theorem equal_l0 (l m : List Bool) (hl : l.length ≤ 9223372036854775807) (hm : l.length = m.length) (d : Nat) : ∀ (k i : Nat), i + d = l.length → d < k → slices_Equal_bool_bool.l0 k l m (l.length : Int) (i : Int) = some (l.drop i == m.drop i) := by
  induction d with
  | zero =>
    intro k i hi hk
    obtain ⟨k, rfl⟩ : ∃ j, k = j + 1 := ⟨k - 1, by omega⟩
    have h1 : l.drop i = [] := List.drop_eq_nil_of_le (by omega)
    have h2 : m.drop i = [] := List.drop_eq_nil_of_le (by omega)
    simp only [slices_Equal_bool_bool.l0]
    rw [if_neg (by omega), h1, h2]; rfl
  | succ d ih =>
    intro k i hi hk
    obtain ⟨k, rfl⟩ : ∃ j, k = j + 1 := ⟨k - 1, by omega⟩
    have hw : wrap64 ((i : Int) + 1) = ((i + 1 : Nat) : Int) := by unfold wrap64; omega
    have e1 : l.drop i = l[i] :: l.drop (i + 1) := List.drop_eq_getElem_cons (by omega)
    have e2 : m.drop i = m[i] :: m.drop (i + 1) := List.drop_eq_getElem_cons (by omega)
    have r1 : rdOf false l (i : Int) = l[i] := by simp [rdOf, List.getD_eq_getElem?_getD, List.getElem?_eq_getElem (show i < l.length by omega)]
    have r2 : rdOf false m (i : Int) = m[i] := by simp [rdOf, List.getD_eq_getElem?_getD, List.getElem?_eq_getElem (show i < m.length by omega)]
    simp only [slices_Equal_bool_bool.l0]
    rw [if_pos (by omega), if_pos (by omega), if_pos (by omega), if_pos (by omega), r1, r2, hw, e1, e2]
    by_cases h : l[i] = m[i]
    · rw [if_neg (by simp [h]), ih k (i + 1) (by omega) (by omega), h]
      simp only [List.cons_beq_cons, beq_self_eq_true, Bool.true_and]
    · have h' : (l[i] == m[i]) = false := by simpa using h
      rw [if_pos (by simpa using h)]
      simp only [List.cons_beq_cons, h', Bool.false_and]
theorem equal_f (l m : List Bool) (hl : l.length ≤ 9223372036854775807) : ∃ k, slices_Equal_bool_bool.f k l m = some (l == m) := by
  by_cases h : l.length = m.length
  · refine ⟨l.length + 1, ?_⟩
    unfold slices_Equal_bool_bool.f
    rw [if_pos (by omega)]
    have := equal_l0 l m hl h l.length (l.length + 1) 0 (by omega) (by omega)
    simpa using this
  · refine ⟨0, ?_⟩
    unfold slices_Equal_bool_bool.f
    rw [if_neg (by omega)]
    have : l ≠ m := fun e => h (by rw [e])
    simp [this]
theorem equal_calls (A0 : Option Addr) (c0 : Nat) (l0 : List Bool) (A1 : Option Addr) (c1 : Nat) (l1 : List Bool) (w : World) (hr0 : Kd.C Kd.bool w A0 l0.length l0) (hc0 : l0.length ≤ c0) (hr1 : Kd.C Kd.bool w A1 l1.length l1) (hc1 : l1.length ≤ c1) :
    Calls Tryd.prog 47 #[.slice A0 l0.length c0, .slice A1 l1.length c1] w fun e w' => e = .returned (.bool (l0 == l1)) ∧ Below w.heap.size w w' := by
  obtain ⟨k, h⟩ := equal_f l0 l1 hr0.2.1
  exact (slices_Equal_bool_bool.calls k A0 c0 l0 A1 c1 l1 _ w hr0 hc0 hr1 hc1 h).mono fun e w' ⟨h1, h2⟩ => ⟨h1, h2.below⟩

def eq43 (x y : S43) : Bool := x.f0 == y.f0 && (x.f1 == y.f1 && (x.f2 == y.f2 && ((x.f3.f0 == y.f3.f0 && (x.f3.f1 == y.f3.f1 && (x.f3.f2 == y.f3.f2 && (x.f3.f3 == y.f3.f3)))) && (x.f4 == y.f4))))
def eq46 (x y : S46) : Bool := if x.f0 == y.f0 then if x.f1 == y.f1 then if x.f3 == y.f3 then if eq43 x.f2 y.f2 then x.f4 == y.f4 else false else false else false else false

set_option maxHeartbeats 2000000 in
theorem same_calls (x y : S46) (A0 : Option Addr) (c0 : Nat) (A1 : Option Addr) (c1 : Nat) (w : World) (hr0 : Kd.C Kd.bool w A0 x.f4.length x.f4) (hc0 : x.f4.length ≤ c0) (hr1 : Kd.C Kd.bool w A1 y.f4.length y.f4) (hc1 : y.f4.length ≤ c1) :
    Calls Tryd.prog 22 #[.agg (vals46 x (.slice A0 x.f4.length c0)), .agg (vals46 y (.slice A1 y.f4.length c1))] w fun e w' => e = .returned (.bool (eq46 x y)) ∧ Below w.heap.size w w' := by
  have HE : ∀ w1, Below w.heap.size w w1 → Hid (Calls Tryd.prog 47 #[.slice A0 x.f4.length c0, .slice A1 y.f4.length c1] w1 fun e w' => e = .returned (.bool (x.f4 == y.f4)) ∧ Below w1.heap.size w1 w') :=
    fun w1 hb => Lib.hid (equal_calls A0 c0 _ A1 c1 _ w1 (Kd.C_below hr0 hb) hc0 (Kd.C_below hr1 hb) hc1)
  have HE := Lib.hid HE
  clear hr0 hr1
  obtain ⟨x0, x1, ⟨x2, x3, x4, ⟨x5, x6, x7, x8⟩, x9⟩, x10, x11⟩ := x
  obtain ⟨y0, y1, ⟨y2, y3, y4, ⟨y5, y6, y7, y8⟩, y9⟩, y10, y11⟩ := y
  simp only [vals46] at *
  unfold eq46 eq43
  simp only []
  have hu46 := Tryd.underlying46
  have hu43 := Tryd.underlying43
  by_cases h0 : (x0 == y0) = true
  · by_cases h1 : (x1 == y1) = true
    · by_cases h2 : (x10 == y10) = true
      · by_cases h3 : (x2 == y2 && (x3 == y3 && (x4 == y4 && ((x5 == y5 && (x6 == y6 && (x7 == y7 && (x8 == y8)))) && (x9 == y9))))) = true
        · rw [if_pos h0, if_pos h1, if_pos h2, if_pos h3]
          go_enter Tryd.func22, Tryd.ntmps22
          go_wp2_with fail
          refine (HE.out _ ?_).out.mono ?_
          · (repeat (first | exact Below.refl _ _ | refine Below.drew ?_ | refine Below.alloc ?_ (by simp; try omega) _))
          rintro e w2 ⟨rfl, hb2⟩
          go_wp2
          go_ret
          refine ⟨rfl, Below.trans ?_ (hb2.mono (by simp; omega))⟩
          (repeat (first | exact Below.refl _ _ | refine Below.drew ?_ | refine Below.alloc ?_ (by simp; try omega) _))
        · rw [if_pos h0, if_pos h1, if_pos h2, if_neg h3]
          have h3' : (x2 == y2 && (x3 == y3 && (x4 == y4 && ((x5 == y5 && (x6 == y6 && (x7 == y7 && (x8 == y8)))) && (x9 == y9))))) = false := by simpa using h3
          clear h3
          go_enter Tryd.func22, Tryd.ntmps22
          go_wp2_with fail
          go_ret
          refine ⟨rfl, ?_⟩
          (repeat (first | exact Below.refl _ _ | refine Below.drew ?_ | refine Below.alloc ?_ (by simp; try omega) _))
      · rw [if_pos h0, if_pos h1, if_neg h2]
        have h2' : (x10 == y10) = false := by simpa using h2
        clear h2
        go_enter Tryd.func22, Tryd.ntmps22
        go_wp2_with fail
        go_ret
        refine ⟨rfl, ?_⟩
        (repeat (first | exact Below.refl _ _ | refine Below.drew ?_ | refine Below.alloc ?_ (by simp; try omega) _))
    · rw [if_pos h0, if_neg h1]
      have h1' : (x1 == y1) = false := by simpa using h1
      clear h1
      go_enter Tryd.func22, Tryd.ntmps22
      go_wp2_with fail
      go_ret
      refine ⟨rfl, ?_⟩
      (repeat (first | exact Below.refl _ _ | refine Below.drew ?_ | refine Below.alloc ?_ (by simp; try omega) _))
  · rw [if_neg h0]
    have h0' : (x0 == y0) = false := by simpa using h0
    clear h0
    go_enter Tryd.func22, Tryd.ntmps22
    go_wp2_with fail
    go_ret
    refine ⟨rfl, ?_⟩
    (repeat (first | exact Below.refl _ _ | refine Below.drew ?_ | refine Below.alloc ?_ (by simp; try omega) _))
end Go.Proofs.YthkheemjgcbofaaDoor
