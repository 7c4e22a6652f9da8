/-
  The writer: a builder that is the first part of a block of type 71. Own contracts.
  The writer's numbers and keys.
  The writer's keys.
  The writer's operation.
-/
import Derived.Test.YthkheemjgcbofaaDoorGG
import Derived.Lib.FrozenHead2
import Derived.Lib.OthersKept
import Derived.Shelf.Strings.BuilderX
import Derived.Lib.UnsafeStr
import Derived.Lib.ItoaLen

namespace Go.Proofs.YthkheemjgcbofaaDoor
set_option linter.unusedVariables false
set_option linter.unusedSimpArgs false
open Go.RowKit

/-- Block b is a writer that holds the bytes l; its buffer is one of its own, from b on. -/
def Wr (b : Nat) (l : By) (w : World) : Prop := Lib.IsBuilderF 71 5 b b (Lib.byteCells l) w
/-- What a writer's call leaves alone: what lies below b; what is neither b nor a row of bytes. -/
structure Wm (b : Nat) (w w' : World) : Prop where
  below : Below b w w'
  kept : Lib.OthersKept 5 (some b) w w'

theorem Wm.refl (b : Nat) (w : World) : Wm b w w := ⟨Below.refl _ _, Lib.OthersKept.refl _ _ _⟩
theorem Wm.trans {b : Nat} {u v w : World} (h : Wm b u v) (k : Wm b v w) : Wm b u w := ⟨h.below.trans k.below, h.kept.trans k.kept⟩
theorem Wm.drew {b : Nat} {u v : World} (h : Wm b u v) : Wm b u v.drew := ⟨h.below.drew, h.kept.drew⟩
theorem Wm.drewN {b : Nat} {u v : World} (h : Wm b u v) (n : Nat) : Wm b u (v.drewN n) := ⟨⟨h.below.os, h.below.tape, h.below.output, h.below.size, h.below.block⟩, fun k o hk hb ho => h.kept k o hk hb ho⟩
theorem Wm.new {b : Nat} {u v w : World} (h : Wm b u v) (k : Below v.heap.size v w) (hb : b ≤ v.heap.size) : Wm b u w :=
  ⟨h.below.trans ⟨k.os, k.tape, k.output, k.size, fun i hi => k.block i (by omega)⟩, fun i o hi hib ho => blk_below (h.kept i o hi hib ho) k⟩
theorem Wm.alloc {b : Nat} {u v : World} (h : Wm b u v) (hb : b ≤ v.heap.size) (o : Obj) : Wm b u (v.alloc o) := h.new (Below.alloc (Below.refl _ _) (Nat.le_refl _) o) hb
/-- What was known whole and is no row of bytes. -/
theorem Wm.blk {b k : Nat} {u v : World} (h : Wm b u v) {cs : Array Value} {T : TypeId} {fr : Nat × Nat} (hk : u.heap[k]? = some (.cells cs T fr)) (hkb : k ≠ b) (hT : T ≠ 5) : v.heap[k]? = some (.cells cs T fr) :=
  h.kept k _ hk (fun e => hkb (Option.some.inj e)) (fun c fz e => by injection e with _ e2 _; exact hT e2)
theorem Wm.blkLt {b k : Nat} {u v : World} (h : Wm b u v) {o : Obj} (hk : u.heap[k]? = some o) (hkb : k < b) : v.heap[k]? = some o := (h.below.block k hkb).trans hk
theorem Wm.size {b : Nat} {u v : World} (h : Wm b u v) : u.heap.size ≤ v.heap.size := h.below.size

theorem Wr.lt {b : Nat} {l : By} {w : World} (h : Wr b l w) : b < w.heap.size := by
  rcases h with h | h <;> exact h.lt
/-- A writer stays one where only new blocks come. -/
theorem Wr.new {b : Nat} {l : By} {w w' : World} (h : Wr b l w) (k : Below w.heap.size w w') : Wr b l w' := by
  have aux : ∀ p, Lib.BuilderAtF 71 5 b b p (Lib.byteCells l) w → Lib.BuilderAtF 71 5 b b p (Lib.byteCells l) w' := by
    rintro p ⟨hB, v, hb, hown, hne⟩
    refine ⟨hB, v, blk_below hb k, ⟨hown.1, ?_⟩, hne⟩
    rcases hown.2 with hn | ⟨g, cap, cur, fz, hv, hbg, hg, rest⟩
    · exact .inl hn
    · exact .inr ⟨g, cap, cur, fz, hv, hbg, blk_below hg k, rest⟩
  exact h.elim (fun h => .inl (aux _ h)) (fun h => .inr (aux _ h))
theorem Wr.drew {b : Nat} {l : By} {w : World} (h : Wr b l w) : Wr b l w.drew := h
theorem Wr.drewN {b : Nat} {l : By} {w : World} (h : Wr b l w) (n : Nat) : Wr b l (w.drewN n) := h
theorem Wr.fresh {b : Nat} {w : World} (h : w.heap[b]? = some (.cells #[.pointer none, .slice none 0 0] 71 (0, 0))) : Wr b [] w :=
  .inl ⟨Nat.le_refl _, _, h, ⟨rfl, .inl ⟨rfl, rfl⟩⟩, by simp [Value.ownBlock]⟩

set_option maxHeartbeats 1000000 in
set_option maxRecDepth 100000 in
theorem copyCheck_used (b : Nat) (w : World) (h0 : w.cell? ⟨b, 0, none⟩ = some (.pointer (some ⟨b, 0, none⟩))) :
    Calls Tryd.prog 48 #[.pointer (some ⟨b, 0, none⟩)] w fun e w' => e = .returned (.tuple #[]) ∧ w' = w := by
  obtain ⟨j, hj, _⟩ := Option.map_eq_some_iff.1 (show (Tryd.prog.info? 69).map (·.size) = some 2 by kernel_rfl)
  go_enter Tryd.func48, Tryd.ntmps48
  go_wp2
  rw [Lib.run_neq_ptr_same w _ Tryd.underlying66 hj]
  go_wp2
  go_end0
  exact ⟨rfl, rfl⟩

set_option maxHeartbeats 1000000 in
set_option maxRecDepth 100000 in
theorem copyCheck_fresh (b : Nat) (w : World) (h0 : w.cell? ⟨b, 0, none⟩ = some (.pointer none)) (hsh : w.shape? b = some (71, 2)) (hfz : w.frozen? ⟨b, 0, none⟩ = false) :
    Calls Tryd.prog 48 #[.pointer (some ⟨b, 0, none⟩)] w fun e w' => e = .returned (.tuple #[]) ∧ w' = w.setCell ⟨b, 0, none⟩ (.pointer (some ⟨b, 0, none⟩)) := by
  obtain ⟨j, hj, hjs⟩ := Option.map_eq_some_iff.1 (show (Tryd.prog.info? 69).map (·.size) = some 2 by kernel_rfl)
  have lies : liesAt Tryd.prog Tryd.prog.depth 71 (2 / Tryd.prog.cellsOf 71) 0 69 1 = true := by kernel_rfl
  go_enter Tryd.func48, Tryd.ntmps48
  go_wp2
  rw [Lib.run_to_unsafe w ⟨b, 0, none⟩ Tryd.underlying66 Tryd.underlying125 hj (by rw [hjs]; decide) hsh (Nat.zero_lt_succ 1)]
  simp only [Result.andThen]
  rw [Oper.upon_value]
  go_wp2
  rw [run_callFunc_extern Tryd.func63 (by kernel_rfl) (by kernel_rfl) (by kernel_rfl) (e := Extern.AbiNoEscape.same) (by kernel_rfl)]
  rw [Lib.run_noEscape]
  simp only [Result.andThen]
  rw [Oper.upon_value]
  go_wp2
  rw [Lib.run_from_unsafe w ⟨b, 0, none⟩ Tryd.underlying125 Tryd.underlying66 hj hsh lies]
  simp only [Result.andThen]
  rw [Oper.upon_value]
  go_wp2
  go_end0
  exact ⟨rfl, rfl⟩

theorem copyCheck_calls (b : Nat) (l : By) (w : World) (h : Wr b l w) :
    Calls Tryd.prog 48 #[.pointer (some ⟨b, 0, none⟩)] w fun e w' => e = .returned (.tuple #[]) ∧ Lib.BuilderAtF 71 5 b b (.pointer (some ⟨b, 0, none⟩)) (Lib.byteCells l) w' ∧ Wm b w w' := by
  rcases h with h | h
  · refine (copyCheck_fresh b w h.cell0 h.shape h.frozen0).mono ?_
    rintro e w' ⟨rfl, rfl⟩
    exact ⟨rfl, h.used _, (Below.refl b w).setCell (p := ⟨b, 0, none⟩) h.1 _, (Lib.OthersKept.refl _ _ w).setCell ⟨b, 0, none⟩ rfl _⟩
  · refine (copyCheck_used b w h.cell0).mono ?_
    rintro e w' ⟨rfl, rfl⟩
    exact ⟨rfl, h, Wm.refl _ _⟩

set_option maxHeartbeats 2000000 in
set_option maxRecDepth 100000 in
theorem writeByte_calls (b : Nat) (l : By) (c : UInt8) (w : World) (h : Wr b l w) (hlen : l.length + 1 ≤ 140737488355328) :
    Calls Tryd.prog 26 #[.pointer (some ⟨b, 0, none⟩), .int .u8 c.toNat] w fun e w' => e = .returned .nilIface ∧ Wr b (l ++ [c]) w' ∧ Wm b w w' := by
  obtain ⟨i0, hi, hz0, hz1, hz2⟩ := info_parts (show (Tryd.prog.info? 5).map (fun i => (i.zero, i.size, i.bytes)) = some (some (.int .u8 0), 1, 1) by kernel_rfl)
  have hlt0 := h.lt
  go_enter Tryd.func26, Tryd.ntmps26
  go_wp2_with (go_at_call 48; refine (copyCheck_calls b l _ h).mono ?_)
  rintro e w1 ⟨rfl, h1, hb1⟩
  obtain ⟨hB, v, hbk, hown, hne⟩ := h1
  rw [Lib.byteCells_length] at hown
  have c0 : w1.cell? ⟨b, 0, none⟩ = some (.pointer (some ⟨b, 0, none⟩)) := by rw [Lib.cell_of_heap hbk]; rfl
  have c1 : w1.cell? ⟨b, 1, none⟩ = some v := by rw [Lib.cell_of_heap hbk]; rfl
  have hlt := blk_lt hbk
  have hs1 := hb1.size
  go_wp2_with (at_builtin; refine wpList_append_ownF _ rfl _ _ 67 rfl b 5 i0 (.int .u8 0) 1 1 Tryd.underlying67 hi hz0 hz1 hz2 rfl (by decide) _ _ _ rfl (hown.alloc _) ⟨w1.heap.size, 0, none⟩ 1 1 [.int .u8 c.toNat] rfl rfl ?c1 ?c2 ?c3 ?c4 ?c5 ?_)
  case c1 =>
    intro j u hj
    match j, hj with
    | 0, hj => simp at hj; subst hj; simp [Addr.add]
  case c2 => intro u hu; simp at hu; subst hu; rfl
  case c3 => unfold maxLen; omega
  case c4 => omega
  case c5 => simp; omega
  intro v' w2 hown' hgrow _
  have hb2 : w2.heap[b]? = some (.cells #[.pointer (some ⟨b, 0, none⟩), v] 71 (0, 0)) := by
    rw [hgrow.block b (by simp; omega) (fun e => hne e.symm), Lib.alloc_old w1 _ b hlt]
    exact hbk
  have d0 : w2.cell? ⟨b, 0, none⟩ = some (.pointer (some ⟨b, 0, none⟩)) := by rw [Lib.cell_of_heap hb2]; rfl
  have d1 : w2.cell? ⟨b, 1, none⟩ = some v := by rw [Lib.cell_of_heap hb2]; rfl
  have f1 : w2.frozen? ⟨b, 1, none⟩ = false := Lib.frozen_of_heap hb2 1
  obtain ⟨g, cap, rfl⟩ : ∃ g cap, v' = .slice (some ⟨g, 0, none⟩) (l.length + 1) cap := by
    rcases hown'.2 with ⟨_, h0⟩ | ⟨g, cap, cur, fz, hv, _⟩
    · omega
    · exact ⟨g, cap, hv⟩
  go_wp2
  go_ret
  have hbs : Lib.byteCells (l ++ [c]) = Lib.byteCells l ++ [.int .u8 c.toNat] := by simp [Lib.byteCells]
  refine ⟨rfl, .inr ?_, ?_, ((hb1.kept.alloc _).grown hgrow (Lib.ownsRowF_kind (hown.alloc _))).setCell ⟨b, 1, none⟩ rfl _⟩
  · rw [hbs]
    exact Lib.BuilderAtF.put (T := 71) (e := 5) hB hb2 (bs' := Lib.byteCells l ++ [.int .u8 c.toNat]) (by simpa [Lib.byteCells_length] using hown') (by decide)
  · exact ((hb1.below.alloc (by omega) _).grown hgrow (by simp; omega) (fun k hk => (hown.lt k hk).1)).setCell (p := ⟨b, 1, none⟩) hB _

set_option maxHeartbeats 2000000 in
set_option maxRecDepth 100000 in
theorem writeString_raw (b : Nat) (l : By) (S : ByteArray) (w : World) (h : Wr b l w) (hlen : l.length + S.size ≤ 140737488355328) :
    Calls Tryd.prog 24 #[.pointer (some ⟨b, 0, none⟩), .string S] w fun e w' => e = .returned (.tuple #[.int .i64 S.size, .nilIface]) ∧ Lib.IsBuilderF 71 5 b b (Lib.byteCells l ++ Lib.strCells S) w' ∧ Wm b w w' := by
  obtain ⟨i0, hi, hz0, hz1, hz2⟩ := info_parts (show (Tryd.prog.info? 5).map (fun i => (i.zero, i.size, i.bytes)) = some (some (.int .u8 0), 1, 1) by kernel_rfl)
  have hlt0 := h.lt
  go_enter Tryd.func24, Tryd.ntmps24
  go_wp2_with (go_at_call 48; refine (copyCheck_calls b l _ h).mono ?_)
  rintro e w1 ⟨rfl, h1, hb1⟩
  obtain ⟨hB, v, hbk, hown, hne⟩ := h1
  rw [Lib.byteCells_length] at hown
  have c0 : w1.cell? ⟨b, 0, none⟩ = some (.pointer (some ⟨b, 0, none⟩)) := by rw [Lib.cell_of_heap hbk]; rfl
  have c1 : w1.cell? ⟨b, 1, none⟩ = some v := by rw [Lib.cell_of_heap hbk]; rfl
  have hlt := blk_lt hbk
  have hs1 := hb1.size
  go_wp2_with (at_builtin; refine Lib.wpList_append_own_stringF _ rfl _ _ 67 9 rfl b 5 i0 Tryd.underlying67 Tryd.underlying9 hi hz0 hz1 hz2 _ _ _ rfl hown S rfl ?c3 ?c4 ?c5 ?_)
  case c3 => unfold maxLen; omega
  case c4 => omega
  case c5 => omega
  intro v' w2 hown' hgrow _
  have hb2 : w2.heap[b]? = some (.cells #[.pointer (some ⟨b, 0, none⟩), v] 71 (0, 0)) := by
    rw [hgrow.block b hlt (fun e => hne e.symm)]
    exact hbk
  have d0 : w2.cell? ⟨b, 0, none⟩ = some (.pointer (some ⟨b, 0, none⟩)) := by rw [Lib.cell_of_heap hb2]; rfl
  have d1 : w2.cell? ⟨b, 1, none⟩ = some v := by rw [Lib.cell_of_heap hb2]; rfl
  have f1 : w2.frozen? ⟨b, 1, none⟩ = false := Lib.frozen_of_heap hb2 1
  obtain ⟨ao, n', cap, rfl⟩ : ∃ ao n' cap, v' = .slice ao n' cap := by
    rcases hown'.2 with ⟨hv, _⟩ | ⟨g, cap, cur, fz, hv, _⟩
    · exact ⟨_, _, _, hv⟩
    · exact ⟨_, _, _, hv⟩
  go_wp2
  go_ret2
  refine ⟨rfl, .inr ?_, ?_, (hb1.kept.grown hgrow (Lib.ownsRowF_kind hown)).setCell ⟨b, 1, none⟩ rfl _⟩
  · exact Lib.BuilderAtF.put (T := 71) (e := 5) hB hb2 (bs' := Lib.byteCells l ++ Lib.strCells S) (by simpa [Lib.strCells_length, Lib.byteCells_length] using hown') (by decide)
  · exact (hb1.below.grown hgrow (by omega) (fun k hk => (hown.lt k hk).1)).setCell (p := ⟨b, 1, none⟩) hB _

theorem writeString_calls (b : Nat) (l s : By) (w : World) (h : Wr b l w) (hlen : l.length + s.length ≤ 140737488355328) :
    Calls Tryd.prog 24 #[.pointer (some ⟨b, 0, none⟩), .string ⟨s.toArray⟩] w fun e w' => e = .returned (.tuple #[.int .i64 s.length, .nilIface]) ∧ Wr b (l ++ s) w' ∧ Wm b w w' := by
  have hSs : (⟨s.toArray⟩ : ByteArray).size = s.length := by simp [ByteArray.size]
  refine (writeString_raw b l ⟨s.toArray⟩ w h (by omega)).mono ?_
  rintro e w' ⟨rfl, h1, h2⟩
  refine ⟨by rw [hSs], ?_, h2⟩
  have : Lib.byteCells (l ++ s) = Lib.byteCells l ++ Lib.strCells ⟨s.toArray⟩ := by simp [Lib.strCells, Lib.byteCells]
  unfold Wr; rw [this]; exact h1

set_option maxHeartbeats 1000000 in
theorem len_calls (b : Nat) (l : By) (w : World) (h : Wr b l w) :
    Calls Tryd.prog 28 #[.pointer (some ⟨b, 0, none⟩)] w fun e w' => e = .returned (.int .i64 l.length) ∧ w' = w := by
  obtain ⟨p, hB, v, hbk, hown, hne⟩ : ∃ p, Lib.BuilderAtF 71 5 b b p (Lib.byteCells l) w := by
    rcases h with h | h
    · exact ⟨_, h⟩
    · exact ⟨_, h⟩
  rw [Lib.byteCells_length] at hown
  obtain ⟨ao, cap, rfl⟩ : ∃ ao cap, v = .slice ao l.length cap := by
    rcases hown.2 with ⟨hv, h0⟩ | ⟨g, cap, cur, fz, hv, _⟩
    · exact ⟨_, _, by rw [h0]; exact hv⟩
    · exact ⟨_, _, hv⟩
  have c1 : w.cell? ⟨b, 1, none⟩ = some (.slice ao l.length cap) := by rw [Lib.cell_of_heap hbk]; rfl
  go_enter Tryd.func28, Tryd.ntmps28
  go_wp2
  go_ret
  exact ⟨rfl, rfl⟩

set_option maxHeartbeats 1000000 in
set_option maxRecDepth 100000 in
theorem string_calls (b : Nat) (l : By) (w : World) (h : Wr b l w) (h0 : l ≠ []) :
    Calls Tryd.prog 29 #[.pointer (some ⟨b, 0, none⟩)] w fun e w' => e = .returned (.string ⟨l.toArray⟩) ∧ Wm b w w' := by
  obtain ⟨p, hB, v, hbk, hown, hne⟩ : ∃ p, Lib.BuilderAtF 71 5 b b p (Lib.byteCells l) w := by
    rcases h with h | h
    · exact ⟨_, h⟩
    · exact ⟨_, h⟩
  have hl0 : l.length ≠ 0 := by simpa using h0
  rw [Lib.byteCells_length] at hown
  obtain ⟨g, cap, cur, fz, rfl, hbg, hg, hfz, hnc, hcm, hcs, htake⟩ : ∃ g cap cur fz, v = .slice (some ⟨g, 0, none⟩) l.length cap ∧ b ≤ g ∧ w.heap[g]? = some (.cells cur 5 fz) ∧ fz.2 ≤ l.length * 1 ∧ l.length ≤ cap ∧ cap ≤ maxLen ∧ cur.size = cap * 1 ∧ cur.toList.take (l.length * 1) = Lib.byteCells l := by
    rcases hown.2 with ⟨_, hz⟩ | ⟨g, cap, cur, fz, hv, r⟩
    · exact absurd hz hl0
    · exact ⟨g, cap, cur, fz, hv, r⟩
  have c1 : w.drew.cell? ⟨b, 1, none⟩ = some (.slice (some ⟨g, 0, none⟩) l.length cap) := by
    have : w.drew.heap[b]? = some (.cells #[p, .slice (some ⟨g, 0, none⟩) l.length cap] 71 (0, 0)) := hbk
    rw [Lib.cell_of_heap this]; rfl
  have hSD : (Builtin.unsafeSliceData_ #[67] 109 #[.slice (some ⟨g, 0, none⟩) l.length cap]).run Tryd.prog w.drew = .ok (.pointer (some ⟨g, 0, none⟩)) w.drew :=
    Lib.run_unsafeSliceData_row _ _ _ _ _ _ (by omega)
  have hUS : (Builtin.unsafeString_ #[109, 3] 9 #[.pointer (some ⟨g, 0, none⟩), .int .i64 l.length]).run Tryd.prog w.drew = .ok (.string ⟨l.toArray⟩) (w.drew.freeze ⟨g, 0, none⟩ l.length) := by
    refine Lib.run_unsafeString_row w.drew 109 3 9 5 Tryd.underlying109 (by kernel_rfl) g cur.size (by have hg' : w.drew.heap[g]? = some (.cells cur 5 fz) := hg; simp [World.shape?, hg']) l h0 (by omega) (by unfold maxLen at hcm; omega) ?_
    intro j x hx
    have := hown.cells (g := g) rfl j (.int .u8 x.toNat) (by simp [Lib.byteCells, hx])
    exact this
  go_enter Tryd.func29, Tryd.ntmps29
  go_wp2
  go_region
  all_goals (go_wp2; go_ret; exact ⟨rfl, Lib.below_freeze (Below.drew (Below.refl b w)) (p := ⟨g, 0, none⟩) hbg _, ((Lib.OthersKept.refl _ _ w).drew).freeze ⟨g, 0, none⟩ _ ⟨cur, fz, hg⟩⟩)

end Go.Proofs.YthkheemjgcbofaaDoor

namespace Go.Proofs.YthkheemjgcbofaaDoor
set_option linter.unusedVariables false
set_option linter.unusedSimpArgs false
open Go.RowKit

/-- Numbers in digits, a blank ahead of each. -/
def blanked (ns : List Int) : By := ns.flatMap fun n => 32 :: Lib.itoa n
def I64 (n : Int) : Prop := -9223372036854775808 ≤ n ∧ n ≤ 9223372036854775807
theorem blanked_snoc (ns : List Int) (n : Int) : blanked (ns ++ [n]) = blanked ns ++ 32 :: Lib.itoa n := by simp [blanked]
theorem itoa_le {n : Int} (h : I64 n) : (Lib.itoa n).length ≤ 21 := Lib.itoa_length_le n h.1 h.2
theorem blanked_le (ns : List Int) (h : ∀ n, n ∈ ns → I64 n) : (blanked ns).length ≤ 22 * ns.length := by
  induction ns with
  | nil => simp [blanked]
  | cons n ns ih =>
    have h1 := ih (fun m hm => h m (by simp [hm]))
    have h2 := itoa_le (h n (by simp))
    simp only [blanked, List.flatMap_cons, List.length_append, List.length_cons] at h1 ⊢
    omega
theorem writeString_of (b : Nat) (l s : By) (S : ByteArray) (hS : S = ⟨s.toArray⟩) (w : World) (h : Wr b l w) (hlen : l.length + s.length ≤ 140737488355328) :
    Calls Tryd.prog 24 #[.pointer (some ⟨b, 0, none⟩), .string S] w fun e w' => e = .returned (.tuple #[.int .i64 s.length, .nilIface]) ∧ Wr b (l ++ s) w' ∧ Wm b w w' := by
  subst hS
  exact writeString_calls b l s w h hlen
theorem Glob.wm {b : Nat} {u v : World} (h : Glob u) (k : Wm b u v) (hb : 6 ≤ b) : Glob v := h.below k.below hb

set_option maxHeartbeats 1000000 in
theorem numbers_w (b g c : Nat) (ns : List Int) (T : TypeId) (l : By) (w : World) (hG : Glob w) (h6 : 6 ≤ b) (hW : Wr b l w) (hg : w.heap[g]? = some (.cells (ns.map (Value.int .i64)).toArray T (0, 0))) (hgb : g ≠ b) (hT : T ≠ 5)
    (hns : ∀ n, n ∈ ns → I64 n) (hlen : l.length + 22 * ns.length ≤ 140737488355328) :
    Calls Tryd.prog 25 #[.pointer (some ⟨b, 0, none⟩), .slice (some ⟨g, 0, none⟩) ns.length c] w fun e w' => e = .returned (.tuple #[]) ∧ Wr b (l ++ blanked ns) w' ∧ Wm b w w' := by
  have HN := Lib.hid hns
  have HG := Lib.hid hg
  have HW := Lib.hid hW
  clear hns hg hW
  go_enter Tryd.func25, Tryd.ntmps25
  go_wp2
  go_loopw [8] (fun i wr => ∃ k : Nat, k ≤ ns.length ∧ i = .int .i64 k ∧ Hid (Wr b (l ++ blanked (ns.take k)) wr) ∧ Hid (Wm b w wr)) (fun i _ => ns.length - (intOf i).toNat)
  case atStart => exact ⟨0, by omega, rfl, Lib.hid (by simpa [blanked] using HW.out), Lib.hid (Wm.refl _ _)⟩
  case round =>
    obtain ⟨k, hk, rfl, HW1, HM⟩ := hrel
    by_cases hlt : k < ns.length
    · obtain ⟨n, hn⟩ : ∃ n, ns[k]? = some n := ⟨_, List.getElem?_eq_getElem hlt⟩
      have hI : I64 n := HN.out n (List.mem_of_getElem? hn)
      have htk : ns.take (k + 1) = ns.take k ++ [n] := by rw [List.take_add_one, hn]; rfl
      have hc : wr.cell? ⟨g, k, none⟩ = some (.int .i64 n) := by
        rw [blk_cell (HM.out.blk HG.out hgb hT) k]
        simp [hn]
      have hc' : wr.cell? ⟨g, 0 + k, none⟩ = some (.int .i64 n) := by rw [Nat.zero_add]; exact hc
      have hc'' : wr.cell? ((⟨g, 0, none⟩ : Addr).add k) = some (.int .i64 n) := by rw [add_blk]; exact hc
      have HF := Lib.hid (formatInt_calls n wr.drew ((hG.wm HM.out h6).below (Below.refl 6 _).drew (Nat.le_refl _)) hI.1 hI.2)
      have hbl := blanked_le (ns.take k) (fun m hm => HN.out m (List.mem_of_mem_take hm))
      have hil := itoa_le hI
      rw [List.length_take] at hbl
      have HTK := Lib.hid htk
      have hcat : ¬ (9223372036854775807 < 1 + (Lib.itoa n).length) := by omega
      clear hn htk
      go_wp2_with fail
      go_region_law
        (first
          | (go_simp
             go_at_call 49
             refine HF.out.mono ?_
             rintro e w1 ⟨rfl, hb1⟩
             have HB1 := Lib.hid hb1
             have HW2 : Hid (Wr b (l ++ blanked (ns.take k)) w1) := Lib.hid (HW1.out.drew.new hb1)
             clear hb1)
          | (go_simp
             go_at_call 24
             refine (writeString_of b _ (32 :: Lib.itoa n) _ ?hS _ HW2.out ?hl).mono ?_
             case hS => first | rfl | simp
             case hl => simp; omega
             rintro e w2 ⟨rfl, hw2, hm2⟩
             have HW3 := Lib.hid hw2
             have HM3 : Hid (Wm b w w2) := Lib.hid (((HM.out.drew).new HB1.out (by have := HW1.out.lt; simp; omega)).trans hm2)
             clear hw2 hm2)
          | fail)
      all_goals
        go_wp2
        go_roundw
        case rel =>
          refine ⟨k + 1, by omega, by go_num, ?_, HM3⟩
          refine Lib.hid ?_
          rw [HTK.out, blanked_snoc, ← List.append_assoc]
          exact HW3.out
        case measure => simp [intOf]; omega
    · have he : k = ns.length := by omega
      subst he
      go_wp2
      go_end0
      exact ⟨rfl, by have := HW1.out; rwa [List.take_length] at this, HM.out⟩
end Go.Proofs.YthkheemjgcbofaaDoor

namespace Go.Proofs.YthkheemjgcbofaaDoor
set_option linter.unusedVariables false
set_option linter.unusedSimpArgs false
open Go.RowKit Go.Proofs.YthkheemjgcbofaaDoor.PSc Go.Proofs.YthkheemjgcbofaaDoorW.PrintWords

set_option maxHeartbeats 400000 in
theorem box_whole (b o N : Nat) (w : World) (hN : w.heap.size = N) :
    Calls Tryd.prog 57 #[.pointer (some ⟨b, o, none⟩)] w fun e w' => e = .returned (.slice (some ⟨N, 0, none⟩) 4 4) ∧ w'.heap[N]? = some (.cells #[.pointer (some ⟨b, o, none⟩), .pointer (some ⟨b, o + 1, none⟩), .pointer (some ⟨b, o + 2, none⟩), .pointer (some ⟨b, o + 3, none⟩)] 117 (0, 0)) ∧ Below w.heap.size w w' := by
  subst hN
  go_enter Tryd.func57, Tryd.ntmps57
  go_wp2
  go_region
  go_wp2
  go_ret
  exact ⟨rfl, blk_drew (blk_new w _), ((Below.refl _ _).alloc (Nat.le_refl _) _).drew⟩

/-- What a call that writes xs leaves. -/
def WPost (b : Nat) (l : By) (w : World) (e : Ending) (w' : World) : Prop := e = .returned (.tuple #[]) ∧ Wr b l w' ∧ Wm b w w'

set_option maxHeartbeats 1000000 in
theorem key_w (b : Nat) (x0 x1 x2 x3 : Int) (l : By) (w : World) (hG : Glob w) (h6 : 6 ≤ b) (hW : Wr b l w) (h0 : I64 x0) (h1 : I64 x1) (h2 : I64 x2) (h3 : I64 x3) (hlen : l.length + 88 ≤ 140737488355328) :
    Calls Tryd.prog 35 #[.pointer (some ⟨b, 0, none⟩), .agg #[.int .i64 x0, .int .i64 x1, .int .i64 x2, .int .i64 x3]] w (WPost b (l ++ blanked [x0, x1, x2, x3]) w) := by
  have hlt := hW.lt
  have HW := Lib.hid hW
  have HI : Hid (∀ n, n ∈ [x0, x1, x2, x3] → I64 n) := Lib.hid (by intro n hn; simp at hn; rcases hn with rfl | rfl | rfl | rfl <;> assumption)
  clear hW h0 h1 h2 h3
  go_enter Tryd.func35, Tryd.ntmps35
  go_wp2_with fail
  refine (box_whole w.heap.size 0 (w.heap.size + 1) _ (by simp)).mono ?_
  rintro e w1 ⟨rfl, hb1, hbel⟩
  have hz1 := hbel.size
  simp at hz1
  have HK1 := Lib.hid (blk_below (blk_new w (.cells #[.int .i64 x0, .int .i64 x1, .int .i64 x2, .int .i64 x3] 41 (0, 0))) hbel)
  have HA1 := Lib.hid hb1
  have HW1 : Hid (Wr b l w1) := Lib.hid ((HW.out.new (Below.alloc (Below.refl _ _) (Nat.le_refl _) _)).new hbel)
  have HM1 : Hid (Wm b w w1) := Lib.hid (((Wm.refl b w).alloc (by omega) _).new hbel (by simp; omega))
  clear hb1 hbel
  go_wp2_with fail
  go_loopw [8] (fun i wr => ∃ k : Nat, k ≤ 4 ∧ i = .int .i64 k ∧ Hid (Wr b (l ++ blanked ([x0, x1, x2, x3].take k)) wr) ∧ Hid (Wm b w1 wr)) (fun i _ => 4 - (intOf i).toNat)
  case atStart => exact ⟨0, by omega, rfl, Lib.hid (by simpa [blanked] using HW1.out), Lib.hid (Wm.refl _ _)⟩
  case round =>
    obtain ⟨k, hk, rfl, HWr, HM⟩ := hrel
    by_cases hlt4 : k < 4
    · obtain ⟨n, hn⟩ : ∃ n, [x0, x1, x2, x3][k]? = some n := ⟨_, List.getElem?_eq_getElem (by simpa using hlt4)⟩
      have hI : I64 n := HI.out n (List.mem_of_getElem? hn)
      have htk : [x0, x1, x2, x3].take (k + 1) = [x0, x1, x2, x3].take k ++ [n] := by rw [List.take_add_one, hn]; rfl
      have hc : wr.cell? ⟨w.heap.size + 1, k, none⟩ = some (.pointer (some ⟨w.heap.size, k, none⟩)) := by
        rw [blk_cell (HM.out.blk HA1.out (by omega) (by decide)) k]
        match k, hlt4 with
        | 0, _ => rfl
        | 1, _ => rfl
        | 2, _ => rfl
        | 3, _ => rfl
      have hc' : wr.cell? ⟨w.heap.size + 1, 0 + k, none⟩ = some (.pointer (some ⟨w.heap.size, k, none⟩)) := by rw [Nat.zero_add]; exact hc
      have hk : wr.cell? ⟨w.heap.size, k, none⟩ = some (.int .i64 n) := by
        rw [blk_cell (HM.out.blk HK1.out (by omega) (by decide)) k, ← List.getElem?_toArray] at *
        match k, hlt4 with
        | 0, _ => simp at hn; simp [hn]
        | 1, _ => simp at hn; simp [hn]
        | 2, _ => simp at hn; simp [hn]
        | 3, _ => simp at hn; simp [hn]
      have hbl := blanked_le ([x0, x1, x2, x3].take k) (fun m hm => HI.out m (List.mem_of_mem_take hm))
      rw [List.length_take] at hbl
      simp only [List.length_cons, List.length_nil] at hbl
      have HTK := Lib.hid htk
      have HIn := Lib.hid hI
      have hgr : Below b w1 wr := HM.out.below
      have hgs := hgr.size
      clear hn htk hI hgr
      go_wp2_with fail
      refine (numbers_w b wr.heap.size 1 [n] 2 (l ++ blanked ([x0, x1, x2, x3].take k)) _ ((hG.wm (HM1.out.trans HM.out) h6).below (Below.alloc (Below.refl wr.heap.size wr) (Nat.le_refl _) _) (by omega)) h6 (HWr.out.new (Below.alloc (Below.refl _ _) (Nat.le_refl _) _)) (blk_new wr _) (by omega) (by decide) (by simpa using HIn.out) (by simp; omega)).mono ?_
      rintro e w2 ⟨rfl, hw2, hm2⟩
      have HW2 := Lib.hid hw2
      have HM2 : Hid (Wm b w1 w2) := Lib.hid ((HM.out.alloc (by omega) _).trans hm2)
      clear hw2 hm2
      go_wp2
      go_roundw
      case rel =>
        refine ⟨k + 1, by omega, by go_num, ?_, HM2⟩
        refine Lib.hid ?_
        rw [HTK.out, blanked_snoc]
        simpa [blanked] using HW2.out
      case measure => simp [intOf]; omega
    · have he : k = 4 := by omega
      subst he
      go_wp2
      go_end0
      exact ⟨rfl, by simpa using HWr.out, HM1.out.trans HM.out⟩
end Go.Proofs.YthkheemjgcbofaaDoor

namespace Go.Proofs.YthkheemjgcbofaaDoor
set_option linter.unusedVariables false
set_option linter.unusedSimpArgs false
open Go.RowKit Go.Proofs.YthkheemjgcbofaaDoor.PSc Go.Proofs.YthkheemjgcbofaaDoorW.PrintWords

/-- An operation's word. -/
def verbF (k : Int) : By := if k < 0 ∨ 7 ≤ k then [97, 110, 121] else verbsL.getD k.toNat []
def bitF (b : Bool) : Int := if b then 1 else 0
theorem verb_calls (k : Int) (w : World) : Calls Tryd.prog 32 #[.int .i64 k] w fun e w' => e = .returned (.string ⟨(verbF k).toArray⟩) ∧ Below w.heap.size w w' := by
  refine script_verb.calls k _ w ?_
  unfold script_verb.f script_verbs.f
  simp only [Option.bind_some]
  by_cases h0 : k < 0
  · rw [if_pos h0, if_pos (by decide)]
    unfold verbF; rw [if_pos (.inl h0)]; rfl
  · rw [if_neg h0]
    by_cases h7 : 7 ≤ k
    · rw [if_pos (by simpa using h7), if_pos (by decide)]
      unfold verbF; rw [if_pos (.inr h7)]; rfl
    · rw [if_neg (by simpa using h7), if_pos (by omega), if_pos (by simp; omega)]
      unfold verbF; rw [if_neg (by omega)]
      obtain ⟨n, rfl⟩ : ∃ n : Nat, k = n := ⟨k.toNat, by omega⟩
      have hn : n < 7 := by omega
      match n, hn with
      | 0, _ => rfl
      | 1, _ => rfl
      | 2, _ => rfl
      | 3, _ => rfl
      | 4, _ => rfl
      | 5, _ => rfl
      | 6, _ => rfl
theorem bit_calls (x : Bool) (w : World) : Calls Tryd.prog 34 #[.bool x] w fun e w' => e = .returned (.int .i64 (bitF x)) ∧ ∃ n, w' = w.drewN n :=
  (script_bit.calls x (bitF x) w (by cases x <;> rfl)).mono fun e w' ⟨h, k⟩ => ⟨h, k.out⟩
theorem verbF_le (k : Int) : (verbF k).length ≤ 6 := by
  unfold verbF
  split
  · decide
  · obtain ⟨n, rfl⟩ : ∃ n : Nat, k = n := ⟨k.toNat, by omega⟩
    have hn : n < 7 := by omega
    match n, hn with
    | 0, _ => decide
    | 1, _ => decide
    | 2, _ => decide
    | 3, _ => decide
    | 4, _ => decide
    | 5, _ => decide
    | 6, _ => decide
theorem bitF_i64 (x : Bool) : I64 (bitF x) := by cases x <;> simp [I64, bitF]

/-- An operation's numbers, as they are written. -/
def opNs (x : S43) : List Int :=
  if x.f0 = 1 then [bitF x.f1] else if x.f0 = 2 then [x.f2, x.f3.f0, x.f3.f1, x.f3.f2, x.f3.f3, x.f4] else if x.f0 = 3 then [x.f2] else if x.f0 = 4 then [x.f3.f0, x.f3.f1, x.f3.f2, x.f3.f3] else []
def opT (x : S43) : By := 32 :: verbF x.f0 ++ blanked (opNs x)
/-- The numbers are such as their places hold. -/
structure Ok43 (x : S43) : Prop where
  k : I64 x.f0
  row : 0 ≤ x.f2 ∧ x.f2 ≤ 4294967295
  x0 : I64 x.f3.f0
  x1 : I64 x.f3.f1
  y0 : I64 x.f3.f2
  y1 : I64 x.f3.f3
  v : I64 x.f4
theorem Ok43.row64 {x : S43} (h : Ok43 x) : I64 x.f2 := ⟨by have := h.row; omega, by have := h.row; omega⟩

theorem num1_w (b : Nat) (n : Int) (l : By) (w : World) (hG : Glob w) (h6 : 6 ≤ b) (hW : Wr b l w) (hn : I64 n) (hlen : l.length + 22 ≤ 140737488355328) :
    Calls Tryd.prog 25 #[.pointer (some ⟨b, 0, none⟩), .slice (some ⟨w.heap.size, 0, none⟩) 1 1] (w.alloc (.cells #[.int .i64 n] 2)) (WPost b (l ++ blanked [n]) w) := by
  have hlt := hW.lt
  have hbel : Below w.heap.size w (w.alloc (.cells #[.int .i64 n] 2)) := Below.alloc (Below.refl _ _) (Nat.le_refl _) _
  refine (numbers_w b w.heap.size 1 [n] 2 l _ (hG.below hbel hG.size) h6 (hW.new hbel) (blk_new w _) (by omega) (by decide) (by simpa using hn) (by simpa using hlen)).mono ?_
  rintro e w' ⟨h1, h2, h3⟩
  exact ⟨h1, h2, ((Wm.refl b w).alloc (by omega) _).trans h3⟩
theorem WPost.blk {b k : Nat} {l : By} {u v : World} {e : Ending} (h : WPost b l u e v) {cs : Array Value} {T : TypeId} {fr : Nat × Nat} (hk : u.heap[k]? = some (.cells cs T fr)) (hkb : k ≠ b) (hT : T ≠ 5) : v.heap[k]? = some (.cells cs T fr) := h.2.2.blk hk hkb hT
theorem i64_wrap {n : Int} (h : I64 n) : wrap64 n = n := by unfold wrap64; unfold I64 at h; omega

set_option maxHeartbeats 4000000 in
theorem wop_one (b : Nat) (a0 : Int) (a1 : Bool) (a2 a3 a4 a5 a6 a7 : Int) (l : By) (w : World) (hG : Glob w) (h6 : 6 ≤ b) (hW : Wr b l w) (hok : Ok43 ⟨a0, a1, a2, ⟨a3, a4, a5, a6⟩, a7⟩) (hlen : l.length + 300 ≤ 140737488355328) (h1 : a0 = 1) :
    Calls Tryd.prog 52 #[.pointer (some ⟨b, 0, none⟩), .agg #[.int .i64 a0, .bool a1, .int .u32 a2, .int .i64 a3, .int .i64 a4, .int .i64 a5, .int .i64 a6, .int .i64 a7]] w (WPost b (l ++ (32 :: verbF a0 ++ blanked [bitF a1])) w) := by
  subst h1
  have hlt := hW.lt
  have HW := Lib.hid hW
  have HOK := Lib.hid hok
  have hvl := verbF_le 1
  have hcat : ¬ (9223372036854775807 < 1 + (verbF 1).length) := by omega
  clear hW hok
  obtain ⟨w1, hw1⟩ : ∃ W, W = w.alloc (.cells #[.int .i64 1, .bool a1, .int .u32 a2, .int .i64 a3, .int .i64 a4, .int .i64 a5, .int .i64 a6, .int .i64 a7] 43 (0, 0)) := ⟨_, rfl⟩
  have HX1 : Hid (w1.heap[w.heap.size]? = some (.cells #[.int .i64 1, .bool a1, .int .u32 a2, .int .i64 a3, .int .i64 a4, .int .i64 a5, .int .i64 a6, .int .i64 a7] 43 (0, 0))) := Lib.hid (by rw [hw1]; exact blk_new w _)
  have HW1 : Hid (Wr b l w1) := Lib.hid (by rw [hw1]; exact HW.out.new (Below.alloc (Below.refl _ _) (Nat.le_refl _) _))
  have HM1 : Hid (Wm b w w1) := Lib.hid (by rw [hw1]; exact (Wm.refl b w).alloc (by omega) _)
  have hz1 : w1.heap.size = w.heap.size + 1 := by rw [hw1]; simp
  have HV := Lib.hid (verb_calls 1 w1.drew)
  go_enter Tryd.func52, Tryd.ntmps52
  go_upto_region 1 with (fail)
  rw [← hw1]
  clear hw1
  have c0 : w1.drew.cell? ⟨w.heap.size, 0, none⟩ = some (.int .i64 1) := (blk_cell (blk_drew HX1.out) 0).trans rfl
  have c0' : w1.cell? ⟨w.heap.size, 0, none⟩ = some (.int .i64 1) := (blk_cell HX1.out 0).trans rfl
  go_region_law
    (first
      | (go_simp
         go_at_call 32
         refine HV.out.mono ?_
         rintro e w2 ⟨rfl, hb2⟩
         have HB2 := Lib.hid hb2
         have HW2 : Hid (Wr b l w2) := Lib.hid (HW1.out.drew.new hb2)
         have HX2 := Lib.hid (blk_below (blk_drew HX1.out) hb2)
         clear hb2)
      | (go_simp
         go_at_call 24
         refine (writeString_of b _ (32 :: verbF 1) _ ?hS _ HW2.out ?hl).mono ?_
         case hS => first | rfl | simp
         case hl => simp; omega
         rintro e w3 ⟨rfl, hw3, hm3⟩
         have HW3 := Lib.hid hw3
         have HM3 : Hid (Wm b w w3) := Lib.hid (((HM1.out.drew).new HB2.out (by simp; omega)).trans hm3)
         have HX3 := Lib.hid (hm3.blk HX2.out (by omega) (by decide))
         have hz3 : w1.heap.size ≤ w3.heap.size := Nat.le_trans HB2.out.size hm3.size
         clear hw3 hm3)
      | fail)
  have HG3 : Hid (Glob w3) := Lib.hid (hG.wm HM3.out h6)
  obtain ⟨d0, d1, d2, d3, d4, d5, d6, d7⟩ := cells8 HX3.out
  clear c0 c0'
  go_wp2_with fail
  refine (bit_calls a1 _).mono ?_
  rintro e w4 ⟨rfl, n4, rfl⟩
  go_wp2_with fail
  refine (num1_w b (bitF a1) (l ++ 32 :: verbF 1) (w3.drewN n4) (HG3.out.keep (Nat.le_refl _) (fun _ _ => rfl)) h6 HW3.out (bitF_i64 a1) (by simp; omega)).mono ?_
  rintro e w5 ⟨rfl, hw5, hm5⟩
  have HW5 := Lib.hid hw5
  have HM5 : Hid (Wm b w w5) := Lib.hid ((HM3.out.drewN n4).trans hm5)
  clear hw5 hm5
  go_wp2
  go_end0
  exact ⟨rfl, by simpa using HW5.out, HM5.out⟩

set_option maxHeartbeats 4000000 in
theorem wop_two (b : Nat) (a0 : Int) (a1 : Bool) (a2 a3 a4 a5 a6 a7 : Int) (l : By) (w : World) (hG : Glob w) (h6 : 6 ≤ b) (hW : Wr b l w) (hok : Ok43 ⟨a0, a1, a2, ⟨a3, a4, a5, a6⟩, a7⟩) (hlen : l.length + 300 ≤ 140737488355328) (h1 : a0 = 2) :
    Calls Tryd.prog 52 #[.pointer (some ⟨b, 0, none⟩), .agg #[.int .i64 a0, .bool a1, .int .u32 a2, .int .i64 a3, .int .i64 a4, .int .i64 a5, .int .i64 a6, .int .i64 a7]] w (WPost b (l ++ (32 :: verbF a0 ++ blanked [a2, a3, a4, a5, a6, a7])) w) := by
  subst h1
  have hlt := hW.lt
  have HW := Lib.hid hW
  have HOK := Lib.hid hok
  have hvl := verbF_le 2
  have hcat : ¬ (9223372036854775807 < 1 + (verbF 2).length) := by omega
  clear hW hok
  obtain ⟨w1, hw1⟩ : ∃ W, W = w.alloc (.cells #[.int .i64 2, .bool a1, .int .u32 a2, .int .i64 a3, .int .i64 a4, .int .i64 a5, .int .i64 a6, .int .i64 a7] 43 (0, 0)) := ⟨_, rfl⟩
  have HX1 : Hid (w1.heap[w.heap.size]? = some (.cells #[.int .i64 2, .bool a1, .int .u32 a2, .int .i64 a3, .int .i64 a4, .int .i64 a5, .int .i64 a6, .int .i64 a7] 43 (0, 0))) := Lib.hid (by rw [hw1]; exact blk_new w _)
  have HW1 : Hid (Wr b l w1) := Lib.hid (by rw [hw1]; exact HW.out.new (Below.alloc (Below.refl _ _) (Nat.le_refl _) _))
  have HM1 : Hid (Wm b w w1) := Lib.hid (by rw [hw1]; exact (Wm.refl b w).alloc (by omega) _)
  have hz1 : w1.heap.size = w.heap.size + 1 := by rw [hw1]; simp
  have HV := Lib.hid (verb_calls 2 w1.drew)
  go_enter Tryd.func52, Tryd.ntmps52
  go_upto_region 1 with (fail)
  rw [← hw1]
  clear hw1
  have c0 : w1.drew.cell? ⟨w.heap.size, 0, none⟩ = some (.int .i64 2) := (blk_cell (blk_drew HX1.out) 0).trans rfl
  have c0' : w1.cell? ⟨w.heap.size, 0, none⟩ = some (.int .i64 2) := (blk_cell HX1.out 0).trans rfl
  go_region_law
    (first
      | (go_simp
         go_at_call 32
         refine HV.out.mono ?_
         rintro e w2 ⟨rfl, hb2⟩
         have HB2 := Lib.hid hb2
         have HW2 : Hid (Wr b l w2) := Lib.hid (HW1.out.drew.new hb2)
         have HX2 := Lib.hid (blk_below (blk_drew HX1.out) hb2)
         clear hb2)
      | (go_simp
         go_at_call 24
         refine (writeString_of b _ (32 :: verbF 2) _ ?hS _ HW2.out ?hl).mono ?_
         case hS => first | rfl | simp
         case hl => simp; omega
         rintro e w3 ⟨rfl, hw3, hm3⟩
         have HW3 := Lib.hid hw3
         have HM3 : Hid (Wm b w w3) := Lib.hid (((HM1.out.drew).new HB2.out (by simp; omega)).trans hm3)
         have HX3 := Lib.hid (hm3.blk HX2.out (by omega) (by decide))
         have hz3 : w1.heap.size ≤ w3.heap.size := Nat.le_trans HB2.out.size hm3.size
         clear hw3 hm3)
      | fail)
  have HG3 : Hid (Glob w3) := Lib.hid (hG.wm HM3.out h6)
  obtain ⟨d0, d1, d2, d3, d4, d5, d6, d7⟩ := cells8 HX3.out
  clear c0 c0'
  go_wp2_with fail
  rw [i64_wrap HOK.out.row64]
  refine (num1_w b a2 (l ++ 32 :: verbF 2) w3 HG3.out h6 HW3.out HOK.out.row64 (by simp; omega)).mono ?_
  rintro e w5 ⟨rfl, hw5, hm5⟩
  have HW5 := Lib.hid hw5
  have HX5 := Lib.hid (hm5.blk HX3.out (by omega) (by decide))
  have HM5 : Hid (Wm b w w5) := Lib.hid (HM3.out.trans hm5)
  have hb1 := itoa_le HOK.out.row64
  clear hw5 hm5 d0 d1 d2 d3 d4 d5 d6 d7
  obtain ⟨d0, d1, d2, d3, d4, d5, d6, d7⟩ := cells8 HX5.out
  go_wp2_with fail
  refine (key_w b a3 a4 a5 a6 (l ++ 32 :: verbF 2 ++ blanked [a2]) w5 (hG.wm HM5.out h6) h6 (by simpa using HW5.out) HOK.out.x0 HOK.out.x1 HOK.out.y0 HOK.out.y1 (by simp [blanked]; omega)).mono ?_
  rintro e w6 ⟨rfl, hw6, hm6⟩
  have HW6 := Lib.hid hw6
  have HX6 := Lib.hid (hm6.blk HX5.out (by omega) (by decide))
  have HM6 : Hid (Wm b w w6) := Lib.hid (HM5.out.trans hm6)
  have hb2 := blanked_le [a3, a4, a5, a6] (by intro n hn; simp at hn; rcases hn with rfl | rfl | rfl | rfl; exact HOK.out.x0; exact HOK.out.x1; exact HOK.out.y0; exact HOK.out.y1)
  have hb2' : (blanked [a3, a4, a5, a6]).length ≤ 88 := hb2
  clear hw6 hm6 hb2 d0 d1 d2 d3 d4 d5 d6 d7
  obtain ⟨d0, d1, d2, d3, d4, d5, d6, d7⟩ := cells8 HX6.out
  go_wp2_with fail
  refine (num1_w b a7 (l ++ 32 :: verbF 2 ++ blanked [a2] ++ blanked [a3, a4, a5, a6]) w6 (hG.wm HM6.out h6) h6 HW6.out HOK.out.v (by simp only [List.length_append, List.length_cons]; simp [blanked] at hb2' ⊢; omega)).mono ?_
  rintro e w7 ⟨rfl, hw7, hm7⟩
  have HW7 := Lib.hid hw7
  have HM7 : Hid (Wm b w w7) := Lib.hid (HM6.out.trans hm7)
  clear hw7 hm7
  go_wp2
  go_end0
  exact ⟨rfl, by simpa [blanked] using HW7.out, HM7.out⟩

set_option maxHeartbeats 4000000 in
theorem wop_three (b : Nat) (a0 : Int) (a1 : Bool) (a2 a3 a4 a5 a6 a7 : Int) (l : By) (w : World) (hG : Glob w) (h6 : 6 ≤ b) (hW : Wr b l w) (hok : Ok43 ⟨a0, a1, a2, ⟨a3, a4, a5, a6⟩, a7⟩) (hlen : l.length + 300 ≤ 140737488355328) (h1 : a0 = 3) :
    Calls Tryd.prog 52 #[.pointer (some ⟨b, 0, none⟩), .agg #[.int .i64 a0, .bool a1, .int .u32 a2, .int .i64 a3, .int .i64 a4, .int .i64 a5, .int .i64 a6, .int .i64 a7]] w (WPost b (l ++ (32 :: verbF a0 ++ blanked [a2])) w) := by
  subst h1
  have hlt := hW.lt
  have HW := Lib.hid hW
  have HOK := Lib.hid hok
  have hvl := verbF_le 3
  have hcat : ¬ (9223372036854775807 < 1 + (verbF 3).length) := by omega
  clear hW hok
  obtain ⟨w1, hw1⟩ : ∃ W, W = w.alloc (.cells #[.int .i64 3, .bool a1, .int .u32 a2, .int .i64 a3, .int .i64 a4, .int .i64 a5, .int .i64 a6, .int .i64 a7] 43 (0, 0)) := ⟨_, rfl⟩
  have HX1 : Hid (w1.heap[w.heap.size]? = some (.cells #[.int .i64 3, .bool a1, .int .u32 a2, .int .i64 a3, .int .i64 a4, .int .i64 a5, .int .i64 a6, .int .i64 a7] 43 (0, 0))) := Lib.hid (by rw [hw1]; exact blk_new w _)
  have HW1 : Hid (Wr b l w1) := Lib.hid (by rw [hw1]; exact HW.out.new (Below.alloc (Below.refl _ _) (Nat.le_refl _) _))
  have HM1 : Hid (Wm b w w1) := Lib.hid (by rw [hw1]; exact (Wm.refl b w).alloc (by omega) _)
  have hz1 : w1.heap.size = w.heap.size + 1 := by rw [hw1]; simp
  have HV := Lib.hid (verb_calls 3 w1.drew)
  go_enter Tryd.func52, Tryd.ntmps52
  go_upto_region 1 with (fail)
  rw [← hw1]
  clear hw1
  have c0 : w1.drew.cell? ⟨w.heap.size, 0, none⟩ = some (.int .i64 3) := (blk_cell (blk_drew HX1.out) 0).trans rfl
  have c0' : w1.cell? ⟨w.heap.size, 0, none⟩ = some (.int .i64 3) := (blk_cell HX1.out 0).trans rfl
  go_region_law
    (first
      | (go_simp
         go_at_call 32
         refine HV.out.mono ?_
         rintro e w2 ⟨rfl, hb2⟩
         have HB2 := Lib.hid hb2
         have HW2 : Hid (Wr b l w2) := Lib.hid (HW1.out.drew.new hb2)
         have HX2 := Lib.hid (blk_below (blk_drew HX1.out) hb2)
         clear hb2)
      | (go_simp
         go_at_call 24
         refine (writeString_of b _ (32 :: verbF 3) _ ?hS _ HW2.out ?hl).mono ?_
         case hS => first | rfl | simp
         case hl => simp; omega
         rintro e w3 ⟨rfl, hw3, hm3⟩
         have HW3 := Lib.hid hw3
         have HM3 : Hid (Wm b w w3) := Lib.hid (((HM1.out.drew).new HB2.out (by simp; omega)).trans hm3)
         have HX3 := Lib.hid (hm3.blk HX2.out (by omega) (by decide))
         have hz3 : w1.heap.size ≤ w3.heap.size := Nat.le_trans HB2.out.size hm3.size
         clear hw3 hm3)
      | fail)
  have HG3 : Hid (Glob w3) := Lib.hid (hG.wm HM3.out h6)
  obtain ⟨d0, d1, d2, d3, d4, d5, d6, d7⟩ := cells8 HX3.out
  clear c0 c0'
  go_wp2_with fail
  rw [i64_wrap HOK.out.row64]
  refine (num1_w b a2 (l ++ 32 :: verbF 3) w3 HG3.out h6 HW3.out HOK.out.row64 (by simp; omega)).mono ?_
  rintro e w5 ⟨rfl, hw5, hm5⟩
  have HW5 := Lib.hid hw5
  have HM5 : Hid (Wm b w w5) := Lib.hid (HM3.out.trans hm5)
  clear hw5 hm5
  go_wp2
  go_end0
  exact ⟨rfl, by simpa using HW5.out, HM5.out⟩

set_option maxHeartbeats 4000000 in
theorem wop_four (b : Nat) (a0 : Int) (a1 : Bool) (a2 a3 a4 a5 a6 a7 : Int) (l : By) (w : World) (hG : Glob w) (h6 : 6 ≤ b) (hW : Wr b l w) (hok : Ok43 ⟨a0, a1, a2, ⟨a3, a4, a5, a6⟩, a7⟩) (hlen : l.length + 300 ≤ 140737488355328) (h1 : a0 = 4) :
    Calls Tryd.prog 52 #[.pointer (some ⟨b, 0, none⟩), .agg #[.int .i64 a0, .bool a1, .int .u32 a2, .int .i64 a3, .int .i64 a4, .int .i64 a5, .int .i64 a6, .int .i64 a7]] w (WPost b (l ++ (32 :: verbF a0 ++ blanked [a3, a4, a5, a6])) w) := by
  subst h1
  have hlt := hW.lt
  have HW := Lib.hid hW
  have HOK := Lib.hid hok
  have hvl := verbF_le 4
  have hcat : ¬ (9223372036854775807 < 1 + (verbF 4).length) := by omega
  clear hW hok
  obtain ⟨w1, hw1⟩ : ∃ W, W = w.alloc (.cells #[.int .i64 4, .bool a1, .int .u32 a2, .int .i64 a3, .int .i64 a4, .int .i64 a5, .int .i64 a6, .int .i64 a7] 43 (0, 0)) := ⟨_, rfl⟩
  have HX1 : Hid (w1.heap[w.heap.size]? = some (.cells #[.int .i64 4, .bool a1, .int .u32 a2, .int .i64 a3, .int .i64 a4, .int .i64 a5, .int .i64 a6, .int .i64 a7] 43 (0, 0))) := Lib.hid (by rw [hw1]; exact blk_new w _)
  have HW1 : Hid (Wr b l w1) := Lib.hid (by rw [hw1]; exact HW.out.new (Below.alloc (Below.refl _ _) (Nat.le_refl _) _))
  have HM1 : Hid (Wm b w w1) := Lib.hid (by rw [hw1]; exact (Wm.refl b w).alloc (by omega) _)
  have hz1 : w1.heap.size = w.heap.size + 1 := by rw [hw1]; simp
  have HV := Lib.hid (verb_calls 4 w1.drew)
  go_enter Tryd.func52, Tryd.ntmps52
  go_upto_region 1 with (fail)
  rw [← hw1]
  clear hw1
  have c0 : w1.drew.cell? ⟨w.heap.size, 0, none⟩ = some (.int .i64 4) := (blk_cell (blk_drew HX1.out) 0).trans rfl
  have c0' : w1.cell? ⟨w.heap.size, 0, none⟩ = some (.int .i64 4) := (blk_cell HX1.out 0).trans rfl
  go_region_law
    (first
      | (go_simp
         go_at_call 32
         refine HV.out.mono ?_
         rintro e w2 ⟨rfl, hb2⟩
         have HB2 := Lib.hid hb2
         have HW2 : Hid (Wr b l w2) := Lib.hid (HW1.out.drew.new hb2)
         have HX2 := Lib.hid (blk_below (blk_drew HX1.out) hb2)
         clear hb2)
      | (go_simp
         go_at_call 24
         refine (writeString_of b _ (32 :: verbF 4) _ ?hS _ HW2.out ?hl).mono ?_
         case hS => first | rfl | simp
         case hl => simp; omega
         rintro e w3 ⟨rfl, hw3, hm3⟩
         have HW3 := Lib.hid hw3
         have HM3 : Hid (Wm b w w3) := Lib.hid (((HM1.out.drew).new HB2.out (by simp; omega)).trans hm3)
         have HX3 := Lib.hid (hm3.blk HX2.out (by omega) (by decide))
         have hz3 : w1.heap.size ≤ w3.heap.size := Nat.le_trans HB2.out.size hm3.size
         clear hw3 hm3)
      | fail)
  have HG3 : Hid (Glob w3) := Lib.hid (hG.wm HM3.out h6)
  obtain ⟨d0, d1, d2, d3, d4, d5, d6, d7⟩ := cells8 HX3.out
  clear c0 c0'
  go_wp2_with fail
  refine (key_w b a3 a4 a5 a6 (l ++ 32 :: verbF 4) w3 HG3.out h6 HW3.out HOK.out.x0 HOK.out.x1 HOK.out.y0 HOK.out.y1 (by simp; omega)).mono ?_
  rintro e w5 ⟨rfl, hw5, hm5⟩
  have HW5 := Lib.hid hw5
  have HM5 : Hid (Wm b w w5) := Lib.hid (HM3.out.trans hm5)
  clear hw5 hm5
  go_wp2
  go_end0
  exact ⟨rfl, by simpa using HW5.out, HM5.out⟩


set_option maxHeartbeats 4000000 in
theorem wop_else (b : Nat) (a0 : Int) (a1 : Bool) (a2 a3 a4 a5 a6 a7 : Int) (l : By) (w : World) (hG : Glob w) (h6 : 6 ≤ b) (hW : Wr b l w) (hok : Ok43 ⟨a0, a1, a2, ⟨a3, a4, a5, a6⟩, a7⟩) (hlen : l.length + 300 ≤ 140737488355328) (h1 : a0 ≠ 1) (h2 : a0 ≠ 2) (h3 : a0 ≠ 3) (h4 : a0 ≠ 4) :
    Calls Tryd.prog 52 #[.pointer (some ⟨b, 0, none⟩), .agg #[.int .i64 a0, .bool a1, .int .u32 a2, .int .i64 a3, .int .i64 a4, .int .i64 a5, .int .i64 a6, .int .i64 a7]] w (WPost b (l ++ (32 :: verbF a0 ++ blanked [])) w) := by
  have b1 : (a0 == 1) = false := by simpa using h1
  have b2 : (a0 == 2) = false := by simpa using h2
  have b3 : (a0 == 3) = false := by simpa using h3
  have b4 : (a0 == 4) = false := by simpa using h4
  clear h1 h2 h3 h4
  have hlt := hW.lt
  have HW := Lib.hid hW
  have HOK := Lib.hid hok
  have hvl := verbF_le a0
  have hcat : ¬ (9223372036854775807 < 1 + (verbF a0).length) := by omega
  clear hW hok
  obtain ⟨w1, hw1⟩ : ∃ W, W = w.alloc (.cells #[.int .i64 a0, .bool a1, .int .u32 a2, .int .i64 a3, .int .i64 a4, .int .i64 a5, .int .i64 a6, .int .i64 a7] 43 (0, 0)) := ⟨_, rfl⟩
  have HX1 : Hid (w1.heap[w.heap.size]? = some (.cells #[.int .i64 a0, .bool a1, .int .u32 a2, .int .i64 a3, .int .i64 a4, .int .i64 a5, .int .i64 a6, .int .i64 a7] 43 (0, 0))) := Lib.hid (by rw [hw1]; exact blk_new w _)
  have HW1 : Hid (Wr b l w1) := Lib.hid (by rw [hw1]; exact HW.out.new (Below.alloc (Below.refl _ _) (Nat.le_refl _) _))
  have HM1 : Hid (Wm b w w1) := Lib.hid (by rw [hw1]; exact (Wm.refl b w).alloc (by omega) _)
  have hz1 : w1.heap.size = w.heap.size + 1 := by rw [hw1]; simp
  have HV := Lib.hid (verb_calls a0 w1.drew)
  go_enter Tryd.func52, Tryd.ntmps52
  go_upto_region 1 with (fail)
  rw [← hw1]
  clear hw1
  have c0 : w1.drew.cell? ⟨w.heap.size, 0, none⟩ = some (.int .i64 a0) := (blk_cell (blk_drew HX1.out) 0).trans rfl
  have c0' : w1.cell? ⟨w.heap.size, 0, none⟩ = some (.int .i64 a0) := (blk_cell HX1.out 0).trans rfl
  go_region_law
    (first
      | (go_simp
         go_at_call 32
         refine HV.out.mono ?_
         rintro e w2 ⟨rfl, hb2⟩
         have HB2 := Lib.hid hb2
         have HW2 : Hid (Wr b l w2) := Lib.hid (HW1.out.drew.new hb2)
         have HX2 := Lib.hid (blk_below (blk_drew HX1.out) hb2)
         clear hb2)
      | (go_simp
         go_at_call 24
         refine (writeString_of b _ (32 :: verbF a0) _ ?hS _ HW2.out ?hl).mono ?_
         case hS => first | rfl | simp
         case hl => simp; omega
         rintro e w3 ⟨rfl, hw3, hm3⟩
         have HW3 := Lib.hid hw3
         have HM3 : Hid (Wm b w w3) := Lib.hid (((HM1.out.drew).new HB2.out (by simp; omega)).trans hm3)
         have HX3 := Lib.hid (hm3.blk HX2.out (by omega) (by decide))
         have hz3 : w1.heap.size ≤ w3.heap.size := Nat.le_trans HB2.out.size hm3.size
         clear hw3 hm3)
      | fail)
  have HG3 : Hid (Glob w3) := Lib.hid (hG.wm HM3.out h6)
  obtain ⟨d0, d1, d2, d3, d4, d5, d6, d7⟩ := cells8 HX3.out
  clear c0 c0'
  go_wp2
  go_end0
  exact ⟨rfl, by simpa [blanked] using HW3.out, HM3.out⟩

theorem operation_w (b : Nat) (x : S43) (l : By) (w : World) (hG : Glob w) (h6 : 6 ≤ b) (hW : Wr b l w) (hok : Ok43 x) (hlen : l.length + 300 ≤ 140737488355328) :
    Calls Tryd.prog 52 #[.pointer (some ⟨b, 0, none⟩), .agg (vals43 x)] w (WPost b (l ++ opT x) w) := by
  obtain ⟨a0, a1, a2, ⟨a3, a4, a5, a6⟩, a7⟩ := x
  unfold opT opNs
  by_cases h1 : a0 = 1
  · simpa [h1, vals43] using wop_one b a0 a1 a2 a3 a4 a5 a6 a7 l w hG h6 hW hok hlen h1
  · by_cases h2 : a0 = 2
    · simpa [h2, vals43] using wop_two b a0 a1 a2 a3 a4 a5 a6 a7 l w hG h6 hW hok hlen h2
    · by_cases h3 : a0 = 3
      · simpa [h3, vals43] using wop_three b a0 a1 a2 a3 a4 a5 a6 a7 l w hG h6 hW hok hlen h3
      · by_cases h4 : a0 = 4
        · simpa [h4, vals43] using wop_four b a0 a1 a2 a3 a4 a5 a6 a7 l w hG h6 hW hok hlen h4
        · simpa [h1, h2, h3, h4, vals43] using wop_else b a0 a1 a2 a3 a4 a5 a6 a7 l w hG h6 hW hok hlen h1 h2 h3 h4
theorem opT_le (x : S43) (h : Ok43 x) : (opT x).length ≤ 140 := by
  have h1 := verbF_le x.f0
  have h2 : (opNs x).length ≤ 6 ∧ ∀ n, n ∈ opNs x → I64 n := by
    unfold opNs
    have b := bitF_i64 x.f1
    have r := h.row64
    obtain ⟨_, _, x0, x1, y0, y1, v⟩ := h
    split
    · exact ⟨by simp, by simpa using b⟩
    · split
      · exact ⟨by simp, by simp; exact ⟨r, x0, x1, y0, y1, v⟩⟩
      · split
        · exact ⟨by simp, by simpa using r⟩
        · split
          · exact ⟨by simp, by simp; exact ⟨x0, x1, y0, y1⟩⟩
          · exact ⟨by simp, by simp⟩
  have h3 := blanked_le _ h2.2
  simp only [opT, List.length_append, List.length_cons]
  omega
end Go.Proofs.YthkheemjgcbofaaDoor
