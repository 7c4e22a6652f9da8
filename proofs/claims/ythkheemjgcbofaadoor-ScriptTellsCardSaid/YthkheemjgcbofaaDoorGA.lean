/-
  Base words for the walks of this seat: what a call leaves alone (Mod), what a block holds (blk lemmas). Own text.
  What the program's script layer computes, as plain functions on lists of bytes: reading.
  What the package-level variables hold that the script layer's road reads; the library's callees, in the words of this seat.
  Cutting a text at the first byte of a kind, as plain recursion.
-/
import Derived.Test.YthkheemjgcbofaaDoorProg
import Derived.WalkKit
import Derived.WalkSpells
import Derived.WalkLawsBesides
import Derived.KernelRfl
import Derived.Lib.Hide
import Derived.Sort.Grow
import Derived.Test.YthkheemjgcbofaaDoorPScx0
import Derived.Lib.IndexMore
import Derived.Lib.ParseIntB
import Derived.Lib.ItoaNum
import Derived.Lib.Strings
import Derived.Test.YthkheemjgcbofaaDoorSh
import Derived.Lib.IndexLaws

namespace Go.Proofs.YthkheemjgcbofaaDoor
set_option linter.unusedVariables false
set_option linter.unusedSimpArgs false
open Go.RowKit

/-- w' is w but for the blocks of S and for new blocks. -/
structure Mod (S : List Nat) (w w' : World) : Prop where
  os : w'.os = w.os
  tape : w'.tape = w.tape
  output : w'.output = w.output
  size : w.heap.size ≤ w'.heap.size
  block : ∀ k, k < w.heap.size → k ∉ S → w'.heap[k]? = w.heap[k]?

theorem Mod.refl (S : List Nat) (w : World) : Mod S w w := ⟨rfl, rfl, rfl, Nat.le_refl _, fun _ _ _ => rfl⟩
theorem Mod.trans {S : List Nat} {a b c : World} (h : Mod S a b) (k : Mod S b c) : Mod S a c :=
  ⟨k.os.trans h.os, k.tape.trans h.tape, k.output.trans h.output, Nat.le_trans h.size k.size, fun i hi hs => (k.block i (Nat.lt_of_lt_of_le hi h.size) hs).trans (h.block i hi hs)⟩
/-- What is written may be new to the first world. -/
theorem Mod.mono {S T : List Nat} {a b : World} (h : Mod S a b) (hs : ∀ k, k ∈ S → k ∈ T ∨ a.heap.size ≤ k) : Mod T a b :=
  ⟨h.os, h.tape, h.output, h.size, fun i hi ht => h.block i hi fun h' => (hs i h').elim ht (by omega)⟩
theorem Mod.then {S T : List Nat} {a b c : World} (h : Mod T a b) (k : Mod S b c) (hs : ∀ k, k ∈ S → k ∈ T ∨ a.heap.size ≤ k) : Mod T a c :=
  ⟨k.os.trans h.os, k.tape.trans h.tape, k.output.trans h.output, Nat.le_trans h.size k.size, fun i hi ht => (k.block i (Nat.lt_of_lt_of_le hi h.size) (fun h' => (hs i h').elim ht (by omega))).trans (h.block i hi ht)⟩
theorem Mod.drewN {S : List Nat} {a b : World} (h : Mod S a b) (n : Nat) : Mod S a (b.drewN n) := ⟨h.os, h.tape, h.output, h.size, h.block⟩
theorem Mod.drew {S : List Nat} {a b : World} (h : Mod S a b) : Mod S a b.drew := ⟨h.os, h.tape, h.output, h.size, h.block⟩
theorem Mod.alloc {S : List Nat} {a b : World} (h : Mod S a b) (o : Obj) : Mod S a (b.alloc o) :=
  h.trans ⟨rfl, rfl, rfl, by simp, fun k hk _ => Below.heap_alloc _ _ _ hk⟩
theorem Mod.set {S : List Nat} {a b : World} (h : Mod S a b) {p : Addr} (hp : p.block ∈ S ∨ a.heap.size ≤ p.block) (u : Value) : Mod S a (b.setCell p u) :=
  ⟨h.os, h.tape, h.output, by simpa [World.setCell] using h.size, fun k hk hs => by
    rw [Below.heap_setCell _ _ _ _ (by rintro rfl; rcases hp with hp | hp; exact hs hp; omega)]
    exact h.block k hk hs⟩
theorem Mod.setIn {S : List Nat} {a b : World} (h : Mod S a b) {p : Addr} (hp : p.block ∈ S) (u : Value) : Mod S a (b.setCell p u) := h.set (.inl hp) u
theorem Mod.setNew {S : List Nat} {a b : World} (h : Mod S a b) {p : Addr} (hp : a.heap.size ≤ p.block) (u : Value) : Mod S a (b.setCell p u) := h.set (.inr hp) u
theorem Mod.of_below {S : List Nat} {a b : World} (h : Below a.heap.size a b) : Mod S a b := ⟨h.os, h.tape, h.output, h.size, fun k hk _ => h.block k hk⟩
theorem Mod.below {a b : World} {B : Nat} {S : List Nat} (h : Mod S a b) (hS : ∀ k, k ∈ S → B ≤ k) (hB : B ≤ a.heap.size) : Below B a b :=
  ⟨h.os, h.tape, h.output, h.size, fun k hk => h.block k (by omega) (fun h' => by have := hS k h'; omega)⟩
theorem Mod.thenBelow {T : List Nat} {a b c : World} (h : Mod T a b) (k : Below b.heap.size b c) : Mod T a c :=
  h.then (S := []) (Mod.of_below k) (fun _ h' => absurd h' (by simp))
theorem Mod.grow {S : List Nat} {a b : World} (h : Mod S a b) (os : Array Obj) : Mod S a (Sort.grow b os) :=
  ⟨h.os, h.tape, h.output, by have := h.size; simp [Sort.grow]; omega, fun k hk hs => by
    have h1 := h.size
    have h2 : (Sort.grow b os).heap[k]? = b.heap[k]? := by
      show (b.heap ++ os)[k]? = _
      rw [Array.getElem?_append_left (by omega)]
    exact h2.trans (h.block k hk hs)⟩

/-- What a block that is known whole gives a walk. -/
theorem blk_lt {w : World} {b : Nat} {o : Obj} (h : w.heap[b]? = some o) : b < w.heap.size := by
  rcases Nat.lt_or_ge b w.heap.size with h' | h'
  · exact h'
  · simp [Array.getElem?_eq_none h'] at h
theorem blk_cell {w : World} {b : Nat} {cs : Array Value} {T : TypeId} {fr : Nat × Nat} (h : w.heap[b]? = some (.cells cs T fr)) (j : Nat) : w.cell? ⟨b, j, none⟩ = cs[j]? := by
  simp [World.cell?, h]
theorem blk_free {w : World} {b : Nat} {cs : Array Value} {T : TypeId} (h : w.heap[b]? = some (.cells cs T (0, 0))) (j : Nat) : w.frozen? ⟨b, j, none⟩ = false := by
  simp [World.frozen?, h]
theorem blk_set {w : World} {b : Nat} {cs : Array Value} {T : TypeId} {fr : Nat × Nat} (h : w.heap[b]? = some (.cells cs T fr)) (j : Nat) (u : Value) : (w.setCell ⟨b, j, none⟩ u).heap[b]? = some (.cells (cs.setIfInBounds j u) T fr) := by
  simp [World.setCell, Array.getElem?_modify, h]
theorem blk_far {w : World} {b : Nat} {o : Obj} (h : w.heap[b]? = some o) {p : Addr} (hp : b ≠ p.block) (u : Value) : (w.setCell p u).heap[b]? = some o := by
  rw [Below.heap_setCell _ _ _ _ hp]; exact h
theorem blk_alloc {w : World} {b : Nat} {o : Obj} (h : w.heap[b]? = some o) (o' : Obj) : (w.alloc o').heap[b]? = some o := by
  rw [Below.heap_alloc _ _ _ (blk_lt h)]; exact h
theorem blk_new (w : World) (o : Obj) : (w.alloc o).heap[w.heap.size]? = some o := by
  show (w.heap.push o)[w.heap.size]? = some o
  simp
theorem blk_at (w : World) (o : Obj) {n : Nat} (hn : n = w.heap.size) : (w.alloc o).heap[n]? = some o := by subst hn; exact blk_new w o
theorem blk_drewN {w : World} {b : Nat} {o : Obj} (h : w.heap[b]? = some o) (n : Nat) : (w.drewN n).heap[b]? = some o := h
theorem blk_drew {w : World} {b : Nat} {o : Obj} (h : w.heap[b]? = some o) : w.drew.heap[b]? = some o := h
theorem blk_mod {S : List Nat} {w w' : World} {b : Nat} {o : Obj} (h : w.heap[b]? = some o) (hm : Mod S w w') (hs : b ∉ S) : w'.heap[b]? = some o := (hm.block b (blk_lt h) hs).trans h
theorem blk_below {w w' : World} {b : Nat} {o : Obj} (h : w.heap[b]? = some o) (hm : Below w.heap.size w w') : w'.heap[b]? = some o := (hm.block b (blk_lt h)).trans h

end Go.Proofs.YthkheemjgcbofaaDoor

namespace Go.Proofs.YthkheemjgcbofaaDoor
set_option linter.unusedVariables false
set_option linter.unusedSimpArgs false
open Go.RowKit Go.Proofs.YthkheemjgcbofaaDoor.PSc

abbrev By := List UInt8
/-- What a reader holds. -/
structure Rd where
  rest : By
  bad : Bool
def Rd.blk (r : Rd) : Obj := .cells #[.string ⟨r.rest.toArray⟩, .bool r.bad] 96 (0, 0)
def tok (r : Rd) : By × Rd := ((Lib.cut r.rest [32]).1, ⟨(Lib.cut r.rest [32]).2.1, if (Lib.cut r.rest [32]).2.2 && (Lib.cut r.rest [32]).2.1.isEmpty then true else r.bad⟩)
/-- The number of a part; whether it is one. -/
def numOf (s : By) : Int × Bool :=
  match Lib.parseIntB 64 s with
  | .ok v => (v, Lib.itoa v == s)
  | .range => (Lib.intSat 64 s, false)
  | _ => (0, false)
def num (r : Rd) : Int × Rd := ((numOf (tok r).1).1, ⟨(tok r).2.rest, if (numOf (tok r).1).2 then (tok r).2.bad else true⟩)
def nums : Nat → Rd → List Int × Rd
  | 0, r => ([], r)
  | k + 1, r => ((num r).1 :: (nums k (num r).2).1, (nums k (num r).2).2)
/-- A row's number. -/
def row (r : Rd) : Int × Rd := ((num r).1 % 4294967296, ⟨(num r).2.rest, if (num r).1 < 0 || 4294967295 < (num r).1 then true else (num r).2.bad⟩)

theorem cut_le (l : By) : (Lib.cut l [32]).2.1.length ≤ l.length ∧ (Lib.cut l [32]).1.length ≤ l.length := by
  unfold Lib.cut
  split
  · simp; omega
  · simp
theorem tok_le (r : Rd) : (tok r).2.rest.length ≤ r.rest.length ∧ (tok r).1.length ≤ r.rest.length := cut_le r.rest
theorem num_le (r : Rd) : (num r).2.rest.length ≤ r.rest.length := (tok_le r).1
theorem nums_le (k : Nat) : ∀ r, (nums k r).2.rest.length ≤ r.rest.length := by
  induction k with
  | zero => intro r; exact Nat.le_refl _
  | succ k ih => intro r; exact Nat.le_trans (ih _) (num_le r)
theorem nums_length (k : Nat) : ∀ r, (nums k r).1.length = k := by
  induction k with
  | zero => intro r; rfl
  | succ k ih => intro r; simp [nums, ih]
theorem row_le (r : Rd) : (row r).2.rest.length ≤ r.rest.length := num_le r

end Go.Proofs.YthkheemjgcbofaaDoor

namespace Go.Proofs.YthkheemjgcbofaaDoor
set_option linter.unusedVariables false
set_option linter.unusedSimpArgs false
open Go.RowKit

structure Glob (w : World) : Prop where
  mx : ∃ m : Int, w.cell? ⟨0, 0, none⟩ = some (.int .i64 m)
  tab : Lib.TabIs Tryd.prog w "internal/strconv.uint64pow10" .u64 Lib.pow10Tab
  syn : ∃ tp p, w.var? Tryd.prog "strconv.ErrSyntax" = some #[.iface tp p]
  rng : ∃ tp p, w.var? Tryd.prog "strconv.ErrRange" = some #[.iface tp p]
  size : 6 ≤ w.heap.size


theorem gl_syn : ∃ g, Tryd.prog.globalNamed "strconv.ErrSyntax" = some g ∧ g < 6 := ⟨2, by kernel_rfl, by decide⟩
theorem gl_rng : ∃ g, Tryd.prog.globalNamed "strconv.ErrRange" = some g ∧ g < 6 := ⟨3, by kernel_rfl, by decide⟩
theorem var_keep {w w' : World} {name : String} {cs : Array Value} (hg : ∃ g, Tryd.prog.globalNamed name = some g ∧ g < 6) (h : w.var? Tryd.prog name = some cs) (hk : ∀ k, k < 6 → w'.heap[k]? = w.heap[k]?) : w'.var? Tryd.prog name = some cs := by
  obtain ⟨g, hn, hl⟩ := hg
  unfold World.var? at h ⊢
  rw [hn] at h ⊢
  simp only [Option.bind_some] at h ⊢
  rw [hk g hl]
  exact h
theorem Glob.keep {w w' : World} (h : Glob w) (hs : w.heap.size ≤ w'.heap.size) (hk : ∀ k, k < 6 → w'.heap[k]? = w.heap[k]?) : Glob w' := by
  obtain ⟨⟨m, hm⟩, tab, ⟨tp, p, hy⟩, ⟨tq, q, hr⟩, sz⟩ := h
  refine ⟨⟨m, ?_⟩, ?_, ⟨tp, p, var_keep gl_syn hy hk⟩, ⟨tq, q, var_keep gl_rng hr hk⟩, by omega⟩
  · rw [World.cell?_of_block (w := w) (hk 0 (by decide))]; exact hm
  · exact var_keep ⟨1, by kernel_rfl, by decide⟩ tab hk
theorem Glob.mod {w w' : World} {S : List Nat} (h : Glob w) (hm : Mod S w w') (hS : ∀ k, k ∈ S → 6 ≤ k) : Glob w' :=
  h.keep hm.size fun k hk => hm.block k (by have := h.size; omega) (fun h' => by have := hS k h'; omega)
theorem Glob.below {w w' : World} {B : Nat} (h : Glob w) (hm : Below B w w') (hB : 6 ≤ B) : Glob w' := h.keep hm.size fun k hk => hm.block k (by omega)

theorem cut_calls (l sep : By) (w : World) (hG : Glob w) (hl : l.length < 4294967281) :
    Calls Tryd.prog 18 #[.string ⟨l.toArray⟩, .string ⟨sep.toArray⟩] w fun e w' => e = .returned (.tuple #[.string ⟨(Lib.cut l sep).1.toArray⟩, .string ⟨(Lib.cut l sep).2.1.toArray⟩, .bool (Lib.cut l sep).2.2]) ∧ ∃ n, w' = w.drewN n := by
  obtain ⟨m, hm⟩ := hG.mx
  exact Tryd.strings_Cut ⟨l.toArray⟩ ⟨sep.toArray⟩ m w (by show l.toArray.size < _; simpa using hl) hm

theorem parseInt_ok (l : By) (w : World) (v : Int) (hl : l.length < 4294967281) (h : Lib.parseIntB 64 l = .ok v) :
    Calls Tryd.prog 69 #[.string ⟨l.toArray⟩, .int .i64 10, .int .i64 64] w fun e w' => e = .returned (.tuple #[.int .i64 v, .nilIface]) ∧ Below w.heap.size w w' := by
  refine (Tryd.strconv_ParseInt_10_at64_ok ⟨l.toArray⟩ (by show l.toArray.size ≤ _; simp; omega) v h w).mono ?_
  rintro e w' ⟨rfl, rfl | ⟨t, rfl⟩⟩
  · exact ⟨rfl, Below.refl _ _⟩
  · exact ⟨rfl, YthkheemjgcbofaaDoorW.PrintWords.bytes_below (Below.refl _ _) (Nat.le_refl _) 5 t⟩
theorem parseInt_bad (l : By) (w : World) (hG : Glob w) (hl : l.length < 4294967281) (h : ∀ v, Lib.parseIntB 64 l ≠ .ok v) :
    Calls Tryd.prog 69 #[.string ⟨l.toArray⟩, .int .i64 10, .int .i64 64] w fun e w' => ∃ N, e = .returned (.tuple #[.int .i64 (numOf l).1, .iface 149 (.pointer (some ⟨N, 0, none⟩))]) ∧ Below w.heap.size w w' := by
  have hz : (⟨l.toArray⟩ : ByteArray).size ≤ 281474976710656 := by show l.toArray.size ≤ _; simp; omega
  cases hp : Lib.parseIntB 64 l
  · exact absurd hp (h _)
  · obtain ⟨tp, p, hv⟩ := hG.syn
    refine (Any.strconv_ParseInt_10_at64_syntax_var Tryd.laysC174 ⟨l.toArray⟩ hz hp tp p w hv).mono ?_
    rintro e w' ⟨N, rfl, _, _, hb⟩
    exact ⟨N, by simp [numOf, hp]; rfl, hb⟩
  · obtain ⟨tp, p, hv⟩ := hG.rng
    refine (Tryd.strconv_ParseInt_10_at64_range_var ⟨l.toArray⟩ hz hp tp p w hv).mono ?_
    rintro e w' ⟨N, rfl, _, _, hb⟩
    exact ⟨N, by simp [numOf, hp], hb⟩
theorem formatInt_calls (n : Int) (w : World) (hG : Glob w) (h0 : -9223372036854775808 ≤ n) (h1 : n ≤ 9223372036854775807) :
    Calls Tryd.prog 49 #[.int .i64 n, .int .i64 10] w fun e w' => e = .returned (.string ⟨(Lib.itoa n).toArray⟩) ∧ Below w.heap.size w w' := by
  refine (Tryd.strconv_FormatInt_10 n h0 h1 w hG.tab).mono ?_
  rintro e w' ⟨rfl, k, os, rfl⟩
  exact ⟨rfl, (((Mod.refl [] w).drewN k).grow os).below (by simp) (Nat.le_refl _)⟩
end Go.Proofs.YthkheemjgcbofaaDoor

namespace Go.Proofs.YthkheemjgcbofaaDoor
set_option linter.unusedVariables false
set_option linter.unusedSimpArgs false

def cut1 (c : UInt8) : List UInt8 → List UInt8 × List UInt8 × Bool
  | [] => ([], [], false)
  | b :: l => if b = c then ([], l, true) else (b :: (cut1 c l).1, (cut1 c l).2.1, (cut1 c l).2.2)

theorem cut_eq (c : UInt8) (l : List UInt8) : Lib.cut l [c] = cut1 c l := by
  induction l with
  | nil => rfl
  | cons b l ih =>
    have hg := Lib.index_ge l [c]
    unfold Lib.cut at ih ⊢
    unfold cut1
    by_cases h : b = c
    · subst h
      simp [Lib.index]
    · have hb : (c == b) = false := by simpa using fun e => h e.symm
      rw [if_neg h, ← ih]
      simp only [Lib.index, List.isPrefixOf, hb, Bool.false_and, Bool.false_eq_true, if_false]
      by_cases hi : Lib.index l [c] = -1
      · simp [hi]
      · have hi' : (Lib.index l [c] == -1) = false := by simpa using hi
        have h0 : 0 ≤ Lib.index l [c] := by omega
        have h1 : 0 ≤ Lib.index l [c] + 1 := by omega
        have h2 : (Lib.index l [c] + 1).toNat = (Lib.index l [c]).toNat + 1 := by omega
        simp only [hi', Bool.false_eq_true, if_false, if_pos h0, if_pos h1, h2, List.take_succ_cons, List.length_cons, List.length_nil]
        rw [Nat.add_right_comm, List.drop_succ_cons]
theorem cut1_found (c : UInt8) : ∀ l : List UInt8, (cut1 c l).2.2 = true → l = (cut1 c l).1 ++ c :: (cut1 c l).2.1 := by
  intro l
  induction l with
  | nil => intro h; cases h
  | cons b l ih =>
    intro h
    unfold cut1 at h ⊢
    by_cases hb : b = c
    · rw [if_pos hb, hb]; rfl
    · rw [if_neg hb] at h ⊢
      simp only at h ⊢
      rw [List.cons_append, ← ih h]
theorem cut1_none (c : UInt8) : ∀ l : List UInt8, (cut1 c l).2.2 = false → cut1 c l = (l, [], false) := by
  intro l
  induction l with
  | nil => intro _; rfl
  | cons b l ih =>
    intro h
    unfold cut1 at h ⊢
    by_cases hb : b = c
    · rw [if_pos hb] at h; cases h
    · rw [if_neg hb] at h ⊢
      simp only at h ⊢
      rw [ih h]
theorem cut1_mem (c : UInt8) : ∀ l : List UInt8, c ∉ (cut1 c l).1 := by
  intro l
  induction l with
  | nil => simp [cut1]
  | cons b l ih =>
    unfold cut1
    by_cases hb : b = c
    · rw [if_pos hb]; simp
    · rw [if_neg hb]
      simp only [List.mem_cons, not_or]
      exact ⟨fun e => hb e.symm, ih⟩
theorem cut1_append (c : UInt8) : ∀ (a b : List UInt8), c ∉ a → cut1 c (a ++ c :: b) = (a, b, true) := by
  intro a
  induction a with
  | nil => intro b _; simp [cut1]
  | cons x a ih =>
    intro b h
    simp only [List.mem_cons, not_or] at h
    rw [List.cons_append, cut1, if_neg (fun e => h.1 e.symm), ih b h.2]
theorem cut1_len (c : UInt8) (l : List UInt8) (h : (cut1 c l).2.2 = true) : (cut1 c l).1.length + 1 + (cut1 c l).2.1.length = l.length ∧ (cut1 c l).2.1 = l.drop ((cut1 c l).1.length + 1) := by
  have e := cut1_found c l h
  generalize cut1 c l = q at *
  obtain ⟨a, b, f⟩ := q
  simp only at e ⊢
  rw [e]
  constructor
  · simp; omega
  · have : a ++ c :: b = (a ++ [c]) ++ b := by simp
    rw [this, List.drop_left' (by simp)]
end Go.Proofs.YthkheemjgcbofaaDoor
