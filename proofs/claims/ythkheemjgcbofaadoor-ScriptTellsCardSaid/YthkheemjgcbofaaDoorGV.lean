/-
  Slices of int64 of a call's own: what the reference's Lines needs of them; its bit.
-/
import Derived.Test.YthkheemjgcbofaaDoorGR
import Derived.Deep.RegionHeld3
import Derived.Deep.RegionLaw
import Derived.Deep.Cut
import Derived.StillTailTactics

namespace Go.Proofs.YthkheemjgcbofaaDoor
set_option linter.unusedVariables false
set_option linter.unusedSimpArgs false
open Go.RowKit Go.Proofs.YthkheemjgcbofaaDoor.PSc Go.Proofs.YthkheemjgcbofaaDoorW.PrintWords Go.Proofs.YthkheemjgcbofaaDoorW.PrintLast Go.Proofs.YthkheemjgcbofaaDoorW.PrintMore

theorem rbit_calls (x : Bool) (w : World) : Calls Tryd.prog 40 #[.bool x] w fun e w' => e = .returned (.int .i64 (bitF x)) ∧ w' = w := by
  cases x
  · go_enter Tryd.func40, Tryd.ntmps40
    go_wp2
    go_ret
    exact ⟨rfl, rfl⟩
  · go_enter Tryd.func40, Tryd.ntmps40
    go_wp2
    go_ret
    exact ⟨rfl, rfl⟩
theorem info2_ : (Tryd.prog.info? 2).map (fun i => (i.zero, i.size, i.bytes)) = some (some (.int .i64 0), 1, 8) := by kernel_rfl

/-- A slice of int64 of the call's own. -/
def RI (b : Nat) (w : World) (v : Value) (xs : List Int) : Prop := (Kd.int .i64).R 2 w b (fun _ => True) v xs
theorem RI.grown {b : Nat} {w w1 : World} {v : Value} {xs : List Int} (h : RI b w v xs) {row : Option Nat} (hg : w.grownBy w1 row) (hne : ∀ k, v.ownBlock = some k → some k ≠ row) : RI b w1 v xs := by
  have h2 : (Kd.int .i64).R 2 w b (fun k => v.ownBlock = some k) v xs := ⟨fun k hk => hk, h.2⟩
  exact Kd.R_mono (Kd.R_grown h2 hg hne) (fun _ _ => trivial)
theorem RI.same {b : Nat} {w w1 : World} {v : Value} {xs : List Int} (h : RI b w v xs) (hg : w.grownBy w1 none) : RI b w1 v xs := h.grown hg (fun _ _ h => by cases h)
theorem RI.below {b : Nat} {w w1 : World} {v : Value} {xs : List Int} (h : RI b w v xs) (hb : Below w.heap.size w w1) : RI b w1 v xs := Kd.R_below h hb
theorem RI.lt {b : Nat} {w : World} {v : Value} {xs : List Int} (h : RI b w v xs) : ∀ k, v.ownBlock = some k → k < w.heap.size := Kd.R_lt h
/-- what is new is another's. -/
theorem RI.apart {b : Nat} {w : World} {v u : Value} {xs : List Int} (h : RI b w v xs) (hn : ∃ k, u.ownBlock = some k ∧ w.heap.size ≤ k) : ∀ k, v.ownBlock = some k → some k ≠ u.ownBlock := by
  obtain ⟨k, hk, hle⟩ := hn
  intro j hj
  have := h.lt j hj
  rw [hk]
  intro he
  injection he with he
  omega
theorem RI.apart' {b : Nat} {w : World} {v u : Value} {xs : List Int} (h : RI b w v xs) (hn : ∃ k, u.ownBlock = some k ∧ w.heap.size ≤ k) : ∀ k, u.ownBlock = some k → some k ≠ v.ownBlock := by
  obtain ⟨k, hk, hle⟩ := hn
  intro j hj he
  have := h.lt j he.symm
  rw [hk] at hj
  injection hj with hj
  omega
theorem RI.ne {b : Nat} {w : World} {v : Value} {xs : List Int} (h : RI b w v xs) {g t : Nat} {cs : Array Value} (hb : w.heap[g]? = some (.cells cs t (0, 0))) (ht : 2 ≠ t) : some g ≠ v.ownBlock := Kd.R_ne h hb ht
theorem blk_gr {w w1 : World} {g : Nat} {o : Obj} {row : Option Nat} (h : w.heap[g]? = some o) (hg : w.grownBy w1 row) (hne : some g ≠ row) : w1.heap[g]? = some o := (hg.block g (blk_lt h) hne).trans h
theorem RI.C {b : Nat} {w : World} {A : Option Addr} {n c : Nat} {xs : List Int} (h : RI b w (.slice A n c) xs) : n = xs.length ∧ n ≤ c ∧ (Kd.int .i64).C w A xs.length xs := Kd.R_reads' h
theorem RI.slice {b : Nat} {w : World} {v : Value} {xs : List Int} (h : RI b w v xs) : ∃ A c, v = .slice A xs.length c ∧ xs.length ≤ c ∧ (Kd.int .i64).C w A xs.length xs := Kd.R_reads h
theorem kint_M {w w1 : World} {b : Nat} {ok : Nat → Prop} (x : Int) (cs : List Value) (h : (Kd.int .i64).K w x cs) : (Kd.int .i64).M w1 b ok x cs := h

theorem key_new (a b c d : Int) (w0 w : World) (B : Nat) (hB : Below B w0 w) (hb : B ≤ w.heap.size) :
    Calls Tryd.prog 41 #[.agg #[.int .i64 a, .int .i64 b, .int .i64 c, .int .i64 d]] w fun e w' => ∃ v, e = .returned v ∧ RI B w' v [a, b, c, d] ∧ Below B w0 w' ∧ Below w.heap.size w w' ∧ w.grownBy w' none ∧ ∃ k, v.ownBlock = some k ∧ w.heap.size ≤ k := by
  refine (gazetteerref26_key.calls a b c d [a, b, c, d] w rfl).mono ?_
  rintro e w' ⟨v, he, hR, hb'⟩
  refine ⟨v, he, Kd.R_lower hR hb, hB.trans (hb'.mono hb), hb', grown_of_below hb' none, ?_⟩
  obtain ⟨g, cap, hv, hg, _⟩ := Kd.R_form hR (by simp)
  exact ⟨g, by rw [hv]; simp [Value.ownBlock], hg⟩
theorem lit_C (w : World) (ns : List Int) (hl : ns.length ≤ 1000) : (Kd.int .i64).C (w.alloc (.cells (ns.map (Value.int .i64)).toArray 2)) (some ⟨w.heap.size, 0, none⟩) ns.length ns := by
  have h1 := own_lit w 0 2 .i64 ns (Nat.zero_le _) (by omega)
  have h2 : (Kd.int .i64).R 2 (w.alloc (.cells (ns.map (Value.int .i64)).toArray 2)) 0 (fun _ => True) (.slice (some ⟨w.heap.size, 0, none⟩) ns.length ns.length) ns := Kd.R_of_own h1 (fun _ _ => trivial)
  exact (Kd.R_reads' h2).2.2
theorem cells6 {w : World} {b : Nat} {a0 a1 a2 a3 a4 a5 : Value} {T : TypeId} {fr : Nat × Nat} (h : w.heap[b]? = some (.cells #[a0, a1, a2, a3, a4, a5] T fr)) :
    w.cell? ⟨b, 0, none⟩ = some a0 ∧ w.cell? ⟨b, 1, none⟩ = some a1 ∧ w.cell? ⟨b, 1 + 1, none⟩ = some a2 ∧ w.cell? ⟨b, 1 + 2, none⟩ = some a3 ∧ w.cell? ⟨b, 1 + 3, none⟩ = some a4 ∧ w.cell? ⟨b, 2, none⟩ = some a2 ∧ w.cell? ⟨b, 3, none⟩ = some a3 ∧ w.cell? ⟨b, 4, none⟩ = some a4 ∧ w.cell? ⟨b, 5, none⟩ = some a5 :=
  ⟨(blk_cell h 0).trans rfl, (blk_cell h 1).trans rfl, (blk_cell h 2).trans rfl, (blk_cell h 3).trans rfl, (blk_cell h 4).trans rfl, (blk_cell h 2).trans rfl, (blk_cell h 3).trans rfl, (blk_cell h 4).trans rfl, (blk_cell h 5).trans rfl⟩
end Go.Proofs.YthkheemjgcbofaaDoor
