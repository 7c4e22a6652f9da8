/-
  wakes: the layer's first script is read and printed.
  What the rows' condition gives the walks: the listed variables of the library, and a world that meets it.
-/
import Derived.Test.YthkheemjgcbofaaDoorGJ
import Derived.Test.YthkheemjgcbofaaDoorGG
import Derived.Test.YthkheemjgcbofaaDoorRows
import Derived.Test.YthkheemjgcbofaaDoorGA
import Derived.Deep.DeepHandedRow
import Derived.ProofKit
import Derived.LaidMore
import Derived.LaidHandle
import Derived.MakeChecks
import Derived.Stop.Joined
import Derived.Stop.LaidErr
import Derived.Lib.LaidTab
import Derived.Shelf.Vars

namespace Go.Proofs.YthkheemjgcbofaaDoor
set_option linter.unusedVariables false
set_option linter.unusedSimpArgs false
open Go.RowKit Go.Proofs.YthkheemjgcbofaaDoor.PSc Go.Proofs.YthkheemjgcbofaaDoorW.PrintWords

def wakeT : By := [119, 111, 114, 108, 100, 32, 49, 32, 52, 48, 48, 10, 97, 115, 107, 32, 49, 32, 105, 110, 115, 101, 114, 116, 32, 53, 32, 48, 32, 49, 32, 45, 49, 32, 48, 32, 55, 10, 99, 104, 101, 99, 107, 10, 99, 114, 97, 115, 104, 32, 61, 49, 48, 10]
def wakeS : List S46 := [⟨1, 1, ⟨2, false, 5, ⟨0, 1, -1, 0⟩, 7⟩, 0, []⟩, ⟨4, 0, z43, 0, []⟩, ⟨6, 0, z43, 0, [true, false]⟩]
theorem wake_parse : parseF wakeT = (⟨1, 400, wakeS⟩, 0, 0) := by kernel_rfl
theorem wake_print : printF 1 400 wakeS = (wakeT, 0) := by kernel_rfl
theorem wake_check : checkF wakeS = 0 := by kernel_rfl
theorem wake_ok : ∀ x, x ∈ wakeS → Ok46 x := by
  intro x hx
  simp only [wakeS, List.mem_cons, List.not_mem_nil, or_false] at hx
  rcases hx with rfl | rfl | rfl
  all_goals exact ⟨by unfold I64; decide, by unfold I64; decide, ⟨by unfold I64; decide, by decide, by unfold I64; decide, by unfold I64; decide, by unfold I64; decide, by unfold I64; decide, by unfold I64; decide⟩⟩

attribute [local go_sem high] eqA43
set_option maxHeartbeats 2000000 in
set_option maxRecDepth 100000 in
theorem wakes_calls (w : World) (hG : Glob w) :
    Calls Tryd.prog 7 #[] w fun e w' => e = .returned (.bool true) ∧ Below w.heap.size w w' := by
  have hGs := hG.size
  have HP0 := parse_calls wakeT w hG (by decide)
  unfold ParsePost at HP0
  rw [wake_parse] at HP0
  have HP := Lib.hid HP0
  clear HP0
  have hu27 := Tryd.underlying27
  have hu46 := Tryd.underlying46
  have hu43 := Tryd.underlying43
  go_enter Tryd.func7, Tryd.ntmps7
  go_wp2_with fail
  refine HP.out.mono ?_
  rintro e w1 ⟨v, rfl, hR, hB⟩
  obtain ⟨A, c, hv, hlc, hC⟩ := Kd.R_reads hR
  subst hv
  obtain ⟨w2, hw2⟩ : ∃ W, W = w1.alloc (.cells #[.int .i64 1, .int .i64 400, .slice A wakeS.length c] 27 (0, 0)) := ⟨_, rfl⟩
  have hb12 : Below w1.heap.size w1 w2 := by rw [hw2]; exact Below.alloc (Below.refl _ _) (Nat.le_refl _) _
  have HX2 : Hid (w2.heap[w1.heap.size]? = some (.cells #[.int .i64 1, .int .i64 400, .slice A wakeS.length c] 27 (0, 0))) := Lib.hid (by rw [hw2]; exact blk_new w1 _)
  have HC2 := Lib.hid (Kd.C_below hC hb12)
  have HB2 : Hid (Below w.heap.size w w2) := Lib.hid (hB.trans (hb12.mono hB.size))
  have hz2 : w.heap.size ≤ w2.heap.size := HB2.out.size
  clear hR hB HP hb12 hC
  go_wp2_with fail
  rw [← hw2]
  clear hw2
  have HPR := print_right 1 400 wakeS A c w2 (hG.below HB2.out hGs) (by unfold I64; decide) (by unfold I64; decide) HC2.out hlc wake_ok wake_check
  unfold PrintPost at HPR
  rw [wake_print] at HPR
  refine HPR.mono ?_
  clear HPR
  rintro e w3 ⟨rfl, hb3⟩
  have HX3 := Lib.hid (blk_below HX2.out hb3)
  have HC3 := Kd.C_below HC2.out hb3
  have HB3 := Lib.hid (HB2.out.trans (hb3.mono hz2))
  clear hb3
  have c2 : w3.cell? ⟨w1.heap.size, 2, none⟩ = some (.slice A wakeS.length c) := (blk_cell HX3.out 2).trans rfl
  obtain ⟨ad, A11, c11, hA, h0, h1, h2, h3, h4, h5, h6, h7, h8, h9, h10, h11, hl, hC11⟩ := at_T46 HC3 0 (by decide) (by decide)
  obtain ⟨bd, B11, d11, hA', g0, g1, g2, g3, g4, g5, g6, g7, g8, g9, g10, g11, gl, gC11⟩ := at_T46 HC3 2 (by decide) (by decide)
  subst hA
  obtain rfl := Option.some.inj hA'
  have e0 : rd_T46 wakeS 0 = ⟨1, 1, ⟨2, false, 5, ⟨0, 1, -1, 0⟩, 7⟩, 0, []⟩ := rfl
  have e2 : rd_T46 wakeS 2 = ⟨6, 0, z43, 0, [true, false]⟩ := rfl
  rw [e0] at h0 h1 h2 h3 h4 h5 h6 h7 h8 h9 h10 h11
  rw [e2] at g0 g1 g2 g3 g4 g5 g6 g7 g8 g9 g10 g11
  have hwl : wakeS.length = 3 := rfl
  rw [hwl] at c2 ⊢
  have ez : ad.add ((0 : Int).toNat * 12) = ad := addr_add0 ad
  rw [ez] at h2 h3 h4 h5 h6 h7 h8 h9 h10
  have k2 : w3.cell? ⟨ad.block, ad.off + 2, none⟩ = some (.int .i64 2) := h2
  have k3 : w3.cell? ⟨ad.block, ad.off + 2 + 1, none⟩ = some (.bool false) := h3
  have k4 : w3.cell? ⟨ad.block, ad.off + 2 + 2, none⟩ = some (.int .u32 5) := h4
  have k5 : w3.cell? ⟨ad.block, ad.off + 2 + 3, none⟩ = some (.int .i64 0) := h5
  have k6 : w3.cell? ⟨ad.block, ad.off + 2 + 4, none⟩ = some (.int .i64 1) := h6
  have k7 : w3.cell? ⟨ad.block, ad.off + 2 + 5, none⟩ = some (.int .i64 (-1)) := h7
  have k8 : w3.cell? ⟨ad.block, ad.off + 2 + 6, none⟩ = some (.int .i64 0) := h8
  have k9 : w3.cell? ⟨ad.block, ad.off + 2 + 7, none⟩ = some (.int .i64 7) := h9
  have k11 : w3.cell? ⟨ad.block, ad.off + 24 + 11, none⟩ = some (.slice B11 2 d11) := by simpa [Addr.add] using g11
  clear ez hA' e0 e2 HC3 hl hC11 gl gC11 hwl g0 g1 g2 g3 g4 g5 g6 g7 g8 g9 g10 g11 h0 h1 h2 h3 h4 h5 h6 h7 h8 h9 h10 h11
  go_wp2_with fail
  go_ret
  exact ⟨rfl, HB3.out⟩
end Go.Proofs.YthkheemjgcbofaaDoor

namespace Go.Proofs.YthkheemjgcbofaaDoor
open Go.ChangeShapes Go.WideShapes Go.ChangeAt Go.RowKit Go.Lib
set_option linter.unusedVariables false

def laid5 : List (String × DataW Unit) := [("math/bits.deBruijn32tab", Rows.laid_math_bits_deBruijn32tab), ("math/bits.deBruijn64tab", Rows.laid_math_bits_deBruijn64tab), ("internal/strconv.uint64pow10", Rows.laid_internal_strconv_uint64pow10), ("strconv.ErrRange", Rows.laid_strconv_ErrRange), ("strconv.ErrSyntax", Rows.laid_strconv_ErrSyntax)]
theorem row_own : ownKnob Tryd.prog.godebug = none := by kernel_rfl
theorem row_star : "*" ++ "errors.errorString" = "*errors.errorString" := by decide
theorem row161 (u : TypeId) (h : Tryd.prog.typeName? 3 u = some "*errors.errorString") : u = 161 :=
  typeName_ptr_named (nm := "errors.errorString") (by rw [row_star]; kernel_rfl) (by kernel_rfl) (by decide) u (by rw [row_star]; exact h)

theorem none_holds (P : Program) (m : Machine) : ({} : Assume).holds P m := by
  unfold Assume.holds; simp
set_option maxRecDepth 100000 in
theorem door_met (os : Os) (args : Array Value) : laidMetH Tryd.prog laid5 ((World.doorLaid Tryd.prog 400 os).forCall (fun _ _ => 0) ⟨#[], args, []⟩).memory :=
  laidMetH_of_parts3 (fuel := 8) (laidMet_of_run' 8 (by kernel_rfl) (by kernel_rfl)) (by kernel_rfl) (by kernel_rfl)

theorem glob_of_laid {W : World} (hL : laidMetH Tryd.prog laid5 W) (hS : W.ShapedOpen Tryd.prog) : Glob W := by
  rw [MakeChecks.laidMetH_plain _ _ _ (by kernel_rfl)] at hL
  have hL3 : laidMet Tryd.prog [("internal/strconv.uint64pow10", Rows.laid_internal_strconv_uint64pow10), ("strconv.ErrRange", Rows.laid_strconv_ErrRange), ("strconv.ErrSyntax", Rows.laid_strconv_ErrSyntax)] W := hL.tail.tail
  have htab : Lib.TabIs Tryd.prog W "internal/strconv.uint64pow10" .u64 Lib.pow10Tab :=
    Lib.tabIs_of_head (g := 1) (t := 142) (n := 20) (by kernel_rfl) (by kernel_rfl) Tryd.underlying142 (by kernel_rfl) (by kernel_rfl) (by kernel_rfl) hL3
  obtain ⟨a3, t3, hv3, _⟩ := laid_sentinel (g := 3) hL3.tail (by kernel_rfl) (by kernel_rfl) Tryd.underlying73 row161 Tryd.underlying161 Tryd.underlying163 rfl rfl Tryd.underlying9 (by kernel_rfl) (by kernel_rfl)
  obtain ⟨a2, t2, hv2, _⟩ := laid_sentinel (g := 2) hL3.tail.tail (by kernel_rfl) (by kernel_rfl) Tryd.underlying73 row161 Tryd.underlying161 Tryd.underlying163 rfl rfl Tryd.underlying9 (by kernel_rfl) (by kernel_rfl)
  have hmx := cell_of_shapedOpen_int (g := 0) (t := 3) (zero := #[.int .i64 0]) (k := .i64) hS (of_decide_eq_true (by kernel_rfl)) (by kernel_rfl) rfl (by kernel_rfl) (by kernel_rfl) Tryd.underlying3
  refine ⟨hmx, htab, ⟨_, _, hv2⟩, ⟨_, _, hv3⟩, ?_⟩
  obtain ⟨⟨z5, t5⟩, h5⟩ : ∃ x, ((begin Tryd.prog (fun _ _ => 0) default).world.heap[5]?).bind Obj.row? = some x := Option.isSome_iff_exists.1 (by kernel_rfl)
  obtain ⟨cs, hh, _⟩ := hS.1 5 z5 t5 (of_decide_eq_true (by kernel_rfl)) h5
  exact blk_lt hh
end Go.Proofs.YthkheemjgcbofaaDoor
