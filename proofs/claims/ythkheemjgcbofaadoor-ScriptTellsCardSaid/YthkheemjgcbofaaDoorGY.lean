/-
  The lines that are told of an event, by the reference: no error, no count.
-/
import Derived.Test.YthkheemjgcbofaaDoorGV
import Derived.Deep.QuietTactic
import Derived.BigQuiet
import Derived.Deep.RegionHeld3
import Derived.Deep.RegionLaw
import Derived.Deep.Cut
import Derived.StillTailTactics

namespace Go.Proofs.YthkheemjgcbofaaDoor
set_option linter.unusedVariables false
set_option linter.unusedSimpArgs false
open Go.RowKit Go.Proofs.YthkheemjgcbofaaDoor.PSc Go.Proofs.YthkheemjgcbofaaDoorW.PrintWords Go.Proofs.YthkheemjgcbofaaDoorW.PrintLast Go.Proofs.YthkheemjgcbofaaDoorW.PrintMore

set_option maxHeartbeats 8000000 in
set_option maxRecDepth 100000 in
theorem rlines_c (x : S46) (v : Value) (te td tn : Int) (hs : List S57) (B : Option Addr) (d : Nat) (w : World) (hG : Glob w) (hxe : I64 te) (hxd : I64 td) (hxn : I64 tn) (hr : Kd.C k57 w B hs.length hs) (hd : hs.length ≤ d) (hok : ∀ h, h ∈ hs → Ok57 h ∧ h.f4.length ≤ 9) (hl9 : hs.length ≤ 9) (he : te = 0) (hk : ¬ x.f0 = 3) :
    Calls Tryd.prog 17 #[.agg (vals46 x v), .agg #[.int .i64 te, .slice B hs.length d, .int .i64 td, .int .i64 tn]] w (LPost (toldT x.f0 te td tn hs) w) := by
  obtain ⟨x0, x1, ⟨x2, x3, x4, ⟨x5, x6, x7, x8⟩, x9⟩, x10, x11⟩ := x
  simp only [vals46]
  have HE_ := Lib.hid he
  clear he
  have HK_ := Lib.hid hk
  clear hk
  have hGs := hG.size
  obtain ⟨ht, hht⟩ : ∃ T, T = headT x0 te td tn := ⟨_, rfl⟩
  have hpo : toldT x0 te td tn hs = ht ++ hs.flatMap heardT := by rw [hht]; rfl
  rw [hpo]
  have HHT := Lib.hid hht
  clear hpo hht
  have HR := Lib.hid hr
  have HOK := Lib.hid hok
  have HIE := Lib.hid hxe
  have HID := Lib.hid hxd
  have HIN := Lib.hid hxn
  obtain ⟨w1, hw1⟩ : ∃ W, W = (w.alloc (.cells #[.int .i64 x0, .int .i64 x1, .int .i64 x2, .bool x3, .int .u32 x4, .int .i64 x5, .int .i64 x6, .int .i64 x7, .int .i64 x8, .int .i64 x9, .int .i64 x10, v] 46 (0, 0))).alloc (.cells #[.int .i64 te, .slice B hs.length d, .int .i64 td, .int .i64 tn] 51 (0, 0)) := ⟨_, rfl⟩
  have hb1 : Below w.heap.size w w1 := by rw [hw1]; exact (Below.alloc (Below.refl _ _) (Nat.le_refl _) _).alloc (by simp) _
  have HX1 : Hid (w1.heap[w.heap.size]? = some (.cells #[.int .i64 x0, .int .i64 x1, .int .i64 x2, .bool x3, .int .u32 x4, .int .i64 x5, .int .i64 x6, .int .i64 x7, .int .i64 x8, .int .i64 x9, .int .i64 x10, v] 46 (0, 0))) := Lib.hid (by rw [hw1]; exact blk_alloc (blk_new w _) _)
  have HT1 : Hid (w1.heap[w.heap.size + 1]? = some (.cells #[.int .i64 te, .slice B hs.length d, .int .i64 td, .int .i64 tn] 51 (0, 0))) := Lib.hid (by rw [hw1]; exact blk_at _ _ (by simp))
  have HB1 := Lib.hid hb1
  have hz1 : w.heap.size + 2 ≤ w1.heap.size := blk_lt HT1.out
  clear hb1 hr hok hxe hxd hxn
  go_enter Tryd.func17, Tryd.ntmps17
  go_upto_region 1 with (fail)
  rw [← hw1]
  clear hw1
  obtain ⟨g0, g1, g2, g3⟩ : w1.cell? ⟨w.heap.size + 1, 0, none⟩ = some (.int .i64 te) ∧ w1.cell? ⟨w.heap.size + 1, 1, none⟩ = some (.slice B hs.length d) ∧ w1.cell? ⟨w.heap.size + 1, 2, none⟩ = some (.int .i64 td) ∧ w1.cell? ⟨w.heap.size + 1, 3, none⟩ = some (.int .i64 tn) := ⟨(blk_cell HT1.out 0).trans rfl, (blk_cell HT1.out 1).trans rfl, (blk_cell HT1.out 2).trans rfl, (blk_cell HT1.out 3).trans rfl⟩
  have g3' : w1.cell? ⟨w.heap.size + 1, 2 + 1, none⟩ = some (.int .i64 tn) := g3
  have k0 : w1.cell? ⟨w.heap.size, 0, none⟩ = some (.int .i64 x0) := (blk_cell HX1.out 0).trans rfl
  have he := HE_.out
  subst he
  have hkd := HK_.out
  have hke : (x0 == 3) = false := by simpa using hkd
  have hkc : decide (x0 = 3) = false := by simpa using hkd
  have hhl : ht.length ≤ 60 := by
    rw [HHT.out]; unfold headT; rw [if_pos rfl, if_neg hkd]; decide
  have HE2 : Hid ((⟨#[111, 107]⟩ : ByteArray) ++ (⟨#[10]⟩ : ByteArray) = ⟨ht.toArray⟩) := Lib.hid (by
    rw [HHT.out]; unfold headT; rw [if_pos rfl, if_neg hkd]; rfl)
  go_upto_region 7 with (fail)
  rw [HE2.out]
  clear HE2 hke hkc hkd HE_ HK_
  obtain ⟨w6, hw6⟩ : ∃ W, W = w1 := ⟨_, rfl⟩
  have HB6 : Hid (Below w.heap.size w w6) := Lib.hid (by rw [hw6]; exact HB1.out)
  have HT6 : Hid (w6.heap[w.heap.size + 1]? = some (.cells #[.int .i64 0, .slice B hs.length d, .int .i64 td, .int .i64 tn] 51 (0, 0))) := Lib.hid (by rw [hw6]; exact HT1.out)
  rw [← hw6]
  clear hw6
  clear g0 g2 g3 g3' k0 HIE HID HIN
  have g1 : w6.cell? ⟨w.heap.size + 1, 1, none⟩ = some (.slice B hs.length d) := (blk_cell HT6.out 1).trans rfl
  go_wp2_with fail
  go_loopw [5, 35] (fun s i wr => ∃ k : Nat, k ≤ hs.length ∧ i = .int .i64 k ∧ s = .string ⟨(ht ++ (hs.take k).flatMap heardT).toArray⟩ ∧ Hid (Below w.heap.size w wr)) (fun _ i _ => hs.length - (intOf i).toNat)
  case atStart => exact ⟨0, by omega, rfl, by simp, HB6⟩
  case round =>
    obtain ⟨k, hk, rfl, rfl, HBEL⟩ := hrel
    have hbel := HBEL.out
    have hwz := hbel.size
    by_cases hlt : k < hs.length
    · obtain ⟨h, hh⟩ : ∃ h, hs[k]? = some h := ⟨_, List.getElem?_eq_getElem hlt⟩
      have htk : hs.take (k + 1) = hs.take k ++ [h] := by rw [List.take_add_one, hh]; rfl
      obtain ⟨ad, A11, c11, rfl, h0, h1, h2, h3, h4, h5, h6, h7, h8, h9, h10, h11, h12, h13, h14, h15, hl, hC⟩ := at_T57 HR.out (k : Int) (by omega) (by omega)
      have hrd : rd_T57 hs (k : Int) = h := by unfold rd_T57; simp [hh]
      rw [hrd] at h0 h1 h2 h3 h4 h5 h6 h7 h8 h9 h10 h11 h12 h13 h14 h15 hl hC
      simp only [Int.toNat_natCast] at h0 h1 h2 h3 h4 h5 h6 h7 h8 h9 h10 h11 h12 h13 h14 h15
      replace h0 := (hbel.cell (World.block_lt_of_cell? _ _ h0)).trans h0
      replace h1 := (hbel.cell (World.block_lt_of_cell? _ _ h1)).trans h1
      replace h2 := (hbel.cell (World.block_lt_of_cell? _ _ h2)).trans h2
      replace h3 := (hbel.cell (World.block_lt_of_cell? _ _ h3)).trans h3
      replace h4 := (hbel.cell (World.block_lt_of_cell? _ _ h4)).trans h4
      replace h5 := (hbel.cell (World.block_lt_of_cell? _ _ h5)).trans h5
      replace h6 := (hbel.cell (World.block_lt_of_cell? _ _ h6)).trans h6
      replace h7 := (hbel.cell (World.block_lt_of_cell? _ _ h7)).trans h7
      replace h8 := (hbel.cell (World.block_lt_of_cell? _ _ h8)).trans h8
      replace h9 := (hbel.cell (World.block_lt_of_cell? _ _ h9)).trans h9
      replace h10 := (hbel.cell (World.block_lt_of_cell? _ _ h10)).trans h10
      replace h11 := (hbel.cell (World.block_lt_of_cell? _ _ h11)).trans h11
      replace h12 := (hbel.cell (World.block_lt_of_cell? _ _ h12)).trans h12
      replace h13 := (hbel.cell (World.block_lt_of_cell? _ _ h13)).trans h13
      replace h14 := (hbel.cell (World.block_lt_of_cell? _ _ h14)).trans h14
      replace h15 := (hbel.cell (World.block_lt_of_cell? _ _ h15)).trans h15
      have hmem : h ∈ hs := List.mem_of_getElem? hh
      have HOH := Lib.hid (HOK.out h hmem)
      have HKC := Lib.hid hC
      have HTK := Lib.hid htk
      have hel := heards_le (hs.take k) (fun y hy => HOK.out y (List.mem_of_mem_take hy))
      rw [List.length_take] at hel
      obtain ⟨l0, hl0⟩ : ∃ l0, l0 = ht ++ (hs.take k).flatMap heardT := ⟨_, rfl⟩
      have hl0l : l0.length ≤ 20000 := by rw [hl0, List.length_append]; omega
      rw [← hl0]
      have HL0 := Lib.hid hl0
      have hvl := verbF_le h.f1.f0
      have hr9 := (HOK.out h hmem).2
      have hhh := heardH_le h (HOK.out h hmem).1
      obtain ⟨v0, hv0⟩ : ∃ W, W = wr.alloc (.cells #[.int .i64 h.f0, .int .i64 h.f1.f0, .bool h.f1.f1, .int .u32 h.f1.f2, .int .i64 h.f1.f3.f0, .int .i64 h.f1.f3.f1, .int .i64 h.f1.f3.f2, .int .i64 h.f1.f3.f3, .int .i64 h.f1.f4, .int .i64 h.f2, .int .u64 h.f3, .slice A11 h.f4.length c11, .int .u64 h.f5, .int .u64 h.f6, .int .u64 h.f7, .bool h.f8] 57 (0, 0)) := ⟨_, rfl⟩
      have HH0 : Hid (v0.heap[wr.heap.size]? = some (.cells #[.int .i64 h.f0, .int .i64 h.f1.f0, .bool h.f1.f1, .int .u32 h.f1.f2, .int .i64 h.f1.f3.f0, .int .i64 h.f1.f3.f1, .int .i64 h.f1.f3.f2, .int .i64 h.f1.f3.f3, .int .i64 h.f1.f4, .int .i64 h.f2, .int .u64 h.f3, .slice A11 h.f4.length c11, .int .u64 h.f5, .int .u64 h.f6, .int .u64 h.f7, .bool h.f8] 57 (0, 0))) := Lib.hid (by rw [hv0]; exact blk_new wr _)
      have HN0 : Hid (Below w.heap.size w v0) := Lib.hid (by rw [hv0]; exact hbel.alloc hwz _)
      clear hbel hrd hh htk hmem hl hC hl0 hel
      go_upto_region 10 with (fail)
      rw [← hv0]
      clear hv0 h0 h1 h2 h3 h4 h5 h6 h7 h8 h9 h10 h11 h12 h13 h14 h15
      obtain ⟨nb, hnbe⟩ : ∃ nb, nb = wr.heap.size := ⟨_, rfl⟩
      have hnb : w.heap.size ≤ nb := by omega
      rw [← hnbe] at HH0 ⊢
      clear hnbe
      have hb1 := itoa_le HOH.out.1.s
      have hb2 := itoa_le HOH.out.1.e
      have hb4 := itoa_le (bitF_i64 h.f8)
      have hb5 := itoaU_le HOH.out.1.a
      have hb6 := itoaU_le HOH.out.1.b
      have hb7 := itoaU_le HOH.out.1.c
      have e0 : v0.cell? ⟨nb, 0, none⟩ = some (.int .i64 h.f0) := (blk_cell HH0.out 0).trans rfl
      have e1 : v0.cell? ⟨nb, 1, none⟩ = some (.int .i64 h.f1.f0) := (blk_cell HH0.out 1).trans rfl
      have e9 : v0.cell? ⟨nb, 9, none⟩ = some (.int .i64 h.f2) := (blk_cell HH0.out 9).trans rfl
      have e12 : v0.cell? ⟨nb, 12, none⟩ = some (.int .u64 h.f5) := (blk_cell HH0.out 12).trans rfl
      have e13 : v0.cell? ⟨nb, 13, none⟩ = some (.int .u64 h.f6) := (blk_cell HH0.out 13).trans rfl
      have e14 : v0.cell? ⟨nb, 14, none⟩ = some (.int .u64 h.f7) := (blk_cell HH0.out 14).trans rfl
      have e15 : v0.cell? ⟨nb, 15, none⟩ = some (.bool h.f8) := (blk_cell HH0.out 15).trans rfl
      refine start_ (n := 41) (S := fun w' => w'.cell? ⟨nb, 0, none⟩ = some (.int .i64 h.f0) ∧ w'.cell? ⟨nb, 1, none⟩ = some (.int .i64 h.f1.f0) ∧ w'.cell? ⟨nb, 9, none⟩ = some (.int .i64 h.f2) ∧ w'.cell? ⟨nb, 12, none⟩ = some (.int .u64 h.f5) ∧ w'.cell? ⟨nb, 13, none⟩ = some (.int .u64 h.f6) ∧ w'.cell? ⟨nb, 14, none⟩ = some (.int .u64 h.f7) ∧ w'.cell? ⟨nb, 15, none⟩ = some (.bool h.f8)) (ds := []) #[false, false, false, false, false, false, false, false, false, false, false, false, false, false, false, false, false, false, false, false, false, false, false, false, false, false, false, false, false, false, false, false, false, false, false, false, false, false, false, false, false] (by kernel_rfl) rfl rfl ⟨e0, e1, e9, e12, e13, e14, e15⟩ (fun hHeld => ?_)
      refine pure_ (i := 0) (N := some 39) (v := ?_) (a' := ?_) #[true, false, false, false, false, false, false, false, false, false, false, false, false, false, false, false, false, false, false, false, false, false, false, false, false, false, false, false, false, false, false, false, false, false, false, false, false, false, false, false, false] rfl rfl (by kernel_rfl) (fun _ _ _ h => h) (Or.inl ⟨by rfl, ?_⟩) ?_ ?_
      rotate_left
      · intro w'
        go_simp
        first | with_reducible rfl | (rw [if_neg (by omega)]; done) | (rw [if_neg (by simp; omega)]; done)
      rotate_left
      · simp only [Act.put, List.setIfInBounds_toArray, List.set_cons_zero, List.set_cons_succ, i64_w, i32_w]
        rfl
      refine pure_ (i := 1) (N := some 40) (v := ?_) (a' := ?_) #[true, true, false, false, false, false, false, false, false, false, false, false, false, false, false, false, false, false, false, false, false, false, false, false, false, false, false, false, false, false, false, false, false, false, false, false, false, false, false, false, false] rfl rfl (by kernel_rfl) (fun _ _ _ h => h) (Or.inl ⟨by rfl, ?_⟩) ?_ ?_
      rotate_left
      · intro w'
        go_simp
        first | with_reducible rfl | (rw [if_neg (by omega)]; done) | (rw [if_neg (by simp; omega)]; done)
      rotate_left
      · simp only [Act.put, List.setIfInBounds_toArray, List.set_cons_zero, List.set_cons_succ, i64_w, i32_w]
        rfl
      refine pure_ (i := 6) (N := some 45) (v := ?_) (a' := ?_) #[true, true, false, false, false, false, true, false, false, false, false, false, false, false, false, false, false, false, false, false, false, false, false, false, false, false, false, false, false, false, false, false, false, false, false, false, false, false, false, false, false] rfl rfl (by kernel_rfl) (fun _ _ _ h => h) (Or.inl ⟨by rfl, ?_⟩) ?_ ?_
      rotate_left
      · intro w'
        go_simp
        first | with_reducible rfl | (rw [if_neg (by omega)]; done) | (rw [if_neg (by simp; omega)]; done)
      rotate_left
      · simp only [Act.put, List.setIfInBounds_toArray, List.set_cons_zero, List.set_cons_succ, i64_w, i32_w]
        rfl
      refine pure_ (i := 7) (N := some 46) (v := ?_) (a' := ?_) #[true, true, false, false, false, false, true, true, false, false, false, false, false, false, false, false, false, false, false, false, false, false, false, false, false, false, false, false, false, false, false, false, false, false, false, false, false, false, false, false, false] rfl rfl (by kernel_rfl) (fun _ _ _ h => h) (Or.inl ⟨by rfl, ?_⟩) ?_ ?_
      rotate_left
      · intro w'
        go_simp
        first | with_reducible rfl | (rw [if_neg (by omega)]; done) | (rw [if_neg (by simp; omega)]; done)
      rotate_left
      · simp only [Act.put, List.setIfInBounds_toArray, List.set_cons_zero, List.set_cons_succ, i64_w, i32_w]
        rfl
      refine pure_ (i := 12) (N := some 51) (v := ?_) (a' := ?_) #[true, true, false, false, false, false, true, true, false, false, false, false, true, false, false, false, false, false, false, false, false, false, false, false, false, false, false, false, false, false, false, false, false, false, false, false, false, false, false, false, false] rfl rfl (by kernel_rfl) (fun _ _ _ h => h) (Or.inl ⟨by rfl, ?_⟩) ?_ ?_
      rotate_left
      · intro w'
        go_simp
        first | with_reducible rfl | (rw [if_neg (by omega)]; done) | (rw [if_neg (by simp; omega)]; done)
      rotate_left
      · simp only [Act.put, List.setIfInBounds_toArray, List.set_cons_zero, List.set_cons_succ, i64_w, i32_w]
        rfl
      refine pure_ (i := 13) (N := some 52) (v := ?_) (a' := ?_) #[true, true, false, false, false, false, true, true, false, false, false, false, true, true, false, false, false, false, false, false, false, false, false, false, false, false, false, false, false, false, false, false, false, false, false, false, false, false, false, false, false] rfl rfl (by kernel_rfl) (fun _ _ _ h => h) (Or.inl ⟨by rfl, ?_⟩) ?_ ?_
      rotate_left
      · intro w'
        go_simp
        first | with_reducible rfl | (rw [if_neg (by omega)]; done) | (rw [if_neg (by simp; omega)]; done)
      rotate_left
      · simp only [Act.put, List.setIfInBounds_toArray, List.set_cons_zero, List.set_cons_succ, i64_w, i32_w]
        rfl
      refine pure_ (i := 18) (N := some 57) (v := ?_) (a' := ?_) #[true, true, false, false, false, false, true, true, false, false, false, false, true, true, false, false, false, false, true, false, false, false, false, false, false, false, false, false, false, false, false, false, false, false, false, false, false, false, false, false, false] rfl rfl (by kernel_rfl) (fun _ _ _ h => h) (Or.inl ⟨by rfl, ?_⟩) ?_ ?_
      rotate_left
      · intro w'
        go_simp
        first | with_reducible rfl | (rw [if_neg (by omega)]; done) | (rw [if_neg (by simp; omega)]; done)
      rotate_left
      · simp only [Act.put, List.setIfInBounds_toArray, List.set_cons_zero, List.set_cons_succ, i64_w, i32_w]
        rfl
      refine pure_ (i := 23) (N := some 62) (v := ?_) (a' := ?_) #[true, true, false, false, false, false, true, true, false, false, false, false, true, true, false, false, false, false, true, false, false, false, false, true, false, false, false, false, false, false, false, false, false, false, false, false, false, false, false, false, false] rfl rfl (by kernel_rfl) (fun _ _ _ h => h) (Or.inl ⟨by rfl, ?_⟩) ?_ ?_
      rotate_left
      · intro w'
        go_simp
        first | with_reducible rfl | (rw [if_neg (by omega)]; done) | (rw [if_neg (by simp; omega)]; done)
      rotate_left
      · simp only [Act.put, List.setIfInBounds_toArray, List.set_cons_zero, List.set_cons_succ, i64_w, i32_w]
        rfl
      refine pure_ (i := 28) (N := some 67) (v := ?_) (a' := ?_) #[true, true, false, false, false, false, true, true, false, false, false, false, true, true, false, false, false, false, true, false, false, false, false, true, false, false, false, false, true, false, false, false, false, false, false, false, false, false, false, false, false] rfl rfl (by kernel_rfl) (fun _ _ _ h => h) (Or.inl ⟨by rfl, ?_⟩) ?_ ?_
      rotate_left
      · intro w'
        go_simp
        first | with_reducible rfl | (rw [if_neg (by omega)]; done) | (rw [if_neg (by simp; omega)]; done)
      rotate_left
      · simp only [Act.put, List.setIfInBounds_toArray, List.set_cons_zero, List.set_cons_succ, i64_w, i32_w]
        rfl
      refine pure_ (i := 33) (N := some 72) (v := ?_) (a' := ?_) #[true, true, false, false, false, false, true, true, false, false, false, false, true, true, false, false, false, false, true, false, false, false, false, true, false, false, false, false, true, false, false, false, false, true, false, false, false, false, false, false, false] rfl rfl (by kernel_rfl) (fun _ _ _ h => h) (Or.inl ⟨by rfl, ?_⟩) ?_ ?_
      rotate_left
      · intro w'
        go_simp
        first | with_reducible rfl | (rw [if_neg (by omega)]; done) | (rw [if_neg (by simp; omega)]; done)
      rotate_left
      · simp only [Act.put, List.setIfInBounds_toArray, List.set_cons_zero, List.set_cons_succ, i64_w, i32_w]
        rfl
      refine take_ (i := 2) (N := some 41) (v := ?_) (a' := ?_) #[true, true, true, false, false, false, true, true, false, false, false, false, true, true, false, false, false, false, true, false, false, false, false, true, false, false, false, false, true, false, false, false, false, true, false, false, false, false, false, false, false] rfl rfl (by kernel_rfl) (fun _ _ _ h => h) (Or.inl ⟨by rfl, ?_⟩) hHeld ?_ ?_
      rotate_left
      · rintro w' ⟨s0, s1, s2, s3, s4, s5, s6⟩
        go_simp
        first | with_reducible rfl | (rw [if_neg (by omega)]; done) | (rw [if_neg (by simp; omega)]; done)
      rotate_left
      · simp only [Act.put, List.setIfInBounds_toArray, List.set_cons_zero, List.set_cons_succ, i64_w, i32_w]
        rfl
      refine take_ (i := 8) (N := some 47) (v := ?_) (a' := ?_) #[true, true, true, false, false, false, true, true, true, false, false, false, true, true, false, false, false, false, true, false, false, false, false, true, false, false, false, false, true, false, false, false, false, true, false, false, false, false, false, false, false] rfl rfl (by kernel_rfl) (fun _ _ _ h => h) (Or.inl ⟨by rfl, ?_⟩) hHeld ?_ ?_
      rotate_left
      · rintro w' ⟨s0, s1, s2, s3, s4, s5, s6⟩
        go_simp
        first | with_reducible rfl | (rw [if_neg (by omega)]; done) | (rw [if_neg (by simp; omega)]; done)
      rotate_left
      · simp only [Act.put, List.setIfInBounds_toArray, List.set_cons_zero, List.set_cons_succ, i64_w, i32_w]
        rfl
      refine take_ (i := 14) (N := some 53) (v := ?_) (a' := ?_) #[true, true, true, false, false, false, true, true, true, false, false, false, true, true, true, false, false, false, true, false, false, false, false, true, false, false, false, false, true, false, false, false, false, true, false, false, false, false, false, false, false] rfl rfl (by kernel_rfl) (fun _ _ _ h => h) (Or.inl ⟨by rfl, ?_⟩) hHeld ?_ ?_
      rotate_left
      · rintro w' ⟨s0, s1, s2, s3, s4, s5, s6⟩
        go_simp
        first | with_reducible rfl | (rw [if_neg (by omega)]; done) | (rw [if_neg (by simp; omega)]; done)
      rotate_left
      · simp only [Act.put, List.setIfInBounds_toArray, List.set_cons_zero, List.set_cons_succ, i64_w, i32_w]
        rfl
      refine take_ (i := 19) (N := some 58) (v := ?_) (a' := ?_) #[true, true, true, false, false, false, true, true, true, false, false, false, true, true, true, false, false, false, true, true, false, false, false, true, false, false, false, false, true, false, false, false, false, true, false, false, false, false, false, false, false] rfl rfl (by kernel_rfl) (fun _ _ _ h => h) (Or.inl ⟨by rfl, ?_⟩) hHeld ?_ ?_
      rotate_left
      · rintro w' ⟨s0, s1, s2, s3, s4, s5, s6⟩
        go_simp
        first | with_reducible rfl | (rw [if_neg (by omega)]; done) | (rw [if_neg (by simp; omega)]; done)
      rotate_left
      · simp only [Act.put, List.setIfInBounds_toArray, List.set_cons_zero, List.set_cons_succ, i64_w, i32_w]
        rfl
      refine take_ (i := 24) (N := some 63) (v := ?_) (a' := ?_) #[true, true, true, false, false, false, true, true, true, false, false, false, true, true, true, false, false, false, true, true, false, false, false, true, true, false, false, false, true, false, false, false, false, true, false, false, false, false, false, false, false] rfl rfl (by kernel_rfl) (fun _ _ _ h => h) (Or.inl ⟨by rfl, ?_⟩) hHeld ?_ ?_
      rotate_left
      · rintro w' ⟨s0, s1, s2, s3, s4, s5, s6⟩
        go_simp
        first | with_reducible rfl | (rw [if_neg (by omega)]; done) | (rw [if_neg (by simp; omega)]; done)
      rotate_left
      · simp only [Act.put, List.setIfInBounds_toArray, List.set_cons_zero, List.set_cons_succ, i64_w, i32_w]
        rfl
      refine take_ (i := 29) (N := some 68) (v := ?_) (a' := ?_) #[true, true, true, false, false, false, true, true, true, false, false, false, true, true, true, false, false, false, true, true, false, false, false, true, true, false, false, false, true, true, false, false, false, true, false, false, false, false, false, false, false] rfl rfl (by kernel_rfl) (fun _ _ _ h => h) (Or.inl ⟨by rfl, ?_⟩) hHeld ?_ ?_
      rotate_left
      · rintro w' ⟨s0, s1, s2, s3, s4, s5, s6⟩
        go_simp
        first | with_reducible rfl | (rw [if_neg (by omega)]; done) | (rw [if_neg (by simp; omega)]; done)
      rotate_left
      · simp only [Act.put, List.setIfInBounds_toArray, List.set_cons_zero, List.set_cons_succ, i64_w, i32_w]
        rfl
      refine take_ (i := 34) (N := some 73) (v := ?_) (a' := ?_) #[true, true, true, false, false, false, true, true, true, false, false, false, true, true, true, false, false, false, true, true, false, false, false, true, true, false, false, false, true, true, false, false, false, true, true, false, false, false, false, false, false] rfl rfl (by kernel_rfl) (fun _ _ _ h => h) (Or.inl ⟨by rfl, ?_⟩) hHeld ?_ ?_
      rotate_left
      · rintro w' ⟨s0, s1, s2, s3, s4, s5, s6⟩
        go_simp
        first | with_reducible rfl | (rw [if_neg (by omega)]; done) | (rw [if_neg (by simp; omega)]; done)
      rotate_left
      · simp only [Act.put, List.setIfInBounds_toArray, List.set_cons_zero, List.set_cons_succ, i64_w, i32_w]
        rfl
      refine one_ (i := 3) (N := some 42) #[true, true, true, true, false, false, true, true, true, false, false, false, true, true, true, false, false, false, true, true, false, false, false, true, true, false, false, false, true, true, false, false, false, true, true, false, false, false, false, false, false] rfl rfl (by kernel_rfl) (by decide) (fun K hK => ?_)
      refine goes_ Tryd.func36 (by kernel_rfl) rfl #[.int .i64 h.f0] (by rfl) rfl rfl (by simp only [List.map_toArray, List.map_cons, List.map_nil]; rfl) ?_
      with_reducible refine (number_ref _ HOH.out.1.s _).mono ?_
      rintro e _ ⟨rfl, rfl⟩
      refine ⟨_, rfl, ?_⟩
      refine hK.out _ _ ⟨e0, e1, e9, e12, e13, e14, e15⟩ (fun hHeld => ?_)
      clear hK K
      refine norm_ (a' := ?_) ?_ ?_
      rotate_left
      · show Act.put _ (some 42) _ = _
        simp only [Act.put, List.setIfInBounds_toArray, List.set_cons_zero, List.set_cons_succ, i64_w, i32_w]
        rfl
      refine pure_ (i := 4) (N := some 43) (v := ?_) (a' := ?_) #[true, true, true, true, true, false, true, true, true, false, false, false, true, true, true, false, false, false, true, true, false, false, false, true, true, false, false, false, true, true, false, false, false, true, true, false, false, false, false, false, false] rfl rfl (by kernel_rfl) (fun _ _ _ h => h) (Or.inl ⟨by rfl, ?_⟩) ?_ ?_
      rotate_left
      · intro w'
        go_simp
        first | with_reducible rfl | (rw [if_neg (by omega)]; done) | (rw [if_neg (by simp; omega)]; done)
      rotate_left
      · simp only [Act.put, List.setIfInBounds_toArray, List.set_cons_zero, List.set_cons_succ, i64_w, i32_w]
        rfl
      refine pure_ (i := 5) (N := some 44) (v := ?_) (a' := ?_) #[true, true, true, true, true, true, true, true, true, false, false, false, true, true, true, false, false, false, true, true, false, false, false, true, true, false, false, false, true, true, false, false, false, true, true, false, false, false, false, false, false] rfl rfl (by kernel_rfl) (fun _ _ _ h => h) (Or.inl ⟨by rfl, ?_⟩) ?_ ?_
      rotate_left
      · intro w'
        go_simp
        first | with_reducible rfl | (rw [if_neg (by omega)]; done) | (rw [if_neg (by simp; omega)]; done)
      rotate_left
      · simp only [Act.put, List.setIfInBounds_toArray, List.set_cons_zero, List.set_cons_succ, i64_w, i32_w]
        rfl
      refine one_ (i := 9) (N := some 48) #[true, true, true, true, true, true, true, true, true, true, false, false, true, true, true, false, false, false, true, true, false, false, false, true, true, false, false, false, true, true, false, false, false, true, true, false, false, false, false, false, false] rfl rfl (by kernel_rfl) (by decide) (fun K hK => ?_)
      refine goes_ Tryd.func38 (by kernel_rfl) rfl #[.int .i64 h.f1.f0] (by rfl) rfl rfl (by simp only [List.map_toArray, List.map_cons, List.map_nil]; rfl) ?_
      with_reducible refine (opWord_calls _ _).mono ?_
      rintro e _ ⟨rfl, rfl⟩
      refine ⟨_, rfl, ?_⟩
      refine hK.out _ _ ⟨e0, e1, e9, e12, e13, e14, e15⟩ (fun hHeld => ?_)
      clear hK K
      refine norm_ (a' := ?_) ?_ ?_
      rotate_left
      · show Act.put _ (some 48) _ = _
        simp only [Act.put, List.setIfInBounds_toArray, List.set_cons_zero, List.set_cons_succ, i64_w, i32_w]
        rfl
      refine pure_ (i := 10) (N := some 49) (v := ?_) (a' := ?_) #[true, true, true, true, true, true, true, true, true, true, true, false, true, true, true, false, false, false, true, true, false, false, false, true, true, false, false, false, true, true, false, false, false, true, true, false, false, false, false, false, false] rfl rfl (by kernel_rfl) (fun _ _ _ h => h) (Or.inl ⟨by rfl, ?_⟩) ?_ ?_
      rotate_left
      · intro w'
        go_simp
        first | with_reducible rfl | (rw [if_neg (by omega)]; done) | (rw [if_neg (by simp; omega)]; done)
      rotate_left
      · simp only [Act.put, List.setIfInBounds_toArray, List.set_cons_zero, List.set_cons_succ, i64_w, i32_w]
        rfl
      refine pure_ (i := 11) (N := some 50) (v := ?_) (a' := ?_) #[true, true, true, true, true, true, true, true, true, true, true, true, true, true, true, false, false, false, true, true, false, false, false, true, true, false, false, false, true, true, false, false, false, true, true, false, false, false, false, false, false] rfl rfl (by kernel_rfl) (fun _ _ _ h => h) (Or.inl ⟨by rfl, ?_⟩) ?_ ?_
      rotate_left
      · intro w'
        go_simp
        first | with_reducible rfl | (rw [if_neg (by omega)]; done) | (rw [if_neg (by simp; omega)]; done)
      rotate_left
      · simp only [Act.put, List.setIfInBounds_toArray, List.set_cons_zero, List.set_cons_succ, i64_w, i32_w]
        rfl
      refine one_ (i := 15) (N := some 54) #[true, true, true, true, true, true, true, true, true, true, true, true, true, true, true, true, false, false, true, true, false, false, false, true, true, false, false, false, true, true, false, false, false, true, true, false, false, false, false, false, false] rfl rfl (by kernel_rfl) (by decide) (fun K hK => ?_)
      refine goes_ Tryd.func36 (by kernel_rfl) rfl #[.int .i64 h.f2] (by rfl) rfl rfl (by simp only [List.map_toArray, List.map_cons, List.map_nil]; rfl) ?_
      with_reducible refine (number_ref _ HOH.out.1.e _).mono ?_
      rintro e _ ⟨rfl, rfl⟩
      refine ⟨_, rfl, ?_⟩
      refine hK.out _ _ ⟨e0, e1, e9, e12, e13, e14, e15⟩ (fun hHeld => ?_)
      clear hK K
      refine norm_ (a' := ?_) ?_ ?_
      rotate_left
      · show Act.put _ (some 54) _ = _
        simp only [Act.put, List.setIfInBounds_toArray, List.set_cons_zero, List.set_cons_succ, i64_w, i32_w]
        rfl
      refine pure_ (i := 16) (N := some 55) (v := ?_) (a' := ?_) #[true, true, true, true, true, true, true, true, true, true, true, true, true, true, true, true, true, false, true, true, false, false, false, true, true, false, false, false, true, true, false, false, false, true, true, false, false, false, false, false, false] rfl rfl (by kernel_rfl) (fun _ _ _ h => h) (Or.inl ⟨by rfl, ?_⟩) ?_ ?_
      rotate_left
      · intro w'
        go_simp
        first | with_reducible rfl | (rw [if_neg (by omega)]; done) | (rw [if_neg (by simp; omega)]; done)
      rotate_left
      · simp only [Act.put, List.setIfInBounds_toArray, List.set_cons_zero, List.set_cons_succ, i64_w, i32_w]
        rfl
      refine pure_ (i := 17) (N := some 56) (v := ?_) (a' := ?_) #[true, true, true, true, true, true, true, true, true, true, true, true, true, true, true, true, true, true, true, true, false, false, false, true, true, false, false, false, true, true, false, false, false, true, true, false, false, false, false, false, false] rfl rfl (by kernel_rfl) (fun _ _ _ h => h) (Or.inl ⟨by rfl, ?_⟩) ?_ ?_
      rotate_left
      · intro w'
        go_simp
        first | with_reducible rfl | (rw [if_neg (by omega)]; done) | (rw [if_neg (by simp; omega)]; done)
      rotate_left
      · simp only [Act.put, List.setIfInBounds_toArray, List.set_cons_zero, List.set_cons_succ, i64_w, i32_w]
        rfl
      refine one_ (i := 20) (N := some 59) #[true, true, true, true, true, true, true, true, true, true, true, true, true, true, true, true, true, true, true, true, true, false, false, true, true, false, false, false, true, true, false, false, false, true, true, false, false, false, false, false, false] rfl rfl (by kernel_rfl) (by decide) (fun K hK => ?_)
      refine goes_ Tryd.func39 (by kernel_rfl) rfl #[.int .u64 h.f5] (by rfl) rfl rfl (by simp only [List.map_toArray, List.map_cons, List.map_nil]; rfl) ?_
      with_reducible refine (whole_ref _ HOH.out.1.a _).mono ?_
      rintro e _ ⟨rfl, rfl⟩
      refine ⟨_, rfl, ?_⟩
      refine hK.out _ _ ⟨e0, e1, e9, e12, e13, e14, e15⟩ (fun hHeld => ?_)
      clear hK K
      refine norm_ (a' := ?_) ?_ ?_
      rotate_left
      · show Act.put _ (some 59) _ = _
        simp only [Act.put, List.setIfInBounds_toArray, List.set_cons_zero, List.set_cons_succ, i64_w, i32_w]
        rfl
      refine pure_ (i := 21) (N := some 60) (v := ?_) (a' := ?_) #[true, true, true, true, true, true, true, true, true, true, true, true, true, true, true, true, true, true, true, true, true, true, false, true, true, false, false, false, true, true, false, false, false, true, true, false, false, false, false, false, false] rfl rfl (by kernel_rfl) (fun _ _ _ h => h) (Or.inl ⟨by rfl, ?_⟩) ?_ ?_
      rotate_left
      · intro w'
        go_simp
        first | with_reducible rfl | (rw [if_neg (by omega)]; done) | (rw [if_neg (by simp; omega)]; done)
      rotate_left
      · simp only [Act.put, List.setIfInBounds_toArray, List.set_cons_zero, List.set_cons_succ, i64_w, i32_w]
        rfl
      refine pure_ (i := 22) (N := some 61) (v := ?_) (a' := ?_) #[true, true, true, true, true, true, true, true, true, true, true, true, true, true, true, true, true, true, true, true, true, true, true, true, true, false, false, false, true, true, false, false, false, true, true, false, false, false, false, false, false] rfl rfl (by kernel_rfl) (fun _ _ _ h => h) (Or.inl ⟨by rfl, ?_⟩) ?_ ?_
      rotate_left
      · intro w'
        go_simp
        first | with_reducible rfl | (rw [if_neg (by omega)]; done) | (rw [if_neg (by simp; omega)]; done)
      rotate_left
      · simp only [Act.put, List.setIfInBounds_toArray, List.set_cons_zero, List.set_cons_succ, i64_w, i32_w]
        rfl
      refine one_ (i := 25) (N := some 64) #[true, true, true, true, true, true, true, true, true, true, true, true, true, true, true, true, true, true, true, true, true, true, true, true, true, true, false, false, true, true, false, false, false, true, true, false, false, false, false, false, false] rfl rfl (by kernel_rfl) (by decide) (fun K hK => ?_)
      refine goes_ Tryd.func39 (by kernel_rfl) rfl #[.int .u64 h.f6] (by rfl) rfl rfl (by simp only [List.map_toArray, List.map_cons, List.map_nil]; rfl) ?_
      with_reducible refine (whole_ref _ HOH.out.1.b _).mono ?_
      rintro e _ ⟨rfl, rfl⟩
      refine ⟨_, rfl, ?_⟩
      refine hK.out _ _ ⟨e0, e1, e9, e12, e13, e14, e15⟩ (fun hHeld => ?_)
      clear hK K
      refine norm_ (a' := ?_) ?_ ?_
      rotate_left
      · show Act.put _ (some 64) _ = _
        simp only [Act.put, List.setIfInBounds_toArray, List.set_cons_zero, List.set_cons_succ, i64_w, i32_w]
        rfl
      refine pure_ (i := 26) (N := some 65) (v := ?_) (a' := ?_) #[true, true, true, true, true, true, true, true, true, true, true, true, true, true, true, true, true, true, true, true, true, true, true, true, true, true, true, false, true, true, false, false, false, true, true, false, false, false, false, false, false] rfl rfl (by kernel_rfl) (fun _ _ _ h => h) (Or.inl ⟨by rfl, ?_⟩) ?_ ?_
      rotate_left
      · intro w'
        go_simp
        first | with_reducible rfl | (rw [if_neg (by omega)]; done) | (rw [if_neg (by simp; omega)]; done)
      rotate_left
      · simp only [Act.put, List.setIfInBounds_toArray, List.set_cons_zero, List.set_cons_succ, i64_w, i32_w]
        rfl
      refine pure_ (i := 27) (N := some 66) (v := ?_) (a' := ?_) #[true, true, true, true, true, true, true, true, true, true, true, true, true, true, true, true, true, true, true, true, true, true, true, true, true, true, true, true, true, true, false, false, false, true, true, false, false, false, false, false, false] rfl rfl (by kernel_rfl) (fun _ _ _ h => h) (Or.inl ⟨by rfl, ?_⟩) ?_ ?_
      rotate_left
      · intro w'
        go_simp
        first | with_reducible rfl | (rw [if_neg (by omega)]; done) | (rw [if_neg (by simp; omega)]; done)
      rotate_left
      · simp only [Act.put, List.setIfInBounds_toArray, List.set_cons_zero, List.set_cons_succ, i64_w, i32_w]
        rfl
      refine one_ (i := 30) (N := some 69) #[true, true, true, true, true, true, true, true, true, true, true, true, true, true, true, true, true, true, true, true, true, true, true, true, true, true, true, true, true, true, true, false, false, true, true, false, false, false, false, false, false] rfl rfl (by kernel_rfl) (by decide) (fun K hK => ?_)
      refine goes_ Tryd.func39 (by kernel_rfl) rfl #[.int .u64 h.f7] (by rfl) rfl rfl (by simp only [List.map_toArray, List.map_cons, List.map_nil]; rfl) ?_
      with_reducible refine (whole_ref _ HOH.out.1.c _).mono ?_
      rintro e _ ⟨rfl, rfl⟩
      refine ⟨_, rfl, ?_⟩
      refine hK.out _ _ ⟨e0, e1, e9, e12, e13, e14, e15⟩ (fun hHeld => ?_)
      clear hK K
      refine norm_ (a' := ?_) ?_ ?_
      rotate_left
      · show Act.put _ (some 69) _ = _
        simp only [Act.put, List.setIfInBounds_toArray, List.set_cons_zero, List.set_cons_succ, i64_w, i32_w]
        rfl
      refine pure_ (i := 31) (N := some 70) (v := ?_) (a' := ?_) #[true, true, true, true, true, true, true, true, true, true, true, true, true, true, true, true, true, true, true, true, true, true, true, true, true, true, true, true, true, true, true, true, false, true, true, false, false, false, false, false, false] rfl rfl (by kernel_rfl) (fun _ _ _ h => h) (Or.inl ⟨by rfl, ?_⟩) ?_ ?_
      rotate_left
      · intro w'
        go_simp
        first | with_reducible rfl | (rw [if_neg (by omega)]; done) | (rw [if_neg (by simp; omega)]; done)
      rotate_left
      · simp only [Act.put, List.setIfInBounds_toArray, List.set_cons_zero, List.set_cons_succ, i64_w, i32_w]
        rfl
      refine pure_ (i := 32) (N := some 71) (v := ?_) (a' := ?_) #[true, true, true, true, true, true, true, true, true, true, true, true, true, true, true, true, true, true, true, true, true, true, true, true, true, true, true, true, true, true, true, true, true, true, true, false, false, false, false, false, false] rfl rfl (by kernel_rfl) (fun _ _ _ h => h) (Or.inl ⟨by rfl, ?_⟩) ?_ ?_
      rotate_left
      · intro w'
        go_simp
        first | with_reducible rfl | (rw [if_neg (by omega)]; done) | (rw [if_neg (by simp; omega)]; done)
      rotate_left
      · simp only [Act.put, List.setIfInBounds_toArray, List.set_cons_zero, List.set_cons_succ, i64_w, i32_w]
        rfl
      refine one_ (i := 35) (N := some 74) #[true, true, true, true, true, true, true, true, true, true, true, true, true, true, true, true, true, true, true, true, true, true, true, true, true, true, true, true, true, true, true, true, true, true, true, true, false, false, false, false, false] rfl rfl (by kernel_rfl) (by decide) (fun K hK => ?_)
      refine goes_ Tryd.func40 (by kernel_rfl) rfl #[.bool h.f8] (by rfl) rfl rfl (by simp only [List.map_toArray, List.map_cons, List.map_nil]; rfl) ?_
      with_reducible refine (rbit_calls _ _).mono ?_
      rintro e _ ⟨rfl, rfl⟩
      refine ⟨_, rfl, ?_⟩
      refine hK.out _ _ ⟨e0, e1, e9, e12, e13, e14, e15⟩ (fun hHeld => ?_)
      clear hK K
      refine norm_ (a' := ?_) ?_ ?_
      rotate_left
      · show Act.put _ (some 74) _ = _
        simp only [Act.put, List.setIfInBounds_toArray, List.set_cons_zero, List.set_cons_succ, i64_w, i32_w]
        rfl
      refine one_ (i := 36) (N := some 75) #[true, true, true, true, true, true, true, true, true, true, true, true, true, true, true, true, true, true, true, true, true, true, true, true, true, true, true, true, true, true, true, true, true, true, true, true, true, false, false, false, false] rfl rfl (by kernel_rfl) (by decide) (fun K hK => ?_)
      refine goes_ Tryd.func36 (by kernel_rfl) rfl #[.int .i64 (bitF h.f8)] (by rfl) rfl rfl (by simp only [List.map_toArray, List.map_cons, List.map_nil]; rfl) ?_
      with_reducible refine (number_ref _ (bitF_i64 h.f8) _).mono ?_
      rintro e _ ⟨rfl, rfl⟩
      refine ⟨_, rfl, ?_⟩
      refine hK.out _ _ ⟨e0, e1, e9, e12, e13, e14, e15⟩ (fun hHeld => ?_)
      clear hK K
      refine norm_ (a' := ?_) ?_ ?_
      rotate_left
      · show Act.put _ (some 75) _ = _
        simp only [Act.put, List.setIfInBounds_toArray, List.set_cons_zero, List.set_cons_succ, i64_w, i32_w]
        rfl
      refine pure_ (i := 37) (N := some 76) (v := ?_) (a' := ?_) #[true, true, true, true, true, true, true, true, true, true, true, true, true, true, true, true, true, true, true, true, true, true, true, true, true, true, true, true, true, true, true, true, true, true, true, true, true, true, false, false, false] rfl rfl (by kernel_rfl) (fun _ _ _ h => h) (Or.inl ⟨by rfl, ?_⟩) ?_ ?_
      rotate_left
      · intro w'
        go_simp
        first | with_reducible rfl | (rw [if_neg (by omega)]; done) | (rw [if_neg (by simp; omega)]; done)
      rotate_left
      · simp only [Act.put, List.setIfInBounds_toArray, List.set_cons_zero, List.set_cons_succ, i64_w, i32_w]
        rfl
      refine pure_ (i := 38) (N := some 77) (v := ?_) (a' := ?_) #[true, true, true, true, true, true, true, true, true, true, true, true, true, true, true, true, true, true, true, true, true, true, true, true, true, true, true, true, true, true, true, true, true, true, true, true, true, true, true, false, false] rfl rfl (by kernel_rfl) (fun _ _ _ h => h) (Or.inl ⟨by rfl, ?_⟩) ?_ ?_
      rotate_left
      · intro w'
        go_simp
        first | with_reducible rfl | (rw [if_neg (by omega)]; done) | (rw [if_neg (by simp; omega)]; done)
      rotate_left
      · simp only [Act.put, List.setIfInBounds_toArray, List.set_cons_zero, List.set_cons_succ, i64_w, i32_w]
        rfl
      refine pure_ (i := 39) (N := some 78) (v := ?_) (a' := ?_) #[true, true, true, true, true, true, true, true, true, true, true, true, true, true, true, true, true, true, true, true, true, true, true, true, true, true, true, true, true, true, true, true, true, true, true, true, true, true, true, true, false] rfl rfl (by kernel_rfl) (fun _ _ _ h => h) (Or.inl ⟨by rfl, ?_⟩) ?_ ?_
      rotate_left
      · intro w'
        go_simp
        first | with_reducible rfl | (rw [if_neg (by omega)]; done) | (rw [if_neg (by simp; omega)]; done)
      rotate_left
      · simp only [Act.put, List.setIfInBounds_toArray, List.set_cons_zero, List.set_cons_succ, i64_w, i32_w]
        rfl
      refine pure_ (i := 40) (N := some 5) (v := ?_) (a' := ?_) #[true, true, true, true, true, true, true, true, true, true, true, true, true, true, true, true, true, true, true, true, true, true, true, true, true, true, true, true, true, true, true, true, true, true, true, true, true, true, true, true, true] rfl rfl (by kernel_rfl) (fun _ _ _ h => h) (Or.inl ⟨by rfl, ?_⟩) ?_ ?_
      rotate_left
      · intro w'
        go_simp
        first | with_reducible rfl | (rw [if_neg (by omega)]; done) | (rw [if_neg (by simp; omega)]; done)
      rotate_left
      · simp only [Act.put, List.setIfInBounds_toArray, List.set_cons_zero, List.set_cons_succ, i64_w, i32_w]
        rfl
      refine done_ (by kernel_rfl) ?_
      obtain ⟨l1, hl1⟩ : ∃ l1, l1 = l0 ++ heardH h := ⟨_, rfl⟩
      have hl1l : l1.length ≤ 21000 := by rw [hl1, List.length_append]; omega
      have HL1 := Lib.hid hl1
      have HE10 : Hid ((⟨l0.toArray⟩ : ByteArray) ++ ((⟨#[104, 101, 97, 114, 100, 32]⟩ : ByteArray) ++ ⟨(Lib.itoa h.f0).toArray⟩ ++ ⟨#[32]⟩ ++ ⟨(verbF h.f1.f0).toArray⟩ ++ ⟨#[32]⟩ ++ ⟨(Lib.itoa h.f2).toArray⟩ ++ ⟨#[32]⟩ ++ ⟨(Lib.itoa h.f5).toArray⟩ ++ ⟨#[32]⟩ ++ ⟨(Lib.itoa h.f6).toArray⟩ ++ ⟨#[32]⟩ ++ ⟨(Lib.itoa h.f7).toArray⟩ ++ ⟨#[32]⟩ ++ ⟨(Lib.itoa (bitF h.f8)).toArray⟩ ++ ⟨#[10]⟩) = ⟨l1.toArray⟩) := Lib.hid (by
        rw [hl1]
        apply ba_ext
        simp [heardH, blanked])
      rw [HE10.out]
      clear HE10 hl1 hb1 hb2 hb4 hb5 hb6 hb7 e0 e1 e9 e12 e13 e14 e15 hhh hvl
      obtain ⟨v1, hv1⟩ : ∃ W, W = v0.drew := ⟨_, rfl⟩
      have HN1 : Hid (Below w.heap.size w v1) := Lib.hid (by rw [hv1]; exact HN0.out.drew)
      have HH1 : Hid (v1.heap[nb]? = some (.cells #[.int .i64 h.f0, .int .i64 h.f1.f0, .bool h.f1.f1, .int .u32 h.f1.f2, .int .i64 h.f1.f3.f0, .int .i64 h.f1.f3.f1, .int .i64 h.f1.f3.f2, .int .i64 h.f1.f3.f3, .int .i64 h.f1.f4, .int .i64 h.f2, .int .u64 h.f3, .slice A11 h.f4.length c11, .int .u64 h.f5, .int .u64 h.f6, .int .u64 h.f7, .bool h.f8] 57 (0, 0))) := Lib.hid (by rw [hv1]; exact HH0.out)
      rw [← hv1]
      clear hv1 HH0 HN0
      have e11 : v1.cell? ⟨nb, 11, none⟩ = some (.slice A11 h.f4.length c11) := (blk_cell HH1.out 11).trans rfl
      go_wp2_with fail
      go_loopw [5, 83] (fun s i wq => ∃ m : Nat, m ≤ h.f4.length ∧ i = .int .i64 m ∧ s = .string ⟨(l1 ++ (h.f4.take m).flatMap rowT).toArray⟩ ∧ Hid (Below w.heap.size w wq)) (fun _ i _ => h.f4.length - (intOf i).toNat)
      case atStart => exact ⟨0, by omega, rfl, by simp, HN1⟩
      case round =>
        clear e11
        obtain ⟨m, hm, rfl, rfl, HBELq⟩ := hrel
        have hbelq := HBELq.out
        have hwq := hbelq.size
        by_cases hlt2 : m < h.f4.length
        · obtain ⟨r, hh⟩ : ∃ r, h.f4[m]? = some r := ⟨_, List.getElem?_eq_getElem hlt2⟩
          have htk : h.f4.take (m + 1) = h.f4.take m ++ [r] := by rw [List.take_add_one, hh]; rfl
          obtain ⟨rd, rfl, h0, h1, h2, h3, h4, h5⟩ := at_T87 HKC.out (m : Int) (by omega) (by omega)
          have hrd : rd_T87 h.f4 (m : Int) = r := by unfold rd_T87; simp [hh]
          rw [hrd] at h0 h1 h2 h3 h4 h5
          simp only [Int.toNat_natCast] at h0 h1 h2 h3 h4 h5
          replace h0 := (hbelq.cell (World.block_lt_of_cell? _ _ h0)).trans h0
          replace h1 := (hbelq.cell (World.block_lt_of_cell? _ _ h1)).trans h1
          replace h2 := (hbelq.cell (World.block_lt_of_cell? _ _ h2)).trans h2
          replace h3 := (hbelq.cell (World.block_lt_of_cell? _ _ h3)).trans h3
          replace h4 := (hbelq.cell (World.block_lt_of_cell? _ _ h4)).trans h4
          replace h5 := (hbelq.cell (World.block_lt_of_cell? _ _ h5)).trans h5
          have HOR := Lib.hid (HOH.out.1.rows r (List.mem_of_getElem? hh))
          have HTKr := Lib.hid htk
          have hel := rows_le (h.f4.take m) (fun y hy => HOH.out.1.rows y (List.mem_of_mem_take hy))
          rw [List.length_take] at hel
          obtain ⟨l2, hl2⟩ : ∃ l2, l2 = l1 ++ (h.f4.take m).flatMap rowT := ⟨_, rfl⟩
          have hl2l : l2.length ≤ 30000 := by rw [hl2, List.length_append]; omega
          rw [← hl2]
          have HL2 := Lib.hid hl2
          have hr0 := HOR.out.row.1
          have hr1 := HOR.out.row.2
          have hwr : wrap64 r.f0 = r.f0 := i64_wrap (I64.row HOR.out)
          obtain ⟨u0, hu0⟩ : ∃ W, W = wr.alloc (.cells #[.int .u32 r.f0, .int .i64 r.f1.f0, .int .i64 r.f1.f1, .int .i64 r.f1.f2, .int .i64 r.f1.f3, .int .i64 r.f2] 87 (0, 0)) := ⟨_, rfl⟩
          have HR0 : Hid (u0.heap[wr.heap.size]? = some (.cells #[.int .u32 r.f0, .int .i64 r.f1.f0, .int .i64 r.f1.f1, .int .i64 r.f1.f2, .int .i64 r.f1.f3, .int .i64 r.f2] 87 (0, 0))) := Lib.hid (by rw [hu0]; exact blk_new wr _)
          have HQ0 : Hid (Below w.heap.size w u0) := Lib.hid (by rw [hu0]; exact hbelq.alloc hwq _)
          clear hbelq hrd hh htk hl2 hel
          go_upto_region 14 with (fail)
          rw [← hu0]
          clear hu0 h0 h1 h2 h3 h4 h5
          obtain ⟨nr, hnre⟩ : ∃ nr, nr = wr.heap.size := ⟨_, rfl⟩
          rw [← hnre] at HR0 ⊢
          clear hnre
          have HRq : Hid (u0.drew.heap[nr]? = some (.cells #[.int .u32 r.f0, .int .i64 r.f1.f0, .int .i64 r.f1.f1, .int .i64 r.f1.f2, .int .i64 r.f1.f3, .int .i64 r.f2] 87 (0, 0))) := Lib.hid HR0.out
          have HQ : Hid (Below w.heap.size w u0.drew) := Lib.hid HQ0.out.drew
          clear HR0 HQ0
          refine start_ (n := 18) (S := fun w' => w'.cell? ⟨nr, 0, none⟩ = some (.int .u32 r.f0) ∧ w'.cell? ⟨nr, 1, none⟩ = some (.int .i64 r.f1.f0) ∧ w'.cell? ⟨nr, 1 + 1, none⟩ = some (.int .i64 r.f1.f1) ∧ w'.cell? ⟨nr, 1 + 2, none⟩ = some (.int .i64 r.f1.f2) ∧ w'.cell? ⟨nr, 1 + 3, none⟩ = some (.int .i64 r.f1.f3) ∧ w'.cell? ⟨nr, 5, none⟩ = some (.int .i64 r.f2)) (ds := []) #[false, false, false, false, false, false, false, false, false, false, false, false, false, false, false, false, false, false] (by kernel_rfl) rfl rfl ⟨(cells6 HRq.out).1, (cells6 HRq.out).2.1, (cells6 HRq.out).2.2.1, (cells6 HRq.out).2.2.2.1, (cells6 HRq.out).2.2.2.2.1, (cells6 HRq.out).2.2.2.2.2.2.2.2⟩ (fun hHeld => ?_)
          refine pure_ (i := 0) (N := some 87) (v := ?_) (a' := ?_) #[true, false, false, false, false, false, false, false, false, false, false, false, false, false, false, false, false, false] rfl rfl (by kernel_rfl) (fun _ _ _ h => h) (Or.inl ⟨by rfl, ?_⟩) ?_ ?_
          rotate_left
          · intro w'
            go_simp
            first | with_reducible rfl | (rw [if_neg (by omega)]; done) | (rw [if_neg (by simp; omega)]; done)
          rotate_left
          · simp only [Act.put, List.setIfInBounds_toArray, List.set_cons_zero, List.set_cons_succ, i64_w, i32_w]
            rfl
          refine pure_ (i := 1) (N := some 88) (v := ?_) (a' := ?_) #[true, true, false, false, false, false, false, false, false, false, false, false, false, false, false, false, false, false] rfl rfl (by kernel_rfl) (fun _ _ _ h => h) (Or.inl ⟨by rfl, ?_⟩) ?_ ?_
          rotate_left
          · intro w'
            go_simp
            first | with_reducible rfl | (rw [if_neg (by omega)]; done) | (rw [if_neg (by simp; omega)]; done)
          rotate_left
          · simp only [Act.put, List.setIfInBounds_toArray, List.set_cons_zero, List.set_cons_succ, i64_w, i32_w]
            rfl
          refine pure_ (i := 5) (N := some 92) (v := ?_) (a' := ?_) #[true, true, false, false, false, true, false, false, false, false, false, false, false, false, false, false, false, false] rfl rfl (by kernel_rfl) (fun _ _ _ h => h) (Or.inl ⟨by rfl, ?_⟩) ?_ ?_
          rotate_left
          · intro w'
            go_simp
            first | with_reducible rfl | (rw [if_neg (by omega)]; done) | (rw [if_neg (by simp; omega)]; done)
          rotate_left
          · simp only [Act.put, List.setIfInBounds_toArray, List.set_cons_zero, List.set_cons_succ, i64_w, i32_w]
            rfl
          refine pure_ (i := 9) (N := some 96) (v := ?_) (a' := ?_) #[true, true, false, false, false, true, false, false, false, true, false, false, false, false, false, false, false, false] rfl rfl (by kernel_rfl) (fun _ _ _ h => h) (Or.inl ⟨by rfl, ?_⟩) ?_ ?_
          rotate_left
          · intro w'
            go_simp
            first | with_reducible rfl | (rw [if_neg (by omega)]; done) | (rw [if_neg (by simp; omega)]; done)
          rotate_left
          · simp only [Act.put, List.setIfInBounds_toArray, List.set_cons_zero, List.set_cons_succ, i64_w, i32_w]
            rfl
          refine take_ (i := 2) (N := some 89) (v := ?_) (a' := ?_) #[true, true, true, false, false, true, false, false, false, true, false, false, false, false, false, false, false, false] rfl rfl (by kernel_rfl) (fun _ _ _ h => h) (Or.inl ⟨by rfl, ?_⟩) hHeld ?_ ?_
          rotate_left
          · rintro w' ⟨s0, s1, s2, s3, s4, s5⟩
            go_simp
            first | with_reducible rfl | (rw [if_neg (by omega)]; done) | (rw [if_neg (by simp; omega)]; done)
          rotate_left
          · simp only [Act.put, List.setIfInBounds_toArray, List.set_cons_zero, List.set_cons_succ, i64_w, i32_w]
            rfl
          refine pure_ (i := 3) (N := some 90) (v := ?_) (a' := ?_) #[true, true, true, true, false, true, false, false, false, true, false, false, false, false, false, false, false, false] rfl rfl (by kernel_rfl) (fun _ _ _ h => h) (Or.inl ⟨by rfl, ?_⟩) ?_ ?_
          rotate_left
          · intro w'
            go_simp
            first | with_reducible rfl | (rw [if_neg (by omega)]; done) | (rw [if_neg (by simp; omega)]; done)
          rotate_left
          · simp only [Act.put, List.setIfInBounds_toArray, List.set_cons_zero, List.set_cons_succ, i64_w, i32_w]
            rfl
          refine take_ (i := 6) (N := some 93) (v := ?_) (a' := ?_) #[true, true, true, true, false, true, true, false, false, true, false, false, false, false, false, false, false, false] rfl rfl (by kernel_rfl) (fun _ _ _ h => h) (Or.inl ⟨by rfl, ?_⟩) hHeld ?_ ?_
          rotate_left
          · rintro w' ⟨s0, s1, s2, s3, s4, s5⟩
            go_simp
            first | with_reducible rfl | (rw [if_neg (by omega)]; done) | (rw [if_neg (by simp; omega)]; done)
          rotate_left
          · simp only [Act.put, List.setIfInBounds_toArray, List.set_cons_zero, List.set_cons_succ, i64_w, i32_w]
            rfl
          refine take_ (i := 10) (N := some 97) (v := ?_) (a' := ?_) #[true, true, true, true, false, true, true, false, false, true, true, false, false, false, false, false, false, false] rfl rfl (by kernel_rfl) (fun _ _ _ h => h) (Or.inl ⟨by rfl, ?_⟩) hHeld ?_ ?_
          rotate_left
          · rintro w' ⟨s0, s1, s2, s3, s4, s5⟩
            go_simp
            first | with_reducible rfl | (rw [if_neg (by omega)]; done) | (rw [if_neg (by simp; omega)]; done)
          rotate_left
          · simp only [Act.put, List.setIfInBounds_toArray, List.set_cons_zero, List.set_cons_succ, i64_w, i32_w]
            rfl
          refine join_ (σ := Value × Value × Value × Value) 6 #[true, true, true, true, true, true, true, true, true, true, true, true, false, false, false, false, false, false] (fun s : Value × Value × Value × Value => [(91, s.1), (94, s.2.1), (95, s.2.2.1), (98, s.2.2.2)]) (fun (s : Value × Value × Value × Value) w' => Hid (RI w.heap.size w' s.2.2.1 ([r.f0] ++ [r.f1.f0, r.f1.f1, r.f1.f2, r.f1.f3])) ∧ Hid (RI w.heap.size w' s.2.2.2 [r.f2]) ∧ Hid (Below w.heap.size w w') ∧ Hid (w'.heap[nr]? = some (.cells #[.int .u32 r.f0, .int .i64 r.f1.f0, .int .i64 r.f1.f1, .int .i64 r.f1.f2, .int .i64 r.f1.f3, .int .i64 r.f2] 87 (0, 0)))) ?_ ?_
          rotate_left
          · intro hCont
            refine three_ (i := 4) (j := 7) (k := 11) (Ni := some 91) (Nj := some 94) (Nk := some 98) #[true, true, true, true, true, true, true, false, false, true, true, false, false, false, false, false, false, false] #[true, true, true, true, false, true, true, true, false, true, true, false, false, false, false, false, false, false] #[true, true, true, true, false, true, true, false, false, true, true, true, false, false, false, false, false, false] rfl rfl rfl rfl rfl rfl (by kernel_rfl) (by decide) (by decide) (by decide) (fun K hK => ?_) (fun K hK => ?_) (fun K hK => ?_)
            · skip
              refine Kd.R_lit_step (Kd.int .i64) (w0 := w) w.heap.size 2 (by rfl) (N := 91) rfl (xs := [r.f0]) (inner := [.int .i64 r.f0]) (ok := fun _ => True) (okp := fun _ => True) ?hr ?hp (fun _ _ => trivial) trivial HQ.out HQ.out.size (by simp) ?_
              case hr => first | (go_simp; done) | (go_simp; rfl) | (go_simp; rw [hwr]; done) | (go_simp; rw [hwr]; rfl)
              case hp => exact Reps.one (show Kd.M (Kd.int .i64) _ _ _ r.f0 [.int .i64 r.f0] from rfl) (Reps.none _ _)
              intro v4 q hR hB hg hnew
              have H4 : Hid (RI w.heap.size q v4 [r.f0]) := Lib.hid hR
              replace HRq := Lib.hid (blk_gr HRq.out hg (by simp))
              replace HQ := Lib.hid hB
              clear hR hB hg hnew
              refine hK.out _ _ ⟨(cells6 HRq.out).1, (cells6 HRq.out).2.1, (cells6 HRq.out).2.2.1, (cells6 HRq.out).2.2.2.1, (cells6 HRq.out).2.2.2.2.1, (cells6 HRq.out).2.2.2.2.2.2.2.2⟩ (fun hHeld => ?_)
              clear hK K
              refine norm_ (a' := ?_) ?_ ?_
              rotate_left
              · show Act.put _ (some 91) _ = _
                simp only [Act.put, List.setIfInBounds_toArray, List.set_cons_zero, List.set_cons_succ, i64_w, i32_w]
                rfl
              refine two_ (i := 7) (j := 11) (Ni := some 94) (Nj := some 98) #[true, true, true, true, true, true, true, true, false, true, true, false, false, false, false, false, false, false] #[true, true, true, true, true, true, true, false, false, true, true, true, false, false, false, false, false, false] rfl rfl rfl rfl (by kernel_rfl) (by decide) (by decide) (fun K hK => ?_) (fun K hK => ?_)
              · skip
                refine goes_ Tryd.func41 (by kernel_rfl) rfl #[.agg #[.int .i64 r.f1.f0, .int .i64 r.f1.f1, .int .i64 r.f1.f2, .int .i64 r.f1.f3]] (by rfl) rfl rfl (by simp only [List.map_toArray, List.map_cons, List.map_nil]; rfl) ?_
                with_reducible refine (key_new r.f1.f0 r.f1.f1 r.f1.f2 r.f1.f3 w _ w.heap.size HQ.out HQ.out.size).mono ?_
                rintro e q ⟨v7, rfl, hR, hB, hb, hg, hnew⟩
                refine ⟨_, rfl, ?_⟩
                replace H4 := Lib.hid (H4.out.same hg)
                have H7 := Lib.hid hR
                replace HRq := Lib.hid (blk_gr HRq.out hg (by simp))
                replace HQ := Lib.hid hB
                clear hR hB hg hnew
                refine hK.out _ _ ⟨(cells6 HRq.out).1, (cells6 HRq.out).2.1, (cells6 HRq.out).2.2.1, (cells6 HRq.out).2.2.2.1, (cells6 HRq.out).2.2.2.2.1, (cells6 HRq.out).2.2.2.2.2.2.2.2⟩ (fun hHeld => ?_)
                clear hK K
                refine norm_ (a' := ?_) ?_ ?_
                rotate_left
                · show Act.put _ (some 94) _ = _
                  simp only [Act.put, List.setIfInBounds_toArray, List.set_cons_zero, List.set_cons_succ, i64_w, i32_w]
                  rfl
                refine two_ (i := 8) (j := 11) (Ni := some 95) (Nj := some 98) #[true, true, true, true, true, true, true, true, true, true, true, false, false, false, false, false, false, false] #[true, true, true, true, true, true, true, true, false, true, true, true, false, false, false, false, false, false] rfl rfl rfl rfl (by kernel_rfl) (by decide) (by decide) (fun K hK => ?_) (fun K hK => ?_)
                · skip
                  obtain ⟨A_, c_, hv_, hl_, hC_⟩ := H7.out.slice
                  refine Kd.R_append_rows_step (Kd.int .i64) (Rr := (Kd.int .i64).K _) (w0 := w) w.heap.size (by rfl) _ _ 91 2 (.int .i64 0) 8 (by rfl) Tryd.underlying91 info2_ rfl (by decide) (by decide) v4 [r.f0] [r.f1.f0, r.f1.f1, r.f1.f2, r.f1.f3] A_ _ c_ (fun _ => True) (fun _ => False) (by rfl) (by exact hv_) H4.out hC_ (fun x cs h => kint_M x cs h) (fun _ h => h.elim) (fun _ _ => trivial) HQ.out HQ.out.size (by simp) ?_
                  intro v8 q hR hB hg hat
                  have H8 : Hid (RI w.heap.size q v8 ([r.f0] ++ [r.f1.f0, r.f1.f1, r.f1.f2, r.f1.f3])) := Lib.hid hR
                  replace HRq := Lib.hid (blk_gr HRq.out hg (H4.out.ne HRq.out (by decide)))
                  replace HQ := Lib.hid hB
                  clear hR hB hg hat hv_ hC_ hl_ H4 H7
                  refine hK.out _ _ ⟨(cells6 HRq.out).1, (cells6 HRq.out).2.1, (cells6 HRq.out).2.2.1, (cells6 HRq.out).2.2.2.1, (cells6 HRq.out).2.2.2.2.1, (cells6 HRq.out).2.2.2.2.2.2.2.2⟩ (fun hHeld => ?_)
                  clear hK K
                  refine norm_ (a' := ?_) ?_ ?_
                  rotate_left
                  · show Act.put _ (some 95) _ = _
                    simp only [Act.put, List.setIfInBounds_toArray, List.set_cons_zero, List.set_cons_succ, i64_w, i32_w]
                    rfl
                  refine one_ (i := 11) (N := some 98) #[true, true, true, true, true, true, true, true, true, true, true, true, false, false, false, false, false, false] rfl rfl (by kernel_rfl) (by decide) (fun K hK => ?_)
                  refine Kd.R_lit_step (Kd.int .i64) (w0 := w) w.heap.size 2 (by rfl) (N := 98) rfl (xs := [r.f2]) (inner := [.int .i64 r.f2]) (ok := fun _ => True) (okp := fun _ => True) ?hr ?hp (fun _ _ => trivial) trivial HQ.out HQ.out.size (by simp) ?_
                  case hr => first | (go_simp; done) | (go_simp; rfl) | (go_simp; rw [hwr]; done) | (go_simp; rw [hwr]; rfl)
                  case hp => exact Reps.one (show Kd.M (Kd.int .i64) _ _ _ r.f2 [.int .i64 r.f2] from rfl) (Reps.none _ _)
                  intro v11 q hR hB hg hnew
                  replace H8 := Lib.hid (H8.out.same hg)
                  have H11 : Hid (RI w.heap.size q v11 [r.f2]) := Lib.hid hR
                  replace HRq := Lib.hid (blk_gr HRq.out hg (by simp))
                  replace HQ := Lib.hid hB
                  clear hR hB hg hnew
                  refine hK.out _ _ ⟨(cells6 HRq.out).1, (cells6 HRq.out).2.1, (cells6 HRq.out).2.2.1, (cells6 HRq.out).2.2.2.1, (cells6 HRq.out).2.2.2.2.1, (cells6 HRq.out).2.2.2.2.2.2.2.2⟩ (fun hHeld => ?_)
                  clear hK K
                  refine norm_ (a' := ?_) ?_ ?_
                  rotate_left
                  · show Act.put _ (some 98) _ = _
                    simp only [Act.put, List.setIfInBounds_toArray, List.set_cons_zero, List.set_cons_succ, i64_w, i32_w]
                    rfl
                  exact norm_ (by simp only [putAll, Act.put, List.setIfInBounds_toArray, List.set_cons_zero, List.set_cons_succ]) (hCont (v4, v7, v8, v11) _ ⟨H8, H11, HQ, HRq⟩)
                · skip
                  refine Kd.R_lit_step (Kd.int .i64) (w0 := w) w.heap.size 2 (by rfl) (N := 98) rfl (xs := [r.f2]) (inner := [.int .i64 r.f2]) (ok := fun _ => True) (okp := fun _ => True) ?hr ?hp (fun _ _ => trivial) trivial HQ.out HQ.out.size (by simp) ?_
                  case hr => first | (go_simp; done) | (go_simp; rfl) | (go_simp; rw [hwr]; done) | (go_simp; rw [hwr]; rfl)
                  case hp => exact Reps.one (show Kd.M (Kd.int .i64) _ _ _ r.f2 [.int .i64 r.f2] from rfl) (Reps.none _ _)
                  intro v11 q hR hB hg hnew
                  have N4 := Lib.hid (H4.out.apart' hnew)
                  replace H4 := Lib.hid (H4.out.same hg)
                  replace H7 := Lib.hid (H7.out.same hg)
                  have H11 : Hid (RI w.heap.size q v11 [r.f2]) := Lib.hid hR
                  replace HRq := Lib.hid (blk_gr HRq.out hg (by simp))
                  replace HQ := Lib.hid hB
                  clear hR hB hg hnew
                  refine hK.out _ _ ⟨(cells6 HRq.out).1, (cells6 HRq.out).2.1, (cells6 HRq.out).2.2.1, (cells6 HRq.out).2.2.2.1, (cells6 HRq.out).2.2.2.2.1, (cells6 HRq.out).2.2.2.2.2.2.2.2⟩ (fun hHeld => ?_)
                  clear hK K
                  refine norm_ (a' := ?_) ?_ ?_
                  rotate_left
                  · show Act.put _ (some 98) _ = _
                    simp only [Act.put, List.setIfInBounds_toArray, List.set_cons_zero, List.set_cons_succ, i64_w, i32_w]
                    rfl
                  refine one_ (i := 8) (N := some 95) #[true, true, true, true, true, true, true, true, true, true, true, true, false, false, false, false, false, false] rfl rfl (by kernel_rfl) (by decide) (fun K hK => ?_)
                  obtain ⟨A_, c_, hv_, hl_, hC_⟩ := H7.out.slice
                  refine Kd.R_append_rows_step (Kd.int .i64) (Rr := (Kd.int .i64).K _) (w0 := w) w.heap.size (by rfl) _ _ 91 2 (.int .i64 0) 8 (by rfl) Tryd.underlying91 info2_ rfl (by decide) (by decide) v4 [r.f0] [r.f1.f0, r.f1.f1, r.f1.f2, r.f1.f3] A_ _ c_ (fun _ => True) (fun _ => False) (by rfl) (by exact hv_) H4.out hC_ (fun x cs h => kint_M x cs h) (fun _ h => h.elim) (fun _ _ => trivial) HQ.out HQ.out.size (by simp) ?_
                  intro v8 q hR hB hg hat
                  have H8 : Hid (RI w.heap.size q v8 ([r.f0] ++ [r.f1.f0, r.f1.f1, r.f1.f2, r.f1.f3])) := Lib.hid hR
                  replace H11 := Lib.hid (H11.out.grown hg N4.out)
                  replace HRq := Lib.hid (blk_gr HRq.out hg (H4.out.ne HRq.out (by decide)))
                  replace HQ := Lib.hid hB
                  clear hR hB hg hat hv_ hC_ hl_ H4 H7
                  refine hK.out _ _ ⟨(cells6 HRq.out).1, (cells6 HRq.out).2.1, (cells6 HRq.out).2.2.1, (cells6 HRq.out).2.2.2.1, (cells6 HRq.out).2.2.2.2.1, (cells6 HRq.out).2.2.2.2.2.2.2.2⟩ (fun hHeld => ?_)
                  clear hK K
                  refine norm_ (a' := ?_) ?_ ?_
                  rotate_left
                  · show Act.put _ (some 95) _ = _
                    simp only [Act.put, List.setIfInBounds_toArray, List.set_cons_zero, List.set_cons_succ, i64_w, i32_w]
                    rfl
                  exact norm_ (by simp only [putAll, Act.put, List.setIfInBounds_toArray, List.set_cons_zero, List.set_cons_succ]) (hCont (v4, v7, v8, v11) _ ⟨H8, H11, HQ, HRq⟩)
              · skip
                refine Kd.R_lit_step (Kd.int .i64) (w0 := w) w.heap.size 2 (by rfl) (N := 98) rfl (xs := [r.f2]) (inner := [.int .i64 r.f2]) (ok := fun _ => True) (okp := fun _ => True) ?hr ?hp (fun _ _ => trivial) trivial HQ.out HQ.out.size (by simp) ?_
                case hr => first | (go_simp; done) | (go_simp; rfl) | (go_simp; rw [hwr]; done) | (go_simp; rw [hwr]; rfl)
                case hp => exact Reps.one (show Kd.M (Kd.int .i64) _ _ _ r.f2 [.int .i64 r.f2] from rfl) (Reps.none _ _)
                intro v11 q hR hB hg hnew
                have N4 := Lib.hid (H4.out.apart' hnew)
                replace H4 := Lib.hid (H4.out.same hg)
                have H11 : Hid (RI w.heap.size q v11 [r.f2]) := Lib.hid hR
                replace HRq := Lib.hid (blk_gr HRq.out hg (by simp))
                replace HQ := Lib.hid hB
                clear hR hB hg hnew
                refine hK.out _ _ ⟨(cells6 HRq.out).1, (cells6 HRq.out).2.1, (cells6 HRq.out).2.2.1, (cells6 HRq.out).2.2.2.1, (cells6 HRq.out).2.2.2.2.1, (cells6 HRq.out).2.2.2.2.2.2.2.2⟩ (fun hHeld => ?_)
                clear hK K
                refine norm_ (a' := ?_) ?_ ?_
                rotate_left
                · show Act.put _ (some 98) _ = _
                  simp only [Act.put, List.setIfInBounds_toArray, List.set_cons_zero, List.set_cons_succ, i64_w, i32_w]
                  rfl
                refine one_ (i := 7) (N := some 94) #[true, true, true, true, true, true, true, true, false, true, true, true, false, false, false, false, false, false] rfl rfl (by kernel_rfl) (by decide) (fun K hK => ?_)
                refine goes_ Tryd.func41 (by kernel_rfl) rfl #[.agg #[.int .i64 r.f1.f0, .int .i64 r.f1.f1, .int .i64 r.f1.f2, .int .i64 r.f1.f3]] (by rfl) rfl rfl (by simp only [List.map_toArray, List.map_cons, List.map_nil]; rfl) ?_
                with_reducible refine (key_new r.f1.f0 r.f1.f1 r.f1.f2 r.f1.f3 w _ w.heap.size HQ.out HQ.out.size).mono ?_
                rintro e q ⟨v7, rfl, hR, hB, hb, hg, hnew⟩
                refine ⟨_, rfl, ?_⟩
                replace H4 := Lib.hid (H4.out.same hg)
                replace H11 := Lib.hid (H11.out.same hg)
                have H7 := Lib.hid hR
                replace HRq := Lib.hid (blk_gr HRq.out hg (by simp))
                replace HQ := Lib.hid hB
                clear hR hB hg hnew
                refine hK.out _ _ ⟨(cells6 HRq.out).1, (cells6 HRq.out).2.1, (cells6 HRq.out).2.2.1, (cells6 HRq.out).2.2.2.1, (cells6 HRq.out).2.2.2.2.1, (cells6 HRq.out).2.2.2.2.2.2.2.2⟩ (fun hHeld => ?_)
                clear hK K
                refine norm_ (a' := ?_) ?_ ?_
                rotate_left
                · show Act.put _ (some 94) _ = _
                  simp only [Act.put, List.setIfInBounds_toArray, List.set_cons_zero, List.set_cons_succ, i64_w, i32_w]
                  rfl
                refine one_ (i := 8) (N := some 95) #[true, true, true, true, true, true, true, true, true, true, true, true, false, false, false, false, false, false] rfl rfl (by kernel_rfl) (by decide) (fun K hK => ?_)
                obtain ⟨A_, c_, hv_, hl_, hC_⟩ := H7.out.slice
                refine Kd.R_append_rows_step (Kd.int .i64) (Rr := (Kd.int .i64).K _) (w0 := w) w.heap.size (by rfl) _ _ 91 2 (.int .i64 0) 8 (by rfl) Tryd.underlying91 info2_ rfl (by decide) (by decide) v4 [r.f0] [r.f1.f0, r.f1.f1, r.f1.f2, r.f1.f3] A_ _ c_ (fun _ => True) (fun _ => False) (by rfl) (by exact hv_) H4.out hC_ (fun x cs h => kint_M x cs h) (fun _ h => h.elim) (fun _ _ => trivial) HQ.out HQ.out.size (by simp) ?_
                intro v8 q hR hB hg hat
                have H8 : Hid (RI w.heap.size q v8 ([r.f0] ++ [r.f1.f0, r.f1.f1, r.f1.f2, r.f1.f3])) := Lib.hid hR
                replace H11 := Lib.hid (H11.out.grown hg N4.out)
                replace HRq := Lib.hid (blk_gr HRq.out hg (H4.out.ne HRq.out (by decide)))
                replace HQ := Lib.hid hB
                clear hR hB hg hat hv_ hC_ hl_ H4 H7
                refine hK.out _ _ ⟨(cells6 HRq.out).1, (cells6 HRq.out).2.1, (cells6 HRq.out).2.2.1, (cells6 HRq.out).2.2.2.1, (cells6 HRq.out).2.2.2.2.1, (cells6 HRq.out).2.2.2.2.2.2.2.2⟩ (fun hHeld => ?_)
                clear hK K
                refine norm_ (a' := ?_) ?_ ?_
                rotate_left
                · show Act.put _ (some 95) _ = _
                  simp only [Act.put, List.setIfInBounds_toArray, List.set_cons_zero, List.set_cons_succ, i64_w, i32_w]
                  rfl
                exact norm_ (by simp only [putAll, Act.put, List.setIfInBounds_toArray, List.set_cons_zero, List.set_cons_succ]) (hCont (v4, v7, v8, v11) _ ⟨H8, H11, HQ, HRq⟩)
            · skip
              refine goes_ Tryd.func41 (by kernel_rfl) rfl #[.agg #[.int .i64 r.f1.f0, .int .i64 r.f1.f1, .int .i64 r.f1.f2, .int .i64 r.f1.f3]] (by rfl) rfl rfl (by simp only [List.map_toArray, List.map_cons, List.map_nil]; rfl) ?_
              with_reducible refine (key_new r.f1.f0 r.f1.f1 r.f1.f2 r.f1.f3 w _ w.heap.size HQ.out HQ.out.size).mono ?_
              rintro e q ⟨v7, rfl, hR, hB, hb, hg, hnew⟩
              refine ⟨_, rfl, ?_⟩
              have H7 := Lib.hid hR
              replace HRq := Lib.hid (blk_gr HRq.out hg (by simp))
              replace HQ := Lib.hid hB
              clear hR hB hg hnew
              refine hK.out _ _ ⟨(cells6 HRq.out).1, (cells6 HRq.out).2.1, (cells6 HRq.out).2.2.1, (cells6 HRq.out).2.2.2.1, (cells6 HRq.out).2.2.2.2.1, (cells6 HRq.out).2.2.2.2.2.2.2.2⟩ (fun hHeld => ?_)
              clear hK K
              refine norm_ (a' := ?_) ?_ ?_
              rotate_left
              · show Act.put _ (some 94) _ = _
                simp only [Act.put, List.setIfInBounds_toArray, List.set_cons_zero, List.set_cons_succ, i64_w, i32_w]
                rfl
              refine two_ (i := 4) (j := 11) (Ni := some 91) (Nj := some 98) #[true, true, true, true, true, true, true, true, false, true, true, false, false, false, false, false, false, false] #[true, true, true, true, false, true, true, true, false, true, true, true, false, false, false, false, false, false] rfl rfl rfl rfl (by kernel_rfl) (by decide) (by decide) (fun K hK => ?_) (fun K hK => ?_)
              · skip
                refine Kd.R_lit_step (Kd.int .i64) (w0 := w) w.heap.size 2 (by rfl) (N := 91) rfl (xs := [r.f0]) (inner := [.int .i64 r.f0]) (ok := fun _ => True) (okp := fun _ => True) ?hr ?hp (fun _ _ => trivial) trivial HQ.out HQ.out.size (by simp) ?_
                case hr => first | (go_simp; done) | (go_simp; rfl) | (go_simp; rw [hwr]; done) | (go_simp; rw [hwr]; rfl)
                case hp => exact Reps.one (show Kd.M (Kd.int .i64) _ _ _ r.f0 [.int .i64 r.f0] from rfl) (Reps.none _ _)
                intro v4 q hR hB hg hnew
                replace H7 := Lib.hid (H7.out.same hg)
                have H4 : Hid (RI w.heap.size q v4 [r.f0]) := Lib.hid hR
                replace HRq := Lib.hid (blk_gr HRq.out hg (by simp))
                replace HQ := Lib.hid hB
                clear hR hB hg hnew
                refine hK.out _ _ ⟨(cells6 HRq.out).1, (cells6 HRq.out).2.1, (cells6 HRq.out).2.2.1, (cells6 HRq.out).2.2.2.1, (cells6 HRq.out).2.2.2.2.1, (cells6 HRq.out).2.2.2.2.2.2.2.2⟩ (fun hHeld => ?_)
                clear hK K
                refine norm_ (a' := ?_) ?_ ?_
                rotate_left
                · show Act.put _ (some 91) _ = _
                  simp only [Act.put, List.setIfInBounds_toArray, List.set_cons_zero, List.set_cons_succ, i64_w, i32_w]
                  rfl
                refine two_ (i := 8) (j := 11) (Ni := some 95) (Nj := some 98) #[true, true, true, true, true, true, true, true, true, true, true, false, false, false, false, false, false, false] #[true, true, true, true, true, true, true, true, false, true, true, true, false, false, false, false, false, false] rfl rfl rfl rfl (by kernel_rfl) (by decide) (by decide) (fun K hK => ?_) (fun K hK => ?_)
                · skip
                  obtain ⟨A_, c_, hv_, hl_, hC_⟩ := H7.out.slice
                  refine Kd.R_append_rows_step (Kd.int .i64) (Rr := (Kd.int .i64).K _) (w0 := w) w.heap.size (by rfl) _ _ 91 2 (.int .i64 0) 8 (by rfl) Tryd.underlying91 info2_ rfl (by decide) (by decide) v4 [r.f0] [r.f1.f0, r.f1.f1, r.f1.f2, r.f1.f3] A_ _ c_ (fun _ => True) (fun _ => False) (by rfl) (by exact hv_) H4.out hC_ (fun x cs h => kint_M x cs h) (fun _ h => h.elim) (fun _ _ => trivial) HQ.out HQ.out.size (by simp) ?_
                  intro v8 q hR hB hg hat
                  have H8 : Hid (RI w.heap.size q v8 ([r.f0] ++ [r.f1.f0, r.f1.f1, r.f1.f2, r.f1.f3])) := Lib.hid hR
                  replace HRq := Lib.hid (blk_gr HRq.out hg (H4.out.ne HRq.out (by decide)))
                  replace HQ := Lib.hid hB
                  clear hR hB hg hat hv_ hC_ hl_ H4 H7
                  refine hK.out _ _ ⟨(cells6 HRq.out).1, (cells6 HRq.out).2.1, (cells6 HRq.out).2.2.1, (cells6 HRq.out).2.2.2.1, (cells6 HRq.out).2.2.2.2.1, (cells6 HRq.out).2.2.2.2.2.2.2.2⟩ (fun hHeld => ?_)
                  clear hK K
                  refine norm_ (a' := ?_) ?_ ?_
                  rotate_left
                  · show Act.put _ (some 95) _ = _
                    simp only [Act.put, List.setIfInBounds_toArray, List.set_cons_zero, List.set_cons_succ, i64_w, i32_w]
                    rfl
                  refine one_ (i := 11) (N := some 98) #[true, true, true, true, true, true, true, true, true, true, true, true, false, false, false, false, false, false] rfl rfl (by kernel_rfl) (by decide) (fun K hK => ?_)
                  refine Kd.R_lit_step (Kd.int .i64) (w0 := w) w.heap.size 2 (by rfl) (N := 98) rfl (xs := [r.f2]) (inner := [.int .i64 r.f2]) (ok := fun _ => True) (okp := fun _ => True) ?hr ?hp (fun _ _ => trivial) trivial HQ.out HQ.out.size (by simp) ?_
                  case hr => first | (go_simp; done) | (go_simp; rfl) | (go_simp; rw [hwr]; done) | (go_simp; rw [hwr]; rfl)
                  case hp => exact Reps.one (show Kd.M (Kd.int .i64) _ _ _ r.f2 [.int .i64 r.f2] from rfl) (Reps.none _ _)
                  intro v11 q hR hB hg hnew
                  replace H8 := Lib.hid (H8.out.same hg)
                  have H11 : Hid (RI w.heap.size q v11 [r.f2]) := Lib.hid hR
                  replace HRq := Lib.hid (blk_gr HRq.out hg (by simp))
                  replace HQ := Lib.hid hB
                  clear hR hB hg hnew
                  refine hK.out _ _ ⟨(cells6 HRq.out).1, (cells6 HRq.out).2.1, (cells6 HRq.out).2.2.1, (cells6 HRq.out).2.2.2.1, (cells6 HRq.out).2.2.2.2.1, (cells6 HRq.out).2.2.2.2.2.2.2.2⟩ (fun hHeld => ?_)
                  clear hK K
                  refine norm_ (a' := ?_) ?_ ?_
                  rotate_left
                  · show Act.put _ (some 98) _ = _
                    simp only [Act.put, List.setIfInBounds_toArray, List.set_cons_zero, List.set_cons_succ, i64_w, i32_w]
                    rfl
                  exact norm_ (by simp only [putAll, Act.put, List.setIfInBounds_toArray, List.set_cons_zero, List.set_cons_succ]) (hCont (v4, v7, v8, v11) _ ⟨H8, H11, HQ, HRq⟩)
                · skip
                  refine Kd.R_lit_step (Kd.int .i64) (w0 := w) w.heap.size 2 (by rfl) (N := 98) rfl (xs := [r.f2]) (inner := [.int .i64 r.f2]) (ok := fun _ => True) (okp := fun _ => True) ?hr ?hp (fun _ _ => trivial) trivial HQ.out HQ.out.size (by simp) ?_
                  case hr => first | (go_simp; done) | (go_simp; rfl) | (go_simp; rw [hwr]; done) | (go_simp; rw [hwr]; rfl)
                  case hp => exact Reps.one (show Kd.M (Kd.int .i64) _ _ _ r.f2 [.int .i64 r.f2] from rfl) (Reps.none _ _)
                  intro v11 q hR hB hg hnew
                  have N4 := Lib.hid (H4.out.apart' hnew)
                  replace H4 := Lib.hid (H4.out.same hg)
                  replace H7 := Lib.hid (H7.out.same hg)
                  have H11 : Hid (RI w.heap.size q v11 [r.f2]) := Lib.hid hR
                  replace HRq := Lib.hid (blk_gr HRq.out hg (by simp))
                  replace HQ := Lib.hid hB
                  clear hR hB hg hnew
                  refine hK.out _ _ ⟨(cells6 HRq.out).1, (cells6 HRq.out).2.1, (cells6 HRq.out).2.2.1, (cells6 HRq.out).2.2.2.1, (cells6 HRq.out).2.2.2.2.1, (cells6 HRq.out).2.2.2.2.2.2.2.2⟩ (fun hHeld => ?_)
                  clear hK K
                  refine norm_ (a' := ?_) ?_ ?_
                  rotate_left
                  · show Act.put _ (some 98) _ = _
                    simp only [Act.put, List.setIfInBounds_toArray, List.set_cons_zero, List.set_cons_succ, i64_w, i32_w]
                    rfl
                  refine one_ (i := 8) (N := some 95) #[true, true, true, true, true, true, true, true, true, true, true, true, false, false, false, false, false, false] rfl rfl (by kernel_rfl) (by decide) (fun K hK => ?_)
                  obtain ⟨A_, c_, hv_, hl_, hC_⟩ := H7.out.slice
                  refine Kd.R_append_rows_step (Kd.int .i64) (Rr := (Kd.int .i64).K _) (w0 := w) w.heap.size (by rfl) _ _ 91 2 (.int .i64 0) 8 (by rfl) Tryd.underlying91 info2_ rfl (by decide) (by decide) v4 [r.f0] [r.f1.f0, r.f1.f1, r.f1.f2, r.f1.f3] A_ _ c_ (fun _ => True) (fun _ => False) (by rfl) (by exact hv_) H4.out hC_ (fun x cs h => kint_M x cs h) (fun _ h => h.elim) (fun _ _ => trivial) HQ.out HQ.out.size (by simp) ?_
                  intro v8 q hR hB hg hat
                  have H8 : Hid (RI w.heap.size q v8 ([r.f0] ++ [r.f1.f0, r.f1.f1, r.f1.f2, r.f1.f3])) := Lib.hid hR
                  replace H11 := Lib.hid (H11.out.grown hg N4.out)
                  replace HRq := Lib.hid (blk_gr HRq.out hg (H4.out.ne HRq.out (by decide)))
                  replace HQ := Lib.hid hB
                  clear hR hB hg hat hv_ hC_ hl_ H4 H7
                  refine hK.out _ _ ⟨(cells6 HRq.out).1, (cells6 HRq.out).2.1, (cells6 HRq.out).2.2.1, (cells6 HRq.out).2.2.2.1, (cells6 HRq.out).2.2.2.2.1, (cells6 HRq.out).2.2.2.2.2.2.2.2⟩ (fun hHeld => ?_)
                  clear hK K
                  refine norm_ (a' := ?_) ?_ ?_
                  rotate_left
                  · show Act.put _ (some 95) _ = _
                    simp only [Act.put, List.setIfInBounds_toArray, List.set_cons_zero, List.set_cons_succ, i64_w, i32_w]
                    rfl
                  exact norm_ (by simp only [putAll, Act.put, List.setIfInBounds_toArray, List.set_cons_zero, List.set_cons_succ]) (hCont (v4, v7, v8, v11) _ ⟨H8, H11, HQ, HRq⟩)
              · skip
                refine Kd.R_lit_step (Kd.int .i64) (w0 := w) w.heap.size 2 (by rfl) (N := 98) rfl (xs := [r.f2]) (inner := [.int .i64 r.f2]) (ok := fun _ => True) (okp := fun _ => True) ?hr ?hp (fun _ _ => trivial) trivial HQ.out HQ.out.size (by simp) ?_
                case hr => first | (go_simp; done) | (go_simp; rfl) | (go_simp; rw [hwr]; done) | (go_simp; rw [hwr]; rfl)
                case hp => exact Reps.one (show Kd.M (Kd.int .i64) _ _ _ r.f2 [.int .i64 r.f2] from rfl) (Reps.none _ _)
                intro v11 q hR hB hg hnew
                replace H7 := Lib.hid (H7.out.same hg)
                have H11 : Hid (RI w.heap.size q v11 [r.f2]) := Lib.hid hR
                replace HRq := Lib.hid (blk_gr HRq.out hg (by simp))
                replace HQ := Lib.hid hB
                clear hR hB hg hnew
                refine hK.out _ _ ⟨(cells6 HRq.out).1, (cells6 HRq.out).2.1, (cells6 HRq.out).2.2.1, (cells6 HRq.out).2.2.2.1, (cells6 HRq.out).2.2.2.2.1, (cells6 HRq.out).2.2.2.2.2.2.2.2⟩ (fun hHeld => ?_)
                clear hK K
                refine norm_ (a' := ?_) ?_ ?_
                rotate_left
                · show Act.put _ (some 98) _ = _
                  simp only [Act.put, List.setIfInBounds_toArray, List.set_cons_zero, List.set_cons_succ, i64_w, i32_w]
                  rfl
                refine one_ (i := 4) (N := some 91) #[true, true, true, true, true, true, true, true, false, true, true, true, false, false, false, false, false, false] rfl rfl (by kernel_rfl) (by decide) (fun K hK => ?_)
                refine Kd.R_lit_step (Kd.int .i64) (w0 := w) w.heap.size 2 (by rfl) (N := 91) rfl (xs := [r.f0]) (inner := [.int .i64 r.f0]) (ok := fun _ => True) (okp := fun _ => True) ?hr ?hp (fun _ _ => trivial) trivial HQ.out HQ.out.size (by simp) ?_
                case hr => first | (go_simp; done) | (go_simp; rfl) | (go_simp; rw [hwr]; done) | (go_simp; rw [hwr]; rfl)
                case hp => exact Reps.one (show Kd.M (Kd.int .i64) _ _ _ r.f0 [.int .i64 r.f0] from rfl) (Reps.none _ _)
                intro v4 q hR hB hg hnew
                have N4 := Lib.hid (H11.out.apart hnew)
                replace H7 := Lib.hid (H7.out.same hg)
                replace H11 := Lib.hid (H11.out.same hg)
                have H4 : Hid (RI w.heap.size q v4 [r.f0]) := Lib.hid hR
                replace HRq := Lib.hid (blk_gr HRq.out hg (by simp))
                replace HQ := Lib.hid hB
                clear hR hB hg hnew
                refine hK.out _ _ ⟨(cells6 HRq.out).1, (cells6 HRq.out).2.1, (cells6 HRq.out).2.2.1, (cells6 HRq.out).2.2.2.1, (cells6 HRq.out).2.2.2.2.1, (cells6 HRq.out).2.2.2.2.2.2.2.2⟩ (fun hHeld => ?_)
                clear hK K
                refine norm_ (a' := ?_) ?_ ?_
                rotate_left
                · show Act.put _ (some 91) _ = _
                  simp only [Act.put, List.setIfInBounds_toArray, List.set_cons_zero, List.set_cons_succ, i64_w, i32_w]
                  rfl
                refine one_ (i := 8) (N := some 95) #[true, true, true, true, true, true, true, true, true, true, true, true, false, false, false, false, false, false] rfl rfl (by kernel_rfl) (by decide) (fun K hK => ?_)
                obtain ⟨A_, c_, hv_, hl_, hC_⟩ := H7.out.slice
                refine Kd.R_append_rows_step (Kd.int .i64) (Rr := (Kd.int .i64).K _) (w0 := w) w.heap.size (by rfl) _ _ 91 2 (.int .i64 0) 8 (by rfl) Tryd.underlying91 info2_ rfl (by decide) (by decide) v4 [r.f0] [r.f1.f0, r.f1.f1, r.f1.f2, r.f1.f3] A_ _ c_ (fun _ => True) (fun _ => False) (by rfl) (by exact hv_) H4.out hC_ (fun x cs h => kint_M x cs h) (fun _ h => h.elim) (fun _ _ => trivial) HQ.out HQ.out.size (by simp) ?_
                intro v8 q hR hB hg hat
                have H8 : Hid (RI w.heap.size q v8 ([r.f0] ++ [r.f1.f0, r.f1.f1, r.f1.f2, r.f1.f3])) := Lib.hid hR
                replace H11 := Lib.hid (H11.out.grown hg N4.out)
                replace HRq := Lib.hid (blk_gr HRq.out hg (H4.out.ne HRq.out (by decide)))
                replace HQ := Lib.hid hB
                clear hR hB hg hat hv_ hC_ hl_ H4 H7
                refine hK.out _ _ ⟨(cells6 HRq.out).1, (cells6 HRq.out).2.1, (cells6 HRq.out).2.2.1, (cells6 HRq.out).2.2.2.1, (cells6 HRq.out).2.2.2.2.1, (cells6 HRq.out).2.2.2.2.2.2.2.2⟩ (fun hHeld => ?_)
                clear hK K
                refine norm_ (a' := ?_) ?_ ?_
                rotate_left
                · show Act.put _ (some 95) _ = _
                  simp only [Act.put, List.setIfInBounds_toArray, List.set_cons_zero, List.set_cons_succ, i64_w, i32_w]
                  rfl
                exact norm_ (by simp only [putAll, Act.put, List.setIfInBounds_toArray, List.set_cons_zero, List.set_cons_succ]) (hCont (v4, v7, v8, v11) _ ⟨H8, H11, HQ, HRq⟩)
            · skip
              refine Kd.R_lit_step (Kd.int .i64) (w0 := w) w.heap.size 2 (by rfl) (N := 98) rfl (xs := [r.f2]) (inner := [.int .i64 r.f2]) (ok := fun _ => True) (okp := fun _ => True) ?hr ?hp (fun _ _ => trivial) trivial HQ.out HQ.out.size (by simp) ?_
              case hr => first | (go_simp; done) | (go_simp; rfl) | (go_simp; rw [hwr]; done) | (go_simp; rw [hwr]; rfl)
              case hp => exact Reps.one (show Kd.M (Kd.int .i64) _ _ _ r.f2 [.int .i64 r.f2] from rfl) (Reps.none _ _)
              intro v11 q hR hB hg hnew
              have H11 : Hid (RI w.heap.size q v11 [r.f2]) := Lib.hid hR
              replace HRq := Lib.hid (blk_gr HRq.out hg (by simp))
              replace HQ := Lib.hid hB
              clear hR hB hg hnew
              refine hK.out _ _ ⟨(cells6 HRq.out).1, (cells6 HRq.out).2.1, (cells6 HRq.out).2.2.1, (cells6 HRq.out).2.2.2.1, (cells6 HRq.out).2.2.2.2.1, (cells6 HRq.out).2.2.2.2.2.2.2.2⟩ (fun hHeld => ?_)
              clear hK K
              refine norm_ (a' := ?_) ?_ ?_
              rotate_left
              · show Act.put _ (some 98) _ = _
                simp only [Act.put, List.setIfInBounds_toArray, List.set_cons_zero, List.set_cons_succ, i64_w, i32_w]
                rfl
              refine two_ (i := 4) (j := 7) (Ni := some 91) (Nj := some 94) #[true, true, true, true, true, true, true, false, false, true, true, true, false, false, false, false, false, false] #[true, true, true, true, false, true, true, true, false, true, true, true, false, false, false, false, false, false] rfl rfl rfl rfl (by kernel_rfl) (by decide) (by decide) (fun K hK => ?_) (fun K hK => ?_)
              · skip
                refine Kd.R_lit_step (Kd.int .i64) (w0 := w) w.heap.size 2 (by rfl) (N := 91) rfl (xs := [r.f0]) (inner := [.int .i64 r.f0]) (ok := fun _ => True) (okp := fun _ => True) ?hr ?hp (fun _ _ => trivial) trivial HQ.out HQ.out.size (by simp) ?_
                case hr => first | (go_simp; done) | (go_simp; rfl) | (go_simp; rw [hwr]; done) | (go_simp; rw [hwr]; rfl)
                case hp => exact Reps.one (show Kd.M (Kd.int .i64) _ _ _ r.f0 [.int .i64 r.f0] from rfl) (Reps.none _ _)
                intro v4 q hR hB hg hnew
                have N4 := Lib.hid (H11.out.apart hnew)
                replace H11 := Lib.hid (H11.out.same hg)
                have H4 : Hid (RI w.heap.size q v4 [r.f0]) := Lib.hid hR
                replace HRq := Lib.hid (blk_gr HRq.out hg (by simp))
                replace HQ := Lib.hid hB
                clear hR hB hg hnew
                refine hK.out _ _ ⟨(cells6 HRq.out).1, (cells6 HRq.out).2.1, (cells6 HRq.out).2.2.1, (cells6 HRq.out).2.2.2.1, (cells6 HRq.out).2.2.2.2.1, (cells6 HRq.out).2.2.2.2.2.2.2.2⟩ (fun hHeld => ?_)
                clear hK K
                refine norm_ (a' := ?_) ?_ ?_
                rotate_left
                · show Act.put _ (some 91) _ = _
                  simp only [Act.put, List.setIfInBounds_toArray, List.set_cons_zero, List.set_cons_succ, i64_w, i32_w]
                  rfl
                refine one_ (i := 7) (N := some 94) #[true, true, true, true, true, true, true, true, false, true, true, true, false, false, false, false, false, false] rfl rfl (by kernel_rfl) (by decide) (fun K hK => ?_)
                refine goes_ Tryd.func41 (by kernel_rfl) rfl #[.agg #[.int .i64 r.f1.f0, .int .i64 r.f1.f1, .int .i64 r.f1.f2, .int .i64 r.f1.f3]] (by rfl) rfl rfl (by simp only [List.map_toArray, List.map_cons, List.map_nil]; rfl) ?_
                with_reducible refine (key_new r.f1.f0 r.f1.f1 r.f1.f2 r.f1.f3 w _ w.heap.size HQ.out HQ.out.size).mono ?_
                rintro e q ⟨v7, rfl, hR, hB, hb, hg, hnew⟩
                refine ⟨_, rfl, ?_⟩
                replace H4 := Lib.hid (H4.out.same hg)
                replace H11 := Lib.hid (H11.out.same hg)
                have H7 := Lib.hid hR
                replace HRq := Lib.hid (blk_gr HRq.out hg (by simp))
                replace HQ := Lib.hid hB
                clear hR hB hg hnew
                refine hK.out _ _ ⟨(cells6 HRq.out).1, (cells6 HRq.out).2.1, (cells6 HRq.out).2.2.1, (cells6 HRq.out).2.2.2.1, (cells6 HRq.out).2.2.2.2.1, (cells6 HRq.out).2.2.2.2.2.2.2.2⟩ (fun hHeld => ?_)
                clear hK K
                refine norm_ (a' := ?_) ?_ ?_
                rotate_left
                · show Act.put _ (some 94) _ = _
                  simp only [Act.put, List.setIfInBounds_toArray, List.set_cons_zero, List.set_cons_succ, i64_w, i32_w]
                  rfl
                refine one_ (i := 8) (N := some 95) #[true, true, true, true, true, true, true, true, true, true, true, true, false, false, false, false, false, false] rfl rfl (by kernel_rfl) (by decide) (fun K hK => ?_)
                obtain ⟨A_, c_, hv_, hl_, hC_⟩ := H7.out.slice
                refine Kd.R_append_rows_step (Kd.int .i64) (Rr := (Kd.int .i64).K _) (w0 := w) w.heap.size (by rfl) _ _ 91 2 (.int .i64 0) 8 (by rfl) Tryd.underlying91 info2_ rfl (by decide) (by decide) v4 [r.f0] [r.f1.f0, r.f1.f1, r.f1.f2, r.f1.f3] A_ _ c_ (fun _ => True) (fun _ => False) (by rfl) (by exact hv_) H4.out hC_ (fun x cs h => kint_M x cs h) (fun _ h => h.elim) (fun _ _ => trivial) HQ.out HQ.out.size (by simp) ?_
                intro v8 q hR hB hg hat
                have H8 : Hid (RI w.heap.size q v8 ([r.f0] ++ [r.f1.f0, r.f1.f1, r.f1.f2, r.f1.f3])) := Lib.hid hR
                replace H11 := Lib.hid (H11.out.grown hg N4.out)
                replace HRq := Lib.hid (blk_gr HRq.out hg (H4.out.ne HRq.out (by decide)))
                replace HQ := Lib.hid hB
                clear hR hB hg hat hv_ hC_ hl_ H4 H7
                refine hK.out _ _ ⟨(cells6 HRq.out).1, (cells6 HRq.out).2.1, (cells6 HRq.out).2.2.1, (cells6 HRq.out).2.2.2.1, (cells6 HRq.out).2.2.2.2.1, (cells6 HRq.out).2.2.2.2.2.2.2.2⟩ (fun hHeld => ?_)
                clear hK K
                refine norm_ (a' := ?_) ?_ ?_
                rotate_left
                · show Act.put _ (some 95) _ = _
                  simp only [Act.put, List.setIfInBounds_toArray, List.set_cons_zero, List.set_cons_succ, i64_w, i32_w]
                  rfl
                exact norm_ (by simp only [putAll, Act.put, List.setIfInBounds_toArray, List.set_cons_zero, List.set_cons_succ]) (hCont (v4, v7, v8, v11) _ ⟨H8, H11, HQ, HRq⟩)
              · skip
                refine goes_ Tryd.func41 (by kernel_rfl) rfl #[.agg #[.int .i64 r.f1.f0, .int .i64 r.f1.f1, .int .i64 r.f1.f2, .int .i64 r.f1.f3]] (by rfl) rfl rfl (by simp only [List.map_toArray, List.map_cons, List.map_nil]; rfl) ?_
                with_reducible refine (key_new r.f1.f0 r.f1.f1 r.f1.f2 r.f1.f3 w _ w.heap.size HQ.out HQ.out.size).mono ?_
                rintro e q ⟨v7, rfl, hR, hB, hb, hg, hnew⟩
                refine ⟨_, rfl, ?_⟩
                replace H11 := Lib.hid (H11.out.same hg)
                have H7 := Lib.hid hR
                replace HRq := Lib.hid (blk_gr HRq.out hg (by simp))
                replace HQ := Lib.hid hB
                clear hR hB hg hnew
                refine hK.out _ _ ⟨(cells6 HRq.out).1, (cells6 HRq.out).2.1, (cells6 HRq.out).2.2.1, (cells6 HRq.out).2.2.2.1, (cells6 HRq.out).2.2.2.2.1, (cells6 HRq.out).2.2.2.2.2.2.2.2⟩ (fun hHeld => ?_)
                clear hK K
                refine norm_ (a' := ?_) ?_ ?_
                rotate_left
                · show Act.put _ (some 94) _ = _
                  simp only [Act.put, List.setIfInBounds_toArray, List.set_cons_zero, List.set_cons_succ, i64_w, i32_w]
                  rfl
                refine one_ (i := 4) (N := some 91) #[true, true, true, true, true, true, true, true, false, true, true, true, false, false, false, false, false, false] rfl rfl (by kernel_rfl) (by decide) (fun K hK => ?_)
                refine Kd.R_lit_step (Kd.int .i64) (w0 := w) w.heap.size 2 (by rfl) (N := 91) rfl (xs := [r.f0]) (inner := [.int .i64 r.f0]) (ok := fun _ => True) (okp := fun _ => True) ?hr ?hp (fun _ _ => trivial) trivial HQ.out HQ.out.size (by simp) ?_
                case hr => first | (go_simp; done) | (go_simp; rfl) | (go_simp; rw [hwr]; done) | (go_simp; rw [hwr]; rfl)
                case hp => exact Reps.one (show Kd.M (Kd.int .i64) _ _ _ r.f0 [.int .i64 r.f0] from rfl) (Reps.none _ _)
                intro v4 q hR hB hg hnew
                have N4 := Lib.hid (H11.out.apart hnew)
                replace H7 := Lib.hid (H7.out.same hg)
                replace H11 := Lib.hid (H11.out.same hg)
                have H4 : Hid (RI w.heap.size q v4 [r.f0]) := Lib.hid hR
                replace HRq := Lib.hid (blk_gr HRq.out hg (by simp))
                replace HQ := Lib.hid hB
                clear hR hB hg hnew
                refine hK.out _ _ ⟨(cells6 HRq.out).1, (cells6 HRq.out).2.1, (cells6 HRq.out).2.2.1, (cells6 HRq.out).2.2.2.1, (cells6 HRq.out).2.2.2.2.1, (cells6 HRq.out).2.2.2.2.2.2.2.2⟩ (fun hHeld => ?_)
                clear hK K
                refine norm_ (a' := ?_) ?_ ?_
                rotate_left
                · show Act.put _ (some 91) _ = _
                  simp only [Act.put, List.setIfInBounds_toArray, List.set_cons_zero, List.set_cons_succ, i64_w, i32_w]
                  rfl
                refine one_ (i := 8) (N := some 95) #[true, true, true, true, true, true, true, true, true, true, true, true, false, false, false, false, false, false] rfl rfl (by kernel_rfl) (by decide) (fun K hK => ?_)
                obtain ⟨A_, c_, hv_, hl_, hC_⟩ := H7.out.slice
                refine Kd.R_append_rows_step (Kd.int .i64) (Rr := (Kd.int .i64).K _) (w0 := w) w.heap.size (by rfl) _ _ 91 2 (.int .i64 0) 8 (by rfl) Tryd.underlying91 info2_ rfl (by decide) (by decide) v4 [r.f0] [r.f1.f0, r.f1.f1, r.f1.f2, r.f1.f3] A_ _ c_ (fun _ => True) (fun _ => False) (by rfl) (by exact hv_) H4.out hC_ (fun x cs h => kint_M x cs h) (fun _ h => h.elim) (fun _ _ => trivial) HQ.out HQ.out.size (by simp) ?_
                intro v8 q hR hB hg hat
                have H8 : Hid (RI w.heap.size q v8 ([r.f0] ++ [r.f1.f0, r.f1.f1, r.f1.f2, r.f1.f3])) := Lib.hid hR
                replace H11 := Lib.hid (H11.out.grown hg N4.out)
                replace HRq := Lib.hid (blk_gr HRq.out hg (H4.out.ne HRq.out (by decide)))
                replace HQ := Lib.hid hB
                clear hR hB hg hat hv_ hC_ hl_ H4 H7
                refine hK.out _ _ ⟨(cells6 HRq.out).1, (cells6 HRq.out).2.1, (cells6 HRq.out).2.2.1, (cells6 HRq.out).2.2.2.1, (cells6 HRq.out).2.2.2.2.1, (cells6 HRq.out).2.2.2.2.2.2.2.2⟩ (fun hHeld => ?_)
                clear hK K
                refine norm_ (a' := ?_) ?_ ?_
                rotate_left
                · show Act.put _ (some 95) _ = _
                  simp only [Act.put, List.setIfInBounds_toArray, List.set_cons_zero, List.set_cons_succ, i64_w, i32_w]
                  rfl
                exact norm_ (by simp only [putAll, Act.put, List.setIfInBounds_toArray, List.set_cons_zero, List.set_cons_succ]) (hCont (v4, v7, v8, v11) _ ⟨H8, H11, HQ, HRq⟩)
          clear HQ HRq
          rintro ⟨v4, v7, v8, v11⟩ q1 ⟨H8, H11, HQ, HRq⟩
          replace H8 : Hid (RI w.heap.size q1 v8 ([r.f0] ++ [r.f1.f0, r.f1.f1, r.f1.f2, r.f1.f3])) := H8
          replace H11 : Hid (RI w.heap.size q1 v11 [r.f2]) := H11
          have hHeld : q1.cell? ⟨nr, 0, none⟩ = some (.int .u32 r.f0) ∧ q1.cell? ⟨nr, 1, none⟩ = some (.int .i64 r.f1.f0) ∧ q1.cell? ⟨nr, 1 + 1, none⟩ = some (.int .i64 r.f1.f1) ∧ q1.cell? ⟨nr, 1 + 2, none⟩ = some (.int .i64 r.f1.f2) ∧ q1.cell? ⟨nr, 1 + 3, none⟩ = some (.int .i64 r.f1.f3) ∧ q1.cell? ⟨nr, 5, none⟩ = some (.int .i64 r.f2) := ⟨(cells6 HRq.out).1, (cells6 HRq.out).2.1, (cells6 HRq.out).2.2.1, (cells6 HRq.out).2.2.2.1, (cells6 HRq.out).2.2.2.2.1, (cells6 HRq.out).2.2.2.2.2.2.2.2⟩
          refine norm_ (a' := ?_) ?_ ?_
          rotate_left
          · simp only [putAll, Act.put, List.setIfInBounds_toArray, List.set_cons_zero, List.set_cons_succ]
            rfl
          refine one_ (i := 12) (N := some 99) #[true, true, true, true, true, true, true, true, true, true, true, true, true, false, false, false, false, false] rfl rfl (by kernel_rfl) (by decide) (fun K hK => ?_)
          obtain ⟨A_, c_, hv_, hl_, hC_⟩ := H11.out.slice
          refine Kd.R_append_rows_step (Kd.int .i64) (Rr := (Kd.int .i64).K _) (w0 := w) w.heap.size (by rfl) _ _ 91 2 (.int .i64 0) 8 (by rfl) Tryd.underlying91 info2_ rfl (by decide) (by decide) v8 ([r.f0] ++ [r.f1.f0, r.f1.f1, r.f1.f2, r.f1.f3]) [r.f2] A_ _ c_ (fun _ => True) (fun _ => False) (by rfl) (by exact hv_) H8.out hC_ (fun x cs h => kint_M x cs h) (fun _ h => h.elim) (fun _ _ => trivial) HQ.out HQ.out.size (by simp) ?_
          intro v12 q hR hB hg hat
          obtain ⟨ns, hns⟩ : ∃ ns, ns = [r.f0] ++ [r.f1.f0, r.f1.f1, r.f1.f2, r.f1.f3] ++ [r.f2] := ⟨_, rfl⟩
          rw [← hns] at hR
          obtain ⟨A12, c12, rfl, hl12, hC12⟩ := (show RI w.heap.size q v12 ns from hR).slice
          have HC12 := Lib.hid hC12
          have HL12 := Lib.hid hl12
          have HI6 : Hid (∀ n, n ∈ ns → I64 n) := Lib.hid (by rw [hns]; intro n hn; simp at hn; rcases hn with rfl | rfl | rfl | rfl | rfl | rfl; exact I64.row HOR.out; exact HOR.out.x0; exact HOR.out.x1; exact HOR.out.y0; exact HOR.out.y1; exact HOR.out.v)
          have hnl : ns.length = 6 := by rw [hns]; rfl
          have HNL : Hid (ns.length ≤ 1000) := Lib.hid (by omega)
          have hbn := blanked_le ns HI6.out
          rw [hnl] at hbn
          have HNS := Lib.hid hns
          replace HRq := Lib.hid (blk_gr HRq.out hg (H8.out.ne HRq.out (by decide)))
          replace HQ := Lib.hid hB
          clear hR hB hg hat hv_ hC_ hl_ H8 H11 hns hnl hC12 hl12
          refine hK.out _ _ ⟨(cells6 HRq.out).1, (cells6 HRq.out).2.1, (cells6 HRq.out).2.2.1, (cells6 HRq.out).2.2.2.1, (cells6 HRq.out).2.2.2.2.1, (cells6 HRq.out).2.2.2.2.2.2.2.2⟩ (fun hHeld => ?_)
          clear hK K
          refine norm_ (a' := ?_) ?_ ?_
          rotate_left
          · show Act.put _ (some 99) _ = _
            simp only [Act.put, List.setIfInBounds_toArray, List.set_cons_zero, List.set_cons_succ, i64_w, i32_w]
            rfl
          refine one_ (i := 13) (N := some 100) #[true, true, true, true, true, true, true, true, true, true, true, true, true, true, false, false, false, false] rfl rfl (by kernel_rfl) (by decide) (fun K hK => ?_)
          refine goes_ Tryd.func37 (by kernel_rfl) rfl #[.slice A12 ns.length c12] (by rfl) rfl rfl (by simp only [List.map_toArray, List.map_cons, List.map_nil]; rfl) ?_
          with_reducible refine (numbers_ref ns A12 c12 _ HC12.out HL12.out HI6.out HNL.out).mono ?_
          rintro e _ ⟨rfl, rfl⟩
          refine ⟨_, rfl, ?_⟩
          refine hK.out _ _ ⟨(cells6 HRq.out).1, (cells6 HRq.out).2.1, (cells6 HRq.out).2.2.1, (cells6 HRq.out).2.2.2.1, (cells6 HRq.out).2.2.2.2.1, (cells6 HRq.out).2.2.2.2.2.2.2.2⟩ (fun hHeld => ?_)
          clear hK K
          refine norm_ (a' := ?_) ?_ ?_
          rotate_left
          · show Act.put _ (some 100) _ = _
            simp only [Act.put, List.setIfInBounds_toArray, List.set_cons_zero, List.set_cons_succ, i64_w, i32_w]
            rfl
          refine pure_ (i := 14) (N := some 101) (v := ?_) (a' := ?_) #[true, true, true, true, true, true, true, true, true, true, true, true, true, true, true, false, false, false] rfl rfl (by kernel_rfl) (fun _ _ _ h => h) (Or.inl ⟨by rfl, ?_⟩) ?_ ?_
          rotate_left
          · intro w'
            go_simp
            first | with_reducible rfl | (rw [if_neg (by omega)]; done) | (rw [if_neg (by simp; omega)]; done)
          rotate_left
          · simp only [Act.put, List.setIfInBounds_toArray, List.set_cons_zero, List.set_cons_succ, i64_w, i32_w]
            rfl
          refine pure_ (i := 15) (N := some 102) (v := ?_) (a' := ?_) #[true, true, true, true, true, true, true, true, true, true, true, true, true, true, true, true, false, false] rfl rfl (by kernel_rfl) (fun _ _ _ h => h) (Or.inl ⟨by rfl, ?_⟩) ?_ ?_
          rotate_left
          · intro w'
            go_simp
            first | with_reducible rfl | (rw [if_neg (by omega)]; done) | (rw [if_neg (by simp; omega)]; done)
          rotate_left
          · simp only [Act.put, List.setIfInBounds_toArray, List.set_cons_zero, List.set_cons_succ, i64_w, i32_w]
            rfl
          refine pure_ (i := 16) (N := some 103) (v := ?_) (a' := ?_) #[true, true, true, true, true, true, true, true, true, true, true, true, true, true, true, true, true, false] rfl rfl (by kernel_rfl) (fun _ _ _ h => h) (Or.inl ⟨by rfl, ?_⟩) ?_ ?_
          rotate_left
          · intro w'
            go_simp
            first | with_reducible rfl | (rw [if_neg (by omega)]; done) | (rw [if_neg (by simp; omega)]; done)
          rotate_left
          · simp only [Act.put, List.setIfInBounds_toArray, List.set_cons_zero, List.set_cons_succ, i64_w, i32_w]
            rfl
          refine pure_ (i := 17) (N := some 5) (v := ?_) (a' := ?_) #[true, true, true, true, true, true, true, true, true, true, true, true, true, true, true, true, true, true] rfl rfl (by kernel_rfl) (fun _ _ _ h => h) (Or.inl ⟨by rfl, ?_⟩) ?_ ?_
          rotate_left
          · intro w'
            go_simp
            first | with_reducible rfl | (rw [if_neg (by omega)]; done) | (rw [if_neg (by simp; omega)]; done)
          rotate_left
          · simp only [Act.put, List.setIfInBounds_toArray, List.set_cons_zero, List.set_cons_succ, i64_w, i32_w]
            rfl
          refine done_ (by kernel_rfl) ?_
          have HE14 : Hid ((⟨l2.toArray⟩ : ByteArray) ++ ((⟨#[114, 111, 119]⟩ : ByteArray) ++ ⟨(blanked ns).toArray⟩ ++ ⟨#[10]⟩) = ⟨(l1 ++ (h.f4.take (m + 1)).flatMap rowT).toArray⟩) := Lib.hid (by
            rw [HTKr.out, List.flatMap_append, ← List.append_assoc, ← HL2.out]
            apply ba_ext
            rw [HNS.out]
            simp [rowT, blanked])
          rw [HE14.out]
          clear HE14 hbn
          go_wp2
          go_roundw
          case rel => exact ⟨m + 1, by omega, by go_num, rfl, HQ⟩
          case measure => simp [intOf]; omega
        · have he : m = h.f4.length := by omega
          subst he
          have HEe : Hid (l1 ++ (h.f4.take h.f4.length).flatMap rowT = ht ++ (hs.take (k + 1)).flatMap heardT) := Lib.hid (by
            rw [List.take_length, HL1.out, HL0.out, HTK.out, List.flatMap_append]
            simp [heardT, heardH])
          rw [HEe.out]
          clear hbelq HEe
          go_wp2
          go_roundw
          case rel => exact ⟨k + 1, by omega, by go_num, rfl, HBELq⟩
          case measure => simp [intOf]; omega
    · have he : k = hs.length := by omega
      subst he
      clear hbel
      rw [List.take_length]
      go_wp2
      go_ret
      exact ⟨rfl, HBEL.out⟩
end Go.Proofs.YthkheemjgcbofaaDoor
