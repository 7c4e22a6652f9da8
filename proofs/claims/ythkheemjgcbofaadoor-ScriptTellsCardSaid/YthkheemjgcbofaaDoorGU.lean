/-
  The lines that are told of an event, as the program lays them: another event.
  The lines that are told of an event, as the program lays them.
-/
import Derived.Test.YthkheemjgcbofaaDoorGR
import Derived.Test.YthkheemjgcbofaaDoorGS
import Derived.Test.YthkheemjgcbofaaDoorGT

namespace Go.Proofs.YthkheemjgcbofaaDoor
set_option linter.unusedVariables false
set_option linter.unusedSimpArgs false
open Go.RowKit Go.Proofs.YthkheemjgcbofaaDoor.PSc Go.Proofs.YthkheemjgcbofaaDoorW.PrintWords

set_option maxHeartbeats 8000000 in
set_option maxRecDepth 100000 in
theorem lines_toldc (x : S46) (v : Value) (te td tn : Int) (hs : List S57) (B : Option Addr) (d : Nat) (w : World) (hG : Glob w) (hxe : I64 te) (hxd : I64 td) (hxn : I64 tn) (hr : Kd.C k57 w B hs.length hs) (hd : hs.length ≤ d) (hok : ∀ h, h ∈ hs → Ok57 h ∧ h.f4.length ≤ 9) (hl9 : hs.length ≤ 9) (he : te = 0) (hk : ¬ x.f0 = 3) :
    Calls Tryd.prog 16 #[.agg (vals46 x v), .agg #[.int .i64 te, .slice B hs.length d, .int .i64 td, .int .i64 tn]] w (LPost (toldT x.f0 te td tn hs) w) := by
  obtain ⟨x0, x1, ⟨x2, x3, x4, ⟨x5, x6, x7, x8⟩, x9⟩, x10, x11⟩ := x
  simp only [vals46]
  have HE_ := Lib.hid he
  clear he
  have HK_ := Lib.hid hk
  clear hk
  have hGs := hG.size
  obtain ⟨ht, hht⟩ : ∃ T, T = headT x0 te td tn := ⟨_, rfl⟩
  have hpo : toldT x0 te td tn hs = ht ++ hs.flatMap heardT := by rw [hht]; rfl
  rw [hpo]
  have HHT := Lib.hid hht
  clear hpo hht
  have HR := Lib.hid hr
  have HOK := Lib.hid hok
  have HIE := Lib.hid hxe
  have HID := Lib.hid hxd
  have HIN := Lib.hid hxn
  obtain ⟨w1, hw1⟩ : ∃ W, W = (w.alloc (.cells #[.int .i64 x0, .int .i64 x1, .int .i64 x2, .bool x3, .int .u32 x4, .int .i64 x5, .int .i64 x6, .int .i64 x7, .int .i64 x8, .int .i64 x9, .int .i64 x10, v] 46 (0, 0))).alloc (.cells #[.int .i64 te, .slice B hs.length d, .int .i64 td, .int .i64 tn] 51 (0, 0)) := ⟨_, rfl⟩
  have hb1 : Below w.heap.size w w1 := by rw [hw1]; exact (Below.alloc (Below.refl _ _) (Nat.le_refl _) _).alloc (by simp) _
  have HX1 : Hid (w1.heap[w.heap.size]? = some (.cells #[.int .i64 x0, .int .i64 x1, .int .i64 x2, .bool x3, .int .u32 x4, .int .i64 x5, .int .i64 x6, .int .i64 x7, .int .i64 x8, .int .i64 x9, .int .i64 x10, v] 46 (0, 0))) := Lib.hid (by rw [hw1]; exact blk_alloc (blk_new w _) _)
  have HT1 : Hid (w1.heap[w.heap.size + 1]? = some (.cells #[.int .i64 te, .slice B hs.length d, .int .i64 td, .int .i64 tn] 51 (0, 0))) := Lib.hid (by rw [hw1]; exact blk_at _ _ (by simp))
  have HB1 := Lib.hid hb1
  have hz1 : w.heap.size + 2 ≤ w1.heap.size := blk_lt HT1.out
  clear hb1 hr hok hxe hxd hxn
  go_enter Tryd.func16, Tryd.ntmps16
  go_upto_region 1 with (fail)
  rw [← hw1]
  clear hw1
  go_upto_region 3 with (fail)
  obtain ⟨w2, hw2⟩ : ∃ W, W = w1.alloc (.cells #[.pointer none, .slice none 0 0] 71 (0, 0)) := ⟨_, rfl⟩
  have HW2 : Hid (Wr w1.heap.size [] w2) := Lib.hid (Wr.fresh (by rw [hw2]; exact blk_new w1 _))
  have HX2 := Lib.hid (blk_below HX1.out (show Below w1.heap.size w1 w2 by rw [hw2]; exact Below.alloc (Below.refl _ _) (Nat.le_refl _) _))
  have HT2 := Lib.hid (blk_below HT1.out (show Below w1.heap.size w1 w2 by rw [hw2]; exact Below.alloc (Below.refl _ _) (Nat.le_refl _) _))
  have HB2 : Hid (Below w.heap.size w w2) := Lib.hid (by rw [hw2]; exact HB1.out.alloc (by omega) _)
  rw [← hw2]
  clear hw2 HX1 HT1
  obtain ⟨b, hb⟩ : ∃ b, b = w1.heap.size := ⟨_, rfl⟩
  rw [← hb] at HW2 hz1 ⊢
  have h6b : 6 ≤ b := by omega
  have hwb : w.heap.size + 1 < b := by omega
  clear hb HB1
  obtain ⟨g0, g1, g2, g3⟩ : w2.cell? ⟨w.heap.size + 1, 0, none⟩ = some (.int .i64 te) ∧ w2.cell? ⟨w.heap.size + 1, 1, none⟩ = some (.slice B hs.length d) ∧ w2.cell? ⟨w.heap.size + 1, 2, none⟩ = some (.int .i64 td) ∧ w2.cell? ⟨w.heap.size + 1, 3, none⟩ = some (.int .i64 tn) := ⟨(blk_cell HT2.out 0).trans rfl, (blk_cell HT2.out 1).trans rfl, (blk_cell HT2.out 2).trans rfl, (blk_cell HT2.out 3).trans rfl⟩
  have k0 : w2.cell? ⟨w.heap.size, 0, none⟩ = some (.int .i64 x0) := (blk_cell HX2.out 0).trans rfl
  have he := HE_.out
  clear HE_
  subst he
  have hk : ¬ x0 = 3 := HK_.out
  clear HK_
  have hne : (x0 == 3) = false := by simpa using hk
  have hnd : decide (x0 = 3) = false := by simpa using hk
  go_wp2_with fail
  refine (writeString_of b [] [111, 107] _ rfl w2 HW2.out (by decide)).mono ?_
  rintro e w5 ⟨rfl, hw5, hm5⟩
  obtain ⟨hd0, hhd⟩ : ∃ hd0, hd0 = ([] : By) ++ [111, 107] := ⟨_, rfl⟩
  rw [← hhd] at hw5
  have HW5 := Lib.hid hw5
  have HM5 : Hid (Wm b w2 w5) := Lib.hid hm5
  have hhl : hd0.length ≤ 60 := by rw [hhd]; decide
  have HHD : Hid (hd0 ++ [10] = ht) := Lib.hid (by rw [HHT.out]; unfold headT; rw [if_pos rfl, if_neg hk, hhd]; simp)
  clear hw5 hm5 hhd g0 g1 g2 g3 k0 hne hnd
  go_upto_region 9 with (fail)
  clear HIE HID HIN HHT
  go_wp2_with fail
  refine (writeByte_calls b hd0 10 w5 HW5.out (by omega)).mono ?_
  rintro e w6 ⟨rfl, hw6, hm6⟩
  rw [HHD.out] at hw6
  have hhl6 : ht.length ≤ 61 := by rw [← HHD.out, List.length_append]; simp; omega
  have HHD2 := HHD
  have HW6 := Lib.hid hw6
  have HM6 : Hid (Wm b w2 w6) := Lib.hid (HM5.out.trans hm6)
  have HT6 := Lib.hid (HM6.out.blkLt HT2.out hwb)
  clear hw6 hm6 HW5 HM5 HHD hhl
  have g1 : w6.cell? ⟨w.heap.size + 1, 1, none⟩ = some (.slice B hs.length d) := (blk_cell HT6.out 1).trans rfl
  go_wp2_with fail
  go_loopw [41] (fun i wr => ∃ k : Nat, k ≤ hs.length ∧ i = .int .i64 k ∧ Hid (Wr b (ht ++ (hs.take k).flatMap heardT) wr) ∧ Hid (Wm b w2 wr)) (fun i _ => hs.length - (intOf i).toNat)
  case atStart => exact ⟨0, by omega, rfl, Lib.hid (by simpa using HW6.out), HM6⟩
  case round =>
    obtain ⟨k, hk, rfl, HWr, HM⟩ := hrel
    have hbel : Below w.heap.size w wr := HB2.out.trans (HM.out.below.mono (by omega))
    have HBEL := Lib.hid hbel
    have hbwr := HWr.out.lt
    by_cases hlt : k < hs.length
    · obtain ⟨h, hh⟩ : ∃ h, hs[k]? = some h := ⟨_, List.getElem?_eq_getElem hlt⟩
      have htk : hs.take (k + 1) = hs.take k ++ [h] := by rw [List.take_add_one, hh]; rfl
      obtain ⟨ad, A11, c11, rfl, h0, h1, h2, h3, h4, h5, h6, h7, h8, h9, h10, h11, h12, h13, h14, h15, hl, hC⟩ := at_T57 HR.out (k : Int) (by omega) (by omega)
      have hrd : rd_T57 hs (k : Int) = h := by unfold rd_T57; simp [hh]
      rw [hrd] at h0 h1 h2 h3 h4 h5 h6 h7 h8 h9 h10 h11 h12 h13 h14 h15 hl hC
      simp only [Int.toNat_natCast] at h0 h1 h2 h3 h4 h5 h6 h7 h8 h9 h10 h11 h12 h13 h14 h15
      replace h0 := (hbel.cell (World.block_lt_of_cell? _ _ h0)).trans h0
      replace h1 := (hbel.cell (World.block_lt_of_cell? _ _ h1)).trans h1
      replace h2 := (hbel.cell (World.block_lt_of_cell? _ _ h2)).trans h2
      replace h3 := (hbel.cell (World.block_lt_of_cell? _ _ h3)).trans h3
      replace h4 := (hbel.cell (World.block_lt_of_cell? _ _ h4)).trans h4
      replace h5 := (hbel.cell (World.block_lt_of_cell? _ _ h5)).trans h5
      replace h6 := (hbel.cell (World.block_lt_of_cell? _ _ h6)).trans h6
      replace h7 := (hbel.cell (World.block_lt_of_cell? _ _ h7)).trans h7
      replace h8 := (hbel.cell (World.block_lt_of_cell? _ _ h8)).trans h8
      replace h9 := (hbel.cell (World.block_lt_of_cell? _ _ h9)).trans h9
      replace h10 := (hbel.cell (World.block_lt_of_cell? _ _ h10)).trans h10
      replace h11 := (hbel.cell (World.block_lt_of_cell? _ _ h11)).trans h11
      replace h12 := (hbel.cell (World.block_lt_of_cell? _ _ h12)).trans h12
      replace h13 := (hbel.cell (World.block_lt_of_cell? _ _ h13)).trans h13
      replace h14 := (hbel.cell (World.block_lt_of_cell? _ _ h14)).trans h14
      replace h15 := (hbel.cell (World.block_lt_of_cell? _ _ h15)).trans h15
      have hmem : h ∈ hs := List.mem_of_getElem? hh
      have HOH := Lib.hid (HOK.out h hmem)
      have HKC := Lib.hid hC
      have HTK := Lib.hid htk
      have hel := heards_le (hs.take k) (fun y hy => HOK.out y (List.mem_of_mem_take hy))
      rw [List.length_take] at hel
      obtain ⟨l0, hl0⟩ : ∃ l0, l0 = ht ++ (hs.take k).flatMap heardT := ⟨_, rfl⟩
      have hl0l : l0.length ≤ 20000 := by rw [hl0, List.length_append]; omega
      rw [← hl0] at HWr
      have HL0 := Lib.hid hl0
      have hvl := verbF_le h.f1.f0
      have hr9 := (HOK.out h hmem).2
      have hhh := heardH_le h (HOK.out h hmem).1
      obtain ⟨v0, hv0⟩ : ∃ W, W = wr.alloc (.cells #[.int .i64 h.f0, .int .i64 h.f1.f0, .bool h.f1.f1, .int .u32 h.f1.f2, .int .i64 h.f1.f3.f0, .int .i64 h.f1.f3.f1, .int .i64 h.f1.f3.f2, .int .i64 h.f1.f3.f3, .int .i64 h.f1.f4, .int .i64 h.f2, .int .u64 h.f3, .slice A11 h.f4.length c11, .int .u64 h.f5, .int .u64 h.f6, .int .u64 h.f7, .bool h.f8] 57 (0, 0)) := ⟨_, rfl⟩
      have hbv0 : Below wr.heap.size wr v0 := by rw [hv0]; exact Below.alloc (Below.refl _ _) (Nat.le_refl _) _
      have HH0 : Hid (v0.heap[wr.heap.size]? = some (.cells #[.int .i64 h.f0, .int .i64 h.f1.f0, .bool h.f1.f1, .int .u32 h.f1.f2, .int .i64 h.f1.f3.f0, .int .i64 h.f1.f3.f1, .int .i64 h.f1.f3.f2, .int .i64 h.f1.f3.f3, .int .i64 h.f1.f4, .int .i64 h.f2, .int .u64 h.f3, .slice A11 h.f4.length c11, .int .u64 h.f5, .int .u64 h.f6, .int .u64 h.f7, .bool h.f8] 57 (0, 0))) := Lib.hid (by rw [hv0]; exact blk_new wr _)
      have HV0 : Hid (Wr b l0 v0) := Lib.hid (HWr.out.new hbv0)
      have HN0 : Hid (Wm b w2 v0) := Lib.hid (HM.out.new hbv0 (by omega))
      clear hbel hrd hh htk hmem hl hC hl0 hel hbv0
      go_upto_region 13 with (fail)
      rw [← hv0]
      clear hv0 h0 h1 h2 h3 h4 h5 h6 h7 h8 h9 h10 h11 h12 h13 h14 h15
      have hnb : wr.heap.size ≠ b := by omega
      obtain ⟨nb, hnbe⟩ : ∃ nb, nb = wr.heap.size := ⟨_, rfl⟩
      rw [← hnbe] at HH0 hnb hbwr ⊢
      clear hnbe
      have hb1 := b1_le HOH.out.1.s
      have hb2 := b1_le HOH.out.1.e
      have hb4 := b1_le (bitF_i64 h.f8)
      have hU : ∀ n, n ∈ [h.f5, h.f6, h.f7] → U64 n := by intro n hn; simp at hn; rcases hn with rfl | rfl | rfl; exact HOH.out.1.a; exact HOH.out.1.b; exact HOH.out.1.c
      have hb3 := blankedU_le [h.f5, h.f6, h.f7] hU
      simp only [List.length_cons, List.length_nil] at hb3
      have HU := Lib.hid hU
      clear hU
      go_wp2_with fail
      refine (writeString_of b _ [104, 101, 97, 114, 100] _ rfl v0 HV0.out (by simp only [List.length_append, List.length_cons, List.length_nil]; omega)).mono ?_
      rintro e v1 ⟨rfl, hw, hm⟩
      have HV1 := Lib.hid hw
      have HN1 : Hid (Wm b w2 v1) := Lib.hid (HN0.out.trans hm)
      have HH1 := Lib.hid (hm.blk HH0.out hnb (by decide))
      clear hw hm
      have e0 : v1.cell? ⟨nb, 0, none⟩ = some (.int .i64 h.f0) := (blk_cell HH1.out 0).trans rfl
      go_wp2_with fail
      refine (num1_w b h.f0 _ v1 ((hG.below HB2.out (by omega)).wm HN1.out h6b) h6b HV1.out HOH.out.1.s (by simp only [List.length_append, List.length_cons, List.length_nil]; omega)).mono ?_
      rintro e v2 ⟨rfl, hw, hm⟩
      clear e0
      have HV2 := Lib.hid hw
      have HN2 : Hid (Wm b w2 v2) := Lib.hid (HN1.out.trans hm)
      have HH2 := Lib.hid (hm.blk HH1.out hnb (by decide))
      clear hw hm
      have e1 : v2.cell? ⟨nb, 1, none⟩ = some (.int .i64 h.f1.f0) := (blk_cell HH2.out 1).trans rfl
      go_wp2_with fail
      refine (verb_calls h.f1.f0 v2).mono ?_
      rintro e u2 ⟨rfl, hb⟩
      clear e1
      have HVu : Hid (Wr b _ u2) := Lib.hid (HV2.out.new hb)
      have HNu : Hid (Wm b w2 u2) := Lib.hid (HN2.out.new hb (Nat.le_of_lt HV2.out.lt))
      have HHu := Lib.hid (blk_below HH2.out hb)
      clear hb
      have hcat : ¬ (9223372036854775807 < 1 + (verbF h.f1.f0).length) := by omega
      go_wp2_with fail
      refine (writeString_of b _ (32 :: verbF h.f1.f0) _ (space _) _ HVu.out (by simp only [List.length_append, List.length_cons, List.length_nil]; omega)).mono ?_
      rintro e v3 ⟨rfl, hw, hm⟩
      have HV3 := Lib.hid hw
      have HN3 : Hid (Wm b w2 v3) := Lib.hid (HNu.out.trans hm)
      have HH3 := Lib.hid (hm.blk HHu.out hnb (by decide))
      clear hw hm HVu HNu HHu hcat
      have e9 : v3.cell? ⟨nb, 9, none⟩ = some (.int .i64 h.f2) := (blk_cell HH3.out 9).trans rfl
      go_wp2_with fail
      refine (num1_w b h.f2 _ v3 ((hG.below HB2.out (by omega)).wm HN3.out h6b) h6b HV3.out HOH.out.1.e (by simp only [List.length_append, List.length_cons, List.length_nil]; omega)).mono ?_
      rintro e v4 ⟨rfl, hw, hm⟩
      clear e9
      have HV4 := Lib.hid hw
      have HN4 : Hid (Wm b w2 v4) := Lib.hid (HN3.out.trans hm)
      have HH4 := Lib.hid (hm.blk HH3.out hnb (by decide))
      clear hw hm
      have e12 : v4.cell? ⟨nb, 12, none⟩ = some (.int .u64 h.f5) := (blk_cell HH4.out 12).trans rfl
      have e13 : v4.cell? ⟨nb, 13, none⟩ = some (.int .u64 h.f6) := (blk_cell HH4.out 13).trans rfl
      have e14 : v4.cell? ⟨nb, 14, none⟩ = some (.int .u64 h.f7) := (blk_cell HH4.out 14).trans rfl
      go_wp2_with fail
      have hbel : Below v4.heap.size v4 (v4.alloc (.cells #[.int .u64 h.f5, .int .u64 h.f6, .int .u64 h.f7] 52)) := Below.alloc (Below.refl _ _) (Nat.le_refl _) _
      have hlt4 := HV4.out.lt
      have HG4 : Glob v4 := ((hG.below HB2.out (by omega)).wm HN4.out h6b)
      refine (wholes_w b v4.heap.size 3 [h.f5, h.f6, h.f7] 52 _ _ (HG4.below hbel HG4.size) h6b (HV4.out.new hbel) (blk_new v4 _) (by omega) (by decide) HU.out (by simp only [List.length_append, List.length_cons, List.length_nil]; omega)).mono ?_
      rintro e v5 ⟨rfl, hw, hm⟩
      have HV5 := Lib.hid hw
      have HN5 : Hid (Wm b w2 v5) := Lib.hid ((HN4.out.alloc (by omega) _).trans hm)
      have HH5 := Lib.hid (hm.blk (blk_below HH4.out hbel) hnb (by decide))
      clear hw hm hbel hlt4 HG4 e12 e13 e14
      have e15 : v5.cell? ⟨nb, 15, none⟩ = some (.bool h.f8) := (blk_cell HH5.out 15).trans rfl
      go_wp2_with fail
      refine (bit_calls h.f8 _).mono ?_
      rintro e ub ⟨rfl, n4, rfl⟩
      clear e15
      go_wp2_with fail
      have HG4 : Hid (Glob v5) := Lib.hid ((hG.below HB2.out (by omega)).wm HN5.out h6b)
      refine (num1_w b (bitF h.f8) _ (v5.drewN n4) (HG4.out.keep (Nat.le_refl _) (fun _ _ => rfl)) h6b HV5.out (bitF_i64 h.f8) (by simp only [List.length_append, List.length_cons, List.length_nil]; omega)).mono ?_
      rintro e v6 ⟨rfl, hw, hm⟩
      have HV6 := Lib.hid hw
      have HN6 : Hid (Wm b w2 v6) := Lib.hid ((HN5.out.drewN n4).trans hm)
      have HH6 := Lib.hid (hm.blk (blk_drewN HH5.out n4) hnb (by decide))
      clear hw hm HG4
      go_wp2_with fail
      refine (writeByte_calls b _ 10 v6 HV6.out (by simp only [List.length_append, List.length_cons, List.length_nil]; omega)).mono ?_
      rintro e v7 ⟨rfl, hw, hm⟩
      have HV7 := Lib.hid hw
      have HN7 : Hid (Wm b w2 v7) := Lib.hid (HN6.out.trans hm)
      have HH7 := Lib.hid (hm.blk HH6.out hnb (by decide))
      clear hw hm
      have e11 : v7.cell? ⟨nb, 11, none⟩ = some (.slice A11 h.f4.length c11) := (blk_cell HH7.out 11).trans rfl
      obtain ⟨l1, hl1⟩ : ∃ l1, l1 = l0 ++ heardH h := ⟨_, rfl⟩
      have hl1l : l1.length ≤ 21000 := by rw [hl1, List.length_append]; omega
      have HL1 := Lib.hid hl1
      have HV : Hid (Wr b l1 v7) := Lib.hid (by have := HV7.out; rw [hl1]; simpa [heardH] using this)
      clear hl1
      go_wp2_with fail
      go_loopw [82] (fun i wq => ∃ m : Nat, m ≤ h.f4.length ∧ i = .int .i64 m ∧ Hid (Wr b (l1 ++ (h.f4.take m).flatMap rowT) wq) ∧ Hid (Wm b w2 wq)) (fun i _ => h.f4.length - (intOf i).toNat)
      case atStart => exact ⟨0, by omega, rfl, Lib.hid (by simpa using HV.out), HN7⟩
      case round =>
        obtain ⟨m, hm, rfl, HVq, HMq⟩ := hrel
        have hbelq : Below w.heap.size w wr := HB2.out.trans (HMq.out.below.mono (by omega))
        have hbq := HVq.out.lt
        by_cases hlt2 : m < h.f4.length
        · obtain ⟨r, hh⟩ : ∃ r, h.f4[m]? = some r := ⟨_, List.getElem?_eq_getElem hlt2⟩
          have htk : h.f4.take (m + 1) = h.f4.take m ++ [r] := by rw [List.take_add_one, hh]; rfl
          obtain ⟨rd, rfl, h0, h1, h2, h3, h4, h5⟩ := at_T87 HKC.out (m : Int) (by omega) (by omega)
          have hrd : rd_T87 h.f4 (m : Int) = r := by unfold rd_T87; simp [hh]
          rw [hrd] at h0 h1 h2 h3 h4 h5
          simp only [Int.toNat_natCast] at h0 h1 h2 h3 h4 h5
          replace h0 := (hbelq.cell (World.block_lt_of_cell? _ _ h0)).trans h0
          replace h1 := (hbelq.cell (World.block_lt_of_cell? _ _ h1)).trans h1
          replace h2 := (hbelq.cell (World.block_lt_of_cell? _ _ h2)).trans h2
          replace h3 := (hbelq.cell (World.block_lt_of_cell? _ _ h3)).trans h3
          replace h4 := (hbelq.cell (World.block_lt_of_cell? _ _ h4)).trans h4
          replace h5 := (hbelq.cell (World.block_lt_of_cell? _ _ h5)).trans h5
          have HOR := Lib.hid (HOH.out.1.rows r (List.mem_of_getElem? hh))
          have HTKr := Lib.hid htk
          have hel := rows_le (h.f4.take m) (fun y hy => HOH.out.1.rows y (List.mem_of_mem_take hy))
          rw [List.length_take] at hel
          obtain ⟨l2, hl2⟩ : ∃ l2, l2 = l1 ++ (h.f4.take m).flatMap rowT := ⟨_, rfl⟩
          have hl2l : l2.length ≤ 30000 := by rw [hl2, List.length_append]; omega
          rw [← hl2] at HVq
          have HL2 := Lib.hid hl2
          have hr0 := HOR.out.row.1
          have hr1 := HOR.out.row.2
          have hba := b1_le (I64.row HOR.out)
          have hbb := blanked_le [r.f1.f0, r.f1.f1, r.f1.f2, r.f1.f3] (by intro n hn; simp at hn; rcases hn with rfl | rfl | rfl | rfl; exact HOR.out.x0; exact HOR.out.x1; exact HOR.out.y0; exact HOR.out.y1)
          have hbc := b1_le HOR.out.v
          simp only [List.length_cons, List.length_nil] at hbb
          obtain ⟨u0, hu0⟩ : ∃ W, W = wr.alloc (.cells #[.int .u32 r.f0, .int .i64 r.f1.f0, .int .i64 r.f1.f1, .int .i64 r.f1.f2, .int .i64 r.f1.f3, .int .i64 r.f2] 87 (0, 0)) := ⟨_, rfl⟩
          have hbu0 : Below wr.heap.size wr u0 := by rw [hu0]; exact Below.alloc (Below.refl _ _) (Nat.le_refl _) _
          have HR0 : Hid (u0.heap[wr.heap.size]? = some (.cells #[.int .u32 r.f0, .int .i64 r.f1.f0, .int .i64 r.f1.f1, .int .i64 r.f1.f2, .int .i64 r.f1.f3, .int .i64 r.f2] 87 (0, 0))) := Lib.hid (by rw [hu0]; exact blk_new wr _)
          have HU0 : Hid (Wr b l2 u0) := Lib.hid (HVq.out.new hbu0)
          have HQ0 : Hid (Wm b w2 u0) := Lib.hid (HMq.out.new hbu0 (by omega))
          clear hbelq hrd hh htk hl2 hel hbu0
          go_upto_region 23 with (fail)
          rw [← hu0]
          clear hu0 h0 h1 h2 h3 h4 h5
          have hnr : wr.heap.size ≠ b := by omega
          obtain ⟨nr, hnre⟩ : ∃ nr, nr = wr.heap.size := ⟨_, rfl⟩
          rw [← hnre] at HR0 hnr hbq ⊢
          clear hnre
          go_wp2_with fail
          refine (writeString_of b _ [114, 111, 119] _ rfl u0 HU0.out (by simp only [List.length_append, List.length_cons, List.length_nil]; omega)).mono ?_
          rintro e u1 ⟨rfl, hw, hm_⟩
          have HU1 := Lib.hid hw
          have HQ1 : Hid (Wm b w2 u1) := Lib.hid (HQ0.out.trans hm_)
          have HR1 := Lib.hid (hm_.blk HR0.out hnr (by decide))
          clear hw hm_
          have e0 : u1.cell? ⟨nr, 0, none⟩ = some (.int .u32 r.f0) := (blk_cell HR1.out 0).trans rfl
          go_wp2_with fail
          refine (num1_w b r.f0 _ u1 ((hG.below HB2.out (by omega)).wm HQ1.out h6b) h6b HU1.out (I64.row HOR.out) (by simp only [List.length_append, List.length_cons, List.length_nil]; omega)).mono ?_
          rintro e u2 ⟨rfl, hw, hm_⟩
          have HU2 := Lib.hid hw
          have HQ2 : Hid (Wm b w2 u2) := Lib.hid (HQ1.out.trans hm_)
          have HR2 := Lib.hid (hm_.blk HR1.out hnr (by decide))
          clear hw hm_ e0
          have e1 : u2.cell? ⟨nr, 1, none⟩ = some (.int .i64 r.f1.f0) := (blk_cell HR2.out 1).trans rfl
          have e2 : u2.cell? ⟨nr, 1 + 1, none⟩ = some (.int .i64 r.f1.f1) := (blk_cell HR2.out 2).trans rfl
          have e3 : u2.cell? ⟨nr, 1 + 2, none⟩ = some (.int .i64 r.f1.f2) := (blk_cell HR2.out 3).trans rfl
          have e4 : u2.cell? ⟨nr, 1 + 3, none⟩ = some (.int .i64 r.f1.f3) := (blk_cell HR2.out 4).trans rfl
          have e2' : u2.cell? ⟨nr, 2, none⟩ = some (.int .i64 r.f1.f1) := e2
          have e3' : u2.cell? ⟨nr, 3, none⟩ = some (.int .i64 r.f1.f2) := e3
          have e4' : u2.cell? ⟨nr, 4, none⟩ = some (.int .i64 r.f1.f3) := e4
          go_wp2_with fail
          refine (key_w b r.f1.f0 r.f1.f1 r.f1.f2 r.f1.f3 _ u2 ((hG.below HB2.out (by omega)).wm HQ2.out h6b) h6b HU2.out HOR.out.x0 HOR.out.x1 HOR.out.y0 HOR.out.y1 (by simp only [List.length_append, List.length_cons, List.length_nil]; omega)).mono ?_
          rintro e u3 ⟨rfl, hw, hm_⟩
          have HU3 := Lib.hid hw
          have HQ3 : Hid (Wm b w2 u3) := Lib.hid (HQ2.out.trans hm_)
          have HR3 := Lib.hid (hm_.blk HR2.out hnr (by decide))
          clear hw hm_ e1 e2 e3 e4 e2' e3' e4'
          have e5 : u3.cell? ⟨nr, 5, none⟩ = some (.int .i64 r.f2) := (blk_cell HR3.out 5).trans rfl
          go_wp2_with fail
          refine (num1_w b r.f2 _ u3 ((hG.below HB2.out (by omega)).wm HQ3.out h6b) h6b HU3.out HOR.out.v (by simp only [List.length_append, List.length_cons, List.length_nil]; omega)).mono ?_
          rintro e u4 ⟨rfl, hw, hm_⟩
          have HU4 := Lib.hid hw
          have HQ4 : Hid (Wm b w2 u4) := Lib.hid (HQ3.out.trans hm_)
          clear hw hm_ e5
          go_wp2_with fail
          refine (writeByte_calls b _ 10 u4 HU4.out (by simp only [List.length_append, List.length_cons, List.length_nil]; omega)).mono ?_
          rintro e u5 ⟨rfl, hw, hm_⟩
          have HU5 := Lib.hid hw
          have HQ5 : Hid (Wm b w2 u5) := Lib.hid (HQ4.out.trans hm_)
          clear hw hm_
          go_wp2
          go_roundw
          case rel =>
            refine ⟨m + 1, by omega, by go_num, ?_, HQ5⟩
            refine Lib.hid ?_
            rw [HTKr.out, List.flatMap_append, ← List.append_assoc, ← HL2.out]
            simpa [rowT] using HU5.out
          case measure => simp [intOf]; omega
        · have he : m = h.f4.length := by omega
          subst he
          have HVe : Hid (Wr b (ht ++ (hs.take (k + 1)).flatMap heardT) wr) := Lib.hid (by
            have h1 := HVq.out
            rw [List.take_length, HL1.out, HL0.out] at h1
            rw [HTK.out, List.flatMap_append]
            simpa [heardT, heardH] using h1)
          clear hbelq
          go_wp2
          go_roundw
          case rel => exact ⟨k + 1, by omega, by go_num, HVe, HMq⟩
          case measure => simp [intOf]; omega
    · have he : k = hs.length := by omega
      subst he
      obtain ⟨T, hT⟩ : ∃ T, T = ht ++ hs.flatMap heardT := ⟨_, rfl⟩
      have HWe : Hid (Wr b T wr) := Lib.hid (by have := HWr.out; rw [List.take_length] at this; rw [hT]; exact this)
      have HT0 : Hid (T ≠ []) := Lib.hid (by
        rw [hT, ← HHD2.out]
        simp)
      have HTE := Lib.hid hT
      clear hT
      go_wp2_with fail
      refine (string_calls b T wr HWe.out HT0.out).mono ?_
      rintro e w9 ⟨rfl, hm9⟩
      go_wp2
      go_ret
      refine ⟨?_, HBEL.out.trans (hm9.below.mono (by omega))⟩
      rw [← HTE.out]
      rfl
end Go.Proofs.YthkheemjgcbofaaDoor

namespace Go.Proofs.YthkheemjgcbofaaDoor
set_option linter.unusedVariables false
set_option linter.unusedSimpArgs false
open Go.RowKit Go.Proofs.YthkheemjgcbofaaDoor.PSc Go.Proofs.YthkheemjgcbofaaDoorW.PrintWords

theorem lines_told (x : S46) (v : Value) (te td tn : Int) (hs : List S57) (B : Option Addr) (d : Nat) (w : World) (hG : Glob w) (hxe : I64 te) (hxd : I64 td) (hxn : I64 tn) (hr : Kd.C k57 w B hs.length hs) (hd : hs.length ≤ d) (hok : ∀ h, h ∈ hs → Ok57 h ∧ h.f4.length ≤ 9) (hl9 : hs.length ≤ 9) :
    Calls Tryd.prog 16 #[.agg (vals46 x v), .agg #[.int .i64 te, .slice B hs.length d, .int .i64 td, .int .i64 tn]] w (LPost (toldT x.f0 te td tn hs) w) := by
  by_cases he : te = 0
  · by_cases hk : x.f0 = 3
    · exact lines_toldb x v te td tn hs B d w hG hxe hxd hxn hr hd hok hl9 he hk
    · exact lines_toldc x v te td tn hs B d w hG hxe hxd hxn hr hd hok hl9 he hk
  · exact lines_tolda x v te td tn hs B d w hG hxe hxd hxn hr hd hok hl9 he
end Go.Proofs.YthkheemjgcbofaaDoor
