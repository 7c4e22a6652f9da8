/-
  The writer's event. Printed by wip/gen_wr5.py.
  The writer's event, whatever its kind.
-/
import Derived.Test.YthkheemjgcbofaaDoorGH

namespace Go.Proofs.YthkheemjgcbofaaDoor
set_option linter.unusedVariables false
set_option linter.unusedSimpArgs false
open Go.RowKit Go.Proofs.YthkheemjgcbofaaDoor.PSc Go.Proofs.YthkheemjgcbofaaDoorW.PrintWords

structure Ok46 (x : S46) : Prop where
  s : I64 x.f1
  n : I64 x.f3
  op : Ok43 x.f2
/-- An event's numbers, as they are written. -/
def evNs (x : S46) : List Int := if x.f0 = 1 ∨ x.f0 = 2 then [x.f1] else if x.f0 = 5 then [x.f3] else []
def evTail (x : S46) : By := if x.f0 = 1 then opT x.f2 else if x.f0 = 6 then 32 :: 61 :: x.f4.map (fun y => if y then 49 else 48) else []
def evT (x : S46) : By := wordsL.getD x.f0.toNat [] ++ blanked (evNs x) ++ evTail x ++ [10]

set_option maxHeartbeats 400000 in
theorem fields_some (b o N : Nat) (k : Int) (w : World) (hN : w.heap.size = N) (hf : (k = 1 ∧ o = 1) ∨ (k = 2 ∧ o = 1) ∨ (k = 5 ∧ o = 10)) (hc : w.cell? ⟨b, 0, none⟩ = some (.int .i64 k)) :
    Calls Tryd.prog 51 #[.pointer (some ⟨b, 0, none⟩)] w fun e w' => e = .returned (.slice (some ⟨N, 0, none⟩) 1 1) ∧ w'.heap[N]? = some (.cells #[.pointer (some ⟨b, o, none⟩)] 98 (0, 0)) ∧ Below w.heap.size w w' := by
  subst hN
  rcases hf with ⟨rfl, rfl⟩ | ⟨rfl, rfl⟩ | ⟨rfl, rfl⟩
  all_goals
    go_enter Tryd.func51, Tryd.ntmps51
    go_wp2
    go_ret
    exact ⟨rfl, blk_new w _, by repeat (first | exact Below.refl _ _ | exact Below.alloc (Below.refl _ _) (Nat.le_refl _) _)⟩
set_option maxHeartbeats 400000 in
theorem fields_none (b : Nat) (k : Int) (w : World) (b1 : (k == 1) = false) (b2 : (k == 2) = false) (b5 : (k == 5) = false) (hc : w.cell? ⟨b, 0, none⟩ = some (.int .i64 k)) :
    Calls Tryd.prog 51 #[.pointer (some ⟨b, 0, none⟩)] w fun e w' => e = .returned (.slice none 0 0) ∧ w' = w := by
  go_enter Tryd.func51, Tryd.ntmps51
  go_wp2
  go_ret
  exact ⟨rfl, rfl⟩
theorem writeByte_of (b : Nat) (l : By) (c : Int) (x : UInt8) (hc : c = x.toNat) (w : World) (h : Wr b l w) (hlen : l.length + 1 ≤ 140737488355328) :
    Calls Tryd.prog 26 #[.pointer (some ⟨b, 0, none⟩), .int .u8 c] w fun e w' => e = .returned .nilIface ∧ Wr b (l ++ [x]) w' ∧ Wm b w w' := by
  subst hc
  exact writeByte_calls b l x w h hlen
theorem strs_get {base : Nat} {A : Option Addr} {l : List By} {w : World} (h : StrsAt base A l w) (i : Nat) (s : By) (hi : l[i]? = some s) : ∃ ad, A = some ad ∧ w.cell? (ad.add i) = some (.string ⟨s.toArray⟩) := by
  have h1 := h w (fun _ _ _ => rfl)
  obtain ⟨ad, e, hc⟩ := h1.2.2 (by have := (List.getElem?_eq_some_iff.1 hi).1; omega)
  obtain ⟨c, hl, hK, hcell⟩ := hc i (baOf s) (by simp [hi])
  refine ⟨ad, e, ?_⟩
  have hc1 : c = [.string (baOf s)] := hK
  subst hc1
  have := hcell 0 _ rfl
  rwa [show i * Kd.string.sz + 0 = i from by show i * 1 + 0 = i; omega] at this
theorem bools_get {A : Option Addr} {l : List Bool} {w : World} (h : Kd.C Kd.bool w A l.length l) (i : Nat) (x : Bool) (hi : l[i]? = some x) : ∃ ad, A = some ad ∧ w.cell? (ad.add i) = some (.bool x) := by
  obtain ⟨ad, e, hc⟩ := h.2.2 (by have := (List.getElem?_eq_some_iff.1 hi).1; omega)
  obtain ⟨c, hl, hK, hcell⟩ := hc i x hi
  refine ⟨ad, e, ?_⟩
  have hc1 : c = [.bool x] := hK
  subst hc1
  have := hcell 0 _ rfl
  rwa [show i * Kd.bool.sz + 0 = i from by show i * 1 + 0 = i; omega] at this

set_option maxHeartbeats 4000000 in
set_option maxRecDepth 100000 in
theorem wev_0 (b : Nat) (x1 x2 : Int) (x3 : Bool) (x4 x5 x6 x7 x8 x9 x10 : Int) (x11 : List Bool) (A : Option Addr) (c : Nat) (l : By) (w : World) (hG : Glob w) (h6 : 6 ≤ b) (hW : Wr b l w) (hok : Ok46 ⟨0, x1, ⟨x2, x3, x4, ⟨x5, x6, x7, x8⟩, x9⟩, x10, x11⟩) (hK : ∀ W, Below b w W → Kd.C Kd.bool W A x11.length x11) (hlen : l.length + x11.length + 1000 ≤ 140737488355328) :
    Calls Tryd.prog 27 #[.pointer (some ⟨b, 0, none⟩), .agg #[.int .i64 0, .int .i64 x1, .int .i64 x2, .bool x3, .int .u32 x4, .int .i64 x5, .int .i64 x6, .int .i64 x7, .int .i64 x8, .int .i64 x9, .int .i64 x10, .slice A x11.length c]] w (WPost b (l ++ ([] ++ blanked [] ++ ([] : By) ++ [10])) w) := by
  have hlt := hW.lt
  have HW := Lib.hid hW
  have HOK := Lib.hid hok
  have HK := Lib.hid hK
  clear hW hok hK
  obtain ⟨w1, hw1⟩ : ∃ W, W = w.alloc (.cells #[.int .i64 0, .int .i64 x1, .int .i64 x2, .bool x3, .int .u32 x4, .int .i64 x5, .int .i64 x6, .int .i64 x7, .int .i64 x8, .int .i64 x9, .int .i64 x10, .slice A x11.length c] 46 (0, 0)) := ⟨_, rfl⟩
  have HX1 : Hid (w1.heap[w.heap.size]? = some (.cells #[.int .i64 0, .int .i64 x1, .int .i64 x2, .bool x3, .int .u32 x4, .int .i64 x5, .int .i64 x6, .int .i64 x7, .int .i64 x8, .int .i64 x9, .int .i64 x10, .slice A x11.length c] 46 (0, 0))) := Lib.hid (by rw [hw1]; exact blk_new w _)
  have HW1 : Hid (Wr b l w1) := Lib.hid (by rw [hw1]; exact HW.out.new (Below.alloc (Below.refl _ _) (Nat.le_refl _) _))
  have HM1 : Hid (Wm b w w1) := Lib.hid (by rw [hw1]; exact (Wm.refl b w).alloc (by omega) _)
  have hz1 : w1.heap.size = w.heap.size + 1 := by rw [hw1]; simp
  have HWD := Lib.hid (words_calls w1.drew)
  go_enter Tryd.func27, Tryd.ntmps27
  go_upto_region 1 with (fail)
  rw [← hw1]
  clear hw1
  have c0 : w1.drew.cell? ⟨w.heap.size, 0, none⟩ = some (.int .i64 0) := (blk_cell (blk_drew HX1.out) 0).trans rfl
  have c0' : w1.cell? ⟨w.heap.size, 0, none⟩ = some (.int .i64 0) := (blk_cell HX1.out 0).trans rfl
  go_region_law
    (first
      | (go_simp
         go_at_call 50
         refine HWD.out.mono ?_
         rintro e w2 ⟨A2, c2, rfl, hc2, hst, hb2⟩
         have HB2 := Lib.hid hb2
         have HW2 : Hid (Wr b l w2) := Lib.hid (HW1.out.drew.new hb2)
         have HX2 := Lib.hid (blk_below (blk_drew HX1.out) hb2)
         have e0 : w2.cell? ⟨w.heap.size, 0, none⟩ = some (.int .i64 0) := (blk_cell HX2.out 0).trans rfl
         obtain ⟨ad2, rfl, e1⟩ := strs_get hst 0 [] rfl
         have e2 := (show w2.cell? ad2 = some _ from by rw [addr_add0] at e1; exact e1)
         clear hb2 hst)
      | (go_simp
         go_at_call 24
         refine (writeString_of b _ [] _ ?hS _ HW2.out ?hl).mono ?_
         case hS => first | rfl | simp
         case hl => simp; omega
         rintro e w3 ⟨rfl, hw3, hm3⟩
         have HW3 := Lib.hid hw3
         have HM3 : Hid (Wm b w w3) := Lib.hid (((HM1.out.drew).new HB2.out (by simp; omega)).trans hm3)
         have HX3 := Lib.hid (hm3.blk HX2.out (by omega) (by decide))
         have hz3 : w1.heap.size ≤ w3.heap.size := Nat.le_trans HB2.out.size hm3.size
         have f0 : w3.cell? ⟨w.heap.size, 0, none⟩ = some (.int .i64 0) := (blk_cell HX3.out 0).trans rfl
         clear hw3 hm3)
      | fail)
  all_goals
    clear c0 c0' e0 e1 e2
    have HG3 : Hid (Glob w3) := Lib.hid (hG.wm HM3.out h6)
    go_wp2_with fail
    refine (fields_none w.heap.size 0 w3 rfl rfl rfl f0).mono ?_
    rintro e w4 ⟨rfl, hw4⟩
    subst hw4
    have HW5 := HW3
    have HX5 := HX3
    have HM5 := HM3
    obtain ⟨w5, hw5⟩ : ∃ W, W = w4 := ⟨_, rfl⟩
    rw [← hw5] at HW5 HX5 HM5 ⊢
    clear hw5 f0
    go_wp2_with fail
    refine wp_loop_rounds 1 ?_
    rw [rounds_succ]
    obtain ⟨d0, d1, d2, d3, d4, d5, d6, d7, d8, d9, d10, d11⟩ := cells12 HX5.out
    go_wp2_with fail
    refine (writeByte_calls b _ 10 w5 HW5.out (by simp [blanked]; omega)).mono ?_
    rintro e w7 ⟨rfl, hw7, hm7⟩
    have HW7 := Lib.hid hw7
    have HM7 : Hid (Wm b w w7) := Lib.hid (HM5.out.trans hm7)
    clear hw7 hm7
    go_wp2
    go_end0
    exact ⟨rfl, by simpa [blanked] using HW7.out, HM7.out⟩

set_option maxHeartbeats 4000000 in
set_option maxRecDepth 100000 in
theorem wev_1 (b : Nat) (x1 x2 : Int) (x3 : Bool) (x4 x5 x6 x7 x8 x9 x10 : Int) (x11 : List Bool) (A : Option Addr) (c : Nat) (l : By) (w : World) (hG : Glob w) (h6 : 6 ≤ b) (hW : Wr b l w) (hok : Ok46 ⟨1, x1, ⟨x2, x3, x4, ⟨x5, x6, x7, x8⟩, x9⟩, x10, x11⟩) (hK : ∀ W, Below b w W → Kd.C Kd.bool W A x11.length x11) (hlen : l.length + x11.length + 1000 ≤ 140737488355328) :
    Calls Tryd.prog 27 #[.pointer (some ⟨b, 0, none⟩), .agg #[.int .i64 1, .int .i64 x1, .int .i64 x2, .bool x3, .int .u32 x4, .int .i64 x5, .int .i64 x6, .int .i64 x7, .int .i64 x8, .int .i64 x9, .int .i64 x10, .slice A x11.length c]] w (WPost b (l ++ ([97, 115, 107] ++ blanked [x1] ++ opT ⟨x2, x3, x4, ⟨x5, x6, x7, x8⟩, x9⟩ ++ [10])) w) := by
  have hlt := hW.lt
  have HW := Lib.hid hW
  have HOK := Lib.hid hok
  have HK := Lib.hid hK
  clear hW hok hK
  obtain ⟨w1, hw1⟩ : ∃ W, W = w.alloc (.cells #[.int .i64 1, .int .i64 x1, .int .i64 x2, .bool x3, .int .u32 x4, .int .i64 x5, .int .i64 x6, .int .i64 x7, .int .i64 x8, .int .i64 x9, .int .i64 x10, .slice A x11.length c] 46 (0, 0)) := ⟨_, rfl⟩
  have HX1 : Hid (w1.heap[w.heap.size]? = some (.cells #[.int .i64 1, .int .i64 x1, .int .i64 x2, .bool x3, .int .u32 x4, .int .i64 x5, .int .i64 x6, .int .i64 x7, .int .i64 x8, .int .i64 x9, .int .i64 x10, .slice A x11.length c] 46 (0, 0))) := Lib.hid (by rw [hw1]; exact blk_new w _)
  have HW1 : Hid (Wr b l w1) := Lib.hid (by rw [hw1]; exact HW.out.new (Below.alloc (Below.refl _ _) (Nat.le_refl _) _))
  have HM1 : Hid (Wm b w w1) := Lib.hid (by rw [hw1]; exact (Wm.refl b w).alloc (by omega) _)
  have hz1 : w1.heap.size = w.heap.size + 1 := by rw [hw1]; simp
  have HWD := Lib.hid (words_calls w1.drew)
  go_enter Tryd.func27, Tryd.ntmps27
  go_upto_region 1 with (fail)
  rw [← hw1]
  clear hw1
  have c0 : w1.drew.cell? ⟨w.heap.size, 0, none⟩ = some (.int .i64 1) := (blk_cell (blk_drew HX1.out) 0).trans rfl
  have c0' : w1.cell? ⟨w.heap.size, 0, none⟩ = some (.int .i64 1) := (blk_cell HX1.out 0).trans rfl
  go_region_law
    (first
      | (go_simp
         go_at_call 50
         refine HWD.out.mono ?_
         rintro e w2 ⟨A2, c2, rfl, hc2, hst, hb2⟩
         have HB2 := Lib.hid hb2
         have HW2 : Hid (Wr b l w2) := Lib.hid (HW1.out.drew.new hb2)
         have HX2 := Lib.hid (blk_below (blk_drew HX1.out) hb2)
         have e0 : w2.cell? ⟨w.heap.size, 0, none⟩ = some (.int .i64 1) := (blk_cell HX2.out 0).trans rfl
         obtain ⟨ad2, rfl, e1⟩ := strs_get hst 1 [97, 115, 107] rfl
         have e2 := (show w2.cell? ⟨ad2.block, ad2.off + 1, none⟩ = some _ from by rw [show (⟨ad2.block, ad2.off + 1, none⟩ : Addr) = ad2.add 1 from by simp [Addr.add]]; exact e1)
         clear hb2 hst)
      | (go_simp
         go_at_call 24
         refine (writeString_of b _ [97, 115, 107] _ ?hS _ HW2.out ?hl).mono ?_
         case hS => first | rfl | simp
         case hl => simp; omega
         rintro e w3 ⟨rfl, hw3, hm3⟩
         have HW3 := Lib.hid hw3
         have HM3 : Hid (Wm b w w3) := Lib.hid (((HM1.out.drew).new HB2.out (by simp; omega)).trans hm3)
         have HX3 := Lib.hid (hm3.blk HX2.out (by omega) (by decide))
         have hz3 : w1.heap.size ≤ w3.heap.size := Nat.le_trans HB2.out.size hm3.size
         have f0 : w3.cell? ⟨w.heap.size, 0, none⟩ = some (.int .i64 1) := (blk_cell HX3.out 0).trans rfl
         clear hw3 hm3)
      | fail)
  all_goals
    clear c0 c0' e0 e1 e2
    have HG3 : Hid (Glob w3) := Lib.hid (hG.wm HM3.out h6)
    go_wp2_with fail
    refine (fields_some w.heap.size 1 w3.heap.size 1 w3 rfl (by decide) f0).mono ?_
    rintro e w4 ⟨rfl, ha4, hb4⟩
    have HW4 : Hid (Wr b (l ++ [97, 115, 107]) w4) := Lib.hid (HW3.out.new hb4)
    have HM4 : Hid (Wm b w w4) := Lib.hid (HM3.out.new hb4 (by omega))
    have HX4 := Lib.hid (blk_below HX3.out hb4)
    have g1 : w4.cell? ⟨w3.heap.size, 0, none⟩ = some (.pointer (some ⟨w.heap.size, 1, none⟩)) := (blk_cell ha4 0).trans rfl
    have g2 : w4.cell? ⟨w.heap.size, 1, none⟩ = some (.int .i64 x1) := (blk_cell HX4.out 1).trans rfl
    have hz4 := hb4.size
    clear ha4 hb4 f0
    go_wp2_with fail
    refine wp_loop_rounds 2 ?_
    rw [rounds_succ]
    go_wp2_with fail
    refine (num1_w b x1 (l ++ [97, 115, 107]) w4 (hG.wm HM4.out h6) h6 HW4.out HOK.out.s (by simp; omega)).mono ?_
    rintro e w5 ⟨rfl, hw5, hm5⟩
    have HW5 := Lib.hid hw5
    have HX5 := Lib.hid (hm5.blk HX4.out (by omega) (by decide))
    have HM5 : Hid (Wm b w w5) := Lib.hid (HM4.out.trans hm5)
    have hz5 := hm5.size
    have hi5 := itoa_le HOK.out.s
    clear hw5 hm5 g1 g2
    go_wp2_with fail
    rw [rounds_succ]
    obtain ⟨d0, d1, d2, d3, d4, d5, d6, d7, d8, d9, d10, d11⟩ := cells12 HX5.out
    go_wp2_with fail
    refine (operation_w b ⟨x2, x3, x4, ⟨x5, x6, x7, x8⟩, x9⟩ ((l ++ [97, 115, 107]) ++ blanked [x1]) w5 (hG.wm HM5.out h6) h6 HW5.out HOK.out.op (by simp [blanked]; omega)).mono ?_
    rintro e w6 ⟨rfl, hw6, hm6⟩
    have HW6 := Lib.hid hw6
    have HM6 : Hid (Wm b w w6) := Lib.hid (HM5.out.trans hm6)
    have hop := opT_le _ HOK.out.op
    clear hw6 hm6
    go_wp2_with fail
    refine (writeByte_calls b _ 10 w6 HW6.out (by simp [blanked]; omega)).mono ?_
    rintro e w7 ⟨rfl, hw7, hm7⟩
    have HW7 := Lib.hid hw7
    have HM7 : Hid (Wm b w w7) := Lib.hid (HM6.out.trans hm7)
    clear hw7 hm7
    go_wp2
    go_end0
    exact ⟨rfl, by simpa [blanked] using HW7.out, HM7.out⟩

set_option maxHeartbeats 4000000 in
set_option maxRecDepth 100000 in
theorem wev_2 (b : Nat) (x1 x2 : Int) (x3 : Bool) (x4 x5 x6 x7 x8 x9 x10 : Int) (x11 : List Bool) (A : Option Addr) (c : Nat) (l : By) (w : World) (hG : Glob w) (h6 : 6 ≤ b) (hW : Wr b l w) (hok : Ok46 ⟨2, x1, ⟨x2, x3, x4, ⟨x5, x6, x7, x8⟩, x9⟩, x10, x11⟩) (hK : ∀ W, Below b w W → Kd.C Kd.bool W A x11.length x11) (hlen : l.length + x11.length + 1000 ≤ 140737488355328) :
    Calls Tryd.prog 27 #[.pointer (some ⟨b, 0, none⟩), .agg #[.int .i64 2, .int .i64 x1, .int .i64 x2, .bool x3, .int .u32 x4, .int .i64 x5, .int .i64 x6, .int .i64 x7, .int .i64 x8, .int .i64 x9, .int .i64 x10, .slice A x11.length c]] w (WPost b (l ++ ([115, 116, 101, 112] ++ blanked [x1] ++ ([] : By) ++ [10])) w) := by
  have hlt := hW.lt
  have HW := Lib.hid hW
  have HOK := Lib.hid hok
  have HK := Lib.hid hK
  clear hW hok hK
  obtain ⟨w1, hw1⟩ : ∃ W, W = w.alloc (.cells #[.int .i64 2, .int .i64 x1, .int .i64 x2, .bool x3, .int .u32 x4, .int .i64 x5, .int .i64 x6, .int .i64 x7, .int .i64 x8, .int .i64 x9, .int .i64 x10, .slice A x11.length c] 46 (0, 0)) := ⟨_, rfl⟩
  have HX1 : Hid (w1.heap[w.heap.size]? = some (.cells #[.int .i64 2, .int .i64 x1, .int .i64 x2, .bool x3, .int .u32 x4, .int .i64 x5, .int .i64 x6, .int .i64 x7, .int .i64 x8, .int .i64 x9, .int .i64 x10, .slice A x11.length c] 46 (0, 0))) := Lib.hid (by rw [hw1]; exact blk_new w _)
  have HW1 : Hid (Wr b l w1) := Lib.hid (by rw [hw1]; exact HW.out.new (Below.alloc (Below.refl _ _) (Nat.le_refl _) _))
  have HM1 : Hid (Wm b w w1) := Lib.hid (by rw [hw1]; exact (Wm.refl b w).alloc (by omega) _)
  have hz1 : w1.heap.size = w.heap.size + 1 := by rw [hw1]; simp
  have HWD := Lib.hid (words_calls w1.drew)
  go_enter Tryd.func27, Tryd.ntmps27
  go_upto_region 1 with (fail)
  rw [← hw1]
  clear hw1
  have c0 : w1.drew.cell? ⟨w.heap.size, 0, none⟩ = some (.int .i64 2) := (blk_cell (blk_drew HX1.out) 0).trans rfl
  have c0' : w1.cell? ⟨w.heap.size, 0, none⟩ = some (.int .i64 2) := (blk_cell HX1.out 0).trans rfl
  go_region_law
    (first
      | (go_simp
         go_at_call 50
         refine HWD.out.mono ?_
         rintro e w2 ⟨A2, c2, rfl, hc2, hst, hb2⟩
         have HB2 := Lib.hid hb2
         have HW2 : Hid (Wr b l w2) := Lib.hid (HW1.out.drew.new hb2)
         have HX2 := Lib.hid (blk_below (blk_drew HX1.out) hb2)
         have e0 : w2.cell? ⟨w.heap.size, 0, none⟩ = some (.int .i64 2) := (blk_cell HX2.out 0).trans rfl
         obtain ⟨ad2, rfl, e1⟩ := strs_get hst 2 [115, 116, 101, 112] rfl
         have e2 := (show w2.cell? ⟨ad2.block, ad2.off + 2, none⟩ = some _ from by rw [show (⟨ad2.block, ad2.off + 2, none⟩ : Addr) = ad2.add 2 from by simp [Addr.add]]; exact e1)
         clear hb2 hst)
      | (go_simp
         go_at_call 24
         refine (writeString_of b _ [115, 116, 101, 112] _ ?hS _ HW2.out ?hl).mono ?_
         case hS => first | rfl | simp
         case hl => simp; omega
         rintro e w3 ⟨rfl, hw3, hm3⟩
         have HW3 := Lib.hid hw3
         have HM3 : Hid (Wm b w w3) := Lib.hid (((HM1.out.drew).new HB2.out (by simp; omega)).trans hm3)
         have HX3 := Lib.hid (hm3.blk HX2.out (by omega) (by decide))
         have hz3 : w1.heap.size ≤ w3.heap.size := Nat.le_trans HB2.out.size hm3.size
         have f0 : w3.cell? ⟨w.heap.size, 0, none⟩ = some (.int .i64 2) := (blk_cell HX3.out 0).trans rfl
         clear hw3 hm3)
      | fail)
  all_goals
    clear c0 c0' e0 e1 e2
    have HG3 : Hid (Glob w3) := Lib.hid (hG.wm HM3.out h6)
    go_wp2_with fail
    refine (fields_some w.heap.size 1 w3.heap.size 2 w3 rfl (by decide) f0).mono ?_
    rintro e w4 ⟨rfl, ha4, hb4⟩
    have HW4 : Hid (Wr b (l ++ [115, 116, 101, 112]) w4) := Lib.hid (HW3.out.new hb4)
    have HM4 : Hid (Wm b w w4) := Lib.hid (HM3.out.new hb4 (by omega))
    have HX4 := Lib.hid (blk_below HX3.out hb4)
    have g1 : w4.cell? ⟨w3.heap.size, 0, none⟩ = some (.pointer (some ⟨w.heap.size, 1, none⟩)) := (blk_cell ha4 0).trans rfl
    have g2 : w4.cell? ⟨w.heap.size, 1, none⟩ = some (.int .i64 x1) := (blk_cell HX4.out 1).trans rfl
    have hz4 := hb4.size
    clear ha4 hb4 f0
    go_wp2_with fail
    refine wp_loop_rounds 2 ?_
    rw [rounds_succ]
    go_wp2_with fail
    refine (num1_w b x1 (l ++ [115, 116, 101, 112]) w4 (hG.wm HM4.out h6) h6 HW4.out HOK.out.s (by simp; omega)).mono ?_
    rintro e w5 ⟨rfl, hw5, hm5⟩
    have HW5 := Lib.hid hw5
    have HX5 := Lib.hid (hm5.blk HX4.out (by omega) (by decide))
    have HM5 : Hid (Wm b w w5) := Lib.hid (HM4.out.trans hm5)
    have hz5 := hm5.size
    have hi5 := itoa_le HOK.out.s
    clear hw5 hm5 g1 g2
    go_wp2_with fail
    rw [rounds_succ]
    obtain ⟨d0, d1, d2, d3, d4, d5, d6, d7, d8, d9, d10, d11⟩ := cells12 HX5.out
    go_wp2_with fail
    refine (writeByte_calls b _ 10 w5 HW5.out (by simp [blanked]; omega)).mono ?_
    rintro e w7 ⟨rfl, hw7, hm7⟩
    have HW7 := Lib.hid hw7
    have HM7 : Hid (Wm b w w7) := Lib.hid (HM5.out.trans hm7)
    clear hw7 hm7
    go_wp2
    go_end0
    exact ⟨rfl, by simpa [blanked] using HW7.out, HM7.out⟩

set_option maxHeartbeats 4000000 in
set_option maxRecDepth 100000 in
theorem wev_3 (b : Nat) (x1 x2 : Int) (x3 : Bool) (x4 x5 x6 x7 x8 x9 x10 : Int) (x11 : List Bool) (A : Option Addr) (c : Nat) (l : By) (w : World) (hG : Glob w) (h6 : 6 ≤ b) (hW : Wr b l w) (hok : Ok46 ⟨3, x1, ⟨x2, x3, x4, ⟨x5, x6, x7, x8⟩, x9⟩, x10, x11⟩) (hK : ∀ W, Below b w W → Kd.C Kd.bool W A x11.length x11) (hlen : l.length + x11.length + 1000 ≤ 140737488355328) :
    Calls Tryd.prog 27 #[.pointer (some ⟨b, 0, none⟩), .agg #[.int .i64 3, .int .i64 x1, .int .i64 x2, .bool x3, .int .u32 x4, .int .i64 x5, .int .i64 x6, .int .i64 x7, .int .i64 x8, .int .i64 x9, .int .i64 x10, .slice A x11.length c]] w (WPost b (l ++ ([118, 97, 99, 117, 117, 109] ++ blanked [] ++ ([] : By) ++ [10])) w) := by
  have hlt := hW.lt
  have HW := Lib.hid hW
  have HOK := Lib.hid hok
  have HK := Lib.hid hK
  clear hW hok hK
  obtain ⟨w1, hw1⟩ : ∃ W, W = w.alloc (.cells #[.int .i64 3, .int .i64 x1, .int .i64 x2, .bool x3, .int .u32 x4, .int .i64 x5, .int .i64 x6, .int .i64 x7, .int .i64 x8, .int .i64 x9, .int .i64 x10, .slice A x11.length c] 46 (0, 0)) := ⟨_, rfl⟩
  have HX1 : Hid (w1.heap[w.heap.size]? = some (.cells #[.int .i64 3, .int .i64 x1, .int .i64 x2, .bool x3, .int .u32 x4, .int .i64 x5, .int .i64 x6, .int .i64 x7, .int .i64 x8, .int .i64 x9, .int .i64 x10, .slice A x11.length c] 46 (0, 0))) := Lib.hid (by rw [hw1]; exact blk_new w _)
  have HW1 : Hid (Wr b l w1) := Lib.hid (by rw [hw1]; exact HW.out.new (Below.alloc (Below.refl _ _) (Nat.le_refl _) _))
  have HM1 : Hid (Wm b w w1) := Lib.hid (by rw [hw1]; exact (Wm.refl b w).alloc (by omega) _)
  have hz1 : w1.heap.size = w.heap.size + 1 := by rw [hw1]; simp
  have HWD := Lib.hid (words_calls w1.drew)
  go_enter Tryd.func27, Tryd.ntmps27
  go_upto_region 1 with (fail)
  rw [← hw1]
  clear hw1
  have c0 : w1.drew.cell? ⟨w.heap.size, 0, none⟩ = some (.int .i64 3) := (blk_cell (blk_drew HX1.out) 0).trans rfl
  have c0' : w1.cell? ⟨w.heap.size, 0, none⟩ = some (.int .i64 3) := (blk_cell HX1.out 0).trans rfl
  go_region_law
    (first
      | (go_simp
         go_at_call 50
         refine HWD.out.mono ?_
         rintro e w2 ⟨A2, c2, rfl, hc2, hst, hb2⟩
         have HB2 := Lib.hid hb2
         have HW2 : Hid (Wr b l w2) := Lib.hid (HW1.out.drew.new hb2)
         have HX2 := Lib.hid (blk_below (blk_drew HX1.out) hb2)
         have e0 : w2.cell? ⟨w.heap.size, 0, none⟩ = some (.int .i64 3) := (blk_cell HX2.out 0).trans rfl
         obtain ⟨ad2, rfl, e1⟩ := strs_get hst 3 [118, 97, 99, 117, 117, 109] rfl
         have e2 := (show w2.cell? ⟨ad2.block, ad2.off + 3, none⟩ = some _ from by rw [show (⟨ad2.block, ad2.off + 3, none⟩ : Addr) = ad2.add 3 from by simp [Addr.add]]; exact e1)
         clear hb2 hst)
      | (go_simp
         go_at_call 24
         refine (writeString_of b _ [118, 97, 99, 117, 117, 109] _ ?hS _ HW2.out ?hl).mono ?_
         case hS => first | rfl | simp
         case hl => simp; omega
         rintro e w3 ⟨rfl, hw3, hm3⟩
         have HW3 := Lib.hid hw3
         have HM3 : Hid (Wm b w w3) := Lib.hid (((HM1.out.drew).new HB2.out (by simp; omega)).trans hm3)
         have HX3 := Lib.hid (hm3.blk HX2.out (by omega) (by decide))
         have hz3 : w1.heap.size ≤ w3.heap.size := Nat.le_trans HB2.out.size hm3.size
         have f0 : w3.cell? ⟨w.heap.size, 0, none⟩ = some (.int .i64 3) := (blk_cell HX3.out 0).trans rfl
         clear hw3 hm3)
      | fail)
  all_goals
    clear c0 c0' e0 e1 e2
    have HG3 : Hid (Glob w3) := Lib.hid (hG.wm HM3.out h6)
    go_wp2_with fail
    refine (fields_none w.heap.size 3 w3 rfl rfl rfl f0).mono ?_
    rintro e w4 ⟨rfl, hw4⟩
    subst hw4
    have HW5 := HW3
    have HX5 := HX3
    have HM5 := HM3
    obtain ⟨w5, hw5⟩ : ∃ W, W = w4 := ⟨_, rfl⟩
    rw [← hw5] at HW5 HX5 HM5 ⊢
    clear hw5 f0
    go_wp2_with fail
    refine wp_loop_rounds 1 ?_
    rw [rounds_succ]
    obtain ⟨d0, d1, d2, d3, d4, d5, d6, d7, d8, d9, d10, d11⟩ := cells12 HX5.out
    go_wp2_with fail
    refine (writeByte_calls b _ 10 w5 HW5.out (by simp [blanked]; omega)).mono ?_
    rintro e w7 ⟨rfl, hw7, hm7⟩
    have HW7 := Lib.hid hw7
    have HM7 : Hid (Wm b w w7) := Lib.hid (HM5.out.trans hm7)
    clear hw7 hm7
    go_wp2
    go_end0
    exact ⟨rfl, by simpa [blanked] using HW7.out, HM7.out⟩

set_option maxHeartbeats 4000000 in
set_option maxRecDepth 100000 in
theorem wev_4 (b : Nat) (x1 x2 : Int) (x3 : Bool) (x4 x5 x6 x7 x8 x9 x10 : Int) (x11 : List Bool) (A : Option Addr) (c : Nat) (l : By) (w : World) (hG : Glob w) (h6 : 6 ≤ b) (hW : Wr b l w) (hok : Ok46 ⟨4, x1, ⟨x2, x3, x4, ⟨x5, x6, x7, x8⟩, x9⟩, x10, x11⟩) (hK : ∀ W, Below b w W → Kd.C Kd.bool W A x11.length x11) (hlen : l.length + x11.length + 1000 ≤ 140737488355328) :
    Calls Tryd.prog 27 #[.pointer (some ⟨b, 0, none⟩), .agg #[.int .i64 4, .int .i64 x1, .int .i64 x2, .bool x3, .int .u32 x4, .int .i64 x5, .int .i64 x6, .int .i64 x7, .int .i64 x8, .int .i64 x9, .int .i64 x10, .slice A x11.length c]] w (WPost b (l ++ ([99, 104, 101, 99, 107] ++ blanked [] ++ ([] : By) ++ [10])) w) := by
  have hlt := hW.lt
  have HW := Lib.hid hW
  have HOK := Lib.hid hok
  have HK := Lib.hid hK
  clear hW hok hK
  obtain ⟨w1, hw1⟩ : ∃ W, W = w.alloc (.cells #[.int .i64 4, .int .i64 x1, .int .i64 x2, .bool x3, .int .u32 x4, .int .i64 x5, .int .i64 x6, .int .i64 x7, .int .i64 x8, .int .i64 x9, .int .i64 x10, .slice A x11.length c] 46 (0, 0)) := ⟨_, rfl⟩
  have HX1 : Hid (w1.heap[w.heap.size]? = some (.cells #[.int .i64 4, .int .i64 x1, .int .i64 x2, .bool x3, .int .u32 x4, .int .i64 x5, .int .i64 x6, .int .i64 x7, .int .i64 x8, .int .i64 x9, .int .i64 x10, .slice A x11.length c] 46 (0, 0))) := Lib.hid (by rw [hw1]; exact blk_new w _)
  have HW1 : Hid (Wr b l w1) := Lib.hid (by rw [hw1]; exact HW.out.new (Below.alloc (Below.refl _ _) (Nat.le_refl _) _))
  have HM1 : Hid (Wm b w w1) := Lib.hid (by rw [hw1]; exact (Wm.refl b w).alloc (by omega) _)
  have hz1 : w1.heap.size = w.heap.size + 1 := by rw [hw1]; simp
  have HWD := Lib.hid (words_calls w1.drew)
  go_enter Tryd.func27, Tryd.ntmps27
  go_upto_region 1 with (fail)
  rw [← hw1]
  clear hw1
  have c0 : w1.drew.cell? ⟨w.heap.size, 0, none⟩ = some (.int .i64 4) := (blk_cell (blk_drew HX1.out) 0).trans rfl
  have c0' : w1.cell? ⟨w.heap.size, 0, none⟩ = some (.int .i64 4) := (blk_cell HX1.out 0).trans rfl
  go_region_law
    (first
      | (go_simp
         go_at_call 50
         refine HWD.out.mono ?_
         rintro e w2 ⟨A2, c2, rfl, hc2, hst, hb2⟩
         have HB2 := Lib.hid hb2
         have HW2 : Hid (Wr b l w2) := Lib.hid (HW1.out.drew.new hb2)
         have HX2 := Lib.hid (blk_below (blk_drew HX1.out) hb2)
         have e0 : w2.cell? ⟨w.heap.size, 0, none⟩ = some (.int .i64 4) := (blk_cell HX2.out 0).trans rfl
         obtain ⟨ad2, rfl, e1⟩ := strs_get hst 4 [99, 104, 101, 99, 107] rfl
         have e2 := (show w2.cell? ⟨ad2.block, ad2.off + 4, none⟩ = some _ from by rw [show (⟨ad2.block, ad2.off + 4, none⟩ : Addr) = ad2.add 4 from by simp [Addr.add]]; exact e1)
         clear hb2 hst)
      | (go_simp
         go_at_call 24
         refine (writeString_of b _ [99, 104, 101, 99, 107] _ ?hS _ HW2.out ?hl).mono ?_
         case hS => first | rfl | simp
         case hl => simp; omega
         rintro e w3 ⟨rfl, hw3, hm3⟩
         have HW3 := Lib.hid hw3
         have HM3 : Hid (Wm b w w3) := Lib.hid (((HM1.out.drew).new HB2.out (by simp; omega)).trans hm3)
         have HX3 := Lib.hid (hm3.blk HX2.out (by omega) (by decide))
         have hz3 : w1.heap.size ≤ w3.heap.size := Nat.le_trans HB2.out.size hm3.size
         have f0 : w3.cell? ⟨w.heap.size, 0, none⟩ = some (.int .i64 4) := (blk_cell HX3.out 0).trans rfl
         clear hw3 hm3)
      | fail)
  all_goals
    clear c0 c0' e0 e1 e2
    have HG3 : Hid (Glob w3) := Lib.hid (hG.wm HM3.out h6)
    go_wp2_with fail
    refine (fields_none w.heap.size 4 w3 rfl rfl rfl f0).mono ?_
    rintro e w4 ⟨rfl, hw4⟩
    subst hw4
    have HW5 := HW3
    have HX5 := HX3
    have HM5 := HM3
    obtain ⟨w5, hw5⟩ : ∃ W, W = w4 := ⟨_, rfl⟩
    rw [← hw5] at HW5 HX5 HM5 ⊢
    clear hw5 f0
    go_wp2_with fail
    refine wp_loop_rounds 1 ?_
    rw [rounds_succ]
    obtain ⟨d0, d1, d2, d3, d4, d5, d6, d7, d8, d9, d10, d11⟩ := cells12 HX5.out
    go_wp2_with fail
    refine (writeByte_calls b _ 10 w5 HW5.out (by simp [blanked]; omega)).mono ?_
    rintro e w7 ⟨rfl, hw7, hm7⟩
    have HW7 := Lib.hid hw7
    have HM7 : Hid (Wm b w w7) := Lib.hid (HM5.out.trans hm7)
    clear hw7 hm7
    go_wp2
    go_end0
    exact ⟨rfl, by simpa [blanked] using HW7.out, HM7.out⟩

set_option maxHeartbeats 4000000 in
set_option maxRecDepth 100000 in
theorem wev_5 (b : Nat) (x1 x2 : Int) (x3 : Bool) (x4 x5 x6 x7 x8 x9 x10 : Int) (x11 : List Bool) (A : Option Addr) (c : Nat) (l : By) (w : World) (hG : Glob w) (h6 : 6 ≤ b) (hW : Wr b l w) (hok : Ok46 ⟨5, x1, ⟨x2, x3, x4, ⟨x5, x6, x7, x8⟩, x9⟩, x10, x11⟩) (hK : ∀ W, Below b w W → Kd.C Kd.bool W A x11.length x11) (hlen : l.length + x11.length + 1000 ≤ 140737488355328) :
    Calls Tryd.prog 27 #[.pointer (some ⟨b, 0, none⟩), .agg #[.int .i64 5, .int .i64 x1, .int .i64 x2, .bool x3, .int .u32 x4, .int .i64 x5, .int .i64 x6, .int .i64 x7, .int .i64 x8, .int .i64 x9, .int .i64 x10, .slice A x11.length c]] w (WPost b (l ++ ([97, 114, 109] ++ blanked [x10] ++ ([] : By) ++ [10])) w) := by
  have hlt := hW.lt
  have HW := Lib.hid hW
  have HOK := Lib.hid hok
  have HK := Lib.hid hK
  clear hW hok hK
  obtain ⟨w1, hw1⟩ : ∃ W, W = w.alloc (.cells #[.int .i64 5, .int .i64 x1, .int .i64 x2, .bool x3, .int .u32 x4, .int .i64 x5, .int .i64 x6, .int .i64 x7, .int .i64 x8, .int .i64 x9, .int .i64 x10, .slice A x11.length c] 46 (0, 0)) := ⟨_, rfl⟩
  have HX1 : Hid (w1.heap[w.heap.size]? = some (.cells #[.int .i64 5, .int .i64 x1, .int .i64 x2, .bool x3, .int .u32 x4, .int .i64 x5, .int .i64 x6, .int .i64 x7, .int .i64 x8, .int .i64 x9, .int .i64 x10, .slice A x11.length c] 46 (0, 0))) := Lib.hid (by rw [hw1]; exact blk_new w _)
  have HW1 : Hid (Wr b l w1) := Lib.hid (by rw [hw1]; exact HW.out.new (Below.alloc (Below.refl _ _) (Nat.le_refl _) _))
  have HM1 : Hid (Wm b w w1) := Lib.hid (by rw [hw1]; exact (Wm.refl b w).alloc (by omega) _)
  have hz1 : w1.heap.size = w.heap.size + 1 := by rw [hw1]; simp
  have HWD := Lib.hid (words_calls w1.drew)
  go_enter Tryd.func27, Tryd.ntmps27
  go_upto_region 1 with (fail)
  rw [← hw1]
  clear hw1
  have c0 : w1.drew.cell? ⟨w.heap.size, 0, none⟩ = some (.int .i64 5) := (blk_cell (blk_drew HX1.out) 0).trans rfl
  have c0' : w1.cell? ⟨w.heap.size, 0, none⟩ = some (.int .i64 5) := (blk_cell HX1.out 0).trans rfl
  go_region_law
    (first
      | (go_simp
         go_at_call 50
         refine HWD.out.mono ?_
         rintro e w2 ⟨A2, c2, rfl, hc2, hst, hb2⟩
         have HB2 := Lib.hid hb2
         have HW2 : Hid (Wr b l w2) := Lib.hid (HW1.out.drew.new hb2)
         have HX2 := Lib.hid (blk_below (blk_drew HX1.out) hb2)
         have e0 : w2.cell? ⟨w.heap.size, 0, none⟩ = some (.int .i64 5) := (blk_cell HX2.out 0).trans rfl
         obtain ⟨ad2, rfl, e1⟩ := strs_get hst 5 [97, 114, 109] rfl
         have e2 := (show w2.cell? ⟨ad2.block, ad2.off + 5, none⟩ = some _ from by rw [show (⟨ad2.block, ad2.off + 5, none⟩ : Addr) = ad2.add 5 from by simp [Addr.add]]; exact e1)
         clear hb2 hst)
      | (go_simp
         go_at_call 24
         refine (writeString_of b _ [97, 114, 109] _ ?hS _ HW2.out ?hl).mono ?_
         case hS => first | rfl | simp
         case hl => simp; omega
         rintro e w3 ⟨rfl, hw3, hm3⟩
         have HW3 := Lib.hid hw3
         have HM3 : Hid (Wm b w w3) := Lib.hid (((HM1.out.drew).new HB2.out (by simp; omega)).trans hm3)
         have HX3 := Lib.hid (hm3.blk HX2.out (by omega) (by decide))
         have hz3 : w1.heap.size ≤ w3.heap.size := Nat.le_trans HB2.out.size hm3.size
         have f0 : w3.cell? ⟨w.heap.size, 0, none⟩ = some (.int .i64 5) := (blk_cell HX3.out 0).trans rfl
         clear hw3 hm3)
      | fail)
  all_goals
    clear c0 c0' e0 e1 e2
    have HG3 : Hid (Glob w3) := Lib.hid (hG.wm HM3.out h6)
    go_wp2_with fail
    refine (fields_some w.heap.size 10 w3.heap.size 5 w3 rfl (by decide) f0).mono ?_
    rintro e w4 ⟨rfl, ha4, hb4⟩
    have HW4 : Hid (Wr b (l ++ [97, 114, 109]) w4) := Lib.hid (HW3.out.new hb4)
    have HM4 : Hid (Wm b w w4) := Lib.hid (HM3.out.new hb4 (by omega))
    have HX4 := Lib.hid (blk_below HX3.out hb4)
    have g1 : w4.cell? ⟨w3.heap.size, 0, none⟩ = some (.pointer (some ⟨w.heap.size, 10, none⟩)) := (blk_cell ha4 0).trans rfl
    have g2 : w4.cell? ⟨w.heap.size, 10, none⟩ = some (.int .i64 x10) := (blk_cell HX4.out 10).trans rfl
    have hz4 := hb4.size
    clear ha4 hb4 f0
    go_wp2_with fail
    refine wp_loop_rounds 2 ?_
    rw [rounds_succ]
    go_wp2_with fail
    refine (num1_w b x10 (l ++ [97, 114, 109]) w4 (hG.wm HM4.out h6) h6 HW4.out HOK.out.n (by simp; omega)).mono ?_
    rintro e w5 ⟨rfl, hw5, hm5⟩
    have HW5 := Lib.hid hw5
    have HX5 := Lib.hid (hm5.blk HX4.out (by omega) (by decide))
    have HM5 : Hid (Wm b w w5) := Lib.hid (HM4.out.trans hm5)
    have hz5 := hm5.size
    have hi5 := itoa_le HOK.out.n
    clear hw5 hm5 g1 g2
    go_wp2_with fail
    rw [rounds_succ]
    obtain ⟨d0, d1, d2, d3, d4, d5, d6, d7, d8, d9, d10, d11⟩ := cells12 HX5.out
    go_wp2_with fail
    refine (writeByte_calls b _ 10 w5 HW5.out (by simp [blanked]; omega)).mono ?_
    rintro e w7 ⟨rfl, hw7, hm7⟩
    have HW7 := Lib.hid hw7
    have HM7 : Hid (Wm b w w7) := Lib.hid (HM5.out.trans hm7)
    clear hw7 hm7
    go_wp2
    go_end0
    exact ⟨rfl, by simpa [blanked] using HW7.out, HM7.out⟩

set_option maxHeartbeats 4000000 in
set_option maxRecDepth 100000 in
theorem wev_6 (b : Nat) (x1 x2 : Int) (x3 : Bool) (x4 x5 x6 x7 x8 x9 x10 : Int) (x11 : List Bool) (A : Option Addr) (c : Nat) (l : By) (w : World) (hG : Glob w) (h6 : 6 ≤ b) (hW : Wr b l w) (hok : Ok46 ⟨6, x1, ⟨x2, x3, x4, ⟨x5, x6, x7, x8⟩, x9⟩, x10, x11⟩) (hK : ∀ W, Below b w W → Kd.C Kd.bool W A x11.length x11) (hlen : l.length + x11.length + 1000 ≤ 140737488355328) :
    Calls Tryd.prog 27 #[.pointer (some ⟨b, 0, none⟩), .agg #[.int .i64 6, .int .i64 x1, .int .i64 x2, .bool x3, .int .u32 x4, .int .i64 x5, .int .i64 x6, .int .i64 x7, .int .i64 x8, .int .i64 x9, .int .i64 x10, .slice A x11.length c]] w (WPost b (l ++ ([99, 114, 97, 115, 104] ++ blanked [] ++ (32 :: 61 :: x11.map (fun y => if y then 49 else 48)) ++ [10])) w) := by
  have hlt := hW.lt
  have HW := Lib.hid hW
  have HOK := Lib.hid hok
  have HK := Lib.hid hK
  clear hW hok hK
  obtain ⟨w1, hw1⟩ : ∃ W, W = w.alloc (.cells #[.int .i64 6, .int .i64 x1, .int .i64 x2, .bool x3, .int .u32 x4, .int .i64 x5, .int .i64 x6, .int .i64 x7, .int .i64 x8, .int .i64 x9, .int .i64 x10, .slice A x11.length c] 46 (0, 0)) := ⟨_, rfl⟩
  have HX1 : Hid (w1.heap[w.heap.size]? = some (.cells #[.int .i64 6, .int .i64 x1, .int .i64 x2, .bool x3, .int .u32 x4, .int .i64 x5, .int .i64 x6, .int .i64 x7, .int .i64 x8, .int .i64 x9, .int .i64 x10, .slice A x11.length c] 46 (0, 0))) := Lib.hid (by rw [hw1]; exact blk_new w _)
  have HW1 : Hid (Wr b l w1) := Lib.hid (by rw [hw1]; exact HW.out.new (Below.alloc (Below.refl _ _) (Nat.le_refl _) _))
  have HM1 : Hid (Wm b w w1) := Lib.hid (by rw [hw1]; exact (Wm.refl b w).alloc (by omega) _)
  have hz1 : w1.heap.size = w.heap.size + 1 := by rw [hw1]; simp
  have HWD := Lib.hid (words_calls w1.drew)
  go_enter Tryd.func27, Tryd.ntmps27
  go_upto_region 1 with (fail)
  rw [← hw1]
  clear hw1
  have c0 : w1.drew.cell? ⟨w.heap.size, 0, none⟩ = some (.int .i64 6) := (blk_cell (blk_drew HX1.out) 0).trans rfl
  have c0' : w1.cell? ⟨w.heap.size, 0, none⟩ = some (.int .i64 6) := (blk_cell HX1.out 0).trans rfl
  go_region_law
    (first
      | (go_simp
         go_at_call 50
         refine HWD.out.mono ?_
         rintro e w2 ⟨A2, c2, rfl, hc2, hst, hb2⟩
         have HB2 := Lib.hid hb2
         have HW2 : Hid (Wr b l w2) := Lib.hid (HW1.out.drew.new hb2)
         have HX2 := Lib.hid (blk_below (blk_drew HX1.out) hb2)
         have e0 : w2.cell? ⟨w.heap.size, 0, none⟩ = some (.int .i64 6) := (blk_cell HX2.out 0).trans rfl
         obtain ⟨ad2, rfl, e1⟩ := strs_get hst 6 [99, 114, 97, 115, 104] rfl
         have e2 := (show w2.cell? ⟨ad2.block, ad2.off + 6, none⟩ = some _ from by rw [show (⟨ad2.block, ad2.off + 6, none⟩ : Addr) = ad2.add 6 from by simp [Addr.add]]; exact e1)
         clear hb2 hst)
      | (go_simp
         go_at_call 24
         refine (writeString_of b _ [99, 114, 97, 115, 104] _ ?hS _ HW2.out ?hl).mono ?_
         case hS => first | rfl | simp
         case hl => simp; omega
         rintro e w3 ⟨rfl, hw3, hm3⟩
         have HW3 := Lib.hid hw3
         have HM3 : Hid (Wm b w w3) := Lib.hid (((HM1.out.drew).new HB2.out (by simp; omega)).trans hm3)
         have HX3 := Lib.hid (hm3.blk HX2.out (by omega) (by decide))
         have hz3 : w1.heap.size ≤ w3.heap.size := Nat.le_trans HB2.out.size hm3.size
         have f0 : w3.cell? ⟨w.heap.size, 0, none⟩ = some (.int .i64 6) := (blk_cell HX3.out 0).trans rfl
         clear hw3 hm3)
      | fail)
  all_goals
    clear c0 c0' e0 e1 e2
    have HG3 : Hid (Glob w3) := Lib.hid (hG.wm HM3.out h6)
    go_wp2_with fail
    refine (fields_none w.heap.size 6 w3 rfl rfl rfl f0).mono ?_
    rintro e w4 ⟨rfl, hw4⟩
    subst hw4
    have HW5 := HW3
    have HX5 := HX3
    have HM5 := HM3
    obtain ⟨w5, hw5⟩ : ∃ W, W = w4 := ⟨_, rfl⟩
    rw [← hw5] at HW5 HX5 HM5 ⊢
    clear hw5 f0
    go_wp2_with fail
    refine wp_loop_rounds 1 ?_
    rw [rounds_succ]
    obtain ⟨d0, d1, d2, d3, d4, d5, d6, d7, d8, d9, d10, d11⟩ := cells12 HX5.out
    go_wp2_with fail
    refine (writeString_of b _ [32, 61] _ ?hS w5 HW5.out ?hl).mono ?_
    case hS => first | rfl | simp
    case hl => simp; omega
    rintro e w6 ⟨rfl, hw6, hm6⟩
    have HW6 := Lib.hid hw6
    have HX6 := Lib.hid (hm6.blk HX5.out (by omega) (by decide))
    have HM6 : Hid (Wm b w w6) := Lib.hid (HM5.out.trans hm6)
    clear hw6 hm6 d0 d1 d2 d3 d4 d5 d6 d7 d8 d9 d10 d11
    obtain ⟨d0, d1, d2, d3, d4, d5, d6, d7, d8, d9, d10, d11⟩ := cells12 HX6.out
    go_wp2_with fail
    go_loopw [47] (fun i wr => ∃ k : Nat, k ≤ x11.length ∧ i = .int .i64 k ∧ Hid (Wr b (l ++ [99, 114, 97, 115, 104] ++ [32, 61] ++ (x11.take k).map (fun y => if y then 49 else 48)) wr) ∧ Hid (Wm b w wr)) (fun i _ => x11.length - (intOf i).toNat)
    case atStart => exact ⟨0, by omega, rfl, Lib.hid (by simpa using HW6.out), HM6⟩
    case round =>
      obtain ⟨k, hk, rfl, HWr, HM⟩ := hrel
      by_cases hlt2 : k < x11.length
      · obtain ⟨y, hy⟩ : ∃ y, x11[k]? = some y := ⟨_, List.getElem?_eq_getElem hlt2⟩
        have htk : x11.take (k + 1) = x11.take k ++ [y] := by rw [List.take_add_one, hy]; rfl
        obtain ⟨ad, rfl, hc⟩ := bools_get (HK.out wr HM.out.below) k y hy
        have HTK := Lib.hid htk
        clear hy htk
        have HBT : Hid (∀ W : World, Calls Tryd.prog 34 #[.bool y] W fun e w' => e = .returned (.int .i64 (if y then 1 else 0)) ∧ ∃ n, w' = W.drewN n) := Lib.hid (fun W => bit_calls y W)
        cases y
        · simp only [Bool.false_eq_true, if_false] at HBT
          go_wp2_with fail
          go_region_law
            (first
              | (go_simp
                 go_at_call 34
                 refine (HBT.out _).mono ?_
                 rintro e w7 ⟨rfl, n7, rfl⟩)
              | (go_simp
                 go_at_call 26
                 refine (writeByte_of b _ _ 48 ?hc _ (HWr.out.drewN _) ?hl).mono ?_
                 case hc => first | rfl | decide
                 case hl => simp; omega
                 rintro e w8 ⟨rfl, hw8, hm8⟩
                 have HW8 := Lib.hid hw8
                 have HM8 : Hid (Wm b w w8) := Lib.hid ((HM.out.drewN _).trans hm8)
                 clear hw8 hm8)
              | fail)
          all_goals
            go_wp2
            go_roundw
            case rel =>
              refine ⟨k + 1, by omega, by go_num, ?_, HM8⟩
              refine Lib.hid ?_
              rw [HTK.out, List.map_append, ← List.append_assoc]
              exact HW8.out
            case measure => simp [intOf]; omega
        · simp only [if_true] at HBT
          go_wp2_with fail
          go_region_law
            (first
              | (go_simp
                 go_at_call 34
                 refine (HBT.out _).mono ?_
                 rintro e w7 ⟨rfl, n7, rfl⟩)
              | (go_simp
                 go_at_call 26
                 refine (writeByte_of b _ _ 49 ?hc _ (HWr.out.drewN _) ?hl).mono ?_
                 case hc => first | rfl | decide
                 case hl => simp; omega
                 rintro e w8 ⟨rfl, hw8, hm8⟩
                 have HW8 := Lib.hid hw8
                 have HM8 : Hid (Wm b w w8) := Lib.hid ((HM.out.drewN _).trans hm8)
                 clear hw8 hm8)
              | fail)
          all_goals
            go_wp2
            go_roundw
            case rel =>
              refine ⟨k + 1, by omega, by go_num, ?_, HM8⟩
              refine Lib.hid ?_
              rw [HTK.out, List.map_append, ← List.append_assoc]
              exact HW8.out
            case measure => simp [intOf]; omega
      · have he : k = x11.length := by omega
        subst he
        go_wp2_with fail
        refine (writeByte_calls b _ 10 wr HWr.out (by simp; omega)).mono ?_
        rintro e w9 ⟨rfl, hw9, hm9⟩
        have HW9 := Lib.hid hw9
        have HM9 : Hid (Wm b w w9) := Lib.hid (HM.out.trans hm9)
        clear hw9 hm9
        go_wp2
        go_end0
        exact ⟨rfl, by simpa [blanked] using HW9.out, HM9.out⟩

set_option maxHeartbeats 4000000 in
set_option maxRecDepth 100000 in
theorem wev_7 (b : Nat) (x1 x2 : Int) (x3 : Bool) (x4 x5 x6 x7 x8 x9 x10 : Int) (x11 : List Bool) (A : Option Addr) (c : Nat) (l : By) (w : World) (hG : Glob w) (h6 : 6 ≤ b) (hW : Wr b l w) (hok : Ok46 ⟨7, x1, ⟨x2, x3, x4, ⟨x5, x6, x7, x8⟩, x9⟩, x10, x11⟩) (hK : ∀ W, Below b w W → Kd.C Kd.bool W A x11.length x11) (hlen : l.length + x11.length + 1000 ≤ 140737488355328) :
    Calls Tryd.prog 27 #[.pointer (some ⟨b, 0, none⟩), .agg #[.int .i64 7, .int .i64 x1, .int .i64 x2, .bool x3, .int .u32 x4, .int .i64 x5, .int .i64 x6, .int .i64 x7, .int .i64 x8, .int .i64 x9, .int .i64 x10, .slice A x11.length c]] w (WPost b (l ++ ([111, 112, 101, 110] ++ blanked [] ++ ([] : By) ++ [10])) w) := by
  have hlt := hW.lt
  have HW := Lib.hid hW
  have HOK := Lib.hid hok
  have HK := Lib.hid hK
  clear hW hok hK
  obtain ⟨w1, hw1⟩ : ∃ W, W = w.alloc (.cells #[.int .i64 7, .int .i64 x1, .int .i64 x2, .bool x3, .int .u32 x4, .int .i64 x5, .int .i64 x6, .int .i64 x7, .int .i64 x8, .int .i64 x9, .int .i64 x10, .slice A x11.length c] 46 (0, 0)) := ⟨_, rfl⟩
  have HX1 : Hid (w1.heap[w.heap.size]? = some (.cells #[.int .i64 7, .int .i64 x1, .int .i64 x2, .bool x3, .int .u32 x4, .int .i64 x5, .int .i64 x6, .int .i64 x7, .int .i64 x8, .int .i64 x9, .int .i64 x10, .slice A x11.length c] 46 (0, 0))) := Lib.hid (by rw [hw1]; exact blk_new w _)
  have HW1 : Hid (Wr b l w1) := Lib.hid (by rw [hw1]; exact HW.out.new (Below.alloc (Below.refl _ _) (Nat.le_refl _) _))
  have HM1 : Hid (Wm b w w1) := Lib.hid (by rw [hw1]; exact (Wm.refl b w).alloc (by omega) _)
  have hz1 : w1.heap.size = w.heap.size + 1 := by rw [hw1]; simp
  have HWD := Lib.hid (words_calls w1.drew)
  go_enter Tryd.func27, Tryd.ntmps27
  go_upto_region 1 with (fail)
  rw [← hw1]
  clear hw1
  have c0 : w1.drew.cell? ⟨w.heap.size, 0, none⟩ = some (.int .i64 7) := (blk_cell (blk_drew HX1.out) 0).trans rfl
  have c0' : w1.cell? ⟨w.heap.size, 0, none⟩ = some (.int .i64 7) := (blk_cell HX1.out 0).trans rfl
  go_region_law
    (first
      | (go_simp
         go_at_call 50
         refine HWD.out.mono ?_
         rintro e w2 ⟨A2, c2, rfl, hc2, hst, hb2⟩
         have HB2 := Lib.hid hb2
         have HW2 : Hid (Wr b l w2) := Lib.hid (HW1.out.drew.new hb2)
         have HX2 := Lib.hid (blk_below (blk_drew HX1.out) hb2)
         have e0 : w2.cell? ⟨w.heap.size, 0, none⟩ = some (.int .i64 7) := (blk_cell HX2.out 0).trans rfl
         obtain ⟨ad2, rfl, e1⟩ := strs_get hst 7 [111, 112, 101, 110] rfl
         have e2 := (show w2.cell? ⟨ad2.block, ad2.off + 7, none⟩ = some _ from by rw [show (⟨ad2.block, ad2.off + 7, none⟩ : Addr) = ad2.add 7 from by simp [Addr.add]]; exact e1)
         clear hb2 hst)
      | (go_simp
         go_at_call 24
         refine (writeString_of b _ [111, 112, 101, 110] _ ?hS _ HW2.out ?hl).mono ?_
         case hS => first | rfl | simp
         case hl => simp; omega
         rintro e w3 ⟨rfl, hw3, hm3⟩
         have HW3 := Lib.hid hw3
         have HM3 : Hid (Wm b w w3) := Lib.hid (((HM1.out.drew).new HB2.out (by simp; omega)).trans hm3)
         have HX3 := Lib.hid (hm3.blk HX2.out (by omega) (by decide))
         have hz3 : w1.heap.size ≤ w3.heap.size := Nat.le_trans HB2.out.size hm3.size
         have f0 : w3.cell? ⟨w.heap.size, 0, none⟩ = some (.int .i64 7) := (blk_cell HX3.out 0).trans rfl
         clear hw3 hm3)
      | fail)
  all_goals
    clear c0 c0' e0 e1 e2
    have HG3 : Hid (Glob w3) := Lib.hid (hG.wm HM3.out h6)
    go_wp2_with fail
    refine (fields_none w.heap.size 7 w3 rfl rfl rfl f0).mono ?_
    rintro e w4 ⟨rfl, hw4⟩
    subst hw4
    have HW5 := HW3
    have HX5 := HX3
    have HM5 := HM3
    obtain ⟨w5, hw5⟩ : ∃ W, W = w4 := ⟨_, rfl⟩
    rw [← hw5] at HW5 HX5 HM5 ⊢
    clear hw5 f0
    go_wp2_with fail
    refine wp_loop_rounds 1 ?_
    rw [rounds_succ]
    obtain ⟨d0, d1, d2, d3, d4, d5, d6, d7, d8, d9, d10, d11⟩ := cells12 HX5.out
    go_wp2_with fail
    refine (writeByte_calls b _ 10 w5 HW5.out (by simp [blanked]; omega)).mono ?_
    rintro e w7 ⟨rfl, hw7, hm7⟩
    have HW7 := Lib.hid hw7
    have HM7 : Hid (Wm b w w7) := Lib.hid (HM5.out.trans hm7)
    clear hw7 hm7
    go_wp2
    go_end0
    exact ⟨rfl, by simpa [blanked] using HW7.out, HM7.out⟩

end Go.Proofs.YthkheemjgcbofaaDoor

namespace Go.Proofs.YthkheemjgcbofaaDoor
set_option linter.unusedVariables false
set_option linter.unusedSimpArgs false
open Go.RowKit Go.Proofs.YthkheemjgcbofaaDoor.PSc Go.Proofs.YthkheemjgcbofaaDoorW.PrintWords

theorem event_w (b : Nat) (x : S46) (A : Option Addr) (c : Nat) (l : By) (w : World) (hG : Glob w) (h6 : 6 ≤ b) (hW : Wr b l w) (hok : Ok46 x) (h0 : 0 ≤ x.f0) (h7 : x.f0 ≤ 7) (hK : ∀ W, Below b w W → Kd.C Kd.bool W A x.f4.length x.f4) (hlen : l.length + x.f4.length + 1000 ≤ 140737488355328) :
    Calls Tryd.prog 27 #[.pointer (some ⟨b, 0, none⟩), .agg (vals46 x (.slice A x.f4.length c))] w (WPost b (l ++ evT x) w) := by
  obtain ⟨x0, x1, ⟨x2, x3, x4, ⟨x5, x6, x7, x8⟩, x9⟩, x10, x11⟩ := x
  simp only at h0 h7 hK hlen
  obtain rfl | rfl | rfl | rfl | rfl | rfl | rfl | rfl : x0 = 0 ∨ x0 = 1 ∨ x0 = 2 ∨ x0 = 3 ∨ x0 = 4 ∨ x0 = 5 ∨ x0 = 6 ∨ x0 = 7 := by omega
  · exact wev_0 b x1 x2 x3 x4 x5 x6 x7 x8 x9 x10 x11 A c l w hG h6 hW hok hK hlen
  · exact wev_1 b x1 x2 x3 x4 x5 x6 x7 x8 x9 x10 x11 A c l w hG h6 hW hok hK hlen
  · exact wev_2 b x1 x2 x3 x4 x5 x6 x7 x8 x9 x10 x11 A c l w hG h6 hW hok hK hlen
  · exact wev_3 b x1 x2 x3 x4 x5 x6 x7 x8 x9 x10 x11 A c l w hG h6 hW hok hK hlen
  · exact wev_4 b x1 x2 x3 x4 x5 x6 x7 x8 x9 x10 x11 A c l w hG h6 hW hok hK hlen
  · exact wev_5 b x1 x2 x3 x4 x5 x6 x7 x8 x9 x10 x11 A c l w hG h6 hW hok hK hlen
  · exact wev_6 b x1 x2 x3 x4 x5 x6 x7 x8 x9 x10 x11 A c l w hG h6 hW hok hK hlen
  · exact wev_7 b x1 x2 x3 x4 x5 x6 x7 x8 x9 x10 x11 A c l w hG h6 hW hok hK hlen
end Go.Proofs.YthkheemjgcbofaaDoor
