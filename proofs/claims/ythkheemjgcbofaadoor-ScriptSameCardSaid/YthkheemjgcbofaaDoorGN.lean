/-
  ScriptSame: the walk.
  ScriptSame: which scripts are the same: for every two scripts the program and the reference agree, and a script is the same as its copy; both arguments read as before. Conditions: those of the given row (the listed library variables as the program's text lays them, tied by the card).
-/
import Derived.Test.YthkheemjgcbofaaDoorGK
import Derived.Test.YthkheemjgcbofaaDoorGM
import Derived.Deep.RegionHeld3
import Derived.Deep.RegionLaw
import Derived.Deep.Cut
import Derived.StillTailTactics
import Derived.Test.YthkheemjgcbofaaDoorCards
import Derived.Test.YthkheemjgcbofaaDoorTie
import Derived.SevenTiedAt
import Derived.OpenShut
import Derived.ShutString
import Derived.ChangeOld
import Derived.Below
import Derived.SizedLaws

namespace Go.Proofs.YthkheemjgcbofaaDoor
set_option linter.unusedVariables false
set_option linter.unusedSimpArgs false
open Go.RowKit Go.Proofs.YthkheemjgcbofaaDoor.PSc Go.Proofs.YthkheemjgcbofaaDoorW.PrintWords Go.Proofs.YthkheemjgcbofaaDoorW.PrintLast Go.Proofs.YthkheemjgcbofaaDoorW.PrintMore

theorem cells3 {w : World} {b : Nat} {a0 a1 a2 : Value} {T : TypeId} {fr : Nat × Nat} (h : w.heap[b]? = some (.cells #[a0, a1, a2] T fr)) :
    w.cell? ⟨b, 0, none⟩ = some a0 ∧ w.cell? ⟨b, 1, none⟩ = some a1 ∧ w.cell? ⟨b, 2, none⟩ = some a2 :=
  ⟨(blk_cell h 0).trans rfl, (blk_cell h 1).trans rfl, (blk_cell h 2).trans rfl⟩

set_option maxHeartbeats 4000000 in
set_option maxRecDepth 100000 in
theorem scriptSame_walk (s0 s1 : Int) (xs : List S46) (A : Option Addr) (c : Nat) (t0 t1 : Int) (ys : List S46) (B : Option Addr) (d : Nat) (w : World) (hG : Glob w) (_ : I64 s0) (_ : I64 s1) (_ : ∀ y, y ∈ xs → Ok46 y ∧ I64 y.f0) (hr : Kd.C k46 w A xs.length xs) (hc : xs.length ≤ c) (_ : I64 t0) (_ : I64 t1) (_ : ∀ y, y ∈ ys → Ok46 y ∧ I64 y.f0) (hs : Kd.C k46 w B ys.length ys) (hd : ys.length ≤ d) :
    Calls Tryd.prog 4 #[.agg #[.int .i64 s0, .int .i64 s1, .slice A xs.length c], .agg #[.int .i64 t0, .int .i64 t1, .slice B ys.length d]] w fun e w' => e = .returned (.bool true) ∧ Below w.heap.size w w' := by
  have hGs := hG.size
  obtain ⟨wa, hwa⟩ : ∃ W, W = (w.alloc (.cells #[.int .i64 s0, .int .i64 s1, .slice A xs.length c] 27 (0, 0))).alloc (.cells #[.int .i64 t0, .int .i64 t1, .slice B ys.length d] 27 (0, 0)) := ⟨_, rfl⟩
  have hba : Below w.heap.size w wa := by rw [hwa]; exact (Below.alloc (Below.refl _ _) (Nat.le_refl _) _).alloc (by simp) _
  have HX : Hid (wa.heap[w.heap.size]? = some (.cells #[.int .i64 s0, .int .i64 s1, .slice A xs.length c] 27 (0, 0))) := Lib.hid (by rw [hwa]; exact blk_alloc (blk_new w _) _)
  have HY : Hid (wa.heap[w.heap.size + 1]? = some (.cells #[.int .i64 t0, .int .i64 t1, .slice B ys.length d] 27 (0, 0))) := Lib.hid (by rw [hwa]; exact blk_at _ _ (by simp))
  have HBA := Lib.hid hba
  have HW := Lib.hid (wakes_calls wa (hG.below hba hGs))
  have HR := Lib.hid (Kd.C_below hr hba)
  have HS := Lib.hid (Kd.C_below hs hba)
  have HR0 := Lib.hid hr
  have HS0 := Lib.hid hs
  have hza : w.heap.size + 2 ≤ wa.heap.size := blk_lt HY.out
  clear hba hr hs
  go_enter Tryd.func4, Tryd.ntmps4
  go_upto_region 1 with (fail)
  rw [← hwa]
  clear hwa
  go_wp2_with fail
  refine HW.out.mono ?_
  rintro e w1 ⟨rfl, hb1⟩
  have HX1 := Lib.hid (blk_below HX.out hb1)
  have HY1 := Lib.hid (blk_below HY.out hb1)
  have HR1 := Lib.hid (Kd.C_below HR.out hb1)
  have HS1 := Lib.hid (Kd.C_below HS.out hb1)
  have HB1 := Lib.hid (HBA.out.trans (hb1.mono (by omega)))
  have hz1 : wa.heap.size ≤ w1.heap.size := hb1.size
  clear hb1 HW HX HY HR HS HBA
  go_wp2_with fail
  have N01 : ¬ w.heap.size + 1 = w.heap.size := by omega
  have N10 : ¬ w.heap.size = w.heap.size + 1 := by omega
  have HFX := Lib.hid (fun (W : World) (hW : Below w.heap.size w W) => few_calls xs s0 s1 A c w W HR0.out hc hW)
  have HFY := Lib.hid (fun (W : World) (hW : Below w.heap.size w W) => few_calls ys t0 t1 B d w W HS0.out hd hW)
  obtain ⟨kx0, kx1, kx2⟩ := cells3 HX1.out
  obtain ⟨ky0, ky1, ky2⟩ := cells3 HY1.out
  refine start_ (n := 6) (S := fun w' => w'.cell? ⟨w.heap.size, 0, none⟩ = some (.int .i64 s0) ∧ w'.cell? ⟨w.heap.size, 1, none⟩ = some (.int .i64 s1) ∧ w'.cell? ⟨w.heap.size, 2, none⟩ = some (.slice A xs.length c) ∧ w'.cell? ⟨w.heap.size + 1, 0, none⟩ = some (.int .i64 t0) ∧ w'.cell? ⟨w.heap.size + 1, 1, none⟩ = some (.int .i64 t1) ∧ w'.cell? ⟨w.heap.size + 1, 2, none⟩ = some (.slice B ys.length d)) (ds := [4, 5]) #[false, false, false, false, false, false] (by kernel_rfl) rfl rfl ⟨kx0, kx1, kx2, ky0, ky1, ky2⟩ (fun hHeld => ?_)
  refine take_ (i := 0) (N := some 7) (v := ?_) (a' := ?_) #[true, false, false, false, false, false] rfl rfl (by kernel_rfl) (fun _ _ _ h => h) (Or.inl ⟨by rfl, ?_⟩) hHeld ?_ ?_
  rotate_left
  · rintro w' ⟨s0, s1, s2, s3, s4, s5⟩
    go_simp
    with_reducible rfl
  rotate_left
  · simp only [Act.put, List.setIfInBounds_toArray, List.set_cons_zero, List.set_cons_succ, i64_w, i32_w]
    rfl
  refine take_ (i := 2) (N := some 9) (v := ?_) (a' := ?_) #[true, false, true, false, false, false] rfl rfl (by kernel_rfl) (fun _ _ _ h => h) (Or.inl ⟨by rfl, ?_⟩) hHeld ?_ ?_
  rotate_left
  · rintro w' ⟨s0, s1, s2, s3, s4, s5⟩
    go_simp
    with_reducible rfl
  rotate_left
  · simp only [Act.put, List.setIfInBounds_toArray, List.set_cons_zero, List.set_cons_succ, i64_w, i32_w]
    rfl
  refine one_ (i := 1) (N := some 8) #[true, true, true, false, false, false] rfl rfl (by kernel_rfl) (by decide) (fun K hK => ?_)
  refine goes_ Tryd.func10 (by kernel_rfl) rfl #[.agg #[.int .i64 s0, .int .i64 s1, .slice A xs.length c]] (by rfl) rfl rfl (by simp only [List.map_toArray, List.map_cons, List.map_nil]; rfl) ?_
  with_reducible refine (HFX.out _ HB1.out.drew).mono ?_
  rintro e w2 ⟨A2, c2, rfl, hl2, hF2, hB2⟩
  refine ⟨_, rfl, ?_⟩
  have HX2 := Lib.hid (blk_below (blk_drew HX1.out) hB2)
  have HY2 := Lib.hid (blk_below (blk_drew HY1.out) hB2)
  have HF2 : Hid (Kd.F k46 w2 (fun k => k ≠ w.heap.size ∧ k ≠ w.heap.size + 1) A2 (fewF xs).length (fewF xs)) := Lib.hid (Kd.F_mono hF2 (fun k hk => by rcases hk with hk | hk; omega; have hk2 : w1.heap.size ≤ k := hk; omega))
  have HL2 := Lib.hid hl2
  have hz2 : w1.heap.size ≤ w2.heap.size := hB2.size
  have HB2 := Lib.hid (HB1.out.drew.trans (hB2.mono (by show w.heap.size ≤ w1.heap.size; omega)))
  clear hB2 hF2 hl2
  refine hK.out _ _ ⟨(cells3 HX2.out).1, (cells3 HX2.out).2.1, (cells3 HX2.out).2.2, (cells3 HY2.out).1, (cells3 HY2.out).2.1, (cells3 HY2.out).2.2⟩ (fun hHeld => ?_)
  clear hK K
  refine norm_ (a' := ?_) ?_ ?_
  rotate_left
  · show Act.put _ (some 8) _ = _
    simp only [Act.put, List.setIfInBounds_toArray, List.set_cons_zero, List.set_cons_succ, i64_w, i32_w]
    rfl
  refine one_ (i := 3) (N := some 10) #[true, true, true, true, false, false] rfl rfl (by kernel_rfl) (by decide) (fun K hK => ?_)
  refine goes_ Tryd.func10 (by kernel_rfl) rfl #[.agg #[.int .i64 t0, .int .i64 t1, .slice B ys.length d]] (by rfl) rfl rfl (by simp only [List.map_toArray, List.map_cons, List.map_nil]; rfl) ?_
  with_reducible refine (HFY.out _ HB2.out).mono ?_
  rintro e w3 ⟨A3, c3, rfl, hl3, hF3, hB3⟩
  refine ⟨_, rfl, ?_⟩
  have HX3 := Lib.hid (blk_below HX2.out hB3)
  have HY3 := Lib.hid (blk_below HY2.out hB3)
  have HF3 := Lib.hid (Kd.F_below HF2.out hB3)
  have HH3 : Hid (Kd.F k46 w3 (fun k => k ≠ w.heap.size ∧ k ≠ w.heap.size + 1) A3 (fewF ys).length (fewF ys)) := Lib.hid (Kd.F_mono hF3 (fun k hk => by rcases hk with hk | hk <;> omega))
  have HL3 := Lib.hid hl3
  have hz3 : w2.heap.size ≤ w3.heap.size := hB3.size
  have HB3 := Lib.hid (HB2.out.trans (hB3.mono (by omega)))
  have fx0 := blk_free HX3.out 0
  have fx1 := blk_free HX3.out 1
  have fx2 := blk_free HX3.out 2
  have fy0 := blk_free HY3.out 0
  have fy1 := blk_free HY3.out 1
  have fy2 := blk_free HY3.out 2
  clear hB3 hF3 hl3
  refine hK.out _ _ ⟨(cells3 HX3.out).1, (cells3 HX3.out).2.1, (cells3 HX3.out).2.2, (cells3 HY3.out).1, (cells3 HY3.out).2.1, (cells3 HY3.out).2.2⟩ (fun hHeld => ?_)
  clear hK K
  refine norm_ (a' := ?_) ?_ ?_
  rotate_left
  · show Act.put _ (some 10) _ = _
    simp only [Act.put, List.setIfInBounds_toArray, List.set_cons_zero, List.set_cons_succ, i64_w, i32_w]
    rfl
  refine last_ (i := 4) (N := none) #[true, true, true, true, true, false] rfl rfl (by kernel_rfl) (by decide) (fun K hK => ?_)
  refine skip_ (w1 := ?_) (by rfl) rfl ?_ ?_
  rotate_left
  · go_simp
    rfl
  refine hK.out _ _ ?_
  clear hK K
  refine last_ (i := 5) (N := none) #[true, true, true, true, true, true] rfl rfl (by kernel_rfl) (by decide) (fun K hK => ?_)
  refine skip_ (w1 := ?_) (by rfl) rfl ?_ ?_
  rotate_left
  · go_simp
    rfl
  refine hK.out _ _ ?_
  clear hK K
  refine done_ (by kernel_rfl) ?_
  obtain ⟨w4, hw4⟩ : ∃ W, W = (((((w3.setCell ⟨w.heap.size, 0, none⟩ (.int .i64 s0)).setCell ⟨w.heap.size, 1, none⟩ (.int .i64 s1)).setCell ⟨w.heap.size, 2, none⟩ (.slice A2 (fewF xs).length c2)).setCell ⟨w.heap.size + 1, 0, none⟩ (.int .i64 t0)).setCell ⟨w.heap.size + 1, 1, none⟩ (.int .i64 t1)).setCell ⟨w.heap.size + 1, 2, none⟩ (.slice A3 (fewF ys).length c3) := ⟨_, rfl⟩
  have HX4 : Hid (w4.heap[w.heap.size]? = some (.cells #[.int .i64 s0, .int .i64 s1, .slice A2 (fewF xs).length c2] 27 (0, 0))) := Lib.hid (by
    rw [hw4]
    exact blk_far (blk_far (blk_far (blk_set (blk_set (blk_set HX3.out 0 _) 1 _) 2 _) (by simp) _) (by simp) _) (by simp) _)
  have HY4 : Hid (w4.heap[w.heap.size + 1]? = some (.cells #[.int .i64 t0, .int .i64 t1, .slice A3 (fewF ys).length c3] 27 (0, 0))) := Lib.hid (by
    rw [hw4]
    exact blk_set (blk_set (blk_set (blk_far (blk_far (blk_far HY3.out (by simp) _) (by simp) _) (by simp) _) 0 _) 1 _) 2 _)
  have HB4 : Hid (Below w.heap.size w w4) := Lib.hid (by
    rw [hw4]
    exact (((((HB3.out.setCell (by simp) _).setCell (by simp) _).setCell (by simp) _).setCell (by simp) _).setCell (by simp) _).setCell (by simp) _)
  have hFX4 : Kd.C k46 w4 A2 (fewF xs).length (fewF xs) := by
    rw [hw4]
    exact Kd.F_now (Kd.F_far (Kd.F_far (Kd.F_far (Kd.F_far (Kd.F_far (Kd.F_far HF3.out (fun k hk => hk.1) _) (fun k hk => hk.1) _) (fun k hk => hk.1) _) (fun k hk => hk.2) _) (fun k hk => hk.2) _) (fun k hk => hk.2) _)
  have hFY4 : Kd.C k46 w4 A3 (fewF ys).length (fewF ys) := by
    rw [hw4]
    exact Kd.F_now (Kd.F_far (Kd.F_far (Kd.F_far (Kd.F_far (Kd.F_far (Kd.F_far HH3.out (fun k hk => hk.1) _) (fun k hk => hk.1) _) (fun k hk => hk.1) _) (fun k hk => hk.2) _) (fun k hk => hk.2) _) (fun k hk => hk.2) _)
  rw [← hw4]
  clear hw4
  obtain ⟨rr, hrr⟩ : ∃ rr, rr = sameF (s0, s1, fewF xs) (t0, t1, fewF ys) := ⟨_, rfl⟩
  have hSM := fun (W : World) (hW : Below w4.heap.size w4 W) => Same_calls s0 s1 (fewF xs) A2 c2 t0 t1 (fewF ys) A3 c3 W (Kd.C_below hFX4 hW) HL2.out (Kd.C_below hFY4 hW) HL3.out
  have hRS := fun (W : World) (hW : Below w4.heap.size w4 W) => rSame_calls s0 s1 (fewF xs) A2 c2 t0 t1 (fewF ys) A3 c3 W (Kd.C_below hFX4 hW) HL2.out (Kd.C_below hFY4 hW) HL3.out (few_keep xs)
  rw [← hrr] at hSM hRS
  have HSM := Lib.hid hSM
  have HRS := Lib.hid hRS
  have HCP := Lib.hid (fun (W : World) (hW : Below w4.heap.size w4 W) => copied_calls (fewF xs) s0 s1 A2 c2 W (Kd.C_below hFX4 hW) HL2.out (few_len xs) (few_keep xs))
  have hSC := fun (W : World) (A7 : Option Addr) (c7 : Nat) (hW : Below w4.heap.size w4 W) (h7 : Kd.C k46 W A7 (fewF xs).length (fewF xs)) (hl7 : (fewF xs).length ≤ c7) => Same_calls s0 s1 (fewF xs) A2 c2 s0 s1 (fewF xs) A7 c7 W (Kd.C_below hFX4 hW) HL2.out h7 hl7
  rw [sameF_self] at hSC
  have HSC := Lib.hid hSC
  have hz4 : w.heap.size ≤ w4.heap.size := HB4.out.size
  clear hrr hSM hRS hSC hFX4 hFY4 fx0 fx1 fx2 fy0 fy1 fy2 kx0 kx1 kx2 ky0 ky1 ky2
  obtain ⟨px0, px1, px2⟩ := cells3 HX4.out
  obtain ⟨py0, py1, py2⟩ := cells3 HY4.out
  go_wp2_with fail
  refine start_ (n := 14) (S := fun w' => w'.cell? ⟨w.heap.size, 0, none⟩ = some (.int .i64 s0) ∧ w'.cell? ⟨w.heap.size, 1, none⟩ = some (.int .i64 s1) ∧ w'.cell? ⟨w.heap.size, 2, none⟩ = some (.slice A2 (fewF xs).length c2) ∧ w'.cell? ⟨w.heap.size + 1, 0, none⟩ = some (.int .i64 t0) ∧ w'.cell? ⟨w.heap.size + 1, 1, none⟩ = some (.int .i64 t1) ∧ w'.cell? ⟨w.heap.size + 1, 2, none⟩ = some (.slice A3 (fewF ys).length c3)) (ds := []) #[false, false, false, false, false, false, false, false, false, false, false, false, false, false] (by kernel_rfl) rfl rfl ⟨px0, px1, px2, py0, py1, py2⟩ (fun hHeld => ?_)
  refine take_ (i := 0) (N := some 11) (v := ?_) (a' := ?_) #[true, false, false, false, false, false, false, false, false, false, false, false, false, false] rfl rfl (by kernel_rfl) (fun _ _ _ h => h) (Or.inl ⟨by rfl, ?_⟩) hHeld ?_ ?_
  rotate_left
  · rintro w' ⟨s0, s1, s2, s3, s4, s5⟩
    go_simp
    with_reducible rfl
  rotate_left
  · simp only [Act.put, List.setIfInBounds_toArray, List.set_cons_zero, List.set_cons_succ, i64_w, i32_w]
    rfl
  refine take_ (i := 1) (N := some 12) (v := ?_) (a' := ?_) #[true, true, false, false, false, false, false, false, false, false, false, false, false, false] rfl rfl (by kernel_rfl) (fun _ _ _ h => h) (Or.inl ⟨by rfl, ?_⟩) hHeld ?_ ?_
  rotate_left
  · rintro w' ⟨s0, s1, s2, s3, s4, s5⟩
    go_simp
    with_reducible rfl
  rotate_left
  · simp only [Act.put, List.setIfInBounds_toArray, List.set_cons_zero, List.set_cons_succ, i64_w, i32_w]
    rfl
  refine take_ (i := 3) (N := some 14) (v := ?_) (a' := ?_) #[true, true, false, true, false, false, false, false, false, false, false, false, false, false] rfl rfl (by kernel_rfl) (fun _ _ _ h => h) (Or.inl ⟨by rfl, ?_⟩) hHeld ?_ ?_
  rotate_left
  · rintro w' ⟨s0, s1, s2, s3, s4, s5⟩
    go_simp
    with_reducible rfl
  rotate_left
  · simp only [Act.put, List.setIfInBounds_toArray, List.set_cons_zero, List.set_cons_succ, i64_w, i32_w]
    rfl
  refine take_ (i := 4) (N := some 15) (v := ?_) (a' := ?_) #[true, true, false, true, true, false, false, false, false, false, false, false, false, false] rfl rfl (by kernel_rfl) (fun _ _ _ h => h) (Or.inl ⟨by rfl, ?_⟩) hHeld ?_ ?_
  rotate_left
  · rintro w' ⟨s0, s1, s2, s3, s4, s5⟩
    go_simp
    with_reducible rfl
  rotate_left
  · simp only [Act.put, List.setIfInBounds_toArray, List.set_cons_zero, List.set_cons_succ, i64_w, i32_w]
    rfl
  refine one_ (i := 2) (N := some 13) #[true, true, true, true, true, false, false, false, false, false, false, false, false, false] rfl rfl (by kernel_rfl) (by decide) (fun K hK => ?_)
  refine goes_ Tryd.func11 (by kernel_rfl) rfl #[.agg #[.int .i64 s0, .int .i64 s1, .slice A2 (fewF xs).length c2], .agg #[.int .i64 t0, .int .i64 t1, .slice A3 (fewF ys).length c3]] (by rfl) rfl rfl (by simp only [List.map_toArray, List.map_cons, List.map_nil]; rfl) ?_
  with_reducible refine (HSM.out _ (Below.refl w4.heap.size w4).drew).mono ?_
  rintro e w5 ⟨rfl, hb5⟩
  refine ⟨_, rfl, ?_⟩
  have HBB5 : Hid (Below w4.heap.size w4 w5) := Lib.hid ((Below.refl w4.heap.size w4).drew.trans (hb5.mono (by exact Nat.le_refl _)))
  clear hb5
  refine hK.out _ _ ⟨(cells3 (blk_below HX4.out HBB5.out)).1, (cells3 (blk_below HX4.out HBB5.out)).2.1, (cells3 (blk_below HX4.out HBB5.out)).2.2, (cells3 (blk_below HY4.out HBB5.out)).1, (cells3 (blk_below HY4.out HBB5.out)).2.1, (cells3 (blk_below HY4.out HBB5.out)).2.2⟩ (fun hHeld => ?_)
  clear hK K
  refine norm_ (a' := ?_) ?_ ?_
  rotate_left
  · show Act.put _ (some 13) _ = _
    simp only [Act.put, List.setIfInBounds_toArray, List.set_cons_zero, List.set_cons_succ, i64_w, i32_w]
    rfl
  refine one_ (i := 5) (N := some 16) #[true, true, true, true, true, true, false, false, false, false, false, false, false, false] rfl rfl (by kernel_rfl) (by decide) (fun K hK => ?_)
  refine goes_ Tryd.func12 (by kernel_rfl) rfl #[.agg #[.int .i64 s0, .int .i64 s1, .slice A2 (fewF xs).length c2], .agg #[.int .i64 t0, .int .i64 t1, .slice A3 (fewF ys).length c3]] (by rfl) rfl rfl (by simp only [List.map_toArray, List.map_cons, List.map_nil]; rfl) ?_
  with_reducible refine (HRS.out _ HBB5.out).mono ?_
  rintro e w6 ⟨rfl, hb6⟩
  refine ⟨_, rfl, ?_⟩
  have HBB6 : Hid (Below w4.heap.size w4 w6) := Lib.hid (HBB5.out.trans (hb6.mono (by exact HBB5.out.size)))
  clear hb6
  refine hK.out _ _ ⟨(cells3 (blk_below HX4.out HBB6.out)).1, (cells3 (blk_below HX4.out HBB6.out)).2.1, (cells3 (blk_below HX4.out HBB6.out)).2.2, (cells3 (blk_below HY4.out HBB6.out)).1, (cells3 (blk_below HY4.out HBB6.out)).2.1, (cells3 (blk_below HY4.out HBB6.out)).2.2⟩ (fun hHeld => ?_)
  clear hK K
  refine norm_ (a' := ?_) ?_ ?_
  rotate_left
  · show Act.put _ (some 16) _ = _
    simp only [Act.put, List.setIfInBounds_toArray, List.set_cons_zero, List.set_cons_succ, i64_w, i32_w]
    rfl
  refine pure_ (i := 6) (N := some 17) (v := ?_) (a' := ?_) #[true, true, true, true, true, true, true, false, false, false, false, false, false, false] rfl rfl (by kernel_rfl) (fun _ _ _ h => h) (Or.inl ⟨by rfl, ?_⟩) ?_ ?_
  rotate_left
  · intro w'
    go_simp
    with_reducible rfl
  rotate_left
  · simp only [Act.put, List.setIfInBounds_toArray, List.set_cons_zero, List.set_cons_succ, i64_w, i32_w]
    rfl
  refine pure_ (i := 7) (N := some 18) (v := ?_) (a' := ?_) #[true, true, true, true, true, true, true, true, false, false, false, false, false, false] rfl rfl (by kernel_rfl) (fun _ _ _ h => h) (Or.inl ⟨by rfl, ?_⟩) ?_ ?_
  rotate_left
  · intro w'
    go_simp
    with_reducible rfl
  rotate_left
  · simp only [Act.put, List.setIfInBounds_toArray, List.set_cons_zero, List.set_cons_succ, i64_w, i32_w]
    rfl
  refine take_ (i := 8) (N := some 19) (v := ?_) (a' := ?_) #[true, true, true, true, true, true, true, true, true, false, false, false, false, false] rfl rfl (by kernel_rfl) (fun _ _ _ h => h) (Or.inl ⟨by rfl, ?_⟩) hHeld ?_ ?_
  rotate_left
  · rintro w' ⟨s0, s1, s2, s3, s4, s5⟩
    go_simp
    with_reducible rfl
  rotate_left
  · simp only [Act.put, List.setIfInBounds_toArray, List.set_cons_zero, List.set_cons_succ, i64_w, i32_w]
    rfl
  refine take_ (i := 9) (N := some 20) (v := ?_) (a' := ?_) #[true, true, true, true, true, true, true, true, true, true, false, false, false, false] rfl rfl (by kernel_rfl) (fun _ _ _ h => h) (Or.inl ⟨by rfl, ?_⟩) hHeld ?_ ?_
  rotate_left
  · rintro w' ⟨s0, s1, s2, s3, s4, s5⟩
    go_simp
    with_reducible rfl
  rotate_left
  · simp only [Act.put, List.setIfInBounds_toArray, List.set_cons_zero, List.set_cons_succ, i64_w, i32_w]
    rfl
  refine one_ (i := 10) (N := some 21) #[true, true, true, true, true, true, true, true, true, true, true, false, false, false] rfl rfl (by kernel_rfl) (by decide) (fun K hK => ?_)
  refine goes_ Tryd.func13 (by kernel_rfl) rfl #[.agg #[.int .i64 s0, .int .i64 s1, .slice A2 (fewF xs).length c2]] (by rfl) rfl rfl (by simp only [List.map_toArray, List.map_cons, List.map_nil]; rfl) ?_
  with_reducible refine (HCP.out _ HBB6.out).mono ?_
  rintro e w7 ⟨A7, c7, rfl, hl7, hC7, hb7⟩
  refine ⟨_, rfl, ?_⟩
  have HBB7 : Hid (Below w4.heap.size w4 w7) := Lib.hid (HBB6.out.trans (hb7.mono (by exact HBB6.out.size)))
  have HC7 := Lib.hid hC7
  have HL7 := Lib.hid hl7
  clear hb7 hC7 hl7
  refine hK.out _ _ ⟨(cells3 (blk_below HX4.out HBB7.out)).1, (cells3 (blk_below HX4.out HBB7.out)).2.1, (cells3 (blk_below HX4.out HBB7.out)).2.2, (cells3 (blk_below HY4.out HBB7.out)).1, (cells3 (blk_below HY4.out HBB7.out)).2.1, (cells3 (blk_below HY4.out HBB7.out)).2.2⟩ (fun hHeld => ?_)
  clear hK K
  refine norm_ (a' := ?_) ?_ ?_
  rotate_left
  · show Act.put _ (some 21) _ = _
    simp only [Act.put, List.setIfInBounds_toArray, List.set_cons_zero, List.set_cons_succ, i64_w, i32_w]
    rfl
  refine one_ (i := 11) (N := some 22) #[true, true, true, true, true, true, true, true, true, true, true, true, false, false] rfl rfl (by kernel_rfl) (by decide) (fun K hK => ?_)
  refine goes_ Tryd.func11 (by kernel_rfl) rfl #[.agg #[.int .i64 s0, .int .i64 s1, .slice A2 (fewF xs).length c2], .agg #[.int .i64 s0, .int .i64 s1, .slice A7 (fewF xs).length c7]] (by rfl) rfl rfl (by simp only [List.map_toArray, List.map_cons, List.map_nil]; rfl) ?_
  with_reducible refine (HSC.out _ _ _ HBB7.out HC7.out HL7.out).mono ?_
  rintro e w8 ⟨rfl, hb8⟩
  refine ⟨_, rfl, ?_⟩
  have HBB8 : Hid (Below w4.heap.size w4 w8) := Lib.hid (HBB7.out.trans (hb8.mono (by exact HBB7.out.size)))
  clear hb8
  refine hK.out _ _ ⟨(cells3 (blk_below HX4.out HBB8.out)).1, (cells3 (blk_below HX4.out HBB8.out)).2.1, (cells3 (blk_below HX4.out HBB8.out)).2.2, (cells3 (blk_below HY4.out HBB8.out)).1, (cells3 (blk_below HY4.out HBB8.out)).2.1, (cells3 (blk_below HY4.out HBB8.out)).2.2⟩ (fun hHeld => ?_)
  clear hK K
  refine norm_ (a' := ?_) ?_ ?_
  rotate_left
  · show Act.put _ (some 22) _ = _
    simp only [Act.put, List.setIfInBounds_toArray, List.set_cons_zero, List.set_cons_succ, i64_w, i32_w]
    rfl
  refine pure_ (i := 12) (N := some 23) (v := ?_) (a' := ?_) #[true, true, true, true, true, true, true, true, true, true, true, true, true, false] rfl rfl (by kernel_rfl) (fun _ _ _ h => h) (Or.inl ⟨by rfl, ?_⟩) ?_ ?_
  rotate_left
  · intro w'
    go_simp
    with_reducible rfl
  rotate_left
  · simp only [Act.put, List.setIfInBounds_toArray, List.set_cons_zero, List.set_cons_succ, i64_w, i32_w]
    rfl
  refine pure_ (i := 13) (N := some 4) (v := ?_) (a' := ?_) #[true, true, true, true, true, true, true, true, true, true, true, true, true, true] rfl rfl (by kernel_rfl) (fun _ _ _ h => h) (Or.inl ⟨by rfl, ?_⟩) ?_ ?_
  rotate_left
  · intro w'
    go_simp
    with_reducible rfl
  rotate_left
  · simp only [Act.put, List.setIfInBounds_toArray, List.set_cons_zero, List.set_cons_succ, i64_w, i32_w]
    rfl
  refine done_ (by kernel_rfl) ?_
  go_wp2
  go_ret
  exact ⟨rfl, HB4.out.trans (HBB8.out.mono hz4)⟩
end Go.Proofs.YthkheemjgcbofaaDoor

namespace Go.Proofs.YthkheemjgcbofaaDoor
open Go.ChangeShapes Go.WideShapes Go.ChangeAt Go.RowKit Go.Lib
open Go.ChangeMaps (open_string shut_string)
set_option linter.unusedVariables false

theorem row_laidOut : laidOutB Tryd.prog = true := by kernel_rfl
set_option maxRecDepth 100000 in
theorem scriptSame_lifted (os : Os) (started : os.Started) (H : Type) (enc : TypeId × Value → H) (F : Stop.Interp) :
    ReturnsInHanded {} Tryd.checked os 4 .any ((OpenSpec.ofChange Rows.scriptSameSpec).preRow enc Tryd.prog Tryd.f4 Rows.scriptSameRow.domain false Rows.scriptSameRow.laid) (((OpenSpec.ofChange Rows.scriptSameSpec).at F).post enc Tryd.prog Tryd.f4 false true false false) := by
  refine returnsInHanded_of_row (C := Tryd.checked) (s := OpenSpec.ofChange Rows.scriptSameSpec) row_own started (by kernel_rfl) Tryd.func4 ?_ ?_
  · have hk : Input.okWideB Tryd.prog ((World.doorLaid Tryd.prog 400 os).forCall (fun _ _ => 0) ⟨#[], #[.agg #[.int .i64 0, .int .i64 0, .slice none 0 0], .agg #[.int .i64 0, .int .i64 0, .slice none 0 0]], []⟩) 4 ⟨#[], #[.agg #[.int .i64 0, .int .i64 0, .slice none 0 0], .agg #[.int .i64 0, .int .i64 0, .slice none 0 0]], []⟩ = true := by kernel_rfl
    refine ⟨World.doorLaid Tryd.prog 400 os, fun _ _ => 0, ⟨#[], #[.agg #[.int .i64 0, .int .i64 0, .slice none 0 0], .agg #[.int .i64 0, .int .i64 0, .slice none 0 0]], []⟩, rfl, World.shaped_of_RefB (by kernel_rfl) (by kernel_rfl), rfl, (Input.okWide_of_okWideB hk).2, ?_, ?_⟩
    · have hw : (DataW.whole enc Tryd.prog ((World.doorLaid Tryd.prog 400 os).forCall (fun _ _ => 0) ⟨#[], #[.agg #[.int .i64 0, .int .i64 0, .slice none 0 0], .agg #[.int .i64 0, .int .i64 0, .slice none 0 0]], []⟩).memory Tryd.f4.params.toList (OpenSpec.ofChange Rows.scriptSameSpec).vars false (#[.agg #[.int .i64 0, .int .i64 0, .slice none 0 0], .agg #[.int .i64 0, .int .i64 0, .slice none 0 0]] : Array Value).toList 8).map (fun x => (x.1, x.2.1)) =
          some ([.agg [.agg [.lit (.int .i64 0), .lit (.int .i64 0)], .nil], .agg [.agg [.lit (.int .i64 0), .lit (.int .i64 0)], .nil]], []) := by kernel_rfl
      obtain ⟨⟨x1, x2, x3⟩, hx, hx1⟩ := Option.map_eq_some_iff.1 hw
      simp only [Prod.mk.injEq] at hx1
      obtain ⟨rfl, rfl⟩ := hx1
      exact OpenSpec.preRow_of_cond 8 hx (by kernel_rfl) (fun k hk => by cases hk) (by kernel_rfl) (door_met os _)
    · exact none_holds _ _
  intro W base args ds gs before hval0 hW _ _ hsz0 hL hS _
  have hG := glob_of_laid hL hS
  have hval : ∀ (j : Nat) t v, Tryd.f4.params[j]? = some t → args[j]? = some v → Value.okWide Tryd.prog W .any base t v := hval0
  have hsz : (DataW.weightsEach Tryd.prog (Tryd.f4.params.toList ++ (OpenSpec.ofChange Rows.scriptSameSpec).bare.plain.varTypes Tryd.prog) (ds ++ gs)).all (· ≤ reachBytes) = true := hsz0
  have hW' := hW
  obtain ⟨p, q, hA0, hV, rfl, hfz, hnd⟩ := hW
  have hA : DataW.TrodAll enc Tryd.prog W 0 (fun _ => true) true Tryd.f4.params.toList args.toList ds p := hA0
  rw [Tryd.params4] at hA hval hsz
  obtain ⟨v0, vs0, d0, ds0, p0, q0, hargs, rfl, rfl, h0, r0⟩ := trodAll_cons hA
  obtain ⟨v1, vs1, d1, ds1, p1, q1, rfl, rfl, rfl, h1, r1⟩ := trodAll_cons r0
  obtain ⟨rfl, rfl, rfl⟩ := trodAll_nil r1
  obtain rfl : args = #[v0, v1] := by cases args; simp_all
  obtain ⟨rfl, rfl⟩ := trodVars_none hV
  have k0 := h0
  have lt0 : ∀ x ∈ p0, x.block < W.heap.size := by obtain ⟨m, hm⟩ := k0; exact DataW.trod_lt m _ _ _ hm
  obtain ⟨b0, rfl, _⟩ := okWide_struct Tryd.underlying27 (hval 0 27 v0 rfl rfl)
  obtain ⟨u0⟩ := b0
  obtain ⟨fuel0, hf0⟩ := h0
  obtain ⟨s0, t0, xs0, A0, c0, e0, ok0_0, ok1_0, okx_0, hc0, hC0⟩ := open27 hf0
  obtain rfl : u0 = _ := e0
  have k1 := h1
  have lt1 : ∀ x ∈ p1, x.block < W.heap.size := by obtain ⟨m, hm⟩ := k1; exact DataW.trod_lt m _ _ _ hm
  obtain ⟨b1, rfl, _⟩ := okWide_struct Tryd.underlying27 (hval 1 27 v1 rfl rfl)
  obtain ⟨u1⟩ := b1
  obtain ⟨fuel1, hf1⟩ := h1
  obtain ⟨s1, t1, xs1, A1, c1, e1, ok0_1, ok1_1, okx_1, hc1, hC1⟩ := open27 hf1
  obtain rfl : u1 = _ := e1
  clear hA0 hval0 hsz0 hsz
  refine (scriptSame_walk s0 t0 xs0 A0 c0 s1 t1 xs1 A1 c1 W hG ok0_0 ok1_0 okx_0 hC0 hc0 ok0_1 ok1_1 okx_1 hC1 hc1).mono fun e W' ⟨he, bel⟩ => ?_
  subst he
  exact ⟨_, rfl, _, _, _, [], _, [], hW', trodAll_mk1 (shut_bool Tryd.underlying4 _), (trodAll_cons_mk (Below.trod row_laidOut (by kernel_rfl) (of_decide_eq_true (by kernel_rfl)) k0 bel lt0) (trodAll_cons_mk (Below.trod row_laidOut (by kernel_rfl) (of_decide_eq_true (by kernel_rfl)) k1 bel lt1) trodAll_mk0)), rfl, bel.frame _, fun h => by cases h⟩

theorem scriptSame_said : Rows.ScriptSameSaid :=
  OpenClaim.holds_of_cond 4 Tryd.f4 rfl rfl rfl rfl rfl rfl rfl ⟨rfl, rfl, rfl, rfl, rfl⟩ rfl rfl rfl rfl rfl (by kernel_rfl) Tryd.func4 (by kernel_rfl)
    (of_decide_eq_true (by kernel_rfl)) (by unfold Func.isWrapper; first | (rw [if_pos (by decide +kernel)]; kernel_rfl) | (rw [if_neg (by decide +kernel)]; exact ⟨rfl, rfl⟩))
    (fun os started H enc _ F => by rw [OpenClaim.pre_eq_preRow]; exact scriptSame_lifted os started H enc F)

/-- The card: the row, its listed variables tied to the program's text. -/
theorem scriptSame_card : Rows.ScriptSameCardSaid :=
  Claim7.holds_tied_plain_at .later [] [.data, .data, .data, .sentinel, .sentinel] true (true, "42addb4e0bf3af918258e8769f69858169a05968bf4367db2ea6cb46d2cb6f9c") true
    scriptSame_said (fun _ h => by cases h) (by kernel_rfl) (fun _ h => by cases h) scriptSame_row_tie rfl ⟨rfl, rfl⟩ (by kernel_rfl) rfl
    (fun f fn hf hfn => by
      obtain rfl : f = 4 := Option.some.inj ((show Tryd.prog.funcNamed "gazetteer/gazetteerlaw26.ScriptSame" = some 4 by kernel_rfl).symm.trans hf) |>.symm
      obtain rfl : fn = Tryd.f4 := (Option.some.inj (Tryd.func4.symm.trans hfn)).symm
      exact ⟨by kernel_rfl, fun j t ht => by
        rw [Tryd.params4] at ht
        have h9 : t = 27 := by
          rcases j with _ | _ | j
          · simp at ht; subst ht; simp
          · simp at ht; subst ht; simp
          · simp at ht
        rcases h9 with rfl
        · exact (show Tryd.prog.wantsStandIn 27 = false by kernel_rfl)⟩)
    (by kernel_rfl)
#print axioms scriptSame_card
end Go.Proofs.YthkheemjgcbofaaDoor
