/-
  ScriptBack: the walk.
  ScriptBack: scripts and their texts lead back to one another: for every script and every text the law returns true; both arguments read as before. Conditions: those of the given row (the listed library variables as the program's text lays them, tied by the card).
-/
import Derived.Test.YthkheemjgcbofaaDoorGO
import Derived.Test.YthkheemjgcbofaaDoorGP
import Derived.Test.YthkheemjgcbofaaDoorCards
import Derived.Test.YthkheemjgcbofaaDoorTie
import Derived.Test.YthkheemjgcbofaaDoorGK
import Derived.Test.YthkheemjgcbofaaDoorGM
import Derived.SevenTiedAt
import Derived.OpenShut
import Derived.ShutString
import Derived.ChangeOld
import Derived.Below
import Derived.SizedLaws

namespace Go.Proofs.YthkheemjgcbofaaDoor
set_option linter.unusedVariables false
set_option linter.unusedSimpArgs false
open Go.RowKit Go.Proofs.YthkheemjgcbofaaDoor.PSc Go.Proofs.YthkheemjgcbofaaDoorW.PrintWords

theorem checkF_two (xs : List S46) : checkF xs = 0 ∨ checkF xs = 2 := by unfold checkF; split <;> simp
theorem print_calls (s0 s1 : Int) (xs : List S46) (A : Option Addr) (c : Nat) (w : World) (hG : Glob w) (h0 : I64 s0) (h1 : I64 s1) (hr : Kd.C k46 w A xs.length xs) (hc : xs.length ≤ c) (hok : ∀ x, x ∈ xs → Ok46 x) :
    Calls Tryd.prog 14 #[.agg #[.int .i64 s0, .int .i64 s1, .slice A xs.length c]] w (PrintPost s0 s1 xs w) := by
  rcases checkF_two xs with h | h
  · exact print_right s0 s1 xs A c w hG h0 h1 hr hc hok h
  · refine (print_wrong s0 s1 xs A c w hr hc h).mono ?_
    rintro e w' ⟨rfl, hb⟩
    have : printF s0 s1 xs = ([], 2) := by unfold printF; rw [if_neg (by omega)]
    exact ⟨by rw [this], hb⟩
theorem printF_ok (s0 s1 : Int) (xs : List S46) (h : (printF s0 s1 xs).2 = 0) : checkF xs = 0 ∧ (textT s0 s1 xs).length ≤ 262144 ∧ (printF s0 s1 xs).1 = textT s0 s1 xs := by
  unfold printF at h ⊢
  by_cases hc : checkF xs = 0
  · rw [if_pos hc] at h ⊢
    by_cases hl : 262144 < (textT s0 s1 xs).length
    · rw [if_pos hl] at h; simp at h
    · rw [if_neg hl]; exact ⟨hc, by omega, rfl⟩
  · rw [if_neg hc] at h; simp at h
theorem parseF_err (t : By) (hl : t.length ≤ 262144) (h : (parseF t).2.2 ≠ 0) : (parseF t).2.2 = 360 ∧ (parseF t).1 = sc0 ∧ ∃ k : Nat, (parseF t).2.1 = k ∧ k ≤ t.length := by
  unfold parseF at h ⊢
  rw [if_neg (by omega)] at h ⊢
  simp only at h ⊢
  generalize hP : parseL (t.length + 1) t 0 0 sc0 = P at *
  obtain ⟨ok, at_, n, s⟩ := P
  cases ok with
  | false =>
    obtain ⟨k, hk, hkl, _⟩ := parseL_wrong (t.length + 1) t 0 0 sc0 at_ n s (by omega) hP
    simp only [Bool.not_false, Bool.true_or, if_true] at h ⊢
    exact ⟨trivial, trivial, k, by omega, hkl⟩
  | true =>
    by_cases hn : n < 1
    · have ht : t = [] := by
        cases t with
        | nil => rfl
        | cons a t =>
          have := (parseL_n ((a :: t).length + 1) (a :: t) 0 0 sc0).2
          rw [hP] at this
          have := this rfl (by simp) (by omega)
          simp only at this
          omega
      subst ht
      simp only [hn, decide_true, Bool.or_true, if_true] at h ⊢
      have ha : at_ = 0 := by simp [parseL] at hP; exact hP.1.symm
      subst ha
      exact ⟨trivial, trivial, 0, rfl, by simp⟩
    · simp [hn] at h
theorem cutK_ok {x : S46} (h : Ok46 x) : Ok46 (cutK x) := ⟨h.s, h.n, h.op⟩
theorem few_ok {xs : List S46} (h : ∀ x, x ∈ xs → Ok46 x) : ∀ x, x ∈ fewF xs → Ok46 x := by
  intro x hx
  simp only [fewF, List.mem_map] at hx
  obtain ⟨y, hy, rfl⟩ := hx
  exact cutK_ok (h y (List.mem_of_mem_take hy))

attribute [local go_sem high] eqA24
set_option maxHeartbeats 4000000 in
set_option maxRecDepth 100000 in
theorem scriptBack_walk (s0 s1 : Int) (xs : List S46) (A : Option Addr) (c : Nat) (l : By) (w : World) (hG : Glob w) (h0 : I64 s0) (h1 : I64 s1) (hx : ∀ y, y ∈ xs → Ok46 y ∧ I64 y.f0) (hr : Kd.C k46 w A xs.length xs) (hc : xs.length ≤ c) (hl : l.length ≤ 140737488351232) :
    Calls Tryd.prog 5 #[.agg #[.int .i64 s0, .int .i64 s1, .slice A xs.length c], .string ⟨l.toArray⟩] w fun e w' => e = .returned (.bool true) ∧ Below w.heap.size w w' := by
  have hGs := hG.size
  obtain ⟨wa, hwa⟩ : ∃ W, W = w.alloc (.cells #[.int .i64 s0, .int .i64 s1, .slice A xs.length c] 27 (0, 0)) := ⟨_, rfl⟩
  have hba : Below w.heap.size w wa := by rw [hwa]; exact Below.alloc (Below.refl _ _) (Nat.le_refl _) _
  have HX : Hid (wa.heap[w.heap.size]? = some (.cells #[.int .i64 s0, .int .i64 s1, .slice A xs.length c] 27 (0, 0))) := Lib.hid (by rw [hwa]; exact blk_new w _)
  have HBA := Lib.hid hba
  have HW := Lib.hid (wakes_calls wa (hG.below hba hGs))
  have hza : w.heap.size + 1 ≤ wa.heap.size := blk_lt HX.out
  have HOK := Lib.hid (few_ok (fun y hy => (hx y hy).1))
  have HI0 := Lib.hid h0
  have HI1 := Lib.hid h1
  have HFX := Lib.hid (fun (W : World) (hW : Below w.heap.size w W) => few_calls xs s0 s1 A c w W hr hc hW)
  have hu24 := Tryd.underlying24
  clear hba hx h0 h1 hr
  go_enter Tryd.func5, Tryd.ntmps5
  go_upto_region 1 with (fail)
  rw [← hwa]
  clear hwa
  go_wp2_with fail
  refine HW.out.mono ?_
  rintro e w1 ⟨rfl, hb1⟩
  have HX1 := Lib.hid (blk_below HX.out hb1)
  have HB1 := Lib.hid (HBA.out.trans (hb1.mono (by omega)))
  have hz1 : wa.heap.size ≤ w1.heap.size := hb1.size
  clear hb1 HW HX HBA
  obtain ⟨kx0, kx1, kx2⟩ := cells3 HX1.out
  go_wp2_with fail
  refine (HFX.out w1 HB1.out).mono ?_
  rintro e w2 ⟨A2, c2, rfl, hl2, hF2, hB2⟩
  have HX2 := Lib.hid (blk_below HX1.out hB2)
  have hz2 : w1.heap.size ≤ w2.heap.size := hB2.size
  have HB2 := Lib.hid (HB1.out.trans (hB2.mono (by omega)))
  obtain ⟨lx0, lx1, lx2⟩ := cells3 HX2.out
  have fx0 := blk_free HX2.out 0
  have fx1 := blk_free HX2.out 1
  have fx2 := blk_free HX2.out 2
  obtain ⟨w3, hw3⟩ : ∃ W, W = (((w2.setCell ⟨w.heap.size, 0, none⟩ (.int .i64 s0)).setCell ⟨w.heap.size, 1, none⟩ (.int .i64 s1)).setCell ⟨w.heap.size, 2, none⟩ (.slice A2 (fewF xs).length c2)) := ⟨_, rfl⟩
  have HX3 : Hid (w3.heap[w.heap.size]? = some (.cells #[.int .i64 s0, .int .i64 s1, .slice A2 (fewF xs).length c2] 27 (0, 0))) := Lib.hid (by
    rw [hw3]
    exact blk_set (blk_set (blk_set HX2.out 0 _) 1 _) 2 _)
  have HB3 : Hid (Below w.heap.size w w3) := Lib.hid (by
    rw [hw3]
    exact ((HB2.out.setCell (by simp) _).setCell (by simp) _).setCell (by simp) _)
  have hF : Kd.F k46 w2 (fun k => k ≠ w.heap.size) A2 (fewF xs).length (fewF xs) := Kd.F_mono hF2 (fun k hk => by rcases hk with hk | hk <;> omega)
  have hC3 : Kd.C k46 w3 A2 (fewF xs).length (fewF xs) := by
    rw [hw3]
    exact Kd.F_now (Kd.F_far (Kd.F_far (Kd.F_far hF (fun k hk => hk) _) (fun k hk => hk) _) (fun k hk => hk) _)
  have hz3 : w.heap.size + 1 ≤ w3.heap.size := blk_lt HX3.out
  have hPR := print_calls s0 s1 (fewF xs) A2 c2 w3 (hG.below HB3.out hGs) HI0.out HI1.out hC3 hl2 HOK.out
  unfold PrintPost at hPR
  have HC3 := Lib.hid hC3
  have HL2 := Lib.hid hl2
  obtain ⟨pr, hpr⟩ : ∃ pr, pr = printF s0 s1 (fewF xs) := ⟨_, rfl⟩
  have HPR := Lib.hid hpr
  rw [← hpr] at hPR
  have HPC := Lib.hid hPR
  clear hB2 hF2 hl2 hF hC3 hPR hpr kx0 kx1 kx2
  go_wp2_with fail
  rw [← hw3]
  clear hw3
  refine HPC.out.mono ?_
  rintro e w4 ⟨rfl, hb4⟩
  have HX4 := Lib.hid (blk_below HX3.out hb4)
  have HC4 := Lib.hid (Kd.C_below HC3.out hb4)
  have HB4 := Lib.hid (HB3.out.trans (hb4.mono (by omega)))
  have hz4 : w3.heap.size ≤ w4.heap.size := hb4.size
  obtain ⟨T, pe⟩ := pr
  clear hb4 HPC lx0 lx1 lx2 fx0 fx1 fx2
  simp only
  by_cases he : pe = 0
  case' pos =>
    have hpk := printF_ok s0 s1 (fewF xs) (by rw [← HPR.out]; exact he)
    rw [← HPR.out] at hpk
    obtain ⟨hk1, hk2, hk3⟩ := hpk
    have hbp := back_print s0 s1 (fewF xs) HI0.out HI1.out HOK.out hk1 hk2
    rw [← hk3] at hbp hk2
    have hpc := parse_calls T w4 (hG.below HB4.out hGs) (by have h : T.length ≤ 262144 := hk2; omega)
    unfold ParsePost at hpc
    rw [hbp] at hpc
    have HPC := Lib.hid hpc
    clear hpc hbp hk1 hk2 hk3
    subst he
    go_wp2_with fail
    refine HPC.out.mono ?_
    rintro e w5 ⟨v, rfl, hR5, hb5⟩
    obtain ⟨A5, c5, hv, hl5, hC5⟩ := Kd.R_reads hR5
    subst hv
    obtain ⟨w6, hw6⟩ : ∃ W, W = w5.alloc (.cells #[.int .i64 s0, .int .i64 s1, .slice A5 (fewF xs).length c5] 27 (0, 0)) := ⟨_, rfl⟩
    have hb56 : Below w5.heap.size w5 w6 := by rw [hw6]; exact Below.alloc (Below.refl _ _) (Nat.le_refl _) _
    have HX6 := Lib.hid (blk_below (blk_below HX4.out hb5) hb56)
    have HY6 : Hid (w6.heap[w5.heap.size]? = some (.cells #[.int .i64 s0, .int .i64 s1, .slice A5 (fewF xs).length c5] 27 (0, 0))) := Lib.hid (by rw [hw6]; exact blk_new w5 _)
    have hz5 : w4.heap.size ≤ w5.heap.size := hb5.size
    have hSM := Same_calls s0 s1 (fewF xs) A2 c2 s0 s1 (fewF xs) A5 c5 w6 (Kd.C_below (Kd.C_below HC4.out hb5) hb56) HL2.out (Kd.C_below hC5 hb56) hl5
    rw [sameF_self] at hSM
    have HSM := Lib.hid hSM
    have HB6 : Hid (Below w.heap.size w w6) := Lib.hid ((HB4.out.trans (hb5.mono (by omega))).trans (hb56.mono (by omega)))
    clear hb5 hb56 hR5 hl5 hC5 hSM HPC
    obtain ⟨kx0, kx1, kx2⟩ := cells3 HX6.out
    obtain ⟨ky0, ky1, ky2⟩ := cells3 HY6.out
    go_upto_region 7 with (fail)
    rw [← hw6]
    clear hw6
    go_wp2_with fail
    refine HSM.out.mono ?_
    rintro e w7 ⟨rfl, hb7⟩
    have HB7 : Hid (Below w.heap.size w w7) := Lib.hid (HB6.out.trans (hb7.mono HB6.out.size))
    clear hb7 HSM
    go_wp2_with fail
  case' neg =>
    have hne : (pe == 0) = false := by simpa using he
    have hne' : decide (pe = 0) = false := by simpa using he
    go_wp2_with fail
    obtain ⟨w7, hw7⟩ : ∃ W, W = w4 := ⟨_, rfl⟩
    have HB7 : Hid (Below w.heap.size w w7) := by rw [hw7]; exact HB4
    rw [← hw7]
    clear hw7 hne hne'
  all_goals
    rw [extract_take]
    obtain ⟨t, ht⟩ : ∃ t, t = l.take (min (l.length : Int) 262144).toNat := ⟨_, rfl⟩
    have htl : t.length ≤ 262144 := by rw [ht, List.length_take]; omega
    rw [← ht]
    clear ht
    have hpc := parse_calls t w7 (hG.below HB7.out hGs) (by omega)
    unfold ParsePost at hpc
    have HER := Lib.hid (parseF_err t htl)
    have HBP := Lib.hid (back_parse t htl)
    obtain ⟨p, hp⟩ : ∃ p, p = parseF t := ⟨_, rfl⟩
    rw [← hp] at hpc HER HBP
    refine hpc.mono ?_
    clear hpc hp
    rintro e w8 ⟨v, rfl, hR8, hb8⟩
    obtain ⟨A8, c8, hv, hl8, hC8⟩ := Kd.R_reads hR8
    subst hv
    obtain ⟨w9, hw9⟩ : ∃ W, W = w8.alloc (.cells #[.int .i64 p.1.c, .int .i64 p.1.a, .slice A8 p.1.l.length c8] 27 (0, 0)) := ⟨_, rfl⟩
    have hb89 : Below w8.heap.size w8 w9 := by rw [hw9]; exact Below.alloc (Below.refl _ _) (Nat.le_refl _) _
    have HY9 : Hid (w9.heap[w8.heap.size]? = some (.cells #[.int .i64 p.1.c, .int .i64 p.1.a, .slice A8 p.1.l.length c8] 27 (0, 0))) := Lib.hid (by rw [hw9]; exact blk_new w8 _)
    have HB9 : Hid (Below w.heap.size w w9) := Lib.hid ((HB7.out.trans (hb8.mono HB7.out.size)).trans (hb89.mono (HB7.out.trans (hb8.mono HB7.out.size)).size))
    have HC9 := Lib.hid (Kd.C_below hC8 hb89)
    have HL9 := Lib.hid hl8
    have hz9 : w8.heap.size + 1 ≤ w9.heap.size := blk_lt HY9.out
    clear hR8 hl8 hC8 hb8 hb89
    obtain ⟨⟨pc, pa, pl⟩, at_, er⟩ := p
    simp only at HER HBP HY9 HC9 HL9 hw9 ⊢
    go_upto_region 11 with (fail)
    rw [← hw9]
    clear hw9
    obtain ⟨kx0, kx1, kx2⟩ := cells3 HY9.out
    by_cases hq : er = 0
    · subst hq
      obtain ⟨hat, hi0, hi1, hok, hck, htx⟩ := HBP.out rfl
      have hPR := print_calls pc pa pl A8 c8 w9 (hG.below HB9.out hGs) hi0 hi1 HC9.out HL9.out hok
      unfold PrintPost at hPR
      have hpf : printF pc pa pl = (t, 0) := by
        unfold printF
        rw [if_pos hck, htx, if_neg (by omega)]
      rw [hpf] at hPR
      have hCK := fun (W : World) (hW : Below w9.heap.size w9 W) => check_calls pc pa pl A8 c8 W (Kd.C_below HC9.out hW) HL9.out
      rw [hck] at hCK
      have HPR2 := Lib.hid hPR
      have HCK := Lib.hid hCK
      clear hat hi0 hi1 hok hck htx hPR hpf hCK
      go_wp2_with fail
      refine HPR2.out.mono ?_
      rintro e w10 ⟨rfl, hb10⟩
      have HB10 := Lib.hid hb10
      clear hb10
      obtain ⟨lx0, lx1, lx2⟩ := cells3 (blk_below HY9.out HB10.out)
      go_wp2_with fail
      refine (HCK.out _ HB10.out).mono ?_
      rintro e w11 ⟨rfl, hb11⟩
      have HB11 := Lib.hid (HB10.out.trans (hb11.mono HB10.out.size))
      clear hb11
      go_wp2_with fail
      go_ret
      exact ⟨rfl, HB9.out.trans (HB11.out.mono HB9.out.size)⟩
    · obtain ⟨he2, hs2, k, hk, hkl⟩ := HER.out hq
      have he2 : er = 360 := he2
      have hk : at_ = (k : Int) := hk
      have hs2 : (⟨pc, pa, pl⟩ : Sc) = sc0 := hs2
      unfold sc0 at hs2
      injection hs2 with hs3 hs4 hs5
      subst he2 hk hs3 hs4 hs5
      have d1 : decide (0 ≤ (k : Int)) = true := by simp
      have d2 : decide ((k : Int) ≤ (t.length : Int)) = true := by simp; omega
      have d3 : decide (k ≤ t.length) = true := by simp; omega
      clear hq
      go_wp2_with fail
      go_ret
      exact ⟨rfl, HB9.out⟩
end Go.Proofs.YthkheemjgcbofaaDoor

namespace Go.Proofs.YthkheemjgcbofaaDoor
open Go.ChangeShapes Go.WideShapes Go.ChangeAt Go.RowKit Go.Lib
open Go.ChangeMaps (open_string shut_string)
set_option linter.unusedVariables false

theorem row_laidOut : laidOutB Tryd.prog = true := by kernel_rfl
set_option maxRecDepth 100000 in
theorem scriptBack_lifted (os : Os) (started : os.Started) (H : Type) (enc : TypeId × Value → H) (F : Stop.Interp) :
    ReturnsInHanded {} Tryd.checked os 5 .any ((OpenSpec.ofChange Rows.scriptBackSpec).preRow enc Tryd.prog Tryd.f5 Rows.scriptBackRow.domain false Rows.scriptBackRow.laid) (((OpenSpec.ofChange Rows.scriptBackSpec).at F).post enc Tryd.prog Tryd.f5 false true false false) := by
  refine returnsInHanded_of_row (C := Tryd.checked) (s := OpenSpec.ofChange Rows.scriptBackSpec) row_own started (by kernel_rfl) Tryd.func5 ?_ ?_
  · have hk : Input.okWideB Tryd.prog ((World.doorLaid Tryd.prog 400 os).forCall (fun _ _ => 0) ⟨#[], #[.agg #[.int .i64 0, .int .i64 0, .slice none 0 0], .string ⟨#[]⟩], []⟩) 5 ⟨#[], #[.agg #[.int .i64 0, .int .i64 0, .slice none 0 0], .string ⟨#[]⟩], []⟩ = true := by kernel_rfl
    refine ⟨World.doorLaid Tryd.prog 400 os, fun _ _ => 0, ⟨#[], #[.agg #[.int .i64 0, .int .i64 0, .slice none 0 0], .string ⟨#[]⟩], []⟩, rfl, World.shaped_of_RefB (by kernel_rfl) (by kernel_rfl), rfl, (Input.okWide_of_okWideB hk).2, ?_, ?_⟩
    · have hw : (DataW.whole enc Tryd.prog ((World.doorLaid Tryd.prog 400 os).forCall (fun _ _ => 0) ⟨#[], #[.agg #[.int .i64 0, .int .i64 0, .slice none 0 0], .string ⟨#[]⟩], []⟩).memory Tryd.f5.params.toList (OpenSpec.ofChange Rows.scriptBackSpec).vars false (#[.agg #[.int .i64 0, .int .i64 0, .slice none 0 0], .string ⟨#[]⟩] : Array Value).toList 8).map (fun x => (x.1, x.2.1)) =
          some ([.agg [.agg [.lit (.int .i64 0), .lit (.int .i64 0)], .nil], .lit (.string [])], []) := by kernel_rfl
      obtain ⟨⟨x1, x2, x3⟩, hx, hx1⟩ := Option.map_eq_some_iff.1 hw
      simp only [Prod.mk.injEq] at hx1
      obtain ⟨rfl, rfl⟩ := hx1
      exact OpenSpec.preRow_of_cond 8 hx (by kernel_rfl) (fun k hk => by cases hk) (by kernel_rfl) (door_met os _)
    · exact none_holds _ _
  intro W base args ds gs before hval0 hW _ _ hsz0 hL hS _
  have hG := glob_of_laid hL hS
  have hval : ∀ (j : Nat) t v, Tryd.f5.params[j]? = some t → args[j]? = some v → Value.okWide Tryd.prog W .any base t v := hval0
  have hsz : (DataW.weightsEach Tryd.prog (Tryd.f5.params.toList ++ (OpenSpec.ofChange Rows.scriptBackSpec).bare.plain.varTypes Tryd.prog) (ds ++ gs)).all (· ≤ reachBytes) = true := hsz0
  have hW' := hW
  obtain ⟨p, q, hA0, hV, rfl, hfz, hnd⟩ := hW
  have hA : DataW.TrodAll enc Tryd.prog W 0 (fun _ => true) true Tryd.f5.params.toList args.toList ds p := hA0
  rw [Tryd.params5] at hA hval hsz
  obtain ⟨v0, vs0, d0, ds0, p0, q0, hargs, rfl, rfl, h0, r0⟩ := trodAll_cons hA
  obtain ⟨v1, vs1, d1, ds1, p1, q1, rfl, rfl, rfl, h1, r1⟩ := trodAll_cons r0
  obtain ⟨rfl, rfl, rfl⟩ := trodAll_nil r1
  obtain rfl : args = #[v0, v1] := by cases args; simp_all
  obtain ⟨rfl, rfl⟩ := trodVars_none hV
  have k0 := h0
  have lt0 : ∀ x ∈ p0, x.block < W.heap.size := by obtain ⟨m, hm⟩ := k0; exact DataW.trod_lt m _ _ _ hm
  obtain ⟨b0, rfl, _⟩ := okWide_struct Tryd.underlying27 (hval 0 27 v0 rfl rfl)
  obtain ⟨u0⟩ := b0
  obtain ⟨fuel0, hf0⟩ := h0
  obtain ⟨s0, t0, xs0, A0, c0, e0, ok0_0, ok1_0, okx_0, hc0, hC0⟩ := open27 hf0
  obtain rfl : u0 = _ := e0
  obtain ⟨a1, rfl, rfl, rfl, y1⟩ := open_string Tryd.underlying9 (hval 1 9 v1 rfl rfl) h1
  have w1 : a1.size ≤ 140737488351232 := by
    have z := sized_string hsz (j := 1) (t := 9) rfl rfl
    rw [Array.length_toList] at z
    exact z
  obtain ⟨⟨l1⟩⟩ := a1
  clear hA0 hval0 hsz0 hsz
  refine (scriptBack_walk s0 t0 xs0 A0 c0 l1 W hG ok0_0 ok1_0 okx_0 hC0 hc0 w1).mono fun e W' ⟨he, bel⟩ => ?_
  subst he
  exact ⟨_, rfl, _, _, _, [], _, [], hW', trodAll_mk1 (shut_bool Tryd.underlying4 _), (trodAll_cons_mk (Below.trod row_laidOut (by kernel_rfl) (of_decide_eq_true (by kernel_rfl)) k0 bel lt0) (trodAll_cons_mk (shut_string Tryd.underlying9 y1) trodAll_mk0)), rfl, bel.frame _, fun h => by cases h⟩

theorem scriptBack_said : Rows.ScriptBackSaid :=
  OpenClaim.holds_of_cond 5 Tryd.f5 rfl rfl rfl rfl rfl rfl rfl ⟨rfl, rfl, rfl, rfl, rfl⟩ rfl rfl rfl rfl rfl (by kernel_rfl) Tryd.func5 (by kernel_rfl)
    (of_decide_eq_true (by kernel_rfl)) (by unfold Func.isWrapper; first | (rw [if_pos (by decide +kernel)]; kernel_rfl) | (rw [if_neg (by decide +kernel)]; exact ⟨rfl, rfl⟩))
    (fun os started H enc _ F => by rw [OpenClaim.pre_eq_preRow]; exact scriptBack_lifted os started H enc F)

/-- The card: the row, its listed variables tied to the program's text. -/
theorem scriptBack_card : Rows.ScriptBackCardSaid :=
  Claim7.holds_tied_plain_at .later [] [.data, .data, .data, .sentinel, .sentinel] true (true, "42addb4e0bf3af918258e8769f69858169a05968bf4367db2ea6cb46d2cb6f9c") true
    scriptBack_said (fun _ h => by cases h) (by kernel_rfl) (fun _ h => by cases h) scriptBack_row_tie rfl ⟨rfl, rfl⟩ (by kernel_rfl) rfl
    (fun f fn hf hfn => by
      obtain rfl : f = 5 := Option.some.inj ((show Tryd.prog.funcNamed "gazetteer/gazetteerlaw26.ScriptBack" = some 5 by kernel_rfl).symm.trans hf) |>.symm
      obtain rfl : fn = Tryd.f5 := (Option.some.inj (Tryd.func5.symm.trans hfn)).symm
      exact ⟨by kernel_rfl, fun j t ht => by
        rw [Tryd.params5] at ht
        have h9 : t = 9 ∨ t = 27 := by
          rcases j with _ | _ | j
          · simp at ht; subst ht; simp
          · simp at ht; subst ht; simp
          · simp at ht
        rcases h9 with rfl | rfl
        · exact (show Tryd.prog.wantsStandIn 9 = false by kernel_rfl)
        · exact (show Tryd.prog.wantsStandIn 27 = false by kernel_rfl)⟩)
    (by kernel_rfl)
#print axioms scriptBack_card
end Go.Proofs.YthkheemjgcbofaaDoor
