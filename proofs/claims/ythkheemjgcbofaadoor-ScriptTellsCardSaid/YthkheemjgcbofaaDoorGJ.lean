/-
  Check: is an event of a list wrong?
  Check.
  Print.
  Print, of a script that may be.
  Print: the walk of a script that may be.
-/
import Derived.Test.YthkheemjgcbofaaDoorGC
import Derived.Test.YthkheemjgcbofaaDoorGI

namespace Go.Proofs.YthkheemjgcbofaaDoor
set_option linter.unusedVariables false
set_option linter.unusedSimpArgs false
open Go.RowKit Go.Proofs.YthkheemjgcbofaaDoor.PSc Go.Proofs.YthkheemjgcbofaaDoorW.PrintWords

/-- The place of the first wrong event; -1: there is none. -/
def idxW : List S46 → Int → Int
  | [], _ => -1
  | x :: xs, i => if wrongF x then i else idxW xs (i + 1)
theorem idxW_ge (xs : List S46) : ∀ i : Int, 0 ≤ i → (decide (0 ≤ idxW xs i) = xs.any wrongF) := by
  induction xs with
  | nil => intro i hi; simp [idxW]
  | cons x xs ih =>
    intro i hi
    rw [idxW]
    by_cases h : wrongF x = true
    · simp [h, hi]
    · simp only [h, Bool.false_eq_true, if_false, List.any_cons, Bool.false_or]
      have := ih (i + 1) (by omega)
      simpa [h] using this

set_option maxHeartbeats 1000000 in
theorem indexFunc_calls (xs : List S46) (A : Option Addr) (c : Nat) (w : World) (hr : Kd.C k46 w A xs.length xs) (hc : xs.length ≤ c) :
    Calls Tryd.prog 53 #[.slice A xs.length c, .func (.func 31) #[] #[]] w fun e w' => e = .returned (.int .i64 (idxW xs 0)) ∧ Below w.heap.size w w' := by
  have HR := Lib.hid hr
  have hmax := Kd.C_max hr
  clear hr
  go_enter Tryd.func53, Tryd.ntmps53
  go_wp2
  go_loopw [8] (fun i wr => ∃ k : Nat, k ≤ xs.length ∧ i = .int .i64 k ∧ Hid (idxW xs 0 = idxW (xs.drop k) k) ∧ Hid (Below w.heap.size w wr)) (fun i _ => xs.length - (intOf i).toNat)
  case atStart => exact ⟨0, by omega, rfl, Lib.hid (by simp), Lib.hid (Below.refl _ _)⟩
  case round =>
    obtain ⟨k, hk, rfl, HE, HB⟩ := hrel
    by_cases hlt : k < xs.length
    · obtain ⟨x, hx⟩ : ∃ x, xs[k]? = some x := ⟨_, List.getElem?_eq_getElem hlt⟩
      have hd : xs.drop k = x :: xs.drop (k + 1) := by
        rw [List.drop_eq_getElem_cons hlt]; congr 1; rw [List.getElem?_eq_getElem hlt] at hx; exact Option.some.inj hx
      have HC := Kd.C_below HR.out HB.out
      obtain ⟨ad, A11, c11, rfl, h0, h1, h2, h3, h4, h5, h6, h7, h8, h9, h10, h11, hl, hC⟩ := at_T46 HC (k : Int) (by omega) (by omega)
      have hrd : rd_T46 xs (k : Int) = x := by unfold rd_T46; simp [hx]
      rw [hrd] at h0 h1 h2 h3 h4 h5 h6 h7 h8 h9 h10 h11 hl hC
      simp only [Int.toNat_natCast] at h0 h1 h2 h3 h4 h5 h6 h7 h8 h9 h10 h11
      have HWR := Lib.hid (wrong_calls x A11 c11 wr hC hl)
      have HD := Lib.hid hd
      clear hrd hx hd hl hC HC
      obtain ⟨rr, hrr⟩ : ∃ rr, rr = wrongF x := ⟨_, rfl⟩
      have HRR := Lib.hid hrr
      rw [← hrr] at HWR
      clear hrr
      obtain ⟨x0, x1, ⟨x2, x3, x4, ⟨x5, x6, x7, x8⟩, x9⟩, x10, x11⟩ := x
      simp only [vals46] at HWR
      simp only at h0 h1 h2 h3 h4 h5 h6 h7 h8 h9 h10 h11
      go_wp2_with fail
      refine HWR.out.mono ?_
      rintro e w1 ⟨rfl, hb1⟩
      have HB1 := Lib.hid (HB.out.trans (hb1.mono HB.out.size))
      clear hb1 h0 h1 h2 h3 h4 h5 h6 h7 h8 h9 h10 h11
      cases rr
      · go_wp2
        go_roundw
        case rel =>
          refine ⟨k + 1, by omega, by go_num, ?_, HB1⟩
          refine Lib.hid ?_
          rw [HE.out, HD.out, idxW, ← HRR.out]
          simp
        case measure => simp [intOf]; omega
      · go_wp2
        go_ret
        refine ⟨?_, HB1.out⟩
        rw [HE.out, HD.out, idxW, ← HRR.out]
        simp
    · have he : k = xs.length := by omega
      subst he
      go_wp2
      go_ret
      refine ⟨?_, HB.out⟩
      rw [HE.out, List.drop_length]; rfl

theorem contains_calls (xs : List S46) (A : Option Addr) (c : Nat) (w : World) (hr : Kd.C k46 w A xs.length xs) (hc : xs.length ≤ c) (f : Value) (hf : f = Act.eval ⟨#[], []⟩ (Operand.func 31)) :
    Calls Tryd.prog 30 #[.slice A xs.length c, f] w fun e w' => e = .returned (.bool (xs.any wrongF)) ∧ Below w.heap.size w w' := by
  simp [Act.eval] at hf
  subst hf
  go_enter Tryd.func30, Tryd.ntmps30
  go_wp2_with fail
  refine (indexFunc_calls xs A c w hr hc).mono ?_
  rintro e w1 ⟨rfl, hb1⟩
  go_wp2
  go_ret
  refine ⟨?_, hb1⟩
  rw [← idxW_ge xs 0 (Int.le_refl _)]
  rfl
end Go.Proofs.YthkheemjgcbofaaDoor

namespace Go.Proofs.YthkheemjgcbofaaDoor
set_option linter.unusedVariables false
set_option linter.unusedSimpArgs false
open Go.RowKit Go.Proofs.YthkheemjgcbofaaDoor.PSc Go.Proofs.YthkheemjgcbofaaDoorW.PrintWords

def checkF (xs : List S46) : Int := if 300 < xs.length ∨ xs.any wrongF = true then 2 else 0
set_option maxHeartbeats 1000000 in
theorem check_calls (s0 s1 : Int) (xs : List S46) (A : Option Addr) (c : Nat) (w : World) (hr : Kd.C k46 w A xs.length xs) (hc : xs.length ≤ c) :
    Calls Tryd.prog 15 #[.agg #[.int .i64 s0, .int .i64 s1, .slice A xs.length c]] w fun e w' => e = .returned (.int .i64 (checkF xs)) ∧ Below w.heap.size w w' := by
  obtain ⟨w1, hw1⟩ : ∃ W, W = w.alloc (.cells #[.int .i64 s0, .int .i64 s1, .slice A xs.length c] 27 (0, 0)) := ⟨_, rfl⟩
  have hb1 : Below w.heap.size w w1 := by rw [hw1]; exact Below.alloc (Below.refl _ _) (Nat.le_refl _) _
  have HX1 : Hid (w1.heap[w.heap.size]? = some (.cells #[.int .i64 s0, .int .i64 s1, .slice A xs.length c] 27 (0, 0))) := Lib.hid (by rw [hw1]; exact blk_new w _)
  have HC := Lib.hid (contains_calls xs A c w1 (Kd.C_below hr hb1) hc _ rfl)
  have HB1 := Lib.hid hb1
  clear hr hb1
  have c2 : w1.cell? ⟨w.heap.size, 2, none⟩ = some (.slice A xs.length c) := (blk_cell HX1.out 2).trans rfl
  by_cases h3 : 300 < xs.length
  · have hck : checkF xs = 2 := by unfold checkF; rw [if_pos (.inl h3)]
    rw [hck]
    go_enter Tryd.func15, Tryd.ntmps15
    go_upto_region 1 with (fail)
    rw [← hw1]
    clear hw1
    go_wp2
    all_goals go_ret
    all_goals exact ⟨rfl, HB1.out⟩
  · have hck : checkF xs = if xs.any wrongF = true then 2 else 0 := by unfold checkF; simp [h3]
    rw [hck]
    obtain ⟨rr, hrr⟩ : ∃ rr, rr = xs.any wrongF := ⟨_, rfl⟩
    rw [← hrr] at HC ⊢
    clear hrr hck
    go_enter Tryd.func15, Tryd.ntmps15
    go_upto_region 1 with (fail)
    rw [← hw1]
    clear hw1
    go_wp2_with fail
    refine HC.out.mono ?_
    rintro e w2 ⟨rfl, hb2⟩
    have HB2 := Lib.hid (HB1.out.trans (hb2.mono HB1.out.size))
    clear hb2
    cases rr
    · go_wp2
      go_ret
      exact ⟨rfl, HB2.out⟩
    · go_wp2
      go_ret
      exact ⟨rfl, HB2.out⟩
end Go.Proofs.YthkheemjgcbofaaDoor

namespace Go.Proofs.YthkheemjgcbofaaDoor
set_option linter.unusedVariables false
set_option linter.unusedSimpArgs false
open Go.RowKit Go.Proofs.YthkheemjgcbofaaDoor.PSc Go.Proofs.YthkheemjgcbofaaDoorW.PrintWords

/-- A script's lines. -/
def textT (s0 s1 : Int) (xs : List S46) : By := [119, 111, 114, 108, 100] ++ blanked [s0, s1] ++ [10] ++ xs.flatMap evT
def printF (s0 s1 : Int) (xs : List S46) : By × Int :=
  if checkF xs = 0 then (if 262144 < (textT s0 s1 xs).length then ([], 3) else (textT s0 s1 xs, 0)) else ([], 2)

set_option maxHeartbeats 1000000 in
theorem print_wrong (s0 s1 : Int) (xs : List S46) (A : Option Addr) (c : Nat) (w : World) (hr : Kd.C k46 w A xs.length xs) (hc : xs.length ≤ c) (hck : checkF xs = 2) :
    Calls Tryd.prog 14 #[.agg #[.int .i64 s0, .int .i64 s1, .slice A xs.length c]] w fun e w' => e = .returned (.tuple #[.string ⟨#[]⟩, .int .i64 2]) ∧ Below w.heap.size w w' := by
  obtain ⟨w1, hw1⟩ : ∃ W, W = w.alloc (.cells #[.int .i64 s0, .int .i64 s1, .slice A xs.length c] 27 (0, 0)) := ⟨_, rfl⟩
  have hb1 : Below w.heap.size w w1 := by rw [hw1]; exact Below.alloc (Below.refl _ _) (Nat.le_refl _) _
  have HX1 : Hid (w1.heap[w.heap.size]? = some (.cells #[.int .i64 s0, .int .i64 s1, .slice A xs.length c] 27 (0, 0))) := Lib.hid (by rw [hw1]; exact blk_new w _)
  have HC := Lib.hid (check_calls s0 s1 xs A c w1 (Kd.C_below hr hb1) hc)
  rw [hck] at HC
  have HB1 := Lib.hid hb1
  clear hr hb1 hck
  go_enter Tryd.func14, Tryd.ntmps14
  go_upto_region 1 with (fail)
  rw [← hw1]
  clear hw1
  have c0 : w1.cell? ⟨w.heap.size, 0, none⟩ = some (.int .i64 s0) := (blk_cell HX1.out 0).trans rfl
  have c1 : w1.cell? ⟨w.heap.size, 1, none⟩ = some (.int .i64 s1) := (blk_cell HX1.out 1).trans rfl
  have c2 : w1.cell? ⟨w.heap.size, 2, none⟩ = some (.slice A xs.length c) := (blk_cell HX1.out 2).trans rfl
  go_wp2_with fail
  refine HC.out.mono ?_
  rintro e w2 ⟨rfl, hb2⟩
  have HB2 := Lib.hid (HB1.out.trans (hb2.mono HB1.out.size))
  clear hb2 c0 c1 c2
  go_wp2
  refine bodyPost_ret (v := .tuple #[.string ⟨#[]⟩, .int .i64 2]) (by simp [results, Tryd.results14, go_sem]) rfl ⟨rfl, HB2.out⟩
end Go.Proofs.YthkheemjgcbofaaDoor

namespace Go.Proofs.YthkheemjgcbofaaDoor
set_option linter.unusedVariables false
set_option linter.unusedSimpArgs false
open Go.RowKit Go.Proofs.YthkheemjgcbofaaDoor.PSc Go.Proofs.YthkheemjgcbofaaDoorW.PrintWords

theorem wrongF_no {x : S46} (h : wrongF x = false) : 1 ≤ x.f0 ∧ x.f0 ≤ 7 ∧ x.f4.length ≤ 2048 := by
  unfold wrongF at h
  split at h
  · simp at h
  · split at h
    · simp at h
    · simp at h
      omega
theorem checkF_no {xs : List S46} (h : checkF xs = 0) : xs.length ≤ 300 ∧ ∀ x, x ∈ xs → wrongF x = false := by
  unfold checkF at h
  split at h
  · simp at h
  · rename_i h'
    simp only [not_or, Nat.not_lt] at h'
    refine ⟨h'.1, fun x hx => ?_⟩
    have := h'.2
    simp only [List.any_eq_true, not_exists, not_and] at this
    simpa using this x hx
theorem wordsL_le (n : Nat) : (wordsL.getD n []).length ≤ 6 := by
  match n with
  | 0 => decide
  | 1 => decide
  | 2 => decide
  | 3 => decide
  | 4 => decide
  | 5 => decide
  | 6 => decide
  | 7 => decide
  | n + 8 => simp [wordsL, List.getD]
theorem evT_le (x : S46) (hok : Ok46 x) (h : x.f4.length ≤ 2048) : (evT x).length ≤ 2300 := by
  have h1 := wordsL_le x.f0.toNat
  have h2 : (blanked (evNs x)).length ≤ 22 := by
    unfold evNs
    split
    · exact Nat.le_trans (blanked_le _ (by simpa using hok.s)) (by simp)
    · split
      · exact Nat.le_trans (blanked_le _ (by simpa using hok.n)) (by simp)
      · simp [blanked]
  have h3 : (evTail x).length ≤ 2060 := by
    have := opT_le _ hok.op
    unfold evTail
    split
    · omega
    · split
      · simp; omega
      · simp
  unfold evT
  simp only [List.length_append, List.length_cons, List.length_nil]
  omega
theorem events_le (xs : List S46) (h : ∀ x, x ∈ xs → Ok46 x ∧ x.f4.length ≤ 2048) : (xs.flatMap evT).length ≤ 2300 * xs.length := by
  induction xs with
  | nil => simp
  | cons x xs ih =>
    have h1 := ih (fun y hy => h y (by simp [hy]))
    have h2 := evT_le x (h x (by simp)).1 (h x (by simp)).2
    simp only [List.flatMap_cons, List.length_append, List.length_cons]
    omega
end Go.Proofs.YthkheemjgcbofaaDoor

namespace Go.Proofs.YthkheemjgcbofaaDoor
set_option linter.unusedVariables false
set_option linter.unusedSimpArgs false
open Go.RowKit Go.Proofs.YthkheemjgcbofaaDoor.PSc Go.Proofs.YthkheemjgcbofaaDoorW.PrintWords

def PrintPost (s0 s1 : Int) (xs : List S46) (w : World) (e : Ending) (w' : World) : Prop :=
  e = .returned (.tuple #[.string ⟨(printF s0 s1 xs).1.toArray⟩, .int .i64 (printF s0 s1 xs).2]) ∧ Below w.heap.size w w'
set_option maxHeartbeats 4000000 in
theorem print_right (s0 s1 : Int) (xs : List S46) (A : Option Addr) (c : Nat) (w : World) (hG : Glob w) (h0 : I64 s0) (h1 : I64 s1) (hr : Kd.C k46 w A xs.length xs) (hc : xs.length ≤ c) (hok : ∀ x, x ∈ xs → Ok46 x) (hck : checkF xs = 0) :
    Calls Tryd.prog 14 #[.agg #[.int .i64 s0, .int .i64 s1, .slice A xs.length c]] w (PrintPost s0 s1 xs w) := by
  obtain ⟨hn, hnw⟩ := checkF_no hck
  have HNW := Lib.hid hnw
  have HOK := Lib.hid hok
  have HI0 := Lib.hid h0
  have HI1 := Lib.hid h1
  have HR := Lib.hid hr
  have HCK := Lib.hid hck
  have hGs := hG.size
  obtain ⟨w1, hw1⟩ : ∃ W, W = w.alloc (.cells #[.int .i64 s0, .int .i64 s1, .slice A xs.length c] 27 (0, 0)) := ⟨_, rfl⟩
  have hb1 : Below w.heap.size w w1 := by rw [hw1]; exact Below.alloc (Below.refl _ _) (Nat.le_refl _) _
  have HX1 : Hid (w1.heap[w.heap.size]? = some (.cells #[.int .i64 s0, .int .i64 s1, .slice A xs.length c] 27 (0, 0))) := Lib.hid (by rw [hw1]; exact blk_new w _)
  have HC := Lib.hid (check_calls s0 s1 xs A c w1 (Kd.C_below hr hb1) hc)
  rw [hck] at HC
  have HB1 := Lib.hid hb1
  clear hr hb1 hck hnw hok h0 h1
  go_enter Tryd.func14, Tryd.ntmps14
  go_upto_region 1 with (fail)
  rw [← hw1]
  clear hw1
  have c0 : w1.cell? ⟨w.heap.size, 0, none⟩ = some (.int .i64 s0) := (blk_cell HX1.out 0).trans rfl
  have c1 : w1.cell? ⟨w.heap.size, 1, none⟩ = some (.int .i64 s1) := (blk_cell HX1.out 1).trans rfl
  have c2 : w1.cell? ⟨w.heap.size, 2, none⟩ = some (.slice A xs.length c) := (blk_cell HX1.out 2).trans rfl
  go_wp2_with fail
  refine HC.out.mono ?_
  rintro e w2 ⟨rfl, hb2⟩
  have HX2 := Lib.hid (blk_below HX1.out hb2)
  have HB2 := Lib.hid (HB1.out.trans (hb2.mono HB1.out.size))
  have hz2 : w.heap.size + 1 ≤ w2.heap.size := blk_lt HX2.out
  clear hb2 c0 c1 c2
  obtain ⟨w3, hw3⟩ : ∃ W, W = w2.alloc (.cells #[.pointer none, .slice none 0 0] 71 (0, 0)) := ⟨_, rfl⟩
  have HW3 : Hid (Wr w2.heap.size [] w3) := Lib.hid (Wr.fresh (by rw [hw3]; exact blk_new w2 _))
  have HX3 : Hid (w3.heap[w.heap.size]? = some (.cells #[.int .i64 s0, .int .i64 s1, .slice A xs.length c] 27 (0, 0))) := Lib.hid (by rw [hw3]; exact blk_alloc HX2.out _)
  have HB3 : Hid (Below w.heap.size w w3) := Lib.hid (by rw [hw3]; exact HB2.out.alloc (by omega) _)
  go_wp2_with fail
  rw [← hw3]
  clear hw3
  obtain ⟨b, hb⟩ : ∃ b, b = w2.heap.size := ⟨_, rfl⟩
  rw [← hb] at HW3 hz2 ⊢
  have h6b : 6 ≤ b := by omega
  have hwb : w.heap.size < b := by omega
  clear hb hz2
  refine (writeString_of b [] [119, 111, 114, 108, 100] _ rfl w3 HW3.out (by decide)).mono ?_
  rintro e w4 ⟨rfl, hw4, hm4⟩
  have HW4 := Lib.hid hw4
  have HM4 := Lib.hid hm4
  have HX4 := Lib.hid (hm4.blkLt HX3.out hwb)
  clear hw4 hm4
  have c0 : w4.cell? ⟨w.heap.size, 0, none⟩ = some (.int .i64 s0) := (blk_cell HX4.out 0).trans rfl
  have c1 : w4.cell? ⟨w.heap.size, 1, none⟩ = some (.int .i64 s1) := (blk_cell HX4.out 1).trans rfl
  have c2 : w4.cell? ⟨w.heap.size, 2, none⟩ = some (.slice A xs.length c) := (blk_cell HX4.out 2).trans rfl
  go_wp2_with fail
  have hbel4 : Below w4.heap.size w4 (w4.alloc (.cells #[.int .i64 s0, .int .i64 s1] 2)) := Below.alloc (Below.refl _ _) (Nat.le_refl _) _
  have hlt4 := HW4.out.lt
  have HG4 : Hid (Glob w4) := Lib.hid ((hG.below (HB3.out) (by omega)).wm HM4.out h6b)
  refine (numbers_w b w4.heap.size 2 [s0, s1] 2 [119, 111, 114, 108, 100] _ (HG4.out.below hbel4 HG4.out.size) h6b (HW4.out.new hbel4) (blk_new w4 _) (by omega) (by decide) (by intro n hn; simp at hn; rcases hn with rfl | rfl; exact HI0.out; exact HI1.out) (by simp)).mono ?_
  rintro e w5 ⟨rfl, hw5, hm5⟩
  have HW5 := Lib.hid hw5
  have HM5 : Hid (Wm b w3 w5) := Lib.hid ((HM4.out.alloc (by omega) _).trans hm5)
  have HX5 := Lib.hid (HM5.out.blkLt HX3.out hwb)
  have hbl := blanked_le [s0, s1] (by intro n hn; simp at hn; rcases hn with rfl | rfl; exact HI0.out; exact HI1.out)
  clear hw5 hm5 hbel4 hlt4 c0 c1 c2
  go_wp2_with fail
  have hbl2 : (blanked [s0, s1]).length ≤ 44 := hbl
  clear hbl
  refine (writeByte_calls b ([119, 111, 114, 108, 100] ++ blanked [s0, s1]) 10 w5 HW5.out (by simp; omega)).mono ?_
  rintro e w6 ⟨rfl, hw6, hm6⟩
  obtain ⟨hd, hhd⟩ : ∃ hd, hd = [119, 111, 114, 108, 100] ++ blanked [s0, s1] ++ [10] := ⟨_, rfl⟩
  have hhl : hd.length ≤ 60 := by rw [hhd]; simp; omega
  rw [← hhd] at hw6
  have HHD := Lib.hid hhd
  have HW6 := Lib.hid hw6
  have HM6 : Hid (Wm b w3 w6) := Lib.hid (HM5.out.trans hm6)
  have HX6 := Lib.hid (HM6.out.blkLt HX3.out hwb)
  have c2 : w6.cell? ⟨w.heap.size, 2, none⟩ = some (.slice A xs.length c) := (blk_cell HX6.out 2).trans rfl
  clear hw6 hm6 hhd hbl2
  go_wp2_with fail
  go_loopw [28] (fun i wr => ∃ k : Nat, k ≤ xs.length ∧ i = .int .i64 k ∧ Hid (Wr b (hd ++ (xs.take k).flatMap evT) wr) ∧ Hid (Wm b w3 wr)) (fun i _ => xs.length - (intOf i).toNat)
  case atStart => exact ⟨0, by omega, rfl, Lib.hid (by simpa using HW6.out), HM6⟩
  case round =>
    obtain ⟨k, hk, rfl, HWr, HM⟩ := hrel
    have hbel : Below w.heap.size w wr := HB3.out.trans (HM.out.below.mono (by omega))
    have HBEL := Lib.hid hbel
    by_cases hlt : k < xs.length
    · obtain ⟨x, hx⟩ : ∃ x, xs[k]? = some x := ⟨_, List.getElem?_eq_getElem hlt⟩
      have htk : xs.take (k + 1) = xs.take k ++ [x] := by rw [List.take_add_one, hx]; rfl
      obtain ⟨ad, A11, c11, rfl, h0, h1, h2, h3, h4, h5, h6, h7, h8, h9, h10, h11, hl, hC⟩ := at_T46 HR.out (k : Int) (by omega) (by omega)
      have hrd : rd_T46 xs (k : Int) = x := by unfold rd_T46; simp [hx]
      rw [hrd] at h0 h1 h2 h3 h4 h5 h6 h7 h8 h9 h10 h11 hl hC
      simp only [Int.toNat_natCast] at h0 h1 h2 h3 h4 h5 h6 h7 h8 h9 h10 h11
      replace h0 := (hbel.cell (World.block_lt_of_cell? _ _ h0)).trans h0
      replace h1 := (hbel.cell (World.block_lt_of_cell? _ _ h1)).trans h1
      replace h2 := (hbel.cell (World.block_lt_of_cell? _ _ h2)).trans h2
      replace h3 := (hbel.cell (World.block_lt_of_cell? _ _ h3)).trans h3
      replace h4 := (hbel.cell (World.block_lt_of_cell? _ _ h4)).trans h4
      replace h5 := (hbel.cell (World.block_lt_of_cell? _ _ h5)).trans h5
      replace h6 := (hbel.cell (World.block_lt_of_cell? _ _ h6)).trans h6
      replace h7 := (hbel.cell (World.block_lt_of_cell? _ _ h7)).trans h7
      replace h8 := (hbel.cell (World.block_lt_of_cell? _ _ h8)).trans h8
      replace h9 := (hbel.cell (World.block_lt_of_cell? _ _ h9)).trans h9
      replace h10 := (hbel.cell (World.block_lt_of_cell? _ _ h10)).trans h10
      replace h11 := (hbel.cell (World.block_lt_of_cell? _ _ h11)).trans h11
      have hmem : x ∈ xs := List.mem_of_getElem? hx
      have HOX := Lib.hid (HOK.out x hmem)
      have HKC := Lib.hid hC
      have HNX := Lib.hid (wrongF_no (HNW.out x hmem))
      have HTK := Lib.hid htk
      have hel := events_le (xs.take k) (fun y hy => ⟨HOK.out y (List.mem_of_mem_take hy), (wrongF_no (HNW.out y (List.mem_of_mem_take hy))).2.2⟩)
      rw [List.length_take] at hel
      clear hbel hrd hx htk hmem hl hC
      have hrun : Below wr.heap.size wr wr := Below.refl _ _
      go_wp2_with fail
      have hbw : ∀ o : Obj, Below wr.heap.size wr (wr.alloc o) := fun o => Below.alloc (Below.refl _ _) (Nat.le_refl _) _
      have hlt6 := HWr.out.lt
      have hHG : Glob wr := (hG.below HBEL.out (by omega))
      obtain ⟨h7a, h7b, h7c⟩ := HNX.out
      refine (event_w b x A11 c11 (hd ++ (xs.take k).flatMap evT) _ (hHG.below (hbw _) hHG.size) h6b (HWr.out.new (hbw _)) HOX.out (by omega) h7b (fun W hW => Kd.C_below HKC.out ((HBEL.out.trans ((hbw _).mono HBEL.out.size)).trans (hW.mono (by omega)))) (by simp only [List.length_append]; omega)).mono ?_
      rintro e w7 ⟨rfl, hw7, hm7⟩
      have HW7 := Lib.hid hw7
      have HM7 : Hid (Wm b w3 w7) := Lib.hid ((HM.out.alloc (by omega) _).trans hm7)
      clear hw7 hm7 h0 h1 h2 h3 h4 h5 h6 h7 h8 h9 h10 h11
      go_wp2
      go_roundw
      case rel =>
        refine ⟨k + 1, by omega, by go_num, ?_, HM7⟩
        refine Lib.hid ?_
        rw [HTK.out, List.flatMap_append, ← List.append_assoc]
        simpa using HW7.out
      case measure => simp [intOf]; omega
    · have he : k = xs.length := by omega
      subst he
      have HWe : Hid (Wr b (textT s0 s1 xs) wr) := Lib.hid (by
        have := HWr.out
        rw [List.take_length, HHD.out] at this
        exact this)
      have hel := events_le xs (fun y hy => ⟨HOK.out y hy, (wrongF_no (HNW.out y hy)).2.2⟩)
      obtain ⟨T, hT⟩ : ∃ T, T = textT s0 s1 xs := ⟨_, rfl⟩
      have hpf : printF s0 s1 xs = if 262144 < T.length then ([], 3) else (T, 0) := by unfold printF; rw [if_pos HCK.out, hT]
      have hT0 : T ≠ [] := by rw [hT]; simp [textT]
      have HPF := Lib.hid hpf
      have HT0 := Lib.hid hT0
      rw [← hT] at HWe
      clear hT hpf hT0
      go_wp2_with fail
      refine (len_calls b T wr HWe.out).mono ?_
      rintro e w8 ⟨rfl, rfl⟩
      by_cases hbig : 262144 < T.length
      · go_wp2
        refine bodyPost_ret (v := .tuple #[.string ⟨#[]⟩, .int .i64 3]) (by simp [results, Tryd.results14, go_sem]) rfl ⟨?_, HBEL.out⟩
        rw [HPF.out, if_pos hbig]
      · go_wp2_with fail
        refine (string_calls b T _ HWe.out HT0.out).mono ?_
        rintro e w9 ⟨rfl, hm9⟩
        have HM9 := Lib.hid hm9
        clear hm9
        go_wp2
        refine bodyPost_ret (v := .tuple #[.string ⟨T.toArray⟩, .int .i64 0]) (by simp [results, Tryd.results14, go_sem]) rfl ⟨?_, HBEL.out.trans (HM9.out.below.mono (by omega))⟩
        rw [HPF.out, if_neg hbig]
end Go.Proofs.YthkheemjgcbofaaDoor
