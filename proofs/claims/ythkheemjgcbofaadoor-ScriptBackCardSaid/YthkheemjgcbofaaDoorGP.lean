/-
  A text that is wrong at a line is wrong there whatever stands behind the line: the plain law of the loop over lines.
  ScriptLines: the walk.
  ScriptSame: the walk.
-/
import Derived.Test.YthkheemjgcbofaaDoorGG
import Derived.Test.YthkheemjgcbofaaDoorGK
import Derived.Test.YthkheemjgcbofaaDoorGM
import Derived.Deep.RegionHeld3
import Derived.Deep.RegionLaw
import Derived.Deep.Cut
import Derived.StillTailTactics

namespace Go.Proofs.YthkheemjgcbofaaDoor
set_option linter.unusedVariables false
set_option linter.unusedSimpArgs false
open Go.RowKit Go.Proofs.YthkheemjgcbofaaDoor.PSc Go.Proofs.YthkheemjgcbofaaDoorW.PrintWords

theorem cut1_drop (t : By) (h : (cut1 10 t).2.2 = true) : ∀ j, t.drop ((cut1 10 t).1.length + 1 + j) = (cut1 10 t).2.1.drop j := by
  intro j
  rw [(cut1_len 10 t h).2, List.drop_drop]
theorem parseL_line (l : By) (hl : 10 ∉ l) (u : By) (f i n : Nat) (s : Sc) : parseL (f + 1) (l ++ 10 :: u) i n s = if (lineF s l n).1 = true then parseL f u (i + l.length + 1) (n + 1) (lineF s l n).2 else ⟨false, i, n, s⟩ := by
  rw [parseL, if_neg (by simp), cut_eq, cut1_append 10 l u hl]
  simp
theorem take_line (l r : By) (m : Nat) : (l ++ 10 :: r).take (l.length + (m + 1)) = l ++ 10 :: r.take m := by
  rw [List.take_append, List.take_of_length_le (by omega)]
  simp
theorem parseL_wrong (f : Nat) : ∀ (t : By) (i n : Nat) (s : Sc) (a n' : Nat) (s' : Sc), t.length < f → parseL f t i n s = ⟨false, a, n', s'⟩ →
    ∃ k, a = i + k ∧ k ≤ t.length ∧ (0 < k → t.getD (k - 1) 0 = 10) ∧
      ((cut1 10 (t.drop k)).2.2 = true → ∀ (more : By) (f' : Nat), (t.take (k + (cut1 10 (t.drop k)).1.length + 1) ++ more).length < f' →
        parseL f' (t.take (k + (cut1 10 (t.drop k)).1.length + 1) ++ more) i n s = ⟨false, a, n', s'⟩) := by
  induction f with
  | zero => intro t i n s a n' s' h; omega
  | succ f ih =>
    intro t i n s a n' s' hf h
    rw [parseL] at h
    by_cases ht : t = []
    · rw [if_pos ht] at h; injection h with h1; cases h1
    · rw [if_neg ht, cut_eq] at h
      by_cases hc : (cut1 10 t).2.2 = true
      · rw [if_pos hc] at h
        have hfound := cut1_found 10 t hc
        have hmem := cut1_mem 10 t
        have hdrop := cut1_drop t hc
        by_cases hl : (lineF s (cut1 10 t).1 n).1 = true
        · rw [if_pos hl] at h
          generalize hl1 : (cut1 10 t).1 = l at *
          generalize hr1 : (cut1 10 t).2.1 = r at *
          have hlen : t.length = l.length + 1 + r.length := by rw [hfound]; simp; omega
          obtain ⟨k, hk, hkl, hk1, hrest⟩ := ih r _ _ _ _ _ _ (by omega) h
          refine ⟨l.length + 1 + k, by omega, by omega, fun _ => ?_, ?_⟩
          · by_cases h0 : k = 0
            · subst h0
              rw [hfound]
              simp [List.getD_eq_getElem?_getD]
            · have := hk1 (by omega)
              rw [hfound]
              have e : l.length + 1 + k - 1 = l.length + (k - 1 + 1) := by omega
              rw [e]
              rw [List.getD_eq_getElem?_getD, List.getElem?_append_right (by omega)]
              simpa [List.getD_eq_getElem?_getD] using this
          · rw [hdrop k]
            intro hcut more f' hf'
            have e : t.take (l.length + 1 + k + (cut1 10 (r.drop k)).1.length + 1) ++ more = l ++ 10 :: (r.take (k + (cut1 10 (r.drop k)).1.length + 1) ++ more) := by
              have e1 : l.length + 1 + k + (cut1 10 (r.drop k)).1.length + 1 = l.length + (k + (cut1 10 (r.drop k)).1.length + 1 + 1) := by omega
              rw [hfound, e1, take_line]
              simp
            rw [e] at hf' ⊢
            obtain ⟨f', rfl⟩ : ∃ m, f' = m + 1 := ⟨f' - 1, by omega⟩
            rw [parseL_line l hmem, if_pos hl]
            exact hrest hcut more f' (by simp only [List.length_append, List.length_cons] at hf' ⊢; omega)
        · rw [if_neg hl] at h
          injection h with h1 h2 h3 h4
          subst h2 h3 h4
          refine ⟨0, by omega, by omega, fun h => by omega, ?_⟩
          rw [List.drop_zero]
          intro _ more f' hf'
          have e : t.take (0 + (cut1 10 t).1.length + 1) ++ more = (cut1 10 t).1 ++ 10 :: more := by
            generalize cut1 10 t = q at *
            have e1 : 0 + q.1.length + 1 = q.1.length + (0 + 1) := by omega
            rw [hfound, e1, take_line]
            simp
          rw [e] at hf' ⊢
          obtain ⟨f', rfl⟩ : ∃ m, f' = m + 1 := ⟨f' - 1, by omega⟩
          rw [parseL_line _ hmem, if_neg hl]
      · rw [if_neg hc] at h
        injection h with h1 h2 h3 h4
        subst h2 h3 h4
        exact ⟨0, by omega, by omega, fun h => by omega, fun h => by rw [List.drop_zero] at h; exact absurd h hc⟩

/-- The number of lines that were read grows. -/
theorem parseL_n (f : Nat) : ∀ (t : By) (i n : Nat) (s : Sc), n ≤ (parseL f t i n s).n ∧ ((parseL f t i n s).ok = true → t ≠ [] → t.length < f → n < (parseL f t i n s).n) := by
  induction f with
  | zero => intro t i n s; exact ⟨Nat.le_refl _, fun _ _ h => by omega⟩
  | succ f ih =>
    intro t i n s
    rw [parseL]
    split
    · rename_i h; exact ⟨Nat.le_refl _, fun _ h' => absurd h h'⟩
    · split
      · split
        · have h1 := (ih (Lib.cut t [10]).2.1 (i + (Lib.cut t [10]).1.length + 1) (n + 1) (lineF s (Lib.cut t [10]).1 n).2).1
          exact ⟨by omega, fun _ _ _ => by omega⟩
        · exact ⟨Nat.le_refl _, fun h => by cases h⟩
      · exact ⟨Nat.le_refl _, fun h => by cases h⟩

/-- What Parse tells of a text, and of what begins with its lines up to the wrong one. -/
theorem parseF_wrong (text : By) (hl : text.length ≤ 20000) (h0 : (parseF text).2.2 ≠ 0) :
    (parseF text).2.2 = 360 ∧ ∃ k : Nat, (parseF text).2.1 = k ∧ k ≤ text.length ∧ (0 < k → text.getD (k - 1) 0 = 10) ∧
      ((cut1 10 (text.drop k)).2.2 = true → ∀ more : By, more.length ≤ 1000 → (parseF (text.take (k + (cut1 10 (text.drop k)).1.length + 1) ++ more)).2 = ((k : Int), 360)) := by
  unfold parseF at h0 ⊢
  rw [if_neg (by omega)] at h0 ⊢
  simp only at h0 ⊢
  generalize hP : parseL (text.length + 1) text 0 0 sc0 = P at *
  obtain ⟨ok, at_, n, s⟩ := P
  cases ok with
  | false =>
    obtain ⟨k, hk, hkl, hk1, hrest⟩ := parseL_wrong (text.length + 1) text 0 0 sc0 at_ n s (by omega) hP
    simp only [Bool.not_false, Bool.true_or, if_true] at h0 ⊢
    refine ⟨trivial, k, by omega, hkl, hk1, fun hc more hm => ?_⟩
    have hlt : (text.take (k + (cut1 10 (text.drop k)).1.length + 1) ++ more).length ≤ 21000 := by
      simp only [List.length_append, List.length_take]; omega
    rw [if_neg (by omega), hrest hc more _ (Nat.lt_succ_self _)]
    simp; omega
  | true =>
    by_cases hn : n < 1
    · have ht : text = [] := by
        cases text with
        | nil => rfl
        | cons a t =>
          have := (parseL_n ((a :: t).length + 1) (a :: t) 0 0 sc0).2
          rw [hP] at this
          have := this rfl (by simp) (by omega)
          simp only at this
          omega
      subst ht
      simp only [hn, decide_true, Bool.or_true, if_true] at h0 ⊢
      have ha : at_ = 0 := by simp [parseL] at hP; exact hP.1.symm
      subst ha
      exact ⟨trivial, 0, rfl, by simp, fun h => by omega, fun h => by simp [cut1] at h⟩
    · simp [hn] at h0
end Go.Proofs.YthkheemjgcbofaaDoor

namespace Go.Proofs.YthkheemjgcbofaaDoor
set_option linter.unusedVariables false
set_option linter.unusedSimpArgs false
open Go.RowKit Go.Proofs.YthkheemjgcbofaaDoor.PSc Go.Proofs.YthkheemjgcbofaaDoorW.PrintWords

theorem indexByte_cut (c : UInt8) : ∀ l : By, Lib.indexByte l c = if (cut1 c l).2.2 = true then ((cut1 c l).1.length : Int) else -1 := by
  intro l
  induction l with
  | nil => rfl
  | cons b l ih =>
    unfold Lib.indexByte cut1
    by_cases h : b = c
    · simp [h]
    · have hb : (b == c) = false := by simpa using h
      rw [hb, if_neg h, ih]
      by_cases hc : (cut1 c l).2.2 = true
      · simp only [hc, if_true, Bool.false_eq_true, if_false]
        rw [if_neg (by simp)]
        simp
      · simp [hc]
theorem extract_take (l : By) (j : Nat) : (⟨l.toArray⟩ : ByteArray).extract 0 j = ⟨(l.take j).toArray⟩ := by
  apply ba_ext
  rw [Lib.extract_data]
  show (l.drop 0).take (j - 0) = l.take j
  simp

theorem ba_append (l m : By) : (⟨l.toArray⟩ : ByteArray) ++ (⟨m.toArray⟩ : ByteArray) = ⟨(l ++ m).toArray⟩ := by
  apply ba_ext
  simp
theorem indexByte_calls (l : By) (r : Int) (w : World) (h : Lib.indexByte l 10 = r) :
    Calls Tryd.prog 9 #[.string ⟨l.toArray⟩, .int .u8 10] w fun e w' => e = .returned (.int .i64 r) ∧ w' = w := by
  refine (Tryd.strings_IndexByte ⟨l.toArray⟩ 10 w).mono ?_
  rintro e w' ⟨rfl, rfl⟩
  refine ⟨?_, rfl⟩
  rw [← h]
  rfl

set_option maxHeartbeats 2000000 in
set_option maxRecDepth 100000 in
theorem lines_walk (l m : By) (w : World) (hG : Glob w) (hl : l.length ≤ 140737488351232) (hm : m.length ≤ 140737488351232) :
    Calls Tryd.prog 3 #[.string ⟨l.toArray⟩, .string ⟨m.toArray⟩] w fun e w' => e = .returned (.bool true) ∧ Below w.heap.size w w' := by
  have hGs := hG.size
  have HW := Lib.hid (wakes_calls w hG)
  go_enter Tryd.func3, Tryd.ntmps3
  go_wp2_with fail
  refine HW.out.mono ?_
  rintro e w1 ⟨rfl, hb1⟩
  have HB1 := Lib.hid hb1
  clear hb1
  go_wp2_with fail
  go_region
  rw [extract_take, extract_take]
  obtain ⟨t, ht⟩ : ∃ t, t = l.take (min (l.length : Int) 20000).toNat := ⟨_, rfl⟩
  obtain ⟨u, hu⟩ : ∃ u, u = m.take (min (m.length : Int) 1000).toNat := ⟨_, rfl⟩
  have htl : t.length ≤ 20000 := by rw [ht, List.length_take]; omega
  have hul : u.length ≤ 1000 := by rw [hu, List.length_take]; omega
  rw [← ht, ← hu]
  clear ht hu
  go_wp2_with fail
  have hpc := parse_calls t w1.drew (hG.below (Below.drew HB1.out) hGs) (by omega)
  have HPW := Lib.hid (parseF_wrong t htl)
  unfold ParsePost at hpc
  obtain ⟨p, hp⟩ : ∃ p, p = parseF t := ⟨_, rfl⟩
  rw [← hp] at hpc HPW
  refine hpc.mono ?_
  clear hpc hp
  rintro e w2 ⟨v, rfl, hR, hb2⟩
  obtain ⟨A, c, hv⟩ := Kd.R_slice hR
  subst hv
  have HB2 : Hid (Below w.heap.size w w2) := Lib.hid (HB1.out.drew.trans (hb2.mono HB1.out.size))
  clear hR hb2
  obtain ⟨s, at_, er⟩ := p
  simp only at HPW ⊢
  by_cases he : er = 0
  · go_wp2
    go_ret
    refine ⟨rfl, ?_⟩
    exact HB2.out.alloc (by have := HB2.out.size; omega) _
  · obtain ⟨he2, k, hk, hkl, hk1, hk2⟩ := HPW.out he
    obtain rfl : er = 360 := he2
    obtain rfl : at_ = (k : Int) := hk
    have HK2 := Lib.hid hk2
    clear hk2 HPW he
    have HB3 : Hid (Below w.heap.size w (w2.alloc (Obj.cells #[.int .i64 s.c, .int .i64 s.a, .slice A s.l.length c] 27))) := Lib.hid (HB2.out.alloc HB2.out.size _)
    have hib := indexByte_cut 10 (t.drop k)
    obtain ⟨fd, hfd⟩ : ∃ fd, fd = (cut1 10 (t.drop k)).2.2 := ⟨_, rfl⟩
    obtain ⟨q, hq⟩ : ∃ q, q = (cut1 10 (t.drop k)).1.length := ⟨_, rfl⟩
    have hql : fd = true → k + q + 1 ≤ t.length := fun h => by
      have := (cut1_len 10 (t.drop k) (by rw [← hfd]; exact h)).1
      rw [List.length_drop] at this
      omega
    rw [← hfd, ← hq] at hib
    rw [← hfd, ← hq] at HK2
    have HIB := Lib.hid hib
    have HQL := Lib.hid hql
    clear hib hfd hq hql
    by_cases hk0 : 0 < k
    case' pos =>
      have hlt : k - 1 < t.length := by omega
      have hge := hk1 hk0
      have hix : ∀ W : World, (Instr.index 9 (.string ⟨t.toArray⟩) (.int .i64 ((k : Int) - 1))).run Tryd.prog W = .ok (.int .u8 10) W := by
        intro W
        rw [run_index_string W 9 _ _ _ Tryd.underlying9, dif_pos ⟨by omega, by show (k : Int) - 1 < (t.toArray.size : Int); simp; omega⟩]
        congr 2
        have e1 : ((k : Int) - 1).toNat = k - 1 := by omega
        have e2 : (⟨t.toArray⟩ : ByteArray)[k - 1]'(by show k - 1 < t.toArray.size; simpa using hlt) = 10 := by
          show t.toArray[k - 1]'_ = 10
          rw [List.getElem_toArray]
          rw [List.getD_eq_getElem?_getD, List.getElem?_eq_getElem hlt] at hge
          exact hge
        simp only [e1]
        rw [e2]; rfl
      have d1 : decide ((k : Int) < 0) = false := by simp
      have d2 : decide (t.length < k) = false := by simp; omega
      go_wp2_with fail
    case' neg =>
      have hk0' : ¬ 0 < (k : Int) := by omega
      have d1 : decide ((k : Int) < 0) = false := by simp
      have d2 : decide (t.length < k) = false := by simp; omega
      have d3 : decide (0 < (k : Int)) = false := by simp; omega
      have d4 : decide (0 < k) = false := by simp; omega
      go_wp2_with fail
    all_goals
      rw [extract_drop]
      cases fd
      · refine (indexByte_calls (t.drop k) (-1) _ (by rw [HIB.out]; rfl)).mono ?_
        rintro e w3 ⟨rfl, hw3⟩
        subst hw3
        clear d1 d2
        go_wp2
        go_ret
        exact ⟨rfl, HB3.out⟩
      · refine (indexByte_calls (t.drop k) q _ (by rw [HIB.out]; rfl)).mono ?_
        rintro e w3 ⟨rfl, hw3⟩
        subst hw3
        have hq2 := HQL.out rfl
        have HR2 := Lib.hid (HK2.out rfl u hul)
        clear d1 d2 HK2 HQL HIB
        go_wp2_with fail
        rw [extract_take, ba_append]
        have hz2 := HB3.out.size
        have hlen : (t.take (k + q + 1) ++ u).length ≤ 21000 := by simp only [List.length_append, List.length_take]; omega
        have hpc := parse_calls (t.take (k + q + 1) ++ u) (w2.alloc (Obj.cells #[.int .i64 s.c, .int .i64 s.a, .slice A s.l.length c] 27)) (hG.below HB3.out hGs) (by omega)
        unfold ParsePost at hpc
        obtain ⟨p', hp'⟩ : ∃ p', p' = parseF (t.take (k + q + 1) ++ u) := ⟨_, rfl⟩
        have hp2 := HR2.out
        rw [← hp'] at hpc hp2
        refine hpc.mono ?_
        clear hpc hp' HR2
        obtain ⟨s', at', er'⟩ := p'
        simp only [Prod.mk.injEq] at hp2
        obtain ⟨rfl, rfl⟩ := hp2
        rintro e w4 ⟨v4, rfl, hR4, hb4⟩
        obtain ⟨A4, c4, hv4⟩ := Kd.R_slice hR4
        subst hv4
        have HB4 : Hid (Below w.heap.size w w4) := Lib.hid (HB3.out.trans (hb4.mono hz2))
        clear hR4 hb4
        go_wp2_with fail
        go_ret
        exact ⟨rfl, HB4.out.alloc HB4.out.size _⟩
end Go.Proofs.YthkheemjgcbofaaDoor

namespace Go.Proofs.YthkheemjgcbofaaDoor
set_option linter.unusedVariables false
set_option linter.unusedSimpArgs false
open Go.RowKit Go.Proofs.YthkheemjgcbofaaDoor.PSc Go.Proofs.YthkheemjgcbofaaDoorW.PrintWords Go.Proofs.YthkheemjgcbofaaDoorW.PrintLast Go.Proofs.YthkheemjgcbofaaDoorW.PrintMore

theorem cells3 {w : World} {b : Nat} {a0 a1 a2 : Value} {T : TypeId} {fr : Nat × Nat} (h : w.heap[b]? = some (.cells #[a0, a1, a2] T fr)) :
    w.cell? ⟨b, 0, none⟩ = some a0 ∧ w.cell? ⟨b, 1, none⟩ = some a1 ∧ w.cell? ⟨b, 2, none⟩ = some a2 :=
  ⟨(blk_cell h 0).trans rfl, (blk_cell h 1).trans rfl, (blk_cell h 2).trans rfl⟩

set_option maxHeartbeats 4000000 in
set_option maxRecDepth 100000 in
theorem scriptSame_walk (s0 s1 : Int) (xs : List S46) (A : Option Addr) (c : Nat) (t0 t1 : Int) (ys : List S46) (B : Option Addr) (d : Nat) (w : World) (hG : Glob w) (_ : I64 s0) (_ : I64 s1) (_ : ∀ y, y ∈ xs → Ok46 y ∧ I64 y.f0) (hr : Kd.C k46 w A xs.length xs) (hc : xs.length ≤ c) (_ : I64 t0) (_ : I64 t1) (_ : ∀ y, y ∈ ys → Ok46 y ∧ I64 y.f0) (hs : Kd.C k46 w B ys.length ys) (hd : ys.length ≤ d) :
    Calls Tryd.prog 4 #[.agg #[.int .i64 s0, .int .i64 s1, .slice A xs.length c], .agg #[.int .i64 t0, .int .i64 t1, .slice B ys.length d]] w fun e w' => e = .returned (.bool true) ∧ Below w.heap.size w w' := by
  have hGs := hG.size
  obtain ⟨wa, hwa⟩ : ∃ W, W = (w.alloc (.cells #[.int .i64 s0, .int .i64 s1, .slice A xs.length c] 27 (0, 0))).alloc (.cells #[.int .i64 t0, .int .i64 t1, .slice B ys.length d] 27 (0, 0)) := ⟨_, rfl⟩
  have hba : Below w.heap.size w wa := by rw [hwa]; exact (Below.alloc (Below.refl _ _) (Nat.le_refl _) _).alloc (by simp) _
  have HX : Hid (wa.heap[w.heap.size]? = some (.cells #[.int .i64 s0, .int .i64 s1, .slice A xs.length c] 27 (0, 0))) := Lib.hid (by rw [hwa]; exact blk_alloc (blk_new w _) _)
  have HY : Hid (wa.heap[w.heap.size + 1]? = some (.cells #[.int .i64 t0, .int .i64 t1, .slice B ys.length d] 27 (0, 0))) := Lib.hid (by rw [hwa]; exact blk_at _ _ (by simp))
  have HBA := Lib.hid hba
  have HW := Lib.hid (wakes_calls wa (hG.below hba hGs))
  have HR := Lib.hid (Kd.C_below hr hba)
  have HS := Lib.hid (Kd.C_below hs hba)
  have HR0 := Lib.hid hr
  have HS0 := Lib.hid hs
  have hza : w.heap.size + 2 ≤ wa.heap.size := blk_lt HY.out
  clear hba hr hs
  go_enter Tryd.func4, Tryd.ntmps4
  go_upto_region 1 with (fail)
  rw [← hwa]
  clear hwa
  go_wp2_with fail
  refine HW.out.mono ?_
  rintro e w1 ⟨rfl, hb1⟩
  have HX1 := Lib.hid (blk_below HX.out hb1)
  have HY1 := Lib.hid (blk_below HY.out hb1)
  have HR1 := Lib.hid (Kd.C_below HR.out hb1)
  have HS1 := Lib.hid (Kd.C_below HS.out hb1)
  have HB1 := Lib.hid (HBA.out.trans (hb1.mono (by omega)))
  have hz1 : wa.heap.size ≤ w1.heap.size := hb1.size
  clear hb1 HW HX HY HR HS HBA
  go_wp2_with fail
  have N01 : ¬ w.heap.size + 1 = w.heap.size := by omega
  have N10 : ¬ w.heap.size = w.heap.size + 1 := by omega
  have HFX := Lib.hid (fun (W : World) (hW : Below w.heap.size w W) => few_calls xs s0 s1 A c w W HR0.out hc hW)
  have HFY := Lib.hid (fun (W : World) (hW : Below w.heap.size w W) => few_calls ys t0 t1 B d w W HS0.out hd hW)
  obtain ⟨kx0, kx1, kx2⟩ := cells3 HX1.out
  obtain ⟨ky0, ky1, ky2⟩ := cells3 HY1.out
  refine start_ (n := 6) (S := fun w' => w'.cell? ⟨w.heap.size, 0, none⟩ = some (.int .i64 s0) ∧ w'.cell? ⟨w.heap.size, 1, none⟩ = some (.int .i64 s1) ∧ w'.cell? ⟨w.heap.size, 2, none⟩ = some (.slice A xs.length c) ∧ w'.cell? ⟨w.heap.size + 1, 0, none⟩ = some (.int .i64 t0) ∧ w'.cell? ⟨w.heap.size + 1, 1, none⟩ = some (.int .i64 t1) ∧ w'.cell? ⟨w.heap.size + 1, 2, none⟩ = some (.slice B ys.length d)) (ds := [4, 5]) #[false, false, false, false, false, false] (by kernel_rfl) rfl rfl ⟨kx0, kx1, kx2, ky0, ky1, ky2⟩ (fun hHeld => ?_)
  refine take_ (i := 0) (N := some 7) (v := ?_) (a' := ?_) #[true, false, false, false, false, false] rfl rfl (by kernel_rfl) (fun _ _ _ h => h) (Or.inl ⟨by rfl, ?_⟩) hHeld ?_ ?_
  rotate_left
  · rintro w' ⟨s0, s1, s2, s3, s4, s5⟩
    go_simp
    with_reducible rfl
  rotate_left
  · simp only [Act.put, List.setIfInBounds_toArray, List.set_cons_zero, List.set_cons_succ, i64_w, i32_w]
    rfl
  refine take_ (i := 2) (N := some 9) (v := ?_) (a' := ?_) #[true, false, true, false, false, false] rfl rfl (by kernel_rfl) (fun _ _ _ h => h) (Or.inl ⟨by rfl, ?_⟩) hHeld ?_ ?_
  rotate_left
  · rintro w' ⟨s0, s1, s2, s3, s4, s5⟩
    go_simp
    with_reducible rfl
  rotate_left
  · simp only [Act.put, List.setIfInBounds_toArray, List.set_cons_zero, List.set_cons_succ, i64_w, i32_w]
    rfl
  refine one_ (i := 1) (N := some 8) #[true, true, true, false, false, false] rfl rfl (by kernel_rfl) (by decide) (fun K hK => ?_)
  refine goes_ Tryd.func10 (by kernel_rfl) rfl #[.agg #[.int .i64 s0, .int .i64 s1, .slice A xs.length c]] (by rfl) rfl rfl (by simp only [List.map_toArray, List.map_cons, List.map_nil]; rfl) ?_
  with_reducible refine (HFX.out _ HB1.out.drew).mono ?_
  rintro e w2 ⟨A2, c2, rfl, hl2, hF2, hB2⟩
  refine ⟨_, rfl, ?_⟩
  have HX2 := Lib.hid (blk_below (blk_drew HX1.out) hB2)
  have HY2 := Lib.hid (blk_below (blk_drew HY1.out) hB2)
  have HF2 : Hid (Kd.F k46 w2 (fun k => k ≠ w.heap.size ∧ k ≠ w.heap.size + 1) A2 (fewF xs).length (fewF xs)) := Lib.hid (Kd.F_mono hF2 (fun k hk => by rcases hk with hk | hk; omega; have hk2 : w1.heap.size ≤ k := hk; omega))
  have HL2 := Lib.hid hl2
  have hz2 : w1.heap.size ≤ w2.heap.size := hB2.size
  have HB2 := Lib.hid (HB1.out.drew.trans (hB2.mono (by show w.heap.size ≤ w1.heap.size; omega)))
  clear hB2 hF2 hl2
  refine hK.out _ _ ⟨(cells3 HX2.out).1, (cells3 HX2.out).2.1, (cells3 HX2.out).2.2, (cells3 HY2.out).1, (cells3 HY2.out).2.1, (cells3 HY2.out).2.2⟩ (fun hHeld => ?_)
  clear hK K
  refine norm_ (a' := ?_) ?_ ?_
  rotate_left
  · show Act.put _ (some 8) _ = _
    simp only [Act.put, List.setIfInBounds_toArray, List.set_cons_zero, List.set_cons_succ, i64_w, i32_w]
    rfl
  refine one_ (i := 3) (N := some 10) #[true, true, true, true, false, false] rfl rfl (by kernel_rfl) (by decide) (fun K hK => ?_)
  refine goes_ Tryd.func10 (by kernel_rfl) rfl #[.agg #[.int .i64 t0, .int .i64 t1, .slice B ys.length d]] (by rfl) rfl rfl (by simp only [List.map_toArray, List.map_cons, List.map_nil]; rfl) ?_
  with_reducible refine (HFY.out _ HB2.out).mono ?_
  rintro e w3 ⟨A3, c3, rfl, hl3, hF3, hB3⟩
  refine ⟨_, rfl, ?_⟩
  have HX3 := Lib.hid (blk_below HX2.out hB3)
  have HY3 := Lib.hid (blk_below HY2.out hB3)
  have HF3 := Lib.hid (Kd.F_below HF2.out hB3)
  have HH3 : Hid (Kd.F k46 w3 (fun k => k ≠ w.heap.size ∧ k ≠ w.heap.size + 1) A3 (fewF ys).length (fewF ys)) := Lib.hid (Kd.F_mono hF3 (fun k hk => by rcases hk with hk | hk <;> omega))
  have HL3 := Lib.hid hl3
  have hz3 : w2.heap.size ≤ w3.heap.size := hB3.size
  have HB3 := Lib.hid (HB2.out.trans (hB3.mono (by omega)))
  have fx0 := blk_free HX3.out 0
  have fx1 := blk_free HX3.out 1
  have fx2 := blk_free HX3.out 2
  have fy0 := blk_free HY3.out 0
  have fy1 := blk_free HY3.out 1
  have fy2 := blk_free HY3.out 2
  clear hB3 hF3 hl3
  refine hK.out _ _ ⟨(cells3 HX3.out).1, (cells3 HX3.out).2.1, (cells3 HX3.out).2.2, (cells3 HY3.out).1, (cells3 HY3.out).2.1, (cells3 HY3.out).2.2⟩ (fun hHeld => ?_)
  clear hK K
  refine norm_ (a' := ?_) ?_ ?_
  rotate_left
  · show Act.put _ (some 10) _ = _
    simp only [Act.put, List.setIfInBounds_toArray, List.set_cons_zero, List.set_cons_succ, i64_w, i32_w]
    rfl
  refine last_ (i := 4) (N := none) #[true, true, true, true, true, false] rfl rfl (by kernel_rfl) (by decide) (fun K hK => ?_)
  refine skip_ (w1 := ?_) (by rfl) rfl ?_ ?_
  rotate_left
  · go_simp
    rfl
  refine hK.out _ _ ?_
  clear hK K
  refine last_ (i := 5) (N := none) #[true, true, true, true, true, true] rfl rfl (by kernel_rfl) (by decide) (fun K hK => ?_)
  refine skip_ (w1 := ?_) (by rfl) rfl ?_ ?_
  rotate_left
  · go_simp
    rfl
  refine hK.out _ _ ?_
  clear hK K
  refine done_ (by kernel_rfl) ?_
  obtain ⟨w4, hw4⟩ : ∃ W, W = (((((w3.setCell ⟨w.heap.size, 0, none⟩ (.int .i64 s0)).setCell ⟨w.heap.size, 1, none⟩ (.int .i64 s1)).setCell ⟨w.heap.size, 2, none⟩ (.slice A2 (fewF xs).length c2)).setCell ⟨w.heap.size + 1, 0, none⟩ (.int .i64 t0)).setCell ⟨w.heap.size + 1, 1, none⟩ (.int .i64 t1)).setCell ⟨w.heap.size + 1, 2, none⟩ (.slice A3 (fewF ys).length c3) := ⟨_, rfl⟩
  have HX4 : Hid (w4.heap[w.heap.size]? = some (.cells #[.int .i64 s0, .int .i64 s1, .slice A2 (fewF xs).length c2] 27 (0, 0))) := Lib.hid (by
    rw [hw4]
    exact blk_far (blk_far (blk_far (blk_set (blk_set (blk_set HX3.out 0 _) 1 _) 2 _) (by simp) _) (by simp) _) (by simp) _)
  have HY4 : Hid (w4.heap[w.heap.size + 1]? = some (.cells #[.int .i64 t0, .int .i64 t1, .slice A3 (fewF ys).length c3] 27 (0, 0))) := Lib.hid (by
    rw [hw4]
    exact blk_set (blk_set (blk_set (blk_far (blk_far (blk_far HY3.out (by simp) _) (by simp) _) (by simp) _) 0 _) 1 _) 2 _)
  have HB4 : Hid (Below w.heap.size w w4) := Lib.hid (by
    rw [hw4]
    exact (((((HB3.out.setCell (by simp) _).setCell (by simp) _).setCell (by simp) _).setCell (by simp) _).setCell (by simp) _).setCell (by simp) _)
  have hFX4 : Kd.C k46 w4 A2 (fewF xs).length (fewF xs) := by
    rw [hw4]
    exact Kd.F_now (Kd.F_far (Kd.F_far (Kd.F_far (Kd.F_far (Kd.F_far (Kd.F_far HF3.out (fun k hk => hk.1) _) (fun k hk => hk.1) _) (fun k hk => hk.1) _) (fun k hk => hk.2) _) (fun k hk => hk.2) _) (fun k hk => hk.2) _)
  have hFY4 : Kd.C k46 w4 A3 (fewF ys).length (fewF ys) := by
    rw [hw4]
    exact Kd.F_now (Kd.F_far (Kd.F_far (Kd.F_far (Kd.F_far (Kd.F_far (Kd.F_far HH3.out (fun k hk => hk.1) _) (fun k hk => hk.1) _) (fun k hk => hk.1) _) (fun k hk => hk.2) _) (fun k hk => hk.2) _) (fun k hk => hk.2) _)
  rw [← hw4]
  clear hw4
  obtain ⟨rr, hrr⟩ : ∃ rr, rr = sameF (s0, s1, fewF xs) (t0, t1, fewF ys) := ⟨_, rfl⟩
  have hSM := fun (W : World) (hW : Below w4.heap.size w4 W) => Same_calls s0 s1 (fewF xs) A2 c2 t0 t1 (fewF ys) A3 c3 W (Kd.C_below hFX4 hW) HL2.out (Kd.C_below hFY4 hW) HL3.out
  have hRS := fun (W : World) (hW : Below w4.heap.size w4 W) => rSame_calls s0 s1 (fewF xs) A2 c2 t0 t1 (fewF ys) A3 c3 W (Kd.C_below hFX4 hW) HL2.out (Kd.C_below hFY4 hW) HL3.out (few_keep xs)
  rw [← hrr] at hSM hRS
  have HSM := Lib.hid hSM
  have HRS := Lib.hid hRS
  have HCP := Lib.hid (fun (W : World) (hW : Below w4.heap.size w4 W) => copied_calls (fewF xs) s0 s1 A2 c2 W (Kd.C_below hFX4 hW) HL2.out (few_len xs) (few_keep xs))
  have hSC := fun (W : World) (A7 : Option Addr) (c7 : Nat) (hW : Below w4.heap.size w4 W) (h7 : Kd.C k46 W A7 (fewF xs).length (fewF xs)) (hl7 : (fewF xs).length ≤ c7) => Same_calls s0 s1 (fewF xs) A2 c2 s0 s1 (fewF xs) A7 c7 W (Kd.C_below hFX4 hW) HL2.out h7 hl7
  rw [sameF_self] at hSC
  have HSC := Lib.hid hSC
  have hz4 : w.heap.size ≤ w4.heap.size := HB4.out.size
  clear hrr hSM hRS hSC hFX4 hFY4 fx0 fx1 fx2 fy0 fy1 fy2 kx0 kx1 kx2 ky0 ky1 ky2
  obtain ⟨px0, px1, px2⟩ := cells3 HX4.out
  obtain ⟨py0, py1, py2⟩ := cells3 HY4.out
  go_wp2_with fail
  refine start_ (n := 14) (S := fun w' => w'.cell? ⟨w.heap.size, 0, none⟩ = some (.int .i64 s0) ∧ w'.cell? ⟨w.heap.size, 1, none⟩ = some (.int .i64 s1) ∧ w'.cell? ⟨w.heap.size, 2, none⟩ = some (.slice A2 (fewF xs).length c2) ∧ w'.cell? ⟨w.heap.size + 1, 0, none⟩ = some (.int .i64 t0) ∧ w'.cell? ⟨w.heap.size + 1, 1, none⟩ = some (.int .i64 t1) ∧ w'.cell? ⟨w.heap.size + 1, 2, none⟩ = some (.slice A3 (fewF ys).length c3)) (ds := []) #[false, false, false, false, false, false, false, false, false, false, false, false, false, false] (by kernel_rfl) rfl rfl ⟨px0, px1, px2, py0, py1, py2⟩ (fun hHeld => ?_)
  refine take_ (i := 0) (N := some 11) (v := ?_) (a' := ?_) #[true, false, false, false, false, false, false, false, false, false, false, false, false, false] rfl rfl (by kernel_rfl) (fun _ _ _ h => h) (Or.inl ⟨by rfl, ?_⟩) hHeld ?_ ?_
  rotate_left
  · rintro w' ⟨s0, s1, s2, s3, s4, s5⟩
    go_simp
    with_reducible rfl
  rotate_left
  · simp only [Act.put, List.setIfInBounds_toArray, List.set_cons_zero, List.set_cons_succ, i64_w, i32_w]
    rfl
  refine take_ (i := 1) (N := some 12) (v := ?_) (a' := ?_) #[true, true, false, false, false, false, false, false, false, false, false, false, false, false] rfl rfl (by kernel_rfl) (fun _ _ _ h => h) (Or.inl ⟨by rfl, ?_⟩) hHeld ?_ ?_
  rotate_left
  · rintro w' ⟨s0, s1, s2, s3, s4, s5⟩
    go_simp
    with_reducible rfl
  rotate_left
  · simp only [Act.put, List.setIfInBounds_toArray, List.set_cons_zero, List.set_cons_succ, i64_w, i32_w]
    rfl
  refine take_ (i := 3) (N := some 14) (v := ?_) (a' := ?_) #[true, true, false, true, false, false, false, false, false, false, false, false, false, false] rfl rfl (by kernel_rfl) (fun _ _ _ h => h) (Or.inl ⟨by rfl, ?_⟩) hHeld ?_ ?_
  rotate_left
  · rintro w' ⟨s0, s1, s2, s3, s4, s5⟩
    go_simp
    with_reducible rfl
  rotate_left
  · simp only [Act.put, List.setIfInBounds_toArray, List.set_cons_zero, List.set_cons_succ, i64_w, i32_w]
    rfl
  refine take_ (i := 4) (N := some 15) (v := ?_) (a' := ?_) #[true, true, false, true, true, false, false, false, false, false, false, false, false, false] rfl rfl (by kernel_rfl) (fun _ _ _ h => h) (Or.inl ⟨by rfl, ?_⟩) hHeld ?_ ?_
  rotate_left
  · rintro w' ⟨s0, s1, s2, s3, s4, s5⟩
    go_simp
    with_reducible rfl
  rotate_left
  · simp only [Act.put, List.setIfInBounds_toArray, List.set_cons_zero, List.set_cons_succ, i64_w, i32_w]
    rfl
  refine one_ (i := 2) (N := some 13) #[true, true, true, true, true, false, false, false, false, false, false, false, false, false] rfl rfl (by kernel_rfl) (by decide) (fun K hK => ?_)
  refine goes_ Tryd.func11 (by kernel_rfl) rfl #[.agg #[.int .i64 s0, .int .i64 s1, .slice A2 (fewF xs).length c2], .agg #[.int .i64 t0, .int .i64 t1, .slice A3 (fewF ys).length c3]] (by rfl) rfl rfl (by simp only [List.map_toArray, List.map_cons, List.map_nil]; rfl) ?_
  with_reducible refine (HSM.out _ (Below.refl w4.heap.size w4).drew).mono ?_
  rintro e w5 ⟨rfl, hb5⟩
  refine ⟨_, rfl, ?_⟩
  have HBB5 : Hid (Below w4.heap.size w4 w5) := Lib.hid ((Below.refl w4.heap.size w4).drew.trans (hb5.mono (by exact Nat.le_refl _)))
  clear hb5
  refine hK.out _ _ ⟨(cells3 (blk_below HX4.out HBB5.out)).1, (cells3 (blk_below HX4.out HBB5.out)).2.1, (cells3 (blk_below HX4.out HBB5.out)).2.2, (cells3 (blk_below HY4.out HBB5.out)).1, (cells3 (blk_below HY4.out HBB5.out)).2.1, (cells3 (blk_below HY4.out HBB5.out)).2.2⟩ (fun hHeld => ?_)
  clear hK K
  refine norm_ (a' := ?_) ?_ ?_
  rotate_left
  · show Act.put _ (some 13) _ = _
    simp only [Act.put, List.setIfInBounds_toArray, List.set_cons_zero, List.set_cons_succ, i64_w, i32_w]
    rfl
  refine one_ (i := 5) (N := some 16) #[true, true, true, true, true, true, false, false, false, false, false, false, false, false] rfl rfl (by kernel_rfl) (by decide) (fun K hK => ?_)
  refine goes_ Tryd.func12 (by kernel_rfl) rfl #[.agg #[.int .i64 s0, .int .i64 s1, .slice A2 (fewF xs).length c2], .agg #[.int .i64 t0, .int .i64 t1, .slice A3 (fewF ys).length c3]] (by rfl) rfl rfl (by simp only [List.map_toArray, List.map_cons, List.map_nil]; rfl) ?_
  with_reducible refine (HRS.out _ HBB5.out).mono ?_
  rintro e w6 ⟨rfl, hb6⟩
  refine ⟨_, rfl, ?_⟩
  have HBB6 : Hid (Below w4.heap.size w4 w6) := Lib.hid (HBB5.out.trans (hb6.mono (by exact HBB5.out.size)))
  clear hb6
  refine hK.out _ _ ⟨(cells3 (blk_below HX4.out HBB6.out)).1, (cells3 (blk_below HX4.out HBB6.out)).2.1, (cells3 (blk_below HX4.out HBB6.out)).2.2, (cells3 (blk_below HY4.out HBB6.out)).1, (cells3 (blk_below HY4.out HBB6.out)).2.1, (cells3 (blk_below HY4.out HBB6.out)).2.2⟩ (fun hHeld => ?_)
  clear hK K
  refine norm_ (a' := ?_) ?_ ?_
  rotate_left
  · show Act.put _ (some 16) _ = _
    simp only [Act.put, List.setIfInBounds_toArray, List.set_cons_zero, List.set_cons_succ, i64_w, i32_w]
    rfl
  refine pure_ (i := 6) (N := some 17) (v := ?_) (a' := ?_) #[true, true, true, true, true, true, true, false, false, false, false, false, false, false] rfl rfl (by kernel_rfl) (fun _ _ _ h => h) (Or.inl ⟨by rfl, ?_⟩) ?_ ?_
  rotate_left
  · intro w'
    go_simp
    with_reducible rfl
  rotate_left
  · simp only [Act.put, List.setIfInBounds_toArray, List.set_cons_zero, List.set_cons_succ, i64_w, i32_w]
    rfl
  refine pure_ (i := 7) (N := some 18) (v := ?_) (a' := ?_) #[true, true, true, true, true, true, true, true, false, false, false, false, false, false] rfl rfl (by kernel_rfl) (fun _ _ _ h => h) (Or.inl ⟨by rfl, ?_⟩) ?_ ?_
  rotate_left
  · intro w'
    go_simp
    with_reducible rfl
  rotate_left
  · simp only [Act.put, List.setIfInBounds_toArray, List.set_cons_zero, List.set_cons_succ, i64_w, i32_w]
    rfl
  refine take_ (i := 8) (N := some 19) (v := ?_) (a' := ?_) #[true, true, true, true, true, true, true, true, true, false, false, false, false, false] rfl rfl (by kernel_rfl) (fun _ _ _ h => h) (Or.inl ⟨by rfl, ?_⟩) hHeld ?_ ?_
  rotate_left
  · rintro w' ⟨s0, s1, s2, s3, s4, s5⟩
    go_simp
    with_reducible rfl
  rotate_left
  · simp only [Act.put, List.setIfInBounds_toArray, List.set_cons_zero, List.set_cons_succ, i64_w, i32_w]
    rfl
  refine take_ (i := 9) (N := some 20) (v := ?_) (a' := ?_) #[true, true, true, true, true, true, true, true, true, true, false, false, false, false] rfl rfl (by kernel_rfl) (fun _ _ _ h => h) (Or.inl ⟨by rfl, ?_⟩) hHeld ?_ ?_
  rotate_left
  · rintro w' ⟨s0, s1, s2, s3, s4, s5⟩
    go_simp
    with_reducible rfl
  rotate_left
  · simp only [Act.put, List.setIfInBounds_toArray, List.set_cons_zero, List.set_cons_succ, i64_w, i32_w]
    rfl
  refine one_ (i := 10) (N := some 21) #[true, true, true, true, true, true, true, true, true, true, true, false, false, false] rfl rfl (by kernel_rfl) (by decide) (fun K hK => ?_)
  refine goes_ Tryd.func13 (by kernel_rfl) rfl #[.agg #[.int .i64 s0, .int .i64 s1, .slice A2 (fewF xs).length c2]] (by rfl) rfl rfl (by simp only [List.map_toArray, List.map_cons, List.map_nil]; rfl) ?_
  with_reducible refine (HCP.out _ HBB6.out).mono ?_
  rintro e w7 ⟨A7, c7, rfl, hl7, hC7, hb7⟩
  refine ⟨_, rfl, ?_⟩
  have HBB7 : Hid (Below w4.heap.size w4 w7) := Lib.hid (HBB6.out.trans (hb7.mono (by exact HBB6.out.size)))
  have HC7 := Lib.hid hC7
  have HL7 := Lib.hid hl7
  clear hb7 hC7 hl7
  refine hK.out _ _ ⟨(cells3 (blk_below HX4.out HBB7.out)).1, (cells3 (blk_below HX4.out HBB7.out)).2.1, (cells3 (blk_below HX4.out HBB7.out)).2.2, (cells3 (blk_below HY4.out HBB7.out)).1, (cells3 (blk_below HY4.out HBB7.out)).2.1, (cells3 (blk_below HY4.out HBB7.out)).2.2⟩ (fun hHeld => ?_)
  clear hK K
  refine norm_ (a' := ?_) ?_ ?_
  rotate_left
  · show Act.put _ (some 21) _ = _
    simp only [Act.put, List.setIfInBounds_toArray, List.set_cons_zero, List.set_cons_succ, i64_w, i32_w]
    rfl
  refine one_ (i := 11) (N := some 22) #[true, true, true, true, true, true, true, true, true, true, true, true, false, false] rfl rfl (by kernel_rfl) (by decide) (fun K hK => ?_)
  refine goes_ Tryd.func11 (by kernel_rfl) rfl #[.agg #[.int .i64 s0, .int .i64 s1, .slice A2 (fewF xs).length c2], .agg #[.int .i64 s0, .int .i64 s1, .slice A7 (fewF xs).length c7]] (by rfl) rfl rfl (by simp only [List.map_toArray, List.map_cons, List.map_nil]; rfl) ?_
  with_reducible refine (HSC.out _ _ _ HBB7.out HC7.out HL7.out).mono ?_
  rintro e w8 ⟨rfl, hb8⟩
  refine ⟨_, rfl, ?_⟩
  have HBB8 : Hid (Below w4.heap.size w4 w8) := Lib.hid (HBB7.out.trans (hb8.mono (by exact HBB7.out.size)))
  clear hb8
  refine hK.out _ _ ⟨(cells3 (blk_below HX4.out HBB8.out)).1, (cells3 (blk_below HX4.out HBB8.out)).2.1, (cells3 (blk_below HX4.out HBB8.out)).2.2, (cells3 (blk_below HY4.out HBB8.out)).1, (cells3 (blk_below HY4.out HBB8.out)).2.1, (cells3 (blk_below HY4.out HBB8.out)).2.2⟩ (fun hHeld => ?_)
  clear hK K
  refine norm_ (a' := ?_) ?_ ?_
  rotate_left
  · show Act.put _ (some 22) _ = _
    simp only [Act.put, List.setIfInBounds_toArray, List.set_cons_zero, List.set_cons_succ, i64_w, i32_w]
    rfl
  refine pure_ (i := 12) (N := some 23) (v := ?_) (a' := ?_) #[true, true, true, true, true, true, true, true, true, true, true, true, true, false] rfl rfl (by kernel_rfl) (fun _ _ _ h => h) (Or.inl ⟨by rfl, ?_⟩) ?_ ?_
  rotate_left
  · intro w'
    go_simp
    with_reducible rfl
  rotate_left
  · simp only [Act.put, List.setIfInBounds_toArray, List.set_cons_zero, List.set_cons_succ, i64_w, i32_w]
    rfl
  refine pure_ (i := 13) (N := some 4) (v := ?_) (a' := ?_) #[true, true, true, true, true, true, true, true, true, true, true, true, true, true] rfl rfl (by kernel_rfl) (fun _ _ _ h => h) (Or.inl ⟨by rfl, ?_⟩) ?_ ?_
  rotate_left
  · intro w'
    go_simp
    with_reducible rfl
  rotate_left
  · simp only [Act.put, List.setIfInBounds_toArray, List.set_cons_zero, List.set_cons_succ, i64_w, i32_w]
    rfl
  refine done_ (by kernel_rfl) ?_
  go_wp2
  go_ret
  exact ⟨rfl, HB4.out.trans (HBB8.out.mono hz4)⟩
end Go.Proofs.YthkheemjgcbofaaDoor
