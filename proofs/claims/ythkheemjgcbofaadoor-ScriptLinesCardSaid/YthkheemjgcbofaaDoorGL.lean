/-
  A text that is wrong at a line is wrong there whatever stands behind the line: the plain law of the loop over lines.
  ScriptLines: the walk.
  ScriptLines: a text that is wrong from a line on is wrong there, whatever stands behind that line: for every two texts the law returns true, and both texts read as before. Conditions: those of the given row (the listed library variables as the program's text lays them, tied by the card).
-/
import Derived.Test.YthkheemjgcbofaaDoorGG
import Derived.Test.YthkheemjgcbofaaDoorGK
import Derived.Test.YthkheemjgcbofaaDoorCards
import Derived.Test.YthkheemjgcbofaaDoorTie
import Derived.SevenTiedAt
import Derived.OpenShut
import Derived.ShutString
import Derived.ChangeOld
import Derived.Below
import Derived.SizedLaws

namespace Go.Proofs.YthkheemjgcbofaaDoor
set_option linter.unusedVariables false
set_option linter.unusedSimpArgs false
open Go.RowKit Go.Proofs.YthkheemjgcbofaaDoor.PSc Go.Proofs.YthkheemjgcbofaaDoorW.PrintWords

theorem cut1_drop (t : By) (h : (cut1 10 t).2.2 = true) : ∀ j, t.drop ((cut1 10 t).1.length + 1 + j) = (cut1 10 t).2.1.drop j := by
  intro j
  rw [(cut1_len 10 t h).2, List.drop_drop]
theorem parseL_line (l : By) (hl : 10 ∉ l) (u : By) (f i n : Nat) (s : Sc) : parseL (f + 1) (l ++ 10 :: u) i n s = if (lineF s l n).1 = true then parseL f u (i + l.length + 1) (n + 1) (lineF s l n).2 else ⟨false, i, n, s⟩ := by
  rw [parseL, if_neg (by simp), cut_eq, cut1_append 10 l u hl]
  simp
theorem take_line (l r : By) (m : Nat) : (l ++ 10 :: r).take (l.length + (m + 1)) = l ++ 10 :: r.take m := by
  rw [List.take_append, List.take_of_length_le (by omega)]
  simp
theorem parseL_wrong (f : Nat) : ∀ (t : By) (i n : Nat) (s : Sc) (a n' : Nat) (s' : Sc), t.length < f → parseL f t i n s = ⟨false, a, n', s'⟩ →
    ∃ k, a = i + k ∧ k ≤ t.length ∧ (0 < k → t.getD (k - 1) 0 = 10) ∧
      ((cut1 10 (t.drop k)).2.2 = true → ∀ (more : By) (f' : Nat), (t.take (k + (cut1 10 (t.drop k)).1.length + 1) ++ more).length < f' →
        parseL f' (t.take (k + (cut1 10 (t.drop k)).1.length + 1) ++ more) i n s = ⟨false, a, n', s'⟩) := by
  induction f with
  | zero => intro t i n s a n' s' h; omega
  | succ f ih =>
    intro t i n s a n' s' hf h
    rw [parseL] at h
    by_cases ht : t = []
    · rw [if_pos ht] at h; injection h with h1; cases h1
    · rw [if_neg ht, cut_eq] at h
      by_cases hc : (cut1 10 t).2.2 = true
      · rw [if_pos hc] at h
        have hfound := cut1_found 10 t hc
        have hmem := cut1_mem 10 t
        have hdrop := cut1_drop t hc
        by_cases hl : (lineF s (cut1 10 t).1 n).1 = true
        · rw [if_pos hl] at h
          generalize hl1 : (cut1 10 t).1 = l at *
          generalize hr1 : (cut1 10 t).2.1 = r at *
          have hlen : t.length = l.length + 1 + r.length := by rw [hfound]; simp; omega
          obtain ⟨k, hk, hkl, hk1, hrest⟩ := ih r _ _ _ _ _ _ (by omega) h
          refine ⟨l.length + 1 + k, by omega, by omega, fun _ => ?_, ?_⟩
          · by_cases h0 : k = 0
            · subst h0
              rw [hfound]
              simp [List.getD_eq_getElem?_getD]
            · have := hk1 (by omega)
              rw [hfound]
              have e : l.length + 1 + k - 1 = l.length + (k - 1 + 1) := by omega
              rw [e]
              rw [List.getD_eq_getElem?_getD, List.getElem?_append_right (by omega)]
              simpa [List.getD_eq_getElem?_getD] using this
          · rw [hdrop k]
            intro hcut more f' hf'
            have e : t.take (l.length + 1 + k + (cut1 10 (r.drop k)).1.length + 1) ++ more = l ++ 10 :: (r.take (k + (cut1 10 (r.drop k)).1.length + 1) ++ more) := by
              have e1 : l.length + 1 + k + (cut1 10 (r.drop k)).1.length + 1 = l.length + (k + (cut1 10 (r.drop k)).1.length + 1 + 1) := by omega
              rw [hfound, e1, take_line]
              simp
            rw [e] at hf' ⊢
            obtain ⟨f', rfl⟩ : ∃ m, f' = m + 1 := ⟨f' - 1, by omega⟩
            rw [parseL_line l hmem, if_pos hl]
            exact hrest hcut more f' (by simp only [List.length_append, List.length_cons] at hf' ⊢; omega)
        · rw [if_neg hl] at h
          injection h with h1 h2 h3 h4
          subst h2 h3 h4
          refine ⟨0, by omega, by omega, fun h => by omega, ?_⟩
          rw [List.drop_zero]
          intro _ more f' hf'
          have e : t.take (0 + (cut1 10 t).1.length + 1) ++ more = (cut1 10 t).1 ++ 10 :: more := by
            generalize cut1 10 t = q at *
            have e1 : 0 + q.1.length + 1 = q.1.length + (0 + 1) := by omega
            rw [hfound, e1, take_line]
            simp
          rw [e] at hf' ⊢
          obtain ⟨f', rfl⟩ : ∃ m, f' = m + 1 := ⟨f' - 1, by omega⟩
          rw [parseL_line _ hmem, if_neg hl]
      · rw [if_neg hc] at h
        injection h with h1 h2 h3 h4
        subst h2 h3 h4
        exact ⟨0, by omega, by omega, fun h => by omega, fun h => by rw [List.drop_zero] at h; exact absurd h hc⟩

/-- The number of lines that were read grows. -/
theorem parseL_n (f : Nat) : ∀ (t : By) (i n : Nat) (s : Sc), n ≤ (parseL f t i n s).n ∧ ((parseL f t i n s).ok = true → t ≠ [] → t.length < f → n < (parseL f t i n s).n) := by
  induction f with
  | zero => intro t i n s; exact ⟨Nat.le_refl _, fun _ _ h => by omega⟩
  | succ f ih =>
    intro t i n s
    rw [parseL]
    split
    · rename_i h; exact ⟨Nat.le_refl _, fun _ h' => absurd h h'⟩
    · split
      · split
        · have h1 := (ih (Lib.cut t [10]).2.1 (i + (Lib.cut t [10]).1.length + 1) (n + 1) (lineF s (Lib.cut t [10]).1 n).2).1
          exact ⟨by omega, fun _ _ _ => by omega⟩
        · exact ⟨Nat.le_refl _, fun h => by cases h⟩
      · exact ⟨Nat.le_refl _, fun h => by cases h⟩

/-- What Parse tells of a text, and of what begins with its lines up to the wrong one. -/
theorem parseF_wrong (text : By) (hl : text.length ≤ 20000) (h0 : (parseF text).2.2 ≠ 0) :
    (parseF text).2.2 = 360 ∧ ∃ k : Nat, (parseF text).2.1 = k ∧ k ≤ text.length ∧ (0 < k → text.getD (k - 1) 0 = 10) ∧
      ((cut1 10 (text.drop k)).2.2 = true → ∀ more : By, more.length ≤ 1000 → (parseF (text.take (k + (cut1 10 (text.drop k)).1.length + 1) ++ more)).2 = ((k : Int), 360)) := by
  unfold parseF at h0 ⊢
  rw [if_neg (by omega)] at h0 ⊢
  simp only at h0 ⊢
  generalize hP : parseL (text.length + 1) text 0 0 sc0 = P at *
  obtain ⟨ok, at_, n, s⟩ := P
  cases ok with
  | false =>
    obtain ⟨k, hk, hkl, hk1, hrest⟩ := parseL_wrong (text.length + 1) text 0 0 sc0 at_ n s (by omega) hP
    simp only [Bool.not_false, Bool.true_or, if_true] at h0 ⊢
    refine ⟨trivial, k, by omega, hkl, hk1, fun hc more hm => ?_⟩
    have hlt : (text.take (k + (cut1 10 (text.drop k)).1.length + 1) ++ more).length ≤ 21000 := by
      simp only [List.length_append, List.length_take]; omega
    rw [if_neg (by omega), hrest hc more _ (Nat.lt_succ_self _)]
    simp; omega
  | true =>
    by_cases hn : n < 1
    · have ht : text = [] := by
        cases text with
        | nil => rfl
        | cons a t =>
          have := (parseL_n ((a :: t).length + 1) (a :: t) 0 0 sc0).2
          rw [hP] at this
          have := this rfl (by simp) (by omega)
          simp only at this
          omega
      subst ht
      simp only [hn, decide_true, Bool.or_true, if_true] at h0 ⊢
      have ha : at_ = 0 := by simp [parseL] at hP; exact hP.1.symm
      subst ha
      exact ⟨trivial, 0, rfl, by simp, fun h => by omega, fun h => by simp [cut1] at h⟩
    · simp [hn] at h0
end Go.Proofs.YthkheemjgcbofaaDoor

namespace Go.Proofs.YthkheemjgcbofaaDoor
set_option linter.unusedVariables false
set_option linter.unusedSimpArgs false
open Go.RowKit Go.Proofs.YthkheemjgcbofaaDoor.PSc Go.Proofs.YthkheemjgcbofaaDoorW.PrintWords

theorem indexByte_cut (c : UInt8) : ∀ l : By, Lib.indexByte l c = if (cut1 c l).2.2 = true then ((cut1 c l).1.length : Int) else -1 := by
  intro l
  induction l with
  | nil => rfl
  | cons b l ih =>
    unfold Lib.indexByte cut1
    by_cases h : b = c
    · simp [h]
    · have hb : (b == c) = false := by simpa using h
      rw [hb, if_neg h, ih]
      by_cases hc : (cut1 c l).2.2 = true
      · simp only [hc, if_true, Bool.false_eq_true, if_false]
        rw [if_neg (by simp)]
        simp
      · simp [hc]
theorem extract_take (l : By) (j : Nat) : (⟨l.toArray⟩ : ByteArray).extract 0 j = ⟨(l.take j).toArray⟩ := by
  apply ba_ext
  rw [Lib.extract_data]
  show (l.drop 0).take (j - 0) = l.take j
  simp

theorem ba_append (l m : By) : (⟨l.toArray⟩ : ByteArray) ++ (⟨m.toArray⟩ : ByteArray) = ⟨(l ++ m).toArray⟩ := by
  apply ba_ext
  simp
theorem indexByte_calls (l : By) (r : Int) (w : World) (h : Lib.indexByte l 10 = r) :
    Calls Tryd.prog 9 #[.string ⟨l.toArray⟩, .int .u8 10] w fun e w' => e = .returned (.int .i64 r) ∧ w' = w := by
  refine (Tryd.strings_IndexByte ⟨l.toArray⟩ 10 w).mono ?_
  rintro e w' ⟨rfl, rfl⟩
  refine ⟨?_, rfl⟩
  rw [← h]
  rfl

set_option maxHeartbeats 2000000 in
set_option maxRecDepth 100000 in
theorem lines_walk (l m : By) (w : World) (hG : Glob w) (hl : l.length ≤ 140737488351232) (hm : m.length ≤ 140737488351232) :
    Calls Tryd.prog 3 #[.string ⟨l.toArray⟩, .string ⟨m.toArray⟩] w fun e w' => e = .returned (.bool true) ∧ Below w.heap.size w w' := by
  have hGs := hG.size
  have HW := Lib.hid (wakes_calls w hG)
  go_enter Tryd.func3, Tryd.ntmps3
  go_wp2_with fail
  refine HW.out.mono ?_
  rintro e w1 ⟨rfl, hb1⟩
  have HB1 := Lib.hid hb1
  clear hb1
  go_wp2_with fail
  go_region
  rw [extract_take, extract_take]
  obtain ⟨t, ht⟩ : ∃ t, t = l.take (min (l.length : Int) 20000).toNat := ⟨_, rfl⟩
  obtain ⟨u, hu⟩ : ∃ u, u = m.take (min (m.length : Int) 1000).toNat := ⟨_, rfl⟩
  have htl : t.length ≤ 20000 := by rw [ht, List.length_take]; omega
  have hul : u.length ≤ 1000 := by rw [hu, List.length_take]; omega
  rw [← ht, ← hu]
  clear ht hu
  go_wp2_with fail
  have hpc := parse_calls t w1.drew (hG.below (Below.drew HB1.out) hGs) (by omega)
  have HPW := Lib.hid (parseF_wrong t htl)
  unfold ParsePost at hpc
  obtain ⟨p, hp⟩ : ∃ p, p = parseF t := ⟨_, rfl⟩
  rw [← hp] at hpc HPW
  refine hpc.mono ?_
  clear hpc hp
  rintro e w2 ⟨v, rfl, hR, hb2⟩
  obtain ⟨A, c, hv⟩ := Kd.R_slice hR
  subst hv
  have HB2 : Hid (Below w.heap.size w w2) := Lib.hid (HB1.out.drew.trans (hb2.mono HB1.out.size))
  clear hR hb2
  obtain ⟨s, at_, er⟩ := p
  simp only at HPW ⊢
  by_cases he : er = 0
  · go_wp2
    go_ret
    refine ⟨rfl, ?_⟩
    exact HB2.out.alloc (by have := HB2.out.size; omega) _
  · obtain ⟨he2, k, hk, hkl, hk1, hk2⟩ := HPW.out he
    obtain rfl : er = 360 := he2
    obtain rfl : at_ = (k : Int) := hk
    have HK2 := Lib.hid hk2
    clear hk2 HPW he
    have HB3 : Hid (Below w.heap.size w (w2.alloc (Obj.cells #[.int .i64 s.c, .int .i64 s.a, .slice A s.l.length c] 27))) := Lib.hid (HB2.out.alloc HB2.out.size _)
    have hib := indexByte_cut 10 (t.drop k)
    obtain ⟨fd, hfd⟩ : ∃ fd, fd = (cut1 10 (t.drop k)).2.2 := ⟨_, rfl⟩
    obtain ⟨q, hq⟩ : ∃ q, q = (cut1 10 (t.drop k)).1.length := ⟨_, rfl⟩
    have hql : fd = true → k + q + 1 ≤ t.length := fun h => by
      have := (cut1_len 10 (t.drop k) (by rw [← hfd]; exact h)).1
      rw [List.length_drop] at this
      omega
    rw [← hfd, ← hq] at hib
    rw [← hfd, ← hq] at HK2
    have HIB := Lib.hid hib
    have HQL := Lib.hid hql
    clear hib hfd hq hql
    by_cases hk0 : 0 < k
    case' pos =>
      have hlt : k - 1 < t.length := by omega
      have hge := hk1 hk0
      have hix : ∀ W : World, (Instr.index 9 (.string ⟨t.toArray⟩) (.int .i64 ((k : Int) - 1))).run Tryd.prog W = .ok (.int .u8 10) W := by
        intro W
        rw [run_index_string W 9 _ _ _ Tryd.underlying9, dif_pos ⟨by omega, by show (k : Int) - 1 < (t.toArray.size : Int); simp; omega⟩]
        congr 2
        have e1 : ((k : Int) - 1).toNat = k - 1 := by omega
        have e2 : (⟨t.toArray⟩ : ByteArray)[k - 1]'(by show k - 1 < t.toArray.size; simpa using hlt) = 10 := by
          show t.toArray[k - 1]'_ = 10
          rw [List.getElem_toArray]
          rw [List.getD_eq_getElem?_getD, List.getElem?_eq_getElem hlt] at hge
          exact hge
        simp only [e1]
        rw [e2]; rfl
      have d1 : decide ((k : Int) < 0) = false := by simp
      have d2 : decide (t.length < k) = false := by simp; omega
      go_wp2_with fail
    case' neg =>
      have hk0' : ¬ 0 < (k : Int) := by omega
      have d1 : decide ((k : Int) < 0) = false := by simp
      have d2 : decide (t.length < k) = false := by simp; omega
      have d3 : decide (0 < (k : Int)) = false := by simp; omega
      have d4 : decide (0 < k) = false := by simp; omega
      go_wp2_with fail
    all_goals
      rw [extract_drop]
      cases fd
      · refine (indexByte_calls (t.drop k) (-1) _ (by rw [HIB.out]; rfl)).mono ?_
        rintro e w3 ⟨rfl, hw3⟩
        subst hw3
        clear d1 d2
        go_wp2
        go_ret
        exact ⟨rfl, HB3.out⟩
      · refine (indexByte_calls (t.drop k) q _ (by rw [HIB.out]; rfl)).mono ?_
        rintro e w3 ⟨rfl, hw3⟩
        subst hw3
        have hq2 := HQL.out rfl
        have HR2 := Lib.hid (HK2.out rfl u hul)
        clear d1 d2 HK2 HQL HIB
        go_wp2_with fail
        rw [extract_take, ba_append]
        have hz2 := HB3.out.size
        have hlen : (t.take (k + q + 1) ++ u).length ≤ 21000 := by simp only [List.length_append, List.length_take]; omega
        have hpc := parse_calls (t.take (k + q + 1) ++ u) (w2.alloc (Obj.cells #[.int .i64 s.c, .int .i64 s.a, .slice A s.l.length c] 27)) (hG.below HB3.out hGs) (by omega)
        unfold ParsePost at hpc
        obtain ⟨p', hp'⟩ : ∃ p', p' = parseF (t.take (k + q + 1) ++ u) := ⟨_, rfl⟩
        have hp2 := HR2.out
        rw [← hp'] at hpc hp2
        refine hpc.mono ?_
        clear hpc hp' HR2
        obtain ⟨s', at', er'⟩ := p'
        simp only [Prod.mk.injEq] at hp2
        obtain ⟨rfl, rfl⟩ := hp2
        rintro e w4 ⟨v4, rfl, hR4, hb4⟩
        obtain ⟨A4, c4, hv4⟩ := Kd.R_slice hR4
        subst hv4
        have HB4 : Hid (Below w.heap.size w w4) := Lib.hid (HB3.out.trans (hb4.mono hz2))
        clear hR4 hb4
        go_wp2_with fail
        go_ret
        exact ⟨rfl, HB4.out.alloc HB4.out.size _⟩
end Go.Proofs.YthkheemjgcbofaaDoor

namespace Go.Proofs.YthkheemjgcbofaaDoor
open Go.ChangeShapes Go.WideShapes Go.ChangeAt Go.RowKit Go.Lib
open Go.ChangeMaps (open_string shut_string)
set_option linter.unusedVariables false

set_option maxRecDepth 100000 in
theorem lines_lifted (os : Os) (started : os.Started) (H : Type) (enc : TypeId × Value → H) (F : Stop.Interp) :
    ReturnsInHanded {} Tryd.checked os 3 .any ((OpenSpec.ofChange Rows.scriptLinesSpec).preRow enc Tryd.prog Tryd.f3 Rows.scriptLinesRow.domain false Rows.scriptLinesRow.laid) (((OpenSpec.ofChange Rows.scriptLinesSpec).at F).post enc Tryd.prog Tryd.f3 false true false false) := by
  refine returnsInHanded_of_row (C := Tryd.checked) (s := OpenSpec.ofChange Rows.scriptLinesSpec) row_own started (by kernel_rfl) Tryd.func3 ?_ ?_
  · have hk : Input.okWideB Tryd.prog ((World.doorLaid Tryd.prog 400 os).forCall (fun _ _ => 0) ⟨#[], #[.string ⟨#[]⟩, .string ⟨#[]⟩], []⟩) 3 ⟨#[], #[.string ⟨#[]⟩, .string ⟨#[]⟩], []⟩ = true := by kernel_rfl
    refine ⟨World.doorLaid Tryd.prog 400 os, fun _ _ => 0, ⟨#[], #[.string ⟨#[]⟩, .string ⟨#[]⟩], []⟩, rfl, World.shaped_of_RefB (by kernel_rfl) (by kernel_rfl), rfl, (Input.okWide_of_okWideB hk).2, ?_, ?_⟩
    · have hw : (DataW.whole enc Tryd.prog ((World.doorLaid Tryd.prog 400 os).forCall (fun _ _ => 0) ⟨#[], #[.string ⟨#[]⟩, .string ⟨#[]⟩], []⟩).memory Tryd.f3.params.toList (OpenSpec.ofChange Rows.scriptLinesSpec).vars false #[Value.string ⟨#[]⟩, .string ⟨#[]⟩].toList 8).map (fun x => (x.1, x.2.1)) =
          some ([.lit (.string []), .lit (.string [])], []) := by kernel_rfl
      obtain ⟨⟨x1, x2, x3⟩, hx, hx1⟩ := Option.map_eq_some_iff.1 hw
      simp only [Prod.mk.injEq] at hx1
      obtain ⟨rfl, rfl⟩ := hx1
      exact OpenSpec.preRow_of_cond 8 hx (by kernel_rfl) (fun k hk => by cases hk) (by kernel_rfl) (door_met os _)
    · exact none_holds _ _
  intro W base args ds gs before hval0 hW _ _ hsz0 hL hS _
  have hG := glob_of_laid hL hS
  have hval : ∀ (j : Nat) t v, Tryd.f3.params[j]? = some t → args[j]? = some v → Value.okWide Tryd.prog W .any base t v := hval0
  have hsz : (DataW.weightsEach Tryd.prog (Tryd.f3.params.toList ++ (OpenSpec.ofChange Rows.scriptLinesSpec).bare.plain.varTypes Tryd.prog) (ds ++ gs)).all (· ≤ reachBytes) = true := hsz0
  have hW' := hW
  obtain ⟨p, q, hA0, hV, rfl, hfz, hnd⟩ := hW
  have hA : DataW.TrodAll enc Tryd.prog W 0 (fun _ => true) true Tryd.f3.params.toList args.toList ds p := hA0
  rw [Tryd.params3] at hA hval hsz
  obtain ⟨v0, vs0, d0, ds0, p0, q0, hargs, rfl, rfl, h0, r0⟩ := trodAll_cons hA
  obtain ⟨v1, vs1, d1, ds1, p1, q1, rfl, rfl, rfl, h1, r1⟩ := trodAll_cons r0
  obtain ⟨rfl, rfl, rfl⟩ := trodAll_nil r1
  obtain rfl : args = #[v0, v1] := by cases args; simp_all
  obtain ⟨rfl, rfl⟩ := trodVars_none hV
  obtain ⟨a0, rfl, rfl, rfl, y0⟩ := open_string Tryd.underlying9 (hval 0 9 v0 rfl rfl) h0
  have w0 : a0.size ≤ 140737488351232 := by
    have z := sized_string hsz (j := 0) (t := 9) rfl rfl
    rw [Array.length_toList] at z
    exact z
  obtain ⟨a1, rfl, rfl, rfl, y1⟩ := open_string Tryd.underlying9 (hval 1 9 v1 rfl rfl) h1
  have w1 : a1.size ≤ 140737488351232 := by
    have z := sized_string hsz (j := 1) (t := 9) rfl rfl
    rw [Array.length_toList] at z
    exact z
  clear hA0 hval0 hsz0 hsz
  obtain ⟨⟨l⟩⟩ := a0
  obtain ⟨⟨m⟩⟩ := a1
  refine (lines_walk l m W hG w0 w1).mono fun e W' ⟨he, bel⟩ => ?_
  subst he
  exact ⟨_, rfl, _, _, _, [], _, [], hW', trodAll_mk1 (shut_bool Tryd.underlying4 _), (trodAll_cons_mk (shut_string Tryd.underlying9 y0) (trodAll_cons_mk (shut_string Tryd.underlying9 y1) trodAll_mk0)), rfl, bel.frame _, fun h => by cases h⟩

theorem lines_said : Rows.ScriptLinesSaid :=
  OpenClaim.holds_of_cond 3 Tryd.f3 rfl rfl rfl rfl rfl rfl rfl ⟨rfl, rfl, rfl, rfl, rfl⟩ rfl rfl rfl rfl rfl (by kernel_rfl) Tryd.func3 (by kernel_rfl)
    (of_decide_eq_true (by kernel_rfl)) (by unfold Func.isWrapper; first | (rw [if_pos (by decide +kernel)]; kernel_rfl) | (rw [if_neg (by decide +kernel)]; exact ⟨rfl, rfl⟩))
    (fun os started H enc _ F => by rw [OpenClaim.pre_eq_preRow]; exact lines_lifted os started H enc F)

/-- The card: the row, its listed variables tied to the program's text. -/
theorem scriptLines_card : Rows.ScriptLinesCardSaid :=
  Claim7.holds_tied_plain_at .later [] [.data, .data, .data, .sentinel, .sentinel] true (true, "42addb4e0bf3af918258e8769f69858169a05968bf4367db2ea6cb46d2cb6f9c") true
    lines_said (fun _ h => by cases h) (by kernel_rfl) (fun _ h => by cases h) scriptLines_row_tie rfl ⟨rfl, rfl⟩ (by kernel_rfl) rfl
    (fun f fn hf hfn => by
      obtain rfl : f = 3 := Option.some.inj ((show Tryd.prog.funcNamed "gazetteer/gazetteerlaw26.ScriptLines" = some 3 by kernel_rfl).symm.trans hf) |>.symm
      obtain rfl : fn = Tryd.f3 := (Option.some.inj (Tryd.func3.symm.trans hfn)).symm
      exact ⟨by kernel_rfl, fun j t ht => by
        rw [Tryd.params3] at ht
        have h9 : t = 9 := by
          rcases j with _ | _ | j
          · simpa using ht.symm
          · simpa using ht.symm
          · simp at ht
        subst h9
        exact (show Tryd.prog.wantsStandIn 9 = false by kernel_rfl)⟩)
    (by kernel_rfl)
#print axioms scriptLines_card
end Go.Proofs.YthkheemjgcbofaaDoor
