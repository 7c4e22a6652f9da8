/-
  A text that is wrong at a line is wrong there whatever stands behind the line: the plain law of the loop over lines.
  ScriptLines: the walk.
  An argument that can be read as data, as the words of this seat's walks: kinds of cells, type by type.
  strconv.FormatUint at base 10.
  The reference's numbers in digits: whole, Number, numbers, OpWord.
  The reference's OpWord; wholes of the program's writer.
  Rows and what is heard, as kinds of cells.
  The lines that are told of an event, as the program lays them.
  Arguments that can be read as data: an event, what is told of it.
-/
import Derived.Test.YthkheemjgcbofaaDoorGG
import Derived.Test.YthkheemjgcbofaaDoorGK
import Derived.Test.YthkheemjgcbofaaDoorPScx0
import Derived.Test.YthkheemjgcbofaaDoorGI
import Derived.Deep.Slices
import Derived.ChangeArms
import Derived.DataReads
import Derived.Test.YthkheemjgcbofaaDoorGA
import Derived.Test.YthkheemjgcbofaaDoorSh2
import Derived.Shelf.Strconv.Itoa3
import Derived.Lib.AppendIntMem
import Derived.Lib.ItoaMem
import Derived.Lib.Walk
import Derived.Test.YthkheemjgcbofaaDoorGH
import Derived.LoopTactic
import Derived.Deep.RegionHeld3
import Derived.Deep.RegionLaw
import Derived.Deep.Cut
import Derived.StillTailTactics

namespace Go.Proofs.YthkheemjgcbofaaDoor
set_option linter.unusedVariables false
set_option linter.unusedSimpArgs false
open Go.RowKit Go.Proofs.YthkheemjgcbofaaDoor.PSc Go.Proofs.YthkheemjgcbofaaDoorW.PrintWords

theorem cut1_drop (t : By) (h : (cut1 10 t).2.2 = true) : ∀ j, t.drop ((cut1 10 t).1.length + 1 + j) = (cut1 10 t).2.1.drop j := by
  intro j
  rw [(cut1_len 10 t h).2, List.drop_drop]
theorem parseL_line (l : By) (hl : 10 ∉ l) (u : By) (f i n : Nat) (s : Sc) : parseL (f + 1) (l ++ 10 :: u) i n s = if (lineF s l n).1 = true then parseL f u (i + l.length + 1) (n + 1) (lineF s l n).2 else ⟨false, i, n, s⟩ := by
  rw [parseL, if_neg (by simp), cut_eq, cut1_append 10 l u hl]
  simp
theorem take_line (l r : By) (m : Nat) : (l ++ 10 :: r).take (l.length + (m + 1)) = l ++ 10 :: r.take m := by
  rw [List.take_append, List.take_of_length_le (by omega)]
  simp
theorem parseL_wrong (f : Nat) : ∀ (t : By) (i n : Nat) (s : Sc) (a n' : Nat) (s' : Sc), t.length < f → parseL f t i n s = ⟨false, a, n', s'⟩ →
    ∃ k, a = i + k ∧ k ≤ t.length ∧ (0 < k → t.getD (k - 1) 0 = 10) ∧
      ((cut1 10 (t.drop k)).2.2 = true → ∀ (more : By) (f' : Nat), (t.take (k + (cut1 10 (t.drop k)).1.length + 1) ++ more).length < f' →
        parseL f' (t.take (k + (cut1 10 (t.drop k)).1.length + 1) ++ more) i n s = ⟨false, a, n', s'⟩) := by
  induction f with
  | zero => intro t i n s a n' s' h; omega
  | succ f ih =>
    intro t i n s a n' s' hf h
    rw [parseL] at h
    by_cases ht : t = []
    · rw [if_pos ht] at h; injection h with h1; cases h1
    · rw [if_neg ht, cut_eq] at h
      by_cases hc : (cut1 10 t).2.2 = true
      · rw [if_pos hc] at h
        have hfound := cut1_found 10 t hc
        have hmem := cut1_mem 10 t
        have hdrop := cut1_drop t hc
        by_cases hl : (lineF s (cut1 10 t).1 n).1 = true
        · rw [if_pos hl] at h
          generalize hl1 : (cut1 10 t).1 = l at *
          generalize hr1 : (cut1 10 t).2.1 = r at *
          have hlen : t.length = l.length + 1 + r.length := by rw [hfound]; simp; omega
          obtain ⟨k, hk, hkl, hk1, hrest⟩ := ih r _ _ _ _ _ _ (by omega) h
          refine ⟨l.length + 1 + k, by omega, by omega, fun _ => ?_, ?_⟩
          · by_cases h0 : k = 0
            · subst h0
              rw [hfound]
              simp [List.getD_eq_getElem?_getD]
            · have := hk1 (by omega)
              rw [hfound]
              have e : l.length + 1 + k - 1 = l.length + (k - 1 + 1) := by omega
              rw [e]
              rw [List.getD_eq_getElem?_getD, List.getElem?_append_right (by omega)]
              simpa [List.getD_eq_getElem?_getD] using this
          · rw [hdrop k]
            intro hcut more f' hf'
            have e : t.take (l.length + 1 + k + (cut1 10 (r.drop k)).1.length + 1) ++ more = l ++ 10 :: (r.take (k + (cut1 10 (r.drop k)).1.length + 1) ++ more) := by
              have e1 : l.length + 1 + k + (cut1 10 (r.drop k)).1.length + 1 = l.length + (k + (cut1 10 (r.drop k)).1.length + 1 + 1) := by omega
              rw [hfound, e1, take_line]
              simp
            rw [e] at hf' ⊢
            obtain ⟨f', rfl⟩ : ∃ m, f' = m + 1 := ⟨f' - 1, by omega⟩
            rw [parseL_line l hmem, if_pos hl]
            exact hrest hcut more f' (by simp only [List.length_append, List.length_cons] at hf' ⊢; omega)
        · rw [if_neg hl] at h
          injection h with h1 h2 h3 h4
          subst h2 h3 h4
          refine ⟨0, by omega, by omega, fun h => by omega, ?_⟩
          rw [List.drop_zero]
          intro _ more f' hf'
          have e : t.take (0 + (cut1 10 t).1.length + 1) ++ more = (cut1 10 t).1 ++ 10 :: more := by
            generalize cut1 10 t = q at *
            have e1 : 0 + q.1.length + 1 = q.1.length + (0 + 1) := by omega
            rw [hfound, e1, take_line]
            simp
          rw [e] at hf' ⊢
          obtain ⟨f', rfl⟩ : ∃ m, f' = m + 1 := ⟨f' - 1, by omega⟩
          rw [parseL_line _ hmem, if_neg hl]
      · rw [if_neg hc] at h
        injection h with h1 h2 h3 h4
        subst h2 h3 h4
        exact ⟨0, by omega, by omega, fun h => by omega, fun h => by rw [List.drop_zero] at h; exact absurd h hc⟩

/-- The number of lines that were read grows. -/
theorem parseL_n (f : Nat) : ∀ (t : By) (i n : Nat) (s : Sc), n ≤ (parseL f t i n s).n ∧ ((parseL f t i n s).ok = true → t ≠ [] → t.length < f → n < (parseL f t i n s).n) := by
  induction f with
  | zero => intro t i n s; exact ⟨Nat.le_refl _, fun _ _ h => by omega⟩
  | succ f ih =>
    intro t i n s
    rw [parseL]
    split
    · rename_i h; exact ⟨Nat.le_refl _, fun _ h' => absurd h h'⟩
    · split
      · split
        · have h1 := (ih (Lib.cut t [10]).2.1 (i + (Lib.cut t [10]).1.length + 1) (n + 1) (lineF s (Lib.cut t [10]).1 n).2).1
          exact ⟨by omega, fun _ _ _ => by omega⟩
        · exact ⟨Nat.le_refl _, fun h => by cases h⟩
      · exact ⟨Nat.le_refl _, fun h => by cases h⟩

/-- What Parse tells of a text, and of what begins with its lines up to the wrong one. -/
theorem parseF_wrong (text : By) (hl : text.length ≤ 20000) (h0 : (parseF text).2.2 ≠ 0) :
    (parseF text).2.2 = 360 ∧ ∃ k : Nat, (parseF text).2.1 = k ∧ k ≤ text.length ∧ (0 < k → text.getD (k - 1) 0 = 10) ∧
      ((cut1 10 (text.drop k)).2.2 = true → ∀ more : By, more.length ≤ 1000 → (parseF (text.take (k + (cut1 10 (text.drop k)).1.length + 1) ++ more)).2 = ((k : Int), 360)) := by
  unfold parseF at h0 ⊢
  rw [if_neg (by omega)] at h0 ⊢
  simp only at h0 ⊢
  generalize hP : parseL (text.length + 1) text 0 0 sc0 = P at *
  obtain ⟨ok, at_, n, s⟩ := P
  cases ok with
  | false =>
    obtain ⟨k, hk, hkl, hk1, hrest⟩ := parseL_wrong (text.length + 1) text 0 0 sc0 at_ n s (by omega) hP
    simp only [Bool.not_false, Bool.true_or, if_true] at h0 ⊢
    refine ⟨trivial, k, by omega, hkl, hk1, fun hc more hm => ?_⟩
    have hlt : (text.take (k + (cut1 10 (text.drop k)).1.length + 1) ++ more).length ≤ 21000 := by
      simp only [List.length_append, List.length_take]; omega
    rw [if_neg (by omega), hrest hc more _ (Nat.lt_succ_self _)]
    simp; omega
  | true =>
    by_cases hn : n < 1
    · have ht : text = [] := by
        cases text with
        | nil => rfl
        | cons a t =>
          have := (parseL_n ((a :: t).length + 1) (a :: t) 0 0 sc0).2
          rw [hP] at this
          have := this rfl (by simp) (by omega)
          simp only at this
          omega
      subst ht
      simp only [hn, decide_true, Bool.or_true, if_true] at h0 ⊢
      have ha : at_ = 0 := by simp [parseL] at hP; exact hP.1.symm
      subst ha
      exact ⟨trivial, 0, rfl, by simp, fun h => by omega, fun h => by simp [cut1] at h⟩
    · simp [hn] at h0
end Go.Proofs.YthkheemjgcbofaaDoor

namespace Go.Proofs.YthkheemjgcbofaaDoor
set_option linter.unusedVariables false
set_option linter.unusedSimpArgs false
open Go.RowKit Go.Proofs.YthkheemjgcbofaaDoor.PSc Go.Proofs.YthkheemjgcbofaaDoorW.PrintWords

theorem indexByte_cut (c : UInt8) : ∀ l : By, Lib.indexByte l c = if (cut1 c l).2.2 = true then ((cut1 c l).1.length : Int) else -1 := by
  intro l
  induction l with
  | nil => rfl
  | cons b l ih =>
    unfold Lib.indexByte cut1
    by_cases h : b = c
    · simp [h]
    · have hb : (b == c) = false := by simpa using h
      rw [hb, if_neg h, ih]
      by_cases hc : (cut1 c l).2.2 = true
      · simp only [hc, if_true, Bool.false_eq_true, if_false]
        rw [if_neg (by simp)]
        simp
      · simp [hc]
theorem extract_take (l : By) (j : Nat) : (⟨l.toArray⟩ : ByteArray).extract 0 j = ⟨(l.take j).toArray⟩ := by
  apply ba_ext
  rw [Lib.extract_data]
  show (l.drop 0).take (j - 0) = l.take j
  simp

theorem ba_append (l m : By) : (⟨l.toArray⟩ : ByteArray) ++ (⟨m.toArray⟩ : ByteArray) = ⟨(l ++ m).toArray⟩ := by
  apply ba_ext
  simp
theorem indexByte_calls (l : By) (r : Int) (w : World) (h : Lib.indexByte l 10 = r) :
    Calls Tryd.prog 9 #[.string ⟨l.toArray⟩, .int .u8 10] w fun e w' => e = .returned (.int .i64 r) ∧ w' = w := by
  refine (Tryd.strings_IndexByte ⟨l.toArray⟩ 10 w).mono ?_
  rintro e w' ⟨rfl, rfl⟩
  refine ⟨?_, rfl⟩
  rw [← h]
  rfl

set_option maxHeartbeats 2000000 in
set_option maxRecDepth 100000 in
theorem lines_walk (l m : By) (w : World) (hG : Glob w) (hl : l.length ≤ 140737488351232) (hm : m.length ≤ 140737488351232) :
    Calls Tryd.prog 3 #[.string ⟨l.toArray⟩, .string ⟨m.toArray⟩] w fun e w' => e = .returned (.bool true) ∧ Below w.heap.size w w' := by
  have hGs := hG.size
  have HW := Lib.hid (wakes_calls w hG)
  go_enter Tryd.func3, Tryd.ntmps3
  go_wp2_with fail
  refine HW.out.mono ?_
  rintro e w1 ⟨rfl, hb1⟩
  have HB1 := Lib.hid hb1
  clear hb1
  go_wp2_with fail
  go_region
  rw [extract_take, extract_take]
  obtain ⟨t, ht⟩ : ∃ t, t = l.take (min (l.length : Int) 20000).toNat := ⟨_, rfl⟩
  obtain ⟨u, hu⟩ : ∃ u, u = m.take (min (m.length : Int) 1000).toNat := ⟨_, rfl⟩
  have htl : t.length ≤ 20000 := by rw [ht, List.length_take]; omega
  have hul : u.length ≤ 1000 := by rw [hu, List.length_take]; omega
  rw [← ht, ← hu]
  clear ht hu
  go_wp2_with fail
  have hpc := parse_calls t w1.drew (hG.below (Below.drew HB1.out) hGs) (by omega)
  have HPW := Lib.hid (parseF_wrong t htl)
  unfold ParsePost at hpc
  obtain ⟨p, hp⟩ : ∃ p, p = parseF t := ⟨_, rfl⟩
  rw [← hp] at hpc HPW
  refine hpc.mono ?_
  clear hpc hp
  rintro e w2 ⟨v, rfl, hR, hb2⟩
  obtain ⟨A, c, hv⟩ := Kd.R_slice hR
  subst hv
  have HB2 : Hid (Below w.heap.size w w2) := Lib.hid (HB1.out.drew.trans (hb2.mono HB1.out.size))
  clear hR hb2
  obtain ⟨s, at_, er⟩ := p
  simp only at HPW ⊢
  by_cases he : er = 0
  · go_wp2
    go_ret
    refine ⟨rfl, ?_⟩
    exact HB2.out.alloc (by have := HB2.out.size; omega) _
  · obtain ⟨he2, k, hk, hkl, hk1, hk2⟩ := HPW.out he
    obtain rfl : er = 360 := he2
    obtain rfl : at_ = (k : Int) := hk
    have HK2 := Lib.hid hk2
    clear hk2 HPW he
    have HB3 : Hid (Below w.heap.size w (w2.alloc (Obj.cells #[.int .i64 s.c, .int .i64 s.a, .slice A s.l.length c] 27))) := Lib.hid (HB2.out.alloc HB2.out.size _)
    have hib := indexByte_cut 10 (t.drop k)
    obtain ⟨fd, hfd⟩ : ∃ fd, fd = (cut1 10 (t.drop k)).2.2 := ⟨_, rfl⟩
    obtain ⟨q, hq⟩ : ∃ q, q = (cut1 10 (t.drop k)).1.length := ⟨_, rfl⟩
    have hql : fd = true → k + q + 1 ≤ t.length := fun h => by
      have := (cut1_len 10 (t.drop k) (by rw [← hfd]; exact h)).1
      rw [List.length_drop] at this
      omega
    rw [← hfd, ← hq] at hib
    rw [← hfd, ← hq] at HK2
    have HIB := Lib.hid hib
    have HQL := Lib.hid hql
    clear hib hfd hq hql
    by_cases hk0 : 0 < k
    case' pos =>
      have hlt : k - 1 < t.length := by omega
      have hge := hk1 hk0
      have hix : ∀ W : World, (Instr.index 9 (.string ⟨t.toArray⟩) (.int .i64 ((k : Int) - 1))).run Tryd.prog W = .ok (.int .u8 10) W := by
        intro W
        rw [run_index_string W 9 _ _ _ Tryd.underlying9, dif_pos ⟨by omega, by show (k : Int) - 1 < (t.toArray.size : Int); simp; omega⟩]
        congr 2
        have e1 : ((k : Int) - 1).toNat = k - 1 := by omega
        have e2 : (⟨t.toArray⟩ : ByteArray)[k - 1]'(by show k - 1 < t.toArray.size; simpa using hlt) = 10 := by
          show t.toArray[k - 1]'_ = 10
          rw [List.getElem_toArray]
          rw [List.getD_eq_getElem?_getD, List.getElem?_eq_getElem hlt] at hge
          exact hge
        simp only [e1]
        rw [e2]; rfl
      have d1 : decide ((k : Int) < 0) = false := by simp
      have d2 : decide (t.length < k) = false := by simp; omega
      go_wp2_with fail
    case' neg =>
      have hk0' : ¬ 0 < (k : Int) := by omega
      have d1 : decide ((k : Int) < 0) = false := by simp
      have d2 : decide (t.length < k) = false := by simp; omega
      have d3 : decide (0 < (k : Int)) = false := by simp; omega
      have d4 : decide (0 < k) = false := by simp; omega
      go_wp2_with fail
    all_goals
      rw [extract_drop]
      cases fd
      · refine (indexByte_calls (t.drop k) (-1) _ (by rw [HIB.out]; rfl)).mono ?_
        rintro e w3 ⟨rfl, hw3⟩
        subst hw3
        clear d1 d2
        go_wp2
        go_ret
        exact ⟨rfl, HB3.out⟩
      · refine (indexByte_calls (t.drop k) q _ (by rw [HIB.out]; rfl)).mono ?_
        rintro e w3 ⟨rfl, hw3⟩
        subst hw3
        have hq2 := HQL.out rfl
        have HR2 := Lib.hid (HK2.out rfl u hul)
        clear d1 d2 HK2 HQL HIB
        go_wp2_with fail
        rw [extract_take, ba_append]
        have hz2 := HB3.out.size
        have hlen : (t.take (k + q + 1) ++ u).length ≤ 21000 := by simp only [List.length_append, List.length_take]; omega
        have hpc := parse_calls (t.take (k + q + 1) ++ u) (w2.alloc (Obj.cells #[.int .i64 s.c, .int .i64 s.a, .slice A s.l.length c] 27)) (hG.below HB3.out hGs) (by omega)
        unfold ParsePost at hpc
        obtain ⟨p', hp'⟩ : ∃ p', p' = parseF (t.take (k + q + 1) ++ u) := ⟨_, rfl⟩
        have hp2 := HR2.out
        rw [← hp'] at hpc hp2
        refine hpc.mono ?_
        clear hpc hp' HR2
        obtain ⟨s', at', er'⟩ := p'
        simp only [Prod.mk.injEq] at hp2
        obtain ⟨rfl, rfl⟩ := hp2
        rintro e w4 ⟨v4, rfl, hR4, hb4⟩
        obtain ⟨A4, c4, hv4⟩ := Kd.R_slice hR4
        subst hv4
        have HB4 : Hid (Below w.heap.size w w4) := Lib.hid (HB3.out.trans (hb4.mono hz2))
        clear hR4 hb4
        go_wp2_with fail
        go_ret
        exact ⟨rfl, HB4.out.alloc HB4.out.size _⟩
end Go.Proofs.YthkheemjgcbofaaDoor

namespace Go.Proofs.YthkheemjgcbofaaDoor
set_option linter.unusedVariables false
set_option linter.unusedSimpArgs false
open Go.RowKit Go.ChangeShapes Go.WideShapes Go.Deep Go.Proofs.YthkheemjgcbofaaDoor.PSc Go.Proofs.YthkheemjgcbofaaDoorW.PrintWords

/-- Cells that can be read as data of type t are some value of kind d, and that one is good. -/
def Rds {α : Type} (d : Kd α) (t : TypeId) (good : α → Prop) : Prop :=
  ∀ (H : Type) (enc : TypeId × Value → H) (w : World) (base : Nat) (spare : Nat → Bool) (held : Bool) (fuel : Nat) (cs : List Value) (x : DataW H × List MemPlace),
    DataW.trod enc Tryd.prog w base spare held fuel t cs = some x → ∃ a : α, d.K w a cs ∧ good a
theorem rds_int {k : IntKind} {t : TypeId} (ht : Tryd.prog.underlying t = some (.int k)) : Rds (Kd.int k) t (fun n => (Lit.int k n).wf = true) := fun H enc w base spare held fuel cs x h => by
  obtain ⟨n, h1, _, h2⟩ := DataW.trod_int ht h
  exact ⟨n, h1, h2⟩
theorem rds_bool {t : TypeId} (ht : Tryd.prog.underlying t = some .bool) : Rds Kd.bool t (fun _ => True) := fun H enc w base spare held fuel cs x h => by
  obtain ⟨n, h1, _⟩ := DataW.trod_bool ht h
  exact ⟨n, h1, trivial⟩
theorem rds_slice {α : Type} {d : Kd α} {t e : TypeId} {good : α → Prop} (q : Nat) (ht : Tryd.prog.underlying t = some (.slice e)) (hsz : Tryd.prog.cellsOf e = d.sz) (hd : Rds d e good) :
    Rds (Kd.slice q d) t (fun xs => ∀ x, x ∈ xs → good x) := fun H enc w base spare held fuel cs x h => by
  rcases open_slice ht h with ⟨rfl, _⟩ | ⟨a, len, cap, m, n, D, Pl, rfl, hb, hl, hmax, hm, _, hi⟩
  · exact ⟨[], ⟨none, 0, rfl, Nat.le_refl _, Kd.C_nil d w⟩, by simp⟩
  · have hlm : len ≤ m := by rw [hm]; split <;> omega
    have key : ∀ k, k ≤ len → ∃ xs : List α, xs.length = k ∧ (∀ x, x ∈ xs → good x) ∧ ∀ j p, xs[j]? = some p → ∃ c, c.length = d.sz ∧ d.K w p c ∧ ∀ i u, c[i]? = some u → w.cell? (a.add (j * d.sz + i)) = some u := by
      intro k
      induction k with
      | zero => exact fun _ => ⟨[], rfl, by simp, fun j p hp => by simp at hp⟩
      | succ k ih =>
        intro hk
        obtain ⟨xs, h1, h2, h3⟩ := ih (by omega)
        obtain ⟨cs', hc, hcs⟩ := hi k (by omega)
        obtain ⟨y, hy, hg⟩ := hd H enc w base spare held n cs' _ hcs
        obtain ⟨_, hcl, hat⟩ := World.cells?_some hc
        refine ⟨xs ++ [y], by simp [h1], ?_, ?_⟩
        · intro z hz
          rcases List.mem_append.1 hz with hz | hz
          · exact h2 z hz
          · rw [List.mem_singleton.1 hz]; exact hg
        · intro j p hp
          rcases Nat.lt_or_ge j xs.length with hj | hj
          · rw [List.getElem?_append_left hj] at hp
            exact h3 j p hp
          · rw [List.getElem?_append_right hj] at hp
            have hj0 : j - xs.length = 0 := by
              rcases Nat.eq_zero_or_pos (j - xs.length) with h | h
              · exact h
              · rw [List.getElem?_eq_none (by simp; omega)] at hp; cases hp
            rw [hj0] at hp
            obtain rfl : y = p := by simpa using hp
            have hjk : j = k := by omega
            subst hjk
            refine ⟨cs', by rw [hcl, hsz], hy, fun i u hu => ?_⟩
            have hil : i < cs'.length := (List.getElem?_eq_some_iff.1 hu).1
            have := hat i (by omega)
            rw [Go.Deep.add_add, hsz] at this
            rw [this, hu]
    obtain ⟨xs, h1, h2, h3⟩ := key len (Nat.le_refl _)
    refine ⟨xs, ⟨some a, cap, by rw [h1], by omega, ⟨rfl, ?_, fun _ => ⟨a, rfl, h3⟩⟩⟩, h2⟩
    unfold maxLen at hmax
    omega

theorem wf_i64 {n : Int} (h : (Lit.int .i64 n).wf = true) : I64 n := by
  simp [Lit.wf] at h
  have e1 : IntKind.i64.min = -9223372036854775808 := by decide
  rw [e1] at h
  exact h
theorem wf_u32 {n : Int} (h : (Lit.int .u32 n).wf = true) : 0 ≤ n ∧ n ≤ 4294967295 := by
  simp [Lit.wf] at h
  have e1 : IntKind.u32.min = 0 := by decide
  have e2 : IntKind.u32.max = 4294967295 := by decide
  rw [e1, e2] at h
  exact h
theorem wf_u64 {n : Int} (h : (Lit.int .u64 n).wf = true) : 0 ≤ n ∧ n ≤ 18446744073709551615 := by
  simp [Lit.wf] at h
  have e1 : IntKind.u64.min = 0 := by decide
  have e2 : IntKind.u64.max = 18446744073709551615 := by decide
  rw [e1, e2] at h
  exact h
theorem fld {α : Type} {d : Kd α} {ty : TypeId} {good : α → Prop} (hd : Rds d ty good) (off : Nat) {k : Nat} (hk : Tryd.prog.cellsOf ty = k) {H : Type} {enc : TypeId × Value → H} {w : World} {base : Nat} {spare : Nat → Bool} {held : Bool} {fuel : Nat} {l : List Value} {xs : List (DataW H × List MemPlace)} {fs : Array Field}
    (hf : ∀ (i : Nat) (f : Field), fs[i]? = some f → DataW.trod enc Tryd.prog w base spare held fuel f.type ((l.drop f.offset).take (Tryd.prog.cellsOf f.type)) = xs[i]?) (i : Nat) (hi : i < xs.length) {f : Field} (hfs : fs[i]? = some f) (hty : f.type = ty) (ho : f.offset = off) :
    ∃ a : α, d.K w a ((l.drop off).take k) ∧ good a := by
  have h := (hf i f hfs).trans (List.getElem?_eq_getElem hi)
  rw [hty, ho, hk] at h
  exact hd H enc w base spare held fuel _ _ h

theorem len3 {l : List Value} (h : l.length = 3) : ∃ a0 a1 a2, l = [a0, a1, a2] := by
  match l, h with
  | [a0, a1, a2], _ => exact ⟨a0, a1, a2, rfl⟩
theorem len4 {l : List Value} (h : l.length = 4) : ∃ a0 a1 a2 a3, l = [a0, a1, a2, a3] := by
  match l, h with
  | [a0, a1, a2, a3], _ => exact ⟨a0, a1, a2, a3, rfl⟩
theorem len8 {l : List Value} (h : l.length = 8) : ∃ a0 a1 a2 a3 a4 a5 a6 a7, l = [a0, a1, a2, a3, a4, a5, a6, a7] := by
  match l, h with
  | [a0, a1, a2, a3, a4, a5, a6, a7], _ => exact ⟨a0, a1, a2, a3, a4, a5, a6, a7, rfl⟩
theorem len12 {l : List Value} (h : l.length = 12) : ∃ a0 a1 a2 a3 a4 a5 a6 a7 a8 a9 a10 a11, l = [a0, a1, a2, a3, a4, a5, a6, a7, a8, a9, a10, a11] := by
  match l, h with
  | [a0, a1, a2, a3, a4, a5, a6, a7, a8, a9, a10, a11], _ => exact ⟨a0, a1, a2, a3, a4, a5, a6, a7, a8, a9, a10, a11, rfl⟩
theorem c2 : Tryd.prog.cellsOf 2 = 1 := by kernel_rfl
theorem c3 : Tryd.prog.cellsOf 3 = 1 := by kernel_rfl
theorem c4 : Tryd.prog.cellsOf 4 = 1 := by kernel_rfl
theorem c39 : Tryd.prog.cellsOf 39 = 1 := by kernel_rfl
theorem c24 : Tryd.prog.cellsOf 24 = 2 := by kernel_rfl
theorem c25 : Tryd.prog.cellsOf 25 = 1 := by kernel_rfl
theorem c27 : Tryd.prog.cellsOf 27 = 3 := by kernel_rfl
theorem c41 : Tryd.prog.cellsOf 41 = 4 := by kernel_rfl
theorem c43 : Tryd.prog.cellsOf 43 = 8 := by kernel_rfl
theorem c44 : Tryd.prog.cellsOf 44 = 1 := by kernel_rfl
theorem c46 : Tryd.prog.cellsOf 46 = 12 := by kernel_rfl
theorem rd2 : Rds (Kd.int .i64) 2 (fun n => (Lit.int .i64 n).wf = true) := rds_int Tryd.underlying2
theorem rd3 : Rds (Kd.int .i64) 3 (fun n => (Lit.int .i64 n).wf = true) := rds_int Tryd.underlying3
theorem rd39 : Rds (Kd.int .u32) 39 (fun n => (Lit.int .u32 n).wf = true) := rds_int Tryd.underlying39
theorem rd4 : Rds Kd.bool 4 (fun _ => True) := rds_bool Tryd.underlying4
theorem rd44 : Rds (Kd.slice 4 Kd.bool) 44 (fun xs => ∀ x, x ∈ xs → True) := rds_slice 4 Tryd.underlying44 c4 rd4
theorem rd41 : Rds k41 41 (fun x => I64 x.f0 ∧ I64 x.f1 ∧ I64 x.f2 ∧ I64 x.f3) := fun H enc w base spare held fuel cs x h => by
  obtain ⟨xs, n, _, _, hl, hx, hf⟩ := DataW.trod_struct Tryd.underlying41 h
  rw [c41] at hl
  obtain ⟨c0, c1, c2', c3', rfl⟩ := len4 hl
  have hx4 : xs.length = 4 := hx
  obtain ⟨n0, h0, w0⟩ := fld rd2 0 c2 hf 0 (by omega) rfl rfl rfl
  obtain ⟨n1, h1, w1⟩ := fld rd2 1 c2 hf 1 (by omega) rfl rfl rfl
  obtain ⟨n2, h2, w2⟩ := fld rd2 2 c2 hf 2 (by omega) rfl rfl rfl
  obtain ⟨n3, h3, w3⟩ := fld rd2 3 c2 hf 3 (by omega) rfl rfl rfl
  obtain rfl : c0 = .int .i64 n0 := List.head_eq_of_cons_eq h0
  obtain rfl : c1 = .int .i64 n1 := List.head_eq_of_cons_eq h1
  obtain rfl : c2' = .int .i64 n2 := List.head_eq_of_cons_eq h2
  obtain rfl : c3' = .int .i64 n3 := List.head_eq_of_cons_eq h3
  exact ⟨⟨n0, n1, n2, n3⟩, k41_mk w _, wf_i64 w0, wf_i64 w1, wf_i64 w2, wf_i64 w3⟩
theorem rd43 : Rds k43 43 Ok43 := fun H enc w base spare held fuel cs x h => by
  obtain ⟨xs, n, _, _, hl, hx, hf⟩ := DataW.trod_struct Tryd.underlying43 h
  rw [c43] at hl
  obtain ⟨e0, e1, e2, e3, e4, e5, e6, e7, rfl⟩ := len8 hl
  have hx5 : xs.length = 5 := hx
  obtain ⟨n0, h0, w0⟩ := fld rd3 0 c3 hf 0 (by omega) rfl rfl rfl
  obtain ⟨n1, h1, w1⟩ := fld rd4 1 c4 hf 1 (by omega) rfl rfl rfl
  obtain ⟨n2, h2, w2⟩ := fld rd39 2 c39 hf 2 (by omega) rfl rfl rfl
  obtain ⟨n3, h3, w3⟩ := fld rd41 3 c41 hf 3 (by omega) rfl rfl rfl
  obtain ⟨n4, h4, w4⟩ := fld rd2 7 c2 hf 4 (by omega) rfl rfl rfl
  obtain rfl : e0 = .int .i64 n0 := List.head_eq_of_cons_eq h0
  obtain rfl : e1 = .bool n1 := List.head_eq_of_cons_eq h1
  obtain rfl : e2 = .int .u32 n2 := List.head_eq_of_cons_eq h2
  have h3' := k41_open h3
  simp only [List.drop_succ_cons, List.drop_zero, List.take_succ_cons, List.take_zero, List.cons.injEq, and_true] at h3'
  obtain ⟨rfl, rfl, rfl, rfl⟩ := h3'
  obtain rfl : e7 = .int .i64 n4 := List.head_eq_of_cons_eq h4
  exact ⟨⟨n0, n1, n2, n3, n4⟩, k43_mk w _, wf_i64 w0, wf_u32 w2, w3.1, w3.2.1, w3.2.2.1, w3.2.2.2, wf_i64 w4⟩
theorem rd46 : Rds k46 46 (fun x => Ok46 x ∧ I64 x.f0) := fun H enc w base spare held fuel cs x h => by
  obtain ⟨xs, n, _, _, hl, hx, hf⟩ := DataW.trod_struct Tryd.underlying46 h
  rw [c46] at hl
  obtain ⟨e0, e1, e2, e3, e4, e5, e6, e7, e8, e9, e10, e11, rfl⟩ := len12 hl
  have hx5 : xs.length = 5 := hx
  obtain ⟨n0, h0, w0⟩ := fld rd3 0 c3 hf 0 (by omega) rfl rfl rfl
  obtain ⟨n1, h1, w1⟩ := fld rd3 1 c3 hf 1 (by omega) rfl rfl rfl
  obtain ⟨n2, h2, w2⟩ := fld rd43 2 c43 hf 2 (by omega) rfl rfl rfl
  obtain ⟨n3, h3, w3⟩ := fld rd3 10 c3 hf 3 (by omega) rfl rfl rfl
  obtain ⟨n4, h4, w4⟩ := fld rd44 11 c44 hf 4 (by omega) rfl rfl rfl
  obtain rfl : e0 = .int .i64 n0 := List.head_eq_of_cons_eq h0
  obtain rfl : e1 = .int .i64 n1 := List.head_eq_of_cons_eq h1
  have h2' := k43_open h2
  simp only [List.drop_succ_cons, List.drop_zero, List.take_succ_cons, List.take_zero, List.cons.injEq, and_true] at h2'
  obtain ⟨rfl, rfl, rfl, rfl, rfl, rfl, rfl, rfl⟩ := h2'
  obtain rfl : e10 = .int .i64 n3 := List.head_eq_of_cons_eq h3
  obtain ⟨A, c, h4', hlc, hC⟩ := h4
  obtain rfl : e11 = .slice A n4.length c := List.head_eq_of_cons_eq h4'
  exact ⟨⟨n0, n1, n2, n3, n4⟩, k46_mk w _ hlc hC, ⟨wf_i64 w1, wf_i64 w3, w2⟩, wf_i64 w0⟩
/-- A script that came in. -/
theorem open27 {H : Type} {enc : TypeId × Value → H} {w : World} {base : Nat} {spare : Nat → Bool} {held : Bool} {fuel : Nat} {cs : List Value} {x : DataW H × List MemPlace} (h : DataW.trod enc Tryd.prog w base spare held fuel 27 cs = some x) :
    ∃ (s0 s1 : Int) (xs : List S46) (A : Option Addr) (c : Nat), cs = [.int .i64 s0, .int .i64 s1, .slice A xs.length c] ∧ I64 s0 ∧ I64 s1 ∧ (∀ y, y ∈ xs → Ok46 y ∧ I64 y.f0) ∧ xs.length ≤ c ∧ Kd.C k46 w A xs.length xs := by
  obtain ⟨xs, n, _, _, hl, hx, hf⟩ := DataW.trod_struct Tryd.underlying27 h
  rw [c27] at hl
  obtain ⟨e0, e1, e2, rfl⟩ := len3 hl
  have hx2 : xs.length = 2 := hx
  obtain ⟨n2, h2, w2⟩ := fld (rds_slice 46 Tryd.underlying25 c46 rd46) 2 c25 hf 1 (by omega) rfl rfl rfl
  obtain ⟨A, c, h2', hlc, hC⟩ := h2
  obtain rfl : e2 = .slice A n2.length c := List.head_eq_of_cons_eq h2'
  have h24' : DataW.trod enc Tryd.prog w base spare held n 24 (([e0, e1, .slice A n2.length c].drop 0).take (Tryd.prog.cellsOf 24)) = xs[0]? := hf 0 _ rfl
  rw [c24] at h24'
  have h24 : DataW.trod enc Tryd.prog w base spare held n 24 [e0, e1] = some (xs[0]'(by rw [hx2]; decide)) := h24'.trans (List.getElem?_eq_getElem (show 0 < xs.length by rw [hx2]; decide))
  obtain ⟨ys, n', _, _, hl', hx', hf'⟩ := DataW.trod_struct Tryd.underlying24 h24
  have hy2 : ys.length = 2 := hx'
  obtain ⟨m0, g0, v0⟩ := fld rd3 0 c3 hf' 0 (show 0 < ys.length by rw [hy2]; decide) rfl rfl rfl
  obtain ⟨m1, g1, v1⟩ := fld rd3 1 c3 hf' 1 (show 1 < ys.length by rw [hy2]; decide) rfl rfl rfl
  obtain rfl : e0 = .int .i64 m0 := List.head_eq_of_cons_eq g0
  obtain rfl : e1 = .int .i64 m1 := List.head_eq_of_cons_eq g1
  exact ⟨m0, m1, n2, A, c, rfl, wf_i64 v0, wf_i64 v1, w2, hlc, hC⟩
end Go.Proofs.YthkheemjgcbofaaDoor

namespace Go.Proofs.YthkheemjgcbofaaDoor
set_option linter.unusedVariables false
set_option linter.unusedSimpArgs false
open Go.RowKit Go.Sort Go.Lib

set_option maxHeartbeats 6400000 in
set_option maxRecDepth 100000 in
theorem formatUint_in (u : Nat) (hu64 : u < 18446744073709551616) (w : World) (htab : Lib.TabIs Tryd.prog w "internal/strconv.uint64pow10" .u64 Lib.pow10Tab) :
    Calls Tryd.prog 65 #[.int .u64 u, .int .i64 10] w fun e w' => e = .returned (.string ⟨(Lib.decDigits u).toArray⟩) ∧ ∃ k os, w' = grow (w.drewN k) os := by
  by_cases hs : u < 100
  · go_enter Tryd.func65, Tryd.ntmps65
    go_wp2_with (go_at_call 73; refine (Tryd.internal_strconv_small u hs _).mono ?_; rintro e w' ⟨rfl, rfl⟩)
    go_ret
    exact ⟨rfl, 0, #[], by simp [World.drewN_zero]⟩
  · have hu1 : 1 ≤ u := by omega
    have hnd20 : Lib.nDigits u ≤ 20 := by have := Lib.numDigits_eq u hu1 hu64; split at this <;> omega
    have hal : Tryd.prog.arrayLen 133 = 24 := by simp [Program.arrayLen, Tryd.underlying133]
    have hsl1 : ∀ W, (Instr.sliceAt 133 (.pointer (some ⟨w.heap.size, 0, none⟩)) none (some (.int .i64 (Lib.nDigits u : Int))) none).run Tryd.prog W = .ok (.slice (some ⟨w.heap.size, 0, none⟩) (Lib.nDigits u) 24) W := fun W => by
      rw [run_sliceAt_array_h W 133 ⟨w.heap.size, 0, none⟩ (by simp [Program.arrayLen, Program.elem, Tryd.underlying133]) .i64 (Lib.nDigits u : Int) (by omega) (by rw [hal]; omega)]
      go_simp
    have hH0 := Lib.holds_zero0 w 133 (Lib.nDigits u) (by omega)
    have hfmt := Tryd.internal_strconv_formatBase10 w.heap.size 0 24 u (Array.replicate (Lib.nDigits u) 0) (w.alloc (.cells Lib.zeros24 133)) hH0 (by rw [Array.size_replicate]; exact Lib.lt_pow_nDigits u) hu64 (by rw [Array.size_replicate]; omega)
    rw [Array.size_replicate] at hfmt
    have HH0 := Lib.hid hH0
    clear hH0 hal
    go_enter Tryd.func65, Tryd.ntmps65
    go_wp2_with (first
      | (go_at_call 74; refine (Tryd.internal_strconv_numDigits u hu1 hu64 _ (Lib.tabIs_alloc htab _)).mono ?_; rintro e w' ⟨rfl, rfl⟩))
    go_at_call 75
    refine hfmt.mono ?_
    rintro e w' ⟨rfl, k, v', dk, rfl, hF⟩
    have hcv : (convert 67 9 (.slice (some ⟨w.heap.size, 0, none⟩) (Lib.nDigits u) 24)).run Tryd.prog ((putRow (fun (b : UInt8) => Value.int .u8 (b.toNat : Int)) (w.alloc (.cells Lib.zeros24 133)) w.heap.size 0 dk).drewN k) = .ok (.string ⟨(Lib.decDigits u).toArray⟩) ((putRow (fun (b : UInt8) => Value.int .u8 (b.toNat : Int)) (w.alloc (.cells Lib.zeros24 133)) w.heap.size 0 dk).drewN k) := by
      have h := run_convert_bytes_back (P := Tryd.prog) ((putRow (fun (b : UInt8) => Value.int .u8 (b.toNat : Int)) (w.alloc (.cells Lib.zeros24 133)) w.heap.size 0 dk).drewN k) 67 9 5 ⟨w.heap.size, 0, none⟩ 24 (Lib.decDigits u) Tryd.underlying67 Tryd.underlying5 Tryd.underlying9 (fun j hj => by
        rw [Lib.row_is_numeral hF j hj, Lib.add_plain, World.cell?_drewN]
        exact cell?_putRow (fun (b : UInt8) => Value.int .u8 (b.toNat : Int)) _ w.heap.size 0 _ dk HH0.out (by rw [hF.size, Array.size_replicate]) j (by rw [hF.size]; rw [Lib.decDigits_length] at hj; exact hj))
      rw [Lib.decDigits_length] at h
      exact h
    go_wp2
    go_ret
    obtain ⟨os, eo⟩ := Lib.fin_at w (.cells Lib.zeros24 133) dk k 0
    exact ⟨rfl, k, os, eo⟩
theorem formatUint_calls (u : Nat) (hu64 : u < 18446744073709551616) (w : World) (hG : Glob w) :
    Calls Tryd.prog 56 #[.int .u64 u, .int .i64 10] w fun e w' => e = .returned (.string ⟨(Lib.decDigits u).toArray⟩) ∧ Below w.heap.size w w' := by
  go_enter Tryd.func56, Tryd.ntmps56
  go_wp2_with fail
  refine (formatUint_in u hu64 w hG.tab).mono ?_
  rintro e w1 ⟨rfl, k, os, rfl⟩
  go_wp2
  go_ret
  exact ⟨rfl, (((Mod.refl [] w).drewN k).grow os).below (by simp) (Nat.le_refl _)⟩
end Go.Proofs.YthkheemjgcbofaaDoor

namespace Go.Proofs.YthkheemjgcbofaaDoor
set_option linter.unusedVariables false
set_option linter.unusedSimpArgs false
open Go.RowKit Go.Proofs.YthkheemjgcbofaaDoor.PSc Go.Proofs.YthkheemjgcbofaaDoorW.PrintWords

theorem enc_digit (d : Nat) (h : d < 10) : Utf8.encode (48 + (d : Int)) = ⟨[UInt8.ofNat (48 + d)].toArray⟩ := by
  match d, h with
  | 0, _ => rfl
  | 1, _ => rfl
  | 2, _ => rfl
  | 3, _ => rfl
  | 4, _ => rfl
  | 5, _ => rfl
  | 6, _ => rfl
  | 7, _ => rfl
  | 8, _ => rfl
  | 9, _ => rfl
theorem dec_small {m : Nat} (h : m < 10) : Lib.decDigits m = [UInt8.ofNat (48 + m % 10)] := by
  rw [Lib.decDigits, dif_pos h, Nat.mod_eq_of_lt h]
theorem dec_big {m : Nat} (h : ¬ m < 10) : Lib.decDigits m = Lib.decDigits (m / 10) ++ [UInt8.ofNat (48 + m % 10)] := by
  rw [Lib.decDigits, dif_neg h]
theorem dec_len {u : Nat} (hu : u < 18446744073709551616) : (Lib.decDigits u).length ≤ 20 := by
  rw [Lib.decDigits_length]
  by_cases h : 1 ≤ u
  · have := Lib.numDigits_eq u h hu
    split at this <;> omega
  · have : u = 0 := by omega
    subst this
    rw [Lib.nDigits_small (by omega)]; decide

set_option maxHeartbeats 1000000 in
theorem whole_calls (u : Nat) (hu : u < 18446744073709551616) (w : World) :
    Calls Tryd.prog 39 #[.int .u64 u] w fun e w' => e = .returned (.string ⟨(Lib.decDigits u).toArray⟩) ∧ w' = w := by
  have hdl := dec_len hu
  go_enter Tryd.func39, Tryd.ntmps39
  go_wp2
  go_loop [0, 3] (fun n s => ∃ (m : Nat) (acc : By), m ≤ u ∧ n = .int .u64 m ∧ s = .string ⟨acc.toArray⟩ ∧ Hid (Lib.decDigits u = Lib.decDigits m ++ acc)) (fun n _ => (intOf n).toNat)
  case atStart => exact ⟨u, [], Nat.le_refl _, rfl, rfl, Lib.hid (by simp)⟩
  case round =>
    obtain ⟨m, acc, hm, rfl, rfl, HA⟩ := hrel
    have hrd := enc_digit (m % 10) (by omega)
    have ecast : ((m % 10 : Nat) : Int) = (m : Int) % 10 := by omega
    rw [ecast] at hrd
    have hal : acc.length ≤ 20 := by
      have := congrArg List.length HA.out
      rw [List.length_append] at this
      omega
    clear ecast
    obtain ⟨c, hc⟩ : ∃ c, c = UInt8.ofNat (48 + m % 10) := ⟨_, rfl⟩
    rw [← hc] at hrd
    have HC := Lib.hid hc
    clear hc
    by_cases h10 : m < 10
    · have hdv : (m : Int) / 10 = 0 := by omega
      go_wp2
      go_ret
      refine ⟨?_, rfl⟩
      rw [HA.out, dec_small h10, ← HC.out]
      rw [ba_append]; rfl
    · have hdv : ((m : Int) / 10 == 0) = false := by simp; omega
      go_wp2
      go_round
      case rel =>
        refine ⟨m / 10, c :: acc, by omega, by go_num, by rw [ba_append]; rfl, ?_⟩
        refine Lib.hid ?_
        rw [HA.out, dec_big h10, ← HC.out]
        simp
      case measure => simp [intOf]; omega

theorem dash (l : By) : (⟨#[45]⟩ : ByteArray) ++ (⟨l.toArray⟩ : ByteArray) = ⟨(45 :: l).toArray⟩ := ba_append [45] l
set_option maxHeartbeats 2000000 in
set_option maxRecDepth 100000 in
theorem number_ref (n : Int) (hn : I64 n) (w : World) :
    Calls Tryd.prog 36 #[.int .i64 n] w fun e w' => e = .returned (.string ⟨(Lib.itoa n).toArray⟩) ∧ w' = w := by
  obtain ⟨h0, h1⟩ := hn
  obtain ⟨u, hu⟩ : ∃ u : Nat, u = n.natAbs := ⟨_, rfl⟩
  have hu64 : u < 18446744073709551616 := by omega
  have hdl := dec_len hu64
  by_cases hneg : n < 0
  · have hit : Lib.itoa n = 45 :: Lib.decDigits u := by unfold Lib.itoa; rw [if_pos hneg, hu]
    obtain rfl : n = -(u : Int) := by omega
    have hu0 : 0 < u := by omega
    have HIT := Lib.hid hit
    have hwr : IntKind.u64.wrap (-IntKind.u64.wrap (-(u : Int))) = (u : Int) := by rw [IntKind.wrap_u64, IntKind.wrap_u64]; omega
    clear hu hit
    go_enter Tryd.func36, Tryd.ntmps36
    go_wp2
    go_loop [3, 4] (fun n s => ∃ (m : Nat) (acc : By), m ≤ u ∧ n = .int .u64 m ∧ s = .string ⟨acc.toArray⟩ ∧ Hid (Lib.decDigits u = Lib.decDigits m ++ acc)) (fun n _ => (intOf n).toNat)
    case atStart => exact ⟨u, [], Nat.le_refl _, rfl, rfl, Lib.hid (by simp)⟩
    case round =>
      clear hwr
      obtain ⟨m, acc, hm, rfl, rfl, HA⟩ := hrel
      have hrd := enc_digit (m % 10) (by omega)
      have ecast : ((m % 10 : Nat) : Int) = (m : Int) % 10 := by omega
      rw [ecast] at hrd
      have hal : acc.length ≤ 20 := by
        have := congrArg List.length HA.out
        rw [List.length_append] at this
        omega
      clear ecast
      obtain ⟨c, hc⟩ : ∃ c, c = UInt8.ofNat (48 + m % 10) := ⟨_, rfl⟩
      rw [← hc] at hrd
      have HC := Lib.hid hc
      clear hc
      by_cases h10 : m < 10
      · have hdv : (m : Int) / 10 = 0 := by omega
        have hcat : (⟨#[c]⟩ : ByteArray) ++ (⟨acc.toArray⟩ : ByteArray) = ⟨(c :: acc).toArray⟩ := ba_append [c] acc
        go_wp2
        go_ret
        refine ⟨?_, rfl⟩
        rw [HIT.out, HA.out, dec_small h10, ← HC.out]
        first | rw [dash] | skip
        rfl
      · have hdv : ((m : Int) / 10 == 0) = false := by simp; omega
        go_wp2
        go_round
        case rel =>
          refine ⟨m / 10, c :: acc, by omega, by go_num, by rw [ba_append]; rfl, ?_⟩
          refine Lib.hid ?_
          rw [HA.out, dec_big h10, ← HC.out]
          simp
        case measure => simp [intOf]; omega
  · have hit : Lib.itoa n = Lib.decDigits u := by
      unfold Lib.itoa; rw [if_neg hneg, hu]; congr 1; omega
    obtain rfl : n = (u : Int) := by omega
    have HIT := Lib.hid hit
    have hwr : IntKind.u64.wrap (u : Int) = (u : Int) := by rw [IntKind.wrap_u64]; omega
    clear hu hit
    go_enter Tryd.func36, Tryd.ntmps36
    go_wp2
    clear h0 h1 hwr
    have hn0 : decide ((u : Int) < 0) = false := by simp
    go_loop [3, 4] (fun n s => ∃ (m : Nat) (acc : By), m ≤ u ∧ n = .int .u64 m ∧ s = .string ⟨acc.toArray⟩ ∧ Hid (Lib.decDigits u = Lib.decDigits m ++ acc)) (fun n _ => (intOf n).toNat)
    case atStart => exact ⟨u, [], Nat.le_refl _, rfl, rfl, Lib.hid (by simp)⟩
    case round =>
      obtain ⟨m, acc, hm, rfl, rfl, HA⟩ := hrel
      have hrd := enc_digit (m % 10) (by omega)
      have ecast : ((m % 10 : Nat) : Int) = (m : Int) % 10 := by omega
      rw [ecast] at hrd
      have hal : acc.length ≤ 20 := by
        have := congrArg List.length HA.out
        rw [List.length_append] at this
        omega
      clear ecast
      obtain ⟨c, hc⟩ : ∃ c, c = UInt8.ofNat (48 + m % 10) := ⟨_, rfl⟩
      rw [← hc] at hrd
      have HC := Lib.hid hc
      clear hc
      by_cases h10 : m < 10
      · have hdv : (m : Int) / 10 = 0 := by omega
        go_wp2
        go_ret
        refine ⟨?_, rfl⟩
        rw [HIT.out, HA.out, dec_small h10, ← HC.out]
        rw [ba_append]; rfl
      · have hdv : ((m : Int) / 10 == 0) = false := by simp; omega
        go_wp2
        go_round
        case rel =>
          refine ⟨m / 10, c :: acc, by omega, by go_num, by rw [ba_append]; rfl, ?_⟩
          refine Lib.hid ?_
          rw [HA.out, dec_big h10, ← HC.out]
          simp
        case measure => simp [intOf]; omega

theorem blanked_take (ns : List Int) (k : Nat) (n : Int) (h : ns[k]? = some n) : blanked (ns.take (k + 1)) = blanked (ns.take k) ++ 32 :: Lib.itoa n := by
  rw [List.take_add_one, h]
  exact blanked_snoc _ _
theorem space (l : By) : (⟨#[32]⟩ : ByteArray) ++ (⟨l.toArray⟩ : ByteArray) = ⟨(32 :: l).toArray⟩ := ba_append [32] l
set_option maxHeartbeats 2000000 in
set_option maxRecDepth 100000 in
theorem numbers_ref (ns : List Int) (A : Option Addr) (c : Nat) (w : World) (hC : Kd.C (Kd.int .i64) w A ns.length ns) (hc : ns.length ≤ c) (h64 : ∀ n, n ∈ ns → I64 n) (hlen : ns.length ≤ 1000) :
    Calls Tryd.prog 37 #[.slice A ns.length c] w fun e w' => e = .returned (.string ⟨(blanked ns).toArray⟩) ∧ w' = w := by
  have HC := Lib.hid hC
  have H64 := Lib.hid h64
  clear hC h64
  go_enter Tryd.func37, Tryd.ntmps37
  go_wp2
  go_loop [3, 8] (fun s i => ∃ k : Nat, k ≤ ns.length ∧ i = .int .i64 k ∧ s = .string ⟨(blanked (ns.take k)).toArray⟩) (fun _ i => ns.length - (intOf i).toNat)
  case atStart => exact ⟨0, by omega, rfl, rfl⟩
  case round =>
    obtain ⟨k, hk, rfl, rfl⟩ := hrel
    by_cases hlt : k < ns.length
    · obtain ⟨n, hn⟩ : ∃ n, ns[k]? = some n := ⟨_, List.getElem?_eq_getElem hlt⟩
      have hmem : n ∈ ns := List.mem_of_getElem? hn
      have hbt := blanked_take ns k n hn
      have hbl := blanked_le (ns.take k) (fun m hm => H64.out m (List.mem_of_mem_take hm))
      rw [List.length_take] at hbl
      have hit := itoa_le (H64.out n hmem)
      obtain ⟨ad, cc, hA, hcl, hK, hcell⟩ := Kd.C_get HC.out 0 (k : Int) (by omega) (by omega)
      have hgd : ns.getD k 0 = n := by rw [List.getD_eq_getElem?_getD, hn]; rfl
      have h0 : w.cell? (ad.add k) = some (.int .i64 n) := by
        have := hcell 0 (.int .i64 n) (by rw [show cc = [.int .i64 (ns.getD (k : Int).toNat 0)] from hK]; simp [hn])
        simp only [Int.toNat_natCast, Nat.add_zero] at this
        rwa [show (Kd.int IntKind.i64).sz = 1 from rfl, Nat.mul_one] at this
      subst hA
      have HN := Lib.hid (number_ref n (H64.out n hmem) w)
      have HBT := Lib.hid hbt
      clear hbt hn hmem hcell hK hgd hcl
      go_wp2_with fail
      refine HN.out.mono ?_
      rintro e w1 ⟨rfl, hw1⟩
      subst hw1
      go_wp2
      go_round
      case rel =>
        refine ⟨k + 1, by omega, by go_num, ?_⟩
        rw [HBT.out]
        first | rw [space, ba_append] | (rw [← ba_append, ← space])
      case measure => simp [intOf]; omega
    · have he : k = ns.length := by omega
      subst he
      go_wp2
      go_ret
      refine ⟨?_, rfl⟩
      rfl
end Go.Proofs.YthkheemjgcbofaaDoor

namespace Go.Proofs.YthkheemjgcbofaaDoor
set_option linter.unusedVariables false
set_option linter.unusedSimpArgs false
open Go.RowKit Go.Proofs.YthkheemjgcbofaaDoor.PSc Go.Proofs.YthkheemjgcbofaaDoorW.PrintWords

def opWords : Value := .agg #[.string ⟨#[98, 101, 103, 105, 110]⟩, .string ⟨#[105, 110, 115, 101, 114, 116]⟩, .string ⟨#[100, 101, 108, 101, 116, 101]⟩, .string ⟨#[113, 117, 101, 114, 121]⟩, .string ⟨#[99, 111, 109, 109, 105, 116]⟩, .string ⟨#[97, 98, 111, 114, 116]⟩]
theorem opWord_calls (k : Int) (w : World) : Calls Tryd.prog 38 #[.int .i64 k] w fun e w' => e = .returned (.string ⟨(verbF k).toArray⟩) ∧ w' = w := by
  have any_ : k < 1 ∨ 6 < k → verbF k = [97, 110, 121] := by
    intro h
    unfold verbF
    by_cases h0 : k < 0 ∨ 7 ≤ k
    · rw [if_pos h0]
    · have : k = 0 := by omega
      subst this; rfl
  by_cases h1 : k < 1
  · have e := Lib.hid (any_ (.inl h1))
    clear any_
    go_enter Tryd.func38, Tryd.ntmps38
    go_wp2
    go_ret
    exact ⟨by rw [e.out]; rfl, rfl⟩
  · by_cases h6 : 6 < k
    · have e := Lib.hid (any_ (.inr h6))
      clear any_
      go_enter Tryd.func38, Tryd.ntmps38
      go_wp2
      go_ret
      exact ⟨by rw [e.out]; rfl, rfl⟩
    · clear any_
      have i0 : ∀ W : World, (Instr.index 118 opWords (.int .i64 0)).run Tryd.prog W = .ok (.string ⟨#[98, 101, 103, 105, 110]⟩) W := fun _ => by kernel_rfl
      have i1 : ∀ W : World, (Instr.index 118 opWords (.int .i64 1)).run Tryd.prog W = .ok (.string ⟨#[105, 110, 115, 101, 114, 116]⟩) W := fun _ => by kernel_rfl
      have i2 : ∀ W : World, (Instr.index 118 opWords (.int .i64 2)).run Tryd.prog W = .ok (.string ⟨#[100, 101, 108, 101, 116, 101]⟩) W := fun _ => by kernel_rfl
      have i3 : ∀ W : World, (Instr.index 118 opWords (.int .i64 3)).run Tryd.prog W = .ok (.string ⟨#[113, 117, 101, 114, 121]⟩) W := fun _ => by kernel_rfl
      have i4 : ∀ W : World, (Instr.index 118 opWords (.int .i64 4)).run Tryd.prog W = .ok (.string ⟨#[99, 111, 109, 109, 105, 116]⟩) W := fun _ => by kernel_rfl
      have i5 : ∀ W : World, (Instr.index 118 opWords (.int .i64 5)).run Tryd.prog W = .ok (.string ⟨#[97, 98, 111, 114, 116]⟩) W := fun _ => by kernel_rfl
      unfold opWords at i0 i1 i2 i3 i4 i5
      obtain rfl | rfl | rfl | rfl | rfl | rfl : k = 1 ∨ k = 2 ∨ k = 3 ∨ k = 4 ∨ k = 5 ∨ k = 6 := by omega
      all_goals
        clear h1 h6
        go_enter Tryd.func38, Tryd.ntmps38
        go_wp2
        go_ret
        exact ⟨rfl, rfl⟩

def U64 (n : Int) : Prop := 0 ≤ n ∧ n ≤ 18446744073709551615
theorem itoaU {n : Int} (h : 0 ≤ n) : Lib.itoa n = Lib.decDigits n.toNat := by unfold Lib.itoa; rw [if_neg (by omega)]
theorem itoaU_le {n : Int} (h : U64 n) : (Lib.itoa n).length ≤ 21 := by
  obtain ⟨h0, h1⟩ := h
  rw [itoaU h0]
  have := dec_len (u := n.toNat) (by omega)
  omega
theorem blankedU_le (ns : List Int) (h : ∀ n, n ∈ ns → U64 n) : (blanked ns).length ≤ 22 * ns.length := by
  induction ns with
  | nil => simp [blanked]
  | cons n ns ih =>
    have h1 := ih (fun m hm => h m (by simp [hm]))
    have h2 := itoaU_le (h n (by simp))
    simp only [blanked, List.flatMap_cons, List.length_append, List.length_cons] at h1 ⊢
    omega
theorem formatU_calls (n : Int) (w : World) (hG : Glob w) (h : U64 n) :
    Calls Tryd.prog 56 #[.int .u64 n, .int .i64 10] w fun e w' => e = .returned (.string ⟨(Lib.itoa n).toArray⟩) ∧ Below w.heap.size w w' := by
  obtain ⟨h0, h1⟩ := h
  rw [itoaU h0]
  obtain ⟨u, rfl⟩ : ∃ u : Nat, n = u := ⟨n.toNat, by omega⟩
  exact formatUint_calls u (by omega) w hG
theorem whole_ref (n : Int) (h : U64 n) (w : World) :
    Calls Tryd.prog 39 #[.int .u64 n] w fun e w' => e = .returned (.string ⟨(Lib.itoa n).toArray⟩) ∧ w' = w := by
  obtain ⟨h0, h1⟩ := h
  rw [itoaU h0]
  obtain ⟨u, rfl⟩ : ∃ u : Nat, n = u := ⟨n.toNat, by omega⟩
  exact whole_calls u (by omega) w

set_option maxHeartbeats 1000000 in
theorem wholes_w (b g c : Nat) (ns : List Int) (T : TypeId) (l : By) (w : World) (hG : Glob w) (h6 : 6 ≤ b) (hW : Wr b l w) (hg : w.heap[g]? = some (.cells (ns.map (Value.int .u64)).toArray T (0, 0))) (hgb : g ≠ b) (hT : T ≠ 5)
    (hns : ∀ n, n ∈ ns → U64 n) (hlen : l.length + 22 * ns.length ≤ 140737488355328) :
    Calls Tryd.prog 33 #[.pointer (some ⟨b, 0, none⟩), .slice (some ⟨g, 0, none⟩) ns.length c] w fun e w' => e = .returned (.tuple #[]) ∧ Wr b (l ++ blanked ns) w' ∧ Wm b w w' := by
  have HN := Lib.hid hns
  have HG := Lib.hid hg
  have HW := Lib.hid hW
  clear hns hg hW
  go_enter Tryd.func33, Tryd.ntmps33
  go_wp2
  go_loopw [8] (fun i wr => ∃ k : Nat, k ≤ ns.length ∧ i = .int .i64 k ∧ Hid (Wr b (l ++ blanked (ns.take k)) wr) ∧ Hid (Wm b w wr)) (fun i _ => ns.length - (intOf i).toNat)
  case atStart => exact ⟨0, by omega, rfl, Lib.hid (by simpa [blanked] using HW.out), Lib.hid (Wm.refl _ _)⟩
  case round =>
    obtain ⟨k, hk, rfl, HW1, HM⟩ := hrel
    by_cases hlt : k < ns.length
    · obtain ⟨n, hn⟩ : ∃ n, ns[k]? = some n := ⟨_, List.getElem?_eq_getElem hlt⟩
      have hI : U64 n := HN.out n (List.mem_of_getElem? hn)
      have htk : ns.take (k + 1) = ns.take k ++ [n] := by rw [List.take_add_one, hn]; rfl
      have hc : wr.cell? ⟨g, k, none⟩ = some (.int .u64 n) := by
        rw [blk_cell (HM.out.blk HG.out hgb hT) k]
        simp [hn]
      have hc' : wr.cell? ⟨g, 0 + k, none⟩ = some (.int .u64 n) := by rw [Nat.zero_add]; exact hc
      have hc'' : wr.cell? ((⟨g, 0, none⟩ : Addr).add k) = some (.int .u64 n) := by rw [add_blk]; exact hc
      have HF := Lib.hid (formatU_calls n wr.drew ((hG.wm HM.out h6).below (Below.refl 6 _).drew (Nat.le_refl _)) hI)
      have hbl := blankedU_le (ns.take k) (fun m hm => HN.out m (List.mem_of_mem_take hm))
      have hil := itoaU_le hI
      rw [List.length_take] at hbl
      have HTK := Lib.hid htk
      have hcat : ¬ (9223372036854775807 < 1 + (Lib.itoa n).length) := by omega
      clear hn htk
      go_wp2_with fail
      go_region_law
        (first
          | (go_simp
             go_at_call 56
             refine HF.out.mono ?_
             rintro e w1 ⟨rfl, hb1⟩
             have HB1 := Lib.hid hb1
             have HW2 : Hid (Wr b (l ++ blanked (ns.take k)) w1) := Lib.hid (HW1.out.drew.new hb1)
             clear hb1)
          | (go_simp
             go_at_call 24
             refine (writeString_of b _ (32 :: Lib.itoa n) _ ?hS _ HW2.out ?hl).mono ?_
             case hS => first | rfl | simp
             case hl => simp; omega
             rintro e w2 ⟨rfl, hw2, hm2⟩
             have HW3 := Lib.hid hw2
             have HM3 : Hid (Wm b w w2) := Lib.hid (((HM.out.drew).new HB1.out (by have := HW1.out.lt; simp; omega)).trans hm2)
             clear hw2 hm2)
          | fail)
      all_goals
        go_wp2
        go_roundw
        case rel =>
          refine ⟨k + 1, by omega, by go_num, ?_, HM3⟩
          refine Lib.hid ?_
          rw [HTK.out, blanked_snoc, ← List.append_assoc]
          exact HW3.out
        case measure => simp [intOf]; omega
    · have he : k = ns.length := by omega
      subst he
      go_wp2
      go_end0
      exact ⟨rfl, by have := HW1.out; rwa [List.take_length] at this, HM.out⟩
end Go.Proofs.YthkheemjgcbofaaDoor

namespace Go.Proofs.YthkheemjgcbofaaDoor
open Go.RowKit Go.Proofs.YthkheemjgcbofaaDoor.PSc Go.Proofs.YthkheemjgcbofaaDoorW.PrintWords
set_option linter.unusedVariables false
set_option linter.unusedSimpArgs false

structure S87 where
  f0 : Int
  f1 : S41
  f2 : Int
def z87 : S87 := ⟨0, z41, 0⟩
def k87 : Kd S87 := Kd.iso (Kd.pair (Kd.int .u32) (Kd.pair k41 (Kd.int .i64))) (fun x : S87 => (x.f0, x.f1, x.f2))
theorem k87_open {w : World} {x : S87} {cs : List Value} (h : k87.K w x cs) : cs = [.int .u32 x.f0, .int .i64 x.f1.f0, .int .i64 x.f1.f1, .int .i64 x.f1.f2, .int .i64 x.f1.f3, .int .i64 x.f2] := by
  obtain ⟨_, _, rfl, rfl, ⟨_, _, rfl, s1, rfl⟩⟩ := h
  obtain rfl := k41_open s1
  exact rfl
theorem k87_mk (w : World) (x : S87) : k87.K w x [.int .u32 x.f0, .int .i64 x.f1.f0, .int .i64 x.f1.f1, .int .i64 x.f1.f2, .int .i64 x.f1.f3, .int .i64 x.f2] := ⟨[.int .u32 x.f0], _, rfl, rfl, ⟨_, [.int .i64 x.f2], rfl, k41_mk w x.f1, rfl⟩⟩
theorem k87_mkM (w : World) (base : Nat) (ok : Nat → Prop) (x : S87) : k87.M w base ok x [.int .u32 x.f0, .int .i64 x.f1.f0, .int .i64 x.f1.f1, .int .i64 x.f1.f2, .int .i64 x.f1.f3, .int .i64 x.f2] := ⟨[.int .u32 x.f0], _, rfl, rfl, ⟨_, [.int .i64 x.f2], rfl, k41_mkM w base ok x.f1, rfl⟩⟩
def rd_T87 (xs : List S87) (i : Int) : S87 := xs.getD i.toNat z87
theorem at_T87 {w : World} {A : Option Addr} {n : Nat} {xs : List S87} (h : Kd.C k87 w A n xs) (i : Int) (h0 : 0 ≤ i) (h1 : i < n) : ∃ ad, A = some ad ∧ w.cell? (ad.add (i.toNat * 6)) = some (.int .u32 (rd_T87 xs i).f0) ∧ w.cell? ⟨(ad.add (i.toNat * 6)).block, (ad.add (i.toNat * 6)).off + 1, none⟩ = some (.int .i64 (rd_T87 xs i).f1.f0) ∧ w.cell? ⟨(ad.add (i.toNat * 6)).block, (ad.add (i.toNat * 6)).off + 2, none⟩ = some (.int .i64 (rd_T87 xs i).f1.f1) ∧ w.cell? ⟨(ad.add (i.toNat * 6)).block, (ad.add (i.toNat * 6)).off + 3, none⟩ = some (.int .i64 (rd_T87 xs i).f1.f2) ∧ w.cell? ⟨(ad.add (i.toNat * 6)).block, (ad.add (i.toNat * 6)).off + 4, none⟩ = some (.int .i64 (rd_T87 xs i).f1.f3) ∧ w.cell? ⟨(ad.add (i.toNat * 6)).block, (ad.add (i.toNat * 6)).off + 5, none⟩ = some (.int .i64 (rd_T87 xs i).f2) := by
  obtain ⟨ad, c, e, _, hK, hc0⟩ := Kd.C_get h z87 i h0 h1
  have hc : ∀ j u, c[j]? = some u → w.cell? (ad.add (i.toNat * 6 + j)) = some u := hc0
  obtain rfl := k87_open hK
  exact ⟨ad, e, hc 0 _ rfl, by rw [← add_field _ _ 1 (by omega)]; exact hc 1 _ rfl, by rw [← add_field _ _ 2 (by omega)]; exact hc 2 _ rfl, by rw [← add_field _ _ 3 (by omega)]; exact hc 3 _ rfl, by rw [← add_field _ _ 4 (by omega)]; exact hc 4 _ rfl, by rw [← add_field _ _ 5 (by omega)]; exact hc 5 _ rfl⟩

/-- What a session is told. -/
structure S57 where
  f0 : Int
  f1 : S43
  f2 : Int
  f3 : Int
  f4 : List S87
  f5 : Int
  f6 : Int
  f7 : Int
  f8 : Bool
def z57 : S57 := ⟨0, z43, 0, 0, [], 0, 0, 0, false⟩
def k57 : Kd S57 := Kd.iso (Kd.pair (Kd.int .i64) (Kd.pair k43 (Kd.pair (Kd.int .i64) (Kd.pair (Kd.int .u64) (Kd.pair (Kd.slice 87 k87) (Kd.pair (Kd.int .u64) (Kd.pair (Kd.int .u64) (Kd.pair (Kd.int .u64) Kd.bool)))))))) (fun x : S57 => (x.f0, x.f1, x.f2, x.f3, x.f4, x.f5, x.f6, x.f7, x.f8))
theorem k57_open {w : World} {x : S57} {cs : List Value} (h : k57.K w x cs) : ∃ A11 c11, cs = [.int .i64 x.f0, .int .i64 x.f1.f0, .bool x.f1.f1, .int .u32 x.f1.f2, .int .i64 x.f1.f3.f0, .int .i64 x.f1.f3.f1, .int .i64 x.f1.f3.f2, .int .i64 x.f1.f3.f3, .int .i64 x.f1.f4, .int .i64 x.f2, .int .u64 x.f3, .slice A11 x.f4.length c11, .int .u64 x.f5, .int .u64 x.f6, .int .u64 x.f7, .bool x.f8] ∧ x.f4.length ≤ c11 ∧ Kd.C k87 w A11 x.f4.length x.f4 := by
  obtain ⟨_, _, rfl, rfl, ⟨_, _, rfl, s1, ⟨_, _, rfl, rfl, ⟨_, _, rfl, rfl, ⟨_, _, rfl, ⟨A11, c11, rfl, l11, g11⟩, ⟨_, _, rfl, rfl, ⟨_, _, rfl, rfl, ⟨_, _, rfl, rfl, rfl⟩⟩⟩⟩⟩⟩⟩⟩ := h
  obtain rfl := k43_open s1
  exact ⟨A11, c11, rfl, l11, g11⟩
theorem k57_mk (w : World) (x : S57) {A11 : Option Addr} {c11 : Nat} (l11 : x.f4.length ≤ c11) (g11 : Kd.C k87 w A11 x.f4.length x.f4) : k57.K w x [.int .i64 x.f0, .int .i64 x.f1.f0, .bool x.f1.f1, .int .u32 x.f1.f2, .int .i64 x.f1.f3.f0, .int .i64 x.f1.f3.f1, .int .i64 x.f1.f3.f2, .int .i64 x.f1.f3.f3, .int .i64 x.f1.f4, .int .i64 x.f2, .int .u64 x.f3, .slice A11 x.f4.length c11, .int .u64 x.f5, .int .u64 x.f6, .int .u64 x.f7, .bool x.f8] :=
  ⟨[.int .i64 x.f0], _, rfl, rfl, ⟨_, _, rfl, k43_mk w x.f1, ⟨[.int .i64 x.f2], _, rfl, rfl, ⟨[.int .u64 x.f3], _, rfl, rfl, ⟨[.slice A11 x.f4.length c11], _, rfl, ⟨A11, c11, rfl, l11, g11⟩, ⟨[.int .u64 x.f5], _, rfl, rfl, ⟨[.int .u64 x.f6], _, rfl, rfl, ⟨[.int .u64 x.f7], [.bool x.f8], rfl, rfl, rfl⟩⟩⟩⟩⟩⟩⟩⟩
theorem k57_mkM (w : World) (base : Nat) (ok : Nat → Prop) (x : S57) {v11 : Value} (g11 : Kd.R k87 87 w base ok v11 x.f4) : k57.M w base ok x [.int .i64 x.f0, .int .i64 x.f1.f0, .bool x.f1.f1, .int .u32 x.f1.f2, .int .i64 x.f1.f3.f0, .int .i64 x.f1.f3.f1, .int .i64 x.f1.f3.f2, .int .i64 x.f1.f3.f3, .int .i64 x.f1.f4, .int .i64 x.f2, .int .u64 x.f3, v11, .int .u64 x.f5, .int .u64 x.f6, .int .u64 x.f7, .bool x.f8] :=
  ⟨[.int .i64 x.f0], _, rfl, rfl, ⟨_, _, rfl, k43_mkM w base ok x.f1, ⟨[.int .i64 x.f2], _, rfl, rfl, ⟨[.int .u64 x.f3], _, rfl, rfl, ⟨[v11], _, rfl, ⟨v11, rfl, g11⟩, ⟨[.int .u64 x.f5], _, rfl, rfl, ⟨[.int .u64 x.f6], _, rfl, rfl, ⟨[.int .u64 x.f7], [.bool x.f8], rfl, rfl, rfl⟩⟩⟩⟩⟩⟩⟩⟩
def rd_T57 (xs : List S57) (i : Int) : S57 := xs.getD i.toNat z57
theorem at_T57 {w : World} {A : Option Addr} {n : Nat} {xs : List S57} (h : Kd.C k57 w A n xs) (i : Int) (h0 : 0 ≤ i) (h1 : i < n) : ∃ ad A11 c11, A = some ad ∧ w.cell? (ad.add (i.toNat * 16)) = some (.int .i64 (rd_T57 xs i).f0) ∧ w.cell? ⟨(ad.add (i.toNat * 16)).block, (ad.add (i.toNat * 16)).off + 1, none⟩ = some (.int .i64 (rd_T57 xs i).f1.f0) ∧ w.cell? ⟨(ad.add (i.toNat * 16)).block, (ad.add (i.toNat * 16)).off + 2, none⟩ = some (.bool (rd_T57 xs i).f1.f1) ∧ w.cell? ⟨(ad.add (i.toNat * 16)).block, (ad.add (i.toNat * 16)).off + 3, none⟩ = some (.int .u32 (rd_T57 xs i).f1.f2) ∧ w.cell? ⟨(ad.add (i.toNat * 16)).block, (ad.add (i.toNat * 16)).off + 4, none⟩ = some (.int .i64 (rd_T57 xs i).f1.f3.f0) ∧ w.cell? ⟨(ad.add (i.toNat * 16)).block, (ad.add (i.toNat * 16)).off + 5, none⟩ = some (.int .i64 (rd_T57 xs i).f1.f3.f1) ∧ w.cell? ⟨(ad.add (i.toNat * 16)).block, (ad.add (i.toNat * 16)).off + 6, none⟩ = some (.int .i64 (rd_T57 xs i).f1.f3.f2) ∧ w.cell? ⟨(ad.add (i.toNat * 16)).block, (ad.add (i.toNat * 16)).off + 7, none⟩ = some (.int .i64 (rd_T57 xs i).f1.f3.f3) ∧ w.cell? ⟨(ad.add (i.toNat * 16)).block, (ad.add (i.toNat * 16)).off + 8, none⟩ = some (.int .i64 (rd_T57 xs i).f1.f4) ∧ w.cell? ⟨(ad.add (i.toNat * 16)).block, (ad.add (i.toNat * 16)).off + 9, none⟩ = some (.int .i64 (rd_T57 xs i).f2) ∧ w.cell? ⟨(ad.add (i.toNat * 16)).block, (ad.add (i.toNat * 16)).off + 10, none⟩ = some (.int .u64 (rd_T57 xs i).f3) ∧ w.cell? ⟨(ad.add (i.toNat * 16)).block, (ad.add (i.toNat * 16)).off + 11, none⟩ = some (.slice A11 (rd_T57 xs i).f4.length c11) ∧ w.cell? ⟨(ad.add (i.toNat * 16)).block, (ad.add (i.toNat * 16)).off + 12, none⟩ = some (.int .u64 (rd_T57 xs i).f5) ∧ w.cell? ⟨(ad.add (i.toNat * 16)).block, (ad.add (i.toNat * 16)).off + 13, none⟩ = some (.int .u64 (rd_T57 xs i).f6) ∧ w.cell? ⟨(ad.add (i.toNat * 16)).block, (ad.add (i.toNat * 16)).off + 14, none⟩ = some (.int .u64 (rd_T57 xs i).f7) ∧ w.cell? ⟨(ad.add (i.toNat * 16)).block, (ad.add (i.toNat * 16)).off + 15, none⟩ = some (.bool (rd_T57 xs i).f8) ∧ (rd_T57 xs i).f4.length ≤ c11 ∧ Kd.C k87 w A11 (rd_T57 xs i).f4.length (rd_T57 xs i).f4 := by
  obtain ⟨ad, c, e, _, hK, hc0⟩ := Kd.C_get h z57 i h0 h1
  have hc : ∀ j u, c[j]? = some u → w.cell? (ad.add (i.toNat * 16 + j)) = some u := hc0
  obtain ⟨A11, c11, rfl, l11, g11⟩ := k57_open hK
  exact ⟨ad, A11, c11, e, hc 0 _ rfl, by rw [← add_field _ _ 1 (by omega)]; exact hc 1 _ rfl, by rw [← add_field _ _ 2 (by omega)]; exact hc 2 _ rfl, by rw [← add_field _ _ 3 (by omega)]; exact hc 3 _ rfl, by rw [← add_field _ _ 4 (by omega)]; exact hc 4 _ rfl, by rw [← add_field _ _ 5 (by omega)]; exact hc 5 _ rfl, by rw [← add_field _ _ 6 (by omega)]; exact hc 6 _ rfl, by rw [← add_field _ _ 7 (by omega)]; exact hc 7 _ rfl, by rw [← add_field _ _ 8 (by omega)]; exact hc 8 _ rfl, by rw [← add_field _ _ 9 (by omega)]; exact hc 9 _ rfl, by rw [← add_field _ _ 10 (by omega)]; exact hc 10 _ rfl, by rw [← add_field _ _ 11 (by omega)]; exact hc 11 _ rfl, by rw [← add_field _ _ 12 (by omega)]; exact hc 12 _ rfl, by rw [← add_field _ _ 13 (by omega)]; exact hc 13 _ rfl, by rw [← add_field _ _ 14 (by omega)]; exact hc 14 _ rfl, by rw [← add_field _ _ 15 (by omega)]; exact hc 15 _ rfl, l11, g11⟩

end Go.Proofs.YthkheemjgcbofaaDoor

namespace Go.Proofs.YthkheemjgcbofaaDoor
set_option linter.unusedVariables false
set_option linter.unusedSimpArgs false
open Go.RowKit Go.Proofs.YthkheemjgcbofaaDoor.PSc Go.Proofs.YthkheemjgcbofaaDoorW.PrintWords

structure Ok87 (r : S87) : Prop where
  row : 0 ≤ r.f0 ∧ r.f0 ≤ 4294967295
  x0 : I64 r.f1.f0
  x1 : I64 r.f1.f1
  y0 : I64 r.f1.f2
  y1 : I64 r.f1.f3
  v : I64 r.f2
structure Ok57 (h : S57) : Prop where
  s : I64 h.f0
  op : Ok43 h.f1
  e : I64 h.f2
  t : U64 h.f3
  a : U64 h.f5
  b : U64 h.f6
  c : U64 h.f7
  rows : ∀ r, r ∈ h.f4 → Ok87 r
def rowT (r : S87) : By := [114, 111, 119] ++ blanked [r.f0] ++ blanked [r.f1.f0, r.f1.f1, r.f1.f2, r.f1.f3] ++ blanked [r.f2] ++ [10]
def heardT (h : S57) : By := [104, 101, 97, 114, 100] ++ blanked [h.f0] ++ (32 :: verbF h.f1.f0) ++ blanked [h.f2] ++ blanked [h.f5, h.f6, h.f7] ++ blanked [bitF h.f8] ++ [10] ++ h.f4.flatMap rowT
def headT (k e d n : Int) : By := (if e = 0 then (if k = 3 then [111, 107] ++ blanked [d, n] else [111, 107]) else [101, 114, 114] ++ blanked [e]) ++ [10]
def toldT (k e d n : Int) (hs : List S57) : By := headT k e d n ++ hs.flatMap heardT
theorem I64.row {r : S87} (h : Ok87 r) : I64 r.f0 := ⟨by have := h.row; omega, by have := h.row; omega⟩
theorem b1_le {n : Int} (h : I64 n) : (blanked [n]).length ≤ 22 := blanked_le [n] (by simpa using h)
theorem rowT_le (r : S87) (h : Ok87 r) : (rowT r).length ≤ 140 := by
  have h1 := b1_le (I64.row h)
  have h2 := blanked_le [r.f1.f0, r.f1.f1, r.f1.f2, r.f1.f3] (by intro n hn; simp at hn; rcases hn with rfl | rfl | rfl | rfl; exact h.x0; exact h.x1; exact h.y0; exact h.y1)
  have h3 := b1_le h.v
  unfold rowT
  simp only [List.length_append, List.length_cons, List.length_nil] at h2 ⊢
  omega
theorem rows_le (l : List S87) (h : ∀ r, r ∈ l → Ok87 r) : (l.flatMap rowT).length ≤ 140 * l.length := by
  induction l with
  | nil => simp
  | cons r l ih =>
    have h1 := ih (fun y hy => h y (by simp [hy]))
    have h2 := rowT_le r (h r (by simp))
    simp only [List.flatMap_cons, List.length_append, List.length_cons]
    omega
def heardH (h : S57) : By := [104, 101, 97, 114, 100] ++ blanked [h.f0] ++ (32 :: verbF h.f1.f0) ++ blanked [h.f2] ++ blanked [h.f5, h.f6, h.f7] ++ blanked [bitF h.f8] ++ [10]
theorem heardH_le (h : S57) (hk : Ok57 h) : (heardH h).length ≤ 150 := by
  have h1 := b1_le hk.s
  have h2 := b1_le hk.e
  have h3 := blankedU_le [h.f5, h.f6, h.f7] (by intro n hn; simp at hn; rcases hn with rfl | rfl | rfl; exact hk.a; exact hk.b; exact hk.c)
  have h4 := b1_le (bitF_i64 h.f8)
  have h5 := verbF_le h.f1.f0
  unfold heardH
  simp only [List.length_append, List.length_cons, List.length_nil] at h3 ⊢
  omega
theorem heard_le (h : S57) (hk : Ok57 h) : (heardT h).length ≤ 150 + 140 * h.f4.length := by
  have h1 := heardH_le h hk
  have h2 := rows_le h.f4 hk.rows
  have e : heardT h = heardH h ++ h.f4.flatMap rowT := rfl
  rw [e, List.length_append]
  omega
theorem heards_le (l : List S57) (h : ∀ r, r ∈ l → Ok57 r ∧ r.f4.length ≤ 9) : (l.flatMap heardT).length ≤ 1500 * l.length := by
  induction l with
  | nil => simp
  | cons r l ih =>
    have h1 := ih (fun y hy => h y (by simp [hy]))
    have h2 := heard_le r (h r (by simp)).1
    have h3 := (h r (by simp)).2
    simp only [List.flatMap_cons, List.length_append, List.length_cons]
    omega

def LPost (T : By) (w : World) (e : Ending) (w' : World) : Prop := e = .returned (.string ⟨T.toArray⟩) ∧ Below w.heap.size w w'
end Go.Proofs.YthkheemjgcbofaaDoor

namespace Go.Proofs.YthkheemjgcbofaaDoor
set_option linter.unusedVariables false
set_option linter.unusedSimpArgs false
open Go.RowKit Go.ChangeShapes Go.WideShapes Go.Deep Go.Proofs.YthkheemjgcbofaaDoor.PSc Go.Proofs.YthkheemjgcbofaaDoorW.PrintWords

theorem len2 {l : List Value} (h : l.length = 2) : ∃ a0 a1, l = [a0, a1] := by
  match l, h with
  | [a0, a1], _ => exact ⟨a0, a1, rfl⟩
theorem len6 {l : List Value} (h : l.length = 6) : ∃ a0 a1 a2 a3 a4 a5, l = [a0, a1, a2, a3, a4, a5] := by
  match l, h with
  | [a0, a1, a2, a3, a4, a5], _ => exact ⟨a0, a1, a2, a3, a4, a5, rfl⟩
theorem len7 {l : List Value} (h : l.length = 7) : ∃ a0 a1 a2 a3 a4 a5 a6, l = [a0, a1, a2, a3, a4, a5, a6] := by
  match l, h with
  | [a0, a1, a2, a3, a4, a5, a6], _ => exact ⟨a0, a1, a2, a3, a4, a5, a6, rfl⟩
theorem len16 {l : List Value} (h : l.length = 16) : ∃ a0 a1 a2 a3 a4 a5 a6 a7 a8 a9 a10 a11 a12 a13 a14 a15, l = [a0, a1, a2, a3, a4, a5, a6, a7, a8, a9, a10, a11, a12, a13, a14, a15] := by
  match l, h with
  | [a0, a1, a2, a3, a4, a5, a6, a7, a8, a9, a10, a11, a12, a13, a14, a15], _ => exact ⟨a0, a1, a2, a3, a4, a5, a6, a7, a8, a9, a10, a11, a12, a13, a14, a15, rfl⟩
theorem c28 : Tryd.prog.cellsOf 28 = 1 := by kernel_rfl
theorem c47 : Tryd.prog.cellsOf 47 = 1 := by kernel_rfl
theorem c49 : Tryd.prog.cellsOf 49 = 2 := by kernel_rfl
theorem c51 : Tryd.prog.cellsOf 51 = 4 := by kernel_rfl
theorem c52 : Tryd.prog.cellsOf 52 = 1 := by kernel_rfl
theorem c53 : Tryd.prog.cellsOf 53 = 1 := by kernel_rfl
theorem c55 : Tryd.prog.cellsOf 55 = 3 := by kernel_rfl
theorem c57 : Tryd.prog.cellsOf 57 = 16 := by kernel_rfl
theorem c87 : Tryd.prog.cellsOf 87 = 6 := by kernel_rfl
theorem rd28 : Rds (Kd.int .i64) 28 (fun n => (Lit.int .i64 n).wf = true) := rds_int Tryd.underlying28
theorem rd52 : Rds (Kd.int .u64) 52 (fun n => (Lit.int .u64 n).wf = true) := rds_int Tryd.underlying52
theorem wf_u64' {n : Int} (h : (Lit.int .u64 n).wf = true) : U64 n := by
  have := wf_u64 h
  unfold U64
  omega
theorem rd87 : Rds k87 87 Ok87 := fun H enc w base spare held fuel cs x h => by
  obtain ⟨xs, n, _, _, hl, hx, hf⟩ := DataW.trod_struct Tryd.underlying87 h
  rw [c87] at hl
  obtain ⟨e0, e1, e2, e3, e4, e5, rfl⟩ := len6 hl
  have hx5 : xs.length = 3 := hx
  obtain ⟨n0, h0, w0⟩ := fld rd39 0 c39 hf 0 (by omega) rfl rfl rfl
  obtain ⟨n1, h1, w1⟩ := fld rd41 1 c41 hf 1 (by omega) rfl rfl rfl
  obtain ⟨n2, h2, w2⟩ := fld rd2 5 c2 hf 2 (by omega) rfl rfl rfl
  obtain rfl : e0 = .int .u32 n0 := List.head_eq_of_cons_eq h0
  have h1' := k41_open h1
  simp only [List.drop_succ_cons, List.drop_zero, List.take_succ_cons, List.take_zero, List.cons.injEq, and_true] at h1'
  obtain ⟨rfl, rfl, rfl, rfl⟩ := h1'
  obtain rfl : e5 = .int .i64 n2 := List.head_eq_of_cons_eq h2
  exact ⟨⟨n0, n1, n2⟩, k87_mk w _, wf_u32 w0, w1.1, w1.2.1, w1.2.2.1, w1.2.2.2, wf_i64 w2⟩
theorem rd53 : Rds (Kd.slice 87 k87) 53 (fun xs => ∀ x, x ∈ xs → Ok87 x) := rds_slice 87 Tryd.underlying53 c87 rd87
def k55 : Kd (Int × Int × List S87) := Kd.pair (Kd.int .i64) (Kd.pair (Kd.int .u64) (Kd.slice 87 k87))
theorem rd55 : Rds k55 55 (fun x => I64 x.1 ∧ U64 x.2.1 ∧ ∀ r, r ∈ x.2.2 → Ok87 r) := fun H enc w base spare held fuel cs x h => by
  obtain ⟨xs, n, _, _, hl, hx, hf⟩ := DataW.trod_struct Tryd.underlying55 h
  rw [c55] at hl
  obtain ⟨e0, e1, e2, rfl⟩ := len3 hl
  have hx5 : xs.length = 3 := hx
  obtain ⟨n0, h0, w0⟩ := fld rd28 0 c28 hf 0 (by omega) rfl rfl rfl
  obtain ⟨n1, h1, w1⟩ := fld rd52 1 c52 hf 1 (by omega) rfl rfl rfl
  obtain ⟨n2, h2, w2⟩ := fld rd53 2 c53 hf 2 (by omega) rfl rfl rfl
  obtain rfl : e0 = .int .i64 n0 := List.head_eq_of_cons_eq h0
  obtain rfl : e1 = .int .u64 n1 := List.head_eq_of_cons_eq h1
  have h2' : (Kd.slice 87 k87).K w n2 [e2] := h2
  exact ⟨(n0, n1, n2), ⟨[.int .i64 n0], _, rfl, rfl, ⟨[.int .u64 n1], [e2], rfl, rfl, h2'⟩⟩, wf_i64 w0, wf_u64' w1, w2⟩
theorem rd57 : Rds k57 57 Ok57 := fun H enc w base spare held fuel cs x h => by
  obtain ⟨xs, n, _, _, hl, hx, hf⟩ := DataW.trod_struct Tryd.underlying57 h
  rw [c57] at hl
  obtain ⟨e0, e1, e2, e3, e4, e5, e6, e7, e8, e9, e10, e11, e12, e13, e14, e15, rfl⟩ := len16 hl
  have hx7 : xs.length = 7 := hx
  obtain ⟨n0, h0, w0⟩ := fld rd3 0 c3 hf 0 (by omega) rfl rfl rfl
  obtain ⟨n1, h1, w1⟩ := fld rd43 1 c43 hf 1 (by omega) rfl rfl rfl
  obtain ⟨⟨n2, n3, n4⟩, h2, w2⟩ := fld rd55 9 c55 hf 2 (by omega) rfl rfl rfl
  obtain ⟨n5, h5, w5⟩ := fld rd52 12 c52 hf 3 (by omega) rfl rfl rfl
  obtain ⟨n6, h6, w6⟩ := fld rd52 13 c52 hf 4 (by omega) rfl rfl rfl
  obtain ⟨n7, h7, w7⟩ := fld rd52 14 c52 hf 5 (by omega) rfl rfl rfl
  obtain ⟨n8, h8, w8⟩ := fld rd4 15 c4 hf 6 (by omega) rfl rfl rfl
  obtain rfl : e0 = .int .i64 n0 := List.head_eq_of_cons_eq h0
  have h1' := k43_open h1
  simp only [List.drop_succ_cons, List.drop_zero, List.take_succ_cons, List.take_zero, List.cons.injEq, and_true] at h1'
  obtain ⟨rfl, rfl, rfl, rfl, rfl, rfl, rfl, rfl⟩ := h1'
  obtain ⟨p0, p1, hp, rfl, ⟨q0, q1, rfl, rfl, ⟨A, c, rfl, hlc, hC⟩⟩⟩ := h2
  simp only [List.drop_succ_cons, List.drop_zero, List.take_succ_cons, List.take_zero, List.cons_append, List.nil_append, List.cons.injEq, and_true] at hp
  obtain ⟨rfl, rfl, rfl⟩ := hp
  obtain rfl : e12 = .int .u64 n5 := List.head_eq_of_cons_eq h5
  obtain rfl : e13 = .int .u64 n6 := List.head_eq_of_cons_eq h6
  obtain rfl : e14 = .int .u64 n7 := List.head_eq_of_cons_eq h7
  obtain rfl : e15 = .bool n8 := List.head_eq_of_cons_eq h8
  exact ⟨⟨n0, n1, n2, n3, n4, n5, n6, n7, n8⟩, k57_mk w ⟨n0, n1, n2, n3, n4, n5, n6, n7, n8⟩ hlc hC, ⟨wf_i64 w0, w1, w2.1, w2.2.1, wf_u64' w5, wf_u64' w6, wf_u64' w7, w2.2.2⟩⟩
/-- An event that came in. -/
theorem open46 {H : Type} {enc : TypeId × Value → H} {w : World} {base : Nat} {spare : Nat → Bool} {held : Bool} {fuel : Nat} {cs : List Value} {x : DataW H × List MemPlace} (h : DataW.trod enc Tryd.prog w base spare held fuel 46 cs = some x) :
    ∃ (y : S46) (v : Value), cs = (vals46 y v).toList := by
  obtain ⟨y, hy, _⟩ := rd46 H enc w base spare held fuel cs x h
  obtain ⟨A, c, h1, _, _⟩ := k46_open hy
  exact ⟨y, _, h1⟩
/-- What is told, come in. -/
theorem open51 {H : Type} {enc : TypeId × Value → H} {w : World} {base : Nat} {spare : Nat → Bool} {held : Bool} {fuel : Nat} {cs : List Value} {x : DataW H × List MemPlace} (h : DataW.trod enc Tryd.prog w base spare held fuel 51 cs = some x) :
    ∃ (te td tn : Int) (hs : List S57) (B : Option Addr) (d : Nat), cs = [.int .i64 te, .slice B hs.length d, .int .i64 td, .int .i64 tn] ∧ I64 te ∧ I64 td ∧ I64 tn ∧ (∀ y, y ∈ hs → Ok57 y) ∧ Kd.C k57 w B hs.length hs ∧ hs.length ≤ d := by
  obtain ⟨xs, n, _, _, hl, hx, hf⟩ := DataW.trod_struct Tryd.underlying51 h
  rw [c51] at hl
  obtain ⟨e0, e1, e2, e3, rfl⟩ := len4 hl
  have hx3 : xs.length = 3 := hx
  obtain ⟨n0, h0, w0⟩ := fld rd28 0 c28 hf 0 (by omega) rfl rfl rfl
  obtain ⟨n1, h1, w1⟩ := fld (rds_slice 57 Tryd.underlying47 c57 rd57) 1 c47 hf 1 (by omega) rfl rfl rfl
  obtain ⟨A, c, h1', hlc, hC⟩ := h1
  obtain rfl : e0 = .int .i64 n0 := List.head_eq_of_cons_eq h0
  obtain rfl : e1 = .slice A n1.length c := List.head_eq_of_cons_eq h1'
  have h49' : DataW.trod enc Tryd.prog w base spare held n 49 (([.int .i64 n0, .slice A n1.length c, e2, e3].drop 2).take (Tryd.prog.cellsOf 49)) = xs[2]? := hf 2 _ rfl
  rw [c49] at h49'
  have h49 : DataW.trod enc Tryd.prog w base spare held n 49 [e2, e3] = some (xs[2]'(by rw [hx3]; decide)) := h49'.trans (List.getElem?_eq_getElem (show 2 < xs.length by rw [hx3]; decide))
  obtain ⟨ys, n', _, _, hl', hx', hf'⟩ := DataW.trod_struct Tryd.underlying49 h49
  have hy2 : ys.length = 2 := hx'
  obtain ⟨m0, g0, v0⟩ := fld rd3 0 c3 hf' 0 (show 0 < ys.length by rw [hy2]; decide) rfl rfl rfl
  obtain ⟨m1, g1, v1⟩ := fld rd3 1 c3 hf' 1 (show 1 < ys.length by rw [hy2]; decide) rfl rfl rfl
  obtain rfl : e2 = .int .i64 m0 := List.head_eq_of_cons_eq g0
  obtain rfl : e3 = .int .i64 m1 := List.head_eq_of_cons_eq g1
  exact ⟨n0, m0, m1, n1, A, c, rfl, wf_i64 w0, wf_i64 v0, wf_i64 v1, w1, hC, hlc⟩
end Go.Proofs.YthkheemjgcbofaaDoor
