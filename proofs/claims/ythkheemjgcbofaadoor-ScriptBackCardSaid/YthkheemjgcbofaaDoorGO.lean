/-
  Numbers and parts of lines: what is written is read back, and what is read was written so (plain laws).
  Operations and events: what is written is read back, and what is read was written so (plain laws).
  Operations and events, the way back: what is read was written so (plain laws).
  Events, written and read back; and the way back (plain laws).
  Events and scripts, the way back, and both ways for whole texts (plain laws).
-/
import Derived.Test.YthkheemjgcbofaaDoorGB
import Derived.Test.YthkheemjgcbofaaDoorGA
import Derived.Test.YthkheemjgcbofaaDoorGH
import Derived.Test.YthkheemjgcbofaaDoorGD
import Derived.Test.YthkheemjgcbofaaDoorGI
import Derived.Test.YthkheemjgcbofaaDoorGJ
import Derived.Test.YthkheemjgcbofaaDoorGP

namespace Go.Proofs.YthkheemjgcbofaaDoor
set_option linter.unusedVariables false
set_option linter.unusedSimpArgs false
open Go.RowKit Go.Proofs.YthkheemjgcbofaaDoor.PSc

theorem uintM_append (M : Nat) (l2 : By) (a : Nat) : ∀ (l1 : By) (acc : Nat), Lib.parseUintM M acc l1 = .ok a → Lib.parseUintM M acc (l1 ++ l2) = Lib.parseUintM M a l2 := by
  intro l1
  induction l1 with
  | nil => intro acc h; rw [Lib.parseUintM] at h; injection h with h; rw [h]; rfl
  | cons c l ih =>
    intro acc h
    rw [Lib.parseUintM] at h
    rw [List.cons_append, Lib.parseUintM]
    split at h
    · rename_i h1
      split at h
      · cases h
      · rename_i h2
        split at h
        · cases h
        · rename_i h3
          rw [if_pos h1, if_neg h2, if_neg h3]
          exact ih _ h
    · cases h
theorem u8_dig (d : Nat) (h : d < 10) : (UInt8.ofNat (48 + d)).toNat = 48 + d := by
  rw [UInt8.toNat_ofNat']; omega
theorem dec_parse (M : Nat) (hM : M ≤ 18446744073709551615) (u : Nat) : u ≤ M → Lib.parseUintM M 0 (Lib.decDigits u) = .ok u := by
  induction u using Nat.strongRecOn with
  | ind u ih =>
    intro hu
    rw [Lib.decDigits]
    by_cases h : u < 10
    · rw [dif_pos h, Lib.parseUintM, u8_dig u h, if_pos (by omega), if_neg (by omega), if_neg (by omega), Lib.parseUintM]
      congr 1; omega
    · rw [dif_neg h, uintM_append M _ (u / 10) _ _ (ih (u / 10) (by omega) (by omega)), Lib.parseUintM, u8_dig (u % 10) (by omega), if_pos (by omega), if_neg (by omega), if_neg (by omega), Lib.parseUintM]
      congr 1; omega
theorem dec_chars (u : Nat) : (∀ c, c ∈ Lib.decDigits u → 48 ≤ c.toNat ∧ c.toNat ≤ 57) ∧ Lib.decDigits u ≠ [] := by
  induction u using Nat.strongRecOn with
  | ind u ih =>
    rw [Lib.decDigits]
    by_cases h : u < 10
    · rw [dif_pos h]
      refine ⟨fun c hc => ?_, by simp⟩
      rw [List.mem_singleton.1 hc, u8_dig u h]; omega
    · rw [dif_neg h]
      refine ⟨fun c hc => ?_, by simp⟩
      rcases List.mem_append.1 hc with hc | hc
      · exact (ih (u / 10) (by omega)).1 c hc
      · rw [List.mem_singleton.1 hc, u8_dig (u % 10) (by omega)]; omega
theorem itoa_ne (n : Int) : Lib.itoa n ≠ [] := by
  unfold Lib.itoa; split
  · simp
  · exact (dec_chars _).2
theorem itoa_chars (n : Int) : ∀ c, c ∈ Lib.itoa n → c.toNat = 45 ∨ (48 ≤ c.toNat ∧ c.toNat ≤ 57) := by
  intro c hc
  unfold Lib.itoa at hc
  split at hc
  · rcases List.mem_cons.1 hc with rfl | hc
    · left; rfl
    · right; exact (dec_chars _).1 c hc
  · right; exact (dec_chars _).1 c hc
theorem itoa_no (n : Int) (b : UInt8) (hb : b.toNat < 45) : b ∉ Lib.itoa n := fun h => by
  rcases itoa_chars n b h with h | h <;> omega
theorem itoa_parse (n : Int) (h : I64 n) : Lib.parseIntB 64 (Lib.itoa n) = .ok n := by
  obtain ⟨h0, h1⟩ := h
  unfold Lib.itoa
  by_cases hn : n < 0
  · rw [if_pos hn]
    have hd := dec_parse (2 ^ 64 - 1) (by decide) n.natAbs (by omega)
    have hne := (dec_chars n.natAbs).2
    unfold Lib.parseIntB Lib.parseUintB
    have e45 : (45 : UInt8).toNat = 45 := rfl
    simp only [e45, or_true, if_true, hne, if_false, hd]
    rw [if_neg (by simp), if_neg (by simp; omega)]
    congr 1; omega
  · rw [if_neg hn]
    have hd := dec_parse (2 ^ 64 - 1) (by decide) n.toNat (by omega)
    obtain ⟨hc, hne⟩ := dec_chars n.toNat
    generalize hl : Lib.decDigits n.toNat = l at *
    cases l with
    | nil => exact absurd rfl hne
    | cons c r =>
      have h48 := hc c (by simp)
      unfold Lib.parseIntB Lib.parseUintB
      have e1 : ¬ (c.toNat = 43 ∨ c.toNat = 45) := by omega
      have e2 : ¬ c.toNat = 45 := by omega
      simp only [e1, if_false, hd, List.cons_ne_nil]
      rw [if_neg (by omega), if_neg (by simp [e2])]
      simp only [e2, if_false]
      congr 1; omega
theorem numOf_itoa (n : Int) (h : I64 n) : numOf (Lib.itoa n) = (n, true) := by
  unfold numOf; rw [itoa_parse n h]; simp
theorem numOf_true (s : By) (h : (numOf s).2 = true) : s = Lib.itoa (numOf s).1 ∧ I64 (numOf s).1 := by
  unfold numOf at h ⊢
  cases hp : Lib.parseIntB 64 s
  · rw [hp] at h
    simp only [beq_iff_eq] at h ⊢
    exact ⟨h.symm, parse_range s _ hp⟩
  · rw [hp] at h; simp at h
  · rw [hp] at h; simp at h

/-- What stands behind a part. -/
def sp (l : By) : By := if l = [] then [] else 32 :: l
theorem tok_fwd (t l : By) (b : Bool) (ht : (32 : UInt8) ∉ t) : tok ⟨t ++ sp l, b⟩ = (t, ⟨l, b⟩) := by
  unfold tok sp
  simp only [cut_eq]
  by_cases hl : l = []
  · subst hl
    rw [if_pos rfl, List.append_nil]
    have hf : (cut1 32 t).2.2 = false := by
      cases h : (cut1 32 t).2.2
      · rfl
      · exact absurd (by rw [cut1_found 32 t h]; simp) ht
    rw [cut1_none 32 t hf]
    simp
  · rw [if_neg hl, cut1_append 32 t l ht]
    cases l with
    | nil => exact absurd rfl hl
    | cons a l => simp
theorem tok_back (r : Rd) (h : (tok r).2.bad = false) : r.bad = false ∧ r.rest = (tok r).1 ++ sp (tok r).2.rest ∧ (32 : UInt8) ∉ (tok r).1 := by
  unfold tok sp at *
  simp only [cut_eq] at *
  have hm := cut1_mem 32 r.rest
  cases hc : (cut1 32 r.rest).2.2
  · rw [hc] at h
    have := cut1_none 32 r.rest hc
    rw [this] at hm ⊢
    refine ⟨by simpa using h, by simp, hm⟩
  · have hf := cut1_found 32 r.rest hc
    rw [hc] at h
    by_cases he : (cut1 32 r.rest).2.1 = []
    · rw [he] at h; simp at h
    · rw [if_neg he]
      refine ⟨?_, hf, hm⟩
      have : (cut1 32 r.rest).2.1.isEmpty = false := by simpa using he
      rw [this] at h
      simpa using h
theorem num_fwd (n : Int) (l : By) (b : Bool) (h : I64 n) : num ⟨Lib.itoa n ++ sp l, b⟩ = (n, ⟨l, b⟩) := by
  unfold num
  rw [tok_fwd _ _ _ (itoa_no n 32 (by decide))]
  simp [numOf_itoa n h]
theorem num_back (r : Rd) (h : (num r).2.bad = false) : r.bad = false ∧ sp r.rest = 32 :: Lib.itoa (num r).1 ++ sp (num r).2.rest ∧ I64 (num r).1 := by
  unfold num at *
  simp only at *
  cases hn : (numOf (tok r).1).2
  · rw [hn] at h; simp at h
  · rw [hn] at h
    obtain ⟨h1, h2, h3⟩ := tok_back r (by simpa using h)
    obtain ⟨h4, h5⟩ := numOf_true _ hn
    have hne : r.rest ≠ [] := by
      rw [h2, h4]
      intro e
      exact itoa_ne _ (List.append_eq_nil_iff.1 e).1
    refine ⟨h1, ?_, h5⟩
    rw [← h4]
    conv => lhs; rw [sp, if_neg hne, h2]
    rfl
theorem nums_fwd (ns : List Int) (h : ∀ n, n ∈ ns → I64 n) : ∀ (l r : By) (b : Bool), sp r = blanked ns ++ sp l → nums ns.length ⟨r, b⟩ = (ns, ⟨l, b⟩) := by
  induction ns with
  | nil =>
    intro l r b hr
    have : r = l := by
      simp only [blanked, List.flatMap_nil, List.nil_append, sp] at hr
      by_cases h1 : r = [] <;> by_cases h2 : l = [] <;> simp [h1, h2] at hr ⊢
      exact hr
    rw [this]; rfl
  | cons n ns ih =>
    intro l r b hr
    have hr' : r = Lib.itoa n ++ (blanked ns ++ sp l) := by
      unfold sp at hr
      by_cases h1 : r = []
      · rw [if_pos h1] at hr; simp [blanked] at hr
      · rw [if_neg h1] at hr
        simp only [blanked, List.flatMap_cons, List.cons_append, List.append_assoc, List.cons.injEq, true_and] at hr
        simpa [blanked, sp] using hr
    obtain ⟨q, hq⟩ : ∃ q, sp q = blanked ns ++ sp l := by
      cases ns with
      | nil => exact ⟨l, rfl⟩
      | cons m ns => exact ⟨Lib.itoa m ++ (blanked ns ++ sp l), by rw [sp, if_neg (by intro e; exact itoa_ne m (List.append_eq_nil_iff.1 e).1)]; simp [blanked]⟩
    rw [hr', ← hq]
    simp only [List.length_cons, nums]
    rw [num_fwd n q b (h n (by simp)), ih (fun m hm => h m (by simp [hm])) l q b hq]
theorem nums_back (k : Nat) : ∀ (r : Rd), (nums k r).2.bad = false → r.bad = false ∧ sp r.rest = blanked (nums k r).1 ++ sp (nums k r).2.rest ∧ ∀ n, n ∈ (nums k r).1 → I64 n := by
  induction k with
  | zero => intro r h; exact ⟨h, by simp [nums, blanked], by simp [nums]⟩
  | succ k ih =>
    intro r h
    simp only [nums] at h ⊢
    obtain ⟨h1, h2, h3⟩ := ih _ h
    obtain ⟨h4, h5, h6⟩ := num_back r h1
    refine ⟨h4, ?_, ?_⟩
    · rw [h5, h2]; simp [blanked]
    · intro n hn
      rcases List.mem_cons.1 hn with rfl | hn
      · exact h6
      · exact h3 n hn
end Go.Proofs.YthkheemjgcbofaaDoor

namespace Go.Proofs.YthkheemjgcbofaaDoor
set_option linter.unusedVariables false
set_option linter.unusedSimpArgs false
open Go.RowKit Go.Proofs.YthkheemjgcbofaaDoor.PSc

theorem sp_nil : sp [] = [] := rfl
theorem sp_inj {a b : By} (h : sp a = sp b) : a = b := by
  unfold sp at h
  by_cases h1 : a = [] <;> by_cases h2 : b = [] <;> simp [h1, h2] at h ⊢
  exact h
theorem sp_ex (ns : List Int) (l : By) : ∃ q, sp q = blanked ns ++ sp l := by
  cases ns with
  | nil => exact ⟨l, rfl⟩
  | cons m ns => exact ⟨Lib.itoa m ++ (blanked ns ++ sp l), by rw [sp, if_neg (by intro e; exact itoa_ne m (List.append_eq_nil_iff.1 e).1)]; simp [blanked]⟩
theorem num_fwd' (n : Int) (q l : By) (b : Bool) (h : I64 n) (hq : sp q = blanked [n] ++ sp l) : num ⟨q, b⟩ = (n, ⟨l, b⟩) := by
  have h1 := nums_fwd [n] (by intro m hm; rw [List.mem_singleton.1 hm]; exact h) l q b hq
  simp only [List.length_singleton, nums, Prod.mk.injEq, List.cons.injEq, and_true] at h1
  exact Prod.ext h1.1 h1.2
theorem row_fwd (n : Int) (q l : By) (b : Bool) (h0 : 0 ≤ n) (h1 : n ≤ 4294967295) (hq : sp q = blanked [n] ++ sp l) : row ⟨q, b⟩ = (n, ⟨l, b⟩) := by
  unfold row
  rw [num_fwd' n q l b ⟨by omega, by omega⟩ hq]
  simp only []
  have e1 : n % 4294967296 = n := Int.emod_eq_of_lt h0 (by omega)
  have e2 : (decide (n < 0) || decide (4294967295 < n)) = false := by simp; omega
  rw [e1, e2]; rfl
theorem row_back (r : Rd) (h : (row r).2.bad = false) : r.bad = false ∧ sp r.rest = blanked [(row r).1] ++ sp (row r).2.rest ∧ 0 ≤ (row r).1 ∧ (row r).1 ≤ 4294967295 := by
  unfold row at *
  simp only at *
  by_cases hc : ((num r).1 < 0 || 4294967295 < (num r).1) = true
  · rw [if_pos hc] at h; cases h
  · rw [if_neg hc] at h
    obtain ⟨h1, h2, h3⟩ := num_back r h
    simp at hc
    have e1 : (num r).1 % 4294967296 = (num r).1 := Int.emod_eq_of_lt hc.1 (by omega)
    rw [e1]
    exact ⟨h1, by rw [h2]; simp [blanked], hc.1, hc.2⟩
theorem idx_some (s : By) : ∀ (l : List By) (i : Int), 0 ≤ i → idxF l s i = -1 ∨ ∃ j : Nat, idxF l s i = i + j ∧ j < l.length ∧ l.getD j [] = s := by
  intro l
  induction l with
  | nil => intro i hi; exact .inl rfl
  | cons x l ih =>
    intro i hi
    unfold idxF
    by_cases h : s = x
    · rw [if_pos h]
      exact .inr ⟨0, by omega, by simp, by simp [h]⟩
    · rw [if_neg h]
      rcases ih (i + 1) (by omega) with h1 | ⟨j, h1, h2, h3⟩
      · exact .inl h1
      · exact .inr ⟨j + 1, by omega, by simp; omega, by simpa using h3⟩
theorem verb_idx (k : Int) (h1 : 1 ≤ k) (h2 : k ≤ 6) : idxF verbsL (verbF k) 0 = k ∧ (32 : UInt8) ∉ verbF k ∧ verbF k ≠ [] := by
  obtain rfl | rfl | rfl | rfl | rfl | rfl : k = 1 ∨ k = 2 ∨ k = 3 ∨ k = 4 ∨ k = 5 ∨ k = 6 := by omega
  all_goals exact ⟨by decide, by decide, by decide⟩
theorem idx_verb (t : By) (k : Int) (h : idxF verbsL t 0 = k) (h1 : 1 ≤ k) (h2 : k ≤ 6) : t = verbF k := by
  rcases idx_some t verbsL 0 (by omega) with h3 | ⟨j, h3, h4, h5⟩
  · omega
  · unfold verbF
    rw [if_neg (by omega)]
    have e : k.toNat = j := by omega
    rw [e, h5]
theorem word_idx (k : Int) (h1 : 1 ≤ k) (h2 : k ≤ 7) : max (idxF wordsL (wordsL.getD k.toNat []) 0) 0 = k ∧ (32 : UInt8) ∉ wordsL.getD k.toNat [] ∧ (10 : UInt8) ∉ wordsL.getD k.toNat [] := by
  obtain rfl | rfl | rfl | rfl | rfl | rfl | rfl : k = 1 ∨ k = 2 ∨ k = 3 ∨ k = 4 ∨ k = 5 ∨ k = 6 ∨ k = 7 := by omega
  all_goals exact ⟨by decide, by decide, by decide⟩
theorem idx_word (t : By) (k : Int) (h : max (idxF wordsL t 0) 0 = k) (h1 : 1 ≤ k) : t = wordsL.getD k.toNat [] := by
  rcases idx_some t wordsL 0 (by omega) with h3 | ⟨j, h3, h4, h5⟩
  · omega
  · have e : k.toNat = j := by omega
    rw [e, h5]

/-- An operation, written and read back. -/
theorem op_fwd (x : S43) (q : By) (b : Bool) (hok : Ok43 x) (h1 : 1 ≤ x.f0) (h2 : x.f0 ≤ 6) (hs : spokenF x = x) (hq : sp q = opT x) : opF ⟨q, b⟩ = (x, ⟨[], b⟩) := by
  obtain ⟨hv1, hv2, hv3⟩ := verb_idx x.f0 h1 h2
  obtain ⟨q1, hq1⟩ := sp_ex (opNs x) []
  rw [sp_nil, List.append_nil] at hq1
  have hqq : q = verbF x.f0 ++ sp q1 := by
    apply sp_inj
    rw [hq, hq1, sp, if_neg (by intro e; exact hv3 (List.append_eq_nil_iff.1 e).1)]
    rfl
  have ht := tok_fwd (verbF x.f0) q1 b hv2
  rw [← hqq] at ht
  obtain ⟨x0, x1, x2, ⟨x3, x4, x5, x6⟩, x7⟩ := x
  obtain ⟨_, hrow, o3, o4, o5, o6, o7⟩ := hok
  simp only at *
  unfold opF
  simp only [ht, hv1]
  obtain rfl | rfl | rfl | rfl | rfl | rfl : x0 = 1 ∨ x0 = 2 ∨ x0 = 3 ∨ x0 = 4 ∨ x0 = 5 ∨ x0 = 6 := by omega
  · simp [spokenF, z41] at hs
    obtain ⟨rfl, ⟨rfl, rfl, rfl, rfl⟩, rfl⟩ := hs
    have hn := num_fwd' (bitF x1) q1 [] b (bitF_i64 x1) (by rw [hq1]; simp [opNs, sp])
    simp only [if_true, hn]
    cases x1 <;> simp [bitF, z41]
  · simp [spokenF] at hs
    subst hs
    simp [opNs] at hq1
    obtain ⟨q3, hq3⟩ := sp_ex [x7] []
    obtain ⟨q2, hq2⟩ := sp_ex [x3, x4, x5, x6] q3
    have hr := row_fwd x2 q1 q2 b hrow.1 hrow.2 (by rw [hq1, hq2, hq3]; simp [blanked, sp])
    have hk := nums_fwd [x3, x4, x5, x6] (by intro n hn; simp at hn; rcases hn with rfl | rfl | rfl | rfl <;> assumption) q3 q2 b hq2
    have hv := num_fwd' x7 q3 [] b o7 (by rw [hq3])
    simp only [List.length_cons, List.length_nil] at hk
    simp [hr, hk, hv]
  · simp [spokenF, z41] at hs
    obtain ⟨rfl, ⟨rfl, rfl, rfl, rfl⟩, rfl⟩ := hs
    have hr := row_fwd x2 q1 [] b hrow.1 hrow.2 (by rw [hq1]; simp [opNs, sp])
    simp [hr, z41]
  · simp [spokenF] at hs
    obtain ⟨rfl, rfl, rfl⟩ := hs
    have hk := nums_fwd [x3, x4, x5, x6] (by intro n hn; simp at hn; rcases hn with rfl | rfl | rfl | rfl <;> assumption) [] q1 b (by rw [hq1]; simp [opNs, sp])
    simp only [List.length_cons, List.length_nil] at hk
    simp [hk]
  · simp [spokenF, z41] at hs
    obtain ⟨rfl, rfl, ⟨rfl, rfl, rfl, rfl⟩, rfl⟩ := hs
    have : q1 = [] := sp_inj (by rw [hq1]; simp [opNs, blanked, sp])
    simp [this, z41]
  · simp [spokenF, z41] at hs
    obtain ⟨rfl, rfl, ⟨rfl, rfl, rfl, rfl⟩, rfl⟩ := hs
    have : q1 = [] := sp_inj (by rw [hq1]; simp [opNs, blanked, sp])
    simp [this, z41]
end Go.Proofs.YthkheemjgcbofaaDoor

namespace Go.Proofs.YthkheemjgcbofaaDoor
set_option linter.unusedVariables false
set_option linter.unusedSimpArgs false
open Go.RowKit Go.Proofs.YthkheemjgcbofaaDoor.PSc

theorem i64_0 : I64 0 := by unfold I64; decide
theorem ok41_z : I64 z41.f0 ∧ I64 z41.f1 ∧ I64 z41.f2 ∧ I64 z41.f3 := ⟨i64_0, i64_0, i64_0, i64_0⟩
theorem i64_small {n : Int} (h0 : -1 ≤ n) (h1 : n ≤ 4294967295) : I64 n := ⟨by omega, by omega⟩
theorem sp_tok {r : Rd} {t : By} {l : By} (h : r.rest = t ++ sp l) (ht : t ≠ []) : sp r.rest = 32 :: t ++ sp l := by
  rw [sp, if_neg (by rw [h]; intro e; exact ht (List.append_eq_nil_iff.1 e).1), h]
  rfl
theorem nums4 (r : Rd) : (nums 4 r).1 = [(nums 4 r).1.getD 0 0, (nums 4 r).1.getD 1 0, (nums 4 r).1.getD 2 0, (nums 4 r).1.getD 3 0] := by
  simp [nums]

theorem op_back (r : Rd) (h : (opF r).2.bad = false) (h1 : 1 ≤ (opF r).1.f0) (h2 : (opF r).1.f0 ≤ 6) :
    r.bad = false ∧ sp r.rest = opT (opF r).1 ++ sp (opF r).2.rest ∧ Ok43 (opF r).1 := by
  have hk : (opF r).1.f0 = idxF verbsL (tok r).1 0 := by
    unfold opF; simp only []
    split
    · rfl
    · split
      · rfl
      · split
        · rfl
        · split <;> rfl
  rw [hk] at h1 h2
  have hv := idx_verb (tok r).1 _ rfl h1 h2
  obtain ⟨hv1, hv2, hv3⟩ := verb_idx _ h1 h2
  have hne : (tok r).1 ≠ [] := by rw [hv]; exact hv3
  obtain ⟨z0, z1, z2, z3⟩ := ok41_z
  generalize hkk : idxF verbsL (tok r).1 0 = k at *
  unfold opF at h ⊢
  simp only [hkk] at h ⊢
  obtain rfl | rfl | rfl | rfl | rfl | rfl : k = 1 ∨ k = 2 ∨ k = 3 ∨ k = 4 ∨ k = 5 ∨ k = 6 := by omega
  · simp only [if_true] at h ⊢
    simp only [Bool.or_eq_false_iff, decide_eq_false_iff_not] at h
    obtain ⟨a1, a2, a3⟩ := h
    obtain ⟨b1, b2, b3⟩ := num_back _ a1
    obtain ⟨c1, c2, c3⟩ := tok_back r b1
    refine ⟨c1, ?_, ⟨i64_small (n := 1) (by decide) (by decide), by simp, z0, z1, z2, z3, i64_0⟩⟩
    rw [sp_tok c2 hne, b2, hv]
    have hbit : bitF ((num (tok r).2).1 == 1) = (num (tok r).2).1 := by
      unfold bitF
      by_cases h1 : (num (tok r).2).1 = 1
      · simp [h1]
      · have : (num (tok r).2).1 = 0 := by omega
        simp [this]
    simp [opT, opNs, hbit, blanked]
  · simp only [show ¬ ((2 : Int) = 1) by decide, if_false, if_true] at h ⊢
    obtain ⟨a1, a2, a3⟩ := num_back _ h
    obtain ⟨d1, d2, d3⟩ := nums_back 4 _ a1
    obtain ⟨b1, b2, b3, b4⟩ := row_back _ d1
    obtain ⟨c1, c2, c3⟩ := tok_back r b1
    have e4 := nums4 (row (tok r).2).2
    refine ⟨c1, ?_, ⟨i64_small (n := 2) (by decide) (by decide), ⟨b3, b4⟩, ?_, ?_, ?_, ?_, a3⟩⟩
    · rw [sp_tok c2 hne, b2, d2, a2, hv, e4]
      simp [opT, opNs, blanked]
    all_goals exact d3 _ (by rw [e4]; simp)
  · simp only [show ¬ ((3 : Int) = 1) by decide, show ¬ ((3 : Int) = 2) by decide, if_false, if_true] at h ⊢
    obtain ⟨b1, b2, b3, b4⟩ := row_back _ h
    obtain ⟨c1, c2, c3⟩ := tok_back r b1
    refine ⟨c1, ?_, ⟨i64_small (n := 3) (by decide) (by decide), ⟨b3, b4⟩, z0, z1, z2, z3, i64_0⟩⟩
    rw [sp_tok c2 hne, b2, hv]
    simp [opT, opNs, blanked]
  · simp only [show ¬ ((4 : Int) = 1) by decide, show ¬ ((4 : Int) = 2) by decide, show ¬ ((4 : Int) = 3) by decide, if_false, if_true] at h ⊢
    obtain ⟨d1, d2, d3⟩ := nums_back 4 _ h
    obtain ⟨c1, c2, c3⟩ := tok_back r d1
    have e4 := nums4 (tok r).2
    refine ⟨c1, ?_, ⟨i64_small (n := 4) (by decide) (by decide), by simp, ?_, ?_, ?_, ?_, i64_0⟩⟩
    · rw [sp_tok c2 hne, d2, hv, e4]
      simp [opT, opNs, blanked]
    all_goals exact d3 _ (by rw [e4]; simp)
  · simp only [show ¬ ((5 : Int) = 1) by decide, show ¬ ((5 : Int) = 2) by decide, show ¬ ((5 : Int) = 3) by decide, show ¬ ((5 : Int) = 4) by decide, if_false] at h ⊢
    obtain ⟨c1, c2, c3⟩ := tok_back r h
    refine ⟨c1, ?_, ⟨i64_small (n := 5) (by decide) (by decide), by simp, z0, z1, z2, z3, i64_0⟩⟩
    rw [sp_tok c2 hne, hv]
    simp [opT, opNs, blanked]
  · simp only [show ¬ ((6 : Int) = 1) by decide, show ¬ ((6 : Int) = 2) by decide, show ¬ ((6 : Int) = 3) by decide, show ¬ ((6 : Int) = 4) by decide, if_false] at h ⊢
    obtain ⟨c1, c2, c3⟩ := tok_back r h
    refine ⟨c1, ?_, ⟨i64_small (n := 6) (by decide) (by decide), by simp, z0, z1, z2, z3, i64_0⟩⟩
    rw [sp_tok c2 hne, hv]
    simp [opT, opNs, blanked]
end Go.Proofs.YthkheemjgcbofaaDoor

namespace Go.Proofs.YthkheemjgcbofaaDoor
set_option linter.unusedVariables false
set_option linter.unusedSimpArgs false
open Go.RowKit Go.Proofs.YthkheemjgcbofaaDoor.PSc

theorem eq43_eq {x y : S43} (h : eq43 x y = true) : x = y := by
  obtain ⟨x0, x1, x2, ⟨x3, x4, x5, x6⟩, x7⟩ := x
  obtain ⟨y0, y1, y2, ⟨y3, y4, y5, y6⟩, y7⟩ := y
  simp [eq43] at h
  obtain ⟨rfl, rfl, rfl, ⟨rfl, rfl, rfl, rfl⟩, rfl⟩ := h
  rfl
theorem eq46_eq {x y : S46} (h : eq46 x y = true) : x = y := by
  obtain ⟨x0, x1, x2, x3, x4⟩ := x
  obtain ⟨y0, y1, y2, y3, y4⟩ := y
  simp [eq46] at h
  obtain ⟨rfl, rfl, rfl, h, rfl⟩ := h
  rw [eq43_eq h]
theorem wrong_false {x : S46} (h : wrongF x = false) : (1 ≤ x.f0 ∧ x.f0 ≤ 7) ∧ (x.f0 = 1 → 1 ≤ x.f2.f0 ∧ x.f2.f0 ≤ 6) ∧ x = only x ∧ x.f4.length ≤ 2048 := by
  unfold wrongF at h
  by_cases h1 : x.f0 < 1 ∨ 7 < x.f0
  · rw [if_pos h1] at h; cases h
  · rw [if_neg h1] at h
    by_cases h2 : x.f0 = 1 ∧ (x.f2.f0 < 1 ∨ 6 < x.f2.f0)
    · rw [if_pos h2] at h; cases h
    · rw [if_neg h2] at h
      simp only [Bool.or_eq_false_iff, Bool.not_eq_false', decide_eq_false_iff_not] at h
      refine ⟨by omega, fun h3 => by omega, eq46_eq h.1, by omega⟩

def evLine (x : S46) : By := wordsL.getD x.f0.toNat [] ++ blanked (evNs x) ++ evTail x
theorem evT_line (x : S46) : evT x = evLine x ++ [10] := rfl
/-- What stands behind an event's word. -/
theorem ev_ex (x : S46) : ∃ q, sp q = blanked (evNs x) ++ evTail x := by
  unfold evTail
  split
  · obtain ⟨q, hq⟩ : ∃ q, sp q = opT x.f2 := by
      cases hv : verbF x.f2.f0 ++ blanked (opNs x.f2) with
      | nil => exact ⟨[], by
          exfalso
          have := (List.append_eq_nil_iff.1 hv).1
          unfold verbF at this
          split at this
          · simp at this
          · rename_i hk
            have : verbsL.getD x.f2.f0.toNat [] ≠ [] := by
              have hk2 : x.f2.f0.toNat < 7 := by omega
              match hn : x.f2.f0.toNat, hk2 with
              | 0, _ => decide
              | 1, _ => decide
              | 2, _ => decide
              | 3, _ => decide
              | 4, _ => decide
              | 5, _ => decide
              | 6, _ => decide
            contradiction⟩
      | cons a l => exact ⟨a :: l, by rw [sp, if_neg (by simp), opT, List.cons_append, hv]⟩
    obtain ⟨p, hp⟩ := sp_ex (evNs x) q
    exact ⟨p, by rw [hp, hq]⟩
  · split
    · obtain ⟨p, hp⟩ := sp_ex (evNs x) (61 :: x.f4.map (fun y => if y then 49 else 48))
      exact ⟨p, by rw [hp, sp, if_neg (by simp)]⟩
    · obtain ⟨p, hp⟩ := sp_ex (evNs x) []
      exact ⟨p, by rw [hp, sp_nil]⟩
theorem bits_no (l : List Bool) (c : UInt8) (h : c.toNat < 45) : c ∉ (61 : UInt8) :: l.map (fun y => if y then (49 : UInt8) else 48) := by
  intro hm
  rcases List.mem_cons.1 hm with rfl | hm
  · simp at h
  · obtain ⟨y, _, rfl⟩ := List.mem_map.1 hm
    cases y <;> simp at h
theorem bits_back (l : List Bool) : (l.map (fun y => if y then (49 : UInt8) else 48)).map (· == 49) = l ∧ (l.map (fun y => if y then (49 : UInt8) else 48)).all (fun c => c == 48 || c == 49) = true := by
  constructor
  · rw [List.map_map]
    conv => rhs; rw [← List.map_id l]
    apply List.map_congr_left
    intro y _
    cases y <;> rfl
  · rw [List.all_map, List.all_eq_true]
    intro y _
    cases y <;> rfl

theorem ev_fwd (x : S46) (q : By) (hok : Ok46 x) (hw : wrongF x = false) (hq : sp q = blanked (evNs x) ++ evTail x) : evF (wordsL.getD x.f0.toNat []) ⟨q, false⟩ = (x, ⟨[], false⟩) := by
  obtain ⟨⟨h1, h7⟩, ho, he, hl⟩ := wrong_false hw
  obtain ⟨hwi, _, _⟩ := word_idx x.f0 h1 h7
  have key : evRaw (wordsL.getD x.f0.toNat []) ⟨q, false⟩ = (x, ⟨[], false⟩) := by
    obtain ⟨x0, x1, x2, x3, x4⟩ := x
    obtain ⟨os, on, oo⟩ := hok
    simp only [only, S46.mk.injEq] at he
    simp only at *
    unfold evRaw
    simp only [hwi]
    obtain ⟨_, e1, e2, e3, e4⟩ := he
    obtain rfl | rfl | rfl | rfl | rfl | rfl | rfl : x0 = 1 ∨ x0 = 2 ∨ x0 = 3 ∨ x0 = 4 ∨ x0 = 5 ∨ x0 = 6 ∨ x0 = 7 := by omega
    · simp at e1 e2 e3 e4
      obtain ⟨q1, hq1⟩ : ∃ q1, sp q1 = opT x2 := by
        obtain ⟨q1, hq1⟩ := ev_ex ⟨3, 0, x2, 0, []⟩
        obtain ⟨p, hp⟩ := sp_ex (opNs x2) []
        obtain ⟨hv1, hv2, hv3⟩ := verb_idx x2.f0 (ho rfl).1 (ho rfl).2
        exact ⟨verbF x2.f0 ++ sp p, by rw [sp, if_neg (by intro e; exact hv3 (List.append_eq_nil_iff.1 e).1), hp, sp_nil, List.append_nil]; rfl⟩
      have hn := num_fwd' x1 q q1 false os (by rw [hq, hq1]; simp [evNs, evTail])
      have hop := op_fwd x2 q1 false oo (ho rfl).1 (ho rfl).2 e2.symm hq1
      simp [hn, hop, e3, e4]
    · simp at e1 e2 e3 e4
      have hn := num_fwd' x1 q [] false os (by rw [hq]; simp [evNs, evTail, sp])
      simp [hn, e2, e3, e4]
    · simp at e1 e2 e3 e4
      have : q = [] := sp_inj (by rw [hq]; simp [evNs, evTail, sp, blanked])
      simp [this, e1, e2, e3, e4]
    · simp at e1 e2 e3 e4
      have : q = [] := sp_inj (by rw [hq]; simp [evNs, evTail, sp, blanked])
      simp [this, e1, e2, e3, e4]
    · simp at e1 e2 e3 e4
      have hn := num_fwd' x3 q [] false on (by rw [hq]; simp [evNs, evTail, sp])
      simp [hn, e1, e2, e4]
    · simp at e1 e2 e3 e4
      have hqq : q = (61 :: x4.map (fun y => if y then (49 : UInt8) else 48)) ++ sp [] := sp_inj (by
        rw [hq, sp_nil, List.append_nil, sp, if_neg (by simp)]
        simp [evNs, evTail, blanked])
      have ht := tok_fwd (61 :: x4.map (fun y => if y then (49 : UInt8) else 48)) [] false (bits_no x4 32 (by decide))
      rw [← hqq] at ht
      obtain ⟨b1, b2⟩ := bits_back x4
      simp only [ht]
      have hpre : Lib.hasPrefix (61 :: x4.map (fun y => if y then (49 : UInt8) else 48)) [61] = true := by simp [Lib.hasPrefix, List.isPrefixOf]
      have htr : Lib.trimPrefix (61 :: x4.map (fun y => if y then (49 : UInt8) else 48)) [61] = x4.map (fun y => if y then (49 : UInt8) else 48) := by simp [Lib.trimPrefix, hpre]
      rw [htr, hpre, b1, b2]
      simp [e1, e2, e3]
    · simp at e1 e2 e3 e4
      have : q = [] := sp_inj (by rw [hq]; simp [evNs, evTail, sp, blanked])
      simp [this, e1, e2, e3, e4]
  unfold evF
  rw [key]
  simp [hw]
end Go.Proofs.YthkheemjgcbofaaDoor

namespace Go.Proofs.YthkheemjgcbofaaDoor
set_option linter.unusedVariables false
set_option linter.unusedSimpArgs false
open Go.RowKit Go.Proofs.YthkheemjgcbofaaDoor.PSc

theorem z43_ok : Ok43 z43 := ⟨i64_0, by decide, i64_0, i64_0, i64_0, i64_0, i64_0⟩
theorem bits_fwd (l : By) (h : l.all (fun c => c == 48 || c == 49) = true) : (l.map (· == 49)).map (fun y => if y then (49 : UInt8) else 48) = l := by
  rw [List.map_map]
  conv => rhs; rw [← List.map_id l]
  apply List.map_congr_left
  intro c hc
  have := List.all_eq_true.1 h c hc
  simp at this
  rcases this with rfl | rfl <;> rfl
theorem prefix_eq (t : By) (h : Lib.hasPrefix t [61] = true) : t = 61 :: Lib.trimPrefix t [61] := by
  unfold Lib.trimPrefix
  rw [if_pos h]
  cases t with
  | nil => simp [Lib.hasPrefix, List.isPrefixOf] at h
  | cons c t =>
    simp [Lib.hasPrefix, List.isPrefixOf] at h
    rw [← h]; rfl

theorem ev_back (word : By) (r : Rd) (h : (evF word r).2.bad = false) (h0 : (evF word r).2.rest = []) :
    r.bad = false ∧ word = wordsL.getD (evF word r).1.f0.toNat [] ∧ sp r.rest = blanked (evNs (evF word r).1) ++ evTail (evF word r).1 ∧ wrongF (evF word r).1 = false ∧ Ok46 (evF word r).1 := by
  unfold evF at h h0 ⊢
  simp only [Bool.or_eq_false_iff] at h h0 ⊢
  obtain ⟨hb, hw⟩ := h
  obtain ⟨⟨h1, h7⟩, ho, he, hl⟩ := wrong_false hw
  have hk : (evRaw word r).1.f0 = max (idxF wordsL word 0) 0 := by
    unfold evRaw; simp only []
    split
    · rename_i h; exact h.symm
    · split
      · rename_i h; exact h.symm
      · split
        · rename_i h; exact h.symm
        · split
          · rename_i h; exact h.symm
          · rfl
  have hword := idx_word word _ rfl (by rw [← hk]; exact h1)
  rw [← hk] at hword
  suffices key : r.bad = false ∧ sp r.rest = blanked (evNs (evRaw word r).1) ++ evTail (evRaw word r).1 ∧ Ok46 (evRaw word r).1 from ⟨key.1, hword, key.2.1, hw, key.2.2⟩
  generalize hkk : max (idxF wordsL word 0) 0 = k at *
  rw [hk] at h1 h7 ho
  unfold evRaw at hb h0 ho ⊢
  simp only [hkk] at hb h0 ho ⊢
  clear hword hk hw he hl hkk
  obtain rfl | rfl | rfl | rfl | rfl | rfl | rfl : k = 1 ∨ k = 2 ∨ k = 3 ∨ k = 4 ∨ k = 5 ∨ k = 6 ∨ k = 7 := by omega
  all_goals simp only [if_true, show ¬ ((2 : Int) = 1) by decide, show ¬ ((3 : Int) = 1) by decide, show ¬ ((3 : Int) = 2) by decide, show ¬ ((3 : Int) = 5) by decide, show ¬ ((3 : Int) = 6) by decide, show ¬ ((4 : Int) = 1) by decide, show ¬ ((4 : Int) = 2) by decide, show ¬ ((4 : Int) = 5) by decide, show ¬ ((4 : Int) = 6) by decide, show ¬ ((5 : Int) = 1) by decide, show ¬ ((5 : Int) = 2) by decide, show ¬ ((6 : Int) = 1) by decide, show ¬ ((6 : Int) = 2) by decide, show ¬ ((6 : Int) = 5) by decide, show ¬ ((7 : Int) = 1) by decide, show ¬ ((7 : Int) = 2) by decide, show ¬ ((7 : Int) = 5) by decide, show ¬ ((7 : Int) = 6) by decide, if_false] at hb h0 ho ⊢
  · obtain ⟨a1, a2, a3⟩ := op_back _ hb (ho trivial).1 (ho trivial).2
    obtain ⟨b1, b2, b3⟩ := num_back r a1
    refine ⟨b1, ?_, b3, i64_0, a3⟩
    rw [b2, a2, h0, sp_nil]
    simp [evNs, evTail, blanked]
  · obtain ⟨b1, b2, b3⟩ := num_back r hb
    refine ⟨b1, ?_, b3, i64_0, z43_ok⟩
    rw [b2, h0, sp_nil]
    simp [evNs, evTail, blanked]
  · refine ⟨hb, ?_, i64_0, i64_0, z43_ok⟩
    rw [h0]; simp [evNs, evTail, blanked, sp]
  · refine ⟨hb, ?_, i64_0, i64_0, z43_ok⟩
    rw [h0]; simp [evNs, evTail, blanked, sp]
  · obtain ⟨b1, b2, b3⟩ := num_back r hb
    refine ⟨b1, ?_, i64_0, b3, z43_ok⟩
    rw [b2, h0, sp_nil]
    simp [evNs, evTail, blanked]
  · simp only [Bool.or_eq_false_iff, Bool.not_eq_false', Bool.and_eq_true] at hb
    obtain ⟨c1, c2, c3⟩ := tok_back r hb.1
    refine ⟨c1, ?_, i64_0, i64_0, z43_ok⟩
    have hp := prefix_eq _ hb.2.1
    have hbits := bits_fwd _ hb.2.2
    rw [h0, sp_nil, List.append_nil] at c2
    simp only [evNs, evTail, show ¬ ((6 : Int) = 1 ∨ (6 : Int) = 2) by decide, show ¬ ((6 : Int) = 5) by decide, show ¬ ((6 : Int) = 1) by decide, if_false, if_true, blanked, List.flatMap_nil, List.nil_append]
    rw [hbits, ← hp, c2, sp, if_neg (by rw [hp]; simp)]
    simp
  · refine ⟨hb, ?_, i64_0, i64_0, z43_ok⟩
    rw [h0]; simp [evNs, evTail, blanked, sp]

/-- No line feed stands in an event's line. -/
theorem blanked_no (ns : List Int) (c : UInt8) (hc : c.toNat < 45) (h32 : c ≠ 32) : c ∉ blanked ns := by
  intro h
  obtain ⟨n, _, hm⟩ := List.mem_flatMap.1 h
  rcases List.mem_cons.1 hm with rfl | hm
  · exact h32 rfl
  · exact itoa_no n c hc hm
theorem verbF_no (k : Int) : (10 : UInt8) ∉ verbF k := by
  unfold verbF
  split
  · decide
  · match k.toNat with
    | 0 => decide
    | 1 => decide
    | 2 => decide
    | 3 => decide
    | 4 => decide
    | 5 => decide
    | 6 => decide
    | n + 7 => simp [verbsL, List.getD]
theorem evLine_no (x : S46) (h1 : 1 ≤ x.f0) (h7 : x.f0 ≤ 7) : (10 : UInt8) ∉ evLine x := by
  unfold evLine
  simp only [List.mem_append, not_or]
  refine ⟨⟨(word_idx x.f0 h1 h7).2.2, blanked_no _ 10 (by decide) (by decide)⟩, ?_⟩
  unfold evTail
  split
  · unfold opT
    simp only [List.mem_append, List.mem_cons, not_or]
    exact ⟨⟨by decide, verbF_no _⟩, blanked_no _ 10 (by decide) (by decide)⟩
  · split
    · have := bits_no x.f4 10 (by decide)
      simp only [List.mem_cons, not_or] at this ⊢
      exact ⟨by decide, this.1, this.2⟩
    · simp

theorem line_fwd (s : Sc) (x : S46) (n : Int) (hn : ¬ n < 1) (hok : Ok46 x) (hw : wrongF x = false) (hl : s.l.length + 1 ≤ 300) : lineF s (evLine x) n = (true, ⟨s.c, s.a, s.l ++ [x]⟩) := by
  obtain ⟨⟨h1, h7⟩, _⟩ := wrong_false hw
  obtain ⟨q, hq⟩ := ev_ex x
  have ht : tok ⟨evLine x, false⟩ = (wordsL.getD x.f0.toNat [], ⟨q, false⟩) := by
    unfold evLine
    rw [List.append_assoc, ← hq]
    exact tok_fwd _ q false (word_idx x.f0 h1 h7).2.1
  unfold lineF
  simp only [ht, if_neg hn, ev_fwd x q hok hw hq]
  have : decide (300 < s.l.length + 1) = false := by simp; omega
  simp [this]
theorem line_back (s : Sc) (t : By) (n : Int) (hn : ¬ n < 1) (h : (lineF s t n).1 = true) :
    ∃ x, (lineF s t n).2 = ⟨s.c, s.a, s.l ++ [x]⟩ ∧ t ++ [10] = evT x ∧ wrongF x = false ∧ Ok46 x ∧ s.l.length + 1 ≤ 300 := by
  unfold lineF at h ⊢
  simp only [if_neg hn, Bool.and_eq_true, Bool.not_eq_true', Bool.or_eq_false_iff, decide_eq_false_iff_not, List.isEmpty_iff] at h ⊢
  obtain ⟨⟨hb, hlen⟩, hr⟩ := h
  obtain ⟨h1, h2, h3, h4, h5⟩ := ev_back _ _ hb hr
  obtain ⟨c1, c2, c3⟩ := tok_back _ h1
  refine ⟨_, rfl, ?_, h4, h5, by omega⟩
  rw [evT_line]
  congr 1
  unfold evLine
  generalize (evF (tok ⟨t, false⟩).1 (tok ⟨t, false⟩).2).1 = x at *
  exact c2.trans (by rw [h2, h3, List.append_assoc])

theorem parseL_fwd (xs : List S46) : ∀ (f i n : Nat) (s : Sc), 1 ≤ n → (∀ x, x ∈ xs → Ok46 x ∧ wrongF x = false) → s.l.length + xs.length ≤ 300 → (xs.flatMap evT).length < f →
    parseL f (xs.flatMap evT) i n s = ⟨true, i + (xs.flatMap evT).length, n + xs.length, ⟨s.c, s.a, s.l ++ xs⟩⟩ := by
  induction xs with
  | nil =>
    intro f i n s hn _ _ hf
    obtain ⟨f, rfl⟩ : ∃ k, f = k + 1 := ⟨f - 1, by omega⟩
    rw [parseL]; simp
  | cons x xs ih =>
    intro f i n s hn hx hl hf
    obtain ⟨f, rfl⟩ : ∃ k, f = k + 1 := ⟨f - 1, by omega⟩
    obtain ⟨ho, hw⟩ := hx x (by simp)
    obtain ⟨⟨h1, h7⟩, _⟩ := wrong_false hw
    simp only [List.length_cons] at hl
    have hline := line_fwd s x n (by omega) ho hw (by omega)
    have e : (x :: xs).flatMap evT = evLine x ++ 10 :: xs.flatMap evT := by simp [evT_line]
    rw [e] at hf ⊢
    rw [parseL_line _ (evLine_no x h1 h7), hline]
    simp only [if_true]
    simp only [List.length_append, List.length_cons] at hf ⊢
    rw [ih f _ (n + 1) _ (by omega) (fun y hy => hx y (by simp [hy])) (by simp; omega) (by omega)]
    simp; omega
theorem parseL_back (f : Nat) : ∀ (t : By) (i n : Nat) (s : Sc), 1 ≤ n → t.length < f → (parseL f t i n s).ok = true →
    ∃ xs, (parseL f t i n s).s = ⟨s.c, s.a, s.l ++ xs⟩ ∧ t = xs.flatMap evT ∧ (∀ x, x ∈ xs → Ok46 x ∧ wrongF x = false) ∧ (s.l.length ≤ 300 → s.l.length + xs.length ≤ 300) := by
  induction f with
  | zero => intro t i n s _ h; omega
  | succ f ih =>
    intro t i n s hn hf h
    rw [parseL] at h ⊢
    by_cases ht : t = []
    · rw [if_pos ht]
      exact ⟨[], by simp, by simp [ht], by simp, by simp⟩
    · rw [if_neg ht, cut_eq] at h ⊢
      by_cases hc : (cut1 10 t).2.2 = true
      · rw [if_pos hc] at h ⊢
        have hfound := cut1_found 10 t hc
        generalize cut1 10 t = q at *
        obtain ⟨l, r, b⟩ := q
        simp only at h hfound ⊢
        by_cases hl : (lineF s l n).1 = true
        · rw [if_pos hl] at h ⊢
          obtain ⟨x, e1, e2, e3, e4, e5⟩ := line_back s l n (by omega) hl
          rw [e1] at h ⊢
          have hlen : t.length = l.length + 1 + r.length := by rw [hfound]; simp; omega
          obtain ⟨xs, g1, g2, g3, g4⟩ := ih r _ (n + 1) _ (by omega) (by omega) h
          refine ⟨x :: xs, ?_, ?_, ?_, ?_⟩
          · rw [g1]; simp
          · rw [hfound, g2, List.flatMap_cons, ← e2]; simp
          · intro y hy
            rcases List.mem_cons.1 hy with rfl | hy
            · exact ⟨e4, e3⟩
            · exact g3 y hy
          · intro _
            have := g4 (by simp; omega)
            simp at this ⊢
            omega
        · rw [if_neg hl] at h; cases h
      · rw [if_neg hc] at h; cases h

def worldW : By := [119, 111, 114, 108, 100]
theorem first_fwd (s0 s1 : Int) (h0 : I64 s0) (h1 : I64 s1) : lineF sc0 (worldW ++ blanked [s0, s1]) 0 = (true, ⟨s0, s1, []⟩) := by
  obtain ⟨q, hq⟩ := sp_ex [s0, s1] []
  rw [sp_nil, List.append_nil] at hq
  have ht : tok ⟨worldW ++ blanked [s0, s1], false⟩ = (worldW, ⟨q, false⟩) := by rw [← hq]; exact tok_fwd _ q false (by decide)
  have hn := nums_fwd [s0, s1] (by intro n hn; simp at hn; rcases hn with rfl | rfl <;> assumption) [] q false (by rw [hq, sp_nil, List.append_nil])
  simp only [List.length_cons, List.length_nil] at hn
  unfold lineF
  simp only [ht, hn]
  simp [worldW, sc0]
theorem first_back (s : Sc) (t : By) (h : (lineF s t 0).1 = true) :
    I64 (lineF s t 0).2.c ∧ I64 (lineF s t 0).2.a ∧ (lineF s t 0).2.l = s.l ∧ t = worldW ++ blanked [(lineF s t 0).2.c, (lineF s t 0).2.a] := by
  unfold lineF at h ⊢
  simp only [show ((0 : Int) < 1) by decide, if_true, Bool.and_eq_true, Bool.not_eq_true', Bool.or_eq_false_iff, List.isEmpty_iff] at h ⊢
  obtain ⟨⟨hb, hw⟩, hr⟩ := h
  obtain ⟨h1, h2, h3⟩ := nums_back 2 _ hb
  obtain ⟨c1, c2, c3⟩ := tok_back _ h1
  have e2 : (nums 2 (tok ⟨t, false⟩).2).1 = [(nums 2 (tok ⟨t, false⟩).2).1.getD 0 0, (nums 2 (tok ⟨t, false⟩).2).1.getD 1 0] := by simp [nums]
  refine ⟨h3 _ (by rw [e2]; simp), h3 _ (by rw [e2]; simp), ?_⟩
  have c2 : t = (tok ⟨t, false⟩).1 ++ sp (tok ⟨t, false⟩).2.rest := c2
  have hw' : (tok ⟨t, false⟩).1 = worldW := by simpa [worldW] using hw
  rw [hr, sp_nil, List.append_nil] at h2
  refine ⟨trivial, c2.trans ?_⟩
  rw [hw', h2]
  conv => lhs; rw [e2]

/-- A script, printed and parsed. -/
theorem back_print (s0 s1 : Int) (xs : List S46) (h0 : I64 s0) (h1 : I64 s1) (hok : ∀ x, x ∈ xs → Ok46 x) (hck : checkF xs = 0) (hl : (textT s0 s1 xs).length ≤ 262144) :
    parseF (textT s0 s1 xs) = (⟨s0, s1, xs⟩, 0, 0) := by
  obtain ⟨hn, hw⟩ := checkF_no hck
  have e : textT s0 s1 xs = (worldW ++ blanked [s0, s1]) ++ 10 :: xs.flatMap evT := by simp [textT, worldW]
  have hno : (10 : UInt8) ∉ worldW ++ blanked [s0, s1] := by
    simp only [List.mem_append, not_or]
    exact ⟨by decide, blanked_no _ 10 (by decide) (by decide)⟩
  unfold parseF
  rw [if_neg (by omega), e]
  have hf : lineF sc0 (worldW ++ blanked [s0, s1]) ((0 : Nat) : Int) = (true, ⟨s0, s1, []⟩) := first_fwd s0 s1 h0 h1
  rw [parseL_line _ hno, hf]
  simp only [if_true]
  rw [parseL_fwd xs _ _ 1 _ (by omega) (fun x hx => ⟨hok x hx, hw x hx⟩) (by simpa using hn) (by simp; omega)]
  have : decide (0 + 1 + xs.length < 1) = false := by simp
  simp
/-- A text, parsed and printed. -/
theorem back_parse (t : By) (hl : t.length ≤ 262144) (h : (parseF t).2.2 = 0) :
    (parseF t).2.1 = 0 ∧ I64 (parseF t).1.c ∧ I64 (parseF t).1.a ∧ (∀ x, x ∈ (parseF t).1.l → Ok46 x) ∧ checkF (parseF t).1.l = 0 ∧ textT (parseF t).1.c (parseF t).1.a (parseF t).1.l = t := by
  unfold parseF at h ⊢
  rw [if_neg (by omega)] at h ⊢
  simp only at h ⊢
  split at h
  · simp at h
  · rename_i hc
    rw [if_neg hc]
    simp only [Bool.or_eq_true, Bool.not_eq_true', decide_eq_true_eq, not_or, Bool.not_eq_false] at hc
    obtain ⟨hok, hn⟩ := hc
    refine ⟨rfl, ?_⟩
    rw [parseL] at hok hn ⊢
    by_cases ht : t = []
    · rw [if_pos ht] at hn; simp at hn
    · rw [if_neg ht, cut_eq] at hok hn ⊢
      by_cases hcut : (cut1 10 t).2.2 = true
      · rw [if_pos hcut] at hok hn ⊢
        have hfound := cut1_found 10 t hcut
        generalize cut1 10 t = q at *
        obtain ⟨l, r, b⟩ := q
        simp only at hok hn hfound ⊢
        by_cases hline : (lineF sc0 l (0 : Nat)).1 = true
        · rw [if_pos hline] at hok hn ⊢
          obtain ⟨f1, f2, f3, f4⟩ := first_back sc0 l hline
          have hlen : t.length = l.length + 1 + r.length := by rw [hfound]; simp; omega
          obtain ⟨xs, g1, g2, g3, g4⟩ := parseL_back t.length r _ 1 _ (by omega) (by omega) hok
          have f3' : (lineF sc0 l (0 : Nat)).2.l = [] := f3
          rw [f3', List.nil_append] at g1
          simp only [Nat.zero_add] at g1 ⊢
          rw [g1]
          have f4' : l = worldW ++ blanked [(lineF sc0 l (0 : Nat)).2.c, (lineF sc0 l (0 : Nat)).2.a] := f4
          refine ⟨f1, f2, fun x hx => (g3 x hx).1, ?_, ?_⟩
          · unfold checkF
            have h300 := g4 (by rw [f3']; simp)
            rw [f3'] at h300
            rw [if_neg]
            simp only [not_or, Bool.not_eq_true, List.any_eq_false]
            exact ⟨by simp at h300; omega, fun x hx => by rw [(g3 x hx).2]⟩
          · unfold textT
            rw [← g2]
            conv => rhs; rw [hfound, f4']
            simp [worldW]
        · rw [if_neg hline] at hok; cases hok
      · rw [if_neg hcut] at hok; cases hok
end Go.Proofs.YthkheemjgcbofaaDoor
