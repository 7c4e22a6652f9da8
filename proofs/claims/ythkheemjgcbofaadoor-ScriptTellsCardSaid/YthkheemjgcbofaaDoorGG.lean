/-
  A line, read into a script.
  A script's first line, read; a line, whatever its number.
  A script's text, read (Parse).
-/
import Derived.Test.YthkheemjgcbofaaDoorGF
import Derived.Deep.RegionHeld3
import Derived.Deep.RegionLaw
import Derived.Deep.Cut
import Derived.StillTailTactics
import Derived.Test.YthkheemjgcbofaaDoorGA

namespace Go.Proofs.YthkheemjgcbofaaDoor
set_option linter.unusedVariables false
set_option linter.unusedSimpArgs false
open Go.RowKit Go.Proofs.YthkheemjgcbofaaDoor.PSc Go.Proofs.YthkheemjgcbofaaDoorW.PrintWords

/-- A script as it is read: class, area, events. -/
structure Sc where
  c : Int
  a : Int
  l : List S46
def Sc.At (s : Sc) (bs base : Nat) (w : World) : Prop :=
  ∃ v, w.heap[bs]? = some (.cells #[.int .i64 s.c, .int .i64 s.a, v] 27 (0, 0)) ∧ Kd.R k46 46 w base (fun _ => True) v s.l
def lineF (s : Sc) (text : By) (n : Int) : Bool × Sc :=
  let t := tok ⟨text, false⟩
  if n < 1 then
    let p := nums 2 t.2
    (!(p.2.bad || t.1 != [119, 111, 114, 108, 100]) && p.2.rest.isEmpty, ⟨p.1.getD 0 0, p.1.getD 1 0, s.l⟩)
  else
    let p := evF t.1 t.2
    (!(p.2.bad || decide (300 < s.l.length + 1)) && p.2.rest.isEmpty, ⟨s.c, s.a, s.l ++ [p.1]⟩)

def LinePost (bs base : Nat) (r : Bool × Sc) (w : World) (e : Ending) (w' : World) : Prop :=
  e = .returned (.bool r.1) ∧ r.2.At bs base w' ∧ Below base w w'

theorem ev_M {w : World} {base base' : Nat} {x0 x1 x2 : Int} {x3 : Bool} {x4 x5 x6 x7 x8 x9 x10 : Int} {x11 : List Bool} {A2 : Option Addr} {c2 n : Nat} (h : w.ownsRow base' 4 1 (.slice A2 n c2) x11.length (bools x11)) (hb : base ≤ base') :
    k46.M w base (fun k => base' ≤ k) ⟨x0, x1, ⟨x2, x3, x4, ⟨x5, x6, x7, x8⟩, x9⟩, x10, x11⟩ [.int .i64 x0, .int .i64 x1, .int .i64 x2, .bool x3, .int .u32 x4, .int .i64 x5, .int .i64 x6, .int .i64 x7, .int .i64 x8, .int .i64 x9, .int .i64 x10, .slice A2 n c2] :=
  k46_mkM w base (fun k => base' ≤ k) ⟨x0, x1, ⟨x2, x3, x4, ⟨x5, x6, x7, x8⟩, x9⟩, x10, x11⟩ (Kd.R_of_own (enc := Value.bool) (h1 := fun _ => rfl) (own_weaken h hb) (fun k hk => own_base h k hk))
theorem own_ne {w : World} {base : Nat} {v : Value} {xs : List S46} (h : Kd.R k46 46 w base (fun _ => True) v xs) (k : Nat) (hk : w.heap.size ≤ k) : True ∧ some k ≠ v.ownBlock := by
  obtain ⟨inner, ho⟩ := Kd.R_own h
  exact ⟨trivial, fun e => by have := own_lt ho k e.symm; omega⟩
theorem R_mod1 {α : Type} {d : Kd α} {e : Nat} {w w1 : World} {base : Nat} {v : Value} {xs : List α} (h : d.R e w base (fun _ => True) v xs) {g t : Nat} {cells : Array Value} (hb : w.heap[g]? = some (.cells cells t (0, 0))) (ht : ∀ q, q ∈ e :: d.E → q ≠ t) (hm : Mod [g] w w1) : d.R e w1 base (fun _ => True) v xs :=
  Kd.R_mono (Kd.R_step (Kd.R_types h hb ht) (fun k hk hlt => hm.block k hlt (by simp; exact hk.2))) (fun _ _ => trivial)

set_option maxHeartbeats 4000000 in
set_option maxRecDepth 100000 in
theorem line_more (bs base : Nat) (s : Sc) (text : By) (n : Int) (w : World) (hG : Glob w) (hl : text.length < 4294967281) (hb : s.At bs base w) (h6 : 6 ≤ base) (hbb : base ≤ bs) (hlen : s.l.length ≤ 300) (hn : ¬ n < 1) :
    Calls Tryd.prog 19 #[.pointer (some ⟨bs, 0, none⟩), .string ⟨text.toArray⟩, .int .i64 n] w (LinePost bs base (lineF s text n) w) := by
  obtain ⟨v, hbs, hR⟩ := hb
  have HS := Lib.hid hbs
  have HR := Lib.hid hR
  have hlt := blk_lt hbs
  have HT := tok_le ⟨text, false⟩
  have hne : ¬ bs = w.heap.size := by omega
  have hne' : ¬ w.heap.size = bs := by omega
  have hGs := hG.size
  simp only at HT
  clear hbs hR
  go_enter Tryd.func19, Tryd.ntmps19
  go_wp2_with fail
  refine (token_calls w.heap.size ⟨text, false⟩ _ (hG.mod ((Mod.refl [] w).alloc _) (by simp)) hl (blk_new w _)).mono ?_
  rintro e w1 ⟨rfl, hb1, hm1⟩
  have HB1 := Lib.hid hb1
  have HS1 := Lib.hid (blk_mod (blk_alloc HS.out _) hm1 (by simp; omega))
  have HM1 := Lib.hid (((Mod.refl [] w).alloc _).then hm1 (by simp))
  have hz1 := hm1.size
  simp at hz1
  have HG1 := Lib.hid (hG.mod HM1.out (by simp))
  have HR1 : Hid (Kd.R k46 46 w1 base (fun _ => True) v s.l) := Lib.hid (Kd.R_below HR.out (HM1.out.below (by simp) (Nat.le_refl _)))
  clear hb1 hm1
  go_wp2_with fail
  have cs1 : w1.cell? ⟨bs, 1 + 1, none⟩ = some v := (blk_cell HS1.out 2).trans rfl
  have cs2 : w1.cell? ⟨bs, 2, none⟩ = some v := (blk_cell HS1.out 2).trans rfl
  have HE0 := event_calls w.heap.size (tok ⟨text, false⟩).1 (tok ⟨text, false⟩).2 w1.drew (HG1.out.mod (Mod.refl [] w1).drew (by simp)) (by omega) (by omega) HB1.out
  obtain ⟨p, hp⟩ : ∃ p, p = evF (tok ⟨text, false⟩).1 (tok ⟨text, false⟩).2 := ⟨_, rfl⟩
  unfold EvPost at HE0
  rw [← hp] at HE0
  obtain ⟨⟨x0, x1, ⟨x2, x3, x4, ⟨x5, x6, x7, x8⟩, x9⟩, x10, x11⟩, r2⟩ := p
  simp only [vals46] at HE0
  have HE := Lib.hid HE0
  have HEV := Lib.hid hp
  clear HE0 hp
  go_region_law
    (first
      | (go_simp
         go_at_call 45
         refine HE.out.mono ?_
         rintro e w2 ⟨v2, rfl, how, hb2, hm2⟩
         obtain ⟨A2, c2, hv2⟩ := own_slice how
         subst hv2
         have HB2 := Lib.hid hb2
         have HS2 := Lib.hid (blk_mod (blk_drew HS1.out) hm2 (by simp; omega))
         have cs3 : w2.cell? ⟨bs, 2, none⟩ = some v := (blk_cell HS2.out 2).trans rfl
         have HO2 := Lib.hid how
         have HM2 := Lib.hid hm2
         have hz2 : w1.heap.size ≤ w2.heap.size := hm2.size
         have HRW : Hid (Kd.R k46 46 w2 base (fun _ => True) v s.l) := Lib.hid (R_mod1 HR1.out HB1.out (by decide) (show Mod [w.heap.size] w1 w2 from ⟨hm2.os, hm2.tape, hm2.output, hm2.size, hm2.block⟩))
         have hneW : ¬ bs = w2.heap.size := by have := blk_lt HS2.out; omega
         have hltW : bs < w2.heap.size := blk_lt HS2.out
         clear hb2 how hm2)
      | (refine Kd.R_append_step k46 (w0 := w2) base (by rfl) _ _ 25 46 (.agg #[(.int .i64 0), (.int .i64 0), (.int .i64 0), (.bool false), (.int .u32 0), (.int .i64 0), (.int .i64 0), (.int .i64 0), (.int .i64 0), (.int .i64 0), (.int .i64 0), (.slice none 0 0)]) 104 (by rfl) Tryd.underlying25 info46 rfl (by decide) (by omega) v s.l (⟨x0, x1, ⟨x2, x3, x4, ⟨x5, x6, x7, x8⟩, x9⟩, x10, x11⟩ : S46) [.int .i64 x0, .int .i64 x1, .int .i64 x2, .bool x3, .int .u32 x4, .int .i64 x5, .int .i64 x6, .int .i64 x7, .int .i64 x8, .int .i64 x9, .int .i64 x10, .slice A2 x11.length c2] (fun _ => True) (fun k => w1.heap.size ≤ k) (by rfl) (by rfl) ?hp ?hokp (fun _ _ => trivial) ?HO (Below.refl _ _) ?hbase ?hl ?_
         case hp => exact ev_M HO2.out (by show base ≤ w1.heap.size; omega)
         case hokp => exact own_ne HR1.out
         case HO => exact HRW.out
         case hbase => omega
         case hl => omega
         intro v3 w3 hR3 hB3 hg3 _
         have hz3 := hg3.size
         have HS3 := Lib.hid ((hg3.block bs (by omega) (Kd.R_ne HRW.out HS2.out (by decide))).trans HS2.out)
         have HB3 := Lib.hid ((hg3.block w.heap.size (by omega) (Kd.R_ne HRW.out HB2.out (by decide))).trans HB2.out)
         have cs4 : w3.cell? ⟨bs, 2, none⟩ = some v := (blk_cell HS3.out 2).trans rfl
         have fs4 := blk_free HS3.out 2
         have HR3 := Lib.hid hR3
         have HBel3 := Lib.hid hB3
         obtain ⟨A3, c3, hv3⟩ := Kd.R_slice hR3
         subst hv3
         clear hR3 hB3 hg3)
      | fail)
  all_goals
    obtain ⟨cr0, cr1, fr0, fr1⟩ := rd_cells HB3.out
    have hlen3 : (s.l ++ [(⟨x0, x1, ⟨x2, x3, x4, ⟨x5, x6, x7, x8⟩, x9⟩, x10, x11⟩ : S46)]).length = s.l.length + 1 := by simp
    have HL3 := Lib.hid hlen3
    have HB2' : base ≤ w.heap.size := by omega
    have hmb : Below base w w3 := by
      have h1 : Below base w w1 := HM1.out.below (by simp) HB2'
      have h2' : Mod [w.heap.size] w1 w2 := ⟨HM2.out.os, HM2.out.tape, HM2.out.output, HM2.out.size, HM2.out.block⟩
      have h2 : Below base w1 w2 := h2'.below (by simp; omega) (by omega)
      exact (h1.trans h2).trans HBel3.out
    have HMB := Lib.hid hmb
    clear hlen3 hmb cs1 cs2 cs3
    have fin : ∀ (bb : Bool) (e : Ending) (W : World), W = (w3.setCell ⟨bs, 2, none⟩ (.slice A3 (s.l.length + 1) c3)).setCell ⟨w.heap.size, 1, none⟩ (.bool bb) → e = .returned (.bool (lineF s text n).1) → LinePost bs base (lineF s text n) w e W := by
      intro bb e W hW he
      rw [← HL3.out] at hW
      subst hW
      refine ⟨he, ⟨.slice A3 (s.l ++ [(⟨x0, x1, ⟨x2, x3, x4, ⟨x5, x6, x7, x8⟩, x9⟩, x10, x11⟩ : S46)]).length c3, ?_, ?_⟩, ?_⟩
      · have h := blk_far (blk_set HS3.out 2 (.slice A3 (s.l ++ [(⟨x0, x1, ⟨x2, x3, x4, ⟨x5, x6, x7, x8⟩, x9⟩, x10, x11⟩ : S46)]).length c3)) (p := ⟨w.heap.size, 1, none⟩) (by simpa using hne) (.bool bb)
        unfold lineF
        simp only [if_neg (show ¬ n < 1 by omega), ← HEV.out]
        exact h
      · have h := Kd.R_set (Kd.R_set HR3.out HS3.out (by decide) 2 (.slice A3 (s.l ++ [(⟨x0, x1, ⟨x2, x3, x4, ⟨x5, x6, x7, x8⟩, x9⟩, x10, x11⟩ : S46)]).length c3)) (blk_far HB3.out (p := ⟨bs, 2, none⟩) (by simpa using hne') _) (by decide) 1 (.bool bb)
        unfold lineF
        simp only [if_neg (show ¬ n < 1 by omega), ← HEV.out]
        exact h
      · exact ((HMB.out.setCell (p := ⟨bs, 2, none⟩) hbb _).setCell (p := ⟨w.heap.size, 1, none⟩) HB2' _)
    have HF := Lib.hid fin
    clear fin
    by_cases hbad : r2.bad = true
    · go_wp2
      go_ret
      exact HF.out _ _ _ rfl (by unfold lineF; simp only [if_neg (show ¬ n < 1 by omega), ← HEV.out]; simp [hbad])
    · have hbad' : r2.bad = false := by simpa using hbad
      clear hbad
      by_cases hc : 300 < s.l.length + 1
      · have hc1 : (300 : Int) < (s.l.length : Int) + 1 := by omega
        go_wp2
        go_ret
        exact HF.out _ _ _ rfl (by unfold lineF; simp only [if_neg (show ¬ n < 1 by omega), ← HEV.out]; simp [hbad', hc])
      · have hc1 : (s.l.length : Int) + 1 ≤ 300 := by omega
        by_cases hr : r2.rest.isEmpty = true
        · go_wp2
          go_ret
          exact HF.out _ _ _ rfl (by unfold lineF; simp only [if_neg (show ¬ n < 1 by omega), ← HEV.out]; simp [hbad', hc, hr]; try omega)
        · have hr' : r2.rest.isEmpty = false := by simpa using hr
          clear hr
          go_wp2
          go_ret
          exact HF.out _ _ _ rfl (by unfold lineF; simp only [if_neg (show ¬ n < 1 by omega), ← HEV.out]; simp [hbad', hc, hr']; try omega)
end Go.Proofs.YthkheemjgcbofaaDoor

namespace Go.Proofs.YthkheemjgcbofaaDoor
set_option linter.unusedVariables false
set_option linter.unusedSimpArgs false
open Go.RowKit Go.Proofs.YthkheemjgcbofaaDoor.PSc Go.Proofs.YthkheemjgcbofaaDoorW.PrintWords

set_option maxHeartbeats 4000000 in
set_option maxRecDepth 100000 in
theorem line_first (bs base : Nat) (s : Sc) (text : By) (n : Int) (w : World) (hG : Glob w) (hl : text.length < 4294967281) (hb : s.At bs base w) (h6 : 6 ≤ base) (hbb : base ≤ bs) (hn : n < 1) :
    Calls Tryd.prog 19 #[.pointer (some ⟨bs, 0, none⟩), .string ⟨text.toArray⟩, .int .i64 n] w (LinePost bs base (lineF s text n) w) := by
  obtain ⟨v, hbs, hR⟩ := hb
  have HS := Lib.hid hbs
  have HR := Lib.hid hR
  have hlt := blk_lt hbs
  have HT := tok_le ⟨text, false⟩
  have hne : ¬ bs = w.heap.size := by omega
  have hne' : ¬ w.heap.size = bs := by omega
  have hGs := hG.size
  simp only at HT
  clear hbs hR
  go_enter Tryd.func19, Tryd.ntmps19
  go_wp2_with fail
  refine (token_calls w.heap.size ⟨text, false⟩ _ (hG.mod ((Mod.refl [] w).alloc _) (by simp)) hl (blk_new w _)).mono ?_
  rintro e w1 ⟨rfl, hb1, hm1⟩
  have HB1 := Lib.hid hb1
  have HS1 := Lib.hid (blk_mod (blk_alloc HS.out _) hm1 (by simp; omega))
  have HM1 := Lib.hid (((Mod.refl [] w).alloc _).then hm1 (by simp))
  have hz1 := hm1.size
  simp at hz1
  have HG1 := Lib.hid (hG.mod HM1.out (by simp))
  have HR1 : Hid (Kd.R k46 46 w1 base (fun _ => True) v s.l) := Lib.hid (Kd.R_below HR.out (HM1.out.below (by simp) (Nat.le_refl _)))
  clear hb1 hm1
  go_wp2_with fail
  have HB2 := Lib.hid (blk_drew HB1.out)
  have HS2 := Lib.hid (blk_drew HS1.out)
  have HG2 : Hid (Glob w1.drew) := Lib.hid (HG1.out.mod (Mod.refl [] w1).drew (by simp))
  have HM2 : Hid (Mod [] w w1.drew) := Lib.hid HM1.out.drew
  have HR2 : Hid (Kd.R k46 46 w1.drew base (fun _ => True) v s.l) := Lib.hid (Kd.R_below HR1.out (Below.refl _ _).drew)
  have hA : ∀ i, i < ([0, 1] : List Nat).length → ∃ ad, (some ⟨w1.heap.size, 0, none⟩ : Option Addr) = some ad ∧ ((w1.alloc (.cells #[.pointer (some ⟨bs, 0, none⟩), .pointer (some ⟨bs, 1, none⟩)] 98)).drew).cell? (ad.add i) = some (.pointer (some ⟨bs, ([0, 1] : List Nat).getD i 0, none⟩)) ∧ (ad.add i).block ≠ w.heap.size ∧ (ad.add i).block ≠ bs := by
    intro i hi
    refine ⟨_, rfl, ?_, ?_, ?_⟩
    · rw [add_blk, blk_cell (blk_drew (blk_new w1 _)) i]
      match i, hi with
      | 0, _ => rfl
      | 1, _ => rfl
    · rw [add_blk]; show w1.heap.size ≠ w.heap.size; omega
    · rw [add_blk]; show w1.heap.size ≠ bs; omega
  have HN := Lib.hid (numbers_calls w.heap.size bs [0, 1] (some ⟨w1.heap.size, 0, none⟩) 2 #[.int .i64 s.c, .int .i64 s.a, v] 27 (tok ⟨text, false⟩).2 ((w1.alloc (.cells #[.pointer (some ⟨bs, 0, none⟩), .pointer (some ⟨bs, 1, none⟩)] 98)).drew) (HG1.out.mod ((Mod.refl [] w1).alloc _).drew (by simp)) (by omega) (by omega) (by omega) (by omega) (blk_drew (blk_alloc HB1.out _)) (blk_drew (blk_alloc HS1.out _)) (by simp) hA (by simp))
  clear hA
  go_region_law
    (first
      | (go_simp
         go_at_call 44
         refine HN.out.mono ?_
         rintro e w3 ⟨rfl, hb3, hs3, hm3⟩
         have HB3 : Hid (w3.heap[w.heap.size]? = some (nums 2 (tok ⟨text, false⟩).2).2.blk) := Lib.hid hb3
         have HS3 : Hid (w3.heap[bs]? = some (.cells #[.int .i64 ((nums 2 (tok ⟨text, false⟩).2).1.getD 0 0), .int .i64 ((nums 2 (tok ⟨text, false⟩).2).1.getD 1 0), v] 27 (0, 0))) := Lib.hid hs3
         have HM3 := Lib.hid hm3
         clear hb3 hs3 hm3)
      | fail)
  obtain ⟨cr0, cr1, fr0, fr1⟩ := rd_cells HB3.out
  have HB2' : base ≤ w.heap.size := by omega
  have HMB : Hid (Below base w w3) := Lib.hid (((((HM1.out.alloc _).drew).mono (T := [bs]) (by simp)).then HM3.out (by simp)).below (by simp; omega) HB2')
  have HR3 : Hid (Kd.R k46 46 w3 base (fun _ => True) v s.l) := Lib.hid (by
    have h0 : Kd.R k46 46 ((w1.alloc (.cells #[.pointer (some ⟨bs, 0, none⟩), .pointer (some ⟨bs, 1, none⟩)] 98)).drew) base (fun _ => True) v s.l := Kd.R_below HR1.out ((Below.refl _ _).alloc (Nat.le_refl _) _).drew
    refine Kd.R_mono (Kd.R_step (Kd.R_types (Kd.R_types h0 (blk_drew (blk_alloc HB1.out _)) (by decide)) (blk_drew (blk_alloc HS1.out _)) (by decide)) (fun k hk hlt => HM3.out.block k hlt (by simp; exact ⟨hk.1.2, hk.2⟩))) (fun _ _ => trivial))
  have fin : ∀ (bb : Bool) (e : Ending) (W : World), W = w3.setCell ⟨w.heap.size, 1, none⟩ (.bool bb) → e = .returned (.bool (lineF s text n).1) → LinePost bs base (lineF s text n) w e W := by
    intro bb e W hW he
    subst hW
    refine ⟨he, ⟨v, ?_, ?_⟩, ?_⟩
    · have h := blk_far HS3.out (p := ⟨w.heap.size, 1, none⟩) (by simpa using hne) (.bool bb)
      unfold lineF
      simp only [if_pos hn]
      exact h
    · have h := Kd.R_set HR3.out HB3.out (by decide) 1 (.bool bb)
      unfold lineF
      simp only [if_pos hn]
      exact h
    · exact HMB.out.setCell (p := ⟨w.heap.size, 1, none⟩) HB2' _
  have HF := Lib.hid fin
  clear fin
  by_cases hbad : (nums 2 (tok ⟨text, false⟩).2).2.bad = true
  · go_wp2
    go_ret
    exact HF.out _ _ _ rfl (by unfold lineF; simp only [if_pos hn]; simp [hbad])
  · have hbad' : (nums 2 (tok ⟨text, false⟩).2).2.bad = false := by simpa using hbad
    clear hbad
    by_cases hw : ((tok ⟨text, false⟩).1 == [119, 111, 114, 108, 100]) = true
    · by_cases hr : (nums 2 (tok ⟨text, false⟩).2).2.rest.isEmpty = true
      · go_wp2
        go_ret
        exact HF.out _ _ _ rfl (by unfold lineF; simp only [if_pos hn]; simp [hbad', hr, beq_iff_eq.1 hw])
      · have hr' : (nums 2 (tok ⟨text, false⟩).2).2.rest.isEmpty = false := by simpa using hr
        clear hr
        go_wp2
        go_ret
        exact HF.out _ _ _ rfl (by unfold lineF; simp only [if_pos hn]; simp [hbad', hr', beq_iff_eq.1 hw])
    · have hw' : ((tok ⟨text, false⟩).1 == [119, 111, 114, 108, 100]) = false := by simpa using hw
      clear hw
      go_wp2
      go_ret
      exact HF.out _ _ _ rfl (by unfold lineF; simp only [if_pos hn]; simp [hbad', beq_eq_false_iff_ne.1 hw'])

theorem line_calls (bs base : Nat) (s : Sc) (text : By) (n : Int) (w : World) (hG : Glob w) (hl : text.length < 4294967281) (hb : s.At bs base w) (h6 : 6 ≤ base) (hbb : base ≤ bs) (hlen : s.l.length ≤ 300) :
    Calls Tryd.prog 19 #[.pointer (some ⟨bs, 0, none⟩), .string ⟨text.toArray⟩, .int .i64 n] w (LinePost bs base (lineF s text n) w) := by
  by_cases hn : n < 1
  · exact line_first bs base s text n w hG hl hb h6 hbb hn
  · exact line_more bs base s text n w hG hl hb h6 hbb hlen hn
end Go.Proofs.YthkheemjgcbofaaDoor

namespace Go.Proofs.YthkheemjgcbofaaDoor
set_option linter.unusedVariables false
set_option linter.unusedSimpArgs false
open Go.RowKit Go.Proofs.YthkheemjgcbofaaDoor.PSc Go.Proofs.YthkheemjgcbofaaDoorW.PrintWords

/-- What the loop over lines comes to: whether all were right; the place; how many; the script. -/
structure Pr where
  ok : Bool
  at_ : Nat
  n : Nat
  s : Sc
def parseL : Nat → By → Nat → Nat → Sc → Pr
  | 0, _, i, n, s => ⟨true, i, n, s⟩
  | f + 1, t, i, n, s =>
    if t = [] then ⟨true, i, n, s⟩
    else if (Lib.cut t [10]).2.2 then
      if (lineF s (Lib.cut t [10]).1 n).1 then parseL f (Lib.cut t [10]).2.1 (i + (Lib.cut t [10]).1.length + 1) (n + 1) (lineF s (Lib.cut t [10]).1 n).2
      else ⟨false, i, n, s⟩
    else ⟨false, i, n, s⟩
def sc0 : Sc := ⟨0, 0, []⟩
/-- The script, the place and the error of a text. -/
def parseF (text : By) : Sc × Int × Int :=
  if 262144 < text.length then (sc0, 0, 3)
  else
    let p := parseL (text.length + 1) text 0 0 sc0
    if !p.ok || decide (p.n < 1) then (sc0, p.at_, 360) else (p.s, 0, 0)
def ParsePost (text : By) (w : World) (e : Ending) (w' : World) : Prop :=
  ∃ v, e = .returned (.tuple #[.agg #[.int .i64 (parseF text).1.c, .int .i64 (parseF text).1.a, v], .int .i64 (parseF text).2.1, .int .i64 (parseF text).2.2]) ∧ Kd.R k46 46 w' w.heap.size (fun _ => True) v (parseF text).1.l ∧ Below w.heap.size w w'

theorem ba_ext {a b : ByteArray} (h : a.data.toList = b.data.toList) : a = b := by
  cases a; cases b; congr 1; exact Array.toList_inj.1 h
theorem extract_drop (l : By) (j : Nat) : (⟨l.toArray⟩ : ByteArray).extract j l.length = ⟨(l.drop j).toArray⟩ := by
  apply ba_ext
  rw [Lib.extract_data]
  show (l.drop j).take (l.length - j) = l.drop j
  rw [List.take_of_length_le (by simp)]
theorem Sc.At.keep {s : Sc} {bs base : Nat} {w w1 : World} (h : s.At bs base w) (hm : Mod [] w w1) : s.At bs base w1 := by
  obtain ⟨v, h1, h2⟩ := h
  exact ⟨v, blk_mod h1 hm (by simp), Kd.R_below h2 (hm.below (by simp) (Nat.le_refl _))⟩
theorem cut10_le (l : By) : (Lib.cut l [10]).2.1.length ≤ l.length ∧ (Lib.cut l [10]).1.length ≤ l.length := by
  unfold Lib.cut
  split
  · simp; omega
  · simp
theorem line_len (s : Sc) (t : By) (n : Int) (h : (lineF s t n).1 = true) (hl : s.l.length ≤ 300) : (lineF s t n).2.l.length ≤ 300 := by
  unfold lineF at h ⊢
  simp only [] at h ⊢
  split
  · exact hl
  · rename_i hn
    rw [if_neg hn] at h
    simp only [Bool.and_eq_true, Bool.not_eq_true', Bool.or_eq_false_iff, decide_eq_false_iff_not] at h
    simp only [List.length_append, List.length_cons, List.length_nil]
    omega

set_option maxHeartbeats 4000000 in
set_option maxRecDepth 100000 in
theorem parse_short (text : By) (w : World) (hG : Glob w) (hl : text.length ≤ 262144) (P : Pr) (hP : parseL (text.length + 1) text 0 0 sc0 = P) :
    Calls Tryd.prog 8 #[.string ⟨text.toArray⟩] w (ParsePost text w) := by
  have hGs := hG.size
  have HP := Lib.hid hP
  clear hP
  go_enter Tryd.func8, Tryd.ntmps8
  go_wp2_with fail
  go_step3
  go_wp2_with fail
  have HA0 : Hid (sc0.At (w.heap.size + 1) (w.heap.size + 1) ((w.alloc (.cells #[.int .i64 0, .int .i64 0, .slice none 0 0] 27)).alloc (.cells #[.int .i64 0, .int .i64 0, .slice none 0 0] 27))) :=
    Lib.hid ⟨.slice none 0 0, blk_at _ _ (by simp), Kd.R_nil _ _ _ _ _⟩
  have HR0 : Hid (((w.alloc (.cells #[.int .i64 0, .int .i64 0, .slice none 0 0] 27)).alloc (.cells #[.int .i64 0, .int .i64 0, .slice none 0 0] 27)).heap[w.heap.size]? = some (.cells #[.int .i64 0, .int .i64 0, .slice none 0 0] 27 (0, 0))) := Lib.hid (blk_alloc (blk_new w _) _)
  have HB0 : Hid (Mod [] w ((w.alloc (.cells #[.int .i64 0, .int .i64 0, .slice none 0 0] 27)).alloc (.cells #[.int .i64 0, .int .i64 0, .slice none 0 0] 27))) := Lib.hid (((Mod.refl _ _).alloc _).alloc _)
  go_step3
  go_wp2_with fail
  go_loopw [6, 7, 8] (fun i t o wr => ∃ (j n : Nat) (s : Sc), j ≤ text.length ∧ n ≤ j ∧ s.l.length ≤ 300 ∧ i = .int .i64 j ∧ t = .int .i64 n ∧ o = .bool true ∧ Hid (∃ f, text.length - j < f ∧ parseL f (text.drop j) j n s = P) ∧ Hid (s.At (w.heap.size + 1) (w.heap.size + 1) wr) ∧ Hid (wr.heap[w.heap.size]? = some (.cells #[.int .i64 0, .int .i64 0, .slice none 0 0] 27 (0, 0))) ∧ Hid (Mod [] w wr) ∧ w.heap.size + 2 ≤ wr.heap.size) (fun i _ _ _ => text.length - (intOf i).toNat)
  case atStart => exact ⟨0, 0, sc0, by omega, by omega, by decide, rfl, rfl, rfl, Lib.hid ⟨text.length + 1, by omega, HP.out⟩, HA0, HR0, HB0, by simp⟩
  case round =>
    clear HA0 HR0 HB0
    obtain ⟨j, n, s, hj, hnj, hsl, rfl, rfl, rfl, HF, HA, HR, HM, hz⟩ := hrel
    by_cases hlt : j < text.length
    · have HG := Lib.hid (hG.mod HM.out (by simp))
      go_wp2_with fail
      rw [extract_drop]
      refine (cut_calls (text.drop j) [10] wr HG.out (by simp; omega)).mono ?_
      rintro e w1 ⟨rfl, m, rfl⟩
      obtain ⟨f, hf, hFP⟩ := HF.out
      obtain ⟨f, rfl⟩ : ∃ k, f = k + 1 := ⟨f - 1, by omega⟩
      have hne : ¬ text.drop j = [] := by rw [List.drop_eq_nil_iff]; omega
      rw [parseL, if_neg hne] at hFP
      by_cases hc : (Lib.cut (text.drop j) [10]).2.2 = true
      · rw [if_pos hc] at hFP
        have HFP := Lib.hid hFP
        clear hFP HF hne
        have HLC := Lib.hid (line_calls (w.heap.size + 1) (w.heap.size + 1) s (Lib.cut (text.drop j) [10]).1 (n : Int) (wr.drewN m) (HG.out.mod ((Mod.refl [] wr).drewN m) (by simp)) (by have := (cut10_le (text.drop j)).2; simp at this; omega) (HA.out.keep ((Mod.refl [] wr).drewN m)) (by omega) (Nat.le_refl _) hsl)
        go_wp2_with fail
        refine HLC.out.mono ?_
        rintro e w2 ⟨rfl, hA2, hB2⟩
        have HA2 := Lib.hid hA2
        have HR2 := Lib.hid ((hB2.block w.heap.size (by omega)).trans HR.out)
        have hz2 : wr.heap.size ≤ w2.heap.size := hB2.size
        have HM2 : Hid (Mod [] w w2) := Lib.hid ⟨hB2.os.trans HM.out.os, hB2.tape.trans HM.out.tape, hB2.output.trans HM.out.output, Nat.le_trans HM.out.size hB2.size, fun k hk hs => (hB2.block k (by omega)).trans (HM.out.block k hk hs)⟩
        clear hA2 hB2
        have hcl := cut1_len 10 (text.drop j) (by rw [← cut_eq]; exact hc)
        rw [← cut_eq] at hcl
        obtain ⟨hc1, hc2⟩ := hcl
        rw [List.length_drop] at hc1
        have HC2 := Lib.hid hc2
        have hq1 : (Lib.cut (text.drop j) [10]).1.length + 1 ≤ text.length - j := by omega
        have HQ1 := Lib.hid hc1
        clear hc1 hc2
        by_cases hr : (lineF s (Lib.cut (text.drop j) [10]).1 (n : Int)).1 = true
        · have hls := line_len s _ _ hr hsl
          go_wp2_with fail
          go_roundw
          case rel =>
            refine ⟨j + ((Lib.cut (text.drop j) [10]).1.length + 1), n + 1, (lineF s (Lib.cut (text.drop j) [10]).1 (n : Int)).2, by omega, by omega, hls, ?_, by go_num, ?_, ?_, HA2, HR2, HM2, by omega⟩
            · go_num
            · simp
            · refine Lib.hid ⟨f, by omega, ?_⟩
              have h := HFP.out
              rw [if_pos hr, HC2.out, List.drop_drop] at h
              exact h
          case measure => simp [intOf]; omega
        · have hr' : (lineF s (Lib.cut (text.drop j) [10]).1 (n : Int)).1 = false := by simpa using hr
          have hPP : P = ⟨false, j, n, s⟩ := by
            have h := HFP.out
            rw [if_neg hr] at h; exact h.symm
          clear hr
          have HPP := Lib.hid hPP
          have cz0 := (blk_cell HR2.out 0).trans rfl
          have cz1 := (blk_cell HR2.out 1).trans rfl
          have cz2 := (blk_cell HR2.out 2).trans rfl
          have fz0 := blk_free HR2.out 0
          have fz1 := blk_free HR2.out 1
          have fz2 := blk_free HR2.out 2
          clear hPP
          go_wp2_with fail
          rw [Exit.noGoto_ret]
          refine bodyPost_ret (v := .tuple #[.agg #[.int .i64 0, .int .i64 0, .slice none 0 0], .int .i64 j, .int .i64 360]) (by simp [results, Tryd.results8, go_sem, cz0, cz1, cz2]) rfl ⟨.slice none 0 0, ?_, ?_, ?_⟩
          · have hpf : parseF text = (sc0, (j : Int), 360) := by
              unfold parseF; rw [if_neg (by omega), HP.out, HPP.out]; simp
            rw [hpf]; rfl
          · have hpf : parseF text = (sc0, (j : Int), 360) := by
              unfold parseF; rw [if_neg (by omega), HP.out, HPP.out]; simp
            rw [hpf]; exact Kd.R_nil _ _ _ _ _
          · exact ((((HM2.out.setNew (p := ⟨w.heap.size, 0, none⟩) (Nat.le_refl _) _).setNew (p := ⟨w.heap.size, 1, none⟩) (Nat.le_refl _) _).setNew (p := ⟨w.heap.size, 2, none⟩) (Nat.le_refl _) _)).below (by simp) (Nat.le_refl _)
      · have hc' : (Lib.cut (text.drop j) [10]).2.2 = false := by simpa using hc
        have hPP : P = ⟨false, j, n, s⟩ := by rw [if_neg hc] at hFP; exact hFP.symm
        clear hc hFP HF hne
        have HPP := Lib.hid hPP
        have cz0 := (blk_cell HR.out 0).trans rfl
        have cz1 := (blk_cell HR.out 1).trans rfl
        have cz2 := (blk_cell HR.out 2).trans rfl
        have fz0 := blk_free HR.out 0
        have fz1 := blk_free HR.out 1
        have fz2 := blk_free HR.out 2
        clear hPP
        go_wp2_with fail
        rw [Exit.noGoto_ret]
        refine bodyPost_ret (v := .tuple #[.agg #[.int .i64 0, .int .i64 0, .slice none 0 0], .int .i64 j, .int .i64 360]) (by simp [results, Tryd.results8, go_sem, cz0, cz1, cz2]) rfl ⟨.slice none 0 0, ?_, ?_, ?_⟩
        · have hpf : parseF text = (sc0, (j : Int), 360) := by
            unfold parseF; rw [if_neg (by omega), HP.out, HPP.out]; simp
          rw [hpf]; rfl
        · have hpf : parseF text = (sc0, (j : Int), 360) := by
            unfold parseF; rw [if_neg (by omega), HP.out, HPP.out]; simp
          rw [hpf]; exact Kd.R_nil _ _ _ _ _
        · exact (((((HM.out.drewN m).setNew (p := ⟨w.heap.size, 0, none⟩) (Nat.le_refl _) _).setNew (p := ⟨w.heap.size, 1, none⟩) (Nat.le_refl _) _).setNew (p := ⟨w.heap.size, 2, none⟩) (Nat.le_refl _) _)).below (by simp) (Nat.le_refl _)
    · have he : j = text.length := by omega
      obtain ⟨f, hf, hFP⟩ := HF.out
      obtain ⟨f, rfl⟩ : ∃ k, f = k + 1 := ⟨f - 1, by omega⟩
      have hPP : P = ⟨true, j, n, s⟩ := by
        have h0 : text.drop j = [] := List.drop_eq_nil_iff.2 (by omega)
        rw [parseL, if_pos h0] at hFP; exact hFP.symm
      clear HF hFP
      by_cases hn : n < 1
      · have hn1 : (n : Int) < 1 := by omega
        have HPP := Lib.hid hPP
        have cz0 := (blk_cell HR.out 0).trans rfl
        have cz1 := (blk_cell HR.out 1).trans rfl
        have cz2 := (blk_cell HR.out 2).trans rfl
        have fz0 := blk_free HR.out 0
        have fz1 := blk_free HR.out 1
        have fz2 := blk_free HR.out 2
        clear hPP
        go_wp2_with fail
        rw [Exit.noGoto_ret]
        refine bodyPost_ret (v := .tuple #[.agg #[.int .i64 0, .int .i64 0, .slice none 0 0], .int .i64 j, .int .i64 360]) (by simp [results, Tryd.results8, go_sem, cz0, cz1, cz2]) rfl ⟨.slice none 0 0, ?_, ?_, ?_⟩
        · have hpf : parseF text = (sc0, (j : Int), 360) := by
            unfold parseF; rw [if_neg (by omega), HP.out, HPP.out]; simp [hn]
          rw [hpf]; rfl
        · have hpf : parseF text = (sc0, (j : Int), 360) := by
            unfold parseF; rw [if_neg (by omega), HP.out, HPP.out]; simp [hn]
          rw [hpf]; exact Kd.R_nil _ _ _ _ _
        · exact ((((HM.out.setNew (p := ⟨w.heap.size, 0, none⟩) (Nat.le_refl _) _).setNew (p := ⟨w.heap.size, 1, none⟩) (Nat.le_refl _) _).setNew (p := ⟨w.heap.size, 2, none⟩) (Nat.le_refl _) _)).below (by simp) (Nat.le_refl _)
      · have hn1 : ¬ (n : Int) < 1 := by omega
        have HPP := Lib.hid hPP
        clear hPP
        obtain ⟨v, hs, hR⟩ := HA.out
        obtain ⟨A, c, hv⟩ := Kd.R_slice hR
        subst hv
        have HRv := Lib.hid hR
        have cs0 := (blk_cell hs 0).trans rfl
        have cs1 := (blk_cell hs 1).trans rfl
        have cs2 := (blk_cell hs 2).trans rfl
        have cz0 := (blk_cell HR.out 0).trans rfl
        have cz1 := (blk_cell HR.out 1).trans rfl
        have cz2 := (blk_cell HR.out 2).trans rfl
        have fz0 := blk_free HR.out 0
        have fz1 := blk_free HR.out 1
        have fz2 := blk_free HR.out 2
        clear hR hs
        go_wp2_with fail
        refine bodyPost_ret (v := .tuple #[.agg #[.int .i64 s.c, .int .i64 s.a, .slice A s.l.length c], .int .i64 0, .int .i64 0]) (by simp [results, Tryd.results8, go_sem, cz0, cz1, cz2]) rfl ⟨.slice A s.l.length c, ?_, ?_, ?_⟩
        · have hpf : parseF text = (s, 0, 0) := by
            unfold parseF; rw [if_neg (by omega), HP.out, HPP.out]; simp [hn]
          rw [hpf]
        · have hpf : parseF text = (s, 0, 0) := by
            unfold parseF; rw [if_neg (by omega), HP.out, HPP.out]; simp [hn]
          rw [hpf]
          have h := Kd.R_lower HRv.out (show w.heap.size ≤ w.heap.size + 1 by omega)
          exact Kd.R_set (Kd.R_set (Kd.R_set h HR.out (by decide) 0 _) (blk_set HR.out 0 _) (by decide) 1 _) (blk_set (blk_set HR.out 0 _) 1 _) (by decide) 2 _
        · exact ((((HM.out.setNew (p := ⟨w.heap.size, 0, none⟩) (Nat.le_refl _) _).setNew (p := ⟨w.heap.size, 1, none⟩) (Nat.le_refl _) _).setNew (p := ⟨w.heap.size, 2, none⟩) (Nat.le_refl _) _)).below (by simp) (Nat.le_refl _)

set_option maxHeartbeats 1000000 in
theorem parse_long (text : By) (w : World) (hl : 262144 < text.length) (hl2 : text.length ≤ 140737488351232) :
    Calls Tryd.prog 8 #[.string ⟨text.toArray⟩] w (ParsePost text w) := by
  go_enter Tryd.func8, Tryd.ntmps8
  go_wp2_with fail
  go_step3
  go_wp2_with fail
  rw [Exit.noGoto_ret]
  have hpf : parseF text = (sc0, 0, 3) := by unfold parseF; rw [if_pos hl]
  refine bodyPost_ret (v := .tuple #[.agg #[.int .i64 0, .int .i64 0, .slice none 0 0], .int .i64 0, .int .i64 3]) (by simp [results, Tryd.results8, go_sem]) rfl ⟨.slice none 0 0, ?_, ?_, ?_⟩
  · rw [hpf]; rfl
  · rw [hpf]; exact Kd.R_nil _ _ _ _ _
  · exact (((Mod.refl [] w).alloc _)).below (by simp) (Nat.le_refl _)

theorem parse_calls (text : By) (w : World) (hG : Glob w) (hl : text.length ≤ 140737488351232) : Calls Tryd.prog 8 #[.string ⟨text.toArray⟩] w (ParsePost text w) := by
  by_cases h : text.length ≤ 262144
  · exact parse_short text w hG h _ rfl
  · exact parse_long text w (by omega) hl
end Go.Proofs.YthkheemjgcbofaaDoor
