/-
  The reader's event: the crash's bits.
  The reader's event, all kinds together.
-/
import Derived.Test.YthkheemjgcbofaaDoorGD
import Derived.Deep.Cut
import Derived.Test.YthkheemjgcbofaaDoorGE

namespace Go.Proofs.YthkheemjgcbofaaDoor
set_option linter.unusedVariables false
set_option linter.unusedSimpArgs false
open Go.RowKit Go.Proofs.YthkheemjgcbofaaDoor.PSc Go.Proofs.YthkheemjgcbofaaDoorW.PrintWords

theorem cutPrefix_calls (l p : By) (w : World) :
    Calls Tryd.prog 62 #[.string ⟨l.toArray⟩, .string ⟨p.toArray⟩] w fun e w' => e = .returned (.tuple #[.string ⟨(Lib.trimPrefix l p).toArray⟩, .bool (Lib.hasPrefix l p)]) ∧ w = w' :=
  (Tryd.strings_CutPrefix ⟨l.toArray⟩ ⟨p.toArray⟩ w).mono fun e w' ⟨h1, h2⟩ => ⟨h1, h2.symm⟩

theorem trim_le (l : By) : (Lib.trimPrefix l [61]).length ≤ l.length := by
  unfold Lib.trimPrefix; split <;> simp
theorem bools_len (l : List Bool) : (bools l).length = l.length := by simp [bools]
theorem bool_reads {w : World} {base n : Nat} {v : Value} {xs : List Bool} (h : w.ownsRow base 4 1 v n (bools xs)) : ∃ A c, v = .slice A xs.length c ∧ xs.length ≤ c ∧ Kd.C Kd.bool w A xs.length xs := by
  have hl : xs.length = n := by have := h.1; rw [bools_len] at this; omega
  subst hl
  rcases Nat.eq_zero_or_pos xs.length with h0 | h0
  · rcases h.2 with ⟨rfl, _⟩ | ⟨g, cap, cur, rfl, _⟩
    · exact ⟨none, 0, by rw [h0], by omega, rfl, by omega, fun hp => absurd hp (by omega)⟩
    · exact ⟨_, cap, rfl, by omega, rfl, by omega, fun hp => absurd hp (by omega)⟩
  · obtain ⟨g, cap, rfl, _, hcap⟩ := h.form h0
    have hm : xs.length ≤ 9223372036854775807 ∧ xs.length ≤ cap := by
      rcases h.2 with ⟨_, h1⟩ | ⟨g', cap', cur, he, _, _, h1, h2, _⟩
      · omega
      · injection he with _ _ he
        subst he
        simp only [maxLen] at h2
        omega
    refine ⟨_, cap, rfl, hm.2, rfl, hm.1, fun _ => ⟨_, rfl, fun j p hj => ⟨[.bool p], rfl, rfl, fun i u hi => ?_⟩⟩⟩
    obtain rfl : i = 0 := by
      rcases i with _ | i
      · rfl
      · simp at hi
    simp only [List.getElem?_cons_zero, Option.some.injEq] at hi
    subst hi
    rw [Nat.add_zero]
    show World.cell? w ((⟨g, 0, none⟩ : Addr).add (j * 1)) = _
    rw [Nat.mul_one]
    exact h.cells (g := g) rfl j _ (by simp [bools, hj])

theorem u8_eq (n : UInt8) (k : Nat) (hk : k < 256) : (((n.toNat : Nat) : Int) == (k : Int)) = (n == UInt8.ofNat k) := by
  rw [Bool.eq_iff_iff]
  simp only [beq_iff_eq]
  constructor
  · intro h
    apply UInt8.toNat_inj.1
    simp only [UInt8.toNat_ofNat']
    omega
  · intro h
    rw [h]
    simp only [UInt8.toNat_ofNat']
    omega
theorem take_snoc_by (l : By) (j : Nat) (h : j < l.length) : l.take (j + 1) = l.take j ++ [l.getD j 0] := by
  rw [List.take_add_one]; simp [List.getD_eq_getElem?_getD, List.getElem?_eq_getElem h]
def SixPost (b : Nat) (l : By) (rd : Rd) (w : World) (e : Ending) (w' : World) : Prop :=
  ∃ v, e = .returned (.agg #[.int .i64 6, .int .i64 0, .int .i64 0, .bool false, .int .u32 0, .int .i64 0, .int .i64 0, .int .i64 0, .int .i64 0, .int .i64 0, .int .i64 0, v]) ∧ w'.ownsRow w.heap.size 4 1 v l.length (bools (l.map (· == 49))) ∧ w'.heap[b]? = some rd.blk ∧ Mod [b] w w'

set_option maxHeartbeats 8000000 in
set_option maxRecDepth 100000 in
theorem event_six (b : Nat) (word : By) (r : Rd) (w : World) (hG : Glob w) (hl : r.rest.length < 4294967281) (h6 : 6 ≤ b) (hb : w.heap[b]? = some r.blk) (k : Int) (hk : max (idxF wordsL word 0) 0 = k) (h : k = 6) (l : By) (hp : Bool) (hlp : Lib.trimPrefix (tok r).1 [61] = l) (hhp : Lib.hasPrefix (tok r).1 [61] = hp) (okb : Bool) (hokb : (hp && l.all fun c => c == 48 || c == 49) = okb) :
    Calls Tryd.prog 45 #[.pointer (some ⟨b, 0, none⟩), .string ⟨word.toArray⟩] w (SixPost b l ⟨(tok r).2.rest, ((tok r).2.bad || !okb) || wrongF ⟨6, 0, ⟨0, false, 0, ⟨0, 0, 0, 0⟩, 0⟩, 0, l.map (· == 49)⟩⟩ w) := by
  subst h
  have HB := Lib.hid hb
  have HK := Lib.hid hk
  have HL := tok_le r
  have hblt := blk_lt hb
  have hne : ¬ b = w.heap.size := by omega
  have hne' : ¬ w.heap.size = b := by omega
  have hsz := hG.size
  have HCP := Lib.hid (fun W => show Calls Tryd.prog 62 #[.string ⟨(tok r).1.toArray⟩, .string ⟨[61].toArray⟩] W (fun e w' => e = .returned (.tuple #[.string ⟨l.toArray⟩, .bool hp]) ∧ W = w') from by rw [← hlp, ← hhp]; exact cutPrefix_calls _ _ W)
  have hll : l.length ≤ r.rest.length := by rw [← hlp]; exact Nat.le_trans (trim_le _) (tok_le r).2
  have HOKB := Lib.hid hokb
  clear hb hk hlp hhp hokb
  have kb := fun W => YthkheemjgcbofaaDoorW.PrintWords.print_bytes (P := Tryd.prog) 9 67 5 Tryd.underlying9 Tryd.underlying67 Tryd.underlying5 ⟨l.toArray⟩ W
  have hu46 := Tryd.underlying46
  have hu43 := Tryd.underlying43
  go_enter Tryd.func45, Tryd.ntmps45
  go_wp2_with fail
  refine (words_calls _).mono ?_
  rintro e w1 ⟨A, c, rfl, hc7, hC1, hb1⟩
  have HB1 := Lib.hid (blk_below (blk_alloc HB.out _) hb1)
  have HO1 := Lib.hid (blk_below (blk_new w _) hb1)
  have HC1 := Lib.hid (hC1.mod (Mod.refl [] w1) (by simp))
  have HM1 := Lib.hid (((Mod.refl [b] w).alloc _).thenBelow hb1)
  have hz1 := hb1.size
  simp at hz1
  clear hC1 hb1
  go_wp2_with fail
  refine (index_calls wordsL 8 rfl word A c w1 HC1.out hc7 (by omega)).mono ?_
  rintro e w3 ⟨rfl, m, rfl⟩
  obtain ⟨co0, co1, co2, co3, co4, co5, co6, co7, co8, co9, co10, co11⟩ := cells12 HO1.out
  obtain ⟨fo0, fo1, fo2, fo3, fo4, fo5, fo6, fo7, fo8, fo9, fo10, fo11⟩ := frees12 HO1.out
  obtain ⟨K, hK⟩ : ∃ K, K = idxF wordsL word 0 := ⟨_, rfl⟩
  have HK' : Hid (max K 0 = 6) := by rw [hK]; exact HK
  rw [← hK]
  clear hK HK
  go_wp2_with fail
  simp only [HK'.out]
  have HBW := Lib.hid (blk_far (blk_drewN HB1.out m) (p := ⟨w.heap.size, 0, none⟩) (by simp; omega) (.int .i64 6))
  have HOW : Hid (((w1.drewN m).setCell ⟨w.heap.size, 0, none⟩ (.int .i64 6)).heap[w.heap.size]? = some (.cells #[.int .i64 6, .int .i64 0, .int .i64 0, .bool false, .int .u32 0, .int .i64 0, .int .i64 0, .int .i64 0, .int .i64 0, .int .i64 0, .int .i64 0, .slice none 0 0] 46 (0, 0))) := Lib.hid (blk_set (blk_drewN HO1.out m) 0 (.int .i64 6))
  have HMW := Lib.hid ((HM1.out.drewN m).setNew (p := ⟨w.heap.size, 0, none⟩) (Nat.le_refl _) (.int .i64 6))
  refine (fields_at _ 6 [] rfl _ ((blk_cell HOW.out 0).trans rfl)).mono ?_
  rintro e w4 ⟨A4, c4, rfl, hp4, hbx4⟩
  have HB4 := Lib.hid (blk_below HBW.out hbx4)
  have HO4 : Hid (w4.heap[w.heap.size]? = some (.cells #[.int .i64 6, .int .i64 0, .int .i64 0, .bool false, .int .u32 0, .int .i64 0, .int .i64 0, .int .i64 0, .int .i64 0, .int .i64 0, .int .i64 0, .slice none 0 0] 46 (0, 0))) := Lib.hid (blk_below HOW.out hbx4)
  have HM4 := Lib.hid (HMW.out.thenBelow hbx4)
  have HG4 := Lib.hid (hG.mod HM4.out (by simp; omega))
  have hz4 := hbx4.size
  simp at hz4
  clear hp4 hbx4
  go_wp2_with fail
  refine (numbers_calls b w.heap.size [] A4 c4 _ 46 r w4 HG4.out (by omega) h6 (by omega) hne HB4.out HO4.out (by simp) (by simp) (by simp)).mono ?_
  rintro e w5 ⟨rfl, hb5, ho5, hm5⟩
  have HB5 : Hid (w5.heap[b]? = some r.blk) := Lib.hid hb5
  have HO5 : Hid (w5.heap[w.heap.size]? = some (.cells #[.int .i64 6, .int .i64 0, .int .i64 0, .bool false, .int .u32 0, .int .i64 0, .int .i64 0, .int .i64 0, .int .i64 0, .int .i64 0, .int .i64 0, .slice none 0 0] 46 (0, 0))) := Lib.hid ho5
  have HM5 := Lib.hid (HM4.out.then hm5 (by simp))
  have HG5 := Lib.hid (hG.mod HM5.out (by simp; omega))
  have hz5 := hm5.size
  clear hb5 ho5 hm5 co0 co1 co2 co3 co4 co5 co6 co7 co8 co9 co10 co11 fo0 fo1 fo2 fo3 fo4 fo5 fo6 fo7 fo8 fo9 fo10 fo11
  obtain ⟨co0, co1, co2, co3, co4, co5, co6, co7, co8, co9, co10, co11⟩ := cells12 HO5.out
  go_wp2_with fail
  refine (token_calls b r w5 HG5.out hl HB5.out).mono ?_
  rintro e w6 ⟨rfl, hb6, hm6⟩
  have HB6 := Lib.hid hb6
  have HO6 : Hid (w6.heap[w.heap.size]? = some (.cells #[.int .i64 6, .int .i64 0, .int .i64 0, .bool false, .int .u32 0, .int .i64 0, .int .i64 0, .int .i64 0, .int .i64 0, .int .i64 0, .int .i64 0, .slice none 0 0] 46 (0, 0))) := Lib.hid (blk_mod HO5.out hm6 (by simp; omega))
  have HM6 := Lib.hid (HM5.out.then hm6 (by simp))
  have hz6 := hm6.size
  clear hb6 hm6
  go_wp2_with fail
  refine (HCP.out _).mono ?_
  rintro e w7 ⟨rfl, rfl⟩
  go_wp2_with fail
  have HX0 : Hid ((Lib.bytesWorld w6 5 ⟨l.toArray⟩).heap[w.heap.size]? = some (.cells #[.int .i64 6, .int .i64 0, .int .i64 0, .bool false, .int .u32 0, .int .i64 0, .int .i64 0, .int .i64 0, .int .i64 0, .int .i64 0, .int .i64 0, .slice none 0 0] 46 (0, 0))) := Lib.hid ((Lib.bytesWorld_at_old w6 5 _ _ (by omega)).trans HO6.out)
  have HR0 : Hid ((Lib.bytesWorld w6 5 ⟨l.toArray⟩).heap[b]? = some (tok r).2.blk) := Lib.hid ((Lib.bytesWorld_at_old w6 5 _ _ (by omega)).trans HB6.out)
  have HC0 : Hid (∀ i, i < l.length → (Lib.bytesWorld w6 5 ⟨l.toArray⟩).cell? ⟨w6.heap.size, i, none⟩ = some (.int .u8 ((l.getD i 0).toNat : Int))) := Lib.hid (fun i hi => Lib.bytesWorld_cell w6 5 ⟨l.toArray⟩ i (by show i < l.toArray.size; simpa using hi))
  have HM0 := Lib.hid (HM6.out.thenBelow (Lib.bytesWorld_below w6 5 ⟨l.toArray⟩))
  have HS0 := Lib.bytesWorld_size w6 5 ⟨l.toArray⟩
  go_loopw [6, 35] (fun t i wr => ∃ (j : Nat) (B : Bool) (v : Value), j ≤ l.length ∧ i = .int .i64 j ∧ t = .bool B ∧ Hid (B = (hp && (l.take j).all fun c => c == 48 || c == 49)) ∧ Hid (wr.heap[w.heap.size]? = some (.cells #[.int .i64 6, .int .i64 0, .int .i64 0, .bool false, .int .u32 0, .int .i64 0, .int .i64 0, .int .i64 0, .int .i64 0, .int .i64 0, .int .i64 0, v] 46 (0, 0))) ∧ Hid (wr.heap[b]? = some (tok r).2.blk) ∧ Hid (wr.ownsRow (w6.heap.size + 1) 4 1 v j (bools ((l.take j).map (· == 49)))) ∧ Hid (∀ i, i < l.length → wr.cell? ⟨w6.heap.size, i, none⟩ = some (.int .u8 ((l.getD i 0).toNat : Int))) ∧ Hid (Mod [b] w wr) ∧ w6.heap.size + 1 ≤ wr.heap.size) (fun _ i _ => l.length - (intOf i).toNat)
  case atStart => exact ⟨0, hp, .slice none 0 0, by omega, rfl, rfl, Lib.hid (by simp), HX0, HR0, Lib.hid (YthkheemjgcbofaaDoorW.PrintWords.own_nil _ _ _ _), HC0, HM0, by omega⟩
  case round =>
    clear HX0 HR0 HC0 HM0 HS0
    obtain ⟨j, B, v, hj, rfl, rfl, HBv, HX, HR, HOw, HC, HM, hsz1⟩ := hrel
    by_cases hlt : j < l.length
    · have hc := HC.out j hlt
      obtain ⟨n, hn⟩ : ∃ n : UInt8, n = l.getD j 0 := ⟨_, rfl⟩
      rw [← hn] at hc
      have HN := Lib.hid hn
      clear hn
      obtain ⟨ks, hks⟩ : ∃ ks, ks = bools ((l.take j).map (· == 49)) := ⟨_, rfl⟩
      have HKL : Hid (ks.length = j) := Lib.hid (by rw [hks, bools_len, List.length_map, List.length_take]; omega)
      have HOk : Hid (wr.ownsRow (w6.heap.size + 1) 4 1 v j ks) := Lib.hid (by rw [hks]; exact HOw.out)
      have HKS := Lib.hid hks
      clear hks
      have cx : wr.cell? ⟨w.heap.size, 11, none⟩ = some v := (blk_cell HX.out 11).trans rfl
      have HN48 := Lib.hid (u8_eq n 48 (by decide)).symm
      have HN49 := Lib.hid (u8_eq n 49 (by decide)).symm
      cases B with
      | false =>
        by_cases h49 : (((n.toNat : Nat) : Int) == 49) = true
        · replace HN49 : Hid ((n == 49) = true) := Lib.hid (HN49.out.trans h49)
          go_wp2_with (at_builtin; refine YthkheemjgcbofaaDoorW.PrintWords.print_append (w0 := wr) (w6.heap.size + 1) rfl _ _ 44 4 (.bool false) 1 rfl Tryd.underlying44 info4 rfl (by decide) v ks (.bool true) rfl rfl rfl (by rw [HKL.out]; exact HOk.out) (Below.refl _ _) hsz1 (by rw [HKL.out]; omega) ?_)
          intro v1 w8 hown hbel _ _
          have HX8 : Hid (w8.heap[w.heap.size]? = some (.cells #[.int .i64 6, .int .i64 0, .int .i64 0, .bool false, .int .u32 0, .int .i64 0, .int .i64 0, .int .i64 0, .int .i64 0, .int .i64 0, .int .i64 0, v] 46 (0, 0))) := Lib.hid ((hbel.block _ (by omega)).trans HX.out)
          have HR8 := Lib.hid ((hbel.block b (by omega)).trans HR.out)
          have HC8 : Hid (∀ i, i < l.length → w8.cell? ⟨w6.heap.size, i, none⟩ = some (.int .u8 ((l.getD i 0).toNat : Int))) := Lib.hid (fun i hi => (hbel.cell (p := ⟨w6.heap.size, i, none⟩) (by show w6.heap.size < _; omega)).trans (HC.out i hi))
          have HM8 : Hid (Mod [b] w w8) := Lib.hid ⟨hbel.os.trans HM.out.os, hbel.tape.trans HM.out.tape, hbel.output.trans HM.out.output, Nat.le_trans HM.out.size hbel.size, fun k hk hs => (hbel.block k (by omega)).trans (HM.out.block k hk hs)⟩
          have HOw8 : Hid (w8.ownsRow (w6.heap.size + 1) 4 1 v1 (j + 1) (bools ((l.take (j + 1)).map (· == 49)))) := by
            refine Lib.hid ?_
            have e : bools ((l.take (j + 1)).map (· == 49)) = bools ((l.take j).map (· == 49)) ++ [.bool true] := by
              rw [take_snoc_by l j hlt, ← HN.out]; simp [bools, HN49.out]
            rw [e]
            rw [← HKS.out]
            have h2 := hown
            simp only [List.length_append, List.length_cons, List.length_nil, HKL.out] at h2
            exact h2
          have hz8 := hbel.size
          obtain ⟨Av, cv, hv⟩ := YthkheemjgcbofaaDoorW.PrintWords.own_slice HOw8.out
          subst hv
          have fx8 := blk_free HX8.out 11
          have cx8 : w8.cell? ⟨w.heap.size, 11, none⟩ = some v := (blk_cell HX8.out 11).trans rfl
          clear hown hbel
          go_wp2
          go_roundw
          case rel =>
            refine ⟨j + 1, false, .slice Av (j + 1) cv, by omega, by go_num, rfl, Lib.hid ?_, Lib.hid ?_, Lib.hid ?_, Lib.hid ?_, Lib.hid ?_, Lib.hid ?_, ?_⟩
            · rw [take_snoc_by l j hlt, ← HN.out]
              have hb := HBv.out
              simp only [List.all_append, List.all_cons, List.all_nil, HN48.out, HN49.out]
              simp [← Bool.and_assoc, ← hb]
            · exact blk_set HX8.out 11 _
            · exact blk_far HR8.out (by simp; omega) _
            · exact YthkheemjgcbofaaDoorW.PrintWords.own_move HOw8.out (fun k hk => Below.heap_setCell _ _ _ _ (by have := YthkheemjgcbofaaDoorW.PrintWords.own_base HOw8.out k hk; simp; omega))
            · intro i hi
              rw [World.cell?_of_block (w := w8) (Below.heap_setCell _ _ _ _ (by simp; omega))]; exact HC8.out i hi
            · exact HM8.out.set (by simp) _
            · simp [World.setCell]; omega
          case measure => simp [intOf]; omega
        · replace h49 : (((n.toNat : Nat) : Int) == 49) = false := by simpa using h49
          replace HN49 : Hid ((n == 49) = false) := Lib.hid (HN49.out.trans h49)
          go_wp2_with (at_builtin; refine YthkheemjgcbofaaDoorW.PrintWords.print_append (w0 := wr) (w6.heap.size + 1) rfl _ _ 44 4 (.bool false) 1 rfl Tryd.underlying44 info4 rfl (by decide) v ks (.bool false) rfl rfl rfl (by rw [HKL.out]; exact HOk.out) (Below.refl _ _) hsz1 (by rw [HKL.out]; omega) ?_)
          intro v1 w8 hown hbel _ _
          have HX8 : Hid (w8.heap[w.heap.size]? = some (.cells #[.int .i64 6, .int .i64 0, .int .i64 0, .bool false, .int .u32 0, .int .i64 0, .int .i64 0, .int .i64 0, .int .i64 0, .int .i64 0, .int .i64 0, v] 46 (0, 0))) := Lib.hid ((hbel.block _ (by omega)).trans HX.out)
          have HR8 := Lib.hid ((hbel.block b (by omega)).trans HR.out)
          have HC8 : Hid (∀ i, i < l.length → w8.cell? ⟨w6.heap.size, i, none⟩ = some (.int .u8 ((l.getD i 0).toNat : Int))) := Lib.hid (fun i hi => (hbel.cell (p := ⟨w6.heap.size, i, none⟩) (by show w6.heap.size < _; omega)).trans (HC.out i hi))
          have HM8 : Hid (Mod [b] w w8) := Lib.hid ⟨hbel.os.trans HM.out.os, hbel.tape.trans HM.out.tape, hbel.output.trans HM.out.output, Nat.le_trans HM.out.size hbel.size, fun k hk hs => (hbel.block k (by omega)).trans (HM.out.block k hk hs)⟩
          have HOw8 : Hid (w8.ownsRow (w6.heap.size + 1) 4 1 v1 (j + 1) (bools ((l.take (j + 1)).map (· == 49)))) := by
            refine Lib.hid ?_
            have e : bools ((l.take (j + 1)).map (· == 49)) = bools ((l.take j).map (· == 49)) ++ [.bool false] := by
              rw [take_snoc_by l j hlt, ← HN.out]; simp [bools, HN49.out]
            rw [e]
            rw [← HKS.out]
            have h2 := hown
            simp only [List.length_append, List.length_cons, List.length_nil, HKL.out] at h2
            exact h2
          have hz8 := hbel.size
          obtain ⟨Av, cv, hv⟩ := YthkheemjgcbofaaDoorW.PrintWords.own_slice HOw8.out
          subst hv
          have fx8 := blk_free HX8.out 11
          have cx8 : w8.cell? ⟨w.heap.size, 11, none⟩ = some v := (blk_cell HX8.out 11).trans rfl
          clear hown hbel
          go_wp2
          go_roundw
          case rel =>
            refine ⟨j + 1, false, .slice Av (j + 1) cv, by omega, by go_num, rfl, Lib.hid ?_, Lib.hid ?_, Lib.hid ?_, Lib.hid ?_, Lib.hid ?_, Lib.hid ?_, ?_⟩
            · rw [take_snoc_by l j hlt, ← HN.out]
              have hb := HBv.out
              simp only [List.all_append, List.all_cons, List.all_nil, HN48.out, HN49.out]
              simp [← Bool.and_assoc, ← hb]
            · exact blk_set HX8.out 11 _
            · exact blk_far HR8.out (by simp; omega) _
            · exact YthkheemjgcbofaaDoorW.PrintWords.own_move HOw8.out (fun k hk => Below.heap_setCell _ _ _ _ (by have := YthkheemjgcbofaaDoorW.PrintWords.own_base HOw8.out k hk; simp; omega))
            · intro i hi
              rw [World.cell?_of_block (w := w8) (Below.heap_setCell _ _ _ _ (by simp; omega))]; exact HC8.out i hi
            · exact HM8.out.set (by simp) _
            · simp [World.setCell]; omega
          case measure => simp [intOf]; omega
      | true =>
        by_cases h48 : (((n.toNat : Nat) : Int) == 48) = true
        · replace HN48 : Hid ((n == 48) = true) := Lib.hid (HN48.out.trans h48)
          have h49 : (((n.toNat : Nat) : Int) == 49) = false := by
            rw [beq_iff_eq] at h48; rw [beq_eq_false_iff_ne]; omega
          replace HN49 : Hid ((n == 49) = false) := Lib.hid (HN49.out.trans h49)
          go_wp2_with (at_builtin; refine YthkheemjgcbofaaDoorW.PrintWords.print_append (w0 := wr) (w6.heap.size + 1) rfl _ _ 44 4 (.bool false) 1 rfl Tryd.underlying44 info4 rfl (by decide) v ks (.bool false) rfl rfl rfl (by rw [HKL.out]; exact HOk.out) (Below.refl _ _) hsz1 (by rw [HKL.out]; omega) ?_)
          intro v1 w8 hown hbel _ _
          have HX8 : Hid (w8.heap[w.heap.size]? = some (.cells #[.int .i64 6, .int .i64 0, .int .i64 0, .bool false, .int .u32 0, .int .i64 0, .int .i64 0, .int .i64 0, .int .i64 0, .int .i64 0, .int .i64 0, v] 46 (0, 0))) := Lib.hid ((hbel.block _ (by omega)).trans HX.out)
          have HR8 := Lib.hid ((hbel.block b (by omega)).trans HR.out)
          have HC8 : Hid (∀ i, i < l.length → w8.cell? ⟨w6.heap.size, i, none⟩ = some (.int .u8 ((l.getD i 0).toNat : Int))) := Lib.hid (fun i hi => (hbel.cell (p := ⟨w6.heap.size, i, none⟩) (by show w6.heap.size < _; omega)).trans (HC.out i hi))
          have HM8 : Hid (Mod [b] w w8) := Lib.hid ⟨hbel.os.trans HM.out.os, hbel.tape.trans HM.out.tape, hbel.output.trans HM.out.output, Nat.le_trans HM.out.size hbel.size, fun k hk hs => (hbel.block k (by omega)).trans (HM.out.block k hk hs)⟩
          have HOw8 : Hid (w8.ownsRow (w6.heap.size + 1) 4 1 v1 (j + 1) (bools ((l.take (j + 1)).map (· == 49)))) := by
            refine Lib.hid ?_
            have e : bools ((l.take (j + 1)).map (· == 49)) = bools ((l.take j).map (· == 49)) ++ [.bool false] := by
              rw [take_snoc_by l j hlt, ← HN.out]; simp [bools, HN49.out]
            rw [e]
            rw [← HKS.out]
            have h2 := hown
            simp only [List.length_append, List.length_cons, List.length_nil, HKL.out] at h2
            exact h2
          have hz8 := hbel.size
          obtain ⟨Av, cv, hv⟩ := YthkheemjgcbofaaDoorW.PrintWords.own_slice HOw8.out
          subst hv
          have fx8 := blk_free HX8.out 11
          have cx8 : w8.cell? ⟨w.heap.size, 11, none⟩ = some v := (blk_cell HX8.out 11).trans rfl
          clear hown hbel
          go_wp2
          go_roundw
          case rel =>
            refine ⟨j + 1, true, .slice Av (j + 1) cv, by omega, by go_num, rfl, Lib.hid ?_, Lib.hid ?_, Lib.hid ?_, Lib.hid ?_, Lib.hid ?_, Lib.hid ?_, ?_⟩
            · rw [take_snoc_by l j hlt, ← HN.out]
              have hb := HBv.out
              simp only [List.all_append, List.all_cons, List.all_nil, HN48.out, HN49.out]
              simp [← Bool.and_assoc, ← hb]
            · exact blk_set HX8.out 11 _
            · exact blk_far HR8.out (by simp; omega) _
            · exact YthkheemjgcbofaaDoorW.PrintWords.own_move HOw8.out (fun k hk => Below.heap_setCell _ _ _ _ (by have := YthkheemjgcbofaaDoorW.PrintWords.own_base HOw8.out k hk; simp; omega))
            · intro i hi
              rw [World.cell?_of_block (w := w8) (Below.heap_setCell _ _ _ _ (by simp; omega))]; exact HC8.out i hi
            · exact HM8.out.set (by simp) _
            · simp [World.setCell]; omega
          case measure => simp [intOf]; omega
        · replace h48 : (((n.toNat : Nat) : Int) == 48) = false := by simpa using h48
          replace HN48 : Hid ((n == 48) = false) := Lib.hid (HN48.out.trans h48)
          by_cases h49 : (((n.toNat : Nat) : Int) == 49) = true
          · replace HN49 : Hid ((n == 49) = true) := Lib.hid (HN49.out.trans h49)
            go_wp2_with (at_builtin; refine YthkheemjgcbofaaDoorW.PrintWords.print_append (w0 := wr) (w6.heap.size + 1) rfl _ _ 44 4 (.bool false) 1 rfl Tryd.underlying44 info4 rfl (by decide) v ks (.bool true) rfl rfl rfl (by rw [HKL.out]; exact HOk.out) (Below.refl _ _) hsz1 (by rw [HKL.out]; omega) ?_)
            intro v1 w8 hown hbel _ _
            have HX8 : Hid (w8.heap[w.heap.size]? = some (.cells #[.int .i64 6, .int .i64 0, .int .i64 0, .bool false, .int .u32 0, .int .i64 0, .int .i64 0, .int .i64 0, .int .i64 0, .int .i64 0, .int .i64 0, v] 46 (0, 0))) := Lib.hid ((hbel.block _ (by omega)).trans HX.out)
            have HR8 := Lib.hid ((hbel.block b (by omega)).trans HR.out)
            have HC8 : Hid (∀ i, i < l.length → w8.cell? ⟨w6.heap.size, i, none⟩ = some (.int .u8 ((l.getD i 0).toNat : Int))) := Lib.hid (fun i hi => (hbel.cell (p := ⟨w6.heap.size, i, none⟩) (by show w6.heap.size < _; omega)).trans (HC.out i hi))
            have HM8 : Hid (Mod [b] w w8) := Lib.hid ⟨hbel.os.trans HM.out.os, hbel.tape.trans HM.out.tape, hbel.output.trans HM.out.output, Nat.le_trans HM.out.size hbel.size, fun k hk hs => (hbel.block k (by omega)).trans (HM.out.block k hk hs)⟩
            have HOw8 : Hid (w8.ownsRow (w6.heap.size + 1) 4 1 v1 (j + 1) (bools ((l.take (j + 1)).map (· == 49)))) := by
              refine Lib.hid ?_
              have e : bools ((l.take (j + 1)).map (· == 49)) = bools ((l.take j).map (· == 49)) ++ [.bool true] := by
                rw [take_snoc_by l j hlt, ← HN.out]; simp [bools, HN49.out]
              rw [e]
              rw [← HKS.out]
              have h2 := hown
              simp only [List.length_append, List.length_cons, List.length_nil, HKL.out] at h2
              exact h2
            have hz8 := hbel.size
            obtain ⟨Av, cv, hv⟩ := YthkheemjgcbofaaDoorW.PrintWords.own_slice HOw8.out
            subst hv
            have fx8 := blk_free HX8.out 11
            have cx8 : w8.cell? ⟨w.heap.size, 11, none⟩ = some v := (blk_cell HX8.out 11).trans rfl
            clear hown hbel
            go_wp2
            go_roundw
            case rel =>
              refine ⟨j + 1, true, .slice Av (j + 1) cv, by omega, by go_num, rfl, Lib.hid ?_, Lib.hid ?_, Lib.hid ?_, Lib.hid ?_, Lib.hid ?_, Lib.hid ?_, ?_⟩
              · rw [take_snoc_by l j hlt, ← HN.out]
                have hb := HBv.out
                simp only [List.all_append, List.all_cons, List.all_nil, HN48.out, HN49.out]
                simp [← Bool.and_assoc, ← hb]
              · exact blk_set HX8.out 11 _
              · exact blk_far HR8.out (by simp; omega) _
              · exact YthkheemjgcbofaaDoorW.PrintWords.own_move HOw8.out (fun k hk => Below.heap_setCell _ _ _ _ (by have := YthkheemjgcbofaaDoorW.PrintWords.own_base HOw8.out k hk; simp; omega))
              · intro i hi
                rw [World.cell?_of_block (w := w8) (Below.heap_setCell _ _ _ _ (by simp; omega))]; exact HC8.out i hi
              · exact HM8.out.set (by simp) _
              · simp [World.setCell]; omega
            case measure => simp [intOf]; omega
          · replace h49 : (((n.toNat : Nat) : Int) == 49) = false := by simpa using h49
            replace HN49 : Hid ((n == 49) = false) := Lib.hid (HN49.out.trans h49)
            go_wp2_with (at_builtin; refine YthkheemjgcbofaaDoorW.PrintWords.print_append (w0 := wr) (w6.heap.size + 1) rfl _ _ 44 4 (.bool false) 1 rfl Tryd.underlying44 info4 rfl (by decide) v ks (.bool false) rfl rfl rfl (by rw [HKL.out]; exact HOk.out) (Below.refl _ _) hsz1 (by rw [HKL.out]; omega) ?_)
            intro v1 w8 hown hbel _ _
            have HX8 : Hid (w8.heap[w.heap.size]? = some (.cells #[.int .i64 6, .int .i64 0, .int .i64 0, .bool false, .int .u32 0, .int .i64 0, .int .i64 0, .int .i64 0, .int .i64 0, .int .i64 0, .int .i64 0, v] 46 (0, 0))) := Lib.hid ((hbel.block _ (by omega)).trans HX.out)
            have HR8 := Lib.hid ((hbel.block b (by omega)).trans HR.out)
            have HC8 : Hid (∀ i, i < l.length → w8.cell? ⟨w6.heap.size, i, none⟩ = some (.int .u8 ((l.getD i 0).toNat : Int))) := Lib.hid (fun i hi => (hbel.cell (p := ⟨w6.heap.size, i, none⟩) (by show w6.heap.size < _; omega)).trans (HC.out i hi))
            have HM8 : Hid (Mod [b] w w8) := Lib.hid ⟨hbel.os.trans HM.out.os, hbel.tape.trans HM.out.tape, hbel.output.trans HM.out.output, Nat.le_trans HM.out.size hbel.size, fun k hk hs => (hbel.block k (by omega)).trans (HM.out.block k hk hs)⟩
            have HOw8 : Hid (w8.ownsRow (w6.heap.size + 1) 4 1 v1 (j + 1) (bools ((l.take (j + 1)).map (· == 49)))) := by
              refine Lib.hid ?_
              have e : bools ((l.take (j + 1)).map (· == 49)) = bools ((l.take j).map (· == 49)) ++ [.bool false] := by
                rw [take_snoc_by l j hlt, ← HN.out]; simp [bools, HN49.out]
              rw [e]
              rw [← HKS.out]
              have h2 := hown
              simp only [List.length_append, List.length_cons, List.length_nil, HKL.out] at h2
              exact h2
            have hz8 := hbel.size
            obtain ⟨Av, cv, hv⟩ := YthkheemjgcbofaaDoorW.PrintWords.own_slice HOw8.out
            subst hv
            have fx8 := blk_free HX8.out 11
            have cx8 : w8.cell? ⟨w.heap.size, 11, none⟩ = some v := (blk_cell HX8.out 11).trans rfl
            clear hown hbel
            go_wp2
            go_roundw
            case rel =>
              refine ⟨j + 1, false, .slice Av (j + 1) cv, by omega, by go_num, rfl, Lib.hid ?_, Lib.hid ?_, Lib.hid ?_, Lib.hid ?_, Lib.hid ?_, Lib.hid ?_, ?_⟩
              · rw [take_snoc_by l j hlt, ← HN.out]
                have hb := HBv.out
                simp only [List.all_append, List.all_cons, List.all_nil, HN48.out, HN49.out]
                simp [← Bool.and_assoc, ← hb]
              · exact blk_set HX8.out 11 _
              · exact blk_far HR8.out (by simp; omega) _
              · exact YthkheemjgcbofaaDoorW.PrintWords.own_move HOw8.out (fun k hk => Below.heap_setCell _ _ _ _ (by have := YthkheemjgcbofaaDoorW.PrintWords.own_base HOw8.out k hk; simp; omega))
              · intro i hi
                rw [World.cell?_of_block (w := w8) (Below.heap_setCell _ _ _ _ (by simp; omega))]; exact HC8.out i hi
              · exact HM8.out.set (by simp) _
              · simp [World.setCell]; omega
            case measure => simp [intOf]; omega
    · have he : j = l.length := by omega
      subst he
      have HBv2 : Hid (B = okb) := Lib.hid (by have h := HBv.out; rw [List.take_length] at h; rw [h]; exact HOKB.out)
      have HOw2 : Hid (wr.ownsRow (w6.heap.size + 1) 4 1 v l.length (bools (l.map (· == 49)))) := Lib.hid (by have h := HOw.out; rw [List.take_length] at h; exact h)
      obtain ⟨Av, cv, hv, hcv, hKv⟩ := bool_reads HOw2.out
      rw [List.length_map] at hv
      subst hv
      have HKv := Lib.hid hKv
      clear hKv HBv HOw HC
      clear co0 co1 co2 co3 co4 co5 co6 co7 co8 co9 co10 co11
      obtain ⟨cr0, cr1, fr0, fr1⟩ := rd_cells HR.out
      by_cases hbad : (tok r).2.bad = true
      · go_upto_region 15 with (fail)
        obtain ⟨w8, hw8⟩ : ∃ W, W = wr.setCell ⟨b, 1, none⟩ (.bool true) := ⟨_, rfl⟩
        rw [← hw8]
        have HB8 : Hid (w8.heap[b]? = some (⟨(tok r).2.rest, true⟩ : Rd).blk) := Lib.hid (by rw [hw8]; exact blk_set HR.out 1 _)
        have HO8 : Hid (w8.heap[w.heap.size]? = some (.cells #[.int .i64 6, .int .i64 0, .int .i64 0, .bool false, .int .u32 0, .int .i64 0, .int .i64 0, .int .i64 0, .int .i64 0, .int .i64 0, .int .i64 0, .slice Av l.length cv] 46 (0, 0))) := Lib.hid (by rw [hw8]; exact blk_far HX.out (by simp; omega) _)
        have HM8 : Hid (Mod [b] w w8) := Lib.hid (by rw [hw8]; exact HM.out.set (by simp) _)
        have hz8 : wr.heap.size ≤ w8.heap.size := by rw [hw8]; simp [World.setCell]
        have HOw8 : Hid (w8.ownsRow (w.heap.size + 1) 4 1 (.slice Av l.length cv) l.length (bools (l.map (· == 49)))) := Lib.hid (by
          rw [hw8]
          refine YthkheemjgcbofaaDoorW.PrintWords.own_weaken (YthkheemjgcbofaaDoorW.PrintWords.own_move HOw2.out (fun k hk => Below.heap_setCell _ _ _ _ (by have := YthkheemjgcbofaaDoorW.PrintWords.own_base HOw2.out k hk; simp; omega))) (by omega))
        clear hw8 cr0 cr1 fr0 fr1
        obtain ⟨cr0, cr1, fr0, fr1⟩ := rd_cells HB8.out
        obtain ⟨co0, co1, co2, co3, co4, co5, co6, co7, co8, co9, co10, co11⟩ := cells12 HO8.out
        obtain ⟨fo0, fo1, fo2, fo3, fo4, fo5, fo6, fo7, fo8, fo9, fo10, fo11⟩ := frees12 HO8.out
        go_wp2_with fail
        refine bodyPost_ret (v := .agg #[.int .i64 6, .int .i64 0, .int .i64 0, .bool false, .int .u32 0, .int .i64 0, .int .i64 0, .int .i64 0, .int .i64 0, .int .i64 0, .int .i64 0, .slice Av l.length cv]) (by simp [results, Tryd.results45, go_sem, co0, co1, co2, co3, co4, co5, co6, co7, co8, co9, co10, co11, hne, hne']) rfl ⟨.slice Av l.length cv, rfl, ?_, ?_, ?_⟩
        · refine YthkheemjgcbofaaDoorW.PrintWords.own_weaken (YthkheemjgcbofaaDoorW.PrintWords.own_move HOw8.out (fun k hk => ?_)) (by omega)
          have hkb := YthkheemjgcbofaaDoorW.PrintWords.own_base HOw8.out k hk
          repeat rw [Below.heap_setCell _ _ _ _ (by simp; omega)]
        · repeat rw [blk_far_eq _ (by simp; omega)]
          rw [blk_set HB8.out 1 _]; simp [Rd.blk, hbad]
        · (repeat (first | (with_reducible assumption) | (with_reducible exact HM8.out) | (with_reducible refine Mod.drewN ?_ _) | (with_reducible refine Mod.drew ?_) | (with_reducible refine Mod.alloc ?_ _) | (with_reducible refine Mod.set ?_ (by simp; try omega) _)))
      · have hbad' : (tok r).2.bad = false := by simpa using hbad
        clear hbad
        cases B with
        | false =>
          go_upto_region 15 with (fail)
          obtain ⟨w8, hw8⟩ : ∃ W, W = wr.setCell ⟨b, 1, none⟩ (.bool true) := ⟨_, rfl⟩
          rw [← hw8]
          have HB8 : Hid (w8.heap[b]? = some (⟨(tok r).2.rest, true⟩ : Rd).blk) := Lib.hid (by rw [hw8]; exact blk_set HR.out 1 _)
          have HO8 : Hid (w8.heap[w.heap.size]? = some (.cells #[.int .i64 6, .int .i64 0, .int .i64 0, .bool false, .int .u32 0, .int .i64 0, .int .i64 0, .int .i64 0, .int .i64 0, .int .i64 0, .int .i64 0, .slice Av l.length cv] 46 (0, 0))) := Lib.hid (by rw [hw8]; exact blk_far HX.out (by simp; omega) _)
          have HM8 : Hid (Mod [b] w w8) := Lib.hid (by rw [hw8]; exact HM.out.set (by simp) _)
          have hz8 : wr.heap.size ≤ w8.heap.size := by rw [hw8]; simp [World.setCell]
          have HOw8 : Hid (w8.ownsRow (w.heap.size + 1) 4 1 (.slice Av l.length cv) l.length (bools (l.map (· == 49)))) := Lib.hid (by
            rw [hw8]
            refine YthkheemjgcbofaaDoorW.PrintWords.own_weaken (YthkheemjgcbofaaDoorW.PrintWords.own_move HOw2.out (fun k hk => Below.heap_setCell _ _ _ _ (by have := YthkheemjgcbofaaDoorW.PrintWords.own_base HOw2.out k hk; simp; omega))) (by omega))
          clear hw8 cr0 cr1 fr0 fr1
          obtain ⟨cr0, cr1, fr0, fr1⟩ := rd_cells HB8.out
          obtain ⟨co0, co1, co2, co3, co4, co5, co6, co7, co8, co9, co10, co11⟩ := cells12 HO8.out
          obtain ⟨fo0, fo1, fo2, fo3, fo4, fo5, fo6, fo7, fo8, fo9, fo10, fo11⟩ := frees12 HO8.out
          go_wp2_with fail
          refine bodyPost_ret (v := .agg #[.int .i64 6, .int .i64 0, .int .i64 0, .bool false, .int .u32 0, .int .i64 0, .int .i64 0, .int .i64 0, .int .i64 0, .int .i64 0, .int .i64 0, .slice Av l.length cv]) (by simp [results, Tryd.results45, go_sem, co0, co1, co2, co3, co4, co5, co6, co7, co8, co9, co10, co11, hne, hne']) rfl ⟨.slice Av l.length cv, rfl, ?_, ?_, ?_⟩
          · refine YthkheemjgcbofaaDoorW.PrintWords.own_weaken (YthkheemjgcbofaaDoorW.PrintWords.own_move HOw8.out (fun k hk => ?_)) (by omega)
            have hkb := YthkheemjgcbofaaDoorW.PrintWords.own_base HOw8.out k hk
            repeat rw [Below.heap_setCell _ _ _ _ (by simp; omega)]
          · repeat rw [blk_far_eq _ (by simp; omega)]
            rw [blk_set HB8.out 1 _]; simp [Rd.blk, hbad', ← HBv2.out]
          · (repeat (first | (with_reducible assumption) | (with_reducible exact HM8.out) | (with_reducible refine Mod.drewN ?_ _) | (with_reducible refine Mod.drew ?_) | (with_reducible refine Mod.alloc ?_ _) | (with_reducible refine Mod.set ?_ (by simp; try omega) _)))
        | true =>
          go_upto_region 15 with (fail)
          obtain ⟨w8, hw8⟩ : ∃ W, W = wr.setCell ⟨b, 1, none⟩ (.bool false) := ⟨_, rfl⟩
          rw [← hw8]
          have HB8 : Hid (w8.heap[b]? = some (⟨(tok r).2.rest, false⟩ : Rd).blk) := Lib.hid (by rw [hw8]; exact blk_set HR.out 1 _)
          have HO8 : Hid (w8.heap[w.heap.size]? = some (.cells #[.int .i64 6, .int .i64 0, .int .i64 0, .bool false, .int .u32 0, .int .i64 0, .int .i64 0, .int .i64 0, .int .i64 0, .int .i64 0, .int .i64 0, .slice Av l.length cv] 46 (0, 0))) := Lib.hid (by rw [hw8]; exact blk_far HX.out (by simp; omega) _)
          have HM8 : Hid (Mod [b] w w8) := Lib.hid (by rw [hw8]; exact HM.out.set (by simp) _)
          have hz8 : wr.heap.size ≤ w8.heap.size := by rw [hw8]; simp [World.setCell]
          have HOw8 : Hid (w8.ownsRow (w.heap.size + 1) 4 1 (.slice Av l.length cv) l.length (bools (l.map (· == 49)))) := Lib.hid (by
            rw [hw8]
            refine YthkheemjgcbofaaDoorW.PrintWords.own_weaken (YthkheemjgcbofaaDoorW.PrintWords.own_move HOw2.out (fun k hk => Below.heap_setCell _ _ _ _ (by have := YthkheemjgcbofaaDoorW.PrintWords.own_base HOw2.out k hk; simp; omega))) (by omega))
          clear hw8 cr0 cr1 fr0 fr1
          obtain ⟨cr0, cr1, fr0, fr1⟩ := rd_cells HB8.out
          obtain ⟨co0, co1, co2, co3, co4, co5, co6, co7, co8, co9, co10, co11⟩ := cells12 HO8.out
          obtain ⟨fo0, fo1, fo2, fo3, fo4, fo5, fo6, fo7, fo8, fo9, fo10, fo11⟩ := frees12 HO8.out
          obtain ⟨Aw, cw, hvw, hcw, hKw⟩ := bool_reads HOw8.out
          rw [List.length_map] at hvw
          injection hvw with e1 e2 e3
          subst e1 e3
          have HW := Lib.hid (wrong_calls ⟨6, 0, ⟨0, false, 0, ⟨0, 0, 0, 0⟩, 0⟩, 0, l.map (· == 49)⟩ Av cv w8 hKw hcw)
          simp only [vals46, List.length_map] at HW
          clear hKw
          go_wp2_with fail
          refine HW.out.mono ?_
          rintro e w9 ⟨rfl, hb9⟩
          have HB9 := Lib.hid (blk_below HB8.out hb9)
          have HO9 : Hid (w9.heap[w.heap.size]? = some (.cells #[.int .i64 6, .int .i64 0, .int .i64 0, .bool false, .int .u32 0, .int .i64 0, .int .i64 0, .int .i64 0, .int .i64 0, .int .i64 0, .int .i64 0, .slice Av l.length cv] 46 (0, 0))) := Lib.hid (blk_below HO8.out hb9)
          have HM9 := Lib.hid (HM8.out.thenBelow hb9)
          have HOw9 := Lib.hid (YthkheemjgcbofaaDoorW.PrintWords.pw_own_below HOw8.out hb9)
          clear hb9 cr0 cr1 fr0 fr1 co0 co1 co2 co3 co4 co5 co6 co7 co8 co9 co10 co11 fo0 fo1 fo2 fo3 fo4 fo5 fo6 fo7 fo8 fo9 fo10 fo11
          obtain ⟨cr0, cr1, fr0, fr1⟩ := rd_cells HB9.out
          obtain ⟨co0, co1, co2, co3, co4, co5, co6, co7, co8, co9, co10, co11⟩ := cells12 HO9.out
          obtain ⟨fo0, fo1, fo2, fo3, fo4, fo5, fo6, fo7, fo8, fo9, fo10, fo11⟩ := frees12 HO9.out
          go_wp2_with fail
          refine bodyPost_ret (v := .agg #[.int .i64 6, .int .i64 0, .int .i64 0, .bool false, .int .u32 0, .int .i64 0, .int .i64 0, .int .i64 0, .int .i64 0, .int .i64 0, .int .i64 0, .slice Av l.length cv]) (by simp [results, Tryd.results45, go_sem, co0, co1, co2, co3, co4, co5, co6, co7, co8, co9, co10, co11, hne, hne']) rfl ⟨.slice Av l.length cv, rfl, ?_, ?_, ?_⟩
          · refine YthkheemjgcbofaaDoorW.PrintWords.own_weaken (YthkheemjgcbofaaDoorW.PrintWords.own_move HOw9.out (fun k hk => ?_)) (by omega)
            have hkb := YthkheemjgcbofaaDoorW.PrintWords.own_base HOw9.out k hk
            repeat rw [Below.heap_setCell _ _ _ _ (by simp; omega)]
          · repeat rw [blk_far_eq _ (by simp; omega)]
            rw [blk_set HB9.out 1 _]; simp [Rd.blk, hbad', ← HBv2.out]
          · (repeat (first | (with_reducible assumption) | (with_reducible exact HM9.out) | (with_reducible refine Mod.drewN ?_ _) | (with_reducible refine Mod.drew ?_) | (with_reducible refine Mod.alloc ?_ _) | (with_reducible refine Mod.set ?_ (by simp; try omega) _)))
end Go.Proofs.YthkheemjgcbofaaDoor

namespace Go.Proofs.YthkheemjgcbofaaDoor
set_option linter.unusedVariables false
set_option linter.unusedSimpArgs false
open Go.RowKit Go.Proofs.YthkheemjgcbofaaDoor.PSc Go.Proofs.YthkheemjgcbofaaDoorW.PrintWords

theorem idx_range (l : List By) (s : By) : ∀ i : Int, 0 ≤ i → idxF l s i = -1 ∨ (i ≤ idxF l s i ∧ idxF l s i < i + l.length) := by
  induction l with
  | nil => intro i _; exact .inl rfl
  | cons x l ih =>
    intro i hi
    unfold idxF
    split
    · right; simp only [List.length_cons]; omega
    · rcases ih (i + 1) (by omega) with h | h
      · exact .inl h
      · right
        simp only [List.length_cons]
        omega

/-- The event's cells as the caller has them: its Keep is nil, or a row of the call's own. -/
def EvPost (b : Nat) (word : By) (r : Rd) (w : World) (e : Ending) (w' : World) : Prop :=
  ∃ v, e = .returned (.agg (vals46 (evF word r).1 v)) ∧ w'.ownsRow w.heap.size 4 1 v (evF word r).1.f4.length (bools (evF word r).1.f4) ∧ w'.heap[b]? = some (evF word r).2.blk ∧ Mod [b] w w'

theorem event_calls (b : Nat) (word : By) (r : Rd) (w : World) (hG : Glob w) (hl : r.rest.length < 4294967281) (h6 : 6 ≤ b) (hb : w.heap[b]? = some r.blk) :
    Calls Tryd.prog 45 #[.pointer (some ⟨b, 0, none⟩), .string ⟨word.toArray⟩] w (EvPost b word r w) := by
  have nil4 : ∀ w' : World, w'.ownsRow w.heap.size 4 1 (.slice none 0 0) 0 (bools []) := fun w' => own_nil _ _ _ _
  by_cases h1 : max (idxF wordsL word 0) 0 = 1
  · generalize ho : opF (num r).2 = p
    obtain ⟨⟨o0, o1, o2, ⟨o3, o4, o5, o6⟩, o7⟩, ro⟩ := p
    refine (event_one b word r w hG hl h6 hb 1 h1 rfl o0 o1 o2 o3 o4 o5 o6 o7 ro ho).mono ?_
    rintro e w' ⟨rfl, hb', hm⟩
    have he : evF word r = (⟨1, (num r).1, ⟨o0, o1, o2, ⟨o3, o4, o5, o6⟩, o7⟩, 0, []⟩, ⟨ro.rest, ro.bad || wrongF ⟨1, (num r).1, ⟨o0, o1, o2, ⟨o3, o4, o5, o6⟩, o7⟩, 0, []⟩⟩) := by
      unfold evF evRaw; simp [h1, ho]
    refine ⟨.slice none 0 0, ?_, ?_, ?_, hm⟩
    · rw [he]; rfl
    · rw [he]; exact nil4 w'
    · rw [he]; exact hb'
  · by_cases h2 : max (idxF wordsL word 0) 0 = 2
    · refine (event_two b word r w hG hl h6 hb 2 h2 rfl).mono ?_
      rintro e w' ⟨rfl, hb', hm⟩
      have he : evF word r = (⟨2, (num r).1, z43, 0, []⟩, ⟨(num r).2.rest, (num r).2.bad || wrongF ⟨2, (num r).1, z43, 0, []⟩⟩) := by
        unfold evF evRaw; simp [h2]
      refine ⟨.slice none 0 0, ?_, ?_, ?_, hm⟩
      · rw [he]; rfl
      · rw [he]; exact nil4 w'
      · rw [he]; exact hb'
    · by_cases h5 : max (idxF wordsL word 0) 0 = 5
      · refine (event_five b word r w hG hl h6 hb 5 h5 rfl).mono ?_
        rintro e w' ⟨rfl, hb', hm⟩
        have he : evF word r = (⟨5, 0, z43, (num r).1, []⟩, ⟨(num r).2.rest, (num r).2.bad || wrongF ⟨5, 0, z43, (num r).1, []⟩⟩) := by
          unfold evF evRaw; simp [h5]
        refine ⟨.slice none 0 0, ?_, ?_, ?_, hm⟩
        · rw [he]; rfl
        · rw [he]; exact nil4 w'
        · rw [he]; exact hb'
      · by_cases h6' : max (idxF wordsL word 0) 0 = 6
        · refine (event_six b word r w hG hl h6 hb 6 h6' rfl _ _ rfl rfl _ rfl).mono ?_
          rintro e w' ⟨v, rfl, hown, hb', hm⟩
          have he : evF word r = (⟨6, 0, z43, 0, (Lib.trimPrefix (tok r).1 [61]).map (· == 49)⟩, ⟨(tok r).2.rest, ((tok r).2.bad || !(Lib.hasPrefix (tok r).1 [61] && (Lib.trimPrefix (tok r).1 [61]).all fun c => c == 48 || c == 49)) || wrongF ⟨6, 0, z43, 0, (Lib.trimPrefix (tok r).1 [61]).map (· == 49)⟩⟩) := by
            unfold evF evRaw; simp only [h6', h1, h2, h5]; simp
          refine ⟨v, ?_, ?_, ?_, hm⟩
          · rw [he]; rfl
          · rw [he]; simp only [List.length_map]; exact hown
          · rw [he]; exact hb'
        · have hk := idx_range wordsL word 0 (by omega)
          have hwl : wordsL.length = 8 := rfl
          rw [hwl] at hk
          generalize hkk : max (idxF wordsL word 0) 0 = k at *
          refine (event_else b word r w hG hl h6 hb k hkk (by simpa using h1) (by simpa using h6') (by simp [fieldsOf, h1, h2, h5])).mono ?_
          rintro e w' ⟨rfl, hb', hm⟩
          have he : evF word r = (⟨k, 0, z43, 0, []⟩, ⟨r.rest, r.bad || wrongF ⟨k, 0, z43, 0, []⟩⟩) := by
            unfold evF evRaw; simp [hkk, h1, h2, h5, h6']
          refine ⟨.slice none 0 0, ?_, ?_, ?_, hm⟩
          · rw [he]; rfl
          · rw [he]; exact nil4 w'
          · rw [he]; exact hb'
end Go.Proofs.YthkheemjgcbofaaDoor
