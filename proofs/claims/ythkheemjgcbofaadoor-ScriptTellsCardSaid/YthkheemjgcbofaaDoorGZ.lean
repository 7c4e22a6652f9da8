/-
  The lines that are told of an event, by the reference: the same text.
  ScriptTells: the walk.
  ScriptTells: what is told of an event is laid in the same lines by both programs: for every event and every told the law returns true; both arguments read as before. Conditions: those of the given row (the listed library variables as the program's text lays them, tied by the card).
-/
import Derived.Test.YthkheemjgcbofaaDoorGU
import Derived.Test.YthkheemjgcbofaaDoorGW
import Derived.Test.YthkheemjgcbofaaDoorGX
import Derived.Test.YthkheemjgcbofaaDoorGY
import Derived.Test.YthkheemjgcbofaaDoorGK
import Derived.Test.YthkheemjgcbofaaDoorCards
import Derived.Test.YthkheemjgcbofaaDoorTie
import Derived.Test.YthkheemjgcbofaaDoorGR
import Derived.SevenTiedAt
import Derived.OpenShut
import Derived.ShutString
import Derived.ChangeOld
import Derived.Below
import Derived.SizedLaws

namespace Go.Proofs.YthkheemjgcbofaaDoor
set_option linter.unusedVariables false
set_option linter.unusedSimpArgs false
open Go.RowKit Go.Proofs.YthkheemjgcbofaaDoor.PSc Go.Proofs.YthkheemjgcbofaaDoorW.PrintWords

theorem rlines_told (x : S46) (v : Value) (te td tn : Int) (hs : List S57) (B : Option Addr) (d : Nat) (w : World) (hG : Glob w) (hxe : I64 te) (hxd : I64 td) (hxn : I64 tn) (hr : Kd.C k57 w B hs.length hs) (hd : hs.length ≤ d) (hok : ∀ h, h ∈ hs → Ok57 h ∧ h.f4.length ≤ 9) (hl9 : hs.length ≤ 9) :
    Calls Tryd.prog 17 #[.agg (vals46 x v), .agg #[.int .i64 te, .slice B hs.length d, .int .i64 td, .int .i64 tn]] w (LPost (toldT x.f0 te td tn hs) w) := by
  by_cases he : te = 0
  · by_cases hk : x.f0 = 3
    · exact rlines_b x v te td tn hs B d w hG hxe hxd hxn hr hd hok hl9 he hk
    · exact rlines_c x v te td tn hs B d w hG hxe hxd hxn hr hd hok hl9 he hk
  · exact rlines_a x v te td tn hs B d w hG hxe hxd hxn hr hd hok hl9 he

/-- What is told, cut as the law cuts it. -/
def cutH (h : S57) : S57 := ⟨h.f0, h.f1, h.f2, h.f3, h.f4.take 9, h.f5, h.f6, h.f7, h.f8⟩
theorem cutH_ok (h : S57) (hk : Ok57 h) : Ok57 (cutH h) ∧ (cutH h).f4.length ≤ 9 :=
  ⟨⟨hk.s, hk.op, hk.e, hk.t, hk.a, hk.b, hk.c, fun r hr => hk.rows r (List.mem_of_mem_take hr)⟩, by simp [cutH, List.length_take]; omega⟩
theorem info57 : (Tryd.prog.info? 57).map (fun i => (i.zero, i.size, i.bytes)) = some (some (.agg #[(.int .i64 0), (.int .i64 0), (.bool false), (.int .u32 0), (.int .i64 0), (.int .i64 0), (.int .i64 0), (.int .i64 0), (.int .i64 0), (.int .i64 0), (.int .u64 0), (.slice none 0 0), (.int .u64 0), (.int .u64 0), (.int .u64 0), (.bool false)]), 16, 136) := by kernel_rfl
theorem info87 : (Tryd.prog.info? 87).map (fun i => (i.zero, i.size, i.bytes)) = some (some (.agg #[(.int .u32 0), (.int .i64 0), (.int .i64 0), (.int .i64 0), (.int .i64 0), (.int .i64 0)]), 6, 48) := by kernel_rfl
example : Tryd.prog.underlying 47 = some (.slice 57) := Tryd.underlying47
example : Tryd.prog.underlying 53 = some (.slice 87) := Tryd.underlying53
end Go.Proofs.YthkheemjgcbofaaDoor

namespace Go.Proofs.YthkheemjgcbofaaDoor
set_option linter.unusedVariables false
set_option linter.unusedSimpArgs false
open Go.RowKit Go.Proofs.YthkheemjgcbofaaDoor.PSc Go.Proofs.YthkheemjgcbofaaDoorW.PrintWords Go.Proofs.YthkheemjgcbofaaDoorW.PrintLast Go.Proofs.YthkheemjgcbofaaDoorW.PrintMore

theorem cells4 {w : World} {b : Nat} {a0 a1 a2 a3 : Value} {T : TypeId} {fr : Nat × Nat} (h : w.heap[b]? = some (.cells #[a0, a1, a2, a3] T fr)) :
    w.cell? ⟨b, 0, none⟩ = some a0 ∧ w.cell? ⟨b, 1, none⟩ = some a1 ∧ w.cell? ⟨b, 2, none⟩ = some a2 ∧ w.cell? ⟨b, 3, none⟩ = some a3 :=
  ⟨(blk_cell h 0).trans rfl, (blk_cell h 1).trans rfl, (blk_cell h 2).trans rfl, (blk_cell h 3).trans rfl⟩
theorem cells16 {w : World} {b : Nat} {a0 a1 a2 a3 a4 a5 a6 a7 a8 a9 a10 a11 a12 a13 a14 a15 : Value} {T : TypeId} {fr : Nat × Nat} (h : w.heap[b]? = some (.cells #[a0, a1, a2, a3, a4, a5, a6, a7, a8, a9, a10, a11, a12, a13, a14, a15] T fr)) :
    w.cell? ⟨b, 0, none⟩ = some a0 ∧ w.cell? ⟨b, 1, none⟩ = some a1 ∧ w.cell? ⟨b, 2, none⟩ = some a2 ∧ w.cell? ⟨b, 3, none⟩ = some a3 ∧ w.cell? ⟨b, 4, none⟩ = some a4 ∧ w.cell? ⟨b, 5, none⟩ = some a5 ∧ w.cell? ⟨b, 6, none⟩ = some a6 ∧ w.cell? ⟨b, 7, none⟩ = some a7 ∧ w.cell? ⟨b, 8, none⟩ = some a8 ∧ w.cell? ⟨b, 9, none⟩ = some a9 ∧ w.cell? ⟨b, 10, none⟩ = some a10 ∧ w.cell? ⟨b, 11, none⟩ = some a11 ∧ w.cell? ⟨b, 12, none⟩ = some a12 ∧ w.cell? ⟨b, 13, none⟩ = some a13 ∧ w.cell? ⟨b, 14, none⟩ = some a14 ∧ w.cell? ⟨b, 15, none⟩ = some a15 :=
  ⟨(blk_cell h 0).trans rfl, (blk_cell h 1).trans rfl, (blk_cell h 2).trans rfl, (blk_cell h 3).trans rfl, (blk_cell h 4).trans rfl, (blk_cell h 5).trans rfl, (blk_cell h 6).trans rfl, (blk_cell h 7).trans rfl, (blk_cell h 8).trans rfl, (blk_cell h 9).trans rfl, (blk_cell h 10).trans rfl, (blk_cell h 11).trans rfl, (blk_cell h 12).trans rfl, (blk_cell h 13).trans rfl, (blk_cell h 14).trans rfl, (blk_cell h 15).trans rfl⟩

set_option maxHeartbeats 8000000 in
set_option maxRecDepth 100000 in
theorem scriptTells_walk (x : S46) (v : Value) (te td tn : Int) (hs : List S57) (B : Option Addr) (d : Nat) (w : World) (hG : Glob w) (hxe : I64 te) (hxd : I64 td) (hxn : I64 tn) (hok : ∀ h, h ∈ hs → Ok57 h) (hr : Kd.C k57 w B hs.length hs) (hd : hs.length ≤ d) :
    Calls Tryd.prog 6 #[.agg (vals46 x v), .agg #[.int .i64 te, .slice B hs.length d, .int .i64 td, .int .i64 tn]] w fun e w' => e = .returned (.bool true) ∧ Below w.heap.size w w' := by
  have HLP0 := fun (L : List S57) (AL : Option Addr) (cL : Nat) (hl9 : L.length ≤ 9) (hok : ∀ h, h ∈ L → Ok57 h ∧ h.f4.length ≤ 9) (hlc : L.length ≤ cL) (W : World) (hW : Below w.heap.size w W) (hC : Kd.C k57 W AL L.length L) => lines_told x v te td tn L AL cL W (hG.below hW hG.size) hxe hxd hxn hC hlc hok hl9
  have HLR0 := fun (L : List S57) (AL : Option Addr) (cL : Nat) (hl9 : L.length ≤ 9) (hok : ∀ h, h ∈ L → Ok57 h ∧ h.f4.length ≤ 9) (hlc : L.length ≤ cL) (W : World) (hW : Below w.heap.size w W) (hC : Kd.C k57 W AL L.length L) => rlines_told x v te td tn L AL cL W (hG.below hW hG.size) hxe hxd hxn hC hlc hok hl9
  obtain ⟨x0, x1, ⟨x2, x3, x4, ⟨x5, x6, x7, x8⟩, x9⟩, x10, x11⟩ := x
  simp only [vals46] at HLP0 HLR0 ⊢
  have HP0 := Lib.hid HLP0
  have HQ0 := Lib.hid HLR0
  clear HLP0 HLR0
  have hGs := hG.size
  have HR := Lib.hid hr
  have HOK := Lib.hid hok
  have hmax := Kd.C_max hr
  obtain ⟨wa, hwa⟩ : ∃ W, W = (w.alloc (.cells #[.int .i64 x0, .int .i64 x1, .int .i64 x2, .bool x3, .int .u32 x4, .int .i64 x5, .int .i64 x6, .int .i64 x7, .int .i64 x8, .int .i64 x9, .int .i64 x10, v] 46 (0, 0))).alloc (.cells #[.int .i64 te, .slice B hs.length d, .int .i64 td, .int .i64 tn] 51 (0, 0)) := ⟨_, rfl⟩
  have hba : Below w.heap.size w wa := by rw [hwa]; exact (Below.alloc (Below.refl _ _) (Nat.le_refl _) _).alloc (by simp) _
  have HX : Hid (wa.heap[w.heap.size]? = some (.cells #[.int .i64 x0, .int .i64 x1, .int .i64 x2, .bool x3, .int .u32 x4, .int .i64 x5, .int .i64 x6, .int .i64 x7, .int .i64 x8, .int .i64 x9, .int .i64 x10, v] 46 (0, 0))) := Lib.hid (by rw [hwa]; exact blk_alloc (blk_new w _) _)
  have HT : Hid (wa.heap[w.heap.size + 1]? = some (.cells #[.int .i64 te, .slice B hs.length d, .int .i64 td, .int .i64 tn] 51 (0, 0))) := Lib.hid (by rw [hwa]; exact blk_at _ _ (by simp))
  have HBA := Lib.hid hba
  have HW := Lib.hid (wakes_calls wa (hG.below hba hGs))
  have hza : w.heap.size + 2 ≤ wa.heap.size := blk_lt HT.out
  clear hba hr hok hxe hxd hxn
  go_enter Tryd.func6, Tryd.ntmps6
  go_upto_region 1 with (fail)
  rw [← hwa]
  clear hwa
  go_wp2_with fail
  refine HW.out.mono ?_
  rintro e w1 ⟨rfl, hb1⟩
  have HX1 := Lib.hid (blk_below HX.out hb1)
  have HT1 := Lib.hid (blk_below HT.out hb1)
  have HB1 := Lib.hid (HBA.out.trans (hb1.mono (by omega)))
  have hz1 : wa.heap.size ≤ w1.heap.size := hb1.size
  clear hb1 HW HX HT HBA
  have g1 : w1.cell? ⟨w.heap.size + 1, 1, none⟩ = some (.slice B hs.length d) := (blk_cell HT1.out 1).trans rfl
  go_wp2_with fail
  go_loopw [5, 13] (fun l i wr => ∃ k : Nat, k ≤ hs.length ∧ k ≤ 9 ∧ i = .int .i64 k ∧ Hid (Kd.R k57 57 wr w.heap.size (fun _ => True) l ((hs.take k).map cutH)) ∧ Hid (wr.heap[w.heap.size]? = some (.cells #[.int .i64 x0, .int .i64 x1, .int .i64 x2, .bool x3, .int .u32 x4, .int .i64 x5, .int .i64 x6, .int .i64 x7, .int .i64 x8, .int .i64 x9, .int .i64 x10, v] 46 (0, 0))) ∧ Hid (wr.heap[w.heap.size + 1]? = some (.cells #[.int .i64 te, .slice B hs.length d, .int .i64 td, .int .i64 tn] 51 (0, 0))) ∧ Hid (Below w.heap.size w wr)) (fun _ i _ => hs.length - (intOf i).toNat)
  case atStart => exact ⟨0, by omega, by omega, rfl, Lib.hid (Kd.R_nil _ _ _ _ _), HX1, HT1, HB1⟩
  case round =>
    clear g1
    obtain ⟨k, hk, hk9, rfl, HL, HXr, HTr, HBEL⟩ := hrel
    have hbel := HBEL.out
    have hwz := hbel.size
    have hl9 : ((hs.take k).map cutH).length ≤ 9 := by rw [List.length_map, List.length_take]; omega
    have HOL : Hid (∀ y, y ∈ (hs.take k).map cutH → Ok57 y ∧ y.f4.length ≤ 9) := Lib.hid (by
      intro y hy
      obtain ⟨z, hz, rfl⟩ := List.mem_map.1 hy
      exact cutH_ok z (HOK.out z (List.mem_of_mem_take hz)))
    obtain ⟨L, hL⟩ : ∃ L, L = (hs.take k).map cutH := ⟨_, rfl⟩
    rw [← hL] at HL HOL hl9
    have HLE := Lib.hid hL
    clear hL
    by_cases hlt : k < hs.length
    case' pos =>
      obtain ⟨h, hh⟩ : ∃ h, hs[k]? = some h := ⟨_, List.getElem?_eq_getElem hlt⟩
      have htk : (hs.take (k + 1)).map cutH = (hs.take k).map cutH ++ [cutH h] := by rw [List.take_add_one, hh]; simp
      obtain ⟨ad, A11, c11, rfl, h0, h1, h2, h3, h4, h5, h6, h7, h8, h9, h10, h11, h12, h13, h14, h15, hl, hC⟩ := at_T57 HR.out (k : Int) (by omega) (by omega)
      have hrd : rd_T57 hs (k : Int) = h := by unfold rd_T57; simp [hh]
      rw [hrd] at h0 h1 h2 h3 h4 h5 h6 h7 h8 h9 h10 h11 h12 h13 h14 h15 hl hC
      simp only [Int.toNat_natCast] at h0 h1 h2 h3 h4 h5 h6 h7 h8 h9 h10 h11 h12 h13 h14 h15
      replace h0 := (hbel.cell (World.block_lt_of_cell? _ _ h0)).trans h0
      replace h1 := (hbel.cell (World.block_lt_of_cell? _ _ h1)).trans h1
      replace h2 := (hbel.cell (World.block_lt_of_cell? _ _ h2)).trans h2
      replace h3 := (hbel.cell (World.block_lt_of_cell? _ _ h3)).trans h3
      replace h4 := (hbel.cell (World.block_lt_of_cell? _ _ h4)).trans h4
      replace h5 := (hbel.cell (World.block_lt_of_cell? _ _ h5)).trans h5
      replace h6 := (hbel.cell (World.block_lt_of_cell? _ _ h6)).trans h6
      replace h7 := (hbel.cell (World.block_lt_of_cell? _ _ h7)).trans h7
      replace h8 := (hbel.cell (World.block_lt_of_cell? _ _ h8)).trans h8
      replace h9 := (hbel.cell (World.block_lt_of_cell? _ _ h9)).trans h9
      replace h10 := (hbel.cell (World.block_lt_of_cell? _ _ h10)).trans h10
      replace h11 := (hbel.cell (World.block_lt_of_cell? _ _ h11)).trans h11
      replace h12 := (hbel.cell (World.block_lt_of_cell? _ _ h12)).trans h12
      replace h13 := (hbel.cell (World.block_lt_of_cell? _ _ h13)).trans h13
      replace h14 := (hbel.cell (World.block_lt_of_cell? _ _ h14)).trans h14
      replace h15 := (hbel.cell (World.block_lt_of_cell? _ _ h15)).trans h15
      have HKC := Lib.hid (Kd.C_below hC hbel)
      have HTK := Lib.hid htk
      obtain ⟨v0, hv0⟩ : ∃ W, W = wr.alloc (.cells #[.int .i64 h.f0, .int .i64 h.f1.f0, .bool h.f1.f1, .int .u32 h.f1.f2, .int .i64 h.f1.f3.f0, .int .i64 h.f1.f3.f1, .int .i64 h.f1.f3.f2, .int .i64 h.f1.f3.f3, .int .i64 h.f1.f4, .int .i64 h.f2, .int .u64 h.f3, .slice A11 h.f4.length c11, .int .u64 h.f5, .int .u64 h.f6, .int .u64 h.f7, .bool h.f8] 57 (0, 0)) := ⟨_, rfl⟩
      have hbv0 : Below wr.heap.size wr v0 := by rw [hv0]; exact Below.alloc (Below.refl _ _) (Nat.le_refl _) _
      have HH0 : Hid (v0.heap[wr.heap.size]? = some (.cells #[.int .i64 h.f0, .int .i64 h.f1.f0, .bool h.f1.f1, .int .u32 h.f1.f2, .int .i64 h.f1.f3.f0, .int .i64 h.f1.f3.f1, .int .i64 h.f1.f3.f2, .int .i64 h.f1.f3.f3, .int .i64 h.f1.f4, .int .i64 h.f2, .int .u64 h.f3, .slice A11 h.f4.length c11, .int .u64 h.f5, .int .u64 h.f6, .int .u64 h.f7, .bool h.f8] 57 (0, 0))) := Lib.hid (by rw [hv0]; exact blk_new wr _)
      have HBv := Lib.hid hbv0
      have HN0 : Hid (Below w.heap.size w v0) := Lib.hid (by rw [hv0]; exact hbel.alloc hwz _)
      clear hbel hrd hh htk hbv0 hC
      go_upto_region 7 with (fail)
      rw [← hv0]
      clear hv0 h0 h1 h2 h3 h4 h5 h6 h7 h8 h9 h10 h11 h12 h13 h14 h15
      have e11 : v0.cell? ⟨wr.heap.size, 11, none⟩ = some (.slice A11 h.f4.length c11) := (blk_cell HH0.out 11).trans rfl
      obtain ⟨R9, hR9⟩ : ∃ R, R = h.f4.take 9 := ⟨_, rfl⟩
      have hR9l : R9.length ≤ 9 := by rw [hR9, List.length_take]; omega
      have HR9 := Lib.hid hR9
      clear hR9
      have HMIN : Hid ((min (↑h.f4.length : Int) 9).toNat = R9.length) := Lib.hid (by rw [HR9.out, List.length_take]; omega)
      have HCT : Hid (Kd.C k87 wr A11 R9.length R9) := Lib.hid (by
        rw [HR9.out]
        rcases Nat.lt_or_ge 9 h.f4.length with h9 | h9
        · exact Kd.C_take HKC.out (Nat.le_of_lt h9)
        · rw [List.take_of_length_le h9]; exact HKC.out)
      by_cases hnine : k = 9
      case neg =>
        have hq : ((k : Int) == 9) = false := by simp; omega
        have hq2 : decide ((k : Int) = 9) = false := by simp; omega
        go_upto_region 9 with (first
          | ((with_reducible refine gate_dst (N := 20) rfl ?_); refine Kd.R_lit k87 (w0 := v0) v0.heap.size 87 ?hg (N := 20) ?hd (xs := ([] : List S87)) (inner := []) (ok := fun _ => True) (okp := fun _ => True) ?hr ?hp (fun _ hk => hk) trivial (Below.refl _ _) (Nat.le_refl _) (by simp) ?_; (case hd => rfl); (case hg => rfl); (case hr => first | (go_simp; done) | (go_simp; rfl)); (case hp => exact Reps.none _ _); intro v20 v1 hR20 hb20 hg20 hn20; have HH1 := Lib.hid (blk_below HH0.out hb20); have HO20 := Lib.hid hR20; have HB20 := Lib.hid hb20; have HC20 := Lib.hid (Kd.C_below (Kd.C_below HCT.out HBv.out) hb20); clear hR20 hb20 hg20 hn20 e11; have e11 : v1.cell? ⟨wr.heap.size, 11, none⟩ = some (.slice A11 h.f4.length c11) := (blk_cell HH1.out 11).trans rfl)
          | ((with_reducible refine gate_builtin (b := .append) (xs := #[.tmp 20, .tmp 29]) rfl ?_); at_builtin; refine Kd.R_append_rows k87 (Rr := k87.K v1) (w0 := v0) v0.heap.size rfl (.tmp 20) (.tmp 29) 53 87 (.agg #[.int .u32 0, .int .i64 0, .int .i64 0, .int .i64 0, .int .i64 0, .int .i64 0]) 48 rfl Tryd.underlying53 info87 rfl (by decide) (by omega) v20 [] R9 A11 R9.length c11 (fun _ => True) (fun _ => False) rfl ?aX HO20.out HC20.out ?aK (fun _ hk => hk.elim) (fun _ _ => trivial) HB20.out HB20.out.size ?aL ?_; (case aX => rw [← HMIN.out]; rfl); (case aK => intro y cs hy; obtain rfl := k87_open hy; exact k87_mkM _ _ _ y); (case aL => simp; omega); intro v30 w3 hR30 hb30 hg30 hat30; rw [List.nil_append] at hR30; have HH3 := Lib.hid ((hg30.block _ (blk_lt HH1.out) (Kd.R_ne HO20.out HH1.out (by decide))).trans HH1.out); have HB3 := Lib.hid (HBv.out.trans (hb30.mono HBv.out.size)); have HN3 := Lib.hid (HN0.out.trans (hb30.mono HN0.out.size)); obtain ⟨A3, c3, hv30, hl3, hC3⟩ := Kd.R_reads hR30; subst hv30; have HR30 := Lib.hid hR30; clear hR30 hb30 hg30 hat30 hC3 e11; have e11 : w3.cell? ⟨wr.heap.size, 11, none⟩ = some (.slice A11 h.f4.length c11) := (blk_cell HH3.out 11).trans rfl; have fz11 := blk_free HH3.out 11)
          | fail)
        obtain ⟨w4, hw4⟩ : ∃ W, W = w3.setCell ⟨wr.heap.size, 11, none⟩ (.slice A3 R9.length c3) := ⟨_, rfl⟩
        have HH4 : Hid (w4.heap[wr.heap.size]? = some (.cells #[.int .i64 h.f0, .int .i64 h.f1.f0, .bool h.f1.f1, .int .u32 h.f1.f2, .int .i64 h.f1.f3.f0, .int .i64 h.f1.f3.f1, .int .i64 h.f1.f3.f2, .int .i64 h.f1.f3.f3, .int .i64 h.f1.f4, .int .i64 h.f2, .int .u64 h.f3, .slice A3 R9.length c3, .int .u64 h.f5, .int .u64 h.f6, .int .u64 h.f7, .bool h.f8] 57 (0, 0))) := Lib.hid (by rw [hw4]; exact blk_set HH3.out 11 _)
        have HR4 : Hid (Kd.R k87 87 w4 w.heap.size (fun j => wr.heap.size ≤ j) (.slice A3 R9.length c3) R9) := Lib.hid (by
          rw [hw4]
          exact Kd.R_lower (Kd.R_mono (Kd.R_bound (Kd.R_set HR30.out HH3.out (by decide) 11 _)) (fun j hj => Nat.le_trans HBv.out.size hj.2.1)) HN0.out.size)
        have HB4 : Hid (Below wr.heap.size wr w4) := Lib.hid (by rw [hw4]; exact below_set HB3.out (Nat.le_refl _))
        have HN4 : Hid (Below w.heap.size w w4) := Lib.hid (by rw [hw4]; exact below_set HN3.out hwz)
        have HX4 := Lib.hid (blk_below HXr.out HB4.out)
        have HT4 := Lib.hid (blk_below HTr.out HB4.out)
        have HL4 := Lib.hid (Kd.R_below HL.out HB4.out)
        rw [← hw4]
        clear hw4 e11 fz11 HH3 HR30 HB3 HN3 HO20 HB20 HC20 HH1
        obtain ⟨e0, e1, e2, e3, e4, e5, e6, e7, e8, e9, e10, e11, e12, e13, e14, e15⟩ := cells16 HH4.out
        go_wp2_with (first
          | ((with_reducible refine gate_builtin (b := .append) (xs := #[.tmp 33, .tmp 35]) rfl ?_); at_builtin; refine Kd.R_append k57 (w0 := w) w.heap.size rfl (.tmp 33) (.tmp 35) 47 57 (.agg #[(.int .i64 0), (.int .i64 0), (.bool false), (.int .u32 0), (.int .i64 0), (.int .i64 0), (.int .i64 0), (.int .i64 0), (.int .i64 0), (.int .i64 0), (.int .u64 0), (.slice none 0 0), (.int .u64 0), (.int .u64 0), (.int .u64 0), (.bool false)]) 136 rfl Tryd.underlying47 info57 rfl (by decide) (by omega) u5 L (cutH h) [.int .i64 h.f0, .int .i64 h.f1.f0, .bool h.f1.f1, .int .u32 h.f1.f2, .int .i64 h.f1.f3.f0, .int .i64 h.f1.f3.f1, .int .i64 h.f1.f3.f2, .int .i64 h.f1.f3.f3, .int .i64 h.f1.f4, .int .i64 h.f2, .int .u64 h.f3, .slice A3 R9.length c3, .int .u64 h.f5, .int .u64 h.f6, .int .u64 h.f7, .bool h.f8] (fun _ => True) (fun j => wr.heap.size ≤ j) rfl rfl ?aP ?aQ (fun _ _ => trivial) HL4.out HN4.out HN4.out.size ?aL ?_; (case aP => exact k57_mkM _ _ _ (cutH h) (by show Kd.R _ _ _ _ _ _ (h.f4.take 9); rw [← HR9.out]; exact HR4.out)); (case aQ => exact fun j hj => ⟨trivial, fun he => by have h1 := Kd.R_lt HL.out j he.symm; have h2 : wr.heap.size ≤ j := hj; omega⟩); (case aL => omega); intro v6 w6 hR6 hb6 hg6 hat6; have HX6 := Lib.hid ((hg6.block _ (blk_lt HX4.out) (Kd.R_ne HL4.out HX4.out (by decide))).trans HX4.out); have HT6 := Lib.hid ((hg6.block _ (blk_lt HT4.out) (Kd.R_ne HL4.out HT4.out (by decide))).trans HT4.out); have HL6 := Lib.hid hR6; have HB6 := Lib.hid hb6; clear hR6 hb6 hg6 hat6)
          | fail)
        go_roundw
        case rel => exact ⟨k + 1, by omega, by omega, by go_num, Lib.hid (by rw [HTK.out, ← HLE.out]; exact HL6.out), HX6, HT6, HB6⟩
        case measure => simp [intOf]; omega
      case' pos =>
        have hq : ((k : Int) == 9) = true := by simp; omega
        have hq2 : decide ((k : Int) = 9) = true := by simp; omega
        have HXt := Lib.hid (blk_below HXr.out HBv.out)
        have HTt := Lib.hid (blk_below HTr.out HBv.out)
        have HLt := Lib.hid (Kd.R_below HL.out HBv.out)
        have HBt := HN0
        obtain ⟨wt, hwt⟩ : ∃ W, W = v0 := ⟨_, rfl⟩
        rw [← hwt] at HXt HTt HLt HBt ⊢
        clear e11 hwt
        go_upto_region 11 with (fail)
    case' neg =>
      obtain ⟨wt, hwt⟩ : ∃ W, W = wr := ⟨_, rfl⟩
      have HXt := HXr
      have HTt := HTr
      have HLt := HL
      have HBt := HBEL
      rw [← hwt] at HXt HTt HLt HBt ⊢
      clear hbel hwt
      go_upto_region 11 with (fail)
    all_goals
      obtain ⟨AL, cL, rfl, hlc, hCL⟩ := Kd.R_reads HLt.out
      clear hCL
      have t1 := (cells4 HTt.out).2.1
      have ft1 := blk_free HTt.out 1
      go_upto_region 12 with (fail)
      obtain ⟨w9, hw9⟩ : ∃ W, W = wt.setCell ⟨w.heap.size + 1, 1, none⟩ (.slice AL L.length cL) := ⟨_, rfl⟩
      have HXq : Hid (w9.drew.heap[w.heap.size]? = some (.cells #[.int .i64 x0, .int .i64 x1, .int .i64 x2, .bool x3, .int .u32 x4, .int .i64 x5, .int .i64 x6, .int .i64 x7, .int .i64 x8, .int .i64 x9, .int .i64 x10, v] 46 (0, 0))) := Lib.hid (by rw [hw9]; exact blk_far HXt.out (by simp) _)
      have HTq : Hid (w9.drew.heap[w.heap.size + 1]? = some (.cells #[.int .i64 te, .slice AL L.length cL, .int .i64 td, .int .i64 tn] 51 (0, 0))) := Lib.hid (by rw [hw9]; exact blk_set HTt.out 1 _)
      have HBq : Hid (Below w.heap.size w w9.drew) := Lib.hid (by rw [hw9]; exact Below.drew (below_set HBt.out (by simp)))
      have HCq : Hid (Kd.C k57 w9.drew AL L.length L) := Lib.hid (Kd.C_drew (by rw [hw9]; exact (Kd.R_reads' (Kd.R_set HLt.out HTt.out (by decide) 1 _)).2.2))
      rw [← hw9]
      clear hw9 t1 ft1
      have HLP := Lib.hid (HP0.out L AL cL hl9 HOL.out hlc)
      have HLR := Lib.hid (HQ0.out L AL cL hl9 HOL.out hlc)
      clear hl9 hlc
      refine start_ (n := 8) (S := fun w' => w'.cell? ⟨w.heap.size, 0, none⟩ = some (.int .i64 x0) ∧ w'.cell? ⟨w.heap.size, 1, none⟩ = some (.int .i64 x1) ∧ w'.cell? ⟨w.heap.size, 2, none⟩ = some (.int .i64 x2) ∧ w'.cell? ⟨w.heap.size, 3, none⟩ = some (.bool x3) ∧ w'.cell? ⟨w.heap.size, 4, none⟩ = some (.int .u32 x4) ∧ w'.cell? ⟨w.heap.size, 5, none⟩ = some (.int .i64 x5) ∧ w'.cell? ⟨w.heap.size, 6, none⟩ = some (.int .i64 x6) ∧ w'.cell? ⟨w.heap.size, 7, none⟩ = some (.int .i64 x7) ∧ w'.cell? ⟨w.heap.size, 8, none⟩ = some (.int .i64 x8) ∧ w'.cell? ⟨w.heap.size, 9, none⟩ = some (.int .i64 x9) ∧ w'.cell? ⟨w.heap.size, 10, none⟩ = some (.int .i64 x10) ∧ w'.cell? ⟨w.heap.size, 11, none⟩ = some (v) ∧ w'.cell? ⟨w.heap.size + 1, 0, none⟩ = some (.int .i64 te) ∧ w'.cell? ⟨w.heap.size + 1, 1, none⟩ = some (.slice AL L.length cL) ∧ w'.cell? ⟨w.heap.size + 1, 2, none⟩ = some (.int .i64 td) ∧ w'.cell? ⟨w.heap.size + 1, 3, none⟩ = some (.int .i64 tn)) (ds := []) #[false, false, false, false, false, false, false, false] (by kernel_rfl) rfl rfl ⟨(blk_cell HXq.out 0).trans rfl, (blk_cell HXq.out 1).trans rfl, (blk_cell HXq.out 2).trans rfl, (blk_cell HXq.out 3).trans rfl, (blk_cell HXq.out 4).trans rfl, (blk_cell HXq.out 5).trans rfl, (blk_cell HXq.out 6).trans rfl, (blk_cell HXq.out 7).trans rfl, (blk_cell HXq.out 8).trans rfl, (blk_cell HXq.out 9).trans rfl, (blk_cell HXq.out 10).trans rfl, (blk_cell HXq.out 11).trans rfl, (blk_cell HTq.out 0).trans rfl, (blk_cell HTq.out 1).trans rfl, (blk_cell HTq.out 2).trans rfl, (blk_cell HTq.out 3).trans rfl⟩ (fun hHeld => ?_)
      refine take_ (i := 0) (N := some 40) (v := ?_) (a' := ?_) #[true, false, false, false, false, false, false, false] rfl rfl (by kernel_rfl) (fun _ _ _ h => h) (Or.inl ⟨by rfl, ?_⟩) hHeld ?_ ?_
      rotate_left
      · rintro w' ⟨s0, s1, s2, s3, s4, s5, s6, s7, s8, s9, s10, s11, s12, s13, s14, s15⟩
        go_simp
        with_reducible rfl
      rotate_left
      · simp only [Act.put, List.setIfInBounds_toArray, List.set_cons_zero, List.set_cons_succ, i64_w, i32_w]
        rfl
      refine take_ (i := 1) (N := some 41) (v := ?_) (a' := ?_) #[true, true, false, false, false, false, false, false] rfl rfl (by kernel_rfl) (fun _ _ _ h => h) (Or.inl ⟨by rfl, ?_⟩) hHeld ?_ ?_
      rotate_left
      · rintro w' ⟨s0, s1, s2, s3, s4, s5, s6, s7, s8, s9, s10, s11, s12, s13, s14, s15⟩
        go_simp
        with_reducible rfl
      rotate_left
      · simp only [Act.put, List.setIfInBounds_toArray, List.set_cons_zero, List.set_cons_succ, i64_w, i32_w]
        rfl
      refine take_ (i := 3) (N := some 43) (v := ?_) (a' := ?_) #[true, true, false, true, false, false, false, false] rfl rfl (by kernel_rfl) (fun _ _ _ h => h) (Or.inl ⟨by rfl, ?_⟩) hHeld ?_ ?_
      rotate_left
      · rintro w' ⟨s0, s1, s2, s3, s4, s5, s6, s7, s8, s9, s10, s11, s12, s13, s14, s15⟩
        go_simp
        with_reducible rfl
      rotate_left
      · simp only [Act.put, List.setIfInBounds_toArray, List.set_cons_zero, List.set_cons_succ, i64_w, i32_w]
        rfl
      refine take_ (i := 4) (N := some 44) (v := ?_) (a' := ?_) #[true, true, false, true, true, false, false, false] rfl rfl (by kernel_rfl) (fun _ _ _ h => h) (Or.inl ⟨by rfl, ?_⟩) hHeld ?_ ?_
      rotate_left
      · rintro w' ⟨s0, s1, s2, s3, s4, s5, s6, s7, s8, s9, s10, s11, s12, s13, s14, s15⟩
        go_simp
        with_reducible rfl
      rotate_left
      · simp only [Act.put, List.setIfInBounds_toArray, List.set_cons_zero, List.set_cons_succ, i64_w, i32_w]
        rfl
      refine one_ (i := 2) (N := some 42) #[true, true, true, true, true, false, false, false] rfl rfl (by kernel_rfl) (by decide) (fun K hK => ?_)
      refine goes_ Tryd.func16 (by kernel_rfl) rfl #[.agg #[.int .i64 x0, .int .i64 x1, .int .i64 x2, .bool x3, .int .u32 x4, .int .i64 x5, .int .i64 x6, .int .i64 x7, .int .i64 x8, .int .i64 x9, .int .i64 x10, v], .agg #[.int .i64 te, .slice AL L.length cL, .int .i64 td, .int .i64 tn]] (by rfl) rfl rfl (by simp only [List.map_toArray, List.map_cons, List.map_nil]; rfl) ?_
      with_reducible refine (HLP.out _ HBq.out HCq.out).mono ?_
      rintro e q ⟨rfl, hb⟩
      refine ⟨_, rfl, ?_⟩
      replace HXq := Lib.hid (blk_below HXq.out hb)
      replace HTq := Lib.hid (blk_below HTq.out hb)
      replace HCq := Lib.hid (Kd.C_below HCq.out hb)
      replace HBq := Lib.hid (HBq.out.trans (hb.mono HBq.out.size))
      clear hb
      refine hK.out _ _ ⟨(blk_cell HXq.out 0).trans rfl, (blk_cell HXq.out 1).trans rfl, (blk_cell HXq.out 2).trans rfl, (blk_cell HXq.out 3).trans rfl, (blk_cell HXq.out 4).trans rfl, (blk_cell HXq.out 5).trans rfl, (blk_cell HXq.out 6).trans rfl, (blk_cell HXq.out 7).trans rfl, (blk_cell HXq.out 8).trans rfl, (blk_cell HXq.out 9).trans rfl, (blk_cell HXq.out 10).trans rfl, (blk_cell HXq.out 11).trans rfl, (blk_cell HTq.out 0).trans rfl, (blk_cell HTq.out 1).trans rfl, (blk_cell HTq.out 2).trans rfl, (blk_cell HTq.out 3).trans rfl⟩ (fun hHeld => ?_)
      clear hK K
      refine norm_ (a' := ?_) ?_ ?_
      rotate_left
      · show Act.put _ (some 42) _ = _
        simp only [Act.put, List.setIfInBounds_toArray, List.set_cons_zero, List.set_cons_succ, i64_w, i32_w]
        rfl
      refine one_ (i := 5) (N := some 45) #[true, true, true, true, true, true, false, false] rfl rfl (by kernel_rfl) (by decide) (fun K hK => ?_)
      refine goes_ Tryd.func17 (by kernel_rfl) rfl #[.agg #[.int .i64 x0, .int .i64 x1, .int .i64 x2, .bool x3, .int .u32 x4, .int .i64 x5, .int .i64 x6, .int .i64 x7, .int .i64 x8, .int .i64 x9, .int .i64 x10, v], .agg #[.int .i64 te, .slice AL L.length cL, .int .i64 td, .int .i64 tn]] (by rfl) rfl rfl (by simp only [List.map_toArray, List.map_cons, List.map_nil]; rfl) ?_
      with_reducible refine (HLR.out _ HBq.out HCq.out).mono ?_
      rintro e q ⟨rfl, hb⟩
      refine ⟨_, rfl, ?_⟩
      replace HXq := Lib.hid (blk_below HXq.out hb)
      replace HTq := Lib.hid (blk_below HTq.out hb)
      replace HCq := Lib.hid (Kd.C_below HCq.out hb)
      replace HBq := Lib.hid (HBq.out.trans (hb.mono HBq.out.size))
      clear hb
      refine hK.out _ _ ⟨(blk_cell HXq.out 0).trans rfl, (blk_cell HXq.out 1).trans rfl, (blk_cell HXq.out 2).trans rfl, (blk_cell HXq.out 3).trans rfl, (blk_cell HXq.out 4).trans rfl, (blk_cell HXq.out 5).trans rfl, (blk_cell HXq.out 6).trans rfl, (blk_cell HXq.out 7).trans rfl, (blk_cell HXq.out 8).trans rfl, (blk_cell HXq.out 9).trans rfl, (blk_cell HXq.out 10).trans rfl, (blk_cell HXq.out 11).trans rfl, (blk_cell HTq.out 0).trans rfl, (blk_cell HTq.out 1).trans rfl, (blk_cell HTq.out 2).trans rfl, (blk_cell HTq.out 3).trans rfl⟩ (fun hHeld => ?_)
      clear hK K
      refine norm_ (a' := ?_) ?_ ?_
      rotate_left
      · show Act.put _ (some 45) _ = _
        simp only [Act.put, List.setIfInBounds_toArray, List.set_cons_zero, List.set_cons_succ, i64_w, i32_w]
        rfl
      refine pure_ (i := 6) (N := some 46) (v := ?_) (a' := ?_) #[true, true, true, true, true, true, true, false] rfl rfl (by kernel_rfl) (fun _ _ _ h => h) (Or.inl ⟨by rfl, ?_⟩) ?_ ?_
      rotate_left
      · intro w'
        go_simp
        with_reducible rfl
      rotate_left
      · simp only [Act.put, List.setIfInBounds_toArray, List.set_cons_zero, List.set_cons_succ, i64_w, i32_w]
        rfl
      refine pure_ (i := 7) (N := some 4) (v := ?_) (a' := ?_) #[true, true, true, true, true, true, true, true] rfl rfl (by kernel_rfl) (fun _ _ _ h => h) (Or.inl ⟨by rfl, ?_⟩) ?_ ?_
      rotate_left
      · intro w'
        go_simp
        with_reducible rfl
      rotate_left
      · simp only [Act.put, List.setIfInBounds_toArray, List.set_cons_zero, List.set_cons_succ, i64_w, i32_w]
        rfl
      refine done_ (by kernel_rfl) ?_
      go_wp2
      go_ret
      exact ⟨by simp, HBq.out⟩
end Go.Proofs.YthkheemjgcbofaaDoor

namespace Go.Proofs.YthkheemjgcbofaaDoor
open Go.ChangeShapes Go.WideShapes Go.ChangeAt Go.RowKit Go.Lib
open Go.ChangeMaps (open_string shut_string)
set_option linter.unusedVariables false

theorem row_laidOut : laidOutB Tryd.prog = true := by kernel_rfl
set_option maxRecDepth 100000 in
theorem scriptTells_lifted (os : Os) (started : os.Started) (H : Type) (enc : TypeId × Value → H) (F : Stop.Interp) :
    ReturnsInHanded {} Tryd.checked os 6 .any ((OpenSpec.ofChange Rows.scriptTellsSpec).preRow enc Tryd.prog Tryd.f6 Rows.scriptTellsRow.domain false Rows.scriptTellsRow.laid) (((OpenSpec.ofChange Rows.scriptTellsSpec).at F).post enc Tryd.prog Tryd.f6 false true false false) := by
  refine returnsInHanded_of_row (C := Tryd.checked) (s := OpenSpec.ofChange Rows.scriptTellsSpec) row_own started (by kernel_rfl) Tryd.func6 ?_ ?_
  · have hk : Input.okWideB Tryd.prog ((World.doorLaid Tryd.prog 400 os).forCall (fun _ _ => 0) ⟨#[], #[.agg #[.int .i64 0, .int .i64 0, .int .i64 0, .bool false, .int .u32 0, .int .i64 0, .int .i64 0, .int .i64 0, .int .i64 0, .int .i64 0, .int .i64 0, .slice none 0 0], .agg #[.int .i64 0, .slice none 0 0, .int .i64 0, .int .i64 0]], []⟩) 6 ⟨#[], #[.agg #[.int .i64 0, .int .i64 0, .int .i64 0, .bool false, .int .u32 0, .int .i64 0, .int .i64 0, .int .i64 0, .int .i64 0, .int .i64 0, .int .i64 0, .slice none 0 0], .agg #[.int .i64 0, .slice none 0 0, .int .i64 0, .int .i64 0]], []⟩ = true := by kernel_rfl
    refine ⟨World.doorLaid Tryd.prog 400 os, fun _ _ => 0, ⟨#[], #[.agg #[.int .i64 0, .int .i64 0, .int .i64 0, .bool false, .int .u32 0, .int .i64 0, .int .i64 0, .int .i64 0, .int .i64 0, .int .i64 0, .int .i64 0, .slice none 0 0], .agg #[.int .i64 0, .slice none 0 0, .int .i64 0, .int .i64 0]], []⟩, rfl, World.shaped_of_RefB (by kernel_rfl) (by kernel_rfl), rfl, (Input.okWide_of_okWideB hk).2, ?_, ?_⟩
    · have hw : (DataW.whole enc Tryd.prog ((World.doorLaid Tryd.prog 400 os).forCall (fun _ _ => 0) ⟨#[], #[.agg #[.int .i64 0, .int .i64 0, .int .i64 0, .bool false, .int .u32 0, .int .i64 0, .int .i64 0, .int .i64 0, .int .i64 0, .int .i64 0, .int .i64 0, .slice none 0 0], .agg #[.int .i64 0, .slice none 0 0, .int .i64 0, .int .i64 0]], []⟩).memory Tryd.f6.params.toList (OpenSpec.ofChange Rows.scriptTellsSpec).vars false (#[.agg #[.int .i64 0, .int .i64 0, .int .i64 0, .bool false, .int .u32 0, .int .i64 0, .int .i64 0, .int .i64 0, .int .i64 0, .int .i64 0, .int .i64 0, .slice none 0 0], .agg #[.int .i64 0, .slice none 0 0, .int .i64 0, .int .i64 0]] : Array Value).toList 8).map (fun x => (x.1, x.2.1)) =
          some ([.agg [.lit (.int .i64 0), .lit (.int .i64 0), .agg [.lit (.int .i64 0), .lit (.bool false), .lit (.int .u32 0), .agg [.lit (.int .i64 0), .lit (.int .i64 0), .lit (.int .i64 0), .lit (.int .i64 0)], .lit (.int .i64 0)], .lit (.int .i64 0), .nil], .agg [.lit (.int .i64 0), .nil, .agg [.lit (.int .i64 0), .lit (.int .i64 0)]]], []) := by kernel_rfl
      obtain ⟨⟨x1, x2, x3⟩, hx, hx1⟩ := Option.map_eq_some_iff.1 hw
      simp only [Prod.mk.injEq] at hx1
      obtain ⟨rfl, rfl⟩ := hx1
      exact OpenSpec.preRow_of_cond 8 hx (by kernel_rfl) (fun k hk => by cases hk) (by kernel_rfl) (door_met os _)
    · exact none_holds _ _
  intro W base args ds gs before hval0 hW _ _ hsz0 hL hS _
  have hG := glob_of_laid hL hS
  have hval : ∀ (j : Nat) t v, Tryd.f6.params[j]? = some t → args[j]? = some v → Value.okWide Tryd.prog W .any base t v := hval0
  have hsz : (DataW.weightsEach Tryd.prog (Tryd.f6.params.toList ++ (OpenSpec.ofChange Rows.scriptTellsSpec).bare.plain.varTypes Tryd.prog) (ds ++ gs)).all (· ≤ reachBytes) = true := hsz0
  have hW' := hW
  obtain ⟨p, q, hA0, hV, rfl, hfz, hnd⟩ := hW
  have hA : DataW.TrodAll enc Tryd.prog W 0 (fun _ => true) true Tryd.f6.params.toList args.toList ds p := hA0
  rw [Tryd.params6] at hA hval hsz
  obtain ⟨v0, vs0, d0, ds0, p0, q0, hargs, rfl, rfl, h0, r0⟩ := trodAll_cons hA
  obtain ⟨v1, vs1, d1, ds1, p1, q1, rfl, rfl, rfl, h1, r1⟩ := trodAll_cons r0
  obtain ⟨rfl, rfl, rfl⟩ := trodAll_nil r1
  obtain rfl : args = #[v0, v1] := by cases args; simp_all
  obtain ⟨rfl, rfl⟩ := trodVars_none hV
  have k0 := h0
  have lt0 : ∀ x ∈ p0, x.block < W.heap.size := by obtain ⟨m, hm⟩ := k0; exact DataW.trod_lt m _ _ _ hm
  obtain ⟨b0, rfl, _⟩ := okWide_struct Tryd.underlying46 (hval 0 46 v0 rfl rfl)
  obtain ⟨u0⟩ := b0
  obtain ⟨fuel0, hf0⟩ := h0
  obtain ⟨x0, vv0, e0⟩ := open46 hf0
  obtain rfl : u0 = (vals46 x0 vv0).toList := e0
  have k1 := h1
  have lt1 : ∀ x ∈ p1, x.block < W.heap.size := by obtain ⟨m, hm⟩ := k1; exact DataW.trod_lt m _ _ _ hm
  obtain ⟨b1, rfl, _⟩ := okWide_struct Tryd.underlying51 (hval 1 51 v1 rfl rfl)
  obtain ⟨u1⟩ := b1
  obtain ⟨fuel1, hf1⟩ := h1
  obtain ⟨te1, td1, tn1, hs1, B1, d1_, e1, oe1, od1, on1, oh1, hC1, hc1⟩ := open51 hf1
  obtain rfl : u1 = _ := e1
  clear hA0 hval0 hsz0 hsz
  refine (scriptTells_walk x0 vv0 te1 td1 tn1 hs1 B1 d1_ W hG  oe1 od1 on1 oh1 hC1 hc1).mono fun e W' ⟨he, bel⟩ => ?_
  subst he
  exact ⟨_, rfl, _, _, _, [], _, [], hW', trodAll_mk1 (shut_bool Tryd.underlying4 _), (trodAll_cons_mk (Below.trod row_laidOut (by kernel_rfl) (of_decide_eq_true (by kernel_rfl)) k0 bel lt0) (trodAll_cons_mk (Below.trod row_laidOut (by kernel_rfl) (of_decide_eq_true (by kernel_rfl)) k1 bel lt1) trodAll_mk0)), rfl, bel.frame _, fun h => by cases h⟩

theorem scriptTells_said : Rows.ScriptTellsSaid :=
  OpenClaim.holds_of_cond 6 Tryd.f6 rfl rfl rfl rfl rfl rfl rfl ⟨rfl, rfl, rfl, rfl, rfl⟩ rfl rfl rfl rfl rfl (by kernel_rfl) Tryd.func6 (by kernel_rfl)
    (of_decide_eq_true (by kernel_rfl)) (by unfold Func.isWrapper; first | (rw [if_pos (by decide +kernel)]; kernel_rfl) | (rw [if_neg (by decide +kernel)]; exact ⟨rfl, rfl⟩))
    (fun os started H enc _ F => by rw [OpenClaim.pre_eq_preRow]; exact scriptTells_lifted os started H enc F)

/-- The card: the row, its listed variables tied to the program's text. -/
theorem scriptTells_card : Rows.ScriptTellsCardSaid :=
  Claim7.holds_tied_plain_at .later [] [.data, .data, .data, .sentinel, .sentinel] true (true, "42addb4e0bf3af918258e8769f69858169a05968bf4367db2ea6cb46d2cb6f9c") true
    scriptTells_said (fun _ h => by cases h) (by kernel_rfl) (fun _ h => by cases h) scriptTells_row_tie rfl ⟨rfl, rfl⟩ (by kernel_rfl) rfl
    (fun f fn hf hfn => by
      obtain rfl : f = 6 := Option.some.inj ((show Tryd.prog.funcNamed "gazetteer/gazetteerlaw26.ScriptTells" = some 6 by kernel_rfl).symm.trans hf) |>.symm
      obtain rfl : fn = Tryd.f6 := (Option.some.inj (Tryd.func6.symm.trans hfn)).symm
      exact ⟨by kernel_rfl, fun j t ht => by
        rw [Tryd.params6] at ht
        have h9 : t = 46 ∨ t = 51 := by
          rcases j with _ | _ | j
          · simp at ht; subst ht; simp
          · simp at ht; subst ht; simp
          · simp at ht
        rcases h9 with rfl | rfl
        · exact (show Tryd.prog.wantsStandIn 46 = false by kernel_rfl)
        · exact (show Tryd.prog.wantsStandIn 51 = false by kernel_rfl)⟩)
    (by kernel_rfl)
#print axioms scriptTells_card
end Go.Proofs.YthkheemjgcbofaaDoor
