/-
  Same: are two scripts one? (EqualFunc over events, then the whole.)
  few, copied and the reference's Same: what the printed functions come to.
  The reference's Same: what the printed function comes to.
  An argument that can be read as data, as the words of this seat's walks: kinds of cells, type by type.
-/
import Derived.Test.YthkheemjgcbofaaDoorGC
import Derived.Test.YthkheemjgcbofaaDoorPScx1
import Derived.Test.YthkheemjgcbofaaDoorPScx3
import Derived.Test.YthkheemjgcbofaaDoorPScx5
import Derived.Test.YthkheemjgcbofaaDoorPScx0
import Derived.Test.YthkheemjgcbofaaDoorGI
import Derived.Deep.Slices
import Derived.ChangeArms
import Derived.DataReads

namespace Go.Proofs.YthkheemjgcbofaaDoor
set_option linter.unusedVariables false
set_option linter.unusedSimpArgs false
open Go.RowKit Go.Proofs.YthkheemjgcbofaaDoor.PSc Go.Proofs.YthkheemjgcbofaaDoorW.PrintWords

/-- Are two lists of events one? -/
def eqL : List S46 → List S46 → Bool
  | [], [] => true
  | x :: xs, y :: ys => if eq46 x y then eqL xs ys else false
  | _, _ => false
theorem eqL_len (xs : List S46) : ∀ ys, xs.length ≠ ys.length → eqL xs ys = false := by
  induction xs with
  | nil => intro ys h; cases ys with
    | nil => exact absurd rfl h
    | cons y ys => rfl
  | cons x xs ih => intro ys h; cases ys with
    | nil => rfl
    | cons y ys =>
      rw [eqL, ih ys (by simpa using h)]
      split <;> rfl

set_option maxHeartbeats 2000000 in
theorem equalFunc_calls (xs ys : List S46) (A B : Option Addr) (c d : Nat) (w : World) (hr : Kd.C k46 w A xs.length xs) (hc : xs.length ≤ c) (hs : Kd.C k46 w B ys.length ys) (hd : ys.length ≤ d) (f : Value) (hf : f = Act.eval ⟨#[], []⟩ (Operand.func 22)) :
    Calls Tryd.prog 21 #[.slice A xs.length c, .slice B ys.length d, f] w fun e w' => e = .returned (.bool (eqL xs ys)) ∧ Below w.heap.size w w' := by
  simp [Act.eval] at hf
  subst hf
  have HR := Lib.hid hr
  have HS := Lib.hid hs
  have hmax := Kd.C_max hr
  have hmay := Kd.C_max hs
  clear hr hs
  by_cases hlen : xs.length = ys.length
  · obtain ⟨n, hn⟩ : ∃ n, n = xs.length := ⟨_, rfl⟩
    have hn2 : n = ys.length := by omega
    rw [← hn] at HR hmax ⊢
    rw [← hn2] at HS hmay ⊢
    have HNX := Lib.hid hn
    have HNY := Lib.hid hn2
    clear hlen hn hn2 hc hd
    go_enter Tryd.func21, Tryd.ntmps21
    go_wp2
    go_loopw [17] (fun i wr => ∃ k : Nat, k ≤ n ∧ i = .int .i64 k ∧ Hid (eqL xs ys = eqL (xs.drop k) (ys.drop k)) ∧ Hid (Below w.heap.size w wr)) (fun i _ => n - (intOf i).toNat)
    case atStart => exact ⟨0, by omega, rfl, Lib.hid (by simp), Lib.hid (Below.refl _ _)⟩
    case round =>
      obtain ⟨k, hk, rfl, HE, HB⟩ := hrel
      by_cases hkn : k < n
      · have hlt : k < xs.length := by have := HNX.out; omega
        have hlt2 : k < ys.length := by have := HNY.out; omega
        obtain ⟨x, hx⟩ : ∃ x, xs[k]? = some x := ⟨_, List.getElem?_eq_getElem hlt⟩
        obtain ⟨y, hy⟩ : ∃ y, ys[k]? = some y := ⟨_, List.getElem?_eq_getElem hlt2⟩
        have hdx : xs.drop k = x :: xs.drop (k + 1) := by
          rw [List.drop_eq_getElem_cons hlt]; congr 1; rw [List.getElem?_eq_getElem hlt] at hx; exact Option.some.inj hx
        have hdy : ys.drop k = y :: ys.drop (k + 1) := by
          rw [List.drop_eq_getElem_cons hlt2]; congr 1; rw [List.getElem?_eq_getElem hlt2] at hy; exact Option.some.inj hy
        have HC := Kd.C_below HR.out HB.out
        have HD := Kd.C_below HS.out HB.out
        obtain ⟨ad, A11, c11, rfl, h0, h1, h2, h3, h4, h5, h6, h7, h8, h9, h10, h11, hl, hC⟩ := at_T46 HC (k : Int) (by omega) (by omega)
        obtain ⟨bd, B11, d11, rfl, g0, g1, g2, g3, g4, g5, g6, g7, g8, g9, g10, g11, gl, gC⟩ := at_T46 HD (k : Int) (by omega) (by omega)
        have hrd : rd_T46 xs (k : Int) = x := by unfold rd_T46; simp [hx]
        have grd : rd_T46 ys (k : Int) = y := by unfold rd_T46; simp [hy]
        rw [hrd] at h0 h1 h2 h3 h4 h5 h6 h7 h8 h9 h10 h11 hl hC
        rw [grd] at g0 g1 g2 g3 g4 g5 g6 g7 g8 g9 g10 g11 gl gC
        simp only [Int.toNat_natCast] at h0 h1 h2 h3 h4 h5 h6 h7 h8 h9 h10 h11 g0 g1 g2 g3 g4 g5 g6 g7 g8 g9 g10 g11
        have HSM := Lib.hid (fun (W : World) (hW : Below wr.heap.size wr W) => same_calls x y A11 c11 B11 d11 W (Kd.C_below hC hW) hl (Kd.C_below gC hW) gl)
        have HDX := Lib.hid hdx
        have HDY := Lib.hid hdy
        clear hlt hlt2 hrd grd hx hy hdx hdy hl hC gl gC HC HD
        obtain ⟨rr, hrr⟩ : ∃ rr, rr = eq46 x y := ⟨_, rfl⟩
        have HRR := Lib.hid hrr
        rw [← hrr] at HSM
        clear hrr
        obtain ⟨x0, x1, ⟨x2, x3, x4, ⟨x5, x6, x7, x8⟩, x9⟩, x10, x11⟩ := x
        obtain ⟨y0, y1, ⟨y2, y3, y4, ⟨y5, y6, y7, y8⟩, y9⟩, y10, y11⟩ := y
        simp only [vals46] at HSM
        simp only at h0 h1 h2 h3 h4 h5 h6 h7 h8 h9 h10 h11 g0 g1 g2 g3 g4 g5 g6 g7 g8 g9 g10 g11
        replace g0 := fun o : Obj => (World.cell?_alloc_lt wr o _ (World.block_lt_of_cell? _ _ g0)).trans g0
        replace g1 := fun o : Obj => (World.cell?_alloc_lt wr o _ (World.block_lt_of_cell? _ _ g1)).trans g1
        replace g2 := fun o : Obj => (World.cell?_alloc_lt wr o _ (World.block_lt_of_cell? _ _ g2)).trans g2
        replace g3 := fun o : Obj => (World.cell?_alloc_lt wr o _ (World.block_lt_of_cell? _ _ g3)).trans g3
        replace g4 := fun o : Obj => (World.cell?_alloc_lt wr o _ (World.block_lt_of_cell? _ _ g4)).trans g4
        replace g5 := fun o : Obj => (World.cell?_alloc_lt wr o _ (World.block_lt_of_cell? _ _ g5)).trans g5
        replace g6 := fun o : Obj => (World.cell?_alloc_lt wr o _ (World.block_lt_of_cell? _ _ g6)).trans g6
        replace g7 := fun o : Obj => (World.cell?_alloc_lt wr o _ (World.block_lt_of_cell? _ _ g7)).trans g7
        replace g8 := fun o : Obj => (World.cell?_alloc_lt wr o _ (World.block_lt_of_cell? _ _ g8)).trans g8
        replace g9 := fun o : Obj => (World.cell?_alloc_lt wr o _ (World.block_lt_of_cell? _ _ g9)).trans g9
        replace g10 := fun o : Obj => (World.cell?_alloc_lt wr o _ (World.block_lt_of_cell? _ _ g10)).trans g10
        replace g11 := fun o : Obj => (World.cell?_alloc_lt wr o _ (World.block_lt_of_cell? _ _ g11)).trans g11
        go_wp2_with fail
        refine (HSM.out _ ((Below.alloc (Below.refl _ _) (Nat.le_refl _) _).alloc (by simp) _)).mono ?_
        rintro e w1 ⟨rfl, hb1⟩
        have hz1 : wr.heap.size ≤ w1.heap.size := by have := hb1.size; simp at this; omega
        have HB1 : Hid (Below w.heap.size w w1) := Lib.hid (HB.out.trans ((((Below.alloc (Below.refl wr.heap.size _) (Nat.le_refl _) _).alloc (by simp) _).trans (hb1.mono (by simp; omega))).mono HB.out.size))
        clear hb1 h0 h1 h2 h3 h4 h5 h6 h7 h8 h9 h10 h11 g0 g1 g2 g3 g4 g5 g6 g7 g8 g9 g10 g11
        cases rr
        · go_wp2
          go_ret
          refine ⟨?_, HB1.out⟩
          rw [HE.out, HDX.out, HDY.out, eqL, ← HRR.out]
          simp
        · go_wp2
          go_roundw
          case rel =>
            refine ⟨k + 1, by omega, by go_num, ?_, HB1⟩
            refine Lib.hid ?_
            rw [HE.out, HDX.out, HDY.out, eqL, ← HRR.out]
            simp
          case measure => simp [intOf]; omega
      · have he : k = n := by omega
        subst he
        go_wp2
        go_ret
        refine ⟨?_, HB.out⟩
        have e1 : xs.drop k = [] := List.drop_eq_nil_iff.2 (by have := HNX.out; omega)
        have e2 : ys.drop k = [] := List.drop_eq_nil_iff.2 (by have := HNY.out; omega)
        rw [HE.out, e1, e2]; rfl
  · have hne : ((xs.length : Int) != (ys.length : Int)) = true := by simp; omega
    have hne' : ¬ (xs.length : Int) = (ys.length : Int) := by omega
    have HEL := Lib.hid (eqL_len xs ys hlen)
    clear hlen
    go_enter Tryd.func21, Tryd.ntmps21
    go_wp2
    go_ret
    exact ⟨by rw [HEL.out]; rfl, Below.refl _ _⟩

def sameF (a b : Int × Int × List S46) : Bool := if a.1 == b.1 && a.2.1 == b.2.1 then eqL a.2.2 b.2.2 else false
attribute [local go_sem high] eqA24
set_option maxHeartbeats 2000000 in
theorem Same_calls (s0 s1 : Int) (xs : List S46) (A : Option Addr) (c : Nat) (t0 t1 : Int) (ys : List S46) (B : Option Addr) (d : Nat) (w : World) (hr : Kd.C k46 w A xs.length xs) (hc : xs.length ≤ c) (hs : Kd.C k46 w B ys.length ys) (hd : ys.length ≤ d) :
    Calls Tryd.prog 11 #[.agg #[.int .i64 s0, .int .i64 s1, .slice A xs.length c], .agg #[.int .i64 t0, .int .i64 t1, .slice B ys.length d]] w fun e w' => e = .returned (.bool (sameF (s0, s1, xs) (t0, t1, ys))) ∧ Below w.heap.size w w' := by
  have HE := Lib.hid (fun (W : World) (hW : Below w.heap.size w W) => equalFunc_calls xs ys A B c d W (Kd.C_below hr hW) hc (Kd.C_below hs hW) hd _ rfl)
  have hu27 := Tryd.underlying27
  have hu24 := Tryd.underlying24
  clear hr hs
  by_cases h : (s0 == t0 && s1 == t1) = true
  · have hsf : sameF (s0, s1, xs) (t0, t1, ys) = eqL xs ys := by unfold sameF; rw [if_pos h]
    rw [hsf]
    clear hsf
    go_enter Tryd.func11, Tryd.ntmps11
    go_wp2_with fail
    refine (HE.out _ ?_).mono ?_
    · (repeat (first | exact Below.refl _ _ | refine Below.drew ?_ | refine Below.drewN ?_ _ | refine Below.alloc ?_ (by simp; try omega) _ | refine Below.setCell ?_ (by simp; try omega) _))
    rintro e w2 ⟨rfl, hb2⟩
    go_wp2
    go_ret
    refine ⟨rfl, Below.trans ?_ (hb2.mono (by simp; omega))⟩
    (repeat (first | exact Below.refl _ _ | refine Below.drew ?_ | refine Below.drewN ?_ _ | refine Below.alloc ?_ (by simp; try omega) _ | refine Below.setCell ?_ (by simp; try omega) _))
  · have hsf : sameF (s0, s1, xs) (t0, t1, ys) = false := by unfold sameF; rw [if_neg h]
    have h' : (s0 == t0 && s1 == t1) = false := by simpa using h
    rw [hsf]
    clear hsf h
    go_enter Tryd.func11, Tryd.ntmps11
    go_wp2
    go_ret
    refine ⟨rfl, ?_⟩
    (repeat (first | exact Below.refl _ _ | refine Below.drew ?_ | refine Below.drewN ?_ _ | refine Below.alloc ?_ (by simp; try omega) _ | refine Below.setCell ?_ (by simp; try omega) _))
end Go.Proofs.YthkheemjgcbofaaDoor

namespace Go.Proofs.YthkheemjgcbofaaDoor
set_option linter.unusedVariables false
set_option linter.unusedSimpArgs false
open Go.RowKit Go.Proofs.YthkheemjgcbofaaDoor.PSc Go.Proofs.YthkheemjgcbofaaDoorW.PrintWords Go.Proofs.YthkheemjgcbofaaDoorW.PrintLast Go.Proofs.YthkheemjgcbofaaDoorW.PrintMore

def cutK (x : S46) : S46 := ⟨x.f0, x.f1, x.f2, x.f3, x.f4.take 2049⟩
def fewF (xs : List S46) : List S46 := (xs.take 301).map cutK
theorem rd_at (xs : List S46) (i : Nat) (x : S46) (h : xs[i]? = some x) : rd_T46 xs (i : Int) = x := by unfold rd_T46; simp [h]

theorem few_l0 (xs : List S46) (s0 s1 : Int) (hl : xs.length ≤ 9223372036854775807) (d : Nat) : ∀ (k i : Nat) (acc : List S46), i + d = xs.length → d < k → i ≤ 301 → acc.length = i →
    gazetteerlaw26_few.l0 k acc xs (xs.length : Int) (i : Int) s0 s1 xs = some (s0, s1, acc ++ ((xs.drop i).take (301 - i)).map cutK) := by
  induction d with
  | zero =>
    intro k i acc hi hk _ _
    obtain ⟨k, rfl⟩ : ∃ j, k = j + 1 := ⟨k - 1, by omega⟩
    simp only [gazetteerlaw26_few.l0]
    rw [if_neg (by omega), List.drop_eq_nil_of_le (by omega)]
    simp
  | succ d ih =>
    intro k i acc hi hk h3 ha
    obtain ⟨k, rfl⟩ : ∃ j, k = j + 1 := ⟨k - 1, by omega⟩
    have hw : wrap64 ((i : Int) + 1) = ((i + 1 : Nat) : Int) := by unfold wrap64; omega
    have hlt : i < xs.length := by omega
    have hx := rd_at xs i xs[i] (List.getElem?_eq_getElem hlt)
    have hd : xs.drop i = xs[i] :: xs.drop (i + 1) := List.drop_eq_getElem_cons hlt
    simp only [gazetteerlaw26_few.l0]
    rw [if_pos (by omega), if_pos (by omega), if_pos (by omega), hx]
    by_cases h : i = 301
    · subst h
      rw [if_pos (by omega)]
      simp
    · have hmn : (mn ((xs[i].f4.length : Nat) : Int) 2049).toNat = min xs[i].f4.length 2049 := by unfold mn; split <;> omega
      rw [if_neg (by omega), if_pos (by unfold mn; split <;> omega), if_pos (by unfold mn; split <;> omega), if_pos (by omega), hw, ih k (i + 1) _ (by omega) (by omega) (by omega) (by simp [ha]), hmn, hd]
      have e1 : 301 - i = (301 - (i + 1)) + 1 := by omega
      have e2 : xs[i].f4.take (min xs[i].f4.length 2049) = xs[i].f4.take 2049 := by rw [List.take_eq_take_iff]; omega
      rw [e1, List.take_succ_cons, List.map_cons, e2]
      simp [cutK]
theorem few_f (xs : List S46) (s0 s1 : Int) (hl : xs.length ≤ 9223372036854775807) : gazetteerlaw26_few.f (xs.length + 1) s0 s1 xs = some (s0, s1, fewF xs) := by
  unfold gazetteerlaw26_few.f
  have := few_l0 xs s0 s1 hl xs.length (xs.length + 1) 0 [] (by omega) (by omega) (by omega) rfl
  simpa [fewF] using this
theorem heap46 : Kd.Heap k46 := Kd.heap_iso _ (Kd.heap_pair (Kd.heap_int _) (Kd.heap_pair (Kd.heap_int _) (Kd.heap_pair (Kd.heap_iso _ (Kd.heap_pair (Kd.heap_int _) (Kd.heap_pair Kd.heap_bool (Kd.heap_pair (Kd.heap_int _) (Kd.heap_pair (Kd.heap_iso _ (Kd.heap_pair (Kd.heap_int _) (Kd.heap_pair (Kd.heap_int _) (Kd.heap_pair (Kd.heap_int _) (Kd.heap_int _))))) (Kd.heap_int _)))))) (Kd.heap_pair (Kd.heap_int _) (Kd.heap_slice _ Kd.heap_bool)))))
/-- few, called behind a world w in which its argument reads: what it leaves reads w's blocks and new ones alone. -/
theorem few_calls (xs : List S46) (s0 s1 : Int) (A : Option Addr) (c : Nat) (w W : World) (hC : Kd.C k46 w A xs.length xs) (hc : xs.length ≤ c) (hb : Below w.heap.size w W) :
    Calls Tryd.prog 10 #[.agg #[.int .i64 s0, .int .i64 s1, .slice A xs.length c]] W fun e w' => ∃ A' c', e = .returned (.agg #[.int .i64 s0, .int .i64 s1, .slice A' (fewF xs).length c']) ∧ (fewF xs).length ≤ c' ∧ Kd.F k46 w' (fun k => k < w.heap.size ∨ W.heap.size ≤ k) A' (fewF xs).length (fewF xs) ∧ Below W.heap.size W w' := by
  refine (gazetteerlaw26_few.calls (xs.length + 1) s0 s1 (fun k => k < w.heap.size) A c xs s0 s1 (fewF xs) W (Kd.V_mk hc (Kd.F_step (Kd.C_F heap46 hC) (fun k hk hlt => hb.block k hk))) (few_f xs s0 s1 hC.2.1)).mono ?_
  rintro e w' ⟨v, rfl, hN, hB⟩
  obtain ⟨A', c', rfl, hl, hC'⟩ := Kd.N_reads hN
  exact ⟨A', c', rfl, hl, Kd.N_F hN, hB⟩
theorem few_len (xs : List S46) : (fewF xs).length ≤ 301 := by simp [fewF]; omega
theorem few_keep (xs : List S46) : ∀ x, x ∈ fewF xs → x.f4.length ≤ 2049 := by
  intro x hx
  simp only [fewF, List.mem_map] at hx
  obtain ⟨y, _, rfl⟩ := hx
  simp [cutK]; omega

theorem copied_l0 (xs : List S46) (s0 s1 : Int) (hl : xs.length ≤ 301) (hk4 : ∀ x, x ∈ xs → x.f4.length ≤ 2049) (d : Nat) : ∀ (k i : Nat) (acc : List S46), i + d = xs.length → d < k → acc = xs.take i →
    gazetteerlaw26_copied.l0 k acc xs (xs.length : Int) (i : Int) s0 s1 xs = some (s0, s1, xs) := by
  induction d with
  | zero =>
    intro k i acc hi hk ha
    obtain ⟨k, rfl⟩ : ∃ j, k = j + 1 := ⟨k - 1, by omega⟩
    simp only [gazetteerlaw26_copied.l0]
    rw [if_neg (by omega), ha, List.take_of_length_le (by omega)]
  | succ d ih =>
    intro k i acc hi hk ha
    obtain ⟨k, rfl⟩ : ∃ j, k = j + 1 := ⟨k - 1, by omega⟩
    have hw : wrap64 ((i : Int) + 1) = ((i + 1 : Nat) : Int) := by unfold wrap64; omega
    have hlt : i < xs.length := by omega
    have hx := rd_at xs i xs[i] (List.getElem?_eq_getElem hlt)
    have hx4 := hk4 xs[i] (List.getElem_mem hlt)
    simp only [gazetteerlaw26_copied.l0]
    rw [if_pos (by omega), if_pos (by omega), if_pos (by omega), hx]
    simp only [Option.bind_some, List.nil_append, List.length_nil]
    rw [if_pos (by omega), if_pos (by rw [ha, List.length_take]; omega), hw]
    refine ih k (i + 1) _ (by omega) (by omega) ?_
    rw [ha, List.take_add_one, List.getElem?_eq_getElem hlt]
    rfl
theorem copied_calls (xs : List S46) (s0 s1 : Int) (A : Option Addr) (c : Nat) (w : World) (hC : Kd.C k46 w A xs.length xs) (hc : xs.length ≤ c) (hl : xs.length ≤ 301) (hk4 : ∀ x, x ∈ xs → x.f4.length ≤ 2049) :
    Calls Tryd.prog 13 #[.agg #[.int .i64 s0, .int .i64 s1, .slice A xs.length c]] w fun e w' => ∃ A' c', e = .returned (.agg #[.int .i64 s0, .int .i64 s1, .slice A' xs.length c']) ∧ xs.length ≤ c' ∧ Kd.C k46 w' A' xs.length xs ∧ Below w.heap.size w w' := by
  have h : gazetteerlaw26_copied.f (xs.length + 1) s0 s1 xs = some (s0, s1, xs) := by
    unfold gazetteerlaw26_copied.f
    exact copied_l0 xs s0 s1 hl hk4 xs.length (xs.length + 1) 0 [] (by omega) (by omega) (by simp)
  refine (gazetteerlaw26_copied.calls (xs.length + 1) s0 s1 A c xs s0 s1 xs w hC hc h).mono ?_
  rintro e w' ⟨v, rfl, hS, hB⟩
  obtain ⟨A', c', rfl, hl, hC'⟩ := Kd.S_reads hS
  exact ⟨A', c', rfl, hl, hC', hB⟩
end Go.Proofs.YthkheemjgcbofaaDoor

namespace Go.Proofs.YthkheemjgcbofaaDoor
set_option linter.unusedVariables false
set_option linter.unusedSimpArgs false
open Go.RowKit Go.Proofs.YthkheemjgcbofaaDoor.PSc Go.Proofs.YthkheemjgcbofaaDoorW.PrintWords Go.Proofs.YthkheemjgcbofaaDoorW.PrintLast Go.Proofs.YthkheemjgcbofaaDoorW.PrintMore

theorem rsame_l0 (l m : List Bool) (hl : l.length ≤ 9223372036854775807) (hm : l.length = m.length) (x0 x1 x2 : Int) (x3 : Bool) (x4 x5 x6 x7 x8 x9 x10 y0 y1 y2 : Int) (y3 : Bool) (y4 y5 y6 y7 y8 y9 y10 : Int) (d : Nat) : ∀ (k i : Nat), i + d = l.length → d < k →
    gazetteerref26_same.l0 k (l.length : Int) (i : Int) x0 x1 x2 x3 x4 x5 x6 x7 x8 x9 x10 l y0 y1 y2 y3 y4 y5 y6 y7 y8 y9 y10 m = some (l.drop i == m.drop i) := by
  induction d with
  | zero =>
    intro k i hi hk
    obtain ⟨k, rfl⟩ : ∃ j, k = j + 1 := ⟨k - 1, by omega⟩
    have h1 : l.drop i = [] := List.drop_eq_nil_of_le (by omega)
    have h2 : m.drop i = [] := List.drop_eq_nil_of_le (by omega)
    simp only [gazetteerref26_same.l0]
    rw [if_neg (by omega), h1, h2]; rfl
  | succ d ih =>
    intro k i hi hk
    obtain ⟨k, rfl⟩ : ∃ j, k = j + 1 := ⟨k - 1, by omega⟩
    have hw : wrap64 ((i : Int) + 1) = ((i + 1 : Nat) : Int) := by unfold wrap64; omega
    have e1 : l.drop i = l[i] :: l.drop (i + 1) := List.drop_eq_getElem_cons (by omega)
    have e2 : m.drop i = m[i] :: m.drop (i + 1) := List.drop_eq_getElem_cons (by omega)
    have r1 : rdOf false l (i : Int) = l[i] := by simp [rdOf, List.getD_eq_getElem?_getD, List.getElem?_eq_getElem (show i < l.length by omega)]
    have r2 : rdOf false m (i : Int) = m[i] := by simp [rdOf, List.getD_eq_getElem?_getD, List.getElem?_eq_getElem (show i < m.length by omega)]
    simp only [gazetteerref26_same.l0]
    rw [if_pos (by omega), if_pos (by omega), if_pos (by omega), if_pos (by omega), r1, r2, hw, e1, e2]
    by_cases h : l[i] = m[i]
    · rw [if_neg (by simp [h]), ih k (i + 1) (by omega) (by omega), h]
      simp only [List.cons_beq_cons, beq_self_eq_true, Bool.true_and]
    · have h' : (l[i] == m[i]) = false := by simpa using h
      rw [if_pos (by simpa using h)]
      simp only [List.cons_beq_cons, h', Bool.false_and]
theorem rsame_f (x y : S46) (hl : x.f4.length ≤ 9223372036854775807) (k : Nat) (hk : x.f4.length + 2 ≤ k) :
    gazetteerref26_same.f k x.f0 x.f1 x.f2.f0 x.f2.f1 x.f2.f2 x.f2.f3.f0 x.f2.f3.f1 x.f2.f3.f2 x.f2.f3.f3 x.f2.f4 x.f3 x.f4 y.f0 y.f1 y.f2.f0 y.f2.f1 y.f2.f2 y.f2.f3.f0 y.f2.f3.f1 y.f2.f3.f2 y.f2.f3.f3 y.f2.f4 y.f3 y.f4 = some (eq46 x y) := by
  obtain ⟨k, rfl⟩ : ∃ j, k = j + 1 := ⟨k - 1, by omega⟩
  have jt : gazetteerref26_same.j0 (k + 1) true x.f0 x.f1 x.f2.f0 x.f2.f1 x.f2.f2 x.f2.f3.f0 x.f2.f3.f1 x.f2.f3.f2 x.f2.f3.f3 x.f2.f4 x.f3 x.f4 y.f0 y.f1 y.f2.f0 y.f2.f1 y.f2.f2 y.f2.f3.f0 y.f2.f3.f1 y.f2.f3.f2 y.f2.f3.f3 y.f2.f4 y.f3 y.f4 = some false := by simp [gazetteerref26_same.j0]
  have e43 : (!(x.f2.f0 == y.f2.f0) || (!(x.f2.f1 == y.f2.f1) || (!(x.f2.f2 == y.f2.f2) || ((!(x.f2.f3.f0 == y.f2.f3.f0) || (!(x.f2.f3.f1 == y.f2.f3.f1) || (!(x.f2.f3.f2 == y.f2.f3.f2) || (!(x.f2.f3.f3 == y.f2.f3.f3))))) || (!(x.f2.f4 == y.f2.f4)))))) = !(eq43 x.f2 y.f2) := by
    unfold eq43; simp [Bool.not_and]
  unfold gazetteerref26_same.f eq46
  rw [jt, e43]
  by_cases h0 : x.f0 = y.f0
  · by_cases h1 : x.f1 = y.f1
    · by_cases h2 : eq43 x.f2 y.f2 = true
      · by_cases h3 : x.f3 = y.f3
        · by_cases h4 : x.f4.length = y.f4.length
          · have := rsame_l0 x.f4 y.f4 hl h4 x.f0 x.f1 x.f2.f0 x.f2.f1 x.f2.f2 x.f2.f3.f0 x.f2.f3.f1 x.f2.f3.f2 x.f2.f3.f3 x.f2.f4 x.f3 y.f0 y.f1 y.f2.f0 y.f2.f1 y.f2.f2 y.f2.f3.f0 y.f2.f3.f1 y.f2.f3.f2 y.f2.f3.f3 y.f2.f4 y.f3 x.f4.length k 0 (by omega) (by omega)
            simp only [gazetteerref26_same.j0]
            have hne : ((x.f4.length : Int) != (y.f4.length : Int)) = false := by simp; omega
            rw [if_pos h0, if_pos h1, if_neg (by simp [h2]), if_pos h3, hne, if_neg (by simp)]
            simp only [h0, h1, h3, h2, beq_self_eq_true, if_true]
            simpa [h0, h1, h3] using this
          · have hne : ((x.f4.length : Int) != (y.f4.length : Int)) = true := by simp; omega
            have hn4 : ¬ x.f4 = y.f4 := fun e => h4 (by rw [e])
            rw [if_pos h0, if_pos h1, if_neg (by simp [h2]), if_pos h3, hne, jt]
            simp [h0, h1, h2, h3, hn4]
        · rw [if_pos h0, if_pos h1, if_neg (by simp [h2]), if_neg h3]
          simp [h0, h1, h3]
      · rw [if_pos h0, if_pos h1, if_pos (by simp [h2])]
        simp [h0, h1, h2]
    · rw [if_pos h0, if_neg h1]
      simp [h0, h1]
  · rw [if_neg h0]
    simp [h0]

theorem rSame_l0 (xs ys : List S46) (s0 s1 t0 t1 : Int) (M : Nat) (hM : M ≤ 9223372036854775807) (hx4 : ∀ x, x ∈ xs → x.f4.length ≤ M) (hl : xs.length ≤ 9223372036854775807) (hm : xs.length = ys.length) (d : Nat) : ∀ (k i : Nat), i + d = xs.length → d + M + 3 ≤ k →
    gazetteerref26_Same.l0 k (xs.length : Int) (i : Int) s0 s1 xs t0 t1 ys = some (eqL (xs.drop i) (ys.drop i)) := by
  induction d with
  | zero =>
    intro k i hi hk
    obtain ⟨k, rfl⟩ : ∃ j, k = j + 1 := ⟨k - 1, by omega⟩
    simp only [gazetteerref26_Same.l0]
    rw [if_neg (by omega), List.drop_eq_nil_of_le (by omega), List.drop_eq_nil_of_le (by omega)]
    rfl
  | succ d ih =>
    intro k i hi hk
    obtain ⟨k, rfl⟩ : ∃ j, k = j + 1 := ⟨k - 1, by omega⟩
    have hw : wrap64 ((i : Int) + 1) = ((i + 1 : Nat) : Int) := by unfold wrap64; omega
    have hlt : i < xs.length := by omega
    have hlt2 : i < ys.length := by omega
    have e1 : xs.drop i = xs[i] :: xs.drop (i + 1) := List.drop_eq_getElem_cons hlt
    have e2 : ys.drop i = ys[i] :: ys.drop (i + 1) := List.drop_eq_getElem_cons hlt2
    have hx := rd_at xs i xs[i] (List.getElem?_eq_getElem hlt)
    have hy := rd_at ys i ys[i] (List.getElem?_eq_getElem hlt2)
    have h4 := hx4 xs[i] (List.getElem_mem hlt)
    simp only [gazetteerref26_Same.l0]
    rw [if_pos (by omega), if_pos (by omega), if_pos (by omega), if_pos (by omega), hx, hy, rsame_f xs[i] ys[i] (by omega) k (by omega)]
    simp only [Option.bind_some]
    rw [hw, ih k (i + 1) (by omega) (by omega), e1, e2, eqL]
    split <;> rfl
theorem rSame_f (xs ys : List S46) (s0 s1 t0 t1 : Int) (M : Nat) (hM : M ≤ 9223372036854775807) (hx4 : ∀ x, x ∈ xs → x.f4.length ≤ M) (hl : xs.length ≤ 9223372036854775807) :
    gazetteerref26_Same.f (xs.length + M + 4) s0 s1 xs t0 t1 ys = some (sameF (s0, s1, xs) (t0, t1, ys)) := by
  have jt : ∀ b : Bool, b = true → gazetteerref26_Same.j0 (xs.length + M + 4) b s0 s1 xs t0 t1 ys = some false := fun b h => by simp [gazetteerref26_Same.j0, h]
  unfold gazetteerref26_Same.f sameF
  by_cases h : (s0 == t0 && s1 == t1) = true
  · have h' : (!(s0 == t0) || (!(s1 == t1))) = false := by simp at h ⊢; exact h
    rw [if_neg (by simp [h'])]
    simp only [h, if_true]
    by_cases hm : xs.length = ys.length
    · have hne : ((xs.length : Int) != (ys.length : Int)) = false := by simp; omega
      rw [hne]
      simp only [gazetteerref26_Same.j0]
      rw [if_neg (by simp)]
      have := rSame_l0 xs ys s0 s1 t0 t1 M hM hx4 hl hm xs.length (xs.length + M + 3) 0 (by omega) (by omega)
      simpa using this
    · have hne : ((xs.length : Int) != (ys.length : Int)) = true := by simp; omega
      rw [jt _ hne, eqL_len xs ys hm]
  · have h' : (!(s0 == t0) || (!(s1 == t1))) = true := by
      cases h0 : (s0 == t0) <;> cases h1 : (s1 == t1) <;> simp [h0, h1] at h ⊢
    rw [if_pos h', jt _ rfl]
    simp only [h]
    rfl
theorem rSame_calls (s0 s1 : Int) (xs : List S46) (A : Option Addr) (c : Nat) (t0 t1 : Int) (ys : List S46) (B : Option Addr) (d : Nat) (w : World) (hr : Kd.C k46 w A xs.length xs) (hc : xs.length ≤ c) (hs : Kd.C k46 w B ys.length ys) (hd : ys.length ≤ d) (hx4 : ∀ x, x ∈ xs → x.f4.length ≤ 2049) :
    Calls Tryd.prog 12 #[.agg #[.int .i64 s0, .int .i64 s1, .slice A xs.length c], .agg #[.int .i64 t0, .int .i64 t1, .slice B ys.length d]] w fun e w' => e = .returned (.bool (sameF (s0, s1, xs) (t0, t1, ys))) ∧ Below w.heap.size w w' :=
  gazetteerref26_Same.calls _ s0 s1 A c xs t0 t1 B d ys _ w hr hc hs hd (rSame_f xs ys s0 s1 t0 t1 2049 (by decide) hx4 hr.2.1)
theorem eqL_self (xs : List S46) : eqL xs xs = true := by
  induction xs with
  | nil => rfl
  | cons x xs ih => rw [eqL, ih]; simp [eq46, eq43]
theorem sameF_self (s : Int × Int × List S46) : sameF s s = true := by unfold sameF; simp [eqL_self]
end Go.Proofs.YthkheemjgcbofaaDoor

namespace Go.Proofs.YthkheemjgcbofaaDoor
set_option linter.unusedVariables false
set_option linter.unusedSimpArgs false
open Go.RowKit Go.ChangeShapes Go.WideShapes Go.Deep Go.Proofs.YthkheemjgcbofaaDoor.PSc Go.Proofs.YthkheemjgcbofaaDoorW.PrintWords

/-- Cells that can be read as data of type t are some value of kind d, and that one is good. -/
def Rds {α : Type} (d : Kd α) (t : TypeId) (good : α → Prop) : Prop :=
  ∀ (H : Type) (enc : TypeId × Value → H) (w : World) (base : Nat) (spare : Nat → Bool) (held : Bool) (fuel : Nat) (cs : List Value) (x : DataW H × List MemPlace),
    DataW.trod enc Tryd.prog w base spare held fuel t cs = some x → ∃ a : α, d.K w a cs ∧ good a
theorem rds_int {k : IntKind} {t : TypeId} (ht : Tryd.prog.underlying t = some (.int k)) : Rds (Kd.int k) t (fun n => (Lit.int k n).wf = true) := fun H enc w base spare held fuel cs x h => by
  obtain ⟨n, h1, _, h2⟩ := DataW.trod_int ht h
  exact ⟨n, h1, h2⟩
theorem rds_bool {t : TypeId} (ht : Tryd.prog.underlying t = some .bool) : Rds Kd.bool t (fun _ => True) := fun H enc w base spare held fuel cs x h => by
  obtain ⟨n, h1, _⟩ := DataW.trod_bool ht h
  exact ⟨n, h1, trivial⟩
theorem rds_slice {α : Type} {d : Kd α} {t e : TypeId} {good : α → Prop} (q : Nat) (ht : Tryd.prog.underlying t = some (.slice e)) (hsz : Tryd.prog.cellsOf e = d.sz) (hd : Rds d e good) :
    Rds (Kd.slice q d) t (fun xs => ∀ x, x ∈ xs → good x) := fun H enc w base spare held fuel cs x h => by
  rcases open_slice ht h with ⟨rfl, _⟩ | ⟨a, len, cap, m, n, D, Pl, rfl, hb, hl, hmax, hm, _, hi⟩
  · exact ⟨[], ⟨none, 0, rfl, Nat.le_refl _, Kd.C_nil d w⟩, by simp⟩
  · have hlm : len ≤ m := by rw [hm]; split <;> omega
    have key : ∀ k, k ≤ len → ∃ xs : List α, xs.length = k ∧ (∀ x, x ∈ xs → good x) ∧ ∀ j p, xs[j]? = some p → ∃ c, c.length = d.sz ∧ d.K w p c ∧ ∀ i u, c[i]? = some u → w.cell? (a.add (j * d.sz + i)) = some u := by
      intro k
      induction k with
      | zero => exact fun _ => ⟨[], rfl, by simp, fun j p hp => by simp at hp⟩
      | succ k ih =>
        intro hk
        obtain ⟨xs, h1, h2, h3⟩ := ih (by omega)
        obtain ⟨cs', hc, hcs⟩ := hi k (by omega)
        obtain ⟨y, hy, hg⟩ := hd H enc w base spare held n cs' _ hcs
        obtain ⟨_, hcl, hat⟩ := World.cells?_some hc
        refine ⟨xs ++ [y], by simp [h1], ?_, ?_⟩
        · intro z hz
          rcases List.mem_append.1 hz with hz | hz
          · exact h2 z hz
          · rw [List.mem_singleton.1 hz]; exact hg
        · intro j p hp
          rcases Nat.lt_or_ge j xs.length with hj | hj
          · rw [List.getElem?_append_left hj] at hp
            exact h3 j p hp
          · rw [List.getElem?_append_right hj] at hp
            have hj0 : j - xs.length = 0 := by
              rcases Nat.eq_zero_or_pos (j - xs.length) with h | h
              · exact h
              · rw [List.getElem?_eq_none (by simp; omega)] at hp; cases hp
            rw [hj0] at hp
            obtain rfl : y = p := by simpa using hp
            have hjk : j = k := by omega
            subst hjk
            refine ⟨cs', by rw [hcl, hsz], hy, fun i u hu => ?_⟩
            have hil : i < cs'.length := (List.getElem?_eq_some_iff.1 hu).1
            have := hat i (by omega)
            rw [Go.Deep.add_add, hsz] at this
            rw [this, hu]
    obtain ⟨xs, h1, h2, h3⟩ := key len (Nat.le_refl _)
    refine ⟨xs, ⟨some a, cap, by rw [h1], by omega, ⟨rfl, ?_, fun _ => ⟨a, rfl, h3⟩⟩⟩, h2⟩
    unfold maxLen at hmax
    omega

theorem wf_i64 {n : Int} (h : (Lit.int .i64 n).wf = true) : I64 n := by
  simp [Lit.wf] at h
  have e1 : IntKind.i64.min = -9223372036854775808 := by decide
  rw [e1] at h
  exact h
theorem wf_u32 {n : Int} (h : (Lit.int .u32 n).wf = true) : 0 ≤ n ∧ n ≤ 4294967295 := by
  simp [Lit.wf] at h
  have e1 : IntKind.u32.min = 0 := by decide
  have e2 : IntKind.u32.max = 4294967295 := by decide
  rw [e1, e2] at h
  exact h
theorem wf_u64 {n : Int} (h : (Lit.int .u64 n).wf = true) : 0 ≤ n ∧ n ≤ 18446744073709551615 := by
  simp [Lit.wf] at h
  have e1 : IntKind.u64.min = 0 := by decide
  have e2 : IntKind.u64.max = 18446744073709551615 := by decide
  rw [e1, e2] at h
  exact h
theorem fld {α : Type} {d : Kd α} {ty : TypeId} {good : α → Prop} (hd : Rds d ty good) (off : Nat) {k : Nat} (hk : Tryd.prog.cellsOf ty = k) {H : Type} {enc : TypeId × Value → H} {w : World} {base : Nat} {spare : Nat → Bool} {held : Bool} {fuel : Nat} {l : List Value} {xs : List (DataW H × List MemPlace)} {fs : Array Field}
    (hf : ∀ (i : Nat) (f : Field), fs[i]? = some f → DataW.trod enc Tryd.prog w base spare held fuel f.type ((l.drop f.offset).take (Tryd.prog.cellsOf f.type)) = xs[i]?) (i : Nat) (hi : i < xs.length) {f : Field} (hfs : fs[i]? = some f) (hty : f.type = ty) (ho : f.offset = off) :
    ∃ a : α, d.K w a ((l.drop off).take k) ∧ good a := by
  have h := (hf i f hfs).trans (List.getElem?_eq_getElem hi)
  rw [hty, ho, hk] at h
  exact hd H enc w base spare held fuel _ _ h

theorem len3 {l : List Value} (h : l.length = 3) : ∃ a0 a1 a2, l = [a0, a1, a2] := by
  match l, h with
  | [a0, a1, a2], _ => exact ⟨a0, a1, a2, rfl⟩
theorem len4 {l : List Value} (h : l.length = 4) : ∃ a0 a1 a2 a3, l = [a0, a1, a2, a3] := by
  match l, h with
  | [a0, a1, a2, a3], _ => exact ⟨a0, a1, a2, a3, rfl⟩
theorem len8 {l : List Value} (h : l.length = 8) : ∃ a0 a1 a2 a3 a4 a5 a6 a7, l = [a0, a1, a2, a3, a4, a5, a6, a7] := by
  match l, h with
  | [a0, a1, a2, a3, a4, a5, a6, a7], _ => exact ⟨a0, a1, a2, a3, a4, a5, a6, a7, rfl⟩
theorem len12 {l : List Value} (h : l.length = 12) : ∃ a0 a1 a2 a3 a4 a5 a6 a7 a8 a9 a10 a11, l = [a0, a1, a2, a3, a4, a5, a6, a7, a8, a9, a10, a11] := by
  match l, h with
  | [a0, a1, a2, a3, a4, a5, a6, a7, a8, a9, a10, a11], _ => exact ⟨a0, a1, a2, a3, a4, a5, a6, a7, a8, a9, a10, a11, rfl⟩
theorem c2 : Tryd.prog.cellsOf 2 = 1 := by kernel_rfl
theorem c3 : Tryd.prog.cellsOf 3 = 1 := by kernel_rfl
theorem c4 : Tryd.prog.cellsOf 4 = 1 := by kernel_rfl
theorem c39 : Tryd.prog.cellsOf 39 = 1 := by kernel_rfl
theorem c24 : Tryd.prog.cellsOf 24 = 2 := by kernel_rfl
theorem c25 : Tryd.prog.cellsOf 25 = 1 := by kernel_rfl
theorem c27 : Tryd.prog.cellsOf 27 = 3 := by kernel_rfl
theorem c41 : Tryd.prog.cellsOf 41 = 4 := by kernel_rfl
theorem c43 : Tryd.prog.cellsOf 43 = 8 := by kernel_rfl
theorem c44 : Tryd.prog.cellsOf 44 = 1 := by kernel_rfl
theorem c46 : Tryd.prog.cellsOf 46 = 12 := by kernel_rfl
theorem rd2 : Rds (Kd.int .i64) 2 (fun n => (Lit.int .i64 n).wf = true) := rds_int Tryd.underlying2
theorem rd3 : Rds (Kd.int .i64) 3 (fun n => (Lit.int .i64 n).wf = true) := rds_int Tryd.underlying3
theorem rd39 : Rds (Kd.int .u32) 39 (fun n => (Lit.int .u32 n).wf = true) := rds_int Tryd.underlying39
theorem rd4 : Rds Kd.bool 4 (fun _ => True) := rds_bool Tryd.underlying4
theorem rd44 : Rds (Kd.slice 4 Kd.bool) 44 (fun xs => ∀ x, x ∈ xs → True) := rds_slice 4 Tryd.underlying44 c4 rd4
theorem rd41 : Rds k41 41 (fun x => I64 x.f0 ∧ I64 x.f1 ∧ I64 x.f2 ∧ I64 x.f3) := fun H enc w base spare held fuel cs x h => by
  obtain ⟨xs, n, _, _, hl, hx, hf⟩ := DataW.trod_struct Tryd.underlying41 h
  rw [c41] at hl
  obtain ⟨c0, c1, c2', c3', rfl⟩ := len4 hl
  have hx4 : xs.length = 4 := hx
  obtain ⟨n0, h0, w0⟩ := fld rd2 0 c2 hf 0 (by omega) rfl rfl rfl
  obtain ⟨n1, h1, w1⟩ := fld rd2 1 c2 hf 1 (by omega) rfl rfl rfl
  obtain ⟨n2, h2, w2⟩ := fld rd2 2 c2 hf 2 (by omega) rfl rfl rfl
  obtain ⟨n3, h3, w3⟩ := fld rd2 3 c2 hf 3 (by omega) rfl rfl rfl
  obtain rfl : c0 = .int .i64 n0 := List.head_eq_of_cons_eq h0
  obtain rfl : c1 = .int .i64 n1 := List.head_eq_of_cons_eq h1
  obtain rfl : c2' = .int .i64 n2 := List.head_eq_of_cons_eq h2
  obtain rfl : c3' = .int .i64 n3 := List.head_eq_of_cons_eq h3
  exact ⟨⟨n0, n1, n2, n3⟩, k41_mk w _, wf_i64 w0, wf_i64 w1, wf_i64 w2, wf_i64 w3⟩
theorem rd43 : Rds k43 43 Ok43 := fun H enc w base spare held fuel cs x h => by
  obtain ⟨xs, n, _, _, hl, hx, hf⟩ := DataW.trod_struct Tryd.underlying43 h
  rw [c43] at hl
  obtain ⟨e0, e1, e2, e3, e4, e5, e6, e7, rfl⟩ := len8 hl
  have hx5 : xs.length = 5 := hx
  obtain ⟨n0, h0, w0⟩ := fld rd3 0 c3 hf 0 (by omega) rfl rfl rfl
  obtain ⟨n1, h1, w1⟩ := fld rd4 1 c4 hf 1 (by omega) rfl rfl rfl
  obtain ⟨n2, h2, w2⟩ := fld rd39 2 c39 hf 2 (by omega) rfl rfl rfl
  obtain ⟨n3, h3, w3⟩ := fld rd41 3 c41 hf 3 (by omega) rfl rfl rfl
  obtain ⟨n4, h4, w4⟩ := fld rd2 7 c2 hf 4 (by omega) rfl rfl rfl
  obtain rfl : e0 = .int .i64 n0 := List.head_eq_of_cons_eq h0
  obtain rfl : e1 = .bool n1 := List.head_eq_of_cons_eq h1
  obtain rfl : e2 = .int .u32 n2 := List.head_eq_of_cons_eq h2
  have h3' := k41_open h3
  simp only [List.drop_succ_cons, List.drop_zero, List.take_succ_cons, List.take_zero, List.cons.injEq, and_true] at h3'
  obtain ⟨rfl, rfl, rfl, rfl⟩ := h3'
  obtain rfl : e7 = .int .i64 n4 := List.head_eq_of_cons_eq h4
  exact ⟨⟨n0, n1, n2, n3, n4⟩, k43_mk w _, wf_i64 w0, wf_u32 w2, w3.1, w3.2.1, w3.2.2.1, w3.2.2.2, wf_i64 w4⟩
theorem rd46 : Rds k46 46 (fun x => Ok46 x ∧ I64 x.f0) := fun H enc w base spare held fuel cs x h => by
  obtain ⟨xs, n, _, _, hl, hx, hf⟩ := DataW.trod_struct Tryd.underlying46 h
  rw [c46] at hl
  obtain ⟨e0, e1, e2, e3, e4, e5, e6, e7, e8, e9, e10, e11, rfl⟩ := len12 hl
  have hx5 : xs.length = 5 := hx
  obtain ⟨n0, h0, w0⟩ := fld rd3 0 c3 hf 0 (by omega) rfl rfl rfl
  obtain ⟨n1, h1, w1⟩ := fld rd3 1 c3 hf 1 (by omega) rfl rfl rfl
  obtain ⟨n2, h2, w2⟩ := fld rd43 2 c43 hf 2 (by omega) rfl rfl rfl
  obtain ⟨n3, h3, w3⟩ := fld rd3 10 c3 hf 3 (by omega) rfl rfl rfl
  obtain ⟨n4, h4, w4⟩ := fld rd44 11 c44 hf 4 (by omega) rfl rfl rfl
  obtain rfl : e0 = .int .i64 n0 := List.head_eq_of_cons_eq h0
  obtain rfl : e1 = .int .i64 n1 := List.head_eq_of_cons_eq h1
  have h2' := k43_open h2
  simp only [List.drop_succ_cons, List.drop_zero, List.take_succ_cons, List.take_zero, List.cons.injEq, and_true] at h2'
  obtain ⟨rfl, rfl, rfl, rfl, rfl, rfl, rfl, rfl⟩ := h2'
  obtain rfl : e10 = .int .i64 n3 := List.head_eq_of_cons_eq h3
  obtain ⟨A, c, h4', hlc, hC⟩ := h4
  obtain rfl : e11 = .slice A n4.length c := List.head_eq_of_cons_eq h4'
  exact ⟨⟨n0, n1, n2, n3, n4⟩, k46_mk w _ hlc hC, ⟨wf_i64 w1, wf_i64 w3, w2⟩, wf_i64 w0⟩
/-- A script that came in. -/
theorem open27 {H : Type} {enc : TypeId × Value → H} {w : World} {base : Nat} {spare : Nat → Bool} {held : Bool} {fuel : Nat} {cs : List Value} {x : DataW H × List MemPlace} (h : DataW.trod enc Tryd.prog w base spare held fuel 27 cs = some x) :
    ∃ (s0 s1 : Int) (xs : List S46) (A : Option Addr) (c : Nat), cs = [.int .i64 s0, .int .i64 s1, .slice A xs.length c] ∧ I64 s0 ∧ I64 s1 ∧ (∀ y, y ∈ xs → Ok46 y ∧ I64 y.f0) ∧ xs.length ≤ c ∧ Kd.C k46 w A xs.length xs := by
  obtain ⟨xs, n, _, _, hl, hx, hf⟩ := DataW.trod_struct Tryd.underlying27 h
  rw [c27] at hl
  obtain ⟨e0, e1, e2, rfl⟩ := len3 hl
  have hx2 : xs.length = 2 := hx
  obtain ⟨n2, h2, w2⟩ := fld (rds_slice 46 Tryd.underlying25 c46 rd46) 2 c25 hf 1 (by omega) rfl rfl rfl
  obtain ⟨A, c, h2', hlc, hC⟩ := h2
  obtain rfl : e2 = .slice A n2.length c := List.head_eq_of_cons_eq h2'
  have h24' : DataW.trod enc Tryd.prog w base spare held n 24 (([e0, e1, .slice A n2.length c].drop 0).take (Tryd.prog.cellsOf 24)) = xs[0]? := hf 0 _ rfl
  rw [c24] at h24'
  have h24 : DataW.trod enc Tryd.prog w base spare held n 24 [e0, e1] = some (xs[0]'(by rw [hx2]; decide)) := h24'.trans (List.getElem?_eq_getElem (show 0 < xs.length by rw [hx2]; decide))
  obtain ⟨ys, n', _, _, hl', hx', hf'⟩ := DataW.trod_struct Tryd.underlying24 h24
  have hy2 : ys.length = 2 := hx'
  obtain ⟨m0, g0, v0⟩ := fld rd3 0 c3 hf' 0 (show 0 < ys.length by rw [hy2]; decide) rfl rfl rfl
  obtain ⟨m1, g1, v1⟩ := fld rd3 1 c3 hf' 1 (show 1 < ys.length by rw [hy2]; decide) rfl rfl rfl
  obtain rfl : e0 = .int .i64 m0 := List.head_eq_of_cons_eq g0
  obtain rfl : e1 = .int .i64 m1 := List.head_eq_of_cons_eq g1
  exact ⟨m0, m1, n2, A, c, rfl, wf_i64 v0, wf_i64 v1, w2, hlc, hC⟩
end Go.Proofs.YthkheemjgcbofaaDoor
