/- Lemmas. -/
import Derived.Test.YtdgccipcandojaaGreatEvI
import Derived.Test.YtdgccipcandojaaGreatNobA
namespace Go.Proofs.YtdgccipcandojaaGreat
open Go Go.Ev Go.RowKit Go.ChangeShapes Go.WideShapes Go.ChangeAt

def shY (e i : Nat) : Option (Nat × Nat) := match e with
  | 0 => if i % 16 = 3 then some (1, 1) else if i % 16 = 12 then some (2, 1) else none
  | 3 => if i = 1 then some (0, 16) else if i = 2 then some (1, 1) else none
  | _ => none

section
variable {F : Foreign} {H : Type} {enc : TypeId × Value → H} {fuel : Nat}

theorem roN_of {c : Nat → Option SV} : ∀ {l : List SV} {off : Nat}, (∀ j, j < l.length → c (off + j) = l[j]?) → roN c l.length off = some l
  | [], _, _ => rfl
  | a :: l, off, h => by
    show (c off).bind (fun v => (roN c l.length (off + 1)).bind fun l => some (v :: l)) = _
    have h0 := h 0 (by simp)
    simp only [Nat.add_zero, List.getElem?_cons_zero] at h0
    have ih := roN_of (c := c) (l := l) (off := off + 1) (fun j hj => by
      have := h (j + 1) (by simp; omega)
      rw [List.getElem?_cons_succ] at this
      rw [show off + 1 + j = off + (j + 1) by omega]
      exact this)
    rw [h0, Option.bind_some, ih]
    rfl

theorem trod_float {P : Program} {w : World} {base : Nat} {spare : Nat → Bool} {held : Bool} {t : TypeId} {cs : List Value} {x : DataW H × List MemPlace} {k : FloatKind} (ht : P.underlying t = some (.float k))
    (h : DataW.trod enc P w base spare held fuel t cs = some x) : ∃ b, cs = [.float k b] := by
  cases fuel with
  | zero => simp [DataW.trod] at h
  | succ n =>
    unfold DataW.trod at h
    rw [ht] at h
    split at h <;> simp_all

theorem c9 : Tryz.prog.cellsOf 9 = 1 := by kernel_rfl
theorem c3 : Tryz.prog.cellsOf 3 = 1 := by kernel_rfl
theorem c4 : Tryz.prog.cellsOf 4 = 1 := by kernel_rfl
theorem c22 : Tryz.prog.cellsOf 22 = 1 := by kernel_rfl
theorem c23 : Tryz.prog.cellsOf 23 = 1 := by kernel_rfl
theorem c25 : Tryz.prog.cellsOf 25 = 4 := by kernel_rfl
theorem c49 : Tryz.prog.cellsOf 49 = 1 := by kernel_rfl
theorem c50 : Tryz.prog.cellsOf 50 = 1 := by kernel_rfl
theorem c51 : Tryz.prog.cellsOf 51 = 1 := by kernel_rfl
theorem c53 : Tryz.prog.cellsOf 53 = 5 := by kernel_rfl
theorem c55 : Tryz.prog.cellsOf 55 = 16 := by kernel_rfl

/-- A text. -/
theorem str_in {t : TypeId} (ht : Tryz.prog.underlying t = some .string) {v : Value} {x : DataW H × List MemPlace} (h : DataW.trod enc Tryz.prog F.W 0 (fun _ => true) true fuel t [v] = some x) : ∃ s, ∀ k e i, F.conv k e i v = some (.str s) := by
  obtain ⟨s, hs, _⟩ := DataW.trod_string ht h
  cases hs
  exact ⟨s.data.toList, fun k e i => rfl⟩
theorem int_in {t : TypeId} {kd : IntKind} (ht : Tryz.prog.underlying t = some (.int kd)) {v : Value} {x : DataW H × List MemPlace} (h : DataW.trod enc Tryz.prog F.W 0 (fun _ => true) true fuel t [v] = some x) : ∃ s, ∀ k e i, F.conv k e i v = some s := by
  obtain ⟨n, hs, _⟩ := DataW.trod_int ht h
  cases hs
  exact ⟨.int kd n, fun k e i => rfl⟩
theorem bool_in {t : TypeId} (ht : Tryz.prog.underlying t = some .bool) {v : Value} {x : DataW H × List MemPlace} (h : DataW.trod enc Tryz.prog F.W 0 (fun _ => true) true fuel t [v] = some x) : ∃ s, ∀ k e i, F.conv k e i v = some s := by
  obtain ⟨n, hs, _⟩ := DataW.trod_bool ht h
  cases hs
  exact ⟨.bool n, fun k e i => rfl⟩
theorem float_in {t : TypeId} {kd : FloatKind} (ht : Tryz.prog.underlying t = some (.float kd)) {v : Value} {x : DataW H × List MemPlace} (h : DataW.trod enc Tryz.prog F.W 0 (fun _ => true) true fuel t [v] = some x) : ∃ s, ∀ k e i, F.conv k e i v = some s := by
  obtain ⟨n, hs⟩ := trod_float ht h
  cases hs
  exact ⟨.float kd n, fun k e i => rfl⟩

/-- A slice of texts. -/
theorem strs_in {v : Value} {x : DataW H × List MemPlace} (h : DataW.trod enc Tryz.prog F.W 0 (fun _ => true) true fuel 23 [v] = some x) {e0 i0 : Nat} (hs : F.sh e0 i0 = some (1, 1)) (hT : F.T = 4) (k most : Nat) :
    ∃ a len, F.conv k e0 i0 v = some a ∧ Strs F.st a len most := by
  rcases slice_in Tryz.underlying23 c9 (by omega) h hs (by omega) k with ⟨a, h1, h2, _⟩ | ⟨b, o, len, cap, n, rfl, h1, hlc, h2, h3, ho, h4⟩
  · exact ⟨a, 0, h1, .inl ⟨h2, rfl⟩⟩
  · refine ⟨_, len, h1, .inr ⟨_, 0, cap, _, rfl, hlc, h2, h3, fun i hi _ => ?_⟩⟩
    obtain ⟨cells, y, hl, hc, hy⟩ := h4 i hi
    match cells, hl with
    | [c], _ =>
      obtain ⟨s, hs, _⟩ := DataW.trod_string Tryz.underlying9 hy
      cases hs
      have hc0 := hc 0 (by omega)
      refine ⟨s.data.toList, ?_⟩
      rw [show (0 + i) * 1 = i * 1 + 0 by omega]
      exact F.cellAt_enc ho (by omega) hc0 rfl

/-- A slice of numbers. -/
theorem ints_in {v : Value} {x : DataW H × List MemPlace} (h : DataW.trod enc Tryz.prog F.W 0 (fun _ => true) true fuel 51 [v] = some x) {e0 i0 : Nat} (hs : F.sh e0 i0 = some (2, 1)) (hT : F.T = 4) (k : Nat) :
    ∃ a len, F.conv k e0 i0 v = some a ∧ Sl 1 a len := by
  rcases slice_in Tryz.underlying51 c3 (by omega) h hs (by omega) k with ⟨a, h1, h2, _⟩ | ⟨b, o, len, cap, n, rfl, h1, hlc, h2, h3, ho, h4⟩
  · exact ⟨a, 0, h1, .inl ⟨h2, rfl⟩⟩
  · exact ⟨_, len, h1, .inr ⟨_, 0, cap, rfl, hlc, by omega⟩⟩

/-- A field's cells. -/
theorem field_in (hF : F.sh = shY) (hT : F.T = 4) {cells : List Value} (hl : cells.length = 16) {y : DataW H × List MemPlace} (h : DataW.trod enc Tryz.prog F.W 0 (fun _ => true) true fuel 55 cells = some y)
    {b o i : Nat} (ho : o < F.B) (hc : ∀ j, j < 16 → F.W.cell? ⟨b, o + (i * 16 + j), none⟩ = cells[j]?) : ∃ l, roN (F.cellAt (F.enc b o 0)) 16 (i * 16) = some l ∧ FieldOk F.st l := by
  match cells, hl with
  | [x0, x1, x2, x3, x4, x5, x6, x7, x8, x9, x10, x11, x12, x13, x14, x15], _ =>
    obtain ⟨xs, n, rfl, _, _, hxl, hx⟩ := DataW.trod_struct Tryz.underlying55 h
    have hsz : xs.length = 12 := hxl
    obtain ⟨y0, h0⟩ : ∃ y, DataW.trod enc Tryz.prog F.W 0 (fun _ => true) true n 49 [x0] = some y := ⟨xs[0], by have this : DataW.trod enc Tryz.prog F.W 0 (fun _ => true) true n 49 (List.take (Tryz.prog.cellsOf 49) (List.drop 0 [x0, x1, x2, x3, x4, x5, x6, x7, x8, x9, x10, x11, x12, x13, x14, x15])) = xs[0]? := hx 0 _ rfl; rw [c49] at this; exact this.trans (List.getElem?_eq_getElem (by omega))⟩
    obtain ⟨y1, h1⟩ : ∃ y, DataW.trod enc Tryz.prog F.W 0 (fun _ => true) true n 9 [x1] = some y := ⟨xs[1], by have this : DataW.trod enc Tryz.prog F.W 0 (fun _ => true) true n 9 (List.take (Tryz.prog.cellsOf 9) (List.drop 1 [x0, x1, x2, x3, x4, x5, x6, x7, x8, x9, x10, x11, x12, x13, x14, x15])) = xs[1]? := hx 1 _ rfl; rw [c9] at this; exact this.trans (List.getElem?_eq_getElem (by omega))⟩
    obtain ⟨y2, h2⟩ : ∃ y, DataW.trod enc Tryz.prog F.W 0 (fun _ => true) true n 9 [x2] = some y := ⟨xs[2], by have this : DataW.trod enc Tryz.prog F.W 0 (fun _ => true) true n 9 (List.take (Tryz.prog.cellsOf 9) (List.drop 2 [x0, x1, x2, x3, x4, x5, x6, x7, x8, x9, x10, x11, x12, x13, x14, x15])) = xs[2]? := hx 2 _ rfl; rw [c9] at this; exact this.trans (List.getElem?_eq_getElem (by omega))⟩
    obtain ⟨y3, h3⟩ : ∃ y, DataW.trod enc Tryz.prog F.W 0 (fun _ => true) true n 23 [x3] = some y := ⟨xs[3], by have this : DataW.trod enc Tryz.prog F.W 0 (fun _ => true) true n 23 (List.take (Tryz.prog.cellsOf 23) (List.drop 3 [x0, x1, x2, x3, x4, x5, x6, x7, x8, x9, x10, x11, x12, x13, x14, x15])) = xs[3]? := hx 3 _ rfl; rw [c23] at this; exact this.trans (List.getElem?_eq_getElem (by omega))⟩
    obtain ⟨y4, h4⟩ : ∃ y, DataW.trod enc Tryz.prog F.W 0 (fun _ => true) true n 3 [x4] = some y := ⟨xs[4], by have this : DataW.trod enc Tryz.prog F.W 0 (fun _ => true) true n 3 (List.take (Tryz.prog.cellsOf 3) (List.drop 4 [x0, x1, x2, x3, x4, x5, x6, x7, x8, x9, x10, x11, x12, x13, x14, x15])) = xs[4]? := hx 4 _ rfl; rw [c3] at this; exact this.trans (List.getElem?_eq_getElem (by omega))⟩
    obtain ⟨y5, h5⟩ : ∃ y, DataW.trod enc Tryz.prog F.W 0 (fun _ => true) true n 3 [x5] = some y := ⟨xs[5], by have this : DataW.trod enc Tryz.prog F.W 0 (fun _ => true) true n 3 (List.take (Tryz.prog.cellsOf 3) (List.drop 5 [x0, x1, x2, x3, x4, x5, x6, x7, x8, x9, x10, x11, x12, x13, x14, x15])) = xs[5]? := hx 5 _ rfl; rw [c3] at this; exact this.trans (List.getElem?_eq_getElem (by omega))⟩
    obtain ⟨y6, h6⟩ : ∃ y, DataW.trod enc Tryz.prog F.W 0 (fun _ => true) true n 50 [x6] = some y := ⟨xs[6], by have this : DataW.trod enc Tryz.prog F.W 0 (fun _ => true) true n 50 (List.take (Tryz.prog.cellsOf 50) (List.drop 6 [x0, x1, x2, x3, x4, x5, x6, x7, x8, x9, x10, x11, x12, x13, x14, x15])) = xs[6]? := hx 6 _ rfl; rw [c50] at this; exact this.trans (List.getElem?_eq_getElem (by omega))⟩
    obtain ⟨y7, h7⟩ : ∃ y, DataW.trod enc Tryz.prog F.W 0 (fun _ => true) true n 50 [x7] = some y := ⟨xs[7], by have this : DataW.trod enc Tryz.prog F.W 0 (fun _ => true) true n 50 (List.take (Tryz.prog.cellsOf 50) (List.drop 7 [x0, x1, x2, x3, x4, x5, x6, x7, x8, x9, x10, x11, x12, x13, x14, x15])) = xs[7]? := hx 7 _ rfl; rw [c50] at this; exact this.trans (List.getElem?_eq_getElem (by omega))⟩
    obtain ⟨y8, h8⟩ : ∃ y, DataW.trod enc Tryz.prog F.W 0 (fun _ => true) true n 50 [x8] = some y := ⟨xs[8], by have this : DataW.trod enc Tryz.prog F.W 0 (fun _ => true) true n 50 (List.take (Tryz.prog.cellsOf 50) (List.drop 8 [x0, x1, x2, x3, x4, x5, x6, x7, x8, x9, x10, x11, x12, x13, x14, x15])) = xs[8]? := hx 8 _ rfl; rw [c50] at this; exact this.trans (List.getElem?_eq_getElem (by omega))⟩
    obtain ⟨y9, h9⟩ : ∃ y, DataW.trod enc Tryz.prog F.W 0 (fun _ => true) true n 53 [x9, x10, x11, x12, x13] = some y := ⟨xs[9], by have this : DataW.trod enc Tryz.prog F.W 0 (fun _ => true) true n 53 (List.take (Tryz.prog.cellsOf 53) (List.drop 9 [x0, x1, x2, x3, x4, x5, x6, x7, x8, x9, x10, x11, x12, x13, x14, x15])) = xs[9]? := hx 9 _ rfl; rw [c53] at this; exact this.trans (List.getElem?_eq_getElem (by omega))⟩
    obtain ⟨y10, h10⟩ : ∃ y, DataW.trod enc Tryz.prog F.W 0 (fun _ => true) true n 9 [x14] = some y := ⟨xs[10], by have this : DataW.trod enc Tryz.prog F.W 0 (fun _ => true) true n 9 (List.take (Tryz.prog.cellsOf 9) (List.drop 14 [x0, x1, x2, x3, x4, x5, x6, x7, x8, x9, x10, x11, x12, x13, x14, x15])) = xs[10]? := hx 10 _ rfl; rw [c9] at this; exact this.trans (List.getElem?_eq_getElem (by omega))⟩
    obtain ⟨y11, h11⟩ : ∃ y, DataW.trod enc Tryz.prog F.W 0 (fun _ => true) true n 9 [x15] = some y := ⟨xs[11], by have this : DataW.trod enc Tryz.prog F.W 0 (fun _ => true) true n 9 (List.take (Tryz.prog.cellsOf 9) (List.drop 15 [x0, x1, x2, x3, x4, x5, x6, x7, x8, x9, x10, x11, x12, x13, x14, x15])) = xs[11]? := hx 11 _ rfl; rw [c9] at this; exact this.trans (List.getElem?_eq_getElem (by omega))⟩
    obtain ⟨zs, m, rfl, _, _, hzl, hz⟩ := DataW.trod_struct Tryz.underlying53 h9
    have hsz2 : zs.length = 5 := hzl
    obtain ⟨q0, g0⟩ : ∃ y, DataW.trod enc Tryz.prog F.W 0 (fun _ => true) true m 9 [x9] = some y := ⟨zs[0], by have this : DataW.trod enc Tryz.prog F.W 0 (fun _ => true) true m 9 (List.take (Tryz.prog.cellsOf 9) (List.drop 0 [x9, x10, x11, x12, x13])) = zs[0]? := hz 0 _ rfl; rw [c9] at this; exact this.trans (List.getElem?_eq_getElem (by omega))⟩
    obtain ⟨q1, g1⟩ : ∃ y, DataW.trod enc Tryz.prog F.W 0 (fun _ => true) true m 3 [x10] = some y := ⟨zs[1], by have this : DataW.trod enc Tryz.prog F.W 0 (fun _ => true) true m 3 (List.take (Tryz.prog.cellsOf 3) (List.drop 1 [x9, x10, x11, x12, x13])) = zs[1]? := hz 1 _ rfl; rw [c3] at this; exact this.trans (List.getElem?_eq_getElem (by omega))⟩
    obtain ⟨q2, g2⟩ : ∃ y, DataW.trod enc Tryz.prog F.W 0 (fun _ => true) true m 4 [x11] = some y := ⟨zs[2], by have this : DataW.trod enc Tryz.prog F.W 0 (fun _ => true) true m 4 (List.take (Tryz.prog.cellsOf 4) (List.drop 2 [x9, x10, x11, x12, x13])) = zs[2]? := hz 2 _ rfl; rw [c4] at this; exact this.trans (List.getElem?_eq_getElem (by omega))⟩
    obtain ⟨q3, g3⟩ : ∃ y, DataW.trod enc Tryz.prog F.W 0 (fun _ => true) true m 51 [x12] = some y := ⟨zs[3], by have this : DataW.trod enc Tryz.prog F.W 0 (fun _ => true) true m 51 (List.take (Tryz.prog.cellsOf 51) (List.drop 3 [x9, x10, x11, x12, x13])) = zs[3]? := hz 3 _ rfl; rw [c51] at this; exact this.trans (List.getElem?_eq_getElem (by omega))⟩
    obtain ⟨q4, g4⟩ : ∃ y, DataW.trod enc Tryz.prog F.W 0 (fun _ => true) true m 50 [x13] = some y := ⟨zs[4], by have this : DataW.trod enc Tryz.prog F.W 0 (fun _ => true) true m 50 (List.take (Tryz.prog.cellsOf 50) (List.drop 4 [x9, x10, x11, x12, x13])) = zs[4]? := hz 4 _ rfl; rw [c50] at this; exact this.trans (List.getElem?_eq_getElem (by omega))⟩
    obtain ⟨a0, e0⟩ := int_in Tryz.underlying49 h0
    obtain ⟨a1, e1⟩ := str_in Tryz.underlying9 h1
    obtain ⟨a2, e2⟩ := str_in Tryz.underlying9 h2
    have s3 : F.sh 0 (i * 16 + 3) = some (1, 1) := by rw [hF]; show (if (i * 16 + 3) % 16 = 3 then _ else _) = _; rw [if_pos (by omega)]
    have s12 : F.sh 0 (i * 16 + 12) = some (2, 1) := by rw [hF]; show (if (i * 16 + 12) % 16 = 3 then _ else _) = _; rw [if_neg (by omega), if_pos (by omega)]
    obtain ⟨a3, len, e3, hO⟩ := strs_in h3 s3 hT (b * F.B + (o + (i * 16 + 3))) 40
    obtain ⟨a4, e4⟩ := int_in Tryz.underlying3 h4
    obtain ⟨a5, e5⟩ := int_in Tryz.underlying3 h5
    obtain ⟨a6, e6⟩ := float_in Tryz.underlying50 h6
    obtain ⟨a7, e7⟩ := float_in Tryz.underlying50 h7
    obtain ⟨a8, e8⟩ := float_in Tryz.underlying50 h8
    obtain ⟨a9, e9⟩ := str_in Tryz.underlying9 g0
    obtain ⟨a10, e10⟩ := int_in Tryz.underlying3 g1
    obtain ⟨a11, e11⟩ := bool_in Tryz.underlying4 g2
    obtain ⟨a12, dlen, e12, hL⟩ := ints_in g3 s12 hT (b * F.B + (o + (i * 16 + 12)))
    obtain ⟨a13, e13⟩ := float_in Tryz.underlying50 g4
    obtain ⟨a14, e14⟩ := str_in Tryz.underlying9 h10
    obtain ⟨a15, e15⟩ := str_in Tryz.underlying9 h11
    refine ⟨[a0, .str a1, .str a2, a3, a4, a5, a6, a7, a8, .str a9, a10, a11, a12, a13, .str a14, .str a15], roN_of (l := [a0, .str a1, .str a2, a3, a4, a5, a6, a7, a8, .str a9, a10, a11, a12, a13, .str a14, .str a15]) fun j hj => ?_, a0, a3, a4, a5, a6, a7, a8, a10, a11, a12, a13, a1, a2, a9, a14, a15, len, dlen, rfl, hO, hL⟩
    have hj : j < 16 := hj
    have cell : ∀ {v : Value} {a : SV}, [x0, x1, x2, x3, x4, x5, x6, x7, x8, x9, x10, x11, x12, x13, x14, x15][j]? = some v → F.conv (b * F.B + (o + (i * 16 + j))) 0 (i * 16 + j) v = some a → F.cellAt (F.enc b o 0) (i * 16 + j) = some a := fun {v a} hv ha =>
      F.cellAt_enc ho (by omega) ((hc j hj).trans hv) ha
    match j, hj with
    | 0, _ => exact cell rfl (e0 _ _ _)
    | 1, _ => exact cell rfl (e1 _ _ _)
    | 2, _ => exact cell rfl (e2 _ _ _)
    | 3, _ => exact cell rfl e3
    | 4, _ => exact cell rfl (e4 _ _ _)
    | 5, _ => exact cell rfl (e5 _ _ _)
    | 6, _ => exact cell rfl (e6 _ _ _)
    | 7, _ => exact cell rfl (e7 _ _ _)
    | 8, _ => exact cell rfl (e8 _ _ _)
    | 9, _ => exact cell rfl (e9 _ _ _)
    | 10, _ => exact cell rfl (e10 _ _ _)
    | 11, _ => exact cell rfl (e11 _ _ _)
    | 12, _ => exact cell rfl e12
    | 13, _ => exact cell rfl (e13 _ _ _)
    | 14, _ => exact cell rfl (e14 _ _ _)
    | 15, _ => exact cell rfl (e15 _ _ _)
    | k + 16, hk => exact absurd hk (by omega)

/-- Fields. -/
theorem flds_in (hF : F.sh = shY) (hT : F.T = 4) {v : Value} {x : DataW H × List MemPlace} (h : DataW.trod enc Tryz.prog F.W 0 (fun _ => true) true fuel 22 [v] = some x) (k : Nat) :
    ∃ a len, F.conv k 3 1 v = some a ∧ Flds F.st a len 12 := by
  rcases slice_in Tryz.underlying22 c55 (by omega) h (e0 := 3) (i0 := 1) (e' := 0) (by rw [hF]; rfl) (by omega) k with ⟨a, h1, h2, _⟩ | ⟨b, o, len, cap, n, rfl, h1, hlc, h2, h3, ho, h4⟩
  · exact ⟨a, 0, h1, .inl ⟨h2, rfl⟩⟩
  · refine ⟨_, len, h1, .inr ⟨_, 0, cap, _, rfl, hlc, h2, h3, fun i hi _ => ?_⟩⟩
    obtain ⟨cells, y, hl, hc, hy⟩ := h4 i hi
    rw [Nat.zero_add]
    exact field_in hF hT hl hy ho hc

/-- A form's cells. -/
theorem desc_in (hF : F.sh = shY) (hT : F.T = 4) {x0 x1 x2 x3 : Value} {y : DataW H × List MemPlace} (h : DataW.trod enc Tryz.prog F.W 0 (fun _ => true) true fuel 25 [x0, x1, x2, x3] = some y) (k0 k1 k2 k3 : Nat) :
    ∃ a0 a1 a2 a3 len rlen, F.conv k0 3 0 x0 = some (.str a0) ∧ F.conv k1 3 1 x1 = some a1 ∧ F.conv k2 3 2 x2 = some a2 ∧ F.conv k3 3 3 x3 = some a3 ∧ Flds F.st a1 len 12 ∧ Strs F.st a2 rlen 18 := by
  obtain ⟨xs, n, rfl, _, _, hxl, hx⟩ := DataW.trod_struct Tryz.underlying25 h
  have hsz : xs.length = 4 := hxl
  obtain ⟨y0, h0⟩ : ∃ y, DataW.trod enc Tryz.prog F.W 0 (fun _ => true) true n 9 [x0] = some y := ⟨xs[0], by have this : DataW.trod enc Tryz.prog F.W 0 (fun _ => true) true n 9 (List.take (Tryz.prog.cellsOf 9) (List.drop 0 [x0, x1, x2, x3])) = xs[0]? := hx 0 _ rfl; rw [c9] at this; exact this.trans (List.getElem?_eq_getElem (by omega))⟩
  obtain ⟨y1, h1⟩ : ∃ y, DataW.trod enc Tryz.prog F.W 0 (fun _ => true) true n 22 [x1] = some y := ⟨xs[1], by have this : DataW.trod enc Tryz.prog F.W 0 (fun _ => true) true n 22 (List.take (Tryz.prog.cellsOf 22) (List.drop 1 [x0, x1, x2, x3])) = xs[1]? := hx 1 _ rfl; rw [c22] at this; exact this.trans (List.getElem?_eq_getElem (by omega))⟩
  obtain ⟨y2, h2⟩ : ∃ y, DataW.trod enc Tryz.prog F.W 0 (fun _ => true) true n 23 [x2] = some y := ⟨xs[2], by have this : DataW.trod enc Tryz.prog F.W 0 (fun _ => true) true n 23 (List.take (Tryz.prog.cellsOf 23) (List.drop 2 [x0, x1, x2, x3])) = xs[2]? := hx 2 _ rfl; rw [c23] at this; exact this.trans (List.getElem?_eq_getElem (by omega))⟩
  obtain ⟨y3, h3⟩ : ∃ y, DataW.trod enc Tryz.prog F.W 0 (fun _ => true) true n 3 [x3] = some y := ⟨xs[3], by have this : DataW.trod enc Tryz.prog F.W 0 (fun _ => true) true n 3 (List.take (Tryz.prog.cellsOf 3) (List.drop 3 [x0, x1, x2, x3])) = xs[3]? := hx 3 _ rfl; rw [c3] at this; exact this.trans (List.getElem?_eq_getElem (by omega))⟩
  obtain ⟨a0, e0⟩ := str_in Tryz.underlying9 h0
  obtain ⟨a1, len, e1, hA⟩ := flds_in hF hT h1 k1
  obtain ⟨a2, rlen, e2, hB⟩ := strs_in h2 (e0 := 3) (i0 := 2) (by rw [hF]; rfl) hT k2 18
  obtain ⟨a3, e3⟩ := int_in Tryz.underlying3 h3
  exact ⟨a0, a1, a2, a3, len, rlen, e0 _ _ _, e1, e2, e3 _ _ _, hA, hB⟩

end
end Go.Proofs.YtdgccipcandojaaGreat

