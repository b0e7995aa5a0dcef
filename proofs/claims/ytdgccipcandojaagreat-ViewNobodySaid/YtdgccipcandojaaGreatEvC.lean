/- The operations that read. -/
import Derived.Test.YtdgccipcandojaaGreatEvB
import Derived.Lib.Builder
import Derived.Laws.LoneSync
import Derived.Laws.BytesString
import Derived.Great.BuildSlice
import Derived.Laws.MakeOwn
import Derived.Laws.IdiomStrings
import Derived.Deep.AppendSrc
import Derived.Room.Entries
import Derived.Deep.Upon
import Derived.WideMake
namespace Go.Ev
open Go.RowKit

section
variable {C : Ctx} {O : Nat → Value} {R : Rho} {f : Fr} {fr : Frame} {N : Nat} {s : St} {w : World}

theorem eachR_ex {α β : Type} {f : α → Option β} : ∀ {l : List α}, (∀ (i : Nat) (a : α), l[i]? = some a → ∃ b, f a = some b) → ∃ bs, eachR f l = some bs
  | [], _ => ⟨[], rfl⟩
  | a :: l, h => by
    obtain ⟨b, hb⟩ := h 0 a rfl
    obtain ⟨bs, hbs⟩ := eachR_ex (l := l) (fun i a hi => h (i + 1) a (by simpa using hi))
    exact ⟨b :: bs, eachR_cons_of hb hbs⟩

/-- Cells that the state knows of, where they lie. -/
theorem cells_at (hr : Rel O N R s w) {id n : Nat} {c : Ct SV} {sz : Nat} {ex : Bool} {fz et : Nat} (hb : s.h.get id = some (.cells n c sz ex fz et)) {m : M} (hm : R id = some m) :
    ∃ cs fz', w.heap[m.blk]? = some (.cells cs et fz') ∧ CellsOk O R m n c sz ex fz cs fz' := (hr.live _ _ _ hb trivial hm).2.2

theorem cell_of {cs : Array Value} {b et : Nat} {fz : Nat × Nat} (h : w.heap[b]? = some (.cells cs et fz)) (i : Nat) : w.cell? ⟨b, i, none⟩ = cs[i]? := by
  simp [World.cell?, h]

theorem roN_eq {c : Nat → Option SV} : ∀ {n off : Nat} {l : List SV}, roN c n off = some l → l.length = n ∧ ∀ i, i < n → c (off + i) = l[i]?
  | 0, off, l, h => by cases h; exact ⟨rfl, fun i hi => by omega⟩
  | n + 1, off, l, h => by
    have h : (c off).bind (fun v => (roN c n (off + 1)).bind fun l => some (v :: l)) = some l := h
    obtain ⟨v, hv, h⟩ := Option.bind_eq_some_iff.1 h
    obtain ⟨r, hr, h⟩ := Option.bind_eq_some_iff.1 h
    cases h
    obtain ⟨h1, h2⟩ := roN_eq hr
    refine ⟨by simp [h1], fun i hi => ?_⟩
    cases i with
    | zero => simpa using hv
    | succ i => rw [show off + (i + 1) = off + 1 + i by omega, h2 i (by omega)]; simp

theorem loadN_ok (hr : Rel O N R s w) {id off n : Nat} {l : List SV} (h : s.loadN id off n = some l) {m : M} (hm : R id = some m) :
    l.length = n ∧ ∃ vs, eachR (SV.emb O R) l = some vs ∧ vs.length = n ∧ w.rangeAt m.blk (m.base + off) vs := by
  unfold St.loadN at h
  split at h
  · rename_i k c sz ex fz et hb
    obtain ⟨cs, fz', h1, h2⟩ := cells_at hr hb hm
    obtain ⟨g1, g2, g3⟩ := Ct.getL_eq h
    refine ⟨g1, ?_⟩
    have key : ∀ (i : Nat) (a : SV), l[i]? = some a → ∃ V, a.emb O R = some V ∧ cs[m.base + (off + i)]? = some V := fun i a hi => by
      have hlt : i < n := by rw [← g1]; exact (List.getElem?_eq_some_iff.1 hi).1
      exact h2.cell _ _ (by have := g2 (by omega); omega) (by rw [g3 i hlt]; exact hi)
    obtain ⟨vs, hvs⟩ := eachR_ex (f := SV.emb O R) (l := l) (fun i a hi => let ⟨V, h, _⟩ := key i a hi; ⟨V, h⟩)
    refine ⟨vs, hvs, by rw [eachR_length hvs, g1], fun j v hj => ?_⟩
    obtain ⟨a, ha, hv⟩ := eachR_get' hvs j v hj
    obtain ⟨V, k1, k2⟩ := key j a ha
    rw [hv] at k1; cases k1
    rw [cell_of h1, Nat.add_assoc]
    exact k2
  · rename_i c hb
    obtain ⟨_, cs, et, fz', h1, h2⟩ := hr.ro _ _ _ hb hm
    obtain ⟨g1, g3⟩ := roN_eq h
    refine ⟨g1, ?_⟩
    have key : ∀ (i : Nat) (a : SV), l[i]? = some a → ∃ V, a.emb O R = some V ∧ cs[m.base + (off + i)]? = some V := fun i a hi => h2 _ _ (by rw [g3 i (by rw [← g1]; exact (List.getElem?_eq_some_iff.1 hi).1)]; exact hi)
    obtain ⟨vs, hvs⟩ := eachR_ex (f := SV.emb O R) (l := l) (fun i a hi => let ⟨V, h, _⟩ := key i a hi; ⟨V, h⟩)
    refine ⟨vs, hvs, by rw [eachR_length hvs, g1], fun j v hj => ?_⟩
    obtain ⟨a, ha, hv⟩ := eachR_get' hvs j v hj
    obtain ⟨V, k1, k2⟩ := key j a ha
    rw [hv] at k1; cases k1
    rw [cell_of h1, Nat.add_assoc]
    exact k2
  · cases h

theorem load1_ok (hr : Rel O N R s w) {id off : Nat} {a : SV} (h : s.load1 id off = some a) {m : M} (hm : R id = some m) :
    ∃ V, a.emb O R = some V ∧ w.cell? ⟨m.blk, m.base + off, none⟩ = some V := by
  unfold St.load1 at h
  split at h
  · rename_i k c sz ex fz et hb
    obtain ⟨cs, fz', h1, h2⟩ := cells_at hr hb hm
    (obtain ⟨g, hh⟩ := cond_some h; clear h; have h := hh; clear hh)
    obtain ⟨V, k1, k2⟩ := h2.cell _ _ (blt_iff.1 g) h
    exact ⟨V, k1, by rw [cell_of h1]; exact k2⟩
  · rename_i c hb
    obtain ⟨_, cs, et, fz', h1, h2⟩ := hr.ro _ _ _ hb hm
    obtain ⟨V, k1, k2⟩ := h2 _ _ h
    exact ⟨V, k1, by rw [cell_of h1]; exact k2⟩
  · cases h

theorem range_load {b o : Nat} {vs : List Value} (h : w.rangeAt b o vs) : (loadCells ⟨b, o, none⟩ vs.length).run C.P w = .ok vs.toArray w :=
  run_loadCells_list w ⟨b, o, none⟩ vs (fun j v hv => by rw [Addr.add_mid]; exact h j v hv)

theorem lLoad_ok (hC : C.Ok) (hr : Rel O N R s w) (ht : TmpsOk O R f.t fr.tmps) {t : Nat} {a : Operand} {v : TV} (h : lLoad C f s t a = some v) :
    ∃ V, v.emb O R = some V ∧ (Instr.loadAt t (fr.eval a)).run C.P w = .ok V w := by
  unfold lLoad at h
  split at h
  · rename_i id off ha
    obtain ⟨m, hm, ea⟩ := ptr_emb (evS_ok ht ha)
    (obtain ⟨g, hg, hh⟩ := bind_some h; clear h; have h := hh; clear hh)
    rw [ea]
    cases g with
    | true =>
      simp only [cond_true] at h
      (obtain ⟨n, hn, hh⟩ := bind_some h; clear h; have h := hh; clear hh)
      (obtain ⟨l, hl, hh⟩ := bind_some h; clear h; have h := hh; clear hh)
      cases h
      obtain ⟨g1, vs, g2, g3, g4⟩ := loadN_ok hr hl hm
      refine ⟨.agg vs.toArray, by simp [TV.emb, AV.emb, g2], ?_⟩
      have := range_load (C := C) g4
      rw [g3] at this
      simp [Instr.loadAt, Instr.sureAddr, loadVar, hC.agg hg, hC.sizeOf hn, this]
    | false =>
      simp only [cond_false] at h
      (obtain ⟨x, hx, hh⟩ := bind_some h; clear h; have h := hh; clear hh)
      cases h
      obtain ⟨V, g1, g2⟩ := load1_ok hr hx hm
      refine ⟨V, g1, ?_⟩
      simp [Instr.loadAt, Instr.sureAddr, loadVar, hC.agg hg, g2]
  · cases h

theorem beq_false {a b : Nat} (h : Nat.beq a b = false) : a ≠ b := fun e => by rw [beq_iff.2 e] at h; cases h

/-- A known capacity. -/
theorem capK_ok (hr : Rel O N R s w) {id sz eo len c k : Nat} {cp : Option Nat} (h : capK s id sz eo cp = some k) {m : M} (hm : R id = some m) (hz : 0 < sz)
    (h1 : ∀ k, cp = some k → c = k) (h2 : cp = none → c = m.cap - eo ∧ eo + len ≤ m.cap) : c = k := by
  unfold capK at h
  split at h
  · cases h; exact h1 _ rfl
  · split at h
    · rename_i n c' sz' ex fz et hb
      (obtain ⟨hex, hh⟩ := cond_some h; clear h; have h := hh; clear hh)
      simp only [Bool.and_eq_true, beq_iff] at hex
      obtain ⟨rfl, hex⟩ := hex
      cases h
      obtain ⟨cs, fz', _, k2⟩ := cells_at hr hb hm
      obtain ⟨_, _, e⟩ := k2.exact hex
      rw [(h2 rfl).1, ← e, Nat.mul_div_cancel _ hz]
    · cases h

/-- A bound below it. -/
theorem capLow_ok (hr : Rel O N R s w) {id sz eo len c k : Nat} {cp : Option Nat} (h : capLow s id sz eo cp = some k) {m : M} (hm : R id = some m)
    (h1 : ∀ k, cp = some k → c = k) (h2 : cp = none → c = m.cap - eo ∧ eo + len ≤ m.cap) : k ≤ c := by
  unfold capLow at h
  split at h
  · cases h; have := h1 _ rfl; omega
  · split at h
    · rename_i n c' sz' ex fz et hb
      (obtain ⟨hex, hh⟩ := cond_some h; clear h; have h := hh; clear hh)
      have hex := beq_iff.1 hex
      subst hex
      cases h
      obtain ⟨cs, fz', _, k2⟩ := cells_at hr hb hm
      have h3 := k2.fits
      have h4 : n / sz' ≤ m.cap := Nat.div_le_of_le_mul (by rw [Nat.mul_comm]; exact h3)
      have := (h2 rfl).1
      omega
    · cases h

theorem sliceL_ok (hC : C.Ok) (hr : Rel O N R s w) (ht : TmpsOk O R f.t fr.tmps) {t e n : Nat} (hu : C.und t = some (.slice e)) (hn : C.size e = some n) {lo hi : Option Operand} {l h : Option Nat}
    (e1 : natOfO f lo = some l) (e2 : natOfO f hi = some h) {x r : SV} (hs : sliceL s x n l h = some r) {X : Value} (hx : x.emb O R = some X) :
    ∃ V, r.emb O R = some V ∧ (Instr.sliceAt t X (lo.map fr.eval) (hi.map fr.eval) none).run C.P w = .ok V w := by
  have gen : ∀ (a : Option Addr) (len cap : Nat), h.getD len ≤ (if h.isSome then cap else len) → l.getD 0 ≤ h.getD len →
      (Instr.sliceAt t (.slice a len cap) (lo.map fr.eval) (hi.map fr.eval) none).run C.P w = .ok (.slice (if cap = l.getD 0 then a else a.map (·.add (l.getD 0 * n))) (h.getD len - l.getD 0) (cap - l.getD 0)) w := by
    intro a len cap g1 g2
    have hb := sliceBounds_ok (C := C) ht e1 e2 (mx := none) (m := none) rfl true len cap (fun _ h => by cases h) g1 g2 (fun h => by cases h) w
    simp only [Option.map_none, Option.getD_none] at hb
    simp only [Instr.sliceAt, Sem.run_bind, run_underlying (hC.und hu), Result.andThen_ok, Instr.slice, hb, hC.sizeOf hn, Sem.run_pure]
  unfold sliceL at hs
  split at hs
  · (obtain ⟨g, hh⟩ := cond_some hs; clear hs; have hs := hh; clear hh)
    simp only [Bool.and_eq_true, ble_iff] at g
    cases hs; cases hx
    refine ⟨_, rfl, ?_⟩
    rw [gen _ 0 0 (by split <;> omega) (by omega)]
    have g1 : h.getD 0 = 0 := by omega
    have g2 : l.getD 0 = 0 := by omega
    simp [g1, g2]
  · rename_i id sz eo0 eo
    (obtain ⟨g, hh⟩ := cond_some hs; clear hs; have hs := hh; clear hh)
    simp only [Bool.and_eq_true, ble_iff] at g
    cases hs
    obtain ⟨m, hm, rfl⟩ := rest_emb hx
    refine ⟨_, hx, ?_⟩
    rw [gen _ 0 _ (by split <;> omega) (by omega)]
    have g1 : h.getD 0 = 0 := by omega
    have g2 : l.getD 0 = 0 := by omega
    simp [g1, g2, Addr.add]
  · rename_i k
    (obtain ⟨g, hh⟩ := cond_some hs; clear hs; have hs := hh; clear hh)
    simp only [Bool.and_eq_true, ble_iff] at g
    cases hs
    have hx' := hx
    simp only [SV.emb] at hx'
    split at hx'
    · cases hx'
      refine ⟨_, hx, ?_⟩
      rw [gen _ 0 0 (by split <;> omega) (by omega)]
      have g1 : h.getD 0 = 0 := by omega
      have g2 : l.getD 0 = 0 := by omega
      simp [g1, g2]
    · cases hx'
  · rename_i id sz eo len cp
    (obtain ⟨g, hh⟩ := cond_some hs; clear hs; have hs := hh; clear hh)
    simp only [Bool.and_eq_true, beq_iff, Bool.not_eq_true'] at g
    obtain ⟨rfl, g0⟩ := g
    have hz : 0 < sz := Nat.pos_of_ne_zero (beq_false g0)
    (obtain ⟨low, hlow, hh⟩ := bind_some hs; clear hs; have hs := hh; clear hh)
    (obtain ⟨g, hh⟩ := cond_some hs; clear hs; have hs := hh; clear hh)
    simp only [Bool.and_eq_true, ble_iff] at g
    obtain ⟨g1, g2⟩ := g
    obtain ⟨m, c, hm, rfl, k1, k2⟩ := slice_emb hx
    have hl := capLow_ok hr hlow hm k1 k2
    rw [gen _ len c (by split <;> rename_i q <;> first | omega | (cases h with
      | none => simp
      | some _ => simp at q)) g2]
    split at hs
    · rename_i k hk
      have hc := capK_ok hr hk hm hz k1 k2
      subst hc
      cases hs
      have hs := slice_emb_of (O := O) (id := id) (sz := sz) (eo := cond ((l.getD 0).beq c) eo (eo + l.getD 0)) (len := h.getD len - l.getD 0) (cp := some (c - l.getD 0)) (m := m) (c := c - l.getD 0) hm
        (fun k hk => Option.some.inj hk) (fun e => by cases e)
      refine ⟨_, hs, ?_⟩
      congr 2
      by_cases q : c = l.getD 0
      · rw [if_pos q, beq_iff.2 q.symm, cond_true]
      · have q' : Nat.beq (l.getD 0) c = false := by
          cases e : Nat.beq (l.getD 0) c with
          | false => rfl
          | true => exact absurd (beq_iff.1 e).symm q
        rw [if_neg q, q', cond_false, Option.map_some, Addr.add_eq, Nat.add_mul, Nat.add_assoc]
    · rename_i hk
      have hcp : cp = none := by
        cases cp with
        | none => rfl
        | some _ => simp [capK] at hk
      obtain ⟨k3, k4⟩ := k2 hcp
      cases q : Nat.blt (l.getD 0) low with
      | true =>
        rw [q, cond_true] at hs
        cases hs
        have q := blt_iff.1 q
        have hs := slice_emb_of (O := O) (id := id) (sz := sz) (eo := eo + l.getD 0) (len := h.getD len - l.getD 0) (cp := none) (m := m) (c := c - l.getD 0) hm
          (fun k hk => by cases hk) (fun _ => ⟨by omega, by omega⟩)
        refine ⟨_, hs, ?_⟩
        rw [if_neg (by omega), Option.map_some, Addr.add_eq, Nat.add_mul, Nat.add_assoc]
      | false =>
        rw [q, cond_false] at hs
        cases hs
        have q : ¬ l.getD 0 < low := fun e => by rw [blt_iff.2 e] at q; cases q
        refine ⟨_, by simp only [SV.emb, hm, Option.map_some]; rfl, ?_⟩
        have e1 : h.getD len - l.getD 0 = 0 := by omega
        have e2 : c - l.getD 0 = m.cap - (eo + l.getD 0) := by omega
        rw [e1, e2]
        congr 2
        by_cases q2 : c = l.getD 0
        · rw [if_pos q2, if_pos (by omega)]
        · rw [if_neg q2, if_neg (by omega), Option.map_some, Addr.add_eq, Nat.add_mul, Nat.add_assoc]
  · cases hs

end
end Go.Ev

/- One operation that reads, whichever. -/
namespace Go.Ev
open Go.RowKit

section
variable {C : Ctx} {O : Nat → Value} {R : Rho} {f : Fr} {fr : Frame} {N : Nat} {s : St} {w : World}

theorem bytes_emb : ∀ {l : List SV} {b : List UInt8} {vs : List Value}, bytesOfS l = some b → eachR (SV.emb O R) l = some vs → ∃ ns : List Int, vs = ns.map (Value.int .u8) ∧ b = ns.map fun n => UInt8.ofNat n.toNat
  | [], b, vs, h, k => by cases h; cases k; exact ⟨[], rfl, rfl⟩
  | x :: l, b, vs, h, k => by
    obtain ⟨c, r, h1, h2, rfl⟩ := eachR_cons_some h
    obtain ⟨V, q, k1, k2, rfl⟩ := eachR_cons_some k
    obtain ⟨ns, rfl, rfl⟩ := bytes_emb h2 k2
    unfold SV.byte? at h1
    split at h1
    · rename_i n
      cases h1; cases k1
      exact ⟨n :: ns, rfl, rfl⟩
    · cases h1

theorem foldl_push (ns : List Int) : ∀ r : ByteArray, ns.foldl (fun r n => r.push (UInt8.ofNat n.toNat)) r = ⟨r.data ++ (ns.map fun n => UInt8.ofNat n.toNat).toArray⟩ := by
  induction ns with
  | nil => intro r; simp
  | cons n ns ih => intro r; rw [List.foldl_cons, ih]; simp [ByteArray.push]

theorem lConv_ok (hC : C.Ok) (hr : Rel O N R s w) {src dst : Nat} {x r : SV} (h : convL C s src dst x = some r) {X : Value} (hx : x.emb O R = some X) :
    ∃ V, r.emb O R = some V ∧ (convert src dst X).run C.P w = .ok V w := by
  unfold convL at h
  split at h
  · rename_i e hs hd
    split at h
    · rename_i he
      split at h
      · cases h; cases hx
        exact ⟨_, rfl, by rw [run_convert_bytes_string w src dst e _ _ _ (hC.und hs) (hC.und he) (hC.und hd)]; rfl⟩
      · cases h
        obtain ⟨m, hm, rfl⟩ := rest_emb hx
        refine ⟨_, rfl, ?_⟩
        rw [run_convert_bytes_string w src dst e _ _ _ (hC.und hs) (hC.und he) (hC.und hd), run_bytesToString w _ 0 _ [] (by simp [loadCells, loadCellsFrom])]
        rfl
      · rename_i id z eo len cp
        (obtain ⟨g, hh⟩ := cond_some h; clear h; have h := hh; clear hh)
        have g := beq_iff.1 g
        subst g
        (obtain ⟨l, hl, hh⟩ := bind_some h; clear h; have h := hh; clear hh)
        (obtain ⟨b, hb, hh⟩ := bind_some h; clear h; have h := hh; clear hh)
        cases h
        obtain ⟨m, c, hm, rfl, _, _⟩ := slice_emb hx
        obtain ⟨g1, vs, g2, g3, g4⟩ := loadN_ok hr hl hm
        obtain ⟨ns, rfl, rfl⟩ := bytes_emb hb g2
        refine ⟨_, rfl, ?_⟩
        have hl := range_load (C := C) g4
        rw [g3] at hl
        rw [run_convert_bytes_string w src dst e _ _ _ (hC.und hs) (hC.und he) (hC.und hd), Nat.mul_one, run_bytesToString w _ len _ ns hl, foldl_push]
        congr 3
        simp
      · cases h
    · cases h
  · rename_i t hs hd
    split at h
    · (obtain ⟨n, hn, hh⟩ := bind_some h; clear h; have h := hh; clear hh)
      cases h; cases hx
      exact ⟨_, rfl, by simp [convert, run_underlying (hC.und hs), run_underlying (hC.und hd), Conv.unsafePointer]⟩
    · rename_i i o
      (obtain ⟨n, hn, hh⟩ := bind_some h; clear h; have h := hh; clear hh)
      (obtain ⟨g, hh⟩ := cond_none h; clear h; have h := hh; clear hh)
      (obtain ⟨v, hv, hh⟩ := bind_some h; clear h; have h := hh; clear hh)
      cases h
      obtain ⟨m, hm, rfl⟩ := ptr_emb hx
      obtain ⟨V, g1, g2⟩ := load1_ok hr hv hm
      obtain ⟨j, hj, e⟩ := hC.size hn
      exact ⟨_, hx, run_convert_to_unsafe (hC.und hs) (hC.und hd) (by simp [hj, e]; exact beq_false g) g2⟩
    · cases h
  · rename_i u hs hd
    split at h
    · cases h; cases hx
      exact ⟨_, rfl, by simp [convert, run_underlying (hC.und hs), run_underlying (hC.und hd), Conv.unsafePointer]⟩
    · rename_i i o
      split at h
      · rename_i n c' sz fz e hb
        (obtain ⟨z, hz, hh⟩ := bind_some h; clear h; have h := hh; clear hh)
        (obtain ⟨g, hh⟩ := cond_none h; clear h; have h := hh; clear hh)
        (obtain ⟨g2, hh⟩ := cond_some h; clear h; have h := hh; clear hh)
        cases h
        obtain ⟨m, hm, rfl⟩ := ptr_emb hx
        obtain ⟨cs, fz', h1, h2⟩ := cells_at hr hb hm
        obtain ⟨q1, q2, q3⟩ := h2.exact rfl
        obtain ⟨j, hj, _⟩ := hC.size hz
        refine ⟨_, hx, Lib.run_from_unsafe w ⟨m.blk, m.base + o, none⟩ (hC.und hs) (hC.und hd) hj (e := e) (cells := n) (by simp [World.shape?, h1, q2]) ?_⟩
        rw [q1, Nat.zero_add]
        exact g2
      · cases h
    · cases h
  · cases h

theorem callL_ok (hC : C.Ok) {b : Builtin} {ts : Array Nat} {l : List SV} {r : SV} (h : callL C s b ts.toList l = some r) {vs : Array Value} (hv : eachR (SV.emb O R) l = some vs.toList) (ty : Nat) (cs : Array Bool) :
    ∃ V, r.emb O R = some V ∧ (builtin b ts ty cs vs).run C.P w = .ok (.value V) w := by
  unfold callL at h
  split at h
  · rename_i t rest x e1
    (obtain ⟨d, hd, hh⟩ := bind_some h; clear h; have h := hh; clear hh)
    split at h
    · cases h
      obtain ⟨X, r, h1, h2, h3⟩ := eachR_cons_some hv
      cases h2; cases h1
      have h3 : vs = #[.slice none 0 0] := by apply Array.ext'; simpa using h3
      subst h3
      have ht : ts[0]? = some t := by rw [← Array.getElem?_toList, e1]; rfl
      exact ⟨_, rfl, by simp [builtin, Builtin.cap_, ht, run_underlying (hC.und hd), goInt]⟩
    · cases h
  · cases h

/-- ONE OPERATION THAT READS. -/
theorem opL_ok (hC : C.Ok) (hr : Rel O N R s w) (ht : TmpsOk O R f.t fr.tmps) {o : Oper} {v : TV} (h : opL C o.op f s = some v) :
    ∃ V, v.emb O R = some V ∧ (execOp fr.eval o).run C.P w = .ok (.value V) w := by
  unfold opL at h
  unfold execOp
  split at h
  case h_5 => cases h
  all_goals (rename_i e; rw [e]; clear e)
  · obtain ⟨V, k1, k2⟩ := lLoad_ok hC hr ht h
    exact ⟨V, k1, by simp [k2]⟩
  · obtain ⟨l, e1, h⟩ := bind_some h
    obtain ⟨u, e2, h⟩ := bind_some h
    obtain ⟨m, e3, h⟩ := bind_some h
    obtain ⟨y, e4, h⟩ := bind_some h
    split at h
    · rename_i e hu
      (obtain ⟨g, hh⟩ := cond_some h; clear h; have h := hh; clear hh)
      (obtain ⟨n, hn, hh⟩ := bind_some h; clear h; have h := hh; clear hh)
      (obtain ⟨r, hr', hh⟩ := bind_some h; clear h; have h := hh; clear hh)
      cases h
      cases m with
      | some _ => cases g
      | none =>
        rcases natOfO_ok ht e3 with ⟨rfl, _⟩ | ⟨_, _, _, _, _, _, e⟩
        · obtain ⟨V, k1, k2⟩ := sliceL_ok hC hr ht hu hn e1 e2 hr' (evS_ok ht e4)
          exact ⟨V, k1, by simp [k2]⟩
        · cases e
    · cases h
  · obtain ⟨a, h1, h⟩ := bind_some h
    obtain ⟨r, h2, h⟩ := bind_some h
    cases h
    obtain ⟨V, k1, k2⟩ := lConv_ok hC hr h2 (evS_ok ht h1)
    exact ⟨V, k1, by simp [k2]⟩
  · rename_i c
    split at h
    · rename_i b hb
      obtain ⟨l, h1, h⟩ := bind_some h
      obtain ⟨r, h2, h⟩ := bind_some h
      cases h
      obtain ⟨V, k1, k2⟩ := callL_ok (w := w) (vs := c.args.map fr.eval) hC h2 (by simpa using evSs_ok ht h1) o.type (c.args.map fun | .const _ => true | _ => false)
      refine ⟨V, k1, ?_⟩
      simp only [resolve, hb, Sem.run_bind, Sem.run_pure, Result.andThen_ok, invoke]
      exact k2
    · cases h

end
end Go.Ev

/- The operations that make a block. -/
namespace Go.Ev
open Go.RowKit

section
variable {C : Ctx} {O : Nat → Value} {R : Rho} {f : Fr} {fr : Frame} {N : Nat} {s : St} {w : World}

theorem Ct.of_has (l : List SV) : (Ct.of l).Has l.length := by
  unfold Ct.of
  cases Nat.ble (lenR l) 40 with
  | true => exact Nat.le_refl _
  | false => trivial

/-- Cells laid anew. -/
theorem cellsOk_new {l : List SV} {vs rest : List Value} (hv : eachR (SV.emb O R) l = some vs) {cs : Array Value} (hcs : cs.toList = vs ++ rest) {c : Ct SV} (hget : ∀ i, c.get i = l[i]?) (hhas : c.Has l.length)
    {b cap sz : Nat} {ex : Bool} {fr : Nat × Nat} (hroom : cap * sz ≤ cs.size) (hfit : l.length ≤ cap * sz) (hex : ex = true → rest = [] ∧ cap * sz = l.length)
    (hfr : fr.1 = fr.2 ∨ cs.size ≤ fr.1) : CellsOk O R ⟨b, 0, cap⟩ l.length c sz ex 0 cs fr where
  cell i v _ hi := by
    rw [hget] at hi
    obtain ⟨V, h1, h2⟩ := eachR_get hv i v hi
    refine ⟨V, h1, ?_⟩
    rw [← Array.getElem?_toList, hcs, Nat.zero_add, List.getElem?_append_left (List.getElem?_eq_some_iff.1 h2).1]
    exact h2
  size := by
    have := congrArg List.length hcs
    rw [List.length_append, eachR_length hv, Array.length_toList] at this
    show 0 + l.length ≤ cs.size
    omega
  room := by show 0 + cap * sz ≤ cs.size; omega
  fits := hfit
  exact e := by
    obtain ⟨e1, e2⟩ := hex e
    have := congrArg List.length hcs
    rw [e1, List.append_nil, eachR_length hv, Array.length_toList] at this
    exact ⟨rfl, this, e2⟩
  cold _ := hfr
  warm _ i _ hi q := by
    have hi : 0 + i < cs.size := hi
    have q : fr.1 ≤ 0 + i ∧ 0 + i < fr.2 := q
    rcases hfr with e | e <;> omega
  has := hhas

/-- What an operation that makes a block has to do. -/
structure Makes (O : Nat → Value) (R : Rho) (P : Program) (x : Sem Next) (w : World) (b : Blk) (k : Mk) : Prop where
  live : b.live
  run : ∃ obj cap V d, x.run P w = .ok (.value V) { w with heap := w.heap.push obj, drawn := d } ∧ (∀ R', Le R R' → BlkOk O R' ⟨w.heap.size, 0, cap⟩ b (some obj)) ∧
    ∀ R' id, R' id = some ⟨w.heap.size, 0, cap⟩ → (k.val id).emb O R' = some V

theorem box_makes (hO : Plain O) {e : Nat} {z : AV} {Z : Value} (hz : z.emb O R = some Z) {P : Program} {x : Sem Next} (hx : x.run P w = .ok (.value (.pointer (some ⟨w.heap.size, 0, none⟩))) (w.alloc (.cells Z.cells e))) :
    Makes O R P x w (boxOf e z) .ptr := by
  have hc := AV.emb_cells hO hz
  refine ⟨trivial, _, 1, _, w.drawn, hx, fun R' hl => ⟨Z.cells, (0, 0), rfl, ?_⟩, fun R' id h => by simp [Mk.val, TV.emb, AV.emb, SV.emb, ptrE, h]⟩
  rw [lenR_eq]
  have hlen := eachR_length hc
  rw [Array.length_toList] at hlen
  exact cellsOk_new (rest := []) (eachR_mono (SV.emb_mono hl) hc) (by simp) (fun i => Ct.get_ls _ _) (Nat.le_refl _) (by omega) (by omega) (fun _ => ⟨rfl, by omega⟩) (.inl rfl)

/-- A row of cells, of elements of size 'sz': all that there is of it. -/
theorem row_makes {e sz len n : Nat} {l : List SV} {cs : Array Value} (hv : eachR (SV.emb O R) l = some cs.toList) (hlen : l.length = n * sz) (hle : len ≤ n) {P : Program} {x : Sem Next}
    (hx : x.run P w = .ok (.value (.slice (some ⟨w.heap.size, 0, none⟩) len n)) (w.alloc (.cells cs e))) {k : Nat} (hk : k = n * sz) :
    Makes O R P x w (.cells k (.of l) sz true 0 e) (.slice sz len) := by
  subst hk
  have hl2 := eachR_length hv
  rw [Array.length_toList] at hl2
  refine ⟨trivial, _, n, _, w.drawn, hx, fun R' hl => ⟨cs, (0, 0), rfl, ?_⟩, fun R' id h => by simp [Mk.val, TV.emb, AV.emb, SV.emb, h, hle]⟩
  rw [← hlen]
  exact cellsOk_new (rest := []) (eachR_mono (SV.emb_mono hl) hv) (by simp) (fun i => Ct.get_of _ _) (Ct.of_has l) (by omega) (by omega) (fun _ => ⟨rfl, hlen.symm⟩) (.inl rfl)

theorem fillSeq_ok (hO : Plain O) {n : Nat} : ∀ (l : List (Nat × AV)) (i : Nat) (r : List SV) (vs : List (Nat × Value)) (cs : Array Value), fillSeq n l i = some r →
    eachR (fun p : Nat × AV => (p.2.emb O R).bind fun v => some (p.1, v)) l = some vs → (i + l.length) * n ≤ cs.size →
    ∃ rs : Array Value, Instr.fill (fun i => some (i * n, n)) cs vs = some rs ∧ ∃ ws, eachR (SV.emb O R) r = some ws ∧ r.length = l.length * n ∧ rs.toList = cs.toList.take (i * n) ++ (ws ++ cs.toList.drop ((i + l.length) * n))
  | [], i, r, vs, cs, h, hv, hc => by
    cases h; cases hv
    exact ⟨cs, rfl, [], rfl, by simp, by simp⟩
  | (j, a) :: l, i, r, vs, cs, h, hv, hc => by
    have h : cond (Nat.beq j i && Nat.beq (lenR a.cells) n) ((fillSeq n l (i + 1)).bind fun r => some (appR a.cells r)) none = some r := h
    (obtain ⟨g, hh⟩ := cond_some h; clear h; have h := hh; clear hh)
    simp only [Bool.and_eq_true, beq_iff, lenR_eq] at g
    obtain ⟨rfl, g⟩ := g
    (obtain ⟨r', hr', hh⟩ := bind_some h; clear h; have h := hh; clear hh)
    rw [appR_eq] at h
    cases h
    obtain ⟨⟨j', v⟩, vs', h1, h2, rfl⟩ := eachR_cons_some hv
    obtain ⟨V, h3, h4⟩ := bind_some h1
    cases h4
    have hcell := AV.emb_cells hO h3
    have hlen := eachR_length hcell
    rw [Array.length_toList] at hlen
    simp only [List.length_cons] at hc
    have e1 : (j + (l.length + 1)) * n = j * n + n + l.length * n := by rw [Nat.add_mul, Nat.add_mul, Nat.one_mul]; omega
    have e2 : (j + 1 + l.length) * n = j * n + n + l.length * n := by rw [Nat.add_mul, Nat.add_mul, Nat.one_mul]
    have e3 : (j + 1) * n = j * n + n := by rw [Nat.add_mul, Nat.one_mul]
    rw [e1] at hc
    have hvn : v.cells.size = n := hlen.trans g
    have key : ((v.cells.zipIdx.foldl (fun cs (c : Value × Nat) => cs.setIfInBounds (j * n + c.2) c.1) cs)).toList = cs.toList.take (j * n) ++ (v.cells.toList ++ cs.toList.drop (j * n + n)) := by
      have := foldl_set cs (j * n) v.cells.toList 0 (by rw [Nat.add_zero, Array.length_toList]; omega)
      simp only [Nat.add_zero, Array.length_toList] at this
      rw [hvn] at this
      rw [← this]
      congr 1
      rw [← Array.foldl_toList]
      congr 1
      simp
    have hsz : (v.cells.zipIdx.foldl (fun cs (c : Value × Nat) => cs.setIfInBounds (j * n + c.2) c.1) cs).size = cs.size := by
      have := congrArg List.length key
      simp only [Array.length_toList, List.length_append, List.length_take, List.length_drop] at this
      omega
    obtain ⟨rs, k1, ws, k2, k3, k4⟩ := fillSeq_ok hO l (j + 1) r' vs' _ hr' h2 (by rw [hsz, e2]; exact hc)
    refine ⟨rs, ?_, v.cells.toList ++ ws, eachR_append hcell k2, ?_, ?_⟩
    · unfold Instr.fill
      simp only []
      rw [if_neg (by simp; omega)]
      exact k1
    · rw [List.length_append, k3, List.length_cons, Nat.add_mul, Nat.one_mul, g]; omega
    · have hl1 : (cs.toList.take (j * n)).length = j * n := by rw [List.length_take, Array.length_toList]; omega
      have hl2 : (cs.toList.take (j * n) ++ v.cells.toList).length = (j + 1) * n := by rw [List.length_append, hl1, Array.length_toList, hvn, e3]
      rw [← List.append_assoc] at key
      rw [k4, key, List.length_cons, e1, List.take_left' hl2, show (j + 1 + l.length) * n = (cs.toList.take (j * n) ++ v.cells.toList).length + l.length * n by rw [hl2, e2, e3],
        List.drop_length_add_append, List.drop_drop]
      simp only [List.append_assoc]

theorem natOf_emb {v : SV} {n : Nat} (h : natOf v = some n) {V : Value} (hv : v.emb O R = some V) : ∃ k i, V = .int k i ∧ 0 ≤ i ∧ i.toNat = n := by
  obtain ⟨k, i, rfl, h1, h2⟩ := natOf_ok h
  cases hv
  exact ⟨k, i, rfl, h1, h2⟩

theorem replN_ok {l : List SV} {vs : List Value} (h : eachR (SV.emb O R) l = some vs) : ∀ n, ∃ ws, eachR (SV.emb O R) (replN l n) = some ws ∧ ws.length = n * vs.length ∧ ∀ i, i < n * vs.length → ws[i]? = vs[i % vs.length]?
  | 0 => ⟨[], rfl, by simp, fun i hi => by omega⟩
  | n + 1 => by
    obtain ⟨ws, h1, h2, h3⟩ := replN_ok h n
    have e : replN l (n + 1) = l ++ replN l n := by
      show appR l (replN l n) = _
      exact appR_eq _ _
    refine ⟨vs ++ ws, by rw [e]; exact eachR_append h h1, by rw [List.length_append, h2, Nat.add_mul, Nat.one_mul]; omega, fun i hi => ?_⟩
    by_cases q : i < vs.length
    · rw [List.getElem?_append_left q, Nat.mod_eq_of_lt q]
    · have q' : vs.length ≤ i := by omega
      rw [List.getElem?_append_right q', h3 _ (by rw [Nat.add_mul, Nat.one_mul] at hi; omega), Nat.mod_eq_sub_mod q']

theorem buildSliceB_ok (hC : C.Ok) (hO : Plain O) {t len : Nat} {ps : List (Nat × AV)} {b : Blk} {k : Mk} (h : buildSliceB C t len ps = some (b, k)) {vs : Array (Nat × Value)}
    (hv : eachR (fun p : Nat × AV => (p.2.emb O R).bind fun v => some (p.1, v)) ps = some vs.toList) {x : Sem Next} (hx : x = (do pure (.value (← Instr.buildSlice t len vs)))) (w : World) : Makes O R C.P x w b k := by
  unfold buildSliceB at h
  cases hu : C.und t with
  | none => simp [hu] at h
  | some d =>
    cases d <;> simp only [hu] at h <;> try (cases h; done)
    rename_i e
    (obtain ⟨n, hn, hh⟩ := bind_some h; clear h; have h := hh; clear hh)
    (obtain ⟨z, hz, hh⟩ := bind_some h; clear h; have h := hh; clear hh)
    (obtain ⟨g, hh⟩ := cond_some h; clear h; have h := hh; clear hh)
    simp only [Bool.and_eq_true, ble_iff, beq_iff, lenR_eq, Bool.not_eq_true'] at g
    obtain ⟨⟨g1, g2⟩, g3⟩ := g
    (obtain ⟨l, hl, hh⟩ := bind_some h; clear h; have h := hh; clear hh)
    (obtain ⟨g4, hh⟩ := cond_some h; clear h; have h := hh; clear hh)
    have g4 := beq_iff.1 g4
    rw [lenR_eq] at g4
    cases h
    (obtain ⟨g5, hh⟩ := cond_some hl; clear hl; have hl := hh; clear hh)
    have g5 := beq_iff.1 g5
    rw [lenR_eq] at g5
    obtain ⟨i, Z, hi, hiz, he, hzw⟩ := hC.zero hz
    obtain ⟨i', hi', hin⟩ := hC.size hn
    rw [hi] at hi'; cases hi'
    have hzc := eachR_length (AV.emb_cells hO (he O R))
    rw [Array.length_toList] at hzc
    by_cases hpos : len * i.size = 0
    · have hn0 : i.size ≠ 0 := by rw [hin]; exact beq_false g3
      have hlen0 : len = 0 := by
        rcases Nat.mul_eq_zero.1 hpos with q | q
        · exact q
        · exact absurd q hn0
      subst hlen0
      have hps : ps = [] := List.length_eq_zero_iff.1 g5
      subst hps
      cases hv' : vs.toList with
      | cons a r => rw [hv'] at hv; cases hv
      | nil =>
        cases hl
        refine row_makes (l := []) (cs := #[]) (n := 0) rfl (by simp) (Nat.le_refl _) (e := e) ?_ (by simp)
        rw [hx]
        simp [Instr.buildSlice, run_underlying (hC.und hu), hC.sizeOf hn, hv', Instr.fill, newRow]
        congr 2
        exact Array.ext' (by simp)
    · obtain ⟨rs, k1, ws, k2, k3, k4⟩ := fillSeq_ok (R := R) hO ps 0 l vs.toList ((Array.range (len * i.size)).map (Z.cells[· % Z.cells.size]!)) hl hv (by rw [g5, hin]; simp)
      have hrs : rs.toList = ws := by
        rw [k4, g5, List.drop_of_length_le (by simp [hin])]
        simp
      have hm := run_buildSlice (P := C.P) w t e len vs rs i Z (hC.und hu) hi hiz (by rw [hin]; omega) hpos (by rw [hin]; rw [hin] at k1; exact k1)
      exact row_makes (l := l) (cs := rs) (n := len) (by rw [hrs]; exact k2) (by rw [g4]) (Nat.le_refl _) (by rw [hx, Sem.run_bind, hm]; rfl) rfl

theorem makeSliceB_ok (hC : C.Ok) (hO : Plain O) {t : Nat} {l c : SV} {b : Blk} {k : Mk} (h : makeSliceB C t l c = some (b, k)) {L K : Value} (hl : l.emb O R = some L) (hc : c.emb O R = some K)
    {x : Sem Next} (hx : x = (do pure (.value (← Instr.makeSlice t L K)))) (w : World) : Makes O R C.P x w b k := by
  unfold makeSliceB at h
  cases hu : C.und t with
  | none => simp [hu] at h
  | some d =>
    cases d <;> simp only [hu] at h <;> try (cases h; done)
    rename_i e
    (obtain ⟨i, hi, hh⟩ := bind_some h; clear h; have h := hh; clear hh)
    (obtain ⟨n, hn, hh⟩ := bind_some h; clear h; have h := hh; clear hh)
    (obtain ⟨m, hm, hh⟩ := bind_some h; clear h; have h := hh; clear hh)
    (obtain ⟨z, hz, hh⟩ := bind_some h; clear h; have h := hh; clear hh)
    (obtain ⟨g, hh⟩ := cond_some h; clear h; have h := hh; clear hh)
    simp only [Bool.and_eq_true, ble_iff, beq_iff, lenR_eq, Bool.not_eq_true'] at g
    obtain ⟨⟨⟨⟨g1, g2⟩, g3⟩, g4⟩, g5⟩ := g
    cases h
    obtain ⟨kl, li, rfl, l0, l1⟩ := natOf_emb hn hl
    obtain ⟨kc, ci, rfl, c0, c1⟩ := natOf_emb hm hc
    obtain ⟨j, Z, hj, hjz, he, _⟩ := hC.zero hz
    have hi' := hC.info hi
    rw [hi'] at hj; cases hj
    obtain ⟨ws, r1, r2, r3⟩ := replN_ok (AV.emb_cells hO (he O R)) m
    have hzc := eachR_length (AV.emb_cells hO (he O R))
    rw [Array.length_toList] at hzc
    have r2 : ws.length = m * Z.cells.size := by rw [r2, Array.length_toList]
    simp only [Array.length_toList] at r3
    have hmul : (i.bytes : Int) * ci ≤ 281474976710656 := by
      have e : ci = (m : Int) := by omega
      rw [e]
      have := Int.ofNat_le.2 g2
      rw [Int.natCast_mul] at this
      exact this
    have hrun := run_make (P := C.P) w t e i Z (hC.und hu) hi' hjz kl kc li ci l0 (by omega) hmul (by omega)
    have hws : (madeCells Z.cells (ci.toNat * i.size)).toList = ws := by
      apply List.ext_getElem?
      intro q
      rw [c1]
      have hsz : Z.cells.size = i.size := by omega
      by_cases hq : q < m * i.size
      · rw [r3 q (by rw [hsz]; exact hq)]
        have hpos : 0 < i.size := Nat.pos_of_ne_zero (beq_false g5)
        have hm' : q % Z.cells.size < Z.cells.size := Nat.mod_lt _ (by omega)
        simp only [madeCells, Array.toList_map, Array.toList_range, List.getElem?_map, List.getElem?_range hq, Option.map_some]
        rw [getElem!_pos Z.cells (q % Z.cells.size) hm', Array.getElem?_toList, Array.getElem?_eq_getElem hm']
      · rw [List.getElem?_eq_none (by simp [madeCells]; omega), List.getElem?_eq_none (by rw [r2, hsz]; omega)]
    exact row_makes (l := replN z.cells m) (cs := madeCells Z.cells (ci.toNat * i.size)) (n := m) (by rw [hws]; exact r1) (by rw [← eachR_length r1, r2]; congr 1; omega) g1
      (by rw [hx, Sem.run_bind, hrun, l1, c1]; rfl) rfl

theorem bytes_cells (a : List UInt8) : eachR (SV.emb O R) (bytesS a) = some (a.map fun b => Value.int .u8 b.toNat) := by
  unfold bytesS
  rw [mapR_eq]
  induction a with
  | nil => rfl
  | cons b a ih => exact eachR_cons_of rfl ih

theorem grown_ge (w : World) (need : Nat) (e : TypeId) : need ≤ grownCap w need 0 e := by
  unfold grownCap Question.cut
  exact Nat.le_add_right _ _

theorem aConv_ok (hC : C.Ok) (ht : TmpsOk O R f.t fr.tmps) {src dst : Nat} {x : Operand} {b : Blk} {k : Mk} (h : aConv C f src dst x = some (b, k))
    {y : Sem Next} (hy : y = (do pure (.value (← convert src dst (fr.eval x))))) (w : World) : Makes O R C.P y w b k := by
  unfold aConv at h
  split at h
  · rename_i e a hs hd hx
    split at h
    · rename_i he
      cases h
      have hx := evS_ok ht hx
      simp only [SV.emb, Option.some.injEq] at hx
      have hrun := run_bytes_of_string w src dst e ⟨⟨a⟩⟩ (hC.und hs) (hC.und hd) (hC.und he)
      have hge := grown_ge w a.length e
      have esz : (ByteArray.mk ⟨a⟩).size = a.length := rfl
      rw [esz] at hrun
      have hb : (bytesRow ⟨⟨a⟩⟩ (grownCap w a.length 0 e)).toList = (a.map fun b => Value.int .u8 b.toNat) ++ List.replicate (grownCap w a.length 0 e - a.length) (.int .u8 0) := by
        simp [bytesRow, ByteArray.size]
      have hbs : (bytesRow ⟨⟨a⟩⟩ (grownCap w a.length 0 e)).size = grownCap w a.length 0 e := by
        have := congrArg List.length hb
        simp only [Array.length_toList, List.length_append, List.length_map, List.length_replicate] at this
        omega
      refine ⟨trivial, .cells (bytesRow ⟨⟨a⟩⟩ (grownCap w a.length 0 e)) e ((bytesRow ⟨⟨a⟩⟩ (grownCap w a.length 0 e)).size, (bytesRow ⟨⟨a⟩⟩ (grownCap w a.length 0 e)).size + 1), grownCap w a.length 0 e,
        .slice (some ⟨w.heap.size, 0, none⟩) a.length (grownCap w a.length 0 e), w.drawn + 1, ?_, fun R' hl => ⟨_, _, rfl, ?_⟩, fun R' id h => ?_⟩
      · rw [hy, ← hx, Sem.run_bind, hrun]
        rfl
      · rw [lenR_eq]
        have hlb : (bytesS a).length = a.length := by unfold bytesS; rw [mapR_eq]; simp
        have := cellsOk_new (O := O) (R := R') (l := bytesS a) (vs := a.map fun b => Value.int .u8 b.toNat) (rest := List.replicate (grownCap w a.length 0 e - a.length) (.int .u8 0)) (bytes_cells a)
          (cs := bytesRow ⟨⟨a⟩⟩ (grownCap w a.length 0 e)) hb (c := .of (bytesS a)) (fun i => Ct.get_of _ _) (Ct.of_has _) (b := w.heap.size) (cap := grownCap w a.length 0 e) (sz := 1) (ex := false)
          (fr := ((bytesRow ⟨⟨a⟩⟩ (grownCap w a.length 0 e)).size, (bytesRow ⟨⟨a⟩⟩ (grownCap w a.length 0 e)).size + 1)) (by omega) (by omega) (fun e => by cases e) (.inr (Nat.le_refl _))
        rw [hlb] at this
        exact this
      · simp only [Mk.val, TV.emb, AV.emb, SV.emb, h, lenR_eq, Option.bind_some]
        rw [if_pos (by simpa using hge)]
        simp
    · cases h
  · cases h

/-- ONE OPERATION THAT MAKES A BLOCK. -/
theorem opA_ok (hC : C.Ok) (hO : Plain O) (ht : TmpsOk O R f.t fr.tmps) {o : Oper} {b : Blk} {k : Mk} (h : opA C o.op f = some (b, k)) (w : World) : Makes O R C.P (execOp fr.eval o) w b k := by
  unfold opA at h
  unfold execOp
  split at h
  case h_7 => cases h
  all_goals (rename_i e; rw [e]; clear e)
  · (obtain ⟨z, hz, hh⟩ := bind_some h; clear h; have h := hh; clear hh)
    cases h
    obtain ⟨i, Z, _, _, he, hzw⟩ := hC.zero hz
    refine box_makes hO (he O R) ?_
    simp [Instr.alloc, hzw, newVar, newRow]
  · (obtain ⟨z, hz, hh⟩ := bind_some h; clear h; have h := hh; clear hh)
    cases h
    refine box_makes hO (evA_ok ht hz) ?_
    simp [Instr.box, newVar, newRow]
  · rename_i t len parts
    (obtain ⟨ps, hps, hh⟩ := bind_some h; clear h; have h := hh; clear hh)
    have h1 := evParts_ok ht hps
    refine buildSliceB_ok hC hO h ?_ rfl w
    rw [h1, Array.toList_map]
  · rename_i t x y
    (obtain ⟨l, hl, hh⟩ := bind_some h; clear h; have h := hh; clear hh)
    (obtain ⟨c, hc, hh⟩ := bind_some h; clear h; have h := hh; clear hh)
    have h1 := evS_ok ht hl
    have h2 := evS_ok ht hc
    exact makeSliceB_ok (L := fr.eval x) (K := fr.eval y) hC hO h h1 h2 rfl w
  · cases h
    refine ⟨trivial, .map #[] 0, 0, .map (some w.heap.size), w.drawn, ?_, fun R' hl => ⟨#[], rfl, rfl⟩, fun R' id h => by simp [Mk.val, TV.emb, AV.emb, SV.emb, h]⟩
    rfl
  · exact aConv_ok hC ht h rfl w

end
end Go.Ev

/- Cells that are written. -/
namespace Go.Ev
open Go.RowKit

section
variable {C : Ctx} {O : Nat → Value} {R : Rho} {f : Fr} {fr : Frame} {N : Nat} {s : St} {w : World}

/-- A world in which one block has turned. -/
structure Turned (w w' : World) (b : Nat) : Prop where
  os : w'.os = w.os
  tape : w'.tape = w.tape
  output : w'.output = w.output
  size : w'.heap.size = w.heap.size
  other : ∀ k, k ≠ b → w'.heap[k]? = w.heap[k]?

theorem Turned.refl (w : World) (b : Nat) : Turned w w b := ⟨rfl, rfl, rfl, rfl, fun _ _ => rfl⟩
theorem Turned.trans {w w' w'' : World} {b : Nat} (h : Turned w w' b) (k : Turned w' w'' b) : Turned w w'' b :=
  ⟨k.os.trans h.os, k.tape.trans h.tape, k.output.trans h.output, k.size.trans h.size, fun i hi => (k.other i hi).trans (h.other i hi)⟩

theorem setCell_turned (w : World) (b o : Nat) (v : Value) : Turned w (w.setCell ⟨b, o, none⟩ v) b := by
  refine ⟨rfl, rfl, rfl, by simp [World.setCell], fun k hk => ?_⟩
  simp only [World.setCell, Array.getElem?_modify]
  rw [if_neg (fun e => hk e.symm)]

theorem setCell_heap {w : World} {b : Nat} {cs : Array Value} {et : Nat} {fz : Nat × Nat} (h : w.heap[b]? = some (.cells cs et fz)) (o : Nat) (v : Value) :
    (w.setCell ⟨b, o, none⟩ v).heap[b]? = some (.cells (cs.setIfInBounds o v) et fz) := by
  simp only [World.setCell, Array.getElem?_modify, if_true, h, Option.map_some]
  rfl

theorem setCells_turned (b : Nat) : ∀ (vs : List Value) (o : Nat) (w : World), Turned w (w.setCells b o vs) b
  | [], _, w => Turned.refl w b
  | v :: vs, o, w => (setCell_turned w b o v).trans (setCells_turned b vs (o + 1) _)

theorem setCells_heap {b et : Nat} {fz : Nat × Nat} : ∀ (vs : List Value) (o : Nat) (w : World) (cs : Array Value), w.heap[b]? = some (.cells cs et fz) →
    ∃ cs', (w.setCells b o vs).heap[b]? = some (.cells cs' et fz) ∧ cs'.size = cs.size ∧ ∀ i, cs'[i]? = if o ≤ i ∧ i < o + vs.length ∧ i < cs.size then vs[i - o]? else cs[i]?
  | [], o, w, cs, h => ⟨cs, h, rfl, fun i => by rw [if_neg (by simp; omega)]⟩
  | v :: vs, o, w, cs, h => by
    obtain ⟨cs', h1, h2, h3⟩ := setCells_heap vs (o + 1) _ _ (setCell_heap h o v)
    refine ⟨cs', h1, by rw [h2]; simp, fun i => ?_⟩
    rw [h3]
    simp only [Array.size_setIfInBounds, List.length_cons, Array.getElem?_setIfInBounds]
    by_cases q : i = o
    · subst q
      rw [if_neg (by omega)]
      by_cases q2 : i < cs.size
      · rw [if_pos (by omega)]; simp [q2]
      · have : cs[i]? = none := Array.getElem?_eq_none (by omega)
        simp [q2]
    · by_cases q2 : o ≤ i ∧ i < o + (vs.length + 1) ∧ i < cs.size
      · rw [if_pos q2, if_pos (by omega)]
        obtain ⟨d, rfl⟩ : ∃ d, i = o + (d + 1) := ⟨i - o - 1, by omega⟩
        have e1 : o + (d + 1) - (o + 1) = d := by omega
        have e2 : o + (d + 1) - o = d + 1 := by omega
        rw [e1, e2]; simp
      · rw [if_neg q2, if_neg (by omega), if_neg (fun e => q e.symm)]

theorem Ct.has_put {c : Ct SV} {n off : Nat} {l : List SV} (h : c.Has n) (hl : off + l.length ≤ n) : (c.put off l).Has n := by
  cases c with
  | ls x =>
    show n ≤ (spliceR x off l).length
    have h : n ≤ x.length := h
    rw [Ct.splice_eq]
    simp only [List.length_append, List.length_take, List.length_drop]
    omega
  | tr t => trivial

theorem Ct.Has.le {c : Ct SV} {n k : Nat} (h : c.Has n) (hk : k ≤ n) : c.Has k := by
  cases c with
  | ls x => exact Nat.le_trans hk h
  | tr t => trivial

/-- Cells written in a block that the state knows. -/
theorem cellsOk_put {m : M} {n : Nat} {c : Ct SV} {sz : Nat} {ex : Bool} {fz : Nat} {cs cs' : Array Value} {fr : Nat × Nat} (h : CellsOk O R m n c sz ex fz cs fr) {off : Nat} {l : List SV} {vs : List Value}
    (hv : eachR (SV.emb O R) l = some vs) (hl : off + l.length ≤ n) (hs : cs'.size = cs.size) (hc : ∀ i, cs'[i]? = if m.base + off ≤ i ∧ i < m.base + off + vs.length ∧ i < cs.size then vs[i - (m.base + off)]? else cs[i]?) :
    CellsOk O R m n (c.put off l) sz ex fz cs' fr := by
  have hlen := eachR_length hv
  refine { h with cell := fun i v hi hg => ?_, size := by rw [hs]; exact h.size, room := by rw [hs]; exact h.room, exact := fun e => by rw [hs]; exact h.exact e, cold := fun e => by rw [hs]; exact h.cold e,
                  warm := fun hz i hi hb => h.warm hz i hi (by rw [← hs]; exact hb), has := Ct.has_put h.has hl }
  have hsz := h.size
  rw [Ct.get_put l i (h.has.le (by omega))] at hg
  by_cases q : off ≤ i ∧ i < off + l.length
  · rw [if_pos q] at hg
    obtain ⟨V, h1, h2⟩ := eachR_get hv _ _ hg
    refine ⟨V, h1, ?_⟩
    rw [hc, if_pos (by omega), show m.base + i - (m.base + off) = i - off by omega]
    exact h2
  · rw [if_neg q] at hg
    obtain ⟨V, h1, h2⟩ := h.cell i v hi hg
    refine ⟨V, h1, ?_⟩
    rw [hc, if_neg (by omega)]
    exact h2

theorem frozen_of {cs : Array Value} {b et : Nat} {fz : Nat × Nat} (h : w.heap[b]? = some (.cells cs et fz)) (i : Nat) : w.frozen? ⟨b, i, none⟩ = (decide (fz.1 ≤ i) && decide (i < fz.2)) := by
  simp [World.frozen?, h]

/-- CELLS WRITTEN. -/
theorem storeL_ok (hr : Rel O N R s w) {id off : Nat} {l : List SV} {s' : St} (h : s.storeL id off l = some s') {m : M} (hm : R id = some m) {vs : List Value} (hv : eachR (SV.emb O R) l = some vs) :
    w.there m.blk (m.base + off) vs.length ∧ Rel O N R s' (w.setCells m.blk (m.base + off) vs) ∧ Fwd R s w R s' (w.setCells m.blk (m.base + off) vs) := by
  unfold St.storeL at h
  split at h
  · rename_i n c sz ex fz et hb
    (obtain ⟨g, hh⟩ := cond_some h; clear h; have h := hh; clear hh)
    cases h
    simp only [Bool.and_eq_true, Bool.or_eq_true, ble_iff, lenR_eq, List.isEmpty_iff] at g
    obtain ⟨g1, g2⟩ := g
    have g1 : off + l.length ≤ n := g1
    obtain ⟨cs, fr, h1, h2⟩ := cells_at hr hb hm
    have hlen := eachR_length hv
    obtain ⟨cs', k1, k2, k3⟩ := setCells_heap vs (m.base + off) w cs h1
    have ht := setCells_turned m.blk vs (m.base + off) w
    have hsz := h2.size
    refine ⟨fun j hj => ⟨?_, ?_⟩, hr.put hb trivial hm ht.size ht.other ⟨cs', fr, k1, cellsOk_put h2 hv g1 k2 k3⟩, Fwd.put hb trivial hm ht.os ht.tape ht.output ht.size ht.other⟩
    · rw [cell_of h1, Array.getElem?_eq_getElem (by omega)]; rfl
    · rw [frozen_of h1]
      rcases g2 with g2 | g2
      · have := h2.warm (by omega) (off + j) (by omega) (by omega)
        rw [Nat.add_assoc, Bool.and_eq_false_iff]
        simp only [decide_eq_false_iff_not]
        omega
      · have : l.length = 0 := by simp [g2]
        omega
  · cases h

theorem run_storeCells_there {P : Program} {b o : Nat} {vs : List Value} (h : w.there b o vs.length) (h1 : ∀ v ∈ vs, v.oneCell' = true) : (storeCells ⟨b, o, none⟩ vs).run P w = .ok () (w.setCells b o vs) := by
  have := run_storeCells_cells (P := P) b o vs 0 w (fun j hj => by simpa using (h j hj).1) (fun j hj => by simpa using (h j hj).2) h1
  simpa using this

/-- What an operation on memory does. -/
structure Does (O : Nat → Value) (N : Nat) (R : Rho) (P : Program) (x : Sem Next) (s : St) (w : World) (v : TV) (s' : St) : Prop where
  run : ∃ R' w' V nx, x.run P w = .ok nx w' ∧ (nx = .value V ∨ (nx = .skip ∧ V = undef)) ∧ v.emb O R' = some V ∧ Rel O N R' s' w' ∧ Fwd R s w R' s' w'

theorem eStore_ok (hC : C.Ok) (hO : Plain O) (hr : Rel O N R s w) (ht : TmpsOk O R f.t fr.tmps) {t : Nat} {a x : Operand} {v : TV} {s' : St} (h : eStore C f s t a x = some (v, s'))
    {y : Sem Next} (hy : y = (do Instr.storeAt t (fr.eval a) (fr.eval x); pure .skip)) : Does O N R C.P y s w v s' := by
  unfold eStore at h
  split at h
  · rename_i id off ha
    (obtain ⟨u, hu, hh⟩ := bind_some h; clear h; have h := hh; clear hh)
    (obtain ⟨n, hn, hh⟩ := bind_some h; clear h; have h := hh; clear hh)
    (obtain ⟨g, hh⟩ := cond_some h; clear h; have h := hh; clear hh)
    (obtain ⟨s1, hs, hh⟩ := bind_some h; clear h; have h := hh; clear hh)
    cases h
    have g := beq_iff.1 g
    rw [lenR_eq] at g
    obtain ⟨m, hm, ea⟩ := ptr_emb (evS_ok ht ha)
    have hx := evA_ok ht hu
    have hc := AV.emb_cells hO hx
    obtain ⟨k1, k2, k3⟩ := storeL_ok hr hs hm hc
    have hlen := eachR_length hc
    rw [Array.length_toList] at hlen
    refine ⟨R, _, undef, .skip, ?_, .inr ⟨rfl, rfl⟩, rfl, k2, k3⟩
    have hst := run_storeCells_there (P := C.P) k1 (one_all hO hc)
    rw [hy, ea]
    have hne : ¬ ((fr.eval x).cells.size ≠ n) := by omega
    simp only [Instr.storeAt, Instr.sureAddr, storeVar, Sem.run_bind, Sem.run_pure, Result.andThen_ok, hC.sizeOf hn, hne, if_false, hst]
  · cases h

end
end Go.Ev

/- append. -/
namespace Go.Ev
open Go.RowKit

section
variable {C : Ctx} {O : Nat → Value} {R : Rho} {f : Fr} {fr : Frame} {N : Nat} {s : St} {w : World}

/-- What is appended, or copied. -/
theorem src_ok (hO : Plain O) (hr : Rel O N R s w) {y : SV} {Y : Value} {sz n : Nat} {new : List SV} (hn : lenV y = some n) (hf : firstC s sz n y = some new) (hy : y.emb O R = some Y) {u : Nat}
    (hk : (∃ e, C.P.underlying u = some (.slice e)) ∨ C.P.underlying u = some .string) : ∃ news, eachR (SV.emb O R) new = some news ∧ Src C.P sz u Y n news w := by
  have nil : ∀ (a : Option Addr) (c : Nat), Y = .slice a 0 c → n = 0 → new = [] → ∃ news, eachR (SV.emb O R) new = some news ∧ Src C.P sz u Y n news w := by
    intro a c e1 e2 e3
    subst e1 e2 e3
    have hl : ∀ w : World, (Builtin.firstCells sz 0 (.slice a 0 c)).run C.P w = .ok #[] w := fun w => by
      cases a <;> simp [Builtin.firstCells, loadCells, loadCellsFrom]
    exact ⟨[], rfl, hk, fun _ => rfl, hl w, hl w.drew, by simp, fun _ h => by cases h⟩
  cases y <;> simp only [lenV] at hn <;> try (cases hn; done)
  case nils =>
    cases hn; cases hy; cases hf
    exact nil none 0 rfl rfl rfl
  case rest id z eo0 eo =>
    cases hn
    obtain ⟨m, hm, rfl⟩ := rest_emb hy
    simp only [firstC] at hf
    (obtain ⟨g, hh⟩ := cond_some hf; clear hf; have hf := hh; clear hh)
    cases hf
    exact nil _ _ rfl rfl rfl
  case str l =>
    cases hn; cases hy
    simp only [firstC] at hf
    (obtain ⟨g, hh⟩ := cond_some hf; clear hf; have hf := hh; clear hh)
    cases hf
    simp only [Bool.and_eq_true, beq_iff, lenR_eq] at g
    obtain ⟨rfl, _⟩ := g
    rw [lenR_eq]
    have := Src.ofString (P := C.P) w (tx := u) (s := ⟨⟨l⟩⟩)
    refine ⟨_, bytes_cells l, hk, fun _ => rfl, firstCells_string ⟨⟨l⟩⟩ w, firstCells_string ⟨⟨l⟩⟩ w.drew, by simp, fun u hu => ?_⟩
    obtain ⟨_, _, rfl⟩ := List.mem_map.1 hu
    rfl
  case slice id z eo len cp =>
    cases hn
    obtain ⟨m, c, hm, rfl, _, _⟩ := slice_emb hy
    simp only [firstC] at hf
    cases q : z.beq sz with
    | true =>
      rw [q, cond_true] at hf
      have q := beq_iff.1 q
      subst q
      obtain ⟨g1, vs, g2, g3, g4⟩ := loadN_ok hr hf hm
      have hn : ∀ j u, vs[j]? = some u → w.cell? ((⟨m.blk, m.base + eo * z, none⟩ : Addr).add j) = some u := fun j u hu => by rw [Addr.add_eq]; exact g4 j u hu
      exact ⟨vs, g2, hk, fun _ => rfl, run_firstCells_some w z n _ n c vs g3 hn, run_firstCells_some w.drew z n _ n c vs g3 (by simpa using hn), g3, one_all hO g2⟩
    | false =>
      rw [q, cond_false] at hf
      (obtain ⟨g, hh⟩ := cond_some hf; clear hf; have hf := hh; clear hh)
      cases hf
      have g := beq_iff.1 g
      subst g
      exact nil _ _ rfl rfl rfl

/-- A call of a builtin that hands back a value. -/
structure Ran (O : Nat → Value) (N : Nat) (R : Rho) (P : Program) (x : Sem Value) (s : St) (w : World) (v : SV) (s' : St) : Prop where
  run : ∃ R' w' V, x.run P w = .ok V w' ∧ v.emb O R' = some V ∧ Rel O N R' s' w' ∧ Fwd R s w R' s' w'

/-- A block made, where nothing is known of the old one. -/
theorem alloc_new (hr : Rel O N R s w) {b : Blk} {m : M} {o : Obj} {d : Nat} (hm : m.blk = w.heap.size) (hb : BlkOk O (upd R s.next m) m b (some o)) (hn : b.notRo := by trivial) :
    Rel O N (upd R s.next m) ⟨s.h.set s.next b, s.next + 1⟩ { w with heap := w.heap.push o, drawn := d } ∧ Fwd R s w (upd R s.next m) ⟨s.h.set s.next b, s.next + 1⟩ { w with heap := w.heap.push o, drawn := d } := by
  have ho : ∀ k, k < w.heap.size → (w.heap.push o)[k]? = w.heap[k]? := fun k hk => by rw [Array.getElem?_push, if_neg (by omega)]
  have hs : w.heap.size < (w.heap.push o).size := by simp
  refine ⟨hr.new b m hs ho (by omega) (by simp [hm]) ?_ hn, Fwd.new hr b m rfl rfl rfl hs ho (by omega)⟩
  show BlkOk O _ m b (w.heap.push o)[m.blk]?
  rw [hm, Array.getElem?_push, if_pos rfl]
  exact hb

theorem take_drop_get {α : Type} (l : List α) (o n i : Nat) (h : i < n) : ((l.drop o).take n)[i]? = l[o + i]? := by
  rw [List.getElem?_take, if_pos h, List.getElem?_drop]

theorem has_grown {c : Ct SV} {n : Nat} {new : List SV} (h : c.Has n) : (c.put n new).Has (n + new.length) := by
  cases c with
  | ls x =>
    show _ ≤ (spliceR x n new).length
    have h : n ≤ x.length := h
    rw [Ct.splice_eq]
    simp only [List.length_append, List.length_take, List.length_drop]
    omega
  | tr t => trivial

/-- AN APPEND WHOSE ROOM IS NOT KNOWN. -/
theorem moved_ok (hC : C.Ok) (hO : Plain O) (hr : Rel O N R s w) {t u e : Nat} {i : TypeInfo} {z : AV} (ht : C.und t = some (.slice e)) (hi : C.ty e = some i) (hz : C.zero e = some z) (hzs : z.cells.length = i.size) (hpos : 0 < i.size)
    {id eo len n : Nat} {new : List SV} {r : SV} {s' : St} (h : moved s id i.size eo len e new = some (r, s')) {m : M} (hm : R id = some m) {A : Addr} {cap : Nat} (hcap : cap = m.cap - eo) (hle : eo + len ≤ m.cap ∨ len = 0)
    (hA : 0 < cap → A = ⟨m.blk, m.base + eo * i.size, none⟩) {Y : Value} {news : List Value} (hnew : eachR (SV.emb O R) new = some news) (hs : Src C.P i.size u Y n news w) (h0 : 0 < n)
    (hfit : (2 * (len + n) + 1000) * i.bytes ≤ 281474976710656) (h63 : len + n ≤ 1073741824) (ty : Nat) :
    Ran O N R C.P (Builtin.append_ #[t, u] ty #[.slice (some A) len cap, Y]) s w r s' := by
  unfold moved at h
  split at h
  case h_2 => cases h
  rename_i nn c sz ex fz et hb
  (obtain ⟨g, hh⟩ := cond_some h; clear h; have h := hh; clear hh)
  simp only [Bool.and_eq_true, beq_iff, ble_iff] at g
  obtain ⟨⟨⟨rfl, rfl⟩, g3⟩, g4⟩ := g
  obtain ⟨cs, fr, h1, h2⟩ := cells_at hr hb hm
  have hnl : new.length = n * i.size := by rw [← eachR_length hnew]; exact hs.newsLen
  have hnl2 := hs.newsLen
  have hdiv : new.length / i.size = n := by rw [hnl, Nat.mul_div_cancel _ hpos]
  have hsz := h2.size
  have hroom := h2.room
  obtain ⟨ii, Z, hii, hiz, he, hzw⟩ := hC.zero hz
  have hi' := hC.info hi
  rw [hi'] at hii; cases hii
  have hZ := eachR_length (AV.emb_cells hO (he O R))
  rw [Array.length_toList] at hZ
  have hmul : (eo + len) * i.size = eo * i.size + len * i.size := Nat.add_mul _ _ _
  have hmul2 : (eo + len + n) * i.size = eo * i.size + len * i.size + n * i.size := by rw [Nat.add_mul, Nat.add_mul]
  rw [hmul] at g3 g4
  -- the cells that were there
  obtain ⟨olds, ho1, ho2⟩ : ∃ olds : List Value, olds.length = len * i.size ∧ ∀ j, j < len * i.size → olds[j]? = cs[m.base + eo * i.size + j]? :=
    ⟨(cs.toList.drop (m.base + eo * i.size)).take (len * i.size), by simp only [List.length_take, List.length_drop, Array.length_toList]; omega, fun j hj => by rw [take_drop_get _ _ _ _ hj, Array.getElem?_toList]⟩
  have hlt : Fwd R s w R (s.put id .dead) w := Fwd.kill hm
  by_cases hroomy : len + n ≤ cap
  · have hA := hA (by omega)
    subst hA
    have hcapm : (eo + len + n) * i.size ≤ m.cap * i.size := Nat.mul_le_mul_right _ (by omega)
    rw [hmul2] at hcapm
    have hthere : w.there m.blk (m.base + eo * i.size + len * i.size) news.length := fun j hj => by
      refine ⟨by rw [cell_of h1, Array.getElem?_eq_getElem (by omega)]; rfl, ?_⟩
      rw [frozen_of h1]
      have := h2.warm (by omega) (eo * i.size + len * i.size + j) (by omega) (by omega)
      rw [Bool.and_eq_false_iff]
      simp only [decide_eq_false_iff_not]
      omega
    have hrun := run_append_room_src (P := C.P) w t u ty et i (hC.und ht) hi' m.blk (m.base + eo * i.size) len cap Y n news hs hroomy (fun j hj => (hthere j hj).1) (fun j hj => (hthere j hj).2)
    obtain ⟨cs', k1, k2, k3⟩ := setCells_heap news (m.base + eo * i.size + len * i.size) w cs h1
    have hturn := setCells_turned m.blk news (m.base + eo * i.size + len * i.size) w
    cases q : (eo.beq 0 && nn.beq (len * i.size)) with
    | true =>
      rw [q, cond_true] at h
      simp only [Bool.and_eq_true, beq_iff] at q
      obtain ⟨rfl, rfl⟩ := q
      have hcell : CellsOk O R m (len * i.size + new.length) (c.put (len * i.size) new) i.size false fz cs' fr := by
        refine { h2 with cell := fun j v hj hg => ?_, size := (by rw [k2]; omega), room := (by rw [k2]; exact hroom), fits := (by omega), exact := (fun e => by cases e), cold := (fun e => by rw [k2]; exact h2.cold e),
                         warm := (fun _ j hj hb => h2.warm (by omega) j hj (by rw [← k2]; exact hb)), has := ?_ }
        · rw [Ct.get_put _ _ h2.has] at hg
          by_cases q : len * i.size ≤ j ∧ j < len * i.size + new.length
          · rw [if_pos q] at hg
            obtain ⟨V, v1, v2⟩ := eachR_get hnew _ _ hg
            exact ⟨V, v1, by rw [k3, if_pos (by omega), show m.base + j - (m.base + 0 * i.size + len * i.size) = j - len * i.size by omega]; exact v2⟩
          · rw [if_neg q] at hg
            obtain ⟨V, v1, v2⟩ := h2.cell j v (by omega) hg
            exact ⟨V, v1, by rw [k3, if_neg (by omega)]; exact v2⟩
        · exact has_grown h2.has
      simp only [lenR_eq, hdiv] at h
      cases h
      have hup : Le R (upd R s.next m) := le_upd hr.next_none
      have hb' : BlkOk O R m (.cells (len * i.size + new.length) (c.put (len * i.size) new) i.size false fz et) (w.setCells m.blk (m.base + 0 * i.size + len * i.size) news).heap[m.blk]? := ⟨cs', fr, k1, hcell⟩
      have hrel := hr.same m hb trivial hm rfl hturn.size hturn.other (hb'.mono hup)
      refine ⟨_, _, _, hrun, ?_, hrel, Fwd.same hr _ m hb trivial hm rfl hturn.os hturn.tape hturn.output hturn.size hturn.other⟩
      exact slice_emb_of (m := m) (upd_self _ _ _) (fun k e => by cases e) (fun _ => ⟨by omega, by omega⟩)
    | false =>
      rw [q, cond_false] at h
      (obtain ⟨old, hold, hh⟩ := bind_some h; clear h; have h := hh; clear hh)
      simp only [lenR_eq, hdiv, appR_eq] at h
      cases h
      obtain ⟨g5, g6, g7⟩ := Ct.getL_eq hold
      have hcell : CellsOk O R ⟨m.blk, m.base + eo * i.size, m.cap - eo⟩ (old ++ new).length (.of (old ++ new)) i.size false (cond (fz.beq 0) 0 (max 1 (fz - eo * i.size))) cs' fr := by
        have hcm : (m.cap - eo) * i.size = m.cap * i.size - eo * i.size := Nat.sub_mul _ _ _
        refine { cell := fun j v hj hg => ?_, size := ?_, room := ?_, fits := ?_, exact := (fun e => by cases e), cold := fun e => ?_, warm := fun _ j hj hb => ?_, has := Ct.of_has _ }
        · rw [Ct.get_of] at hg
          show ∃ V, _ ∧ cs'[m.base + eo * i.size + j]? = some V
          by_cases q : j < len * i.size
          · rw [List.getElem?_append_left (by omega), ← g7 j q] at hg
            obtain ⟨V, v1, v2⟩ := h2.cell _ v (by omega) hg
            exact ⟨V, v1, by rw [k3, if_neg (by omega), Nat.add_assoc]; exact v2⟩
          · rw [List.getElem?_append_right (by omega)] at hg
            obtain ⟨V, v1, v2⟩ := eachR_get hnew _ _ hg
            have hlt := (List.getElem?_eq_some_iff.1 v2).1
            exact ⟨V, v1, by rw [k3, if_pos (by omega), show m.base + eo * i.size + j - (m.base + eo * i.size + len * i.size) = j - old.length by omega]; exact v2⟩
        · show m.base + eo * i.size + _ ≤ _
          rw [k2, List.length_append]; omega
        · show m.base + eo * i.size + (m.cap - eo) * i.size ≤ _
          rw [k2, hcm]; omega
        · show _ ≤ (m.cap - eo) * i.size
          rw [hcm, List.length_append]; omega
        · have : fz = 0 := by
            cases q : fz.beq 0 with
            | true => exact beq_iff.1 q
            | false => rw [q, cond_false] at e; omega
          rw [k2]; exact h2.cold this
        · have hj2 : fz ≤ eo * i.size + j := by
            cases q : fz.beq 0 with
            | true => have := beq_iff.1 q; omega
            | false => rw [q, cond_false] at hj; omega
          have hb : m.base + eo * i.size + j < cs'.size := hb
          have := h2.warm (by omega) (eo * i.size + j) hj2 (by rw [← k2]; omega)
          rw [← Nat.add_assoc] at this
          exact this
      have hup : Le R (upd R s.next ⟨m.blk, m.base + eo * i.size, m.cap - eo⟩) := le_upd hr.next_none
      have hb' : BlkOk O R ⟨m.blk, m.base + eo * i.size, m.cap - eo⟩ (.cells (old ++ new).length (.of (old ++ new)) i.size false (cond (fz.beq 0) 0 (max 1 (fz - eo * i.size))) et) (w.setCells m.blk (m.base + eo * i.size + len * i.size) news).heap[m.blk]? := ⟨cs', fr, k1, hcell⟩
      have hrel := hr.same ⟨m.blk, m.base + eo * i.size, m.cap - eo⟩ hb trivial hm rfl hturn.size hturn.other (hb'.mono hup)
      refine ⟨_, _, _, hrun, ?_, hrel, Fwd.same hr _ _ hb trivial hm rfl hturn.os hturn.tape hturn.output hturn.size hturn.other⟩
      have := slice_emb_of (O := O) (id := s.next) (sz := i.size) (eo := 0) (len := len + n) (cp := none) (m := ⟨m.blk, m.base + eo * i.size, m.cap - eo⟩) (c := cap) (upd_self R s.next _) (fun k e => by cases e) (fun _ => ⟨by show cap = m.cap - eo - 0; omega, by show 0 + (len + n) ≤ m.cap - eo; omega⟩)
      refine this.trans ?_
      simp
  · have hold : (Builtin.firstCells i.size len (.slice (some A) len cap)).run C.P w.drew = .ok olds.toArray w.drew := by
      by_cases q : len = 0
      · subst q
        have : olds = [] := List.length_eq_zero_iff.1 (by rw [ho1, Nat.zero_mul])
        subst this
        simp [Builtin.firstCells, loadCells, loadCellsFrom]
      · have hA := hA (by omega)
        subst hA
        refine run_firstCells_some w.drew i.size len _ len cap olds ho1 fun j v hj => ?_
        have hlt := (List.getElem?_eq_some_iff.1 hj).1
        rw [Addr.add_eq, ← hj, ho2 j (by omega)]
        exact cell_of h1 _
    have hcapn : cap < len + n := by omega
    have hnext : Builtin.nextslicecap (len + n) cap * i.bytes ≤ 281474976710656 := by
      refine Nat.le_trans (Nat.mul_le_mul_right _ (Room.nextslicecap_le' hcapn)) (Nat.le_trans (Nat.mul_le_mul_right _ ?_) hfit)
      omega
    have hrun := run_append_grow_src (P := C.P) w t u ty et i Z (hC.und ht) hi' hiz (some A) len cap olds hold Y n news hs hcapn (by omega) hnext
    have hgc : len + n ≤ grownCap w (len + n) cap et := by unfold grownCap Question.cut; exact Nat.le_add_right _ _
    generalize hG : grownCap w (len + n) cap et = G at hrun hgc
    have hGm : (len + n) * i.size + (G - (len + n)) * i.size = G * i.size := by rw [← Nat.add_mul]; congr 1; omega
    have hlm : (len + n) * i.size = len * i.size + n * i.size := Nat.add_mul _ _ _
    have hzz : (Builtin.zeroCells Z.cells (G - (len + n))).size = (G - (len + n)) * i.size := by
      simp [Builtin.zeroCells, hZ, hzs]
    have hobjs : ((olds ++ news).toArray ++ Builtin.zeroCells Z.cells (G - (len + n))).size = G * i.size := by
      rw [Array.size_append, hzz, List.size_toArray, List.length_append, ho1, hnl2]; omega
    have hobj1 : ∀ j, j < len * i.size → ((olds ++ news).toArray ++ Builtin.zeroCells Z.cells (G - (len + n)))[j]? = cs[m.base + eo * i.size + j]? := fun j hj => by
      rw [Array.getElem?_append_left (by rw [List.size_toArray, List.length_append]; omega), List.getElem?_toArray, List.getElem?_append_left (by omega), ho2 j hj]
    have hobj2 : ∀ j, len * i.size ≤ j → j < len * i.size + n * i.size → ((olds ++ news).toArray ++ Builtin.zeroCells Z.cells (G - (len + n)))[j]? = news[j - len * i.size]? := fun j hj hj2 => by
      rw [Array.getElem?_append_left (by rw [List.size_toArray, List.length_append]; omega), List.getElem?_toArray, List.getElem?_append_right (by omega), ho1]
    generalize hO' : (olds ++ news).toArray ++ Builtin.zeroCells Z.cells (G - (len + n)) = oc at hrun hobjs hobj1 hobj2
    have fin : ∀ (k : Nat) (c' : Ct SV) (fz' : Nat), k = len * i.size + n * i.size → c'.Has k →
        (∀ j v, j < len * i.size → c'.get j = some v → c.get (eo * i.size + j) = some v) → (∀ j, len * i.size ≤ j → j < len * i.size + n * i.size → c'.get j = new[j - len * i.size]?) →
        (SV.slice s.next i.size 0 (len + n) none, (⟨(s.put id .dead).h.set s.next (.cells k c' i.size false fz' et), s.next + 1⟩ : St)) = (r, s') →
        Ran O N R C.P (Builtin.append_ #[t, u] ty #[.slice (some A) len cap, Y]) s w r s' := by
      intro k c' fz' hk hhas hg1 hg2 hres
      cases hres
      have hcell : CellsOk O R ⟨w.heap.size, 0, G⟩ k c' i.size false fz' oc (0, 0) := by
        refine { cell := fun j v hj hg => ?_, size := (by show 0 + k ≤ _; rw [hobjs, ← hGm]; omega), room := (by show 0 + G * i.size ≤ _; omega), fits := (by show k ≤ G * i.size; rw [← hGm]; omega), exact := (fun e => by cases e), cold := fun _ => .inl rfl,
                 warm := (fun _ j _ _ q => by have q : 0 ≤ 0 + j ∧ 0 + j < 0 := q; omega), has := hhas }
        show ∃ V, _ ∧ oc[0 + j]? = some V
        rw [Nat.zero_add]
        by_cases q : j < len * i.size
        · obtain ⟨V, v1, v2⟩ := h2.cell _ v (by omega) (hg1 j v q hg)
          exact ⟨V, v1, by rw [hobj1 j q, Nat.add_assoc]; exact v2⟩
        · rw [hg2 j (by omega) (by omega)] at hg
          obtain ⟨V, v1, v2⟩ := eachR_get hnew _ _ hg
          exact ⟨V, v1, by rw [hobj2 j (by omega) (by omega)]; exact v2⟩
      have hb0 : BlkOk O R ⟨w.heap.size, 0, G⟩ (.cells k c' i.size false fz' et) (some (.cells oc et (0, 0))) := ⟨oc, (0, 0), rfl, hcell⟩
      have hb' := hb0.mono (le_upd (m := ⟨w.heap.size, 0, G⟩) hr.next_none)
      have key := alloc_new (hr.kill hm) (d := w.drawn + 1) rfl hb'
      refine ⟨_, _, _, hrun, ?_, key.1, hlt.trans key.2⟩
      have := slice_emb_of (O := O) (id := s.next) (sz := i.size) (eo := 0) (len := len + n) (cp := none) (m := ⟨w.heap.size, 0, G⟩) (c := G) (upd_self R s.next _) (fun k e => by cases e) (fun _ => ⟨rfl, by show 0 + (len + n) ≤ G; omega⟩)
      refine this.trans ?_
      simp
    cases q : (eo.beq 0 && nn.beq (len * i.size)) with
    | true =>
      rw [q, cond_true] at h
      simp only [Bool.and_eq_true, beq_iff] at q
      obtain ⟨rfl, rfl⟩ := q
      simp only [lenR_eq, hdiv] at h
      refine fin _ _ _ ?_ (has_grown (new := new) h2.has) (fun j v hj hg => ?_) (fun j hj hj2 => ?_) (Option.some.inj h)
      · omega
      · rw [Ct.get_put _ _ h2.has, if_neg (by omega)] at hg
        rw [Nat.zero_mul, Nat.zero_add]; exact hg
      · rw [Ct.get_put _ _ h2.has, if_pos (by omega)]
    | false =>
      rw [q, cond_false] at h
      (obtain ⟨old, hold', hh⟩ := bind_some h; clear h; have h := hh; clear hh)
      simp only [lenR_eq, hdiv, appR_eq] at h
      obtain ⟨g5, g6, g7⟩ := Ct.getL_eq hold'
      refine fin _ _ _ ?_ (Ct.of_has (old ++ new)) (fun j v hj hg => ?_) (fun j hj hj2 => ?_) (Option.some.inj h)
      · rw [List.length_append]; omega
      · rw [Ct.get_of, List.getElem?_append_left (by omega)] at hg
        rw [g7 j hj]; exact hg
      · rw [Ct.get_of, List.getElem?_append_right (by omega), g5]

theorem fresh_eq (s : St) (l : List SV) (sz : Nat) (ex : Bool) (et : Nat) : fresh s l sz ex et = (s.next, ⟨s.h.set s.next (.cells l.length (.of l) sz ex 0 et), s.next + 1⟩) := by
  unfold fresh St.new
  rw [lenR_eq]

/-- .. that has to make a new row: a slice of which all is known. -/
theorem grow_ok (hC : C.Ok) (hO : Plain O) (hr : Rel O N R s w) {t u e : Nat} {i : TypeInfo} {z : AV} (ht : C.und t = some (.slice e)) (hi : C.ty e = some i) (hz : C.zero e = some z) (hzs : z.cells.length = i.size)
    {base : Option Addr} {len cap n : Nat} {old new : List SV} {olds : List Value} (ho : eachR (SV.emb O R) old = some olds) (hol : old.length = len * i.size)
    (hold : (Builtin.firstCells i.size len (.slice base len cap)).run C.P w.drew = .ok olds.toArray w.drew) {Y : Value} {news : List Value} (hnew : eachR (SV.emb O R) new = some news) (hs : Src C.P i.size u Y n news w)
    (hcapn : cap < len + n) (hfit : (2 * (len + n) + 1000) * i.bytes ≤ 281474976710656) (h63 : len + n ≤ 1073741824) (ty : Nat) :
    Ran O N R C.P (Builtin.append_ #[t, u] ty #[.slice base len cap, Y]) s w (.slice s.next i.size 0 (len + n) none) ⟨s.h.set s.next (.cells (old ++ new).length (.of (old ++ new)) i.size false 0 e), s.next + 1⟩ := by
  obtain ⟨ii, Z, hii, hiz, he, hzw⟩ := hC.zero hz
  have hi' := hC.info hi
  rw [hi'] at hii; cases hii
  have hZ := eachR_length (AV.emb_cells hO (he O R))
  rw [Array.length_toList] at hZ
  have hnl := eachR_length hnew
  have hnl2 := hs.newsLen
  have holl := eachR_length ho
  have hnext : Builtin.nextslicecap (len + n) cap * i.bytes ≤ 281474976710656 := by
    refine Nat.le_trans (Nat.mul_le_mul_right _ (Room.nextslicecap_le' hcapn)) (Nat.le_trans (Nat.mul_le_mul_right _ ?_) hfit)
    omega
  have hrun := run_append_grow_src (P := C.P) w t u ty e i Z (hC.und ht) hi' hiz base len cap olds hold Y n news hs hcapn (by omega) hnext
  have hgc : len + n ≤ grownCap w (len + n) cap e := by unfold grownCap Question.cut; exact Nat.le_add_right _ _
  generalize hG : grownCap w (len + n) cap e = G at hrun hgc
  have hGm : (len + n) * i.size + (G - (len + n)) * i.size = G * i.size := by rw [← Nat.add_mul]; congr 1; omega
  have hlm : (len + n) * i.size = len * i.size + n * i.size := Nat.add_mul _ _ _
  have hzz : (Builtin.zeroCells Z.cells (G - (len + n))).size = (G - (len + n)) * i.size := by
    simp [Builtin.zeroCells, hZ, hzs]
  have hobjs : ((olds ++ news).toArray ++ Builtin.zeroCells Z.cells (G - (len + n))).size = G * i.size := by
    rw [Array.size_append, hzz, List.size_toArray, List.length_append]; omega
  have hcell := cellsOk_new (O := O) (R := R) (l := old ++ new) (vs := olds ++ news) (rest := (Builtin.zeroCells Z.cells (G - (len + n))).toList) (eachR_append ho hnew)
    (cs := (olds ++ news).toArray ++ Builtin.zeroCells Z.cells (G - (len + n))) (by simp) (c := .of (old ++ new)) (fun i => Ct.get_of _ _) (Ct.of_has _) (b := w.heap.size) (cap := G) (sz := i.size) (ex := false) (fr := (0, 0))
    (by omega) (by rw [List.length_append]; omega) (fun e => by cases e) (.inl rfl)
  have hb0 : BlkOk O R ⟨w.heap.size, 0, G⟩ (.cells (old ++ new).length (.of (old ++ new)) i.size false 0 e) (some (.cells ((olds ++ news).toArray ++ Builtin.zeroCells Z.cells (G - (len + n))) e (0, 0))) := ⟨_, (0, 0), rfl, hcell⟩
  have hb' := hb0.mono (le_upd (m := ⟨w.heap.size, 0, G⟩) hr.next_none)
  have key := alloc_new hr (d := w.drawn + 1) rfl hb'
  refine ⟨_, _, _, hrun, ?_, key.1, key.2⟩
  have := slice_emb_of (O := O) (id := s.next) (sz := i.size) (eo := 0) (len := len + n) (cp := none) (m := ⟨w.heap.size, 0, G⟩) (c := G) (upd_self R s.next _) (fun k e => by cases e) (fun _ => ⟨rfl, by show 0 + (len + n) ≤ G; omega⟩)
  refine this.trans ?_
  simp

theorem room_ok (hC : C.Ok) (hr : Rel O N R s w) {t u e : Nat} {i : TypeInfo} (ht : C.und t = some (.slice e)) (hi : C.ty e = some i)
    {id eo len cap n : Nat} {new : List SV} {s' : St} {m : M} (hm : R id = some m) {Y : Value} {news : List Value} (hnew : eachR (SV.emb O R) new = some news) (hs : Src C.P i.size u Y n news w)
    (hst : s.storeL id ((eo + len) * i.size) new = some s') (hroom : len + n ≤ cap) (ty : Nat) {r : SV} (hres : r.emb O R = some (.slice (some ⟨m.blk, m.base + eo * i.size, none⟩) (len + n) cap)) :
    Ran O N R C.P (Builtin.append_ #[t, u] ty #[.slice (some ⟨m.blk, m.base + eo * i.size, none⟩) len cap, Y]) s w r s' := by
  obtain ⟨k1, k2, k3⟩ := storeL_ok hr hst hm hnew
  have e1 : m.base + (eo + len) * i.size = m.base + eo * i.size + len * i.size := by rw [Nat.add_mul, Nat.add_assoc]
  rw [e1] at k1 k2 k3
  exact ⟨R, _, _, run_append_room_src (P := C.P) w t u ty e i (hC.und ht) (hC.info hi) m.blk (m.base + eo * i.size) len cap Y n news hs hroom (fun j hj => (k1 j hj).1) (fun j hj => (k1 j hj).2), hres, k2, k3⟩

theorem appendB_ok (hC : C.Ok) (hO : Plain O) (hr : Rel O N R s w) {t u : Nat} {x y r : SV} {s' : St} (h : appendB C s t x y = some (r, s')) {X Y : Value} (hx : x.emb O R = some X) (hy : y.emb O R = some Y)
    (hk : (∃ e, C.P.underlying u = some (.slice e)) ∨ C.P.underlying u = some .string) (ty : Nat) : Ran O N R C.P (Builtin.append_ #[t, u] ty #[X, Y]) s w r s' := by
  unfold appendB at h
  cases ht : C.und t with
  | none => simp [ht] at h
  | some d =>
    cases d <;> simp only [ht] at h <;> try (cases h; done)
    rename_i e
    (obtain ⟨i, hi, hh⟩ := bind_some h; clear h; have h := hh; clear hh)
    (obtain ⟨z, hz, hh⟩ := bind_some h; clear h; have h := hh; clear hh)
    (obtain ⟨g, hh⟩ := cond_none h; clear h; have h := hh; clear hh)
    simp only [Bool.or_eq_false_iff, Bool.not_eq_false', beq_iff, lenR_eq] at g
    obtain ⟨g1, hzs⟩ := g
    have hpos : 0 < i.size := Nat.pos_of_ne_zero (beq_false g1)
    (obtain ⟨n, hn, hh⟩ := bind_some h; clear h; have h := hh; clear hh)
    (obtain ⟨new, hf, hh⟩ := bind_some h; clear h; have h := hh; clear hh)
    obtain ⟨news, hnew, hs⟩ := src_ok hO hr hn hf hy hk
    have hi' := hC.info hi
    split at h
    · cases hx
      cases q : n.beq 0 with
      | true =>
        rw [q, cond_true] at h
        cases h
        have q := beq_iff.1 q
        subst q
        have hnil : news = [] := List.length_eq_zero_iff.1 (by rw [hs.newsLen, Nat.zero_mul])
        subst hnil
        exact ⟨R, w, _, run_append_nothing w t u ty e i (hC.und ht) hi' none 0 0 (Nat.le_refl _) Y hs, rfl, hr, Fwd.refl _ _ _⟩
      | false =>
        rw [q, cond_false] at h
        (obtain ⟨g, hh⟩ := cond_some h; clear h; have h := hh; clear hh)
        simp only [Bool.and_eq_true, ble_iff] at g
        rw [fresh_eq] at h
        cases h
        have := beq_false q
        have := grow_ok hC hO hr ht hi hz hzs (base := none) (len := 0) (cap := 0) (old := []) (olds := []) rfl (by simp) (by simp [Builtin.firstCells]) hnew hs (by omega) (by rw [Nat.zero_add]; exact g.1) (by omega) ty
        simpa using this
    · rename_i id sz eo len cp
      (obtain ⟨g, hh⟩ := cond_some h; clear h; have h := hh; clear hh)
      have g := beq_iff.1 g
      subst g
      obtain ⟨m, c, hm, rfl, k1, k2⟩ := slice_emb hx
      split at h
      · rename_i k hcK
        have := capK_ok hr hcK hm hpos k1 k2
        subst this
        cases q : Nat.ble (len + n) c with
        | true =>
          rw [q, cond_true] at h
          (obtain ⟨s1, hst, hh⟩ := bind_some h; clear h; have h := hh; clear hh)
          cases h
          exact room_ok hC hr ht hi hm hnew hs hst (ble_iff.1 q) ty (slice_emb_of hm (fun k e => Option.some.inj e) (fun e => by cases e))
        | false =>
          rw [q, cond_false] at h
          (obtain ⟨g, hh⟩ := cond_some h; clear h; have h := hh; clear hh)
          simp only [Bool.and_eq_true, ble_iff] at g
          (obtain ⟨old, hold, hh⟩ := bind_some h; clear h; have h := hh; clear hh)
          rw [fresh_eq, appR_eq] at h
          cases h
          obtain ⟨g5, olds, g6, g7, g8⟩ := loadN_ok hr hold hm
          have q : ¬ (len + n ≤ c) := fun e => by rw [ble_iff.2 e] at q; cases q
          refine grow_ok hC hO hr ht hi hz hzs g6 g5 ?_ hnew hs (by omega) g.1 g.2 ty
          exact run_firstCells_some w.drew i.size len _ len c olds g7 (fun j v hj => by rw [Addr.add_eq]; exact g8 j v hj)
      · rename_i hcK
        have hcp : cp = none := by
          cases cp with
          | none => rfl
          | some _ => simp [capK] at hcK
        subst hcp
        obtain ⟨k3, k4⟩ := k2 rfl
        split at h
        · rename_i low hlow
          have hl := capLow_ok hr hlow hm k1 k2
          cases q : Nat.ble (len + n) low with
          | true =>
            rw [q, cond_true] at h
            (obtain ⟨s1, hst, hh⟩ := bind_some h; clear h; have h := hh; clear hh)
            cases h
            have q := ble_iff.1 q
            exact room_ok hC hr ht hi hm hnew hs hst (by omega) ty (slice_emb_of hm (fun k e => by cases e) (fun _ => ⟨k3, by omega⟩))
          | false =>
            rw [q, cond_false] at h
            (obtain ⟨g, hh⟩ := cond_some h; clear h; have h := hh; clear hh)
            simp only [Bool.and_eq_true, ble_iff, Bool.not_eq_true'] at g
            obtain ⟨⟨g2, g3⟩, g4⟩ := g
            have := beq_false g4
            exact moved_ok hC hO hr ht hi hz hzs hpos h hm k3 (.inl k4) (fun _ => rfl) hnew hs (by omega) g2 g3 ty
        · cases h
    · rename_i id sz eo0 eo
      obtain ⟨m, hm, rfl⟩ := rest_emb hx
      cases q : n.beq 0 with
      | true =>
        rw [q, cond_true] at h
        cases h
        have q := beq_iff.1 q
        subst q
        have hnil : news = [] := List.length_eq_zero_iff.1 (by rw [hs.newsLen, Nat.zero_mul])
        subst hnil
        exact ⟨R, w, _, run_append_nothing w t u ty e i (hC.und ht) hi' _ 0 _ (Nat.zero_le _) Y hs, hx, hr, Fwd.refl _ _ _⟩
      | false =>
        rw [q, cond_false] at h
        (obtain ⟨g, hh⟩ := cond_some h; clear h; have h := hh; clear hh)
        simp only [Bool.and_eq_true, beq_iff, ble_iff] at g
        obtain ⟨⟨rfl, g2⟩, g3⟩ := g
        have := beq_false q
        exact moved_ok hC hO hr ht hi hz hzs hpos h hm rfl (.inr rfl) (fun h => by rw [if_neg (by omega)]) hnew hs (by omega) (by rw [Nat.zero_add]; exact g2) (by omega) ty
    · cases h

end
end Go.Ev

/- copy, unsafe.String, a map's entry. -/
namespace Go.Ev
open Go.RowKit

section
variable {C : Ctx} {O : Nat → Value} {R : Rho} {f : Fr} {fr : Frame} {N : Nat} {s : St} {w : World}

/-- The first cells of a slice. -/
theorem firstC_ok (_hO : Plain O) (hr : Rel O N R s w) {y : SV} {Y : Value} {sz n k : Nat} {new : List SV} (hn : lenV y = some n) (hf : firstC s sz k y = some new) (hy : y.emb O R = some Y) (hstr : ∀ l, y ≠ .str l) (hk : k ≤ n) :
    ∃ news, eachR (SV.emb O R) new = some news ∧ (Builtin.lenOf Y).run C.P w = .ok n w ∧ (Builtin.firstCells sz k Y).run C.P w = .ok news.toArray w ∧ ∃ a c, Y = .slice a n c := by
  have nil : ∀ (a : Option Addr) (c : Nat), (Builtin.firstCells sz 0 (.slice a n c)).run C.P w = .ok #[] w := fun a c => by
    cases a <;> simp [Builtin.firstCells, loadCells, loadCellsFrom]
  cases y <;> simp only [lenV] at hn <;> try (cases hn; done)
  case nils =>
    cases hn; cases hy; cases hf
    have : k = 0 := by omega
    subst this
    exact ⟨[], rfl, rfl, nil _ _, _, _, rfl⟩
  case rest id z eo0 eo =>
    cases hn
    obtain ⟨m, hm, rfl⟩ := rest_emb hy
    simp only [firstC] at hf
    (obtain ⟨g, hh⟩ := cond_some hf; clear hf; have hf := hh; clear hh)
    cases hf
    have g := beq_iff.1 g
    subst g
    exact ⟨[], rfl, rfl, nil _ _, _, _, rfl⟩
  case str l => exact absurd rfl (hstr l)
  case slice id z eo len cp =>
    cases hn
    obtain ⟨m, c, hm, rfl, _, _⟩ := slice_emb hy
    simp only [firstC] at hf
    cases q : z.beq sz with
    | true =>
      rw [q, cond_true] at hf
      have q := beq_iff.1 q
      subst q
      obtain ⟨g1, vs, g2, g3, g4⟩ := loadN_ok hr hf hm
      have hn : ∀ j u, vs[j]? = some u → w.cell? ((⟨m.blk, m.base + eo * z, none⟩ : Addr).add j) = some u := fun j u hu => by rw [Addr.add_eq]; exact g4 j u hu
      exact ⟨vs, g2, rfl, run_firstCells_some w z k _ _ c vs g3 hn, _, _, rfl⟩
    | false =>
      rw [q, cond_false] at hf
      (obtain ⟨g, hh⟩ := cond_some hf; clear hf; have hf := hh; clear hh)
      cases hf
      have g := beq_iff.1 g
      subst g
      exact ⟨[], rfl, rfl, nil _ _, _, _, rfl⟩

theorem copyB_ok (hC : C.Ok) (hO : Plain O) (hr : Rel O N R s w) {t u : Nat} {x y r : SV} {s' : St} (h : copyB C s t x y = some (r, s')) {X Y : Value} (hx : x.emb O R = some X) (hy : y.emb O R = some Y) (ty : Nat) :
    Ran O N R C.P (Builtin.copy_ #[t, u] ty #[X, Y]) s w r s' := by
  unfold copyB at h
  cases ht : C.und t with
  | none => simp [ht] at h
  | some d =>
    cases d <;> simp only [ht] at h <;> try (cases h; done)
    rename_i e
    (obtain ⟨sz, hsz, hh⟩ := bind_some h; clear h; have h := hh; clear hh)
    (obtain ⟨dn, hdn, hh⟩ := bind_some h; clear h; have h := hh; clear hh)
    (obtain ⟨n, hn, hh⟩ := bind_some h; clear h; have h := hh; clear hh)
    split at h
    · cases h
    · rename_i hstr
      (obtain ⟨cells, hf, hh⟩ := bind_some h; clear h; have h := hh; clear hh)
      obtain ⟨news, g1, g2, g3, a, c, rfl⟩ := firstC_ok (C := C) hO hr hn hf hy hstr (Nat.min_le_left _ _)
      have hmin : Nat.min n dn = min n dn := rfl
      have none_ok : ∀ c', (Builtin.copy_ #[t, u] ty #[.slice none dn c', .slice a n c]).run C.P w = .ok (.int .i64 (min n dn : Nat)) w := fun c' => by
        simp [Builtin.copy_, run_underlying (hC.und ht), g2, hC.sizeOf hsz, hmin, g3, goInt]
      have some_ok : ∀ (b o c' : Nat) (w' : World), (storeCells ⟨b, o, none⟩ news).run C.P w = .ok () w' → (Builtin.copy_ #[t, u] ty #[.slice (some ⟨b, o, none⟩) dn c', .slice a n c]).run C.P w = .ok (.int .i64 (min n dn : Nat)) w' := fun b o c' w' hst => by
        simp [Builtin.copy_, run_underlying (hC.und ht), g2, hC.sizeOf hsz, hmin, g3, hst, goInt]
      split at h
      · cases h; cases hx; cases hdn
        exact ⟨R, w, _, none_ok _, rfl, hr, Fwd.refl _ _ _⟩
      · cases h; cases hdn
        obtain ⟨m, hm, rfl⟩ := rest_emb hx
        have hnil : news = [] := by
          have h0 : min n 0 = 0 := Nat.min_zero n
          have : news.toArray = #[] := by
            have e : (Builtin.firstCells sz 0 (.slice a n c)).run C.P w = .ok #[] w := by cases a <;> simp [Builtin.firstCells, loadCells, loadCellsFrom]
            rw [h0, e] at g3
            injection g3 with g3 _
            exact g3.symm
          simpa using this
        exact ⟨R, w, _, some_ok _ _ _ w (by rw [hnil]; rfl), rfl, hr, Fwd.refl _ _ _⟩
      · rename_i id z eo len cp
        (obtain ⟨g, hh⟩ := cond_some h; clear h; have h := hh; clear hh)
        have g := beq_iff.1 g
        subst g
        (obtain ⟨s1, hst, hh⟩ := bind_some h; clear h; have h := hh; clear hh)
        cases h; cases hdn
        obtain ⟨m, c', hm, rfl, _, _⟩ := slice_emb hx
        obtain ⟨k1, k2, k3⟩ := storeL_ok hr hst hm g1
        exact ⟨R, _, _, some_ok _ _ _ _ (run_storeCells_there k1 (one_all hO g1)), rfl, k2, k3⟩
      · cases h

theorem sameLayout_self (P : Program) (d t : Nat) : sameLayout P (d + 1) t t = true := by
  unfold sameLayout
  simp

theorem liesAt_off {P : Program} {e : TypeId} (hc : P.cellsOf e = 1) (count off n : Nat) (h : off + n ≤ count) : liesAt P P.depth e count off e n = true := by
  have hd : P.depth = (2 * (P.types.size + Made.depth) + 1) + 1 := rfl
  rw [hd]
  unfold liesAt
  rw [Bool.or_eq_true]
  left
  rw [hd]
  unfold rowAt
  simp only [hc]
  rw [if_neg (by omega)]
  simp [sameLayout_self, h, Nat.mod_one]

theorem run_loadBytes_at {P : Program} (b : Nat) : ∀ (ns : List Int) (o : Nat) (acc : ByteArray), (∀ j x, ns[j]? = some x → w.cell? ⟨b, o + j, none⟩ = some (.int .u8 x)) →
    (loadBytes ⟨b, o, none⟩ acc ns.length).run P w = .ok ⟨acc.data ++ (ns.map fun n => UInt8.ofNat n.toNat).toArray⟩ w
  | [], o, acc, _ => by simp [loadBytes]
  | n :: ns, o, acc, h => by
    have h0 : w.cell? ⟨b, o, none⟩ = some (.int .u8 n) := h 0 n rfl
    have ih := run_loadBytes_at (P := P) b ns (o + 1) (acc.push n.toNat.toUInt8) (fun j x hj => by rw [show o + 1 + j = o + (j + 1) by omega]; exact h (j + 1) x (by simpa using hj))
    simp only [List.length_cons, loadBytes, Sem.run_bind, run_load, h0, Result.andThen_ok, Addr.add_eq, ih]
    congr 2
    simp [ByteArray.push]

/-- unsafe.String over cells of a row of bytes. -/
theorem run_unsafeString_at {P : Program} (pt it ty e : TypeId) (hp : P.underlying pt = some (.pointer e)) (hc : P.cellsOf e = 1) (g o cells : Nat) (hsh : w.shape? g = some (e, cells)) (l : List Int) (h0 : 0 < l.length) (hn : o + l.length ≤ cells) (h63 : l.length ≤ 1073741824)
    (hcell : ∀ j x, l[j]? = some x → w.cell? ⟨g, o + j, none⟩ = some (.int .u8 x)) :
    (Builtin.unsafeString_ #[pt, it] ty #[.pointer (some ⟨g, o, none⟩), .int .i64 l.length]).run P w = .ok (.string ⟨(l.map fun n => UInt8.ofNat n.toNat).toArray⟩) (w.freeze ⟨g, o, none⟩ l.length) := by
  have hl : l.length ≠ 0 := by omega
  have hlb := run_loadBytes_at (P := P) g l o .empty hcell
  have hlies := liesAt_off (P := P) hc (cells / P.cellsOf e) o l.length (by rw [hc]; simpa using hn)
  have h63' : ¬ (9223372036854775807 : Int) < (l.length : Int) := by omega
  have hdef : Builtin.unsafeString_ #[pt, it] ty #[.pointer (some ⟨g, o, none⟩), .int .i64 l.length] =
      (do
        let n ← asInt (.int .i64 l.length)
        if n < 0 then runtimePanic (.error "unsafe.String: len out of range")
        if n > IntKind.i64.max then unsupported (.unsafePointer "String: a length above the largest int")
        if n = 0 then pure (.string .empty)
        else if ← variablesAt ⟨g, o, none⟩ (← elemOf pt) n.toNat then do
          let s ← loadBytes ⟨g, o, none⟩ .empty n.toNat
          freeze ⟨g, o, none⟩ n.toNat
          pure (.string s)
        else unsupported (.unsafePointer "String: not so many bytes at ptr")) := rfl
  rw [hdef]
  have hmax : IntKind.i64.max = 9223372036854775807 := rfl
  have hneg : ¬ (l.length : Int) < 0 := by omega
  simp [asInt, asIntOf, hmax, h63', hneg, hl, variablesAt, hsh, elemOf, run_underlying hp, hlies, hlb]

theorem freeze_turned (w : World) (b o n : Nat) : Turned w (w.freeze ⟨b, o, none⟩ n) b := by
  unfold World.freeze
  split
  · exact Turned.refl w b
  · refine ⟨rfl, rfl, rfl, by simp, fun k hk => ?_⟩
    simp only [Array.getElem?_modify]
    rw [if_neg (fun e => hk e.symm)]

theorem freeze_heap {b : Nat} {cs : Array Value} {et : Nat} {fz : Nat × Nat} (h : w.heap[b]? = some (.cells cs et fz)) (o n : Nat) (h0 : 0 < n) : ∃ fz', (w.freeze ⟨b, o, none⟩ n).heap[b]? = some (.cells cs et fz') := by
  unfold World.freeze
  rw [if_neg (by omega)]
  simp only [Array.getElem?_modify, if_true, h, Option.map_some]
  exact ⟨_, rfl⟩

theorem unsafeStringB_ok (hC : C.Ok) (hr : Rel O N R s w) {t u : Nat} {p n r : SV} {s' : St} (h : unsafeStringB C s t p n = some (r, s')) {X Y : Value} (hx : p.emb O R = some X) (hy : n.emb O R = some Y) (ty : Nat) :
    Ran O N R C.P (Builtin.unsafeString_ #[t, u] ty #[X, Y]) s w r s' := by
  unfold unsafeStringB at h
  split at h
  case h_2 => cases h
  rename_i n
  cases hy
  cases q : (n == 0) with
  | true =>
    rw [q, cond_true] at h
    have q : n = 0 := by simpa using q
    subst q
    split at h
    · cases h; cases hx
      exact ⟨R, w, _, Lib.run_unsafeString_none w t u ty none, rfl, hr, Fwd.refl _ _ _⟩
    · cases h
      obtain ⟨m, hm, rfl⟩ := ptr_emb hx
      exact ⟨R, w, _, Lib.run_unsafeString_none w t u ty _, rfl, hr, Fwd.refl _ _ _⟩
    · cases h
  | false =>
    rw [q, cond_false] at h
    split at h
    · rename_i id off u' hu
      split at h
      · rename_i k c sz ex fz et hb
        (obtain ⟨g, hh⟩ := cond_some h; clear h; have h := hh; clear hh)
        simp only [Bool.and_eq_true, beq_iff, blt_iff, decide_eq_true_eq] at g
        obtain ⟨⟨⟨rfl, g2⟩, g3⟩, g4⟩ := g
        (obtain ⟨l, hl, hh⟩ := bind_some h; clear h; have h := hh; clear hh)
        (obtain ⟨b, hbs, hh⟩ := bind_some h; clear h; have h := hh; clear hh)
        cases h
        obtain ⟨m, hm, rfl⟩ := ptr_emb hx
        obtain ⟨g5, vs, g6, g7, g8⟩ := loadN_ok hr (by unfold St.loadN; rw [hb]; exact hl) hm
        obtain ⟨ns, rfl, rfl⟩ := bytes_emb hbs g6
        rw [List.length_map] at g7
        obtain ⟨cs, fz', h1, h2⟩ := cells_at hr hb hm
        obtain ⟨g9, g10, _⟩ := Ct.getL_eq hl
        have hsz := h2.size
        have hlen : n = (ns.length : Int) := by omega
        have hrun := run_unsafeString_at (P := C.P) (w := w) t u ty et (hC.und hu) g2 m.blk (m.base + off) cs.size (by simp [World.shape?, h1]) ns (by omega) (by have := g10 (by omega); omega) (by omega)
          (fun j x hj => g8 j _ (by rw [List.getElem?_map, hj]; rfl))
        have ht := freeze_turned w m.blk (m.base + off) ns.length
        obtain ⟨fz'', hf⟩ := freeze_heap h1 (m.base + off) ns.length (by omega)
        refine ⟨R, _, _, by rw [hlen]; exact hrun, rfl, hr.put hb trivial hm ht.size ht.other ⟨cs, fz'', hf, ?_⟩, Fwd.put hb trivial hm ht.os ht.tape ht.output ht.size ht.other⟩
        exact { h2 with cold := fun e => (by cases e), warm := fun e => absurd e (Nat.not_succ_le_self _) }
      · cases h
    · cases h

theorem builtinB_ok (hC : C.Ok) (hO : Plain O) (hr : Rel O N R s w) {b : Builtin} {ts : Array Nat} {l : List SV} {r : SV} {s' : St} (h : builtinB C s b ts.toList l = some (r, s')) {vs : Array Value} (hv : eachR (SV.emb O R) l = some vs.toList)
    (ty : Nat) (cs : Array Bool) : Does O N R C.P (builtin b ts ty cs vs) s w (.v (.s r)) s' := by
  have lift : ∀ (x : Sem Value), Ran O N R C.P x s w r s' → Does O N R C.P (do pure (.value (← x))) s w (.v (.s r)) s' := fun x ⟨R', w', V, h1, h2, h3, h4⟩ =>
    ⟨R', w', V, .value V, by simp [h1], .inl rfl, h2, h3, h4⟩
  unfold builtinB at h
  split at h
  · rename_i t u x y e1
    have hts : ts = #[t, u] := by apply Array.ext'; simpa using e1
    obtain ⟨X, Y, h1, h2, h3⟩ := eachR_two hv
    have hvs : vs = #[X, Y] := by apply Array.ext'; simpa using h3
    subst hts hvs
    refine lift _ ?_
    split at h
    · rename_i e he
      exact appendB_ok hC hO hr h h1 h2 (.inl ⟨e, hC.und he⟩) ty
    · rename_i he
      exact appendB_ok hC hO hr h h1 h2 (.inr (hC.und he)) ty
    · cases h
  · rename_i t u x y e1
    have hts : ts = #[t, u] := by apply Array.ext'; simpa using e1
    obtain ⟨X, Y, h1, h2, h3⟩ := eachR_two hv
    have hvs : vs = #[X, Y] := by apply Array.ext'; simpa using h3
    subst hts hvs
    refine lift _ ?_
    split at h
    · exact copyB_ok hC hO hr h h1 h2 ty
    · cases h
  · rename_i t u x y e1
    have hts : ts = #[t, u] := by apply Array.ext'; simpa using e1
    obtain ⟨X, Y, h1, h2, h3⟩ := eachR_two hv
    have hvs : vs = #[X, Y] := by apply Array.ext'; simpa using h3
    subst hts hvs
    exact lift _ (unsafeStringB_ok hC hr h h1 h2 ty)
  · cases h

end
end Go.Ev

/- A map's entry is set. -/
namespace Go.Ev
open Go.RowKit

section
variable {C : Ctx} {O : Nat → Value} {R : Rho} {f : Fr} {fr : Frame} {N : Nat} {s : St} {w : World}

theorem entry_ok {e : SV × SV × Nat} {E : MapEntry} (h : entryE O R e = some E) : e.1.emb O R = some E.key ∧ e.2.1.emb O R = some E.val ∧ E.born = e.2.2 := by
  unfold entryE at h
  (obtain ⟨k, hk, hh⟩ := bind_some h; clear h; have h := hh; clear hh)
  (obtain ⟨v, hv, hh⟩ := bind_some h; clear h; have h := hh; clear hh)
  cases h
  exact ⟨hk, hv, rfl⟩

theorem entryE_of {k v : SV} {n : Nat} {K V : Value} (hk : k.emb O R = some K) (hv : v.emb O R = some V) : entryE O R (k, v, n) = some ⟨K, V, n⟩ := by
  unfold entryE
  rw [hk, Option.bind_some, hv, Option.bind_some]

theorem findKey_ok {a : List UInt8} : ∀ {es : List (SV × SV × Nat)} {i : Nat} {r : Option (Nat × SV)} {Es : List MapEntry}, findKeyB a es i = some r → eachR (entryE O R) es = some Es →
    (r = none ∧ Instr.findNow .string (.string ⟨⟨a⟩⟩) Es i = some none) ∨ ∃ j v V E, r = some (i + j, v) ∧ Instr.findNow .string (.string ⟨⟨a⟩⟩) Es i = some (some (i + j, V)) ∧ Es[j]? = some E ∧ E.key = .string ⟨⟨a⟩⟩ ∧ j < es.length
  | [], i, r, Es, h, hE => by cases h; cases hE; exact .inl ⟨rfl, rfl⟩
  | e :: es, i, r, Es, h, hE => by
    obtain ⟨E, Es', h1, h2, rfl⟩ := eachR_cons_some hE
    have h : (match e.1 with
      | .str b => cond (eqB a b) (some (some (i, e.2.1))) (findKeyB a es (i + 1))
      | _ => none) = some r := h
    obtain ⟨k1, k2, k3⟩ := entry_ok h1
    split at h
    · rename_i b hb
      rw [hb] at k1
      cases k1' : E.key <;> rw [k1'] at k1 <;> simp only [SV.emb, Option.some.injEq] at k1 <;> try (cases k1; done)
      rename_i y
      injection k1 with k1
      have hs : Instr.sameNow .string (.string ⟨⟨a⟩⟩) E.key = some (eqB a b) := by
        rw [k1', ← k1]
        show some (ByteArray.mk ⟨a⟩ == ByteArray.mk ⟨b⟩) = _
        rw [beq_toListBytes, eqB_eq]
        simp [ByteArray.toList_eq]
      cases q : eqB a b with
      | true =>
        rw [q, cond_true] at h
        cases h
        rw [q] at hs
        rw [eqB_eq] at q
        have q : a = b := by simpa using q
        refine .inr ⟨0, _, E.val, E, rfl, by unfold Instr.findNow; rw [hs]; rfl, rfl, by rw [k1', ← k1, q], by simp⟩
      | false =>
        rw [q, cond_false] at h
        rw [q] at hs
        rcases findKey_ok h h2 with ⟨g1, g2⟩ | ⟨j, v, V, E', g1, g2, g3, g4, g5⟩
        · exact .inl ⟨g1, by unfold Instr.findNow; rw [hs]; exact g2⟩
        · have e1 : i + 1 + j = i + (j + 1) := by omega
          rw [e1] at g1 g2
          exact .inr ⟨j + 1, v, V, E', g1, by unfold Instr.findNow; rw [hs]; exact g2, by simpa using g3, g4, by simpa using g5⟩
    · cases h

theorem setAt_ok {a : List UInt8} {v : SV} {V : Value} (hv : v.emb O R = some V) : ∀ {es : List (SV × SV × Nat)} {j : Nat} {Es : List MapEntry}, eachR (entryE O R) es = some Es → j < es.length →
    eachR (entryE O R) (setAt es j a v) = some (Es.modify j fun e => { e with key := .string ⟨⟨a⟩⟩, val := V })
  | [], j, Es, h, hj => by simp at hj
  | e :: es, 0, Es, h, hj => by
    obtain ⟨E, Es', h1, h2, rfl⟩ := eachR_cons_some h
    obtain ⟨_, _, k3⟩ := entry_ok h1
    show eachR (entryE O R) ((.str a, v, e.2.2) :: es) = _
    refine eachR_cons_of ?_ h2
    rw [entryE_of (k := .str a) rfl hv, ← k3]
  | e :: es, j + 1, Es, h, hj => by
    obtain ⟨E, Es', h1, h2, rfl⟩ := eachR_cons_some h
    show eachR (entryE O R) (e :: setAt es j a v) = _
    exact eachR_cons_of h1 (setAt_ok hv h2 (by simpa using hj))

theorem eMap_ok (hC : C.Ok) (hr : Rel O N R s w) (ht : TmpsOk O R f.t fr.tmps) {t : Nat} {m k v : Operand} {r : TV} {s' : St} (h : eMap C f s t m k v = some (r, s')) {y : Sem Next}
    (hy : y = (do Instr.mapUpdate t (fr.eval m) (fr.eval k) (fr.eval v); pure .skip)) : Does O N R C.P y s w r s' := by
  unfold eMap at h
  (obtain ⟨mv, hm, hh⟩ := bind_some h; clear h; have h := hh; clear hh)
  (obtain ⟨kv, hk, hh⟩ := bind_some h; clear h; have h := hh; clear hh)
  (obtain ⟨vv, hv, hh⟩ := bind_some h; clear h; have h := hh; clear hh)
  (obtain ⟨s1, hs, hh⟩ := bind_some h; clear h; have h := hh; clear hh)
  cases h
  unfold mapUpdateB at hs
  split at hs
  case h_2 => cases hs
  rename_i kt et id a hu
  split at hs
  case h_2 => cases hs
  rename_i es clock hkt hb
  (obtain ⟨q, hq, hh⟩ := bind_some hs; clear hs; have hs := hh; clear hh)
  have hM := evS_ok ht hm
  have hK := evS_ok ht hk
  have hV := evS_ok ht hv
  obtain ⟨mm, hR, e1⟩ := Option.map_eq_some_iff.1 hM
  simp only [SV.emb, Option.some.injEq] at hK
  obtain ⟨_, _, Es, hE, hEs⟩ := hr.live _ _ _ hb trivial hR
  have hlt : mm.blk < w.heap.size := (Array.getElem?_eq_some_iff.1 hE).1
  have hc : (Instr.checkKey false 10000 kt (.string ⟨⟨a⟩⟩)).run C.P w = .ok () w := MapKept.run_checkKey (k := .string ⟨⟨a⟩⟩) (hC.und hkt) (by simp [MapKept.IsKey]) false 9999
  have fin : ∀ (Es' : Array MapEntry) (es' : List (SV × SV × Nat)) (ck : Nat), eachR (entryE O R) es' = some Es'.toList →
      (Instr.mapUpdate t (.map (some mm.blk)) (.string ⟨⟨a⟩⟩) (fr.eval v)).run C.P w = .ok () { w with heap := w.heap.setIfInBounds mm.blk (.map Es' ck) } → Does O N R C.P y s w undefT (s.put id (.map es' ck)) := by
    intro Es' es' ck g1 g2
    have hs : (w.heap.setIfInBounds mm.blk (.map Es' ck)).size = w.heap.size := by simp
    have ho : ∀ k, k ≠ mm.blk → (w.heap.setIfInBounds mm.blk (.map Es' ck))[k]? = w.heap[k]? := fun k hk => by
      rw [Array.getElem?_setIfInBounds, if_neg (fun e => hk e.symm)]
    refine ⟨R, _, undef, .skip, ?_, .inr ⟨rfl, rfl⟩, rfl, hr.put (w' := { w with heap := w.heap.setIfInBounds mm.blk (.map Es' ck) }) hb trivial hR hs ho ⟨Es', ?_, g1⟩, Fwd.put hb trivial hR rfl rfl rfl hs ho⟩
    · rw [hy, ← e1, ← hK, Sem.run_bind, g2]; rfl
    · show (w.heap.setIfInBounds mm.blk (.map Es' ck))[mm.blk]? = _
      rw [Array.getElem?_setIfInBounds, if_pos rfl, if_pos hlt]
  rcases findKey_ok hq hEs with ⟨rfl, g2⟩ | ⟨j, v', V', E, rfl, g2, g3, g4, g5⟩
  · cases hs
    refine fin (Es.push { key := .string ⟨⟨a⟩⟩, val := fr.eval v, born := clock }) _ _ ?_ ?_
    · rw [appR_eq, Array.toList_push]
      exact eachR_append hEs (eachR_cons_of (entryE_of (k := .str a) rfl hV) rfl)
    · simp [Instr.mapUpdate, run_underlying (hC.und hu), MapKept.run_getObj_map hE, hc, MapKept.run_findKey (hC.und hkt) g2, MapKept.run_setObj_map _ hE]
  · cases hs
    rw [Nat.zero_add] at g2 ⊢
    refine fin (Es.modify j fun e => { e with key := .string ⟨⟨a⟩⟩, val := fr.eval v }) _ _ ?_ ?_
    · rw [Array.toList_modify]
      exact setAt_ok hV hEs g5
    · have g3' : Es[j]? = some E := by simpa using g3
      have hkk : (Instr.keyThatStays (.string ⟨⟨a⟩⟩) (.string ⟨⟨a⟩⟩)).run C.P w = .ok (.string ⟨⟨a⟩⟩) w := MapKept.run_keyThatStays (d := .string) (by simp [MapKept.IsKey])
      simp [Instr.mapUpdate, run_underlying (hC.und hu), MapKept.run_getObj_map hE, hc, MapKept.run_findKey (hC.und hkt) g2, MapKept.run_setObj_map _ hE, g3', g4, hkk]

end
end Go.Ev

