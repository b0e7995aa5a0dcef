/- How the evaluator's values and blocks stand to those of the model. -/
import Derived.Test.YtdgccipcandojaaGreatEvA
import Derived.ArgAppend
import Derived.Deep.MidRow
import Derived.Calls
import Derived.Below
import Derived.Laws.Tables
import Derived.Lib.SliceRun
import Derived.LaidEqlPtr
import Derived.Laws.Strings
import Derived.Laws.StructEq
import Derived.Laws.Slices
import Derived.Lib.UnsafeStr
namespace Go.Ev
open Go.RowKit

/-- Where a block lies: in which block of the model, from which cell on, with room for how many elements. -/
structure M where
  blk : Nat
  base : Nat
  cap : Nat

abbrev Rho := Nat → Option M
def Le (R R' : Rho) : Prop := ∀ i m, R i = some m → R' i = some m
theorem Le.refl (R : Rho) : Le R R := fun _ _ h => h
theorem Le.trans {R R' R'' : Rho} (h : Le R R') (k : Le R' R'') : Le R R'' := fun i m hi => k i m (h i m hi)
def upd (R : Rho) (i : Nat) (m : M) : Rho := fun j => if j = i then some m else R j
theorem upd_self (R : Rho) (i : Nat) (m : M) : upd R i m i = some m := if_pos rfl
theorem upd_ne {R : Rho} {i j : Nat} {m : M} (h : j ≠ i) : upd R i m j = R j := if_neg h
theorem le_upd {R : Rho} {i : Nat} {m : M} (h : R i = none) : Le R (upd R i m) := fun j mj hj => by
  by_cases e : j = i
  · subst e; rw [h] at hj; cases hj
  · rw [upd_ne e]; exact hj

section
variable (O : Nat → Value)

noncomputable def ptrE (R : Rho) (p : Nat × Nat) : Option Value := (R p.1).map fun m => .pointer (some ⟨m.blk, m.base + p.2, none⟩)

noncomputable def SV.emb (R : Rho) : SV → Option Value
  | .bool b => some (.bool b)
  | .int k n => some (.int k n)
  | .float k b => some (.float k b)
  | .str s => some (.string ⟨⟨s⟩⟩)
  | .nilp => some (.pointer none)
  | .ptr id off => ptrE R (id, off)
  | .nils => some (.slice none 0 0)
  | .slice id sz eo len (some c) => (R id).map fun m => .slice (some ⟨m.blk, m.base + eo * sz, none⟩) len c
  | .slice id sz eo len none => (R id).bind fun m => if eo + len ≤ m.cap then some (.slice (some ⟨m.blk, m.base + eo * sz, none⟩) len (m.cap - eo)) else none
  | .rest id sz eo0 eo => (R id).map fun m => .slice (some ⟨m.blk, m.base + (if m.cap - eo = 0 then eo0 else eo) * sz, none⟩) 0 (m.cap - eo)
  | .opq n => some (O n)
  | .nilm => some (.map none)
  | .map id => (R id).map fun m => .map (some m.blk)
  | .func f a b => (eachR (ptrE R) a).bind fun x => (eachR (ptrE R) b).bind fun y => some (.func (.func f) x.toArray y.toArray)
  | .yield l => (R l).map fun m => .func (.yield m.blk) #[] #[]
  | .nilFunc => some .nilFunc
  | .nilIface => some .nilIface
  | .hollow n => match O n with
    | .slice (some a) 0 0 => some (.slice (some a) 0 0)
    | _ => none

noncomputable def AV.emb (R : Rho) : AV → Option Value
  | .s v => v.emb O R
  | .agg cs => (eachR (SV.emb O R) cs).map fun l => .agg l.toArray

noncomputable def TV.emb (R : Rho) : TV → Option Value
  | .v a => a.emb O R
  | .tup l => (eachR (AV.emb O R) l).map fun l => .tuple l.toArray

variable {O}

theorem ptrE_mono {R R' : Rho} (h : Le R R') (p : Nat × Nat) (v : Value) (hv : ptrE R p = some v) : ptrE R' p = some v := by
  unfold ptrE at *
  obtain ⟨m, hm, e⟩ := Option.map_eq_some_iff.1 hv
  rw [h _ _ hm]; exact congrArg some e

theorem SV.emb_mono {R R' : Rho} (h : Le R R') (a : SV) (v : Value) (hv : a.emb O R = some v) : a.emb O R' = some v := by
  cases a with
  | ptr id off => exact ptrE_mono h _ _ hv
  | slice id sz eo len cp =>
    cases cp with
    | some c =>
      simp only [SV.emb] at *
      obtain ⟨m, hm, e⟩ := Option.map_eq_some_iff.1 hv
      rw [h _ _ hm]; exact congrArg some e
    | none =>
      simp only [SV.emb] at *
      obtain ⟨m, hm, e⟩ := Option.bind_eq_some_iff.1 hv
      rw [h _ _ hm]; exact e
  | rest id sz eo0 eo => simp only [SV.emb] at *; obtain ⟨m, hm, e⟩ := Option.map_eq_some_iff.1 hv; rw [h _ _ hm]; exact congrArg some e
  | map id => simp only [SV.emb] at *; obtain ⟨m, hm, e⟩ := Option.map_eq_some_iff.1 hv; rw [h _ _ hm]; exact congrArg some e
  | yield id => simp only [SV.emb] at *; obtain ⟨m, hm, e⟩ := Option.map_eq_some_iff.1 hv; rw [h _ _ hm]; exact congrArg some e
  | func f a b =>
    simp only [SV.emb] at *
    obtain ⟨x, hx, hv⟩ := Option.bind_eq_some_iff.1 hv
    obtain ⟨y, hy, hv⟩ := Option.bind_eq_some_iff.1 hv
    rw [eachR_mono (ptrE_mono h) hx, Option.bind_some, eachR_mono (ptrE_mono h) hy, Option.bind_some]; exact hv
  | _ => exact hv

theorem AV.emb_mono {R R' : Rho} (h : Le R R') (a : AV) (v : Value) (hv : a.emb O R = some v) : a.emb O R' = some v := by
  cases a with
  | s a => exact SV.emb_mono h a v hv
  | agg cs =>
    simp only [AV.emb] at *
    obtain ⟨l, hl, e⟩ := Option.map_eq_some_iff.1 hv
    rw [eachR_mono (SV.emb_mono h) hl]; exact congrArg some e

theorem TV.emb_mono {R R' : Rho} (h : Le R R') (a : TV) (v : Value) (hv : a.emb O R = some v) : a.emb O R' = some v := by
  cases a with
  | v a => exact AV.emb_mono h a v hv
  | tup l =>
    simp only [TV.emb] at *
    obtain ⟨l, hl, e⟩ := Option.map_eq_some_iff.1 hv
    rw [eachR_mono (AV.emb_mono h) hl]; exact congrArg some e

/-- No cell holds a row of cells. -/
def Plain (O : Nat → Value) : Prop := ∀ n, (O n).oneCell' = true

theorem SV.emb_one (hO : Plain O) {R : Rho} {a : SV} {v : Value} (hv : a.emb O R = some v) : v.oneCell' = true := by
  cases a with
  | opq n => simp only [SV.emb] at hv; cases Option.some.inj hv; exact hO n
  | ptr id off => simp only [SV.emb, ptrE] at hv; obtain ⟨m, _, rfl⟩ := Option.map_eq_some_iff.1 hv; rfl
  | slice id sz eo len cp => cases cp with
    | some c => simp only [SV.emb] at hv; obtain ⟨m, _, rfl⟩ := Option.map_eq_some_iff.1 hv; rfl
    | none =>
      simp only [SV.emb] at hv
      obtain ⟨m, _, hv⟩ := Option.bind_eq_some_iff.1 hv
      split at hv
      · cases hv; rfl
      · cases hv
  | rest id sz eo0 eo => simp only [SV.emb] at hv; obtain ⟨m, _, rfl⟩ := Option.map_eq_some_iff.1 hv; rfl
  | map id => simp only [SV.emb] at hv; obtain ⟨m, _, rfl⟩ := Option.map_eq_some_iff.1 hv; rfl
  | yield id => simp only [SV.emb] at hv; obtain ⟨m, _, rfl⟩ := Option.map_eq_some_iff.1 hv; rfl
  | func f a b =>
    simp only [SV.emb] at hv
    obtain ⟨x, hx, hv⟩ := Option.bind_eq_some_iff.1 hv
    obtain ⟨y, hy, hv⟩ := Option.bind_eq_some_iff.1 hv
    cases Option.some.inj hv; rfl
  | hollow n => simp only [SV.emb] at hv; split at hv <;> cases hv; rfl
  | _ => simp only [SV.emb] at hv; cases Option.some.inj hv; rfl

theorem one_cells {v : Value} (h : v.oneCell' = true) : v.cells = #[v] := by
  cases v <;> first | rfl | (cases h)

/-- The cells of a value, one by one. -/
theorem AV.emb_cells (hO : Plain O) {R : Rho} {a : AV} {v : Value} (hv : a.emb O R = some v) : eachR (SV.emb O R) a.cells = some v.cells.toList := by
  cases a with
  | s a =>
    have := SV.emb_one hO hv
    rw [one_cells this]
    exact eachR_cons_of hv rfl
  | agg cs =>
    simp only [AV.emb] at hv
    obtain ⟨l, hl, rfl⟩ := Option.map_eq_some_iff.1 hv
    simpa [AV.cells, Value.cells] using hl

theorem one_all (hO : Plain O) {R : Rho} : ∀ {l : List SV} {vs : List Value}, eachR (SV.emb O R) l = some vs → ∀ v ∈ vs, v.oneCell' = true
  | [], vs, h, v, hv => by cases h; cases hv
  | a :: l, vs, h, v, hv => by
    obtain ⟨b, r, hb, hr, rfl⟩ := eachR_cons_some h
    rcases List.mem_cons.1 hv with rfl | hv
    · exact SV.emb_one hO hb
    · exact one_all hO hr v hv

variable (O)

/-- Temporaries. -/
def TmpsOk (R : Rho) (t : T2 TV) (tmps : Array Value) : Prop := ∀ i, i < 256 → (T2.get t i).emb O R = some (tmps.getD i undef)

def LS.toGo : LS → LoopState
  | .ready => .ready
  | .busy => .busy
  | .done => .done
  | .exhausted => .exhausted

noncomputable def entryE (R : Rho) (e : SV × SV × Nat) : Option MapEntry := (e.1.emb O R).bind fun k => (e.2.1.emb O R).bind fun v => some ⟨k, v, e.2.2⟩

structure CellsOk (R : Rho) (m : M) (n : Nat) (c : Ct SV) (sz : Nat) (ex : Bool) (fz : Nat) (cs : Array Value) (fr : Nat × Nat) : Prop where
  cell : ∀ i v, i < n → c.get i = some v → ∃ V, v.emb O R = some V ∧ cs[m.base + i]? = some V
  size : m.base + n ≤ cs.size
  room : m.base + m.cap * sz ≤ cs.size
  fits : n ≤ m.cap * sz
  exact : ex = true → m.base = 0 ∧ cs.size = n ∧ m.cap * sz = n
  cold : fz = 0 → fr.1 = fr.2 ∨ cs.size ≤ fr.1
  warm : fz ≤ n → ∀ i, fz ≤ i → m.base + i < cs.size → ¬ (fr.1 ≤ m.base + i ∧ m.base + i < fr.2)
  has : c.Has n

structure LoopOk (R : Rho) (L : ALoop) (l : Loop) : Prop where
  state : l.state = L.state.toGo
  pending : l.pending = L.pending
  small : L.n ≤ 256
  size : l.tmps.size = L.n
  tmps : TmpsOk O R L.t l.tmps
  params : l.params.toList = L.params
  assign : l.assign = L.assign
  body : l.body = L.body
  defers : ∃ m, R L.defers = some m ∧ l.defers = m.blk

/-- What a block holds. -/
def BlkOk (R : Rho) (m : M) (b : Blk) (o : Option Obj) : Prop :=
  match b with
  | .cells n c sz ex fz et => ∃ cs fr, o = some (.cells cs et fr) ∧ CellsOk O R m n c sz ex fz cs fr
  | .map es clock => ∃ Es : Array MapEntry, o = some (.map Es clock) ∧ eachR (entryE O R) es = some Es.toList
  | .siter _ _ => False
  | .loop L => ∃ l, o = some (.loop l) ∧ LoopOk O R L l
  | .deferred taken => o = some (.deferred (if taken then none else some []))
  | .dead => True
  | .ro _ => True

def Blk.live : Blk → Prop
  | .dead => False
  | .ro _ => False
  | _ => True

def Blk.notRo : Blk → Prop
  | .ro _ => False
  | _ => True

theorem Blk.live.notRo {b : Blk} (h : b.live) : b.notRo := by cases b <;> first | trivial | exact h

/-- What is read alone. -/
def RoOk (R : Rho) (m : M) (c : Nat → Option SV) (o : Option Obj) : Prop :=
  ∃ cs et fr, o = some (.cells cs et fr) ∧ ∀ i v, c i = some v → ∃ V, v.emb O R = some V ∧ cs[m.base + i]? = some V

/-- The blocks of the model that are the state's. -/
def Owned (R : Rho) (s : St) (b : Nat) : Prop := ∃ i bl m, s.h.get i = some bl ∧ bl.live ∧ R i = some m ∧ m.blk = b

/-- (A block that 'R' does not place is not there yet.) -/
structure Rel (N : Nat) (R : Rho) (s : St) (w : World) : Prop where
  dom : ∀ i m, R i = some m → i < s.next
  live : ∀ i b m, s.h.get i = some b → b.live → R i = some m → m.blk < w.heap.size ∧ N ≤ m.blk ∧ BlkOk O R m b w.heap[m.blk]?
  inj : ∀ i j bi bj mi mj, s.h.get i = some bi → bi.live → s.h.get j = some bj → bj.live → R i = some mi → R j = some mj → mi.blk = mj.blk → i = j
  size : N ≤ w.heap.size
  fresh : ∀ i, s.next ≤ i → s.h.get i = none
  ro : ∀ i c m, s.h.get i = some (.ro c) → R i = some m → m.blk < N ∧ RoOk O R m c w.heap[m.blk]?

variable {O}

theorem TmpsOk.mono {R R' : Rho} (h : Le R R') {t : T2 TV} {tmps : Array Value} (k : TmpsOk O R t tmps) : TmpsOk O R' t tmps := fun i hi => TV.emb_mono h _ _ (k i hi)

theorem entryE_mono {R R' : Rho} (h : Le R R') (e : SV × SV × Nat) (v : MapEntry) (hv : entryE O R e = some v) : entryE O R' e = some v := by
  unfold entryE at *
  obtain ⟨x, hx, hv⟩ := Option.bind_eq_some_iff.1 hv
  obtain ⟨y, hy, hv⟩ := Option.bind_eq_some_iff.1 hv
  rw [SV.emb_mono h _ _ hx, Option.bind_some, SV.emb_mono h _ _ hy, Option.bind_some]; exact hv

theorem BlkOk.mono {R R' : Rho} (h : Le R R') {m : M} {b : Blk} {o : Option Obj} (k : BlkOk O R m b o) : BlkOk O R' m b o := by
  cases b with
  | cells n c sz ex fz et =>
    obtain ⟨cs, fr, e, k⟩ := k
    exact ⟨cs, fr, e, { k with cell := fun i v hi hv => let ⟨V, h1, h2⟩ := k.cell i v hi hv; ⟨V, SV.emb_mono h _ _ h1, h2⟩ }⟩
  | map es clock =>
    obtain ⟨Es, e, k⟩ := k
    exact ⟨Es, e, eachR_mono (entryE_mono h) k⟩
  | siter _ _ => exact k
  | loop L =>
    obtain ⟨l, e, k⟩ := k
    exact ⟨l, e, { k with tmps := k.tmps.mono h, defers := let ⟨m, h1, h2⟩ := k.defers; ⟨m, h _ _ h1, h2⟩ }⟩
  | deferred t => exact k
  | dead => trivial
  | ro c => trivial

theorem RoOk.mono {R R' : Rho} (h : Le R R') {m : M} {c : Nat → Option SV} {o : Option Obj} (k : RoOk O R m c o) : RoOk O R' m c o := by
  obtain ⟨cs, et, fr, e, k⟩ := k
  exact ⟨cs, et, fr, e, fun i v hv => let ⟨V, h1, h2⟩ := k i v hv; ⟨V, SV.emb_mono h _ _ h1, h2⟩⟩

/-- What a run leaves of the rest of the world. -/
structure Fwd (R : Rho) (s : St) (w : World) (R' : Rho) (s' : St) (w' : World) : Prop where
  le : Le R R'
  os : w'.os = w.os
  tape : w'.tape = w.tape
  output : w'.output = w.output
  grow : w.heap.size ≤ w'.heap.size
  keep : ∀ b, b < w.heap.size → ¬ Owned R s b → w'.heap[b]? = w.heap[b]?
  own : ∀ b, Owned R' s' b → b < w.heap.size → Owned R s b
  next : s.next ≤ s'.next
  idle : ∀ i, i < s.next → R i = none → R' i = none ∧ s'.h.get i = s.h.get i

theorem Fwd.refl (R : Rho) (s : St) (w : World) : Fwd R s w R s w := ⟨Le.refl R, rfl, rfl, rfl, Nat.le_refl _, fun _ _ _ => rfl, fun _ h _ => h, Nat.le_refl _, fun _ _ h => ⟨h, rfl⟩⟩

theorem Fwd.trans {R R1 R2 : Rho} {s s1 s2 : St} {w w1 w2 : World} (h : Fwd R s w R1 s1 w1) (k : Fwd R1 s1 w1 R2 s2 w2) : Fwd R s w R2 s2 w2 where
  le := h.le.trans k.le
  os := k.os.trans h.os
  tape := k.tape.trans h.tape
  output := k.output.trans h.output
  grow := Nat.le_trans h.grow k.grow
  keep b hb ho := (k.keep b (Nat.lt_of_lt_of_le hb h.grow) (fun o => ho (h.own b o hb))).trans (h.keep b hb ho)
  own b ho hb := h.own b (k.own b ho (Nat.lt_of_lt_of_le hb h.grow)) hb
  next := Nat.le_trans h.next k.next
  idle i hi hr := let ⟨a, b⟩ := h.idle i hi hr; let ⟨c, d⟩ := k.idle i (Nat.lt_of_lt_of_le hi h.next) a; ⟨c, d.trans b⟩

/-- A draw. -/
theorem Fwd.drawn {R : Rho} {s : St} {w : World} (n : Nat) : Fwd R s w R s { w with drawn := n } := ⟨Le.refl R, rfl, rfl, rfl, Nat.le_refl _, fun _ _ _ => rfl, fun _ h _ => h, Nat.le_refl _, fun _ _ h => ⟨h, rfl⟩⟩
theorem Rel.drawn {N : Nat} {R : Rho} {s : St} {w : World} (h : Rel O N R s w) (n : Nat) : Rel O N R s { w with drawn := n } := ⟨h.dom, h.live, h.inj, h.size, h.fresh, h.ro⟩

theorem Rel.next_none {N : Nat} {R : Rho} {s : St} {w : World} (h : Rel O N R s w) : R s.next = none := by
  cases e : R s.next with
  | none => rfl
  | some m => exact absurd (h.dom _ _ e) (Nat.lt_irrefl _)

/-- One block turns. -/
theorem Rel.put {N : Nat} {R : Rho} {s : St} {w w' : World} (h : Rel O N R s w) {id : Nat} {b b' : Blk} {m : M} (hb : s.h.get id = some b) (hl : b.live) (hm : R id = some m)
    (hs : w'.heap.size = w.heap.size) (ho : ∀ k, k ≠ m.blk → w'.heap[k]? = w.heap[k]?) (hb' : BlkOk O R m b' w'.heap[m.blk]?) (hn : b'.notRo := by trivial) : Rel O N R (s.put id b') w' where
  dom := h.dom
  live i bi mi hi li hmi := by
    change (s.h.set id b').get i = some bi at hi
    rw [Tr.get_set] at hi
    by_cases e : i = id
    · subst e
      rw [if_pos rfl] at hi; cases hi
      rw [hm] at hmi; cases hmi
      obtain ⟨h2, h3, _⟩ := h.live _ _ _ hb hl hm
      exact ⟨by omega, h3, hb'⟩
    · rw [if_neg e] at hi
      obtain ⟨h2, h3, h4⟩ := h.live _ _ _ hi li hmi
      refine ⟨by omega, h3, ?_⟩
      rw [ho mi.blk (fun q => e (h.inj _ _ _ _ _ _ hi li hb hl hmi hm q))]
      exact h4
  inj i j bi bj mi mj hi li hj lj ri rj q := by
    change (s.h.set id b').get i = some bi at hi
    change (s.h.set id b').get j = some bj at hj
    rw [Tr.get_set] at hi hj
    have f : ∀ k bk, (if k = id then some b' else s.h.get k) = some bk → ∃ bk', s.h.get k = some bk' ∧ (bk.live → bk'.live) := fun k bk hk => by
      by_cases e : k = id
      · subst e; exact ⟨b, hb, fun _ => hl⟩
      · rw [if_neg e] at hk; exact ⟨bk, hk, fun h => h⟩
    obtain ⟨bi', hi', li'⟩ := f _ _ hi
    obtain ⟨bj', hj', lj'⟩ := f _ _ hj
    exact h.inj _ _ _ _ _ _ hi' (li' li) hj' (lj' lj) ri rj q
  size := by rw [hs]; exact h.size
  fresh i hi := by
    show (s.h.set id b').get i = none
    have : s.next ≤ i := hi
    have := h.dom _ _ hm
    rw [Tr.get_set_ne (by omega)]; exact h.fresh i hi
  ro i c mi hi hmi := by
    change (s.h.set id b').get i = some (.ro c) at hi
    rw [Tr.get_set] at hi
    by_cases e : i = id
    · rw [if_pos e] at hi; cases hi; exact hn.elim
    · rw [if_neg e] at hi
      obtain ⟨h2, h3⟩ := h.ro _ _ _ hi hmi
      have := (h.live _ _ _ hb hl hm).2.1
      exact ⟨h2, by rw [ho mi.blk (by omega)]; exact h3⟩

theorem Owned.put {R : Rho} {s : St} {id : Nat} {b b' : Blk} (hb : s.h.get id = some b) (hl : b.live) {k : Nat} (h : Owned R (s.put id b') k) : Owned R s k := by
  obtain ⟨i, bi, m, hi, li, ri, e⟩ := h
  change (s.h.set id b').get i = some bi at hi
  rw [Tr.get_set] at hi
  by_cases q : i = id
  · subst q; exact ⟨_, b, m, hb, hl, ri, e⟩
  · rw [if_neg q] at hi; exact ⟨i, bi, m, hi, li, ri, e⟩

theorem Fwd.put {R : Rho} {s : St} {w w' : World} {id : Nat} {b b' : Blk} {m : M} (hb : s.h.get id = some b) (hl : b.live) (hm : R id = some m)
    (h1 : w'.os = w.os) (h2 : w'.tape = w.tape) (h3 : w'.output = w.output) (hs : w'.heap.size = w.heap.size) (ho : ∀ k, k ≠ m.blk → w'.heap[k]? = w.heap[k]?) : Fwd R s w R (s.put id b') w' where
  le := Le.refl R
  os := h1
  tape := h2
  output := h3
  grow := by omega
  keep k _ hk := ho k (fun e => hk ⟨id, b, m, hb, hl, hm, e.symm⟩)
  own k hk _ := Owned.put hb hl hk
  next := Nat.le_refl _
  idle i _ hr := ⟨hr, Tr.get_set_ne (fun e => by rw [e, hm] at hr; cases hr)⟩

/-- A block is made. -/
theorem Rel.new {N : Nat} {R : Rho} {s : St} {w w' : World} (h : Rel O N R s w) (b : Blk) (m : M)
    (_hs : w.heap.size < w'.heap.size) (ho : ∀ k, k < w.heap.size → w'.heap[k]? = w.heap[k]?) (hm : w.heap.size ≤ m.blk) (hm' : m.blk < w'.heap.size)
    (hb : BlkOk O (upd R s.next m) m b w'.heap[m.blk]?) (hn : b.notRo := by trivial) : Rel O N (upd R s.next m) ⟨s.h.set s.next b, s.next + 1⟩ w' where
  dom i mi hi := by
    show i < s.next + 1
    by_cases e : i = s.next
    · omega
    · rw [upd_ne e] at hi; have := h.dom _ _ hi; omega
  live i bi mi hi li hmi := by
    change (s.h.set s.next b).get i = some bi at hi
    rw [Tr.get_set] at hi
    by_cases e : i = s.next
    · subst e
      rw [if_pos rfl] at hi; cases hi
      rw [upd_self] at hmi; cases hmi
      exact ⟨hm', Nat.le_trans h.size hm, hb⟩
    · rw [if_neg e] at hi
      rw [upd_ne e] at hmi
      obtain ⟨h2, h3, h4⟩ := h.live _ _ _ hi li hmi
      refine ⟨by omega, h3, ?_⟩
      rw [ho _ h2]
      exact h4.mono (le_upd h.next_none)
  inj i j bi bj mi mj hi li hj lj ri rj q := by
    change (s.h.set s.next b).get i = some bi at hi
    change (s.h.set s.next b).get j = some bj at hj
    rw [Tr.get_set] at hi hj
    have f : ∀ k bk mk, k ≠ s.next → s.h.get k = some bk → bk.live → upd R s.next m k = some mk → mk.blk < w.heap.size := fun k bk mk e hk lk rk => by
      rw [upd_ne e] at rk
      exact (h.live _ _ _ hk lk rk).1
    by_cases ei : i = s.next
    · by_cases ej : j = s.next
      · rw [ei, ej]
      · rw [if_neg ej] at hj
        subst ei
        rw [upd_self] at ri; cases ri
        have := f _ _ _ ej hj lj rj; omega
    · by_cases ej : j = s.next
      · rw [if_neg ei] at hi
        subst ej
        rw [upd_self] at rj; cases rj
        have := f _ _ _ ei hi li ri; omega
      · rw [if_neg ei] at hi; rw [if_neg ej] at hj
        rw [upd_ne ei] at ri; rw [upd_ne ej] at rj
        exact h.inj _ _ _ _ _ _ hi li hj lj ri rj q
  size := by have := h.size; omega
  fresh i hi := by
    show (s.h.set s.next b).get i = none
    have : s.next + 1 ≤ i := hi
    rw [Tr.get_set_ne (by omega)]; exact h.fresh i (by omega)
  ro i c mi hi hmi := by
    change (s.h.set s.next b).get i = some (.ro c) at hi
    rw [Tr.get_set] at hi
    by_cases e : i = s.next
    · rw [if_pos e] at hi; cases hi; exact hn.elim
    · rw [if_neg e] at hi
      rw [upd_ne e] at hmi
      obtain ⟨h2, h3⟩ := h.ro _ _ _ hi hmi
      have := h.size
      exact ⟨h2, by rw [ho mi.blk (by omega)]; exact h3.mono (le_upd h.next_none)⟩

theorem Fwd.new {N : Nat} {R : Rho} {s : St} {w w' : World} (h : Rel O N R s w) (b : Blk) (m : M) (h1 : w'.os = w.os) (h2 : w'.tape = w.tape) (h3 : w'.output = w.output)
    (hs : w.heap.size < w'.heap.size) (ho : ∀ k, k < w.heap.size → w'.heap[k]? = w.heap[k]?) (hm : w.heap.size ≤ m.blk) : Fwd R s w (upd R s.next m) ⟨s.h.set s.next b, s.next + 1⟩ w' where
  le := le_upd h.next_none
  os := h1
  tape := h2
  output := h3
  grow := by omega
  keep k hk _ := ho k hk
  own k hk hlt := by
    obtain ⟨i, bi, mi, hi, li, ri, e⟩ := hk
    change (s.h.set s.next b).get i = some bi at hi
    rw [Tr.get_set] at hi
    by_cases q : i = s.next
    · subst q; rw [upd_self] at ri; cases ri; omega
    · rw [if_neg q] at hi; rw [upd_ne q] at ri; exact ⟨i, bi, mi, hi, li, ri, e⟩
  next := Nat.le_succ _
  idle i hi hr := ⟨by rw [upd_ne (by omega)]; exact hr, Tr.get_set_ne (by omega)⟩

/-- A block is given up. -/
theorem Rel.kill {N : Nat} {R : Rho} {s : St} {w : World} (h : Rel O N R s w) {id : Nat} {m : M} (hm : R id = some m) : Rel O N R (s.put id .dead) w where
  dom := h.dom
  live i bi mi hi li hmi := by
    change (s.h.set id .dead).get i = some bi at hi
    rw [Tr.get_set] at hi
    by_cases e : i = id
    · rw [if_pos e] at hi; cases hi; exact li.elim
    · rw [if_neg e] at hi; exact h.live _ _ _ hi li hmi
  inj i j bi bj mi mj hi li hj lj ri rj q := by
    change (s.h.set id .dead).get i = some bi at hi
    change (s.h.set id .dead).get j = some bj at hj
    rw [Tr.get_set] at hi hj
    by_cases ei : i = id
    · rw [if_pos ei] at hi; cases hi; exact li.elim
    · by_cases ej : j = id
      · rw [if_pos ej] at hj; cases hj; exact lj.elim
      · rw [if_neg ei] at hi; rw [if_neg ej] at hj
        exact h.inj _ _ _ _ _ _ hi li hj lj ri rj q
  size := h.size
  fresh i hi := by
    show (s.h.set id .dead).get i = none
    have : s.next ≤ i := hi
    have := h.dom _ _ hm
    rw [Tr.get_set_ne (by omega)]; exact h.fresh i hi
  ro i c mi hi hmi := by
    change (s.h.set id .dead).get i = some (.ro c) at hi
    rw [Tr.get_set] at hi
    by_cases e : i = id
    · rw [if_pos e] at hi; cases hi
    · rw [if_neg e] at hi; exact h.ro _ _ _ hi hmi

theorem Owned.kill {R : Rho} {s : St} {id k : Nat} (h : Owned R (s.put id .dead) k) : Owned R s k := by
  obtain ⟨i, bi, m, hi, li, ri, e⟩ := h
  change (s.h.set id .dead).get i = some bi at hi
  rw [Tr.get_set] at hi
  by_cases q : i = id
  · rw [if_pos q] at hi; cases hi; exact li.elim
  · rw [if_neg q] at hi; exact ⟨i, bi, m, hi, li, ri, e⟩

theorem Fwd.kill {R : Rho} {s : St} {w : World} {id : Nat} {m : M} (hm : R id = some m) : Fwd R s w R (s.put id .dead) w :=
  ⟨Le.refl R, rfl, rfl, rfl, Nat.le_refl _, fun _ _ _ => rfl, fun _ h _ => h.kill, Nat.le_refl _, fun i _ hr => ⟨hr, Tr.get_set_ne (fun e => by rw [e, hm] at hr; cases hr)⟩⟩

/-- A block goes on under another number, in its old place. -/
theorem Rel.same {N : Nat} {R : Rho} {s : St} {w w' : World} (h : Rel O N R s w) {id : Nat} {b b' : Blk} {m : M} (m' : M) (hb : s.h.get id = some b) (hl : b.live) (hm : R id = some m) (hmm : m'.blk = m.blk)
    (hs : w'.heap.size = w.heap.size) (ho : ∀ k, k ≠ m.blk → w'.heap[k]? = w.heap[k]?)
    (hb' : BlkOk O (upd R s.next m') m' b' w'.heap[m.blk]?) (hn : b'.notRo := by trivial) : Rel O N (upd R s.next m') ⟨(s.h.set id .dead).set s.next b', s.next + 1⟩ w' where
  dom i mi hi := by
    show i < s.next + 1
    by_cases e : i = s.next
    · omega
    · rw [upd_ne e] at hi; have := h.dom _ _ hi; omega
  live i bi mi hi li hmi := by
    change ((s.h.set id .dead).set s.next b').get i = some bi at hi
    rw [Tr.get_set, Tr.get_set] at hi
    by_cases e : i = s.next
    · subst e
      rw [if_pos rfl] at hi; cases hi
      rw [upd_self] at hmi; cases hmi
      obtain ⟨h2, h3, _⟩ := h.live _ _ _ hb hl hm
      exact ⟨by omega, by omega, by rw [hmm]; exact hb'⟩
    · rw [if_neg e] at hi
      rw [upd_ne e] at hmi
      by_cases e2 : i = id
      · rw [if_pos e2] at hi; cases hi; exact li.elim
      · rw [if_neg e2] at hi
        obtain ⟨h2, h3, h4⟩ := h.live _ _ _ hi li hmi
        refine ⟨by omega, h3, ?_⟩
        rw [ho mi.blk (fun q => e2 (h.inj _ _ _ _ _ _ hi li hb hl hmi hm q))]
        exact h4.mono (le_upd h.next_none)
  inj i j bi bj mi mj hi li hj lj ri rj q := by
    change ((s.h.set id .dead).set s.next b').get i = some bi at hi
    change ((s.h.set id .dead).set s.next b').get j = some bj at hj
    rw [Tr.get_set, Tr.get_set] at hi hj
    have f : ∀ k bk, k ≠ s.next → (if k = id then some Blk.dead else s.h.get k) = some bk → bk.live → k ≠ id ∧ s.h.get k = some bk := fun k bk _ hk lk => by
      by_cases e2 : k = id
      · rw [if_pos e2] at hk; cases hk; exact lk.elim
      · rw [if_neg e2] at hk; exact ⟨e2, hk⟩
    by_cases ei : i = s.next
    · by_cases ej : j = s.next
      · rw [ei, ej]
      · rw [if_neg ej] at hj
        obtain ⟨n1, n2⟩ := f _ _ ej hj lj
        subst ei
        rw [upd_self] at ri; cases ri
        rw [upd_ne ej] at rj
        exact absurd (h.inj _ _ _ _ _ _ n2 lj hb hl rj hm (by omega)) n1
    · by_cases ej : j = s.next
      · rw [if_neg ei] at hi
        obtain ⟨n1, n2⟩ := f _ _ ei hi li
        subst ej
        rw [upd_self] at rj; cases rj
        rw [upd_ne ei] at ri
        exact absurd (h.inj _ _ _ _ _ _ n2 li hb hl ri hm (by omega)) n1
      · rw [if_neg ei] at hi; rw [if_neg ej] at hj
        obtain ⟨_, n2⟩ := f _ _ ei hi li
        obtain ⟨_, n4⟩ := f _ _ ej hj lj
        rw [upd_ne ei] at ri; rw [upd_ne ej] at rj
        exact h.inj _ _ _ _ _ _ n2 li n4 lj ri rj q
  size := by rw [hs]; exact h.size
  fresh i hi := by
    show ((s.h.set id .dead).set s.next b').get i = none
    have : s.next + 1 ≤ i := hi
    have := h.dom _ _ hm
    rw [Tr.get_set_ne (by omega), Tr.get_set_ne (by omega)]; exact h.fresh i (by omega)
  ro i c mi hi hmi := by
    change ((s.h.set id .dead).set s.next b').get i = some (.ro c) at hi
    rw [Tr.get_set, Tr.get_set] at hi
    by_cases e : i = s.next
    · rw [if_pos e] at hi; cases hi; exact hn.elim
    · rw [if_neg e] at hi
      by_cases e2 : i = id
      · rw [if_pos e2] at hi; cases hi
      · rw [if_neg e2] at hi
        rw [upd_ne e] at hmi
        obtain ⟨h2, h3⟩ := h.ro _ _ _ hi hmi
        have := (h.live _ _ _ hb hl hm).2.1
        exact ⟨h2, by rw [ho mi.blk (by omega)]; exact h3.mono (le_upd h.next_none)⟩

theorem Fwd.same {N : Nat} {R : Rho} {s : St} {w w' : World} (h : Rel O N R s w) {id : Nat} {b : Blk} {m : M} (b' : Blk) (m' : M) (hb : s.h.get id = some b) (hl : b.live) (hm : R id = some m) (hmm : m'.blk = m.blk)
    (h1 : w'.os = w.os) (h2 : w'.tape = w.tape) (h3 : w'.output = w.output) (hs : w'.heap.size = w.heap.size) (ho : ∀ k, k ≠ m.blk → w'.heap[k]? = w.heap[k]?) :
    Fwd R s w (upd R s.next m') ⟨(s.h.set id .dead).set s.next b', s.next + 1⟩ w' where
  le := le_upd h.next_none
  os := h1
  tape := h2
  output := h3
  grow := by omega
  keep k _ hk := ho k (fun e => hk ⟨id, b, m, hb, hl, hm, e.symm⟩)
  own k hk _ := by
    obtain ⟨i, bi, mi, hi, li, ri, e⟩ := hk
    change ((s.h.set id .dead).set s.next b').get i = some bi at hi
    rw [Tr.get_set, Tr.get_set] at hi
    by_cases q : i = s.next
    · subst q; rw [upd_self] at ri; cases ri; exact ⟨id, b, m, hb, hl, hm, by omega⟩
    · rw [if_neg q] at hi
      by_cases q2 : i = id
      · rw [if_pos q2] at hi; cases hi; exact li.elim
      · rw [if_neg q2] at hi; rw [upd_ne q] at ri; exact ⟨i, bi, mi, hi, li, ri, e⟩
  next := Nat.le_succ _
  idle i hi hr := ⟨by rw [upd_ne (by omega)]; exact hr, by
    show ((s.h.set id .dead).set s.next b').get i = _
    rw [Tr.get_set_ne (by omega), Tr.get_set_ne (fun e => by rw [e, hm] at hr; cases hr)]⟩

end
end Go.Ev

/- What the operations that leave memory alone do in the model. -/
namespace Go.Ev
open Go.RowKit

structure Ctx.Ok (C : Ctx) : Prop where
  ty : ∀ t i, C.tys.get t = some i → C.P.info? t = some i
  fn : ∀ g f, C.fs.get g = some f → C.P.funcs[g]? = some f

theorem ctxOf_ok (P : Program) (ext : Tr Nat) : (ctxOf P ext).Ok where
  ty t i h := by
    have h : (Tr.lazily 14 P.types.toList).get t = some i := h
    have h := Tr.get_lazily _ _ _ _ h
    have ⟨hl, _⟩ := List.getElem?_eq_some_iff.1 h
    simp only [Array.length_toList] at hl
    show Tables.info? P.toTables t = some i
    unfold Tables.info?
    rw [if_pos hl]
    simpa using h
  fn g f h := by
    have h : (Tr.lazily 14 P.funcs.toList).get g = some f := h
    have h := Tr.get_lazily _ _ _ _ h
    show P.funcs[g]? = some f
    simpa using h

section
variable {C : Ctx}

theorem Ctx.Ok.und (hC : C.Ok) {t : Nat} {d : TypeDesc} (h : C.und t = some d) : C.P.underlying t = some d := by
  unfold Ctx.und Ctx.ty at h
  unfold Program.underlying
  cases hi : C.tys.get t with
  | none => simp [hi] at h
  | some i =>
    rw [hC.ty _ _ hi]
    simp only [hi] at h
    obtain ⟨desc, str, size, bytes, hp, al, fal, zero, cmp, ms⟩ := i
    cases desc <;> try exact h
    case named nm u =>
      cases hj : C.tys.get u with
      | none => simp [hj] at h
      | some j => simp only [hj] at h; simp [hC.ty _ _ hj]; simpa using h

theorem Ctx.Ok.size (hC : C.Ok) {t n : Nat} (h : C.size t = some n) : ∃ i, C.P.info? t = some i ∧ i.size = n := by
  unfold Ctx.size Ctx.ty at h
  cases hi : C.tys.get t with
  | none => simp [hi] at h
  | some i => simp [hi] at h; exact ⟨i, hC.ty _ _ hi, h⟩

theorem Ctx.Ok.info (hC : C.Ok) {t : Nat} {i : TypeInfo} (h : C.ty t = some i) : C.P.info? t = some i := hC.ty _ _ h

theorem Ctx.Ok.sizeOf (hC : C.Ok) {t n : Nat} (h : C.size t = some n) (w : World) : (Go.sizeOf t).run C.P w = .ok n w := by
  obtain ⟨i, hi, e⟩ := hC.size h
  simp [Go.sizeOf, typeInfo, hi, e]

theorem Ctx.Ok.agg (hC : C.Ok) {t : Nat} {b : Bool} (h : C.agg t = some b) (w : World) : (isAgg t).run C.P w = .ok b w := by
  unfold Ctx.agg at h
  cases hu : C.und t with
  | none => simp [hu] at h
  | some d => simp only [hu] at h; cases d <;> simp_all [isAgg, run_underlying (hC.und hu)]

/-! ## Values that the text holds -/

theorem SV.ofVal_emb {O : Nat → Value} {R : Rho} {v : Value} {a : SV} (h : SV.ofVal v = some a) : a.emb O R = some v := by
  unfold SV.ofVal at h
  split at h <;> first | (cases h; rfl) | cases h

theorem SV.ofVals_emb {O : Nat → Value} {R : Rho} : ∀ {l : List Value} {as : List SV}, SV.ofVals l = some as → eachR (SV.emb O R) as = some l
  | [], as, h => by cases h; rfl
  | v :: l, as, h => by
    obtain ⟨b, r, h1, h2, rfl⟩ := eachR_cons_some h
    exact eachR_cons_of (SV.ofVal_emb h1) (SV.ofVals_emb h2)

theorem AV.ofVal_emb {O : Nat → Value} {R : Rho} {v : Value} {a : AV} (h : AV.ofVal v = some a) : a.emb O R = some v := by
  unfold AV.ofVal at h
  split at h
  · obtain ⟨l, hl, e⟩ := Option.bind_eq_some_iff.1 h
    cases e
    simp [AV.emb, SV.ofVals_emb hl]
  · obtain ⟨l, hl, e⟩ := Option.bind_eq_some_iff.1 h
    cases e
    exact SV.ofVal_emb hl

theorem TV.ofVal_emb {O : Nat → Value} {R : Rho} {v : Value} {a : TV} (h : TV.ofVal v = some a) : a.emb O R = some v := by
  unfold TV.ofVal at h
  split at h
  · rename_i vs
    split at h
    · rename_i e
      cases h
      have : vs = #[] := by simpa using e
      subst this; rfl
    · cases h
  · obtain ⟨l, hl, e⟩ := Option.bind_eq_some_iff.1 h
    cases e
    exact AV.ofVal_emb hl

theorem Ctx.Ok.zero (hC : C.Ok) {t : Nat} {a : AV} (h : C.zero t = some a) :
    ∃ i z, C.P.info? t = some i ∧ i.zero = some z ∧ (∀ O R, a.emb O R = some z) ∧ ∀ w, (zeroValue t).run C.P w = .ok z w := by
  unfold Ctx.zero Ctx.ty at h
  cases hi : C.tys.get t with
  | none => simp [hi] at h
  | some i =>
    simp only [hi] at h
    cases hz : i.zero with
    | none => simp [hz] at h
    | some z =>
      simp only [hz] at h
      exact ⟨i, z, hC.ty _ _ hi, hz, fun O R => AV.ofVal_emb h, fun w => by simp [zeroValue, typeInfo, hC.ty _ _ hi, hz]⟩

/-! ## Operands -/

variable {O : Nat → Value} {R : Rho} {f : Fr} {fr : Frame}

theorem ev_ok (ht : TmpsOk O R f.t fr.tmps) {x : Operand} {v : TV} (h : f.ev x = some v) : v.emb O R = some (fr.eval x) := by
  cases x with
  | tmp t =>
    simp only [Fr.ev] at h
    obtain ⟨h1, h2⟩ := cond_some h
    cases h2
    exact ht t (blt_iff.1 h1)
  | const c => exact TV.ofVal_emb h
  | global g => cases h
  | func g => cases h; rfl

theorem evA_ok (ht : TmpsOk O R f.t fr.tmps) {x : Operand} {v : AV} (h : f.evA x = some v) : v.emb O R = some (fr.eval x) := by
  obtain ⟨a, h1, h2⟩ := Option.bind_eq_some_iff.1 h
  cases a with
  | v a => cases h2; exact ev_ok ht h1
  | tup l => cases h2

theorem evS_ok (ht : TmpsOk O R f.t fr.tmps) {x : Operand} {v : SV} (h : f.evS x = some v) : v.emb O R = some (fr.eval x) := by
  obtain ⟨a, h1, h2⟩ := Option.bind_eq_some_iff.1 h
  cases a with
  | v a => cases a with
    | s a => cases h2; exact ev_ok ht h1
    | agg l => cases h2
  | tup l => cases h2

theorem evAs_ok (ht : TmpsOk O R f.t fr.tmps) : ∀ {l : List Operand} {vs : List AV}, evAs f l = some vs → eachR (AV.emb O R) vs = some (l.map fr.eval)
  | [], vs, h => by cases h; rfl
  | x :: l, vs, h => by
    obtain ⟨b, r, h1, h2, rfl⟩ := eachR_cons_some h
    exact eachR_cons_of (evA_ok ht h1) (evAs_ok ht h2)

theorem evSs_ok (ht : TmpsOk O R f.t fr.tmps) : ∀ {l : List Operand} {vs : List SV}, evSs f l = some vs → eachR (SV.emb O R) vs = some (l.map fr.eval)
  | [], vs, h => by cases h; rfl
  | x :: l, vs, h => by
    obtain ⟨b, r, h1, h2, rfl⟩ := eachR_cons_some h
    exact eachR_cons_of (evS_ok ht h1) (evSs_ok ht h2)

theorem ptrs_ok : ∀ {l : List SV} {ps : List (Nat × Nat)} {vs : List Value}, ptrs l = some ps → eachR (SV.emb O R) l = some vs → eachR (ptrE R) ps = some vs
  | [], ps, vs, h, k => by cases h; cases k; rfl
  | x :: l, ps, vs, h, k => by
    obtain ⟨b, r, h1, h2, rfl⟩ := eachR_cons_some h
    obtain ⟨c, q, k1, k2, rfl⟩ := eachR_cons_some k
    cases x <;> try (cases h1; done)
    cases h1
    exact eachR_cons_of k1 (ptrs_ok h2 k2)

theorem evParts_ok (ht : TmpsOk O R f.t fr.tmps) : ∀ {l : List (Nat × Operand)} {ps : List (Nat × AV)}, evParts f l = some ps →
    eachR (fun p : Nat × AV => (p.2.emb O R).bind fun v => some (p.1, v)) ps = some (l.map fun p => (p.1, fr.eval p.2))
  | [], ps, h => by cases h; rfl
  | x :: l, ps, h => by
    obtain ⟨b, r, h1, h2, rfl⟩ := eachR_cons_some h
    obtain ⟨a, h3, h4⟩ := Option.bind_eq_some_iff.1 h1
    cases h4
    exact eachR_cons_of (by simp [evA_ok ht h3]) (evParts_ok ht h2)

/-! ## Texts -/

theorem eqB_eq : ∀ x y : List UInt8, eqB x y = (x == y)
  | [], [] => rfl
  | [], _ :: _ => rfl
  | _ :: _, [] => rfl
  | a :: x, b :: y => by
    have : eqB (a :: x) (b :: y) = Bool.rec false (eqB x y) (Nat.beq a.toNat b.toNat) := rfl
    rw [this, eqB_eq x y]
    by_cases h : a = b
    · subst h; rw [beq_iff.2 rfl]; simp
    · have : Nat.beq a.toNat b.toNat = false := by
        cases e : Nat.beq a.toNat b.toNat with
        | false => rfl
        | true => exact absurd (UInt8.toNat_inj.1 (beq_iff.1 e)) h
      rw [this]; simp [h]

theorem ltB_eq : ∀ x y : List UInt8, ltB x y = Op.bytesLess x y
  | [], [] => rfl
  | [], _ :: _ => rfl
  | _ :: _, [] => rfl
  | a :: x, b :: y => by
    have : ltB (a :: x) (b :: y) = Bool.rec (Bool.rec false (ltB x y) (Nat.beq a.toNat b.toNat)) true (Nat.blt a.toNat b.toNat) := rfl
    rw [this, ltB_eq x y]
    show _ = (decide (a < b) || (a == b && Op.bytesLess x y))
    by_cases h : a = b
    · subst h
      have : Nat.blt a.toNat a.toNat = false := by
        cases e : Nat.blt a.toNat a.toNat with
        | false => rfl
        | true => exact absurd (blt_iff.1 e) (Nat.lt_irrefl _)
      rw [beq_iff.2 rfl, this]
      simp
    · have h1 : Nat.beq a.toNat b.toNat = false := by
        cases e : Nat.beq a.toNat b.toNat with
        | false => rfl
        | true => exact absurd (UInt8.toNat_inj.1 (beq_iff.1 e)) h
      have h2 : Nat.blt a.toNat b.toNat = decide (a < b) := by
        cases e : Nat.blt a.toNat b.toNat with
        | false =>
          have : ¬ a < b := fun q => by rw [blt_iff.2 (UInt8.lt_iff_toNat_lt.1 q)] at e; cases e
          simp [this]
        | true => have := UInt8.lt_iff_toNat_lt.2 (blt_iff.1 e); simp [this]
      rw [h1, h2]
      by_cases q : a < b <;> simp [q, h]

theorem eachR_two {f : SV → Option Value} {a b : SV} {vs : List Value} (h : eachR f [a, b] = some vs) : ∃ x y, f a = some x ∧ f b = some y ∧ vs = [x, y] := by
  obtain ⟨x, r, h1, h2, rfl⟩ := eachR_cons_some h
  obtain ⟨y, r, h3, h4, rfl⟩ := eachR_cons_some h2
  cases h4
  exact ⟨x, y, h1, h3, rfl⟩

/-- A slice that is none of nil. -/
theorem slice_emb {id sz eo len : Nat} {cp : Option Nat} {v : Value} (h : (SV.slice id sz eo len cp).emb O R = some v) :
    ∃ m c, R id = some m ∧ v = .slice (some ⟨m.blk, m.base + eo * sz, none⟩) len c ∧ (∀ k, cp = some k → c = k) ∧ (cp = none → c = m.cap - eo ∧ eo + len ≤ m.cap) := by
  cases cp with
  | some c => obtain ⟨m, hm, rfl⟩ := Option.map_eq_some_iff.1 h; exact ⟨m, c, hm, rfl, fun k e => by cases e; rfl, fun e => by cases e⟩
  | none =>
    obtain ⟨m, hm, h⟩ := Option.bind_eq_some_iff.1 h
    split at h
    · rename_i hl; cases h; exact ⟨m, _, hm, rfl, fun k e => (by cases e), fun _ => ⟨rfl, hl⟩⟩
    · cases h

theorem slice_emb_of {id sz eo len : Nat} {cp : Option Nat} {m : M} {c : Nat} (hm : R id = some m) (h1 : ∀ k, cp = some k → c = k) (h2 : cp = none → c = m.cap - eo ∧ eo + len ≤ m.cap) :
    (SV.slice id sz eo len cp).emb O R = some (.slice (some ⟨m.blk, m.base + eo * sz, none⟩) len c) := by
  cases cp with
  | some k => cases h1 k rfl; simp [SV.emb, hm]
  | none => obtain ⟨e, hl⟩ := h2 rfl; subst e; simp [SV.emb, hm, hl]

theorem rest_emb {id sz eo0 eo : Nat} {v : Value} (h : (SV.rest id sz eo0 eo).emb O R = some v) :
    ∃ m, R id = some m ∧ v = .slice (some ⟨m.blk, m.base + (if m.cap - eo = 0 then eo0 else eo) * sz, none⟩) 0 (m.cap - eo) := by
  obtain ⟨m, hm, rfl⟩ := Option.map_eq_some_iff.1 h; exact ⟨m, hm, rfl⟩

theorem ptr_emb {id off : Nat} {v : Value} (h : (SV.ptr id off).emb O R = some v) : ∃ m, R id = some m ∧ v = .pointer (some ⟨m.blk, m.base + off, none⟩) := by
  obtain ⟨m, hm, rfl⟩ := Option.map_eq_some_iff.1 h; exact ⟨m, hm, rfl⟩

theorem ptr_emb_of {id off : Nat} {m : M} (h : R id = some m) : (SV.ptr id off).emb O R = some (.pointer (some ⟨m.blk, m.base + off, none⟩)) := by
  simp [SV.emb, ptrE, h]

theorem natOf_ok {v : SV} {n : Nat} (h : natOf v = some n) : ∃ k i, v = .int k i ∧ 0 ≤ i ∧ i.toNat = n := by
  unfold natOf at h
  split at h
  · obtain ⟨h1, h2⟩ := cond_some h
    cases h2
    exact ⟨_, _, rfl, by simpa using h1, rfl⟩
  · cases h

end
end Go.Ev

/- The operations that leave memory alone. -/
namespace Go.Ev
open Go.RowKit

theorem bind_some {α β : Type} {x : Option α} {g : α → Option β} {b : β} (h : x.bind g = some b) : ∃ a, x = some a ∧ g a = some b := Option.bind_eq_some_iff.1 h


section
variable {C : Ctx} {O : Nat → Value} {R : Rho} {f : Fr} {fr : Frame}

theorem cond_dec {c : Prop} [Decidable c] {α : Type} {x : Option α} {y : α} (h : cond (decide c) x none = some y) : c ∧ x = some y := by
  obtain ⟨h1, h2⟩ := cond_some h
  exact ⟨of_decide_eq_true h1, h2⟩

/-! ## binOp -/

theorem guard_int (op : BinOp) (t : Nat) (a b : Operand) (k k' : IntKind) (n m : Int) : eqGuard op t a b (.int k n) (.int k' m) = pure () := by
  cases op <;> rfl
theorem guard_float (op : BinOp) (t : Nat) (a b : Operand) (k k' : FloatKind) (n m : Nat) : eqGuard op t a b (.float k n) (.float k' m) = pure () := by
  cases op <;> rfl
theorem guard_str (op : BinOp) (t : Nat) (a b : Operand) (n m : ByteArray) : eqGuard op t a b (.string n) (.string m) = pure () := by
  cases op <;> rfl

theorem intB_ok {op : BinOp} {k : IntKind} {a b : Int} {r : SV} (h : intB op k a b = some r) (t : Nat) (w : World) :
    ∃ V, r.emb O R = some V ∧ (binOp op t (.int k a) (.int k b)).run C.P w = .ok V w := by
  cases op <;> simp only [intB] at h <;> first
    | (cases h; done)
    | (cases h; exact ⟨_, rfl, by simp [binOp, Op.intArith, Op.intBits, Op.intCmp]⟩)
    | (obtain ⟨h1, h2⟩ := cond_none h
       cases h2
       exact ⟨_, rfl, by have : b ≠ 0 := by simpa using h1
                         simp [binOp, Op.intDiv, this]⟩)

theorem shiftB_ok {op : BinOp} {k k' : IntKind} {a b : Int} {r : SV} (h : shiftB op k a b = some r) (t : Nat) (w : World) :
    ∃ V, r.emb O R = some V ∧ (binOp op t (.int k a) (.int k' b)).run C.P w = .ok V w := by
  unfold shiftB at h
  obtain ⟨h1, h2⟩ := cond_none h
  have h1 : ¬ b < 0 := by simpa using h1
  cases op <;> (try (cases h2; done)) <;> (cases h2; exact ⟨_, rfl, by simp [binOp, Op.shift, h1]⟩)

theorem strB_ok {op : BinOp} {a b : List UInt8} {r : SV} (h : strB op a b = some r) (t : Nat) (w : World) :
    ∃ V, r.emb O R = some V ∧ (binOp op t (.string ⟨⟨a⟩⟩) (.string ⟨⟨b⟩⟩)).run C.P w = .ok V w := by
  cases op <;> simp only [strB, eqB_eq, ltB_eq] at h <;> first
    | (cases h; done)
    | (cases h; exact ⟨_, rfl, by simp [binOp, Op.stringOp, ByteArray.toList_eq]⟩)
    | (obtain ⟨h1, h2⟩ := cond_some h
       cases h2
       have h1 := blt_iff.1 h1
       refine ⟨_, rfl, ?_⟩
       simp only [lenR_eq] at h1
       have h3 : Nat.add a.length b.length = a.length + b.length := rfl
       rw [h3] at h1
       have h4 : ¬ ((9223372036854775807 : Int) < (a.length : Int) + (b.length : Int)) := by omega
       have h5 : ByteArray.mk ⟨a⟩ ++ ByteArray.mk ⟨b⟩ = ByteArray.mk ⟨a ++ b⟩ := by
         apply ByteArray.ext; simp
       simp [binOp, Op.stringOp, IntKind.max, IntKind.signed, IntKind.bits, ByteArray.size, h4, h5])

theorem floatB_ok {op : BinOp} {k : FloatKind} {a b : Nat} {r : SV} (h : floatB op k a b = some r) (t : Nat) (w : World) :
    ∃ V, r.emb O R = some V ∧ (binOp op t (.float k a) (.float k b)).run C.P w = .ok V w := by
  cases op <;> simp only [floatB] at h <;> first
    | (cases h; done)
    | (cases h; exact ⟨_, rfl, by simp [binOp, Op.floatCmp]⟩)

theorem boolB (a b : Bool) : (cond a b (!b)) = (a == b) := by cases a <;> cases b <;> rfl

theorem eqS_run {d : TypeDesc} {x y : SV} {r : Bool} (h : eqS d x y = some r) {t : Nat} (hd : C.P.underlying t = some d) {X Y : Value} (hx : x.emb O R = some X) (hy : y.emb O R = some Y) (w : World) (n : Nat) :
    (Op.equalIn (n + 1) t X Y).run C.P w = .ok r w := by
  simp only [Op.equalIn, Sem.run_bind, run_underlying hd, Result.andThen_ok]
  unfold eqS at h
  split at h
  case h_1 => cases hx; cases hy; cases h; rename_i a b; cases a <;> cases b <;> rfl
  case h_2 => cases hx; cases hy; obtain ⟨h1, h2⟩ := cond_dec h; cases h2; subst h1; simp only [if_pos]; rfl
  case h_3 => cases hx; cases hy; obtain ⟨h1, h2⟩ := cond_dec h; cases h2; subst h1; simp only [if_pos]; rfl
  case h_4 => cases hx; cases hy; cases h; rename_i a b; rw [eqB_eq]; show Result.ok ((ByteArray.mk ⟨a⟩) == (ByteArray.mk ⟨b⟩)) w = _; rw [beq_toListBytes]; simp [ByteArray.toList_eq]
  case h_5 => cases hx; cases hy; cases h; rfl
  case h_6 => obtain ⟨m, hm, rfl⟩ := Option.map_eq_some_iff.1 hy; cases hx; cases h; rfl
  case h_7 => obtain ⟨m, hm, rfl⟩ := Option.map_eq_some_iff.1 hx; cases hy; cases h; rfl
  case h_8 => cases hx; cases hy; cases h; rfl
  case h_9 => obtain ⟨m, c, _, rfl, _⟩ := slice_emb hy; cases hx; cases h; rfl
  case h_10 => obtain ⟨m, hm, rfl⟩ := Option.map_eq_some_iff.1 hy; cases hx; cases h; rfl
  case h_11 => obtain ⟨m, c, _, rfl, _⟩ := slice_emb hx; cases hy; cases h; rfl
  case h_12 => obtain ⟨m, hm, rfl⟩ := Option.map_eq_some_iff.1 hx; cases hy; cases h; rfl
  case h_13 => cases hx; cases hy; cases h; rfl
  case h_14 => obtain ⟨m, hm, rfl⟩ := Option.map_eq_some_iff.1 hy; cases hx; cases h; rfl
  case h_15 => obtain ⟨m, hm, rfl⟩ := Option.map_eq_some_iff.1 hx; cases hy; cases h; rfl
  case h_16 => cases hx; cases hy; cases h; rfl
  case h_17 =>
    simp only [SV.emb] at hy
    obtain ⟨p, hp, hy⟩ := Option.bind_eq_some_iff.1 hy
    obtain ⟨q, hq, hy⟩ := Option.bind_eq_some_iff.1 hy
    cases hx; cases hy; cases h; rfl
  case h_18 =>
    simp only [SV.emb] at hx
    obtain ⟨p, hp, hx⟩ := Option.bind_eq_some_iff.1 hx
    obtain ⟨q, hq, hx⟩ := Option.bind_eq_some_iff.1 hx
    cases hx; cases hy; cases h; rfl
  case h_19 => obtain ⟨m, hm, rfl⟩ := Option.map_eq_some_iff.1 hy; cases hx; cases h; rfl
  case h_20 => obtain ⟨m, hm, rfl⟩ := Option.map_eq_some_iff.1 hx; cases hy; cases h; rfl
  case h_21 => cases h

/-- '==' of two values of one cell (or more: then nothing is said). -/
theorem eqT_run (hC : C.Ok) {t : Nat} {x y : AV} {r : Bool} (h : eqT C t x y = some r) {X Y : Value} (hx : x.emb O R = some X) (hy : y.emb O R = some Y) (w : World) (n : Nat) :
    (Op.equalIn (n + 1) t X Y).run C.P w = .ok r w := by
  unfold eqT at h
  split at h
  · rename_i i o j q
    cases hu : C.und t with
    | none => simp [hu] at h
    | some d =>
      cases d <;> simp only [hu] at h <;> try (cases h; done)
      rename_i e
      obtain ⟨z, hz, h⟩ := Option.bind_eq_some_iff.1 h
      obtain ⟨h1, h⟩ := cond_none h
      obtain ⟨h2, h⟩ := cond_some h
      cases h
      have h2 := beq_iff.1 h2
      subst h2
      obtain ⟨m, hm, rfl⟩ := Option.map_eq_some_iff.1 hx
      obtain ⟨m', hm', rfl⟩ := Option.map_eq_some_iff.1 hy
      rw [hm] at hm'; cases hm'
      have hzz : z ≠ 0 := fun e => by rw [e] at h1; cases h1
      simp only [Op.equalIn, Sem.run_bind, run_underlying (hC.und hu), Result.andThen_ok, hC.sizeOf hz, ne_eq, hzz, not_false_eq_true, if_true, sameAddr, beq_self_eq_true]
      show Result.ok _ w = _
      congr 1
      rw [Bool.eq_iff_iff]
      simp
  · rename_i hne
    obtain ⟨d, hd, h⟩ := Option.bind_eq_some_iff.1 h
    exact eqS_run h (hC.und hd) hx hy w n
  · cases h

theorem equal_of {P : Program} {t : Nat} {X Y : Value} {r : Bool} {w : World} (h : ∀ n, (Op.equalIn (n + 1) t X Y).run P w = .ok r w) : (Op.equal t X Y).run P w = .ok r w := h 9999

/-- Whose '==' is that of 'Op.equal'. -/
def plainX : Value → Bool
  | .bool _ | .pointer _ | .slice .. | .map _ | .nilFunc | .func .. => true
  | _ => false

theorem eql_plain {X : Value} (h : plainX X = true) (t : Nat) (a b : Operand) (Y : Value) :
    (do eqGuard .eql t a b X Y; binOp .eql t X Y : Sem Value) = (do pure (.bool (← Op.equal t X Y))) ∧
    (do eqGuard .neq t a b X Y; binOp .neq t X Y : Sem Value) = (do pure (.bool (!(← Op.equal t X Y)))) := by
  cases X <;> simp only [plainX, Bool.false_eq_true] at h <;> cases Y <;> exact ⟨rfl, rfl⟩

def SV.cmpK : SV → Bool
  | .bool _ | .nilp | .ptr .. | .nils | .slice .. | .rest .. | .nilm | .map _ | .nilFunc | .func .. | .yield _ => true
  | _ => false

theorem cmpK_plain {x : SV} {X : Value} (h : x.cmpK = true) (hx : x.emb O R = some X) : plainX X = true := by
  cases x <;> simp only [SV.cmpK, Bool.false_eq_true] at h
  case bool | nilp | nils | nilm | nilFunc => cases hx; rfl
  case ptr => obtain ⟨m, hm, rfl⟩ := Option.map_eq_some_iff.1 hx; rfl
  case slice id sz eo len cp => obtain ⟨m, c, _, rfl, _⟩ := slice_emb hx; rfl
  case rest | map | yield => obtain ⟨m, hm, rfl⟩ := Option.map_eq_some_iff.1 hx; rfl
  case func =>
    simp only [SV.emb] at hx
    obtain ⟨p, hp, hx⟩ := Option.bind_eq_some_iff.1 hx
    obtain ⟨q, hq, hx⟩ := Option.bind_eq_some_iff.1 hx
    cases hx; rfl

theorem eqT_cmpK {t : Nat} {x : SV} {y : AV} {q : Bool} (h : eqT C t (.s x) y = some q)
    (n1 : ∀ k a k' b, AV.s x = .s (.int k a) → y = .s (.int k' b) → False) (n2 : ∀ k a k' b, AV.s x = .s (.float k a) → y = .s (.float k' b) → False)
    (n3 : ∀ a b, AV.s x = .s (.str a) → y = .s (.str b) → False) : x.cmpK = true := by
  unfold eqT at h
  split at h
  · rename_i e; injection e with e; subst e; rfl
  · rename_i e; injection e with e; subst e
    obtain ⟨d, hd, h⟩ := Option.bind_eq_some_iff.1 h
    unfold eqS at h
    split at h <;> first
      | rfl
      | (cases h; done)
      | exact (n1 _ _ _ _ rfl rfl).elim
      | exact (n2 _ _ _ _ rfl rfl).elim
      | exact (n3 _ _ rfl rfl).elim
  · cases h

theorem binB_ok (hC : C.Ok) {op : BinOp} {t : Nat} {x y : AV} {r : SV} (h : binB C op t x y = some r) {X Y : Value} (hx : x.emb O R = some X) (hy : y.emb O R = some Y) (a b : Operand) (w : World) :
    ∃ V, r.emb O R = some V ∧ ((do eqGuard op t a b X Y; binOp op t X Y : Sem Value)).run C.P w = .ok V w := by
  unfold binB at h
  split at h
  · rename_i k n k' m
    cases hx; cases hy
    rw [guard_int]
    split at h
    · exact shiftB_ok (k' := k') h t w
    · exact shiftB_ok (k' := k') h t w
    · rename_i h1 h2
      obtain ⟨e, h'⟩ := cond_dec h
      subst e
      exact intB_ok h' t w
  · cases hx; cases hy
    rw [guard_float]
    obtain ⟨e, h'⟩ := cond_dec h
    subst e
    exact floatB_ok h' t w
  · cases hx; cases hy
    rw [guard_str]
    exact strB_ok h t w
  · rename_i n1 n2 n3
    have main : ∀ q, eqT C t x y = some q → plainX X = true ∧ (Op.equal t X Y).run C.P w = .ok q w := by
      intro q hq
      refine ⟨?_, equal_of (fun n => eqT_run hC hq hx hy w n)⟩
      cases x with
      | agg l => cases y <;> simp [eqT] at hq
      | s x => exact cmpK_plain (eqT_cmpK hq n1 n2 n3) hx
    split at h
    · obtain ⟨q, hq, h⟩ := Option.bind_eq_some_iff.1 h
      cases h
      obtain ⟨h1, h2⟩ := main q hq
      exact ⟨_, rfl, by rw [(eql_plain h1 t a b Y).1]; simp [h2]⟩
    · obtain ⟨q, hq, h⟩ := Option.bind_eq_some_iff.1 h
      cases h
      obtain ⟨h1, h2⟩ := main q hq
      exact ⟨_, rfl, by rw [(eql_plain h1 t a b Y).2]; simp [h2]⟩
    · cases h

end
end Go.Ev

/- .. the rest of them. -/
namespace Go.Ev
open Go.RowKit

section
variable {C : Ctx} {O : Nat → Value} {R : Rho} {f : Fr} {fr : Frame}

/-- Cells written from a place on. -/
theorem foldl_set (cells : Array Value) (off : Nat) : ∀ (l : List Value) (j : Nat) , off + j + l.length ≤ cells.size →
    (((l.zipIdx j).foldl (fun cs (c : Value × Nat) => cs.setIfInBounds (off + c.2) c.1) cells)).toList = cells.toList.take (off + j) ++ (l ++ cells.toList.drop (off + j + l.length)) := by
  intro l
  induction l generalizing cells with
  | nil => intro j h; simp
  | cons a l ih =>
    intro j h
    simp only [List.zipIdx_cons, List.foldl_cons]
    simp only [List.length_cons] at h
    rw [ih (cells.setIfInBounds (off + j) a) (j + 1) (by simp; omega)]
    apply List.ext_getElem?
    intro i
    simp only [Array.toList_setIfInBounds, List.getElem?_append, List.getElem?_take, List.getElem?_drop, List.getElem?_set, List.length_take, List.length_set, Array.length_toList, List.length_cons, List.getElem?_cons]
    by_cases h1 : i < off + j
    · have e1 : i < off + (j + 1) := by omega
      have e2 : i < min (off + (j + 1)) cells.size := by omega
      have e3 : i < min (off + j) cells.size := by omega
      have e4 : ¬ (off + j = i) := by omega
      simp [e1, e2, e3, e4, h1]
    · by_cases h2 : i = off + j
      · subst h2
        have e1 : off + j < off + (j + 1) := by omega
        have e2 : off + j < min (off + (j + 1)) cells.size := by omega
        have e3 : ¬ (off + j < min (off + j) cells.size) := by omega
        have e4 : off + j < cells.size := by omega
        have e5 : off + j - min (off + j) cells.size = 0 := by omega
        simp [e1, e2, e4, e5]
        omega
      · have e1 : ¬ i < off + (j + 1) := by omega
        have e2 : ¬ (i < min (off + (j + 1)) cells.size) := by omega
        have e3 : ¬ (i < min (off + j) cells.size) := by omega
        have e5 : min (off + j) cells.size = off + j := by omega
        have e6 : min (off + (j + 1)) cells.size = off + (j + 1) := by omega
        rw [if_neg e2, if_neg e3, e5, e6]
        obtain ⟨d, rfl⟩ : ∃ d, i = off + j + (d + 1) := ⟨i - (off + j) - 1, by omega⟩
        have e7 : off + j + (d + 1) - (off + (j + 1)) = d := by omega
        have e8 : off + j + (d + 1) - (off + j) = d + 1 := by omega
        have e9 : ¬ (off + j = off + (j + 1) + l.length + (d - l.length)) := by omega
        rw [e7, e8]
        by_cases h3 : d < l.length
        · simp [h3]
        · have e10 : ¬ (d + 1 < l.length + 1) := by omega
          have e11 : off + (j + 1) + l.length + (d - l.length) = off + j + (l.length + 1) + (d + 1 - (l.length + 1)) := by omega
          rw [if_neg h3, if_neg e10, if_neg e9, e11]

theorem fillB_ok {place place' : Nat → Option (Nat × Nat)} (hp : ∀ i p, place i = some p → place' i = some p) (hO : Plain O) : ∀ (l : List (Nat × AV)) (cells : List SV) (r : List SV) (vs : List (Nat × Value)) (cs : Array Value),
    fillB place cells l = some r → eachR (fun p : Nat × AV => (p.2.emb O R).bind fun v => some (p.1, v)) l = some vs → eachR (SV.emb O R) cells = some cs.toList →
    ∃ rs : Array Value, Instr.fill place' cs vs = some rs ∧ eachR (SV.emb O R) r = some rs.toList
  | [], cells, r, vs, cs, h, hv, hc => by cases h; cases hv; exact ⟨cs, rfl, hc⟩
  | (i, a) :: l, cells, r, vs, cs, h, hv, hc => by
    obtain ⟨⟨j, v⟩, vs', h1, h2, rfl⟩ := eachR_cons_some hv
    obtain ⟨V, h3, h4⟩ := Option.bind_eq_some_iff.1 h1
    cases h4
    have h : ((place i).bind fun p => cond (Nat.beq (lenR a.cells) p.2 && Nat.ble (Nat.add p.1 (lenR a.cells)) (lenR cells))
        (fillB place (appR (takeR p.1 cells) (appR a.cells (dropR (Nat.add p.1 (lenR a.cells)) cells))) l) none) = some r := h
    obtain ⟨⟨off, n⟩, h5, h6⟩ := Option.bind_eq_some_iff.1 h
    obtain ⟨h7, h8⟩ := cond_some h6
    simp only [Bool.and_eq_true, beq_iff, ble_iff, lenR_eq] at h7
    have hcell := AV.emb_cells hO h3
    have hlen := eachR_length hcell
    have hlen2 := eachR_length hc
    simp only [Array.length_toList] at hlen hlen2
    have e0 : Nat.add off a.cells.length = off + a.cells.length := rfl
    simp only [appR_eq, takeR_eq, dropR_eq, lenR_eq, e0] at h8
    rw [e0] at h7
    have key : ((v.cells.zipIdx.foldl (fun cs (c : Value × Nat) => cs.setIfInBounds (off + c.2) c.1) cs)).toList = cs.toList.take off ++ (v.cells.toList ++ cs.toList.drop (off + a.cells.length)) := by
      have := foldl_set cs off v.cells.toList 0 (by simp only [Nat.add_zero, Array.length_toList]; omega)
      simp only [Nat.add_zero, Array.length_toList] at this
      rw [← hlen, ← this]
      congr 1
      rw [← Array.foldl_toList]
      congr 1
      simp
    obtain ⟨rs, k1, k2⟩ := fillB_ok hp hO l _ r vs' (v.cells.zipIdx.foldl (fun cs (c : Value × Nat) => cs.setIfInBounds (off + c.2) c.1) cs) h8 h2 (by
      rw [key]
      exact eachR_append (eachR_take _ hc) (eachR_append hcell (eachR_drop _ hc)))
    refine ⟨rs, ?_, k2⟩
    unfold Instr.fill
    simp only [hp _ _ h5]
    rw [if_neg (by simp; omega)]
    exact k1

theorem eachR_arr {f : SV → Option Value} {l : List SV} {vs : Array Value} (h : eachR f l = some vs.toList) {i : Nat} {a : SV} (hi : l[i]? = some a) : ∃ V, f a = some V ∧ vs[i]? = some V := by
  obtain ⟨b, h1, h2⟩ := eachR_get h i a hi
  exact ⟨b, h1, by simpa using h2⟩

theorem partB_ok (hC : C.Ok) {t : Nat} {cs : List SV} {off : Nat} {a : AV} (h : partB C t cs off = some a) {vs : Array Value} (hv : eachR (SV.emb O R) cs = some vs.toList) (w : World) :
    ∃ V, a.emb O R = some V ∧ (part t vs off).run C.P w = .ok V w := by
  obtain ⟨g, hg, h⟩ := Option.bind_eq_some_iff.1 h
  obtain ⟨n, hn, h⟩ := Option.bind_eq_some_iff.1 h
  cases g with
  | true =>
    simp only [cond_true] at h
    obtain ⟨h1, h2⟩ := cond_some h
    simp only [takeR_eq, dropR_eq] at h2
    cases h2
    refine ⟨.agg (vs.extract off (off + n)), ?_, ?_⟩
    · have := eachR_take n (eachR_drop off hv)
      simp only [AV.emb, this, Option.map_some]
      congr 2
      apply Array.ext'
      simp
    · simp [part, hC.agg hg, hC.sizeOf hn]
  | false =>
    simp only [cond_false, nthR_eq] at h
    cases hi : cs[off]? with
    | none => simp [hi] at h
    | some v =>
      simp [hi] at h
      subst h
      obtain ⟨V, h1, h2⟩ := eachR_arr hv hi
      exact ⟨V, h1, by simp [part, hC.agg hg, h2]⟩

theorem places_ok (hC : C.Ok) : ∀ {fs : List Field} {ps : List (Nat × Nat)}, eachR (fun f => (C.size f.type).bind fun n => some (f.offset, n)) fs = some ps →
    fs.mapM (fun f => (C.P.info? f.type).map fun i => (f.offset, i.size)) = some ps
  | [], ps, h => by cases h; rfl
  | f :: fs, ps, h => by
    obtain ⟨b, r, h1, h2, rfl⟩ := eachR_cons_some h
    obtain ⟨n, h3, h4⟩ := Option.bind_eq_some_iff.1 h1
    cases h4
    obtain ⟨i, hi, e⟩ := hC.size h3
    simp [List.mapM_cons, hi, e, places_ok hC h2]

theorem buildB_ok (hC : C.Ok) (hO : Plain O) {t : Nat} {ps : List (Nat × AV)} {a : AV} (h : buildB C t ps = some a) {vs : Array (Nat × Value)}
    (hv : eachR (fun p : Nat × AV => (p.2.emb O R).bind fun v => some (p.1, v)) ps = some vs.toList) (w : World) :
    ∃ V, a.emb O R = some V ∧ (Instr.build t vs).run C.P w = .ok V w := by
  obtain ⟨z, hz, h⟩ := Option.bind_eq_some_iff.1 h
  obtain ⟨i, Z, hi, hiz, he, _⟩ := hC.zero hz
  cases hu : C.und t with
  | none => simp [hu] at h
  | some d =>
    cases d <;> simp only [hu] at h <;> try (cases h; done)
    rename_i fs
    obtain ⟨places, hp, h⟩ := Option.bind_eq_some_iff.1 h
    obtain ⟨l, hl, h⟩ := Option.bind_eq_some_iff.1 h
    cases h
    obtain ⟨rs, h1, h2⟩ := fillB_ok (R := R) (place' := fun x => places[x]?) (fun i p hp => by simpa using hp) hO ps z.cells l vs.toList Z.cells hl hv (AV.emb_cells hO (he O R))
    refine ⟨.agg rs, by simp [AV.emb, h2], run_build w t vs rs ?_⟩
    unfold Program.built
    simp only [hi, hC.und hu, hiz, places_ok hC hp]
    simpa using h1

end
end Go.Ev

/- One operation that leaves memory alone. -/
namespace Go.Ev
open Go.RowKit

section
variable {C : Ctx} {O : Nat → Value} {R : Rho} {f : Fr} {fr : Frame}

/-- An index that may be left out. -/
theorem natOfO_ok (ht : TmpsOk O R f.t fr.tmps) {x : Option Operand} {n : Option Nat} (h : natOfO f x = some n) :
    (x = none ∧ n = none) ∨ ∃ y k i, x = some y ∧ fr.eval y = .int k i ∧ 0 ≤ i ∧ n = some i.toNat := by
  cases x with
  | none => cases h; exact .inl ⟨rfl, rfl⟩
  | some y =>
    (obtain ⟨v, h1, hh⟩ := bind_some h; clear h; have h := hh; clear hh)
    (obtain ⟨m, h2, hh⟩ := bind_some h; clear h; have h := hh; clear hh)
    cases h
    obtain ⟨k, i, rfl, h3, h4⟩ := natOf_ok h2
    have := evS_ok ht h1
    simp only [SV.emb, Option.some.injEq] at this
    exact .inr ⟨y, k, i, rfl, this.symm, h3, by rw [h4]⟩

/-- The bounds of 'x[lo:hi:mx]'. -/
theorem sliceBounds_ok (ht : TmpsOk O R f.t fr.tmps) {lo hi mx : Option Operand} {l h m : Option Nat} (e1 : natOfO f lo = some l) (e2 : natOfO f hi = some h) (e3 : natOfO f mx = some m)
    (isS : Bool) (len cap : Nat) (k1 : ∀ i, m = some i → i ≤ cap) (k2 : (h.getD len) ≤ m.getD (if h.isSome then cap else len)) (k3 : l.getD 0 ≤ h.getD len) (k4 : m.isSome = true → h.isSome = true) (w : World) :
    (Instr.sliceBounds isS len cap (lo.map fr.eval) (hi.map fr.eval) (mx.map fr.eval)).run C.P w = .ok (l.getD 0, h.getD len, m.getD cap) w := by
  rcases natOfO_ok ht e3 with ⟨rfl, rfl⟩ | ⟨y3, q3, i3, rfl, v3, p3, rfl⟩ <;> rcases natOfO_ok ht e2 with ⟨rfl, rfl⟩ | ⟨y2, q2, i2, rfl, v2, p2, rfl⟩ <;>
    rcases natOfO_ok ht e1 with ⟨rfl, rfl⟩ | ⟨y1, q1, i1, rfl, v1, p1, rfl⟩ <;>
    simp only [Option.getD_some, Option.getD_none, Option.isSome_some, Option.isSome_none, if_true, Bool.false_eq_true, if_false, forall_const, imp_false, Option.some.injEq, forall_eq'] at k1 k2 k3 k4 <;>
    simp_all [Instr.sliceBounds, run_sliceBound_if]
  all_goals first | (intro hx; exfalso; omega) | (rw [if_pos (by omega), if_pos (by omega)])

theorem Addr.add_eq (b o n : Nat) : (⟨b, o, none⟩ : Addr).add n = ⟨b, o + n, none⟩ := Addr.add_mid b o n

theorem pick_ok (ht : TmpsOk O R f.t fr.tmps) {c a b : Operand} {v : TV} (h : pPick f c a b = some v) (w : World) :
    ∃ V, v.emb O R = some V ∧ (do pure (.value (if ← asBool (fr.eval c) then fr.eval a else fr.eval b)) : Sem Next).run C.P w = .ok (.value V) w := by
  unfold pPick at h
  split at h
  · rename_i t hc
    have := evS_ok ht hc
    simp only [SV.emb, Option.some.injEq] at this
    rw [← this]
    cases t
    · exact ⟨_, ev_ok ht h, by simp [asBool]⟩
    · exact ⟨_, ev_ok ht h, by simp [asBool]⟩
  · cases h

theorem unB_ok {op : UnOp} {x r : SV} (h : unB op x = some r) {X : Value} (hx : x.emb O R = some X) (w : World) :
    ∃ V, r.emb O R = some V ∧ (Op.unary op X).run C.P w = .ok V w := by
  unfold unB at h
  split at h <;> cases h <;> cases hx <;> exact ⟨_, rfl, by simp [Op.unary, Op.intArith]⟩

theorem fieldAddr_ok (hC : C.Ok) (ht : TmpsOk O R f.t fr.tmps) {t i : Nat} {x : Operand} {v : TV} (h : pFieldAddr C f t x i = some v) (w : World) :
    ∃ V, v.emb O R = some V ∧ (Instr.fieldAt t (fr.eval x) i).run C.P w = .ok V w := by
  unfold pFieldAddr at h
  split at h
  · rename_i id off fs hx hu
    rw [nthR_eq] at h
    split at h
    · rename_i fd hf
      (obtain ⟨n, hn, hh⟩ := bind_some h; clear h; have h := hh; clear hh)
      (obtain ⟨h1, hh⟩ := cond_none h; clear h; have h := hh; clear hh)
      cases h
      obtain ⟨m, hm, e⟩ := ptr_emb (evS_ok ht hx)
      have hn0 : n ≠ 0 := fun e => by rw [e] at h1; cases h1
      refine ⟨_, ptr_emb_of (O := O) hm, ?_⟩
      have hf' : fs[i]? = some fd := by simpa using hf
      rw [e]
      simp [Instr.fieldAt, run_underlying (hC.und hu), hf', Instr.sureAddr, fieldPlace, hC.sizeOf hn, hn0, Addr.add_eq, Nat.add_assoc]
    · cases h
  · cases h

theorem field_ok (hC : C.Ok) (ht : TmpsOk O R f.t fr.tmps) {t i : Nat} {x : Operand} {v : TV} (h : pField C f t x i = some v) (w : World) :
    ∃ V, v.emb O R = some V ∧ (Instr.field t (fr.eval x) i).run C.P w = .ok V w := by
  unfold pField at h
  split at h
  · rename_i cs fs hx hu
    rw [nthR_eq] at h
    split at h
    · rename_i fd hf
      (obtain ⟨a, ha, hh⟩ := bind_some h; clear h; have h := hh; clear hh)
      cases h
      have hf' : fs[i]? = some fd := by simpa using hf
      have hx := evA_ok ht hx
      simp only [AV.emb] at hx
      obtain ⟨l, hl, e⟩ := Option.map_eq_some_iff.1 hx
      obtain ⟨V, h1, h2⟩ := partB_ok hC ha (vs := l.toArray) (by simpa using hl) w
      exact ⟨V, h1, by rw [← e]; simp [Instr.field, run_underlying (hC.und hu), hf', asAgg, h2]⟩
    · cases h
  · cases h

theorem indexAddr_ok (hC : C.Ok) (ht : TmpsOk O R f.t fr.tmps) {t : Nat} {x ix : Operand} {v : TV} (h : pIndexAddr C f t x ix = some v) (w : World) :
    ∃ V, v.emb O R = some V ∧ (Instr.indexAt t (fr.eval x) (fr.eval ix)).run C.P w = .ok V w := by
  (obtain ⟨i, hi, hh⟩ := bind_some h; clear h; have h := hh; clear hh)
  (obtain ⟨n, hn, hh⟩ := bind_some h; clear h; have h := hh; clear hh)
  obtain ⟨k, j, rfl, hj, e⟩ := natOf_ok hn
  have hi := evS_ok ht hi
  simp only [SV.emb, Option.some.injEq] at hi
  rw [← hi]
  split at h
  · rename_i id sz eo len cp el hx hu
    (obtain ⟨z, hz, hh⟩ := bind_some h; clear h; have h := hh; clear hh)
    (obtain ⟨h1, hh⟩ := cond_some h; clear h; have h := hh; clear hh)
    simp only [Bool.and_eq_true, blt_iff, beq_iff] at h1
    cases h
    obtain ⟨m, c, hm, e2, _, _⟩ := slice_emb (evS_ok ht hx)
    obtain ⟨h1, rfl⟩ := h1
    refine ⟨_, ptr_emb_of (O := O) hm, ?_⟩
    rw [e2]
    have h2 : j < (len : Int) := by omega
    simp [Instr.indexAt, run_underlying (hC.und hu), asIntOf, hj, h2, hC.sizeOf hz, Addr.add_eq, Nat.add_assoc, ← Nat.add_mul, e]
  · rename_i id off len el hx hu
    (obtain ⟨z, hz, hh⟩ := bind_some h; clear h; have h := hh; clear hh)
    (obtain ⟨h1, hh⟩ := cond_some h; clear h; have h := hh; clear hh)
    simp only [blt_iff] at h1
    cases h
    obtain ⟨m, hm, e2⟩ := ptr_emb (evS_ok ht hx)
    refine ⟨_, ptr_emb_of (O := O) hm, ?_⟩
    rw [e2]
    have h2 : j < (len : Int) := by omega
    simp [Instr.indexAt, run_underlying (hC.und hu), Instr.sureAddr, asIntOf, hj, h2, hC.sizeOf hz, Addr.add_eq, Nat.add_assoc, e]
  · cases h

theorem index_ok (hC : C.Ok) (ht : TmpsOk O R f.t fr.tmps) {t : Nat} {x ix : Operand} {v : TV} (h : pIndex C f t x ix = some v) (w : World) :
    ∃ V, v.emb O R = some V ∧ (Instr.index t (fr.eval x) (fr.eval ix)).run C.P w = .ok V w := by
  (obtain ⟨i, hi, hh⟩ := bind_some h; clear h; have h := hh; clear hh)
  (obtain ⟨n, hn, hh⟩ := bind_some h; clear h; have h := hh; clear hh)
  obtain ⟨k, j, rfl, hj, e⟩ := natOf_ok hn
  have hi := evS_ok ht hi
  simp only [SV.emb, Option.some.injEq] at hi
  rw [← hi]
  split at h
  · rename_i a hx hu
    rw [nthR_eq] at h
    split at h
    · rename_i b hb
      cases h
      have hx := evA_ok ht hx
      simp only [AV.emb, SV.emb, Option.some.injEq] at hx
      refine ⟨_, rfl, ?_⟩
      rw [← hx]
      have hb' : (ByteArray.mk ⟨a⟩)[j.toNat]? = some b := by
        rw [e]
        have hl : n < a.length := (List.getElem?_eq_some_iff.1 hb).1
        have : n < (ByteArray.mk ⟨a⟩).size := hl
        rw [getElem?_pos (ByteArray.mk ⟨a⟩) n this]
        rw [List.getElem?_eq_getElem hl] at hb
        exact hb
      simp [Instr.index, run_underlying (hC.und hu), asIntOf, hj, hb']
    · cases h
  · cases h

theorem extract_ok (ht : TmpsOk O R f.t fr.tmps) {x : Operand} {i : Nat} {v : TV} (h : pExtract f x i = some v) (w : World) :
    ∃ V, v.emb O R = some V ∧ (Instr.extract (fr.eval x) i).run C.P w = .ok V w := by
  unfold pExtract at h
  split at h
  · rename_i l hx
    rw [nthR_eq] at h
    split at h
    · rename_i a ha
      cases h
      have hx := ev_ok ht hx
      simp only [TV.emb] at hx
      obtain ⟨vs, hvs, e⟩ := Option.map_eq_some_iff.1 hx
      obtain ⟨V, h1, h2⟩ := eachR_get hvs i a ha
      exact ⟨V, h1, by rw [← e]; simp [Instr.extract, h2]⟩
    · cases h
  · cases h

theorem nilCheck_ok (ht : TmpsOk O R f.t fr.tmps) {x : Operand} {v : TV} (h : pNil f x = some v) : ∃ b o, v.emb O R = some (.pointer (some ⟨b, o, none⟩)) ∧ fr.eval x = .pointer (some ⟨b, o, none⟩) := by
  unfold pNil at h
  split at h
  · rename_i i o hx
    cases h
    obtain ⟨m, hm, e⟩ := ptr_emb (evS_ok ht hx)
    exact ⟨_, _, ptr_emb_of (O := O) hm, e⟩
  · cases h

theorem func_ok (ht : TmpsOk O R f.t fr.tmps) {g : Nat} {a b : List Operand} {v : TV} (h : pFunc f g a b = some v) :
    v.emb O R = some (.func (.func g) (a.map fr.eval).toArray (b.map fr.eval).toArray) := by
  (obtain ⟨x, h1, hh⟩ := bind_some h; clear h; have h := hh; clear hh)
  (obtain ⟨p, h2, hh⟩ := bind_some h; clear h; have h := hh; clear hh)
  (obtain ⟨y, h3, hh⟩ := bind_some h; clear h; have h := hh; clear hh)
  (obtain ⟨q, h4, hh⟩ := bind_some h; clear h; have h := hh; clear hh)
  cases h
  have e1 := ptrs_ok h2 (evSs_ok ht h1)
  have e2 := ptrs_ok h4 (evSs_ok ht h3)
  simp [TV.emb, AV.emb, SV.emb, e1, e2]

theorem convP_ok (hC : C.Ok) {src dst : Nat} {x r : SV} (h : convP C src dst x = some r) {X : Value} (hx : x.emb O R = some X) (w : World) :
    ∃ V, r.emb O R = some V ∧ (convert src dst X).run C.P w = .ok V w := by
  unfold convP at h
  split at h
  · rename_i e1 e2
    cases h; cases hx
    exact ⟨_, rfl, by simp [convert, run_underlying (hC.und e1), run_underlying (hC.und e2), Conv.intToInt]⟩
  · rename_i e1 e2
    cases h; cases hx
    exact ⟨_, rfl, by simp [convert, run_underlying (hC.und e1), run_underlying (hC.und e2)]⟩
  · cases h

theorem lenP_ok {d : TypeDesc} {x : SV} {n : Nat} (h : lenP d x = some n) {X : Value} (hx : x.emb O R = some X) {t : Nat} (hd : C.P.underlying t = some d) (ts : Array Nat) (ty : Nat) (ht : ts[0]? = some t) (w : World) :
    (Builtin.len_ ts ty #[X]).run C.P w = .ok (.int .i64 n) w := by
  unfold lenP at h
  split at h
  · cases h; cases hx
    simp [Builtin.len_, ht, run_underlying hd, goInt]; rfl
  · cases h; cases hx
    simp [Builtin.len_, ht, run_underlying hd, goInt]
  · cases h
    obtain ⟨m, c, _, rfl, _⟩ := slice_emb hx
    simp [Builtin.len_, ht, run_underlying hd, goInt]
  · cases h
    obtain ⟨m, _, rfl⟩ := rest_emb hx
    simp [Builtin.len_, ht, run_underlying hd, goInt]
  · cases h
    simp only [SV.emb] at hx
    split at hx
    · cases hx
      simp [Builtin.len_, ht, run_underlying hd, goInt]
    · cases hx
  · cases h

end
end Go.Ev

/- One operation that leaves memory alone, whichever. -/
namespace Go.Ev
open Go.RowKit

section
variable {C : Ctx} {O : Nat → Value} {R : Rho} {f : Fr} {fr : Frame}

theorem minMax_ok (mx : Bool) : ∀ (l : List SV) (x r : SV) (vs : List Value) (X : Value), minMax mx x l = some r → x.emb O R = some X → eachR (SV.emb O R) l = some vs → ∀ (w : World),
    ∃ V, r.emb O R = some V ∧ (vs.foldlM (if mx then Builtin.max2 else Builtin.min2) X).run C.P w = .ok V w
  | [], x, r, vs, X, h, hx, hv, w => by cases h; cases hv; exact ⟨X, hx, rfl⟩
  | y :: l, x, r, vs, X, h, hx, hv, w => by
    have h : (minMax2 mx x y).bind (fun z => minMax mx z l) = some r := h
    (obtain ⟨z, hz, hh⟩ := bind_some h; clear h; have h := hh; clear hh)
    obtain ⟨Y, ys, h1, h2, rfl⟩ := eachR_cons_some hv
    unfold minMax2 at hz
    split at hz
    · rename_i k a k' b
      cases hz; cases hx; cases h1
      obtain ⟨V, h3, h4⟩ := minMax_ok mx l _ r ys _ h rfl h2 w
      refine ⟨V, h3, ?_⟩
      rw [List.foldlM_cons, Sem.run_bind]
      have : ((if mx = true then Builtin.max2 else Builtin.min2) (.int k a) (.int k' b)).run C.P w = .ok (.int k (cond mx (cond (decide (b > a)) b a) (cond (decide (b < a)) b a))) w := by
        cases mx
        · by_cases q : b < a <;> simp [Builtin.min2, q]
        · by_cases q : b > a <;> simp [Builtin.max2, q]
      rw [this]
      exact h4
    · cases hz

theorem callP_ok (hC : C.Ok) {b : Builtin} {ts : Array Nat} {l : List SV} {r : SV} (h : callP C b ts.toList l = some r) {vs : Array Value} (hv : eachR (SV.emb O R) l = some vs.toList) (ty : Nat) (cs : Array Bool) (w : World) :
    ∃ V, r.emb O R = some V ∧ (builtin b ts ty cs vs).run C.P w = .ok (.value V) w := by
  unfold callP at h
  split at h
  · rename_i t rest x e1
    (obtain ⟨d, hd, hh⟩ := bind_some h; clear h; have h := hh; clear hh)
    (obtain ⟨n, hn, hh⟩ := bind_some h; clear h; have h := hh; clear hh)
    cases h
    obtain ⟨X, r, h1, h2, h3⟩ := eachR_cons_some hv
    cases h2
    have h3 : vs = #[X] := by apply Array.ext'; simpa using h3
    subst h3
    have ht : ts[0]? = some t := by rw [← Array.getElem?_toList, e1]; rfl
    exact ⟨_, rfl, by simp [builtin, lenP_ok hn h1 (hC.und hd) ts ty ht w]⟩
  · rename_i x l
    obtain ⟨X, r, h1, h2, h3⟩ := eachR_cons_some hv
    obtain ⟨V, k1, k2⟩ := minMax_ok (C := C) false l x _ r X h h1 h2 w
    refine ⟨V, k1, ?_⟩
    simp only [Bool.false_eq_true, if_false] at k2
    simp [builtin, Builtin.min_, h3, k2]
  · rename_i x l
    obtain ⟨X, r, h1, h2, h3⟩ := eachR_cons_some hv
    obtain ⟨V, k1, k2⟩ := minMax_ok (C := C) true l x _ r X h h1 h2 w
    refine ⟨V, k1, ?_⟩
    simp only [if_true] at k2
    simp [builtin, Builtin.max_, h3, k2]
  · rename_i x
    obtain ⟨X, r, h1, h2, h3⟩ := eachR_cons_some hv
    cases h2
    have h3 : vs = #[X] := by apply Array.ext'; simpa using h3
    subst h3
    split at h
    · cases h; cases h1
      exact ⟨_, rfl, by simp [builtin, Lib.run_unsafeSliceData_nil]⟩
    · rename_i id sz eo len cp
      (obtain ⟨h2, hh⟩ := cond_some h; clear h; have h := hh; clear hh)
      cases h
      obtain ⟨m, c, hm, rfl, g1, g2⟩ := slice_emb h1
      refine ⟨_, ptr_emb_of hm, ?_⟩
      have hc : c ≠ 0 := by
        have h2 := blt_iff.1 h2
        cases cp with
        | some k => have := g1 k rfl; simp only [Option.getD_some] at h2; omega
        | none => have := g2 rfl; simp only [Option.getD_none] at h2; omega
      simp [builtin, Lib.run_unsafeSliceData_row _ _ _ _ _ _ hc]
    · cases h
  · cases h

theorem sliceStr_ok (hC : C.Ok) (ht : TmpsOk O R f.t fr.tmps) {t : Nat} (hu : C.und t = some .string) {lo hi : Option Operand} {l h : Option Nat} (e1 : natOfO f lo = some l) (e2 : natOfO f hi = some h)
    {a : List UInt8} {r : SV} (hr : sliceStr a l h = some r) (w : World) :
    ∃ V, r.emb O R = some V ∧ (Instr.sliceAt t (.string ⟨⟨a⟩⟩) (lo.map fr.eval) (hi.map fr.eval) none).run C.P w = .ok V w := by
  unfold sliceStr at hr
  (obtain ⟨h1, hh⟩ := cond_some hr; clear hr; have hr := hh; clear hh)
  simp only [lenR_eq, Bool.and_eq_true, ble_iff, takeR_eq, dropR_eq] at h1 hr
  cases hr
  have hb := sliceBounds_ok (C := C) ht e1 e2 (mx := none) (m := none) rfl false a.length a.length (fun _ h => by cases h) (by cases h <;> simp_all) h1.2 (fun h => by cases h) w
  refine ⟨_, rfl, ?_⟩
  have e : (ByteArray.mk ⟨a⟩).size = a.length := rfl
  simp only [Option.map_none, Option.getD_none] at hb
  simp only [Instr.sliceAt, Instr.slice, Sem.run_bind, run_underlying (hC.und hu), Result.andThen_ok, Option.isSome_none, Bool.false_eq_true, if_false, e, hb, Sem.run_pure]
  congr 2
  apply ByteArray.ext
  simp [ByteArray.data_extract]

theorem pSlice_ok (hC : C.Ok) (ht : TmpsOk O R f.t fr.tmps) {t : Nat} {x : Operand} {lo hi mx : Option Operand} {v : TV} (h : pSlice C f t x lo hi mx = some v) (w : World) :
    ∃ V, v.emb O R = some V ∧ (Instr.sliceAt t (fr.eval x) (lo.map fr.eval) (hi.map fr.eval) (mx.map fr.eval)).run C.P w = .ok V w := by
  unfold pSlice at h
  (obtain ⟨l, e1, hh⟩ := bind_some h; clear h; have h := hh; clear hh)
  (obtain ⟨u, e2, hh⟩ := bind_some h; clear h; have h := hh; clear hh)
  (obtain ⟨m, e3, hh⟩ := bind_some h; clear h; have h := hh; clear hh)
  (obtain ⟨y, e4, hh⟩ := bind_some h; clear h; have h := hh; clear hh)
  have hy := evS_ok ht e4
  split at h
  · rename_i a hu
    (obtain ⟨h1, hh⟩ := cond_some h; clear h; have h := hh; clear hh)
    (obtain ⟨r, hr, hh⟩ := bind_some h; clear h; have h := hh; clear hh)
    cases h
    cases m with
    | some _ => cases h1
    | none =>
      rcases natOfO_ok ht e3 with ⟨rfl, _⟩ | ⟨_, _, _, _, _, _, e⟩
      · simp only [SV.emb, Option.some.injEq] at hy
        rw [← hy]
        obtain ⟨V, k1, k2⟩ := sliceStr_ok hC ht hu e1 e2 hr w
        exact ⟨V, k1, k2⟩
      · cases e
  · rename_i n e id off hu
    (obtain ⟨z, hz, hh⟩ := bind_some h; clear h; have h := hh; clear hh)
    (obtain ⟨h1, hh⟩ := cond_some h; clear h; have h := hh; clear hh)
    cases h
    simp only [Bool.and_eq_true, ble_iff, beq_iff, Bool.not_eq_true'] at h1
    obtain ⟨⟨⟨⟨g1, g2⟩, g3⟩, g4⟩, g5⟩ := h1
    cases m with
    | some _ => cases g3
    | none =>
      obtain ⟨mm, hm, ey⟩ := ptr_emb hy
      rw [ey]
      have hb := sliceBounds_ok (C := C) ht e1 e2 e3 false n n (fun _ h => by cases h) (by cases u <;> simp_all) g5 (fun h => by cases h) w
      have hs := slice_emb_of (O := O) (id := id) (sz := z) (eo := cond ((l.getD 0).beq n) (off / z) (off / z + l.getD 0)) (len := u.getD n - l.getD 0) (cp := some (n - l.getD 0)) (m := mm) (c := n - l.getD 0) hm
        (fun k hk => Option.some.inj hk) (fun e => by cases e)
      refine ⟨_, hs, ?_⟩
      simp only [Instr.sliceAt, Sem.run_bind, run_underlying (hC.und hu), Result.andThen_ok, Instr.sureAddr, Sem.run_pure, hb, hC.sizeOf hz, Option.getD_none]
      congr 2
      have hdm : off / z * z = off := Nat.div_mul_cancel (Nat.dvd_of_mod_eq_zero g2)
      by_cases q : n = l.getD 0
      · have q' : Nat.beq (l.getD 0) n = true := beq_iff.2 q.symm
        rw [if_pos q, q', cond_true, hdm]
      · have q' : Nat.beq (l.getD 0) n = false := by
          cases e : Nat.beq (l.getD 0) n with
          | false => rfl
          | true => exact absurd (beq_iff.1 e).symm q
        rw [if_neg q, q', cond_false, Addr.add_eq, Nat.add_mul, hdm, Nat.add_assoc]
  · cases h

/-- ONE OPERATION THAT LEAVES MEMORY ALONE. -/
theorem opP_ok (hC : C.Ok) (hO : Plain O) (ht : TmpsOk O R f.t fr.tmps) {o : Oper} {v : TV} (h : opP C o.op f = some v) (w : World) :
    ∃ V, v.emb O R = some V ∧ (execOp fr.eval o).run C.P w = .ok (.value V) w := by
  unfold opP at h
  unfold execOp
  split at h
  case h_17 => cases h
  all_goals (rename_i e; rw [e]; clear e)
  · exact ⟨_, ev_ok ht h, rfl⟩
  · exact ⟨_, ev_ok ht h, rfl⟩
  · exact pick_ok ht h w
  · rename_i t parts
    obtain ⟨ps, h1, h⟩ := bind_some h
    obtain ⟨a, h2, h⟩ := bind_some h
    cases h
    obtain ⟨V, k1, k2⟩ := buildB_ok (vs := parts.map fun (i, x) => (i, fr.eval x)) hC hO h2 (by simpa using evParts_ok ht h1) w
    exact ⟨V, k1, by simp [k2]⟩
  · obtain ⟨b, o', h1, h2⟩ := nilCheck_ok ht h
    refine ⟨_, h1, ?_⟩
    simp only [h2]
    rfl
  · rename_i op t x y ty
    obtain ⟨a, h1, h⟩ := bind_some h
    obtain ⟨b, h2, h⟩ := bind_some h
    obtain ⟨r, h3, h⟩ := bind_some h
    cases h
    obtain ⟨V, k1, k2⟩ := binB_ok hC h3 (evA_ok ht h1) (evA_ok ht h2) x y w
    exact ⟨V, k1, by simp only [Sem.run_bind, Sem.run_pure] at k2 ⊢; rw [k2]; rfl⟩
  · obtain ⟨a, h1, h⟩ := bind_some h
    obtain ⟨r, h2, h⟩ := bind_some h
    cases h
    obtain ⟨V, k1, k2⟩ := unB_ok (C := C) h2 (evS_ok ht h1) w
    exact ⟨V, k1, by simp [k2]⟩
  · obtain ⟨a, h1, h⟩ := bind_some h
    obtain ⟨r, h2, h⟩ := bind_some h
    cases h
    obtain ⟨V, k1, k2⟩ := convP_ok hC h2 (evS_ok ht h1) w
    exact ⟨V, k1, by simp [k2]⟩
  · rename_i g a b
    have := func_ok ht h
    refine ⟨_, this, ?_⟩
    simp [Instr.makeFunc, ← Array.toList_map]
  · obtain ⟨V, k1, k2⟩ := pSlice_ok hC ht h w
    exact ⟨V, k1, by simp [k2]⟩
  · obtain ⟨V, k1, k2⟩ := fieldAddr_ok hC ht h w
    exact ⟨V, k1, by simp [k2]⟩
  · obtain ⟨V, k1, k2⟩ := field_ok hC ht h w
    exact ⟨V, k1, by simp [k2]⟩
  · obtain ⟨V, k1, k2⟩ := indexAddr_ok hC ht h w
    exact ⟨V, k1, by simp [k2]⟩
  · obtain ⟨V, k1, k2⟩ := index_ok hC ht h w
    exact ⟨V, k1, by simp [k2]⟩
  · obtain ⟨V, k1, k2⟩ := extract_ok (C := C) ht h w
    exact ⟨V, k1, by simp [k2]⟩
  · rename_i c
    split at h
    · rename_i b hb
      obtain ⟨l, h1, h⟩ := bind_some h
      obtain ⟨r, h2, h⟩ := bind_some h
      cases h
      obtain ⟨V, k1, k2⟩ := callP_ok (vs := c.args.map fr.eval) hC h2 (by simpa using evSs_ok ht h1) o.type (c.args.map fun | .const _ => true | _ => false) w
      refine ⟨V, k1, ?_⟩
      simp only [resolve, hb, Sem.run_bind, Sem.run_pure, Result.andThen_ok, invoke]
      exact k2
    · cases h

end
end Go.Ev

