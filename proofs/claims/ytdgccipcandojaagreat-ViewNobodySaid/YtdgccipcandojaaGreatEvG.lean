/- The fast form of the evaluator says no more than the plain one: its tools, operands, operations. -/
import Derived.Test.YtdgccipcandojaaGreatEvE
import Derived.Test.YtdgccipcandojaaGreatEvF
import Derived.IntWalk
namespace Go.Ev

section
variable {α β : Type}

theorem c16_get (n : Nat) (t : N16 β) (w : β → Bool) : (c16 β n).get t w = w (N16.get t n) :=
  match n with
  | 0 => rfl
  | 1 => rfl
  | 2 => rfl
  | 3 => rfl
  | 4 => rfl
  | 5 => rfl
  | 6 => rfl
  | 7 => rfl
  | 8 => rfl
  | 9 => rfl
  | 10 => rfl
  | 11 => rfl
  | 12 => rfl
  | 13 => rfl
  | 14 => rfl
  | _n + 15 => rfl

theorem c16_upd (n : Nat) (t : N16 β) (u : β → (β → Bool) → Bool) (w : N16 β → Bool) : (c16 β n).upd t u w = u (N16.get t n) fun y => w (N16.set t n y) :=
  match n with
  | 0 => rfl
  | 1 => rfl
  | 2 => rfl
  | 3 => rfl
  | 4 => rfl
  | 5 => rfl
  | 6 => rfl
  | 7 => rfl
  | 8 => rfl
  | 9 => rfl
  | 10 => rfl
  | 11 => rfl
  | 12 => rfl
  | 13 => rfl
  | 14 => rfl
  | _n + 15 => rfl

theorem cG_eq (n : Nat) (t : T2 TV) (k : TV → Bool) : (cG n).run t k = (Nat.blt n 256 && k (T2.get t n)) := by
  unfold cG
  cases Nat.blt n 256 with
  | false => rfl
  | true =>
    rw [Bool.true_and]
    show (c16 (N16 TV) (n / 16)).get t (fun a => (c16 TV (n % 16)).get a k) = _
    rw [c16_get, c16_get]
    rfl

theorem cT_eq (n : Nat) (t : T2 TV) (v : TV) (k : T2 TV → Bool) : (cT n).run t v k = k (T2.set t n v) := by
  show (c16 (N16 TV) (n / 16)).upd t (fun a k => (c16 TV (n % 16)).upd a (fun _ k => k v) k) k = _
  rw [c16_upd, c16_upd]
  rfl

theorem getX_some {t : Tr α} {k : α → Bool} : ∀ {n : Nat}, getX t n false k = true → ∃ x, t.get n = some x ∧ k x = true := by
  induction t with
  | nil => intro n h; cases h
  | node l v r il ir =>
    intro n h
    have h : (Bool.rec (Bool.rec (getX r (Nat.sub (Nat.div n 2) 1) false k) (getX l (Nat.div n 2) false k) (Nat.beq (Nat.mod n 2) 1)) (Option.rec false k v) (Nat.beq n 0) : Bool) = true := h
    have e : (Tr.node l v r).get n = (Bool.rec (Bool.rec (r.get (Nat.sub (Nat.div n 2) 1)) (l.get (Nat.div n 2)) (Nat.beq (Nat.mod n 2) 1)) v (Nat.beq n 0) : Option α) := rfl
    rw [e]
    cases h1 : Nat.beq n 0 with
    | true =>
      rw [h1] at h
      cases v with
      | none => cases h
      | some x => exact ⟨x, rfl, h⟩
    | false =>
      rw [h1] at h
      cases h2 : Nat.beq (Nat.mod n 2) 1 with
      | true => rw [h2] at h; exact il h
      | false => rw [h2] at h; exact ir h

theorem setF'_eq : ∀ (f : Nat) (t : Tr α) (n : Nat) (x : α) (k : Tr α → β), setF' f t n x k = k (Tr.setF f t n x)
  | 0, _, _, _, _ => rfl
  | f + 1, t, n, x, k => by
    have e1 : setF' (f + 1) t n x k = (Bool.rec
      (Bool.rec
        (Tr.rec (motive := fun _ => β) (setF' f .nil (Nat.sub (Nat.div n 2) 1) x (fun r => k (.node .nil none r)))
          (fun l v r _ _ => setF' f r (Nat.sub (Nat.div n 2) 1) x (fun r' => k (.node l v r'))) t)
        (Tr.rec (motive := fun _ => β) (setF' f .nil (Nat.div n 2) x (fun l => k (.node l none .nil)))
          (fun l v r _ _ => setF' f l (Nat.div n 2) x (fun l' => k (.node l' v r))) t)
        (Nat.beq (Nat.mod n 2) 1))
      (Tr.rec (motive := fun _ => β) (k (.node .nil (some x) .nil)) (fun l _ r _ _ => k (.node l (some x) r)) t)
      (Nat.beq n 0) : β) := rfl
    have e2 : Tr.setF (f + 1) t n x = (Bool.rec
      (Bool.rec
        (Tr.rec (motive := fun _ => Tr α) (.node .nil none (Tr.setF f .nil (Nat.sub (Nat.div n 2) 1) x)) (fun l v r _ _ => .node l v (Tr.setF f r (Nat.sub (Nat.div n 2) 1) x)) t)
        (Tr.rec (motive := fun _ => Tr α) (.node (Tr.setF f .nil (Nat.div n 2) x) none .nil) (fun l v r _ _ => .node (Tr.setF f l (Nat.div n 2) x) v r) t)
        (Nat.beq (Nat.mod n 2) 1))
      (Tr.rec (motive := fun _ => Tr α) (.node .nil (some x) .nil) (fun l _ r _ _ => .node l (some x) r) t)
      (Nat.beq n 0) : Tr α) := rfl
    rw [e1, e2]
    cases Nat.beq n 0 with
    | true => cases t <;> rfl
    | false =>
      cases Nat.beq (Nat.mod n 2) 1 with
      | true => cases t <;> exact setF'_eq f _ _ _ _
      | false => cases t <;> exact setF'_eq f _ _ _ _

theorem setX_eq (t : Tr α) (n : Nat) (x : α) (k : Tr α → β) : setX t n x k = k (t.set n x) := setF'_eq (n + 1) t n x k

theorem natX_eq (n : Nat) (k : Nat → Bool) : natX n k = k n := by cases n <;> rfl
theorem someX_some {o : Option α} {k : α → Bool} (h : someX o k = true) : ∃ x, o = some x ∧ k x = true := by
  cases o with
  | none => cases h
  | some x => exact ⟨x, rfl, h⟩
theorem maxX_eq (a b : Nat) (k : Nat → Bool) : maxX a b k = k (max a b) := by
  unfold maxX
  cases h : Nat.ble a b with
  | true => exact (natX_eq b k).trans (by rw [Nat.max_eq_right (ble_iff.1 h)])
  | false =>
    have : ¬ a ≤ b := fun q => by rw [ble_iff.2 q] at h; cases h
    exact (natX_eq a k).trans (by rw [Nat.max_eq_left (by omega)])
theorem brec_true {a b : Bool} (h : (Bool.rec false a b : Bool) = true) : b = true ∧ a = true := rec_true h
theorem Int.natX_some {n : Int} {k : Nat → Bool} (h : Int.natX n k = true) : ∃ m : Nat, n = (m : Int) ∧ k m = true := by
  cases n with
  | ofNat m => exact ⟨m, rfl, h⟩
  | negSucc m => cases h
end

section
variable {k : Bool → Bool}
theorem SV.boolX_some {v : SV} {k : Bool → Bool} (h : v.boolX k = true) : ∃ b, v = .bool b ∧ k b = true := by
  cases v <;> first | exact ⟨_, rfl, h⟩ | cases h
theorem SV.ptrX_some {v : SV} {k : Nat → Nat → Bool} (h : v.ptrX k = true) : ∃ i o, v = .ptr i o ∧ k i o = true := by
  cases v <;> first | exact ⟨_, _, rfl, h⟩ | cases h
theorem SV.intX_some {v : SV} {k : IntKind → Int → Bool} (h : v.intX false k = true) : ∃ i n, v = .int i n ∧ k i n = true := by
  cases v <;> first | exact ⟨_, _, rfl, h⟩ | cases h
theorem SV.sliceX_some {v : SV} {k : Nat → Nat → Nat → Nat → Option Nat → Bool} (h : v.sliceX false k = true) : ∃ a b c d e, v = .slice a b c d e ∧ k a b c d e = true := by
  cases v <;> first | exact ⟨_, _, _, _, _, rfl, h⟩ | cases h
theorem SV.funcX_some {v : SV} {k : Nat → List (Nat × Nat) → List (Nat × Nat) → Bool} {y : Nat → Bool} (h : v.funcX k y = true) : (∃ g a b, v = .func g a b ∧ k g a b = true) ∨ ∃ l, v = .yield l ∧ y l = true := by
  cases v <;> first | exact .inl ⟨_, _, _, rfl, h⟩ | exact .inr ⟨_, rfl, h⟩ | cases h
theorem Blk.cellsX_some {b : Blk} {k : Nat → Ct SV → Nat → Bool → Nat → Nat → Bool} (h : b.cellsX k = true) : ∃ n c sz ex fz et, b = .cells n c sz ex fz et ∧ k n c sz ex fz et = true := by
  cases b <;> first | exact ⟨_, _, _, _, _, _, rfl, h⟩ | cases h
theorem Blk.loopX_some {b : Blk} {k : ALoop → Bool} (h : b.loopX k = true) : ∃ L, b = .loop L ∧ k L = true := by
  cases b <;> first | exact ⟨_, rfl, h⟩ | cases h
theorem LS.readyX_some {l : LS} {k : Bool} (h : l.readyX k = true) : l = .ready ∧ k = true := by
  cases l <;> first | exact ⟨rfl, h⟩ | cases h
theorem heapX_some {s : St} {id : Nat} {k : Blk → Bool} (h : heapX s id k = true) : ∃ b, s.h.get id = some b ∧ k b = true := getX_some (t := s.h) h
theorem putX_eq' (s : St) (id : Nat) (b : Blk) (k : St → Bool) : s.putX id b k = k (s.put id b) := setX_eq s.h id b fun h' => k ⟨h', s.next⟩
end

/-! ## Operands -/

theorem put_some {d : Option Nat} {n : Nat} {t : T2 TV} {v : TV} {k : T2 TV → Bool} (h : (cP d).run n t v k = true) (ms : List Nat) (rnd : Option Nat) : ∃ t', (⟨t, n, ms, rnd⟩ : Fr).put d v = some ⟨t', n, ms, rnd⟩ ∧ k t' = true := by
  cases d with
  | none => exact ⟨t, rfl, h⟩
  | some d =>
    have h : (Bool.rec false ((cT d).run t v k) (Nat.ble (Nat.succ d) n) : Bool) = true := h
    obtain ⟨h1, h2⟩ := brec_true h
    rw [cT_eq] at h2
    refine ⟨_, ?_, h2⟩
    have : Nat.blt d n = true := h1
    simp only [Fr.put, this, cond_true]

theorem cV_some {x : Operand} {t : T2 TV} {k : TV → Bool} (h : (cV x).run t k = true) {f : Fr} (hf : f.t = t) : ∃ v, f.ev x = some v ∧ k v = true := by
  subst hf
  cases x with
  | tmp i =>
    have h : (cG i).run f.t k = true := h
    rw [cG_eq, Bool.and_eq_true] at h
    exact ⟨_, by simp only [Fr.ev, h.1, cond_true], h.2⟩
  | const v =>
    have h : (cVal (TV.ofVal v)).run f.t k = true := h
    cases e : TV.ofVal v with
    | none => rw [e] at h; cases h
    | some w => rw [e] at h; exact ⟨w, e, h⟩
  | global g => cases h
  | func g => exact ⟨_, rfl, h⟩

noncomputable def gS (x : Operand) : T2 TV → (SV → Bool) → Bool := fun tr k => (cV x).run tr fun v => TV.rec (motive := fun _ => Bool) (fun a => AV.rec (motive := fun _ => Bool) k (fun _ => false) a) (fun _ => false) v
noncomputable def gA (x : Operand) : T2 TV → (AV → Bool) → Bool := fun tr k => (cV x).run tr fun v => TV.rec (motive := fun _ => Bool) k (fun _ => false) v
theorem withS_eq (x : Operand) (m : (T2 TV → (SV → Bool) → Bool) → ClO) : withS x m = m (gS x) := rfl
theorem withA_eq (x : Operand) (m : (T2 TV → (AV → Bool) → Bool) → ClO) : withA x m = m (gA x) := rfl
theorem withV_eq (x : Operand) (m : (T2 TV → (TV → Bool) → Bool) → ClO) : withV x m = m (cV x).run := rfl
theorem withP_eq (d : Option Nat) (m : (Nat → T2 TV → TV → (T2 TV → Bool) → Bool) → ClO) : withP d m = m (cP d).run := rfl

theorem gA_some {x : Operand} {t : T2 TV} {k : AV → Bool} (h : gA x t k = true) {f : Fr} (hf : f.t = t) : ∃ v, f.evA x = some v ∧ k v = true := by
  obtain ⟨v, h1, h2⟩ := cV_some (x := x) h hf
  cases v with
  | v a => exact ⟨a, by simp only [Fr.evA, h1, Option.bind_some, TV.av], h2⟩
  | tup l => cases h2

theorem gS_some {x : Operand} {t : T2 TV} {k : SV → Bool} (h : gS x t k = true) {f : Fr} (hf : f.t = t) : ∃ v, f.evS x = some v ∧ k v = true := by
  obtain ⟨v, h1, h2⟩ := cV_some (x := x) h hf
  cases v with
  | v a => cases a with
    | s a => exact ⟨a, by simp only [Fr.evS, h1, Option.bind_some, TV.sv], h2⟩
    | agg l => cases h2
  | tup l => cases h2

theorem cAs_some : ∀ {l : List Operand} {t : T2 TV} {k : List AV → Bool}, (cAs l).run t k = true → ∀ {f : Fr}, f.t = t → ∃ vs, evAs f l = some vs ∧ k vs = true
  | [], t, k, h, f, hf => ⟨[], rfl, h⟩
  | x :: l, t, k, h, f, hf => by
    have h : gA x t (fun a => (cAs l).run t fun l => k (a :: l)) = true := h
    obtain ⟨a, h1, h2⟩ := gA_some h hf
    obtain ⟨vs, h3, h4⟩ := cAs_some h2 hf
    exact ⟨a :: vs, eachR_cons_of h1 h3, h4⟩

/-! ## Operations -/

/-- What a closure does is what is meant. -/
def Doing (go : RX) (c : ClO) (d : Option Nat) (m : Fr → St → Option (TV × St)) : Prop :=
  ∀ (q : Q) (t : T2 TV) (ms : List Nat) (s : St) (k : T2 TV → St → Bool), q.go = go → c.run q t ms s k = true →
    ∃ v s' t', m ⟨t, q.n, ms, q.rnd⟩ s = some (v, s') ∧ (⟨t, q.n, ms, q.rnd⟩ : Fr).put d v = some ⟨t', q.n, ms, q.rnd⟩ ∧ k t' s' = true

section
variable {go : RX} {C : Ctx} {rec : ExecT}

theorem Doing.of {c : ClO} {d : Option Nat} {m m' : Fr → St → Option (TV × St)} (h : Doing go c d m) (hm : ∀ f s r, m f s = some r → m' f s = some r) : Doing go c d m' :=
  fun q t ms s k hq hr => let ⟨v, s', t', h1, h2, h3⟩ := h q t ms s k hq hr; ⟨v, s', t', hm _ _ _ h1, h2, h3⟩

theorem cPure_ok (g : Fr → Option TV) (d : Option Nat) : Doing go (cPure g d) d (fun f s => (g f).bind fun v => some (v, s)) := by
  intro q t ms s k _ h
  have h : someX (g ⟨t, q.n, ms, q.rnd⟩) (fun v => (cP d).run q.n t v fun t' => k t' s) = true := h
  obtain ⟨v, h1, h2⟩ := someX_some h
  obtain ⟨t', h3, h4⟩ := put_some h2 ms q.rnd
  exact ⟨v, s, t', by simp only [h1, Option.bind_some], h3, h4⟩

theorem cRead_ok (g : Fr → St → Option TV) (d : Option Nat) : Doing go (cRead g d) d (fun f s => (g f s).bind fun v => some (v, s)) := by
  intro q t ms s k _ h
  have h : someX (g ⟨t, q.n, ms, q.rnd⟩ s) (fun v => (cP d).run q.n t v fun t' => k t' s) = true := h
  obtain ⟨v, h1, h2⟩ := someX_some h
  obtain ⟨t', h3, h4⟩ := put_some h2 ms q.rnd
  exact ⟨v, s, t', by simp only [h1, Option.bind_some], h3, h4⟩

theorem cMake_ok (g : Fr → Option (Blk × Mk)) (d : Option Nat) : Doing go (cMake g d) d (fun f s => (g f).bind fun p => some (mkB s p)) := by
  intro q t ms s k _ h
  have h : someX (g ⟨t, q.n, ms, q.rnd⟩) (fun p => setX s.h s.next p.1 fun h' => (cP d).run q.n t (p.2.val s.next) fun t' => k t' ⟨h', Nat.succ s.next⟩) = true := h
  obtain ⟨p, h1, h2⟩ := someX_some h
  rw [setX_eq] at h2
  obtain ⟨t', h3, h4⟩ := put_some h2 ms q.rnd
  exact ⟨_, _, t', by simp only [h1, Option.bind_some]; rfl, h3, h4⟩

theorem cMade_ok (p : Option (Blk × Mk)) (d : Option Nat) : Doing go (cMade p d) d (fun _ s => p.bind fun p => some (mkB s p)) := by
  intro q t ms s k _ h
  cases p with
  | none => cases h
  | some p =>
    have h : setX s.h s.next p.1 (fun h' => (cP d).run q.n t (p.2.val s.next) fun t' => k t' ⟨h', Nat.succ s.next⟩) = true := h
    rw [setX_eq] at h
    obtain ⟨t', h3, h4⟩ := put_some h ms q.rnd
    exact ⟨_, _, t', rfl, h3, h4⟩

theorem cDo_ok (g : Fr → St → Option (TV × St)) (d : Option Nat) : Doing go (cDo g d) d g := by
  intro q t ms s k _ h
  have h : someX (g ⟨t, q.n, ms, q.rnd⟩ s) (fun p => (cP d).run q.n t p.1 fun t' => k t' p.2) = true := h
  obtain ⟨p, h1, h2⟩ := someX_some h
  obtain ⟨t', h3, h4⟩ := put_some h2 ms q.rnd
  exact ⟨_, _, t', h1, h3, h4⟩

theorem roundB_none {l : Nat} {args : List AV} {s : St} {r : TV × St} (h : roundB (fun _ _ _ => none) l args s = some r) : False := by
  unfold roundB at h
  split at h
  · split at h
    · obtain ⟨_, h⟩ := cond_some h
      cases h
    · cases h
  · cases h

theorem callB_none {g : Nat} {args : List AV} {s : St} {r : TV × St} (h : callB C (fun _ _ _ => none) g args s = some r) : callB C rec g args s = some r := by
  unfold callB at h ⊢
  cases e : C.fns g with
  | none => rw [e] at h; cases h
  | some fn =>
    rw [e] at h
    cases hb : fn.body with
    | none => simp only [hb] at h ⊢; exact h
    | some body =>
      simp only [hb] at h ⊢
      cases hst : C.stub.get g with
      | some v => rw [hst] at h; exact h
      | none =>
        rw [hst] at h
        obtain ⟨_, h⟩ := cond_some h
        cases h

/-- What needs no run. -/
theorem opB_none {o : Op} {f : Fr} {s : St} {r : TV × St} (h : opB C (fun _ _ _ => none) o f s = some r) : opB C rec o f s = some r := by
  unfold opB at *
  split at h <;> try exact h
  unfold opE at *
  split at h <;> try exact h
  unfold eCall at *
  split at h <;> try exact h
  obtain ⟨g, h1, h⟩ := Option.bind_eq_some_iff.1 h
  obtain ⟨a, h2, h⟩ := Option.bind_eq_some_iff.1 h
  simp only [h1, h2, Option.bind_some]
  unfold applyB at *
  split at h
  · exact callB_none h
  · exact absurd (roundB_none h) id
  · cases h

theorem cAny_ok (o : Oper) : Doing go (cAny C o) o.dst (opB C rec o.op) := (cDo_ok (fun f s => opB C (fun _ _ _ => none) o.op f s) o.dst).of fun _ _ _ h => opB_none h

theorem getC_some {c : Ct SV} {n : Nat} {k : SV → Bool} (h : getC c n k = true) : ∃ v, c.get n = some v ∧ k v = true := by
  cases c with
  | tr t => exact getX_some h
  | ls l =>
    induction l generalizing n with
    | nil => cases h
    | cons a l ih =>
      cases n with
      | zero => exact ⟨a, rfl, h⟩
      | succ n =>
        obtain ⟨v, h1, h2⟩ := ih (n := n) h
        exact ⟨v, h1, h2⟩

theorem setL_some : ∀ {l : List SV} {n : Nat} {x : SV} {k : List SV → Bool}, setL l n x k = true → n < l.length ∧ k (setR l n x) = true
  | [], _, _, _, h => by cases h
  | a :: l, 0, x, k, h => ⟨Nat.succ_pos _, h⟩
  | a :: l, n + 1, x, k, h => let ⟨h1, h2⟩ := setL_some (l := l) (n := n) (k := fun r => k (a :: r)) h; ⟨Nat.succ_lt_succ h1, h2⟩

theorem Ct.set_put (c : Ct SV) (n : Nat) (x : SV) (h : ∀ l, c = .ls l → n < l.length) : c.put n [x] = c.set n x := by
  cases c with
  | tr t => rfl
  | ls l =>
    have h := h l rfl
    show Ct.ls (spliceR l n [x]) = Ct.ls (setR l n x)
    rw [splice_eq, setR_eq]
    congr 1
    apply List.ext_getElem?
    intro m
    rw [splice_get _ _ _ _ (by omega), List.getElem?_set]
    by_cases e : n = m
    · subst e; simp [h]
    · rw [if_neg (by simp; omega), if_neg e]

theorem setC_some {c : Ct SV} {n : Nat} {x : SV} {k : Ct SV → Bool} (h : setC c n x k = true) : k (c.put n [x]) = true := by
  cases c with
  | ls l =>
    obtain ⟨h1, h2⟩ := setL_some (l := l) h
    rw [Ct.set_put _ _ _ fun l' e => (by cases e; exact h1)]
    exact h2
  | tr t =>
    have h : setX t n x (fun t' => k (.tr t')) = true := h
    rw [setX_eq] at h
    exact h

theorem cLoad1_ok {t : Nat} (hg : C.agg t = some false) (x : Operand) (d : Option Nat) : Doing go (cLoad1 x d) d (fun f s => (lLoad C f s t x).bind fun v => some (v, s)) := by
  intro q tt ms s k _ h
  have h : gS x tt (fun a => a.ptrX fun id off => heapX s id fun b => b.cellsX fun n c _ _ _ _ =>
    Bool.rec false (getC c off fun v => (cP d).run q.n tt (.v (.s v)) fun t' => k t' s) (Nat.ble (Nat.succ off) n)) = true := h
  obtain ⟨a, h1, h⟩ := gS_some (f := ⟨tt, q.n, ms, q.rnd⟩) h rfl
  obtain ⟨id, off, rfl, h⟩ := SV.ptrX_some h
  obtain ⟨b, h2, h⟩ := heapX_some h
  obtain ⟨n, c, sz, ex, fz, et, rfl, h⟩ := Blk.cellsX_some h
  obtain ⟨h3, h⟩ := brec_true h
  obtain ⟨v, h4, h⟩ := getC_some h
  obtain ⟨t', h5, h6⟩ := put_some h ms q.rnd
  refine ⟨_, _, t', ?_, h5, h6⟩
  have h3 : Nat.blt off n = true := h3
  simp only [lLoad, h1, hg, Option.bind_some, cond_false, St.load1, h2, h3, cond_true, h4]

end
end Go.Ev

/- The fast form of the evaluator: operations. -/
namespace Go.Ev
open Go.RowKit

section
variable {go : RX} {C : Ctx} {rec : ExecT}

theorem cStore1_ok {t : Nat} (hz : C.size t = some 1) (a x : Operand) (d : Option Nat) : Doing go (cStore1 a x d) d (fun f s => eStore C f s t a x) := by
  intro q tt ms s k _ h
  have h : gS a tt (fun p => gS x tt fun v => p.ptrX fun id off => getX s.h id false fun b => b.cellsX fun n c sz ex fz et =>
    Bool.rec false (Bool.rec false (setC c off v fun c' => setX s.h id (.cells n c' sz ex fz et) fun h' => (cP d).run q.n tt undefT fun t' => k t' ⟨h', s.next⟩)
      (Nat.ble fz off)) (Nat.ble (Nat.succ off) n)) = true := h
  obtain ⟨p, h1, h⟩ := gS_some (f := ⟨tt, q.n, ms, q.rnd⟩) h rfl
  obtain ⟨v, h2, h⟩ := gS_some (f := ⟨tt, q.n, ms, q.rnd⟩) h rfl
  obtain ⟨id, off, rfl, h⟩ := SV.ptrX_some h
  obtain ⟨b, h3, h⟩ := getX_some h
  obtain ⟨n, c, sz, ex, fz, et, rfl, h⟩ := Blk.cellsX_some h
  obtain ⟨h4, h⟩ := brec_true h
  obtain ⟨h5, h⟩ := brec_true h
  have h := setC_some h
  rw [setX_eq] at h
  obtain ⟨t', h6, h7⟩ := put_some h ms q.rnd
  refine ⟨undefT, _, t', ?_, h6, h7⟩
  have hA : (⟨tt, q.n, ms, q.rnd⟩ : Fr).evA x = some (.s v) := by
    revert h2
    unfold Fr.evS Fr.evA
    cases (⟨tt, q.n, ms, q.rnd⟩ : Fr).ev x with
    | none => intro h; cases h
    | some y =>
      cases y with
      | tup l => intro h; cases h
      | v y => cases y with
        | agg l => intro h; cases h
        | s y => intro h; cases h; rfl
  have hl : Nat.ble (Nat.add off (lenR [v])) n = true := h4
  have hb : (Nat.ble (Nat.add off (lenR [v])) n && (Nat.ble fz off || [v].isEmpty)) = true := by rw [hl, h5]; rfl
  simp only [eStore, h1, hA, Option.bind_some, hz, AV.cells]
  have hone : Nat.beq (lenR [v]) 1 = true := rfl
  simp only [hone, cond_true, St.storeL, h3, hb, Option.bind_some]
  rfl

theorem cMove_ok (x : Operand) (d : Option Nat) : Doing go (cMove x d) d (fun f s => (f.ev x).bind fun v => some (v, s)) := by
  intro q t ms s k _ h
  have h : (cV x).run t (fun v => (cP d).run q.n t v fun t' => k t' s) = true := h
  obtain ⟨v, h1, h⟩ := cV_some (f := ⟨t, q.n, ms, q.rnd⟩) h rfl
  obtain ⟨t', h3, h4⟩ := put_some h ms q.rnd
  exact ⟨v, s, t', by simp only [h1, Option.bind_some], h3, h4⟩

theorem cPick_ok (c a b : Operand) (d : Option Nat) : Doing go (cPick c a b d) d (fun f s => (pPick f c a b).bind fun v => some (v, s)) := by
  intro q t ms s k _ h
  have h : gS c t (fun v => v.boolX fun p => Bool.rec ((cV b).run t fun v => (cP d).run q.n t v fun t' => k t' s) ((cV a).run t fun v => (cP d).run q.n t v fun t' => k t' s) p) = true := h
  obtain ⟨v, h1, h⟩ := gS_some (f := ⟨t, q.n, ms, q.rnd⟩) h rfl
  obtain ⟨p, rfl, h⟩ := SV.boolX_some h
  cases p with
  | true =>
    obtain ⟨v, h2, h⟩ := cV_some (f := ⟨t, q.n, ms, q.rnd⟩) h rfl
    obtain ⟨t', h3, h4⟩ := put_some h ms q.rnd
    exact ⟨v, s, t', by simp only [pPick, h1, cond_true, h2, Option.bind_some], h3, h4⟩
  | false =>
    obtain ⟨v, h2, h⟩ := cV_some (f := ⟨t, q.n, ms, q.rnd⟩) h rfl
    obtain ⟨t', h3, h4⟩ := put_some h ms q.rnd
    exact ⟨v, s, t', by simp only [pPick, h1, cond_false, h2, Option.bind_some], h3, h4⟩

theorem cNil_ok (x : Operand) (d : Option Nat) : Doing go (cNil x d) d (fun f s => (pNil f x).bind fun v => some (v, s)) := by
  intro q t ms s k _ h
  have h : gS x t (fun v => v.ptrX fun i o => (cP d).run q.n t (.v (.s (.ptr i o))) fun t' => k t' s) = true := h
  obtain ⟨v, h1, h⟩ := gS_some (f := ⟨t, q.n, ms, q.rnd⟩) h rfl
  obtain ⟨i, o, rfl, h⟩ := SV.ptrX_some h
  obtain ⟨t', h3, h4⟩ := put_some h ms q.rnd
  exact ⟨_, s, t', by simp only [pNil, h1, Option.bind_some], h3, h4⟩

theorem cFieldAddr_ok {t i : Nat} {fs : Array Field} {fd : Field} {n : Nat} (hu : C.und t = some (.struct fs)) (hf : nthR fs.toList i = some fd) (hz : C.size fd.type = some (n + 1)) (x : Operand) (d : Option Nat) :
    Doing go (cFieldAddr x fd.offset d) d (fun f s => (pFieldAddr C f t x i).bind fun v => some (v, s)) := by
  intro q tt ms s k _ h
  have h : gS x tt (fun v => v.ptrX fun i o => natX (Nat.add o fd.offset) fun o' => (cP d).run q.n tt (.v (.s (.ptr i o'))) fun t' => k t' s) = true := h
  obtain ⟨v, h1, h⟩ := gS_some (f := ⟨tt, q.n, ms, q.rnd⟩) h rfl
  obtain ⟨id, o, rfl, hh⟩ := SV.ptrX_some h
  rw [natX_eq] at hh
  obtain ⟨t', h3, h4⟩ := put_some hh ms q.rnd
  have hb : (n + 1).beq 0 = false := rfl
  exact ⟨_, s, t', by simp only [pFieldAddr, h1, hu, hf, hz, Option.bind_some, hb, cond_false]; rfl, h3, h4⟩

theorem cIndexAddr_ok {t e n : Nat} (hu : C.und t = some (.slice e)) (hz : C.size e = some n) (x ix : Operand) (d : Option Nat) :
    Doing go (cIndexAddr x ix n d) d (fun f s => (pIndexAddr C f t x ix).bind fun v => some (v, s)) := by
  intro q tt ms s k _ h
  have h : gS ix tt (fun i => i.intX false fun _ i => Int.natX i fun i => gS x tt fun v => v.sliceX false fun id sz eo len _ =>
    Bool.rec false (Bool.rec false (natX (Nat.mul (Nat.add eo i) sz) fun o => (cP d).run q.n tt (.v (.s (.ptr id o))) fun t' => k t' s) (Nat.beq n sz)) (Nat.ble (Nat.succ i) len)) = true := h
  obtain ⟨v, h1, h⟩ := gS_some (f := ⟨tt, q.n, ms, q.rnd⟩) h rfl
  obtain ⟨kd, i, rfl, h⟩ := SV.intX_some h
  obtain ⟨m, rfl, h⟩ := Int.natX_some h
  obtain ⟨v, h2, h⟩ := gS_some (f := ⟨tt, q.n, ms, q.rnd⟩) h rfl
  obtain ⟨id, sz, eo, len, cp, rfl, h⟩ := SV.sliceX_some h
  obtain ⟨h3, h⟩ := brec_true h
  obtain ⟨h4, hh⟩ := brec_true h
  rw [natX_eq] at hh
  obtain ⟨t', h5, h6⟩ := put_some hh ms q.rnd
  have h3 : Nat.blt m len = true := h3
  have hn : natOf (.int kd (m : Int)) = some m := by simp [natOf]
  refine ⟨_, s, t', ?_, h5, h6⟩
  simp only [pIndexAddr, h1, Option.bind_some, hn, h2, hu, hz, h3, h4, Bool.and_self, cond_true]
  rfl

theorem listX_some {α : Type} : ∀ {l : List α} {i : Nat} {k : α → Bool}, listX l i k = true → ∃ a, nthR l i = some a ∧ k a = true
  | [], _, _, h => by cases h
  | a :: l, 0, k, h => ⟨a, rfl, h⟩
  | a :: l, i + 1, k, h => let ⟨b, h1, h2⟩ := listX_some (l := l) (i := i) (k := k) h; ⟨b, h1, h2⟩

theorem cExtract_ok (x : Operand) (i : Nat) (d : Option Nat) : Doing go (cExtract x i d) d (fun f s => (pExtract f x i).bind fun v => some (v, s)) := by
  intro q t ms s k _ h
  have h : (cV x).run t (fun v => TV.rec (motive := fun _ => Bool) (fun _ => false) (fun l => listX l i fun a => (cP d).run q.n t (.v a) fun t' => k t' s) v) = true := h
  obtain ⟨v, h1, h⟩ := cV_some (f := ⟨t, q.n, ms, q.rnd⟩) h rfl
  cases v with
  | v a => cases h
  | tup l =>
    obtain ⟨a, h2, h⟩ := listX_some h
    obtain ⟨t', h3, h4⟩ := put_some h ms q.rnd
    exact ⟨_, s, t', by simp only [pExtract, h1, h2, Option.bind_some], h3, h4⟩

/-! ### Numbers -/

theorem kindN_inj {a b : IntKind} (h : Nat.beq (kindN a) (kindN b) = true) : a = b := by
  cases a <;> cases b <;> first | rfl | cases h

/-- What 'twoX' comes out as. -/
theorem twoX_some {int : Bool} {a b : SV} {d : Bool} {k : Nat → Nat → Bool} (h : twoX int a b d k = true) : d = true ∨ ∃ kd m n, a = .int kd (Int.ofNat m) ∧ b = .int kd (Int.ofNat n) ∧ (int = true → kd = .i64) ∧ k m n = true := by
  unfold twoX SV.intX at h
  cases a <;> try exact .inl h
  rename_i ka na
  cases b <;> try exact .inl h
  rename_i kb nb
  simp only [] at h
  cases hc : (Nat.beq (kindN ka) (kindN kb)).and (Bool.rec true (Nat.beq (kindN ka) 3) int) with
  | false => rw [hc] at h; exact .inl h
  | true =>
    rw [hc] at h
    obtain ⟨h1, h2⟩ := Bool.and_eq_true_iff.1 hc
    have := kindN_inj h1
    subst this
    cases na with
    | negSucc m => exact .inl h
    | ofNat m =>
      cases nb with
      | negSucc n => exact .inl h
      | ofNat n =>
        refine .inr ⟨ka, m, n, rfl, rfl, fun e => ?_, h⟩
        subst e
        exact kindN_inj (b := .i64) h2

theorem wrap_small {m : Int} (h : 0 ≤ m) (h' : m ≤ 9223372036854775807) : IntKind.i64.wrap m = m := IntWalk.i64_in m ⟨by omega, h'⟩

theorem decInt_beq (m n : Nat) : ((m : Int) == (n : Int)) = Nat.beq m n := by
  by_cases h : m = n
  · subst h; rw [Nat.beq_refl]; simp
  · rw [show Nat.beq m n = false from by cases hb : Nat.beq m n with | false => rfl | true => exact absurd (Nat.eq_of_beq_eq_true hb) h]
    simp; omega

theorem ble_false {a b : Nat} (h : Nat.ble a b = false) : b < a := by
  by_cases q : a ≤ b
  · rw [ble_iff.2 q] at h; cases h
  · omega


theorem bint_ok {op : BinOp} {int : Bool} {c : ClB} (hf : fastB op = some (int, c)) {kd : IntKind} {m n : Nat} (hk : int = true → kd = .i64) {d : Bool} {k : SV → Bool} (h : c.run m n d k = true) :
    d = true ∨ ∃ r, intB op kd (.ofNat m) (.ofNat n) = some r ∧ k r = true := by
  cases op <;> first | (cases hf; done) | skip
  case add =>
    cases hf
    have := hk rfl
    subst this
    have h : (Bool.rec d (natX (Nat.add m n) fun c => k (.int .i64 (.ofNat c))) (Nat.ble (Nat.add m n) 9223372036854775807) : Bool) = true := h
    cases hb : Nat.ble (Nat.add m n) 9223372036854775807 with
    | false => rw [hb] at h; exact .inl h
    | true =>
      rw [hb] at h
      have hb := ble_iff.1 hb
      have hb : m + n ≤ 9223372036854775807 := hb
      have h : natX (Nat.add m n) (fun c => k (.int .i64 (.ofNat c))) = true := h
      rw [natX_eq] at h
      refine .inr ⟨_, ?_, h⟩
      show some (SV.int .i64 (IntKind.i64.wrap ((m : Int) + (n : Int)))) = some (SV.int .i64 ((m + n : Nat) : Int))
      rw [wrap_small (by omega) (by omega)]
      simp
  case sub =>
    cases hf
    have := hk rfl
    subst this
    have h : (Bool.rec d (natX (Nat.sub m n) fun c => k (.int .i64 (.ofNat c))) (Bool.rec false (Nat.ble m 9223372036854775807) (Nat.ble n m) : Bool) : Bool) = true := h
    cases hb : (Bool.rec false (Nat.ble m 9223372036854775807) (Nat.ble n m) : Bool) with
    | false => rw [hb] at h; exact .inl h
    | true =>
      rw [hb] at h
      obtain ⟨h1, h2⟩ := brec_true hb
      have h1 : n ≤ m := ble_iff.1 h1
      have h2 := ble_iff.1 h2
      have h : natX (Nat.sub m n) (fun c => k (.int .i64 (.ofNat c))) = true := h
      rw [natX_eq] at h
      refine .inr ⟨_, ?_, h⟩
      show some (SV.int .i64 (IntKind.i64.wrap ((m : Int) - (n : Int)))) = some (SV.int .i64 ((m - n : Nat) : Int))
      rw [wrap_small (by omega) (by omega), show (m : Int) - (n : Int) = ((m - n : Nat) : Int) by omega]
  case eql =>
    cases hf
    refine .inr ⟨_, ?_, h⟩
    show some (SV.bool ((m : Int) == (n : Int))) = _
    rw [decInt_beq]
  case neq =>
    cases hf
    refine .inr ⟨_, ?_, h⟩
    show some (SV.bool ((m : Int) != (n : Int))) = _
    show some (SV.bool (!((m : Int) == (n : Int)))) = _
    rw [decInt_beq]
    cases Nat.beq m n <;> rfl
  case lss =>
    cases hf
    refine .inr ⟨_, ?_, h⟩
    show some (SV.bool (decide ((m : Int) < (n : Int)))) = some (SV.bool (Nat.ble (Nat.succ m) n))
    cases hb : Nat.ble (Nat.succ m) n with
    | true => have := ble_iff.1 hb; rw [decide_eq_true (by omega)]
    | false => have := ble_false hb; rw [decide_eq_false (by omega)]
  case leq =>
    cases hf
    refine .inr ⟨_, ?_, h⟩
    show some (SV.bool (decide ((m : Int) ≤ (n : Int)))) = some (SV.bool (Nat.ble m n))
    cases hb : Nat.ble m n with
    | true => have := ble_iff.1 hb; rw [decide_eq_true (by omega)]
    | false => have := ble_false hb; rw [decide_eq_false (by omega)]
  case gtr =>
    cases hf
    refine .inr ⟨_, ?_, h⟩
    show some (SV.bool (decide ((m : Int) > (n : Int)))) = some (SV.bool (Nat.ble (Nat.succ n) m))
    cases hb : Nat.ble (Nat.succ n) m with
    | true => have := ble_iff.1 hb; rw [decide_eq_true (by omega)]
    | false => have := ble_false hb; rw [decide_eq_false (by omega)]
  case geq =>
    cases hf
    refine .inr ⟨_, ?_, h⟩
    show some (SV.bool (decide ((m : Int) ≥ (n : Int)))) = some (SV.bool (Nat.ble n m))
    cases hb : Nat.ble n m with
    | true => have := ble_iff.1 hb; rw [decide_eq_true (by omega)]
    | false => have := ble_false hb; rw [decide_eq_false (by omega)]

theorem fast_binB {op : BinOp} {int : Bool} {c : ClB} (hf : fastB op = some (int, c)) {C : Ctx} {ty : Nat} {kd : IntKind} {m n : Int} : binB C op ty (.s (.int kd m)) (.s (.int kd n)) = intB op kd m n := by
  cases op <;> first | (cases hf; done) | (simp [binB])

theorem cBin_ok (op : BinOp) (ty : Nat) (x y : Operand) (d : Option Nat) : Doing go (cBin C op ty x y d) d (fun f s => (pBin C f op ty x y).bind fun v => some (v, s)) := by
  intro q t ms s k _ h
  have fin : ∀ {a b : AV}, (⟨t, q.n, ms, q.rnd⟩ : Fr).evA x = some a → (⟨t, q.n, ms, q.rnd⟩ : Fr).evA y = some b → ∀ {r : SV}, binB C op ty a b = some r → ((cP d).run q.n t (.v (.s r)) fun t' => k t' s) = true →
      ∃ v s' t', ((pBin C ⟨t, q.n, ms, q.rnd⟩ op ty x y).bind fun v => some (v, s)) = some (v, s') ∧ (⟨t, q.n, ms, q.rnd⟩ : Fr).put d v = some ⟨t', q.n, ms, q.rnd⟩ ∧ k t' s' = true := by
    intro a b h1 h2 r h3 h4
    obtain ⟨t', h5, h6⟩ := put_some h4 ms q.rnd
    exact ⟨_, s, t', by simp only [pBin, h1, h2, h3, Option.bind_some], h5, h6⟩
  cases hf : fastB op with
  | none =>
    have h : gA x t (fun a => gA y t fun b => someX (binB C op ty a b) fun r => (cP d).run q.n t (.v (.s r)) fun t' => k t' s) = true := by
      unfold cBin at h
      rw [hf] at h
      exact h
    obtain ⟨a, h1, h⟩ := gA_some (f := ⟨t, q.n, ms, q.rnd⟩) h rfl
    obtain ⟨b, h2, h⟩ := gA_some (f := ⟨t, q.n, ms, q.rnd⟩) h rfl
    obtain ⟨r, h3, h⟩ := someX_some h
    exact fin h1 h2 h3 h
  | some p =>
    obtain ⟨int, fb⟩ := p
    have h : gA x t (fun a => gA y t fun b =>
      AV.rec (motive := fun _ => Bool) (fun a' => AV.rec (motive := fun _ => Bool)
        (fun b' => twoX int a' b' (someX (binB C op ty (.s a') (.s b')) fun r => (cP d).run q.n t (.v (.s r)) fun t' => k t' s)
          fun m n => fb.run m n (someX (binB C op ty (.s a') (.s b')) fun r => (cP d).run q.n t (.v (.s r)) fun t' => k t' s) fun r => (cP d).run q.n t (.v (.s r)) fun t' => k t' s)
        (fun bs => someX (binB C op ty (.s a') (.agg bs)) fun r => (cP d).run q.n t (.v (.s r)) fun t' => k t' s) b)
        (fun as => someX (binB C op ty (.agg as) b) fun r => (cP d).run q.n t (.v (.s r)) fun t' => k t' s) a) = true := by
      unfold cBin at h
      rw [hf] at h
      exact h
    obtain ⟨a, h1, h⟩ := gA_some (f := ⟨t, q.n, ms, q.rnd⟩) h rfl
    obtain ⟨b, h2, h⟩ := gA_some (f := ⟨t, q.n, ms, q.rnd⟩) h rfl
    cases a with
    | agg l =>
      obtain ⟨r, h3, h⟩ := someX_some h
      exact fin h1 h2 h3 h
    | s a' =>
      cases b with
      | agg l =>
        obtain ⟨r, h3, h⟩ := someX_some h
        exact fin h1 h2 h3 h
      | s b' =>
        have slow : (someX (binB C op ty (.s a') (.s b')) fun r => (cP d).run q.n t (.v (.s r)) fun t' => k t' s) = true → _ := fun h =>
          let ⟨r, h3, h⟩ := someX_some h
          fin h1 h2 h3 h
        rcases twoX_some h with h | ⟨kd, m, n, rfl, rfl, hk, h⟩
        · exact slow h
        · rcases bint_ok hf hk h with h | ⟨r, h3, h4⟩
          · exact slow h
          · exact fin h1 h2 (by rw [fast_binB hf]; exact h3) h4

end
end Go.Ev

/- The fast form of the evaluator: calls, one operation, regions, code. -/
namespace Go.Ev

def GoOk (go : RX) (rec : ExecT) : Prop := ∀ (c : Code) (n : Nat) (rnd : Option Nat) (t : T2 TV) (ms : List Nat) (s : St) (k : KX), go c n rnd t ms s k = true →
  ∃ ex t' ms' s', rec c ⟨t, n, ms, rnd⟩ s = some (ex, ⟨t', n, ms', rnd⟩, s') ∧ k ex t' ms' s' = true

section
variable {go : RX} {C : Ctx} {rec : ExecT}

/-! ## Calls -/

theorem cRes_some {l : List ResultVar} {t : T2 TV} {n : Nat} {s : St} {k : List AV → Bool} (h : (cRes C l).run t n s k = true) (ms : List Nat) (rnd : Option Nat) : ∃ vs, resultsB ⟨t, n, ms, rnd⟩ C s l = some vs ∧ k vs = true := by
  have same : ∀ l : List ResultVar, resultsB ⟨t, n, ms, rnd⟩ C s l = resultsB ⟨t, n, [], none⟩ C s l := fun l => by
    unfold resultsB
    congr 1
  unfold cRes at h
  split at h
  · exact ⟨[], rfl, h⟩
  · rename_i a
    have h : (cG a).run t (fun v => TV.rec (motive := fun _ => Bool) (fun x => k [x]) (fun _ => false) v) = true := h
    rw [cG_eq, Bool.and_eq_true] at h
    obtain ⟨h1, h2⟩ := h
    cases hv : T2.get t a with
    | tup l => rw [hv] at h2; cases h2
    | v x =>
      rw [hv] at h2
      refine ⟨[x], eachR_cons_of ?_ rfl, h2⟩
      simp only [resultB, h1, cond_true, hv, TV.av]
  · obtain ⟨vs, h1, h2⟩ := someX_some h
    exact ⟨vs, by rw [same]; exact h1, h2⟩

theorem argsX_eq : ∀ (l : List AV) (t : T2 TV) (n : Nat) (k : T2 TV → Bool), argsX l t n k = k (T2.put t n (mapR TV.v l))
  | [], t, n, k => rfl
  | x :: l, t, n, k => by
    show natX n (fun n => (cT n).run t (.v x) fun t' => argsX l t' (Nat.succ n) k) = _
    rw [natX_eq, cT_eq, argsX_eq l]
    rfl

theorem tvX_eq (l : List AV) (k : TV → Bool) : tvX l k = k (tvOf l) := by
  cases l with
  | nil => rfl
  | cons a l => cases l <;> rfl

theorem finish_some {run : T2 TV → Nat → St → (List AV → Bool) → Bool} {n : Nat} {k : TV → St → Bool} {t : T2 TV} {ms : List Nat} {s : St} (h : finishX run n k t ms s = true) :
    ∃ s', takeMarks s ms = some s' ∧ run t n s' (fun l => k (tvOf l) s') = true := by
  cases ms with
  | nil =>
    have h : run t n s (fun l => tvX l fun v => k v s) = true := h
    simp only [tvX_eq] at h
    exact ⟨s, rfl, h⟩
  | cons m ms =>
    have h : someX (takeMarks s (m :: ms)) (fun s' => run t n s' fun l => tvX l fun v => k v s') = true := h
    obtain ⟨s', h1, h2⟩ := someX_some h
    simp only [tvX_eq] at h2
    exact ⟨s', h1, h2⟩

theorem cFn_some (hgo : GoOk go rec) {g : Nat} {args : List AV} {s : St} {k : TV → St → Bool} (h : (cFn C g).run go args s k = true) : ∃ v s', callB C rec g args s = some (v, s') ∧ k v s' = true := by
  unfold cFn at h
  unfold callB
  cases hfn : C.fns g with
  | none => rw [hfn] at h; cases h
  | some fn =>
    rw [hfn] at h
    cases hb : fn.body with
    | none =>
      simp only [hb] at h ⊢
      cases he : C.ext.get g with
      | none => rw [he] at h; cases h
      | some e =>
        rw [he] at h
        have h : someX (externB C s e fn args) (fun p => k (.v p.1) p.2) = true := h
        obtain ⟨p, h1, h2⟩ := someX_some h
        exact ⟨_, _, by simp only [h1, Option.bind_some], h2⟩
    | some body =>
      simp only [hb] at h ⊢
      cases hst : C.stub.get g with
      | some v =>
        rw [hst] at h
        have h : (Bool.rec false (k (.v (.s v)) s) (Nat.beq (lenR args) 0) : Bool) = true := h
        obtain ⟨h1, h2⟩ := brec_true h
        exact ⟨_, _, by simp only [h1, cond_true], h2⟩
      | none =>
      rw [hst] at h
      simp only [] at h ⊢
      have h : argsX args T2.new 0 (fun t => maxX (lenR args) fn.ntmps fun n => Bool.rec false
        (go body n none t [] s fun ex t ms s => Ex.rec (motive := fun _ => Bool) (finishX (cRes C fn.results.toList).run n k t ms s) (fun _ => false) (finishX (cRes C fn.results.toList).run n k t ms s) ex) (Nat.ble n 256)) = true := h
      rw [argsX_eq, maxX_eq] at h
      obtain ⟨h1, h⟩ := brec_true h
      obtain ⟨ex, t', ms', s', h2, h⟩ := hgo _ _ _ _ _ _ _ h
      simp only [h1, cond_true, h2, Option.bind_some]
      have fin : finishX (cRes C fn.results.toList).run (max (lenR args) fn.ntmps) k t' ms' s' = true → ∃ v s'', ((takeMarks s' ms').bind fun s'' => (resultsB ⟨t', max (lenR args) fn.ntmps, ms', none⟩ C s'' fn.results.toList).bind fun l => some (tvOf l, s'')) = some (v, s'') ∧ k v s'' = true := fun h => by
        obtain ⟨s'', h3, h4⟩ := finish_some h
        obtain ⟨vs, h5, h6⟩ := cRes_some h4 ms' none
        exact ⟨_, _, by simp only [h3, h5, Option.bind_some], h6⟩
      cases ex with
      | normal => exact fin h
      | exit i => cases h
      | ret => exact fin h

theorem paramsX_eq : ∀ (ps : List Nat) (l : List AV) (t : T2 TV) (k : T2 TV → Bool), paramsX ps l t k = k (paramsR ps l t)
  | [], _, _, _ => rfl
  | p :: ps, [], t, k => rfl
  | p :: ps, a :: l, t, k => by
    show (cT p).run t (.v a) (fun t' => paramsX ps l t' k) = _
    rw [cT_eq, paramsX_eq ps l]
    rfl

theorem roundX_some (hgo : GoOk go rec) {l : Nat} {args : List AV} {s : St} {k : TV → St → Bool} (h : roundX go l args s k = true) : ∃ v s', roundB rec l args s = some (v, s') ∧ k v s' = true := by
  unfold roundX at h
  obtain ⟨b, h1, h⟩ := heapX_some h
  obtain ⟨L, rfl, h⟩ := Blk.loopX_some h
  obtain ⟨st, p, fn, lt, ln, ps, assign, body, df⟩ := L
  have h : st.readyX (Bool.rec false
      (paramsX ps args lt fun t => go assign ln (some l) t [] s fun ex t1 ms1 s1 => Ex.rec (motive := fun _ => Bool)
        (heapX s1 l fun b1 => b1.loopX fun L1 => L1.mapX fun st1 p1 f1 t1' n1 ps1 a1 bo1 d1 => st1.readyX
          (s1.putX l (.loop ⟨.busy, p1, f1, t1', n1, ps1, a1, bo1, d1⟩) fun s2 =>
            go body ln (some l) t1 ms1 s2 fun ex2 _ ms2 s3 => List.rec (motive := fun _ => Bool)
              (heapX s3 l fun b2 => b2.loopX fun L2 => L2.mapX fun _ _ f2 t2 n2 ps2 a2 bo2 d2 => Ex.rec (motive := fun _ => Bool)
                (s3.putX l (.loop ⟨.ready, none, f2, t2, n2, ps2, a2, bo2, d2⟩) fun s4 => k (.v (.s (.bool true))) s4)
                (fun i => s3.putX l (.loop ⟨.done, some (.exit i), f2, t2, n2, ps2, a2, bo2, d2⟩) fun s4 => k (.v (.s (.bool false))) s4)
                (s3.putX l (.loop ⟨.done, some .ret, f2, t2, n2, ps2, a2, bo2, d2⟩) fun s4 => k (.v (.s (.bool false))) s4) ex2)
              (fun _ _ _ => false) ms2))
        (fun _ => false) false ex)
      (and (Nat.beq (lenR args) (lenR ps)) (ps.all fun p => Nat.blt p ln))) = true := h
  obtain ⟨rfl, h⟩ := LS.readyX_some h
  obtain ⟨h2, h⟩ := brec_true h
  rw [paramsX_eq] at h
  obtain ⟨ex, t1, ms1, s1, h3, h⟩ := hgo _ _ _ _ _ _ _ h
  cases ex with
  | exit i => cases h
  | ret => cases h
  | normal =>
    obtain ⟨b1, h4, h⟩ := heapX_some h
    obtain ⟨L1, rfl, h⟩ := Blk.loopX_some h
    obtain ⟨st1, p1, f1, t1', n1, ps1, a1, bo1, d1⟩ := L1
    obtain ⟨e5, hh⟩ := LS.readyX_some (l := st1) h
    rw [putX_eq'] at hh
    subst e5
    clear h
    obtain ⟨ex2, t2', ms2, s3, h5, h⟩ := hgo _ _ _ _ _ _ _ hh
    clear hh
    cases ms2 with
    | cons m ms => cases h
    | nil =>
      obtain ⟨b2, h6, h⟩ := heapX_some h
      obtain ⟨L2, rfl, h⟩ := Blk.loopX_some h
      obtain ⟨st2, p2, f2, t2, n2, ps2, a2, bo2, d2⟩ := L2
      have h2 : (Nat.beq (lenR args) (lenR ps) && ps.all fun p => Nat.blt p ln) = true := h2
      have hb : ∀ r, (match ex2 with
            | .normal => some (TV.v (.s (.bool true)), s3.put l (.loop { ({ state := st2, pending := p2, fn := f2, t := t2, n := n2, params := ps2, assign := a2, body := bo2, defers := d2 } : ALoop) with state := .ready, pending := none }))
            | .ret => some (TV.v (.s (.bool false)), s3.put l (.loop { ({ state := st2, pending := p2, fn := f2, t := t2, n := n2, params := ps2, assign := a2, body := bo2, defers := d2 } : ALoop) with state := .done, pending := some .ret }))
            | .exit i => some (TV.v (.s (.bool false)), s3.put l (.loop { ({ state := st2, pending := p2, fn := f2, t := t2, n := n2, params := ps2, assign := a2, body := bo2, defers := d2 } : ALoop) with state := .done, pending := some (.exit i) }))) = some r →
          roundB rec l args s = some r := fun r hr => by
        unfold roundB
        simp only [h1, h2, cond_true, h3, Option.bind_some, h4, h5, List.isEmpty_nil, h6]
        exact hr
      cases ex2 with
      | normal =>
        have h : s3.putX l (.loop ⟨.ready, none, f2, t2, n2, ps2, a2, bo2, d2⟩) (fun s4 => k (.v (.s (.bool true))) s4) = true := h
        rw [putX_eq'] at h
        exact ⟨_, _, hb _ rfl, h⟩
      | exit i =>
        have h : s3.putX l (.loop ⟨.done, some (.exit i), f2, t2, n2, ps2, a2, bo2, d2⟩) (fun s4 => k (.v (.s (.bool false))) s4) = true := h
        rw [putX_eq'] at h
        exact ⟨_, _, hb _ rfl, h⟩
      | ret =>
        have h : s3.putX l (.loop ⟨.done, some .ret, f2, t2, n2, ps2, a2, bo2, d2⟩) (fun s4 => k (.v (.s (.bool false))) s4) = true := h
        rw [putX_eq'] at h
        exact ⟨_, _, hb _ rfl, h⟩

theorem ptrX_eq : ∀ (l : List (Nat × Nat)) (r : List AV), ptrX l r = appR (ptrA l) r
  | [], _ => rfl
  | p :: l, r => by
    show AV.s (.ptr p.1 p.2) :: ptrX l r = AV.s (.ptr p.1 p.2) :: appR (ptrA l) r
    rw [ptrX_eq l]

theorem appX_eq : ∀ (l r : List AV), appX l r = appR l r
  | [], _ => rfl
  | a :: l, r => by
    show a :: appX l r = a :: appR l r
    rw [appX_eq l]

theorem applyX_some (hgo : GoOk go rec) {f : SV} {args : List AV} {s : St} {k : TV → St → Bool} (h : applyX C go f args s k = true) : ∃ v s', applyB C rec f args s = some (v, s') ∧ k v s' = true := by
  unfold applyX at h
  rcases SV.funcX_some h with ⟨g, a, b, rfl, hh⟩ | ⟨l, rfl, hh⟩
  · rw [ptrX_eq, appX_eq, ptrX_eq] at hh
    obtain ⟨v, s', h1, h2⟩ := cFn_some hgo hh
    refine ⟨v, s', ?_, h2⟩
    have e : appR (ptrA b) [] = ptrA b := by rw [appR_eq, List.append_nil]
    rw [e] at h1
    exact h1
  · exact roundX_some hgo hh

theorem cCall_ok (hgo : GoOk go rec) {c : Call} {g : Operand} (hc : c.callee = .value g) (d : Option Nat) : Doing go (cCall C g c.args.toList d) d (fun f s => eCall C rec f s c) := by
  intro q t ms s k hq h
  subst hq
  have fin : ∀ {gv : SV} {args : List AV}, (⟨t, q.n, ms, q.rnd⟩ : Fr).evS g = some gv → evAs ⟨t, q.n, ms, q.rnd⟩ c.args.toList = some args → ∀ {v s'}, applyB C rec gv args s = some (v, s') → ((cP d).run q.n t v fun t' => k t' s') = true →
      ∃ v s' t', eCall C rec ⟨t, q.n, ms, q.rnd⟩ s c = some (v, s') ∧ (⟨t, q.n, ms, q.rnd⟩ : Fr).put d v = some ⟨t', q.n, ms, q.rnd⟩ ∧ k t' s' = true := by
    intro gv args h1 h2 v s' h3 h4
    obtain ⟨t', h5, h6⟩ := put_some h4 ms q.rnd
    exact ⟨v, s', t', by simp only [eCall, hc, h1, h2, Option.bind_some]; exact h3, h5, h6⟩
  have gen : (gS g t fun f => (cAs c.args.toList).run t fun l => applyX C q.go f l s fun v s' => (cP d).run q.n t v fun t' => k t' s') = true →
      ∃ v s' t', eCall C rec ⟨t, q.n, ms, q.rnd⟩ s c = some (v, s') ∧ (⟨t, q.n, ms, q.rnd⟩ : Fr).put d v = some ⟨t', q.n, ms, q.rnd⟩ ∧ k t' s' = true := fun h => by
    obtain ⟨gv, h1, h⟩ := gS_some (f := ⟨t, q.n, ms, q.rnd⟩) h rfl
    obtain ⟨args, h2, h⟩ := cAs_some h (f := ⟨t, q.n, ms, q.rnd⟩) rfl
    obtain ⟨v, s', h3, h⟩ := applyX_some hgo h
    exact fin h1 h2 h3 h
  cases g with
  | func g =>
    have h : (cAs c.args.toList).run t (fun l => (cFn C g).run q.go l s fun v s' => (cP d).run q.n t v fun t' => k t' s') = true := h
    obtain ⟨args, h2, h⟩ := cAs_some h (f := ⟨t, q.n, ms, q.rnd⟩) rfl
    obtain ⟨v, s', h3, h⟩ := cFn_some hgo h
    refine fin (gv := .func g [] []) rfl h2 (v := v) (s' := s') ?_ h
    show callB C rec g (appR (ptrA []) (appR args (ptrA []))) s = _
    rw [appR_eq, appR_eq]
    simpa [ptrA] using h3
  | tmp i => exact gen h
  | const v => exact gen h
  | global i => exact gen h

/-! ## One operation -/

theorem constParts_ok {l : List (Nat × Operand)} {ps : List (Nat × AV)} (h : constParts l = some ps) (f : Fr) : evParts f l = some ps := by
  unfold constParts at h
  unfold evParts
  refine eachR_mono (fun p r hp => ?_) h
  obtain ⟨a, h1, h2⟩ := Option.bind_eq_some_iff.1 hp
  unfold constA at h1
  split at h1
  · rename_i v e
    have : f.evA p.2 = some a := by
      unfold Fr.evA Fr.ev
      rw [e]
      exact h1
    rw [this]
    exact h2
  · cases h1

theorem opB_P {o : Op} (hk : kindOf C o = .P) (f : Fr) (s : St) : opB C rec o f s = (opP C o f).bind fun v => some (v, s) := by unfold opB; rw [hk]
theorem opB_L {o : Op} (hk : kindOf C o = .L) (f : Fr) (s : St) : opB C rec o f s = (opL C o f s).bind fun v => some (v, s) := by unfold opB; rw [hk]
theorem opB_A {o : Op} (hk : kindOf C o = .A) (f : Fr) (s : St) : opB C rec o f s = (opA C o f).bind fun p => some (mkB s p) := by unfold opB; rw [hk]
theorem opB_E {o : Op} (hk : kindOf C o = .E) (f : Fr) (s : St) : opB C rec o f s = opE C rec o f s := by unfold opB; rw [hk]

theorem cOp_ok (hgo : GoOk go rec) (o : Oper) : Doing go (cOp C o) o.dst (opB C rec o.op) := by
  unfold cOp
  split
  · rename_i x e; exact (cMove_ok x _).of fun f s r h => by rw [e, opB_P rfl]; exact h
  · rename_i x e; exact (cMove_ok x _).of fun f s r h => by rw [e, opB_P rfl]; exact h
  · rename_i c a b e; exact (cPick_ok c a b _).of fun f s r h => by rw [e, opB_P rfl]; exact h
  · rename_i x e; exact (cNil_ok x _).of fun f s r h => by rw [e, opB_P rfl]; exact h
  · rename_i x i e; exact (cExtract_ok x i _).of fun f s r h => by rw [e, opB_P rfl]; exact h
  · rename_i op t x y w e; exact (cBin_ok op t x y _).of fun f s r h => by rw [e, opB_P rfl]; exact h
  · rename_i op w x e; exact (cPure_ok _ _).of fun f s r h => by rw [e, opB_P rfl]; exact h
  · rename_i t ps e; exact (cPure_ok _ _).of fun f s r h => by rw [e, opB_P rfl]; exact h
  · rename_i t x i e; exact (cPure_ok _ _).of fun f s r h => by rw [e, opB_P rfl]; exact h
  · rename_i t x ix e; exact (cPure_ok _ _).of fun f s r h => by rw [e, opB_P rfl]; exact h
  · rename_i g a b e; exact (cPure_ok _ _).of fun f s r h => by rw [e, opB_P rfl]; exact h
  · rename_i t x e
    split
    · rename_i hg; exact (cLoad1_ok hg x _).of fun f s r h => by rw [e, opB_L rfl]; exact h
    · exact (cRead_ok _ _).of fun f s r h => by rw [e, opB_L rfl]; exact h
  · rename_i t a x e
    split
    · rename_i _ hz; exact (cStore1_ok hz a x _).of fun f s r h => by rw [e, opB_E rfl]; exact h
    · exact (cDo_ok _ _).of fun f s r h => by rw [e, opB_E rfl]; exact h
  · rename_i t x i e
    split
    · rename_i fs hu
      split
      · rename_i fd hf
        split
        · rename_i n hz; exact (cFieldAddr_ok hu hf hz x _).of fun f s r h => by rw [e, opB_P rfl]; exact h
        · exact cAny_ok o
      · exact cAny_ok o
    · exact cAny_ok o
  · rename_i t x ix e
    split
    · rename_i el hu
      split
      · rename_i n hz; exact (cIndexAddr_ok hu hz x ix _).of fun f s r h => by rw [e, opB_P rfl]; exact h
      · exact cAny_ok o
    · exact (cPure_ok _ _).of fun f s r h => by rw [e, opB_P rfl]; exact h
  · rename_i t x lo hi mx e
    split
    · rename_i hk; exact (cPure_ok _ _).of fun f s r h => by rw [opB_P hk, e]; exact h
    · rename_i hk; exact (cRead_ok _ _).of fun f s r h => by rw [opB_L hk, e]; exact h
    · exact cAny_ok o
  · rename_i a b x e
    split
    · rename_i hk; exact (cPure_ok _ _).of fun f s r h => by rw [e, opB_P (show kindOf C (.convert a b x) = .P from hk)]; exact h
    · rename_i hk; exact (cRead_ok _ _).of fun f s r h => by rw [e, opB_L (show kindOf C (.convert a b x) = .L from hk)]; exact h
    · rename_i hk; exact (cMake_ok _ _).of fun f s r h => by rw [e, opB_A (show kindOf C (.convert a b x) = .A from hk)]; exact h
    · exact cAny_ok o
  · rename_i t e; exact (cMade_ok _ _).of fun f s r h => by rw [e, opB_A rfl]; exact h
  · rename_i t x e; exact (cMake_ok _ _).of fun f s r h => by rw [e, opB_A rfl]; exact h
  · rename_i t len ps e
    split
    · rename_i qs hq
      exact (cMade_ok _ _).of fun f s r h => by
        rw [e, opB_A rfl]
        show ((evParts f ps.toList).bind fun ps => buildSliceB C t len ps).bind _ = _
        rw [constParts_ok hq]
        exact h
    · exact (cMake_ok _ _).of fun f s r h => by rw [e, opB_A rfl]; exact h
  · rename_i t l c e; exact (cMake_ok _ _).of fun f s r h => by rw [e, opB_A rfl]; exact h
  · rename_i t m k v e; exact (cDo_ok _ _).of fun f s r h => by rw [e, opB_E rfl]; exact h
  · rename_i c e
    split
    · rename_i g hg
      exact (cCall_ok hgo hg _).of fun f s r h => by
        rw [e, opB_E (by show kindCall C c = _; unfold kindCall; rw [hg])]
        exact h
    · rename_i b hb
      split
      · rename_i hk
        exact (cPure_ok _ _).of fun f s r h => by
          rw [e, opB_P (show kindOf C (.call c) = .P from hk)]
          show (opP C (.call c) f).bind _ = _
          simp only [opP, hb]
          exact h
      · rename_i hk
        exact (cRead_ok _ _).of fun f s r h => by
          rw [e, opB_L (show kindOf C (.call c) = .L from hk)]
          show (opL C (.call c) f s).bind _ = _
          simp only [opL, hb]
          exact h
      · rename_i hk
        exact (cDo_ok _ _).of fun f s r h => by
          rw [e, opB_E (show kindOf C (.call c) = .E from hk)]
          show eCall C rec f s c = _
          simp only [eCall, hb]
          exact h
      · exact cAny_ok o
    · exact cAny_ok o
  · exact cAny_ok o

end
end Go.Ev

/- The fast form of the evaluator: regions, code, whole calls. -/
namespace Go.Ev

section
variable {go : RX} {C : Ctx} {rec : ExecT}

def Regs (go : RX) (c : ClO) (p : Fr → St → Option (Fr × St)) : Prop :=
  ∀ (q : Q) (t : T2 TV) (ms : List Nat) (s : St) (k : T2 TV → St → Bool), q.go = go → c.run q t ms s k = true →
    ∃ t' s', p ⟨t, q.n, ms, q.rnd⟩ s = some (⟨t', q.n, ms, q.rnd⟩, s') ∧ k t' s' = true

theorem cGuard_ok (hgo : GoOk go rec) (ops : List Oper) (o : Oper) : Regs go (cGuard ops o (cOp C o)) (stepB C rec ops o) := by
  intro q t ms s k hq h
  have on : guarded ops ⟨t, q.n, ms, q.rnd⟩ o = some true → (cOp C o).run q t ms s k = true → ∃ t' s', stepB C rec ops o ⟨t, q.n, ms, q.rnd⟩ s = some (⟨t', q.n, ms, q.rnd⟩, s') ∧ k t' s' = true := fun hg h => by
    obtain ⟨v, s', t', h1, h2, h3⟩ := cOp_ok hgo o q t ms s k hq h
    exact ⟨t', s', by simp only [stepB, hg, Option.bind_some, cond_true, h1, h2], h3⟩
  have off : guarded ops ⟨t, q.n, ms, q.rnd⟩ o = some false → ((cP o.dst).run q.n t undefT fun t' => k t' s) = true → ∃ t' s', stepB C rec ops o ⟨t, q.n, ms, q.rnd⟩ s = some (⟨t', q.n, ms, q.rnd⟩, s') ∧ k t' s' = true := fun hg h => by
    obtain ⟨t', h2, h3⟩ := put_some h ms q.rnd
    exact ⟨t', s, by simp only [stepB, hg, Option.bind_some, cond_false, h2], h3⟩
  unfold cGuard at h
  split at h
  · rename_i e
    exact on (by unfold guarded; rw [e]) h
  · rename_i j want e
    split at h
    · rename_i p hp
      split at h
      · rename_i g hg
        have h : (cG g).run t (fun v =>
          TV.rec (motive := fun _ => Bool) (fun a => AV.rec (motive := fun _ => Bool) (fun w =>
            Bool.rec (Bool.rec ((cP o.dst).run q.n t undefT fun t' => k t' s) ((cOp C o).run q t ms s k) (guardB want w)) false w.isOpq)
            (fun _ => (cP o.dst).run q.n t undefT fun t' => k t' s) a)
            (fun _ => (cP o.dst).run q.n t undefT fun t' => k t' s) v) = true := h
        rw [cG_eq, Bool.and_eq_true] at h
        obtain ⟨h1, h⟩ := h
        have hgd : guarded ops ⟨t, q.n, ms, q.rnd⟩ o = (match T2.get t g with
          | .v (.s (.bool b)) => some (cond b want (!want))
          | .v (.s (.opq _)) => none
          | _ => some false) := by
          unfold guarded
          simp only [e, hp, hg, h1, cond_true]
          rfl
        generalize T2.get t g = y at h hgd
        cases y with
        | tup l => exact off hgd h
        | v a =>
          cases a with
          | agg l => exact off hgd h
          | s w =>
            have h : (Bool.rec (Bool.rec ((cP o.dst).run q.n t undefT fun t' => k t' s) ((cOp C o).run q t ms s k) (guardB want w)) false w.isOpq : Bool) = true := h
            cases w with
            | bool b =>
              have hgd : guarded ops ⟨t, q.n, ms, q.rnd⟩ o = some (cond b want (!want)) := hgd
              have h : (Bool.rec ((cP o.dst).run q.n t undefT fun t' => k t' s) ((cOp C o).run q t ms s k) (Bool.rec (Bool.rec true false want) want b : Bool) : Bool) = true := h
              cases b <;> cases want <;> first | exact on hgd h | exact off hgd h
            | opq n => cases h
            | _ => exact off hgd h
      · cases h
    · cases h

theorem cSeq_ok (hgo : GoOk go rec) (ops : List Oper) : ∀ l, Regs go (cSeq C ops l) (fun f s => seqB C rec ops l f s)
  | [] => fun q t ms s k _ h => ⟨t, s, rfl, h⟩
  | o :: l => fun q t ms s k hq h => by
    have h : (cGuard ops o (cOp C o)).run q t ms s (fun t' s' => (cSeq C ops l).run q t' ms s' k) = true := h
    obtain ⟨t1, s1, h1, h⟩ := cGuard_ok hgo ops o q t ms s _ hq h
    obtain ⟨t2, s2, h2, h⟩ := cSeq_ok hgo ops l q t1 ms s1 k hq h
    refine ⟨t2, s2, ?_, h⟩
    show (stepB C rec ops o ⟨t, q.n, ms, q.rnd⟩ s).bind (fun r => seqB C rec ops l r.1 r.2) = _
    rw [h1]
    exact h2

def Plans (go : RX) (h : ClH) (p : Held → Fr → St → Option (Fr × St)) : Prop :=
  ∀ (q : Q) (t : T2 TV) (ms : List Nat) (s : St) (held : Held) (k : T2 TV → St → Bool), q.go = go → h.run q t ms s held k = true →
    ∃ t' s', p held ⟨t, q.n, ms, q.rnd⟩ s = some (⟨t', q.n, ms, q.rnd⟩, s') ∧ k t' s' = true

theorem planB_cons {ops : List Oper} {p : PS} {l : List PS} {held : Held} {f : Fr} {s : St} {g : Bool} (hg : guarded ops f p.r.o = some g) : planB C rec ops (p :: l) held f s =
      cond g
        ((opB C rec p.r.o.op f s).bind fun q =>
          cond (stillHeld C q.2 held p.hs)
            ((f.put p.r.o.dst q.1).bind fun f' => planB C rec ops l (cond p.keep ((p.r.i, f, q.1) :: held) held) f' q.2) none)
        ((f.put p.r.o.dst undefT).bind fun f' => planB C rec ops l held f' s) := by
  show (guarded ops f p.r.o).bind _ = _
  rw [hg]
  rfl

theorem cPlan_ok (hgo : GoOk go rec) (ops : List Oper) : ∀ (l : List PS), (∀ p ∈ l, p.keep = true → p.hs = []) → Plans go (cPlan C ops l) (fun held f s => planB C rec ops l held f s)
  | [], _ => fun q t ms s held k _ h => ⟨t, s, rfl, h⟩
  | p :: l, hl => fun q t ms s held k hq h => by
    have ih := cPlan_ok hgo ops l (fun p hp => hl p (by simp [hp]))
    have h : (cStep C ops p (cPlan C ops l)).run q t ms s held k = true := h
    unfold cStep at h
    split at h
    · rename_i hk hh
      have h : (cGuard ops p.r.o (cOp C p.r.o)).run q t ms s (fun t' s' => (cPlan C ops l).run q t' ms s' held k) = true := h
      obtain ⟨t1, s1, h1, h⟩ := cGuard_ok hgo ops p.r.o q t ms s _ hq h
      obtain ⟨t2, s2, h2, h⟩ := ih q t1 ms s1 held k hq h
      refine ⟨t2, s2, ?_, h⟩
      unfold stepB at h1
      obtain ⟨g, hg, h1⟩ := Option.bind_eq_some_iff.1 h1
      show planB C rec ops (p :: l) held ⟨t, q.n, ms, q.rnd⟩ s = _
      rw [planB_cons hg]
      cases g with
      | true =>
        simp only [cond_true] at h1 ⊢
        obtain ⟨r, hr, h1⟩ := Option.bind_eq_some_iff.1 h1
        obtain ⟨f', hf, h1⟩ := Option.bind_eq_some_iff.1 h1
        cases h1
        have hst : stillHeld C r.2 held p.hs = true := by rw [hh]; rfl
        simp only [hr, Option.bind_some, hst, cond_true, hf, hk, cond_false]
        exact h2
      | false =>
        simp only [cond_false] at h1 ⊢
        obtain ⟨f', hf, h1⟩ := Option.bind_eq_some_iff.1 h1
        cases h1
        simp only [hf, Option.bind_some]
        exact h2
    · rename_i hk hh
      have h : someX (guarded ops ⟨t, q.n, ms, q.rnd⟩ p.r.o) (fun g => Bool.rec
        ((cP p.r.o.dst).run q.n t undefT fun t' => (cPlan C ops l).run q t' ms s held k)
        (someX (opB C (fun _ _ _ => none) p.r.o.op ⟨t, q.n, ms, q.rnd⟩ s) fun w => (cP p.r.o.dst).run q.n t w.1 fun t' => (cPlan C ops l).run q t' ms w.2 ((p.r.i, ⟨t, q.n, ms, q.rnd⟩, w.1) :: held) k) g) = true := h
      obtain ⟨g, hg, h⟩ := someX_some h
      show ∃ t' s', planB C rec ops (p :: l) held ⟨t, q.n, ms, q.rnd⟩ s = _ ∧ _
      rw [planB_cons hg]
      cases g with
      | true =>
        obtain ⟨w, h1, h⟩ := someX_some h
        obtain ⟨t1, h2, h⟩ := put_some h ms q.rnd
        obtain ⟨t2, s2, h3, h⟩ := ih q t1 ms w.2 _ k hq h
        refine ⟨t2, s2, ?_, h⟩
        have hst : stillHeld C w.2 held p.hs = true := by rw [hh]; rfl
        simp only [cond_true, opB_none h1, Option.bind_some, hst, h2, hk]
        exact h3
      | false =>
        obtain ⟨t1, h2, h⟩ := put_some h ms q.rnd
        obtain ⟨t2, s2, h3, h⟩ := ih q t1 ms s _ k hq h
        refine ⟨t2, s2, ?_, h⟩
        simp only [cond_false, h2, Option.bind_some]
        exact h3
    · rename_i hn1 hn2
      have hkeep : p.keep = false := by
        cases hk : p.keep with
        | false => rfl
        | true => exact absurd (hl p (by simp) hk) (fun e => hn2 hk e)
      have h : someX (guarded ops ⟨t, q.n, ms, q.rnd⟩ p.r.o) (fun g => Bool.rec
        ((cP p.r.o.dst).run q.n t undefT fun t' => (cPlan C ops l).run q t' ms s held k)
        ((cOp C p.r.o).run q t ms s fun t' s' => Bool.rec false ((cPlan C ops l).run q t' ms s' held k) (stillHeld C s' held p.hs)) g) = true := h
      obtain ⟨g, hg, h⟩ := someX_some h
      show ∃ t' s', planB C rec ops (p :: l) held ⟨t, q.n, ms, q.rnd⟩ s = _ ∧ _
      rw [planB_cons hg]
      cases g with
      | true =>
        obtain ⟨v, s1, t1, h1, h2, h⟩ := cOp_ok hgo p.r.o q t ms s _ hq h
        obtain ⟨hst, h⟩ := brec_true h
        obtain ⟨t2, s2, h3, h⟩ := ih q t1 ms s1 _ k hq h
        refine ⟨t2, s2, ?_, h⟩
        simp only [cond_true, h1, Option.bind_some, hst, h2, hkeep, cond_false]
        exact h3
      | false =>
        obtain ⟨t1, h2, h⟩ := put_some h ms q.rnd
        obtain ⟨t2, s2, h3, h⟩ := ih q t1 ms s _ k hq h
        refine ⟨t2, s2, ?_, h⟩
        simp only [cond_false, h2, Option.bind_some]
        exact h3

theorem withHeld_one : ∀ (l before : List RI), ∀ p ∈ withHeld l before, p.keep = true → p.hs = []
  | [], _, p, hp, _ => by cases hp
  | y :: l, before, p, hp, hk => by
    have hp : p ∈ ((⟨y, Bool.rec false (anyR (fun e => Bool.rec false (Bool.rec true false (has e.am y.i)) e.k.isE) l) y.k.isL,
      Bool.rec [] (filterR (fun x => Bool.rec false (Bool.rec true false (has y.am x.i)) x.k.isL) before) y.k.isE⟩ : PS) :: withHeld l (y :: before)) := hp
    rcases List.mem_cons.1 hp with rfl | hp
    · have hk : (Bool.rec false (anyR (fun e => Bool.rec false (Bool.rec true false (has e.am y.i)) e.k.isE) l) y.k.isL : Bool) = true := hk
      show (Bool.rec [] (filterR (fun x => Bool.rec false (Bool.rec true false (has y.am x.i)) x.k.isL) before) y.k.isE : List RI) = []
      cases e : y.k <;> rw [e] at hk <;> first | (cases hk; done) | rfl
    · exact withHeld_one l (y :: before) p hp hk

theorem cReg_ok (hgo : GoOk go rec) (ops : List Oper) (draw : Bool) : Regs go (cReg C ops draw) (fun f s => regionB C rec ops draw f s) := by
  intro q t ms s k hq h
  cases draw with
  | false =>
    obtain ⟨t', s', h1, h2⟩ := cSeq_ok hgo ops ops q t ms s k hq h
    exact ⟨t', s', h1, h2⟩
  | true =>
    have h : (cDraw (Option.map (cPlan C ops) (planOf C ops))).run q t ms s k = true := h
    cases hp : planOf C ops with
    | none => rw [hp] at h; cases h
    | some l =>
      rw [hp] at h
      obtain ⟨p, rfl, _⟩ := planOf_ok hp
      obtain ⟨t', s', h1, h2⟩ := cPlan_ok hgo ops _ (withHeld_one p []) q t ms s [] k hq h
      refine ⟨t', s', ?_, h2⟩
      simp only [regionB, cond_true, hp, Option.bind_some]
      exact h1

/-! ## Code -/

def Codes (rec : ExecT) (C : Ctx) (c : Code) : Prop :=
  ∀ (q : Q) (t : T2 TV) (ms : List Nat) (s : St) (k : KX), GoOk q.go rec → (comp C c).run q t ms s k = true →
    ∃ ex t' ms' s', runC C rec c ⟨t, q.n, ms, q.rnd⟩ s = some (ex, ⟨t', q.n, ms', q.rnd⟩, s') ∧ k ex t' ms' s' = true

theorem rangeX_ok (g : Operand) (params : Array Nat) (assign body : Code) : Codes rec C (.rangeFunc g params assign body) := by
  intro q t ms s k hgo h
  have h : (cV g).run t (fun v => tvS v fun f => Bool.rec false (
    (Option.rec (motive := fun _ => (Nat → List Nat → St → Bool) → Bool)
      (fun k => s.putX s.next (.deferred false) fun s' => k s.next (s.next :: ms) ⟨s'.h, Nat.succ s.next⟩)
      (fun l k => heapX s l fun b => b.loopX fun L => L.mapX fun _ _ _ _ _ _ _ _ d => k d ms s) q.rnd) fun d ms' s1 =>
    natX s1.next fun l => setX s1.h l (.loop ⟨.ready, none, 0, t, q.n, params.toList, assign, body, d⟩) fun h2 =>
      applyX C q.go f [.s (.yield l)] ⟨h2, Nat.succ l⟩ fun _ s3 => heapX s3 l fun b => b.loopX fun L => L.mapX fun st p f2 t2 n2 ps2 a2 bo2 d2 => LS.rec (motive := fun _ => (Bool → Bool))
        (fun x => x) (fun _ => false) (fun x => x) (fun x => x) st
        (s3.putX l (.loop ⟨.exhausted, p, f2, t2, n2, ps2, a2, bo2, d2⟩) fun s4 =>
          match p with
          | none => k .normal t ms' s4
          | some .ret => k .ret t ms' s4
          | some (.exit i) => k (.exit i) t ms' s4
          | some _ => false)) (entersB C f)) = true := h
  obtain ⟨v, h1, h⟩ := cV_some (f := ⟨t, q.n, ms, q.rnd⟩) h rfl
  have hS : ∃ f, (⟨t, q.n, ms, q.rnd⟩ : Fr).evS g = some f ∧ v = .v (.s f) := by
    cases v with
    | tup l => cases h
    | v a => cases a with
      | agg l => cases h
      | s f => exact ⟨f, by simp only [Fr.evS, h1, Option.bind_some, TV.sv], rfl⟩
  obtain ⟨f, hS, rfl⟩ := hS
  obtain ⟨hent, h⟩ := brec_true h
  have rest : ∀ (d : Nat) (ms' : List Nat) (s1 : St),
      (natX s1.next fun l => setX s1.h l (.loop ⟨.ready, none, 0, t, q.n, params.toList, assign, body, d⟩) fun h2 =>
      applyX C q.go f [.s (.yield l)] ⟨h2, Nat.succ l⟩ fun _ s3 => heapX s3 l fun b => b.loopX fun L => L.mapX fun st p f2 t2 n2 ps2 a2 bo2 d2 => LS.rec (motive := fun _ => (Bool → Bool))
        (fun x => x) (fun _ => false) (fun x => x) (fun x => x) st
        (s3.putX l (.loop ⟨.exhausted, p, f2, t2, n2, ps2, a2, bo2, d2⟩) fun s4 =>
          match p with
          | none => k .normal t ms' s4
          | some .ret => k .ret t ms' s4
          | some (.exit i) => k (.exit i) t ms' s4
          | some _ => false)) = true →
      (match q.rnd with
       | none => some (s.next, s.next :: ms, ({ h := s.h.set s.next (.deferred false), next := s.next + 1 } : St))
       | some l => match s.h.get l with
         | some (.loop L) => some (L.defers, ms, s)
         | _ => none) = some (d, ms', s1) →
      ∃ ex t' ms' s', runC C rec (.rangeFunc g params assign body) ⟨t, q.n, ms, q.rnd⟩ s = some (ex, ⟨t', q.n, ms', q.rnd⟩, s') ∧ k ex t' ms' s' = true := by
    intro d ms' s1 h hq
    rw [natX_eq, setX_eq] at h
    obtain ⟨v, s3, h2, h⟩ := applyX_some hgo h
    obtain ⟨b, h3, h⟩ := heapX_some h
    obtain ⟨L, rfl, h⟩ := Blk.loopX_some h
    obtain ⟨st, p, f2, t2, n2, ps2, a2, bo2, d2⟩ := L
    have hst : st ≠ .busy ∧ (s3.putX s1.next (.loop ⟨.exhausted, p, f2, t2, n2, ps2, a2, bo2, d2⟩) fun s4 =>
          match (generalizing := false) p with
          | none => k .normal t ms' s4
          | some .ret => k .ret t ms' s4
          | some (.exit i) => k (.exit i) t ms' s4
          | some _ => false) = true := by
      cases st with
      | busy => cases h
      | ready => exact ⟨fun e => (by cases e), h⟩
      | done => exact ⟨fun e => (by cases e), h⟩
      | exhausted => exact ⟨fun e => (by cases e), h⟩
    obtain ⟨hst, h⟩ := hst
    rw [putX_eq'] at h
    have hrun : ∀ r, (match (generalizing := false) p with
        | none => some (Ex.normal, ({ (⟨t, q.n, ms, q.rnd⟩ : Fr) with marks := ms' } : Fr), s3.put s1.next (.loop ⟨.exhausted, p, f2, t2, n2, ps2, a2, bo2, d2⟩))
        | some .ret => some (.ret, { (⟨t, q.n, ms, q.rnd⟩ : Fr) with marks := ms' }, s3.put s1.next (.loop ⟨.exhausted, p, f2, t2, n2, ps2, a2, bo2, d2⟩))
        | some (.exit i) => some (.exit i, { (⟨t, q.n, ms, q.rnd⟩ : Fr) with marks := ms' }, s3.put s1.next (.loop ⟨.exhausted, p, f2, t2, n2, ps2, a2, bo2, d2⟩))
        | some _ => none) = some r → runC C rec (.rangeFunc g params assign body) ⟨t, q.n, ms, q.rnd⟩ s = some r := fun r hr => by
      show rangeB C rec g params.toList assign body ⟨t, q.n, ms, q.rnd⟩ s = some r
      unfold rangeB
      simp only [hS, Option.bind_some, hent, cond_true]
      refine (congrArg (fun o => Option.bind o _) hq).trans ?_
      simp only [Option.bind_some]
      rw [h2]
      simp only [Option.bind_some, h3]
      cases st with
      | busy => exact absurd rfl hst
      | ready => exact hr
      | done => exact hr
      | exhausted => exact hr
    split at h
    · exact ⟨_, _, _, _, hrun _ rfl, h⟩
    · exact ⟨_, _, _, _, hrun _ rfl, h⟩
    · exact ⟨_, _, _, _, hrun _ rfl, h⟩
    · cases h
  cases hr : q.rnd with
  | none =>
    rw [hr] at h rest
    have h : s.putX s.next (.deferred false) _ = true := h
    rw [putX_eq'] at h
    exact rest _ _ _ h rfl
  | some l =>
    rw [hr] at h rest
    obtain ⟨b, h4, hh⟩ := heapX_some h
    obtain ⟨L, rfl, hh⟩ := Blk.loopX_some hh
    obtain ⟨st, p, f2, t2, n2, ps2, a2, bo2, d2⟩ := L
    exact rest d2 ms s hh (by simp only [h4])

theorem comp_ok : ∀ c : Code, Codes rec C c := by
  intro c
  induction c with
  | skip => intro q t ms s k _ h; exact ⟨_, _, _, _, rfl, h⟩
  | label l => intro q t ms s k _ h; exact ⟨_, _, _, _, rfl, h⟩
  | exit id => intro q t ms s k _ h; exact ⟨_, _, _, _, rfl, h⟩
  | ret => intro q t ms s k _ h; exact ⟨_, _, _, _, rfl, h⟩
  | goto l => intro q t ms s k _ h; cases h
  | refuse w => intro q t ms s k _ h; cases h
  | region id ops draw =>
    intro q t ms s k hgo h
    have h : (cReg C ops.toList draw).run q t ms s (fun t' s' => k .normal t' ms s') = true := h
    obtain ⟨t', s', h1, h2⟩ := cReg_ok hgo ops.toList draw q t ms s _ rfl h
    refine ⟨_, _, _, _, ?_, h2⟩
    show (regionB C rec ops.toList draw ⟨t, q.n, ms, q.rnd⟩ s).bind (fun r => some (Ex.normal, r.1, r.2)) = _
    have h1 : regionB C rec ops.toList draw ⟨t, q.n, ms, q.rnd⟩ s = some (⟨t', q.n, ms, q.rnd⟩, s') := h1
    rw [h1]
    rfl
  | seq x y ihx ihy =>
    intro q t ms s k hgo h
    have h : (comp C x).run q t ms s (fun ex t' ms' s' => Ex.rec (motive := fun _ => Bool)
      ((comp C y).run q t' ms' s' k) (fun i => k (.exit i) t' ms' s') (k .ret t' ms' s') ex) = true := h
    obtain ⟨ex, t1, ms1, s1, h1, h⟩ := ihx q t ms s _ hgo h
    have e : runC C rec (.seq x y) ⟨t, q.n, ms, q.rnd⟩ s = (runC C rec x ⟨t, q.n, ms, q.rnd⟩ s).bind (fun r => match r with
      | (.normal, f', s') => runC C rec y f' s'
      | (.exit i, f', s') => some (.exit i, f', s')
      | (.ret, f', s') => some (.ret, f', s')) := rfl
    rw [e, h1]
    cases ex with
    | normal => exact ihy q t1 ms1 s1 k hgo h
    | exit i => exact ⟨_, _, _, _, rfl, h⟩
    | ret => exact ⟨_, _, _, _, rfl, h⟩
  | cond c x y ihx ihy =>
    intro q t ms s k hgo h
    have h : gS c t (fun v => v.boolX fun p => Bool.rec ((comp C y).run q t ms s k) ((comp C x).run q t ms s k) p) = true := h
    obtain ⟨v, h1, h⟩ := gS_some (f := ⟨t, q.n, ms, q.rnd⟩) h rfl
    obtain ⟨p, rfl, hh⟩ := SV.boolX_some h
    have e : runC C rec (.cond c x y) ⟨t, q.n, ms, q.rnd⟩ s = (match (⟨t, q.n, ms, q.rnd⟩ : Fr).evS c with
      | some (.bool true) => runC C rec x ⟨t, q.n, ms, q.rnd⟩ s
      | some (.bool false) => runC C rec y ⟨t, q.n, ms, q.rnd⟩ s
      | _ => none) := rfl
    rw [e, h1]
    cases p with
    | true => exact ihx q t ms s k hgo hh
    | false => exact ihy q t ms s k hgo hh
  | block id x ih =>
    intro q t ms s k hgo h
    have h : (comp C x).run q t ms s (fun ex t' ms' s' => Ex.rec (motive := fun _ => Bool)
      (k .normal t' ms' s') (fun i => Bool.rec (k (.exit i) t' ms' s') (k .normal t' ms' s') (Nat.beq i id)) (k .ret t' ms' s') ex) = true := h
    obtain ⟨ex, t1, ms1, s1, h1, h⟩ := ih q t ms s _ hgo h
    have e : runC C rec (.block id x) ⟨t, q.n, ms, q.rnd⟩ s = (runC C rec x ⟨t, q.n, ms, q.rnd⟩ s).bind (fun r => match r with
      | (.exit i, f', s') => cond (i.beq id) (some (.normal, f', s')) (some (.exit i, f', s'))
      | (.normal, f', s') => some (.normal, f', s')
      | (.ret, f', s') => some (.ret, f', s')) := rfl
    rw [e, h1]
    cases ex with
    | normal => exact ⟨_, _, _, _, rfl, h⟩
    | ret => exact ⟨_, _, _, _, rfl, h⟩
    | exit i =>
      have h : (Bool.rec (k (.exit i) t1 ms1 s1) (k .normal t1 ms1 s1) (Nat.beq i id) : Bool) = true := h
      simp only [Option.bind_some]
      cases hb : Nat.beq i id with
      | true => rw [hb] at h; exact ⟨_, _, _, _, rfl, h⟩
      | false => rw [hb] at h; exact ⟨_, _, _, _, rfl, h⟩
  | loop x ih =>
    intro q t ms s k hgo h
    have h : (comp C x).run q t ms s (fun ex t' ms' s' => Ex.rec (motive := fun _ => Bool)
      (q.go (.loop x) q.n q.rnd t' ms' s' k) (fun i => k (.exit i) t' ms' s') (k .ret t' ms' s') ex) = true := h
    obtain ⟨ex, t1, ms1, s1, h1, h⟩ := ih q t ms s _ hgo h
    have e : runC C rec (.loop x) ⟨t, q.n, ms, q.rnd⟩ s = (runC C rec x ⟨t, q.n, ms, q.rnd⟩ s).bind (fun r => match r with
      | (.normal, f', s') => rec (.loop x) f' s'
      | (.exit i, f', s') => some (.exit i, f', s')
      | (.ret, f', s') => some (.ret, f', s')) := rfl
    rw [e, h1]
    cases ex with
    | normal => exact hgo _ _ _ _ _ _ _ h
    | exit i => exact ⟨_, _, _, _, rfl, h⟩
    | ret => exact ⟨_, _, _, _, rfl, h⟩
  | scope x ih => intro q t ms s k hgo h; exact ih q t ms s k hgo h
  | rangeFunc g ps a b _ _ => exact rangeX_ok g ps a b

theorem fexec_ok : ∀ n, GoOk (fexec C n) (exec C n)
  | 0 => fun _ _ _ _ _ _ _ h => by cases h
  | n + 1 => fun c m rnd t ms s k h => comp_ok c ⟨fexec C n, m, rnd⟩ t ms s k (fexec_ok n) h

/-- THE FAST FORM SAYS NO MORE THAN THE PLAIN ONE. -/
theorem saysTrueX_ok {fuel g : Nat} (h : saysTrueX C fuel g = true) : saysTrue C fuel g = true := by
  unfold saysTrueX at h
  obtain ⟨v, s', h1, h2⟩ := cFn_some (fexec_ok fuel) h
  unfold saysTrue
  have hv : v = .v (.s (.bool true)) := by
    cases v with
    | tup l => cases h2
    | v a => cases a with
      | agg l => cases h2
      | s x =>
        have h2 : x.boolX (fun b => b) = true := h2
        obtain ⟨b, rfl, h3⟩ := SV.boolX_some h2
        cases h3
        rfl
  rw [h1, hv]

end
end Go.Ev

