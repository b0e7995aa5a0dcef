/- Rules of the evaluator, for runs with values that are not known: fuel enough. -/
import Derived.Test.YtdgccipcandojaaGreatEvG
namespace Go.Ev

/-- From some number on. -/
def Evt (P : Nat → Prop) : Prop := ∃ n, ∀ m, n ≤ m → P m

theorem Evt.all {P : Nat → Prop} (h : ∀ m, P m) : Evt P := ⟨0, fun m _ => h m⟩
theorem Evt.mp2 {P Q R : Nat → Prop} (h : Evt P) (k : Evt Q) (f : ∀ m, P m → Q m → R m) : Evt R :=
  let ⟨a, ha⟩ := h; let ⟨b, hb⟩ := k; ⟨max a b, fun m hm => f m (ha m (by omega)) (hb m (by omega))⟩
theorem Evt.mp {P R : Nat → Prop} (h : Evt P) (f : ∀ m, P m → R m) : Evt R := let ⟨a, ha⟩ := h; ⟨a, fun m hm => f m (ha m hm)⟩
/-- One more. -/
theorem Evt.up {P R : Nat → Prop} (h : Evt P) (f : ∀ m, P m → R (m + 1)) : Evt R :=
  let ⟨a, ha⟩ := h
  ⟨a + 1, fun m hm => by
    obtain ⟨k, rfl⟩ : ∃ k, m = k + 1 := ⟨m - 1, by omega⟩
    exact f k (ha k (by omega))⟩

section
variable (C : Ctx)

def RetK (g : Nat) (args : List AV) (s : St) (K : TV → St → Prop) : Prop := ∃ v s', Evt (fun m => callB C (exec C m) g args s = some (v, s')) ∧ K v s'
def AppK (g : SV) (args : List AV) (s : St) (K : TV → St → Prop) : Prop := ∃ v s', Evt (fun m => applyB C (exec C m) g args s = some (v, s')) ∧ K v s'
def CodK (c : Code) (f : Fr) (s : St) (K : Ex → Fr → St → Prop) : Prop := ∃ ex f' s', Evt (fun m => runC C (exec C m) c f s = some (ex, f', s')) ∧ K ex f' s'
def OpsK (ops l : List Oper) (f : Fr) (s : St) (K : Fr → St → Prop) : Prop := ∃ f' s', Evt (fun m => seqB C (exec C m) ops l f s = some (f', s')) ∧ K f' s'
end

section
variable {C : Ctx} {f f1 : Fr} {s s1 : St} {ops l : List Oper} {o : Oper} {v : TV}

theorem RetK.mono {g : Nat} {args : List AV} {K K' : TV → St → Prop} (h : RetK C g args s K) (k : ∀ v s', K v s' → K' v s') : RetK C g args s K' :=
  let ⟨v, s', h1, h2⟩ := h; ⟨v, s', h1, k v s' h2⟩
theorem AppK.mono {g : SV} {args : List AV} {K K' : TV → St → Prop} (h : AppK C g args s K) (k : ∀ v s', K v s' → K' v s') : AppK C g args s K' :=
  let ⟨v, s', h1, h2⟩ := h; ⟨v, s', h1, k v s' h2⟩
theorem CodK.mono {c : Code} {K K' : Ex → Fr → St → Prop} (h : CodK C c f s K) (k : ∀ ex f' s', K ex f' s' → K' ex f' s') : CodK C c f s K' :=
  let ⟨ex, f', s', h1, h2⟩ := h; ⟨ex, f', s', h1, k ex f' s' h2⟩
theorem OpsK.mono {K K' : Fr → St → Prop} (h : OpsK C ops l f s K) (k : ∀ f' s', K f' s' → K' f' s') : OpsK C ops l f s K' :=
  let ⟨f', s', h1, h2⟩ := h; ⟨f', s', h1, k f' s' h2⟩

/-! ## Operations -/

def noRec : ExecT := fun _ _ _ => none

theorem OpsK.nil {K : Fr → St → Prop} (h : K f s) : OpsK C ops [] f s K := ⟨f, s, .all fun _ => rfl, h⟩

theorem OpsK.on {K : Fr → St → Prop} (hg : guarded ops f o = some true) (ho : opB C noRec o.op f s = some (v, s1)) (hp : f.put o.dst v = some f1) (h : OpsK C ops l f1 s1 K) : OpsK C ops (o :: l) f s K := by
  obtain ⟨f', s', h1, h2⟩ := h
  refine ⟨f', s', h1.mp fun m hm => ?_, h2⟩
  have ho := opB_none (rec := exec C m) ho
  show (stepB C (exec C m) ops o f s).bind (fun r => seqB C (exec C m) ops l r.1 r.2) = _
  unfold stepB
  simp only [hg, Option.bind_some, cond_true, ho, hp]
  exact hm

theorem OpsK.off {K : Fr → St → Prop} (hg : guarded ops f o = some false) (hp : f.put o.dst undefT = some f1) (h : OpsK C ops l f1 s K) : OpsK C ops (o :: l) f s K := by
  obtain ⟨f', s', h1, h2⟩ := h
  refine ⟨f', s', h1.mp fun m hm => ?_, h2⟩
  show (stepB C (exec C m) ops o f s).bind (fun r => seqB C (exec C m) ops l r.1 r.2) = _
  unfold stepB
  simp only [hg, Option.bind_some, cond_false, hp]
  exact hm

theorem OpsK.app {K : Fr → St → Prop} (hg : guarded ops f o = some true) {c : Call} (ho : o.op = .call c) {gx : Operand} (hc : c.callee = .value gx) {g : SV} (hgv : f.evS gx = some g) {args : List AV}
    (ha : evAs f c.args.toList = some args) (h : AppK C g args s fun v s1 => ∃ f1, f.put o.dst v = some f1 ∧ OpsK C ops l f1 s1 K) : OpsK C ops (o :: l) f s K := by
  obtain ⟨v, s1, h1, f1, hp, f', s', h2, h3⟩ := h
  refine ⟨f', s', h1.mp2 h2 fun m hm hk => ?_, h3⟩
  show (stepB C (exec C m) ops o f s).bind (fun r => seqB C (exec C m) ops l r.1 r.2) = _
  have hop : opB C (exec C m) o.op f s = some (v, s1) := by
    have hkd : kindOf C (.call c) = .E := by show kindCall C c = _; unfold kindCall; rw [hc]
    rw [ho, opB_E hkd]
    show eCall C (exec C m) f s c = _
    unfold eCall
    simp only [hc, hgv, ha, Option.bind_some]
    exact hm
  unfold stepB
  simp only [hg, Option.bind_some, cond_true, hop, hp]
  exact hk

theorem AppK.func {g : Nat} {first caps : List (Nat × Nat)} {args : List AV} {K : TV → St → Prop} (h : RetK C g (appR (ptrA first) (appR args (ptrA caps))) s K) : AppK C (.func g first caps) args s K := h

theorem OpsK.call {K : Fr → St → Prop} (hg : guarded ops f o = some true) {c : Call} (ho : o.op = .call c) {g : Nat} (hc : c.callee = .value (.func g)) {args : List AV}
    (ha : evAs f c.args.toList = some args) (h : RetK C g args s fun v s1 => ∃ f1, f.put o.dst v = some f1 ∧ OpsK C ops l f1 s1 K) : OpsK C ops (o :: l) f s K := by
  refine OpsK.app hg ho hc rfl ha (AppK.func ?_)
  have e : appR (ptrA []) (appR args (ptrA [])) = args := by rw [appR_eq, appR_eq]; simp [ptrA]
  rw [e]
  exact h

/-! ## Code -/

theorem CodK.skip {K : Ex → Fr → St → Prop} (h : K .normal f s) : CodK C .skip f s K := ⟨_, _, _, .all fun _ => rfl, h⟩
theorem CodK.label {n : Nat} {K : Ex → Fr → St → Prop} (h : K .normal f s) : CodK C (.label n) f s K := ⟨_, _, _, .all fun _ => rfl, h⟩
theorem CodK.exit {n : Nat} {K : Ex → Fr → St → Prop} (h : K (.exit n) f s) : CodK C (.exit n) f s K := ⟨_, _, _, .all fun _ => rfl, h⟩
theorem CodK.ret {K : Ex → Fr → St → Prop} (h : K .ret f s) : CodK C .ret f s K := ⟨_, _, _, .all fun _ => rfl, h⟩
theorem CodK.scope {c : Code} {K : Ex → Fr → St → Prop} (h : CodK C c f s K) : CodK C (.scope c) f s K := h

theorem CodK.region {id : Nat} {ops : Array Oper} {K : Ex → Fr → St → Prop} (h : OpsK C ops.toList ops.toList f s (K .normal)) : CodK C (.region id ops false) f s K := by
  obtain ⟨f', s', h1, h2⟩ := h
  refine ⟨_, f', s', h1.mp fun m hm => ?_, h2⟩
  show (regionB C (exec C m) ops.toList false f s).bind (fun r => some (Ex.normal, r.1, r.2)) = _
  have : regionB C (exec C m) ops.toList false f s = some (f', s') := hm
  rw [this]
  rfl

/-- Of a plan: whose turn it is, whether what is read is kept, and how much is read anew. -/
noncomputable def planSays (C : Ctx) (ops : List Oper) : Option (List (Nat × Bool × Nat)) := (planOf C ops).map fun l => l.map fun p => (p.r.i, p.keep, p.hs.length)

theorem planB_seq {rec : ExecT} : ∀ (ps : List PS) (held : Held) (f : Fr) (s : St), (∀ p ∈ ps, p.keep = false ∧ p.hs = []) → planB C rec ops ps held f s = seqB C rec ops (ps.map fun p => p.r.o) f s
  | [], _, _, _, _ => rfl
  | p :: ps, held, f, s, h => by
    obtain ⟨h1, h2⟩ := h p (by simp)
    show _ = (stepB C rec ops p.r.o f s).bind (fun r => seqB C rec ops (ps.map fun p => p.r.o) r.1 r.2)
    unfold stepB
    show (guarded ops f p.r.o).bind _ = _
    cases hg : guarded ops f p.r.o with
    | none => rfl
    | some g =>
      cases g with
      | true =>
        simp only [Option.bind_some, cond_true]
        cases ho : opB C rec p.r.o.op f s with
        | none => rfl
        | some q =>
          simp only [Option.bind_some]
          have hst : stillHeld C q.2 held p.hs = true := by rw [h2]; rfl
          rw [hst, cond_true]
          cases hp : f.put p.r.o.dst q.1 with
          | none => rfl
          | some f1 =>
            simp only [Option.bind_some, h1, cond_false]
            exact planB_seq ps held f1 q.2 (fun q hq => h q (by simp [hq]))
      | false =>
        simp only [Option.bind_some, cond_false]
        cases hp : f.put p.r.o.dst undefT with
        | none => rfl
        | some f1 =>
          simp only [Option.bind_some]
          exact planB_seq ps held f1 s (fun q hq => h q (by simp [hq]))

theorem CodK.drawn {id : Nat} {ops : Array Oper} {perm : List Nat} (hp : planSays C ops.toList = some (perm.map fun i => (i, false, 0))) {l : List Oper} (hl : perm.map (fun i => ops.toList.getD i default) = l)
    {K : Ex → Fr → St → Prop} (h : OpsK C ops.toList l f s (K .normal)) : CodK C (.region id ops true) f s K := by
  subst hl
  obtain ⟨f', s', h1, h2⟩ := h
  refine ⟨_, f', s', h1.mp fun m hm => ?_, h2⟩
  show (regionB C (exec C m) ops.toList true f s).bind (fun r => some (Ex.normal, r.1, r.2)) = _
  unfold planSays at hp
  obtain ⟨ps, hps, he⟩ := Option.map_eq_some_iff.1 hp
  obtain ⟨p, rfl, hok⟩ := planOf_ok hps
  have hreg : regionB C (exec C m) ops.toList true f s = some (f', s') := by
    show (planOf C ops.toList).bind (fun p => planB C (exec C m) ops.toList p [] f s) = _
    rw [hps, Option.bind_some, planB_seq]
    · have : (withHeld p []).map (fun p => p.r.o) = perm.map (fun i => ops.toList.getD i default) := by
        apply List.ext_getElem?
        intro i
        have hi := congrArg (fun l => l[i]?) he
        simp only [List.getElem?_map] at hi ⊢
        cases hx : (withHeld p [])[i]? with
        | none =>
          rw [hx] at hi
          cases hy : perm[i]? with
          | none => rfl
          | some j => rw [hy] at hi; cases hi
        | some x =>
          rw [hx] at hi
          cases hy : perm[i]? with
          | none => rw [hy] at hi; cases hi
          | some j =>
            rw [hy] at hi
            simp only [Option.map_some, Option.some.injEq, Prod.mk.injEq] at hi ⊢
            have hm := (hok.item x.r (List.mem_of_getElem? (withHeld_spec p [] i x hx).1)).here
            rw [hi.1] at hm
            rw [List.getD_eq_getElem?_getD, hm]
            rfl
      rw [this]
      exact hm
    · intro q hq
      have : (q.r.i, q.keep, q.hs.length) ∈ perm.map fun i => (i, false, 0) := by rw [← he]; exact List.mem_map.2 ⟨q, hq, rfl⟩
      obtain ⟨j, _, e⟩ := List.mem_map.1 this
      simp only [Prod.mk.injEq] at e
      exact ⟨e.2.1.symm, List.eq_nil_of_length_eq_zero e.2.2.symm⟩
  rw [hreg]
  rfl

def Thn (C : Ctx) (b : Code) (K : Ex → Fr → St → Prop) : Ex → Fr → St → Prop
  | .normal, f, s => CodK C b f s K
  | .exit i, f, s => K (.exit i) f s
  | .ret, f, s => K .ret f s

theorem CodK.seq {a b : Code} {K : Ex → Fr → St → Prop} (h : CodK C a f s (Thn C b K)) : CodK C (.seq a b) f s K := by
  obtain ⟨ex, f1, s1, h1, h2⟩ := h
  have e : ∀ m, runC C (exec C m) (.seq a b) f s = (runC C (exec C m) a f s).bind (fun r => match r with
      | (.normal, f', s') => runC C (exec C m) b f' s'
      | (.exit i, f', s') => some (.exit i, f', s')
      | (.ret, f', s') => some (.ret, f', s')) := fun _ => rfl
  cases ex with
  | normal =>
    obtain ⟨ex, f', s', h3, h4⟩ := h2
    exact ⟨ex, f', s', h1.mp2 h3 fun m hm hk => by rw [e, hm]; exact hk, h4⟩
  | exit i => exact ⟨_, f1, s1, h1.mp fun m hm => by rw [e, hm]; rfl, h2⟩
  | ret => exact ⟨_, f1, s1, h1.mp fun m hm => by rw [e, hm]; rfl, h2⟩

theorem CodK.cond {c : Operand} {a b : Code} {t : Bool} {K : Ex → Fr → St → Prop} (hc : f.evS c = some (.bool t)) (h : CodK C (bif t then a else b) f s K) : CodK C (.cond c a b) f s K := by
  obtain ⟨ex, f1, s1, h1, h2⟩ := h
  refine ⟨ex, f1, s1, h1.mp fun m hm => ?_, h2⟩
  show (match f.evS c with
      | some (.bool true) => runC C (exec C m) a f s
      | some (.bool false) => runC C (exec C m) b f s
      | _ => none) = _
  rw [hc]
  cases t <;> exact hm

def Blks (id : Nat) (K : Ex → Fr → St → Prop) : Ex → Fr → St → Prop
  | .normal, f, s => K .normal f s
  | .exit i, f, s => if i = id then K .normal f s else K (.exit i) f s
  | .ret, f, s => K .ret f s

theorem CodK.block {id : Nat} {b : Code} {K : Ex → Fr → St → Prop} (h : CodK C b f s (Blks id K)) : CodK C (.block id b) f s K := by
  obtain ⟨ex, f1, s1, h1, h2⟩ := h
  have e : ∀ m, runC C (exec C m) (.block id b) f s = (runC C (exec C m) b f s).bind (fun r => match r with
      | (.exit i, f', s') => bif i.beq id then some (.normal, f', s') else some (.exit i, f', s')
      | (.normal, f', s') => some (.normal, f', s')
      | (.ret, f', s') => some (.ret, f', s')) := fun _ => rfl
  cases ex with
  | normal => exact ⟨_, f1, s1, h1.mp fun m hm => by rw [e, hm]; rfl, h2⟩
  | ret => exact ⟨_, f1, s1, h1.mp fun m hm => by rw [e, hm]; rfl, h2⟩
  | exit i =>
    have h2 : if i = id then K .normal f1 s1 else K (.exit i) f1 s1 := h2
    by_cases q : i = id
    · rw [if_pos q] at h2
      exact ⟨_, f1, s1, h1.mp fun m hm => by rw [e, hm]; show (bif i.beq id then _ else _) = _; rw [beq_iff.2 q]; rfl, h2⟩
    · rw [if_neg q] at h2
      refine ⟨_, f1, s1, h1.mp fun m hm => ?_, h2⟩
      rw [e, hm]
      show (bif i.beq id then _ else _) = _
      have : i.beq id = false := by
        cases hb : i.beq id with
        | false => rfl
        | true => exact absurd (beq_iff.1 hb) q
      rw [this]; rfl

def Rnds (C : Ctx) (b : Code) (K : Ex → Fr → St → Prop) : Ex → Fr → St → Prop
  | .normal, f, s => CodK C (.loop b) f s K
  | .exit i, f, s => K (.exit i) f s
  | .ret, f, s => K .ret f s

theorem CodK.loop {b : Code} {K : Ex → Fr → St → Prop} (h : CodK C b f s (Rnds C b K)) : CodK C (.loop b) f s K := by
  obtain ⟨ex, f1, s1, h1, h2⟩ := h
  have e : ∀ m, runC C (exec C m) (.loop b) f s = (runC C (exec C m) b f s).bind (fun r => match r with
      | (.normal, f', s') => exec C m (.loop b) f' s'
      | (.exit i, f', s') => some (.exit i, f', s')
      | (.ret, f', s') => some (.ret, f', s')) := fun _ => rfl
  cases ex with
  | normal =>
    obtain ⟨ex, f', s', h3, h4⟩ := h2
    have h3' : Evt fun m => exec C m (.loop b) f1 s1 = some (ex, f', s') := h3.up fun m hm => hm
    exact ⟨ex, f', s', h1.mp2 h3' fun m hm hk => by rw [e, hm]; exact hk, h4⟩
  | exit i => exact ⟨_, f1, s1, h1.mp fun m hm => by rw [e, hm]; rfl, h2⟩
  | ret => exact ⟨_, f1, s1, h1.mp fun m hm => by rw [e, hm]; rfl, h2⟩

/-! ## Calls -/

theorem RetK.body {g : Nat} {fn : Func} {body : Code} (hfn : C.fns g = some fn) (hb : fn.body = some body) (hst : C.stub.get g = none) {args : List AV} (hn : Nat.ble (max (lenR args) fn.ntmps) 256 = true) {K : TV → St → Prop}
    (h : CodK C body ⟨T2.put T2.new 0 (mapR TV.v args), max (lenR args) fn.ntmps, [], none⟩ s fun ex f' s' => (∀ i, ex ≠ .exit i) ∧ ∃ s'' vs, takeMarks s' f'.marks = some s'' ∧ resultsB f' C s'' fn.results.toList = some vs ∧ K (tvOf vs) s'') :
    RetK C g args s K := by
  obtain ⟨ex, f', s', h1, hne, s'', vs, h2, h3, h4⟩ := h
  refine ⟨_, s'', h1.up fun m hm => ?_, h4⟩
  unfold callB
  simp only [hfn, hb, hst, hn, cond_true]
  have : exec C (m + 1) body ⟨T2.put T2.new 0 (mapR TV.v args), max (lenR args) fn.ntmps, [], none⟩ s = some (ex, f', s') := hm
  rw [this]
  cases ex with
  | exit i => exact absurd rfl (hne i)
  | normal => simp only [Option.bind_some, h2, h3]
  | ret => simp only [Option.bind_some, h2, h3]

theorem RetK.stub {g : Nat} {fn : Func} {body : Code} (hfn : C.fns g = some fn) (hb : fn.body = some body) {v : SV} (hst : C.stub.get g = some v) {K : TV → St → Prop} (h : K (.v (.s v)) s) : RetK C g [] s K := by
  refine ⟨_, s, .all fun m => ?_, h⟩
  unfold callB
  simp only [hfn, hb, hst]
  rfl

/-- A run that was made. -/
theorem RetK.of {g : Nat} {args : List AV} {K : TV → St → Prop} {n : Nat} {v : TV} {s' : St} (h : ∀ m, n ≤ m → callB C (exec C m) g args s = some (v, s')) (hK : K v s') : RetK C g args s K := ⟨v, s', ⟨n, h⟩, hK⟩

end

/-! ## What a call that only makes blocks leaves -/

/-- All that was there is there as it was. -/
structure Keeps (s s' : St) : Prop where
  next : s.next ≤ s'.next
  get : ∀ i, i < s.next → s'.h.get i = s.h.get i

theorem Keeps.refl (s : St) : Keeps s s := ⟨Nat.le_refl _, fun _ _ => rfl⟩
theorem Keeps.trans {a b c : St} (h : Keeps a b) (k : Keeps b c) : Keeps a c := ⟨Nat.le_trans h.next k.next, fun i hi => (k.get i (Nat.lt_of_lt_of_le hi h.next)).trans (h.get i hi)⟩
theorem Keeps.new {a b : St} (h : Keeps a b) (x : Blk) : Keeps a ⟨b.h.set b.next x, b.next + 1⟩ := h.trans ⟨Nat.le_succ _, fun i hi => Tr.get_set_ne (by omega)⟩
theorem Keeps.put {a b : St} (h : Keeps a b) {i : Nat} (hi : a.next ≤ i) (x : Blk) : Keeps a (b.put i x) := ⟨h.next, fun j hj => (Tr.get_set_ne (by omega)).trans (h.get j hj)⟩

end Go.Ev

/- One operation at a time, for values that are not known. -/
namespace Go.Ev

section
variable {C : Ctx} {f : Fr} {s : St}

theorem o_move {x : Operand} {v : TV} (h : f.ev x = some v) : opB C noRec (.move x) f s = some (v, s) := by
  rw [opB_P rfl]; show (f.ev x).bind _ = _; rw [h]; rfl
theorem o_assign {x : Operand} {v : TV} (h : f.ev x = some v) : opB C noRec (.assign x) f s = some (v, s) := by
  rw [opB_P rfl]; show (f.ev x).bind _ = _; rw [h]; rfl
theorem o_pick {c a b : Operand} (t : Bool) {v : TV} (hc : f.evS c = some (.bool t)) (h : f.ev (bif t then a else b) = some v) : opB C noRec (.pick c a b) f s = some (v, s) := by
  rw [opB_P rfl]; show (pPick f c a b).bind _ = _; unfold pPick; rw [hc]; show (f.ev (bif t then a else b)).bind _ = _; rw [h]; rfl
theorem o_nil {x : Operand} {i o : Nat} (h : f.evS x = some (.ptr i o)) : opB C noRec (.nilCheck x) f s = some (.v (.s (.ptr i o)), s) := by
  rw [opB_P rfl]; show (pNil f x).bind _ = _; unfold pNil; rw [h]; rfl
theorem o_fieldAddr {t i id off n : Nat} {x : Operand} {fs : Array Field} {fd : Field} (off' : Nat) (h : f.evS x = some (.ptr id off)) (hu : C.und t = some (.struct fs)) (hf : fs.toList[i]? = some fd) (hz : C.size fd.type = some (n + 1)) (ho : off + fd.offset = off') :
    opB C noRec (.fieldAddr t x i) f s = some (.v (.s (.ptr id off')), s) := by
  subst ho
  rw [opB_P rfl]
  show (pFieldAddr C f t x i).bind _ = _
  unfold pFieldAddr
  simp only [h, hu, nthR_eq, hf, hz, Option.bind_some]
  rfl
theorem o_indexAddr {t e id sz eo len i : Nat} {cp : Option Nat} {k : IntKind} {x ix : Operand} (hi : f.evS ix = some (.int k (i : Int))) (h : f.evS x = some (.slice id sz eo len cp)) (hu : C.und t = some (.slice e)) (hz : C.size e = some sz) (hl : i < len) :
    opB C noRec (.indexAddr t x ix) f s = some (.v (.s (.ptr id ((eo + i) * sz))), s) := by
  rw [opB_P rfl]
  show (pIndexAddr C f t x ix).bind _ = _
  unfold pIndexAddr
  have hn : natOf (.int k (i : Int)) = some i := by simp [natOf]
  have hb : (Nat.blt i len && Nat.beq sz sz) = true := by rw [blt_iff.2 hl, Nat.beq_refl]; rfl
  simp only [hi, Option.bind_some, hn, h, hu, hz]
  rw [show (i.blt len && sz.beq sz) = true from hb]
  rfl
theorem o_index {t i : Nat} {k : IntKind} {x ix : Operand} {a : List UInt8} {b : UInt8} (hi : f.evS ix = some (.int k (i : Int))) (h : f.evA x = some (.s (.str a))) (hu : C.und t = some .string) (hb : a[i]? = some b) :
    opB C noRec (.index t x ix) f s = some (.v (.s (.int .u8 b.toNat)), s) := by
  rw [opB_P rfl]
  show (pIndex C f t x ix).bind _ = _
  unfold pIndex
  have hn : natOf (.int k (i : Int)) = some i := by simp [natOf]
  simp only [hi, Option.bind_some, hn, h, hu, nthR_eq, hb]
theorem o_field {t i _n : Nat} {x : Operand} {cs : List SV} {fs : Array Field} {fd : Field} {a : AV} (h : f.evA x = some (.agg cs)) (hu : C.und t = some (.struct fs)) (hf : fs.toList[i]? = some fd) (hp : partB C fd.type cs fd.offset = some a) :
    opB C noRec (.field t x i) f s = some (.v a, s) := by
  rw [opB_P rfl]
  show (pField C f t x i).bind _ = _
  unfold pField
  simp only [h, hu, nthR_eq, hf, hp, Option.bind_some]
theorem o_extract {x : Operand} {i : Nat} {l : List AV} {a : AV} (h : f.ev x = some (.tup l)) (ha : l[i]? = some a) : opB C noRec (.extract x i) f s = some (.v a, s) := by
  rw [opB_P rfl]
  show (pExtract f x i).bind _ = _
  unfold pExtract
  simp only [h, nthR_eq, ha, Option.bind_some]
theorem o_bin {op : BinOp} {t ty : Nat} {x y : Operand} {a b : AV} {r : SV} (ha : f.evA x = some a) (hb : f.evA y = some b) (h : binB C op t a b = some r) : opB C noRec (.binOp op t x y ty) f s = some (.v (.s r), s) := by
  rw [opB_P rfl]
  show (pBin C f op t x y).bind _ = _
  unfold pBin
  simp only [ha, hb, h, Option.bind_some]
theorem o_un {op : UnOp} {t : Nat} {x : Operand} {a r : SV} (ha : f.evS x = some a) (h : unB op a = some r) : opB C noRec (.unOp op t x) f s = some (.v (.s r), s) := by
  rw [opB_P rfl]
  show (pUn f op x).bind _ = _
  unfold pUn
  simp only [ha, h, Option.bind_some]
theorem o_load1 {t id off : Nat} {a : Operand} {v : SV} (h : f.evS a = some (.ptr id off)) (hg : C.agg t = some false) (hl : s.load1 id off = some v) : opB C noRec (.load t a) f s = some (.v (.s v), s) := by
  rw [opB_L rfl]
  show (lLoad C f s t a).bind _ = _
  unfold lLoad
  simp only [h, hg, Option.bind_some, cond_false, hl]
theorem o_loadN {t id off n : Nat} {a : Operand} {l : List SV} (h : f.evS a = some (.ptr id off)) (hg : C.agg t = some true) (hz : C.size t = some n) (hl : s.loadN id off n = some l) : opB C noRec (.load t a) f s = some (.v (.agg l), s) := by
  rw [opB_L rfl]
  show (lLoad C f s t a).bind _ = _
  unfold lLoad
  simp only [h, hg, Option.bind_some, cond_true, hz, hl]
theorem o_store {t id off n : Nat} {a x : Operand} {v : AV} {s' : St} (h : f.evS a = some (.ptr id off)) (hv : f.evA x = some v) (hz : C.size t = some n) (hs : s.storeL id off v.cells = some s') (hn : lenR v.cells = n) :
    opB C noRec (.store t a x) f s = some (undefT, s') := by
  subst hn
  rw [opB_E rfl]
  show eStore C f s t a x = _
  unfold eStore
  have hb : Nat.beq (lenR v.cells) (lenR v.cells) = true := Nat.beq_refl _
  simp only [h, hv, Option.bind_some, hz, hb, cond_true, hs]
theorem o_lenS {c : Call} {t : Nat} {x : Operand} {a : List UInt8} (hc : c.callee = .builtin .len) (ht : c.argTypes.toList.head? = some t) (hx : c.args.toList = [x]) (h : f.evS x = some (.str a)) (hu : C.und t = some .string) :
    opB C noRec (.call c) f s = some (.v (.s (.int .i64 (a.length : Nat))), s) := by
  rw [opB_P (by show kindCall C c = _; unfold kindCall; rw [hc])]
  simp only [opP, hc]
  cases hl : c.argTypes.toList with
  | nil => rw [hl] at ht; cases ht
  | cons u us =>
    rw [hl] at ht
    cases ht
    simp only [pCall, hx, evSs, eachR_cons, h, Option.bind_some, eachR_nil, callP, hu, lenP, lenR_eq]
theorem o_lenL {c : Call} {t e : Nat} {x : Operand} {v : SV} {n : Nat} (hc : c.callee = .builtin .len) (ht : c.argTypes.toList.head? = some t) (hx : c.args.toList = [x]) (h : f.evS x = some v) (hu : C.und t = some (.slice e)) (hv : lenP (.slice e) v = some n) :
    opB C noRec (.call c) f s = some (.v (.s (.int .i64 (n : Nat))), s) := by
  rw [opB_P (by show kindCall C c = _; unfold kindCall; rw [hc])]
  simp only [opP, hc]
  cases hl : c.argTypes.toList with
  | nil => rw [hl] at ht; cases ht
  | cons u us =>
    rw [hl] at ht
    cases ht
    simp only [pCall, hx, evSs, eachR_cons, h, Option.bind_some, eachR_nil, callP, hu, hv]
theorem minMax_one (mx : Bool) (x y : SV) : minMax mx x [y] = (minMax2 mx x y).bind some := rfl
theorem o_min {c : Call} {x y : Operand} {k : IntKind} {m n : Nat} (hc : c.callee = .builtin .min) (hx : c.args.toList = [x, y]) (h : f.evS x = some (.int k (m : Int))) (h' : f.evS y = some (.int k (n : Int))) :
    opB C noRec (.call c) f s = some (.v (.s (.int k ((min m n : Nat) : Int))), s) := by
  rw [opB_P (by show kindCall C c = _; unfold kindCall; rw [hc])]
  simp only [opP, hc, pCall, hx, evSs, eachR_cons, h, h', Option.bind_some, eachR_nil, callP]
  rw [minMax_one]
  unfold minMax2
  simp only [Option.bind_some, cond_false]
  by_cases q : (n : Int) < (m : Int)
  · rw [decide_eq_true q, show min m n = n by omega]; rfl
  · rw [decide_eq_false q, show min m n = m by omega]; rfl
theorem o_max {c : Call} {x y : Operand} {k : IntKind} {m n : Nat} (hc : c.callee = .builtin .max) (hx : c.args.toList = [x, y]) (h : f.evS x = some (.int k (m : Int))) (h' : f.evS y = some (.int k (n : Int))) :
    opB C noRec (.call c) f s = some (.v (.s (.int k ((max m n : Nat) : Int))), s) := by
  rw [opB_P (by show kindCall C c = _; unfold kindCall; rw [hc])]
  simp only [opP, hc, pCall, hx, evSs, eachR_cons, h, h', Option.bind_some, eachR_nil, callP]
  rw [minMax_one]
  unfold minMax2
  simp only [Option.bind_some, cond_true]
  by_cases q : (n : Int) > (m : Int)
  · rw [decide_eq_true q, show max m n = n by omega]; rfl
  · rw [decide_eq_false q, show max m n = m by omega]; rfl

theorem natOfO_none : natOfO f none = some none := rfl
theorem natOfO_some {x : Operand} {k : IntKind} {n : Nat} (h : f.evS x = some (.int k (n : Int))) : natOfO f (some x) = some (some n) := by
  have hn : natOf (.int k (n : Int)) = some n := by simp [natOf]
  simp only [natOfO, h, Option.bind_some, hn]

theorem o_sliceS {t : Nat} {x : Operand} {lo hi : Option Operand} {l h : Option Nat} {a : List UInt8} (hu : C.und t = some .string) (hx : f.evS x = some (.str a)) (hl : natOfO f lo = some l) (hh : natOfO f hi = some h)
    (h1 : h.getD a.length ≤ a.length) (h2 : l.getD 0 ≤ h.getD a.length) : opB C noRec (.slice t x lo hi none) f s = some (.v (.s (.str ((a.drop (l.getD 0)).take (h.getD a.length - l.getD 0)))), s) := by
  rw [opB_P (by show (match C.und t with | some .string => Kd.P | some (.array _ _) => .P | _ => .L) = _; rw [hu])]
  show (pSlice C f t x lo hi none).bind _ = _
  unfold pSlice
  have hb : (Nat.ble (h.getD a.length) a.length && Nat.ble (l.getD 0) (h.getD a.length)) = true := by
    rw [ble_iff.2 h1, ble_iff.2 h2]; rfl
  simp only [hl, hh, natOfO_none, hx, hu, Option.bind_some, Option.isNone_none, cond_true, sliceStr, lenR_eq, hb, takeR_eq, dropR_eq]
theorem o_sliceL {t e n : Nat} {x : Operand} {lo hi : Option Operand} {l h : Option Nat} {v r : SV} (hu : C.und t = some (.slice e)) (hz : C.size e = some n) (hx : f.evS x = some v) (hl : natOfO f lo = some l) (hh : natOfO f hi = some h)
    (hr : sliceL s v n l h = some r) : opB C noRec (.slice t x lo hi none) f s = some (.v (.s r), s) := by
  rw [opB_L (by show (match C.und t with | some .string => Kd.P | some (.array _ _) => .P | _ => .L) = _; rw [hu])]
  show (lSlice C f s t x lo hi none).bind _ = _
  unfold lSlice
  simp only [hl, hh, natOfO_none, hx, hu, Option.bind_some, Option.isNone_none, cond_true, hz, hr]

theorem o_alloc {e : Nat} {z : AV} (hz : C.zero e = some z) : opB C noRec (.alloc e) f s = some (.v (.s (.ptr s.next 0)), { h := s.h.set s.next (boxOf e z), next := s.next + 1 }) := by
  rw [opB_A rfl]
  show ((C.zero e).bind fun z => some (boxOf e z, Mk.ptr)).bind _ = _
  rw [hz]
  rfl
theorem o_box {e : Nat} {x : Operand} {z : AV} (hx : f.evA x = some z) : opB C noRec (.box e x) f s = some (.v (.s (.ptr s.next 0)), { h := s.h.set s.next (boxOf e z), next := s.next + 1 }) := by
  rw [opB_A rfl]
  show ((f.evA x).bind fun z => some (boxOf e z, Mk.ptr)).bind _ = _
  rw [hx]
  rfl
theorem o_buildSlice {t len : Nat} {parts : Array (Nat × Operand)} {ps : List (Nat × AV)} {b : Blk} {sz : Nat} (hp : evParts f parts.toList = some ps) (hb : buildSliceB C t len ps = some (b, .slice sz len)) :
    opB C noRec (.buildSlice t len parts) f s = some (.v (.s (.slice s.next sz 0 len none)), { h := s.h.set s.next b, next := s.next + 1 }) := by
  rw [opB_A rfl]
  show ((evParts f parts.toList).bind fun ps => buildSliceB C t len ps).bind _ = _
  rw [hp]
  show (buildSliceB C t len ps).bind _ = _
  rw [hb]
  rfl
theorem o_append {c : Call} {t u e : Nat} {x y : Operand} {vx vy : SV} {r : SV} {s' : St} (hc : c.callee = .builtin .append) (ht : c.argTypes.toList = [t, u]) (hx : c.args.toList = [x, y])
    (h : f.evS x = some vx) (h' : f.evS y = some vy) (hu : C.und u = some (.slice e) ∨ C.und u = some .string) (hr : appendB C s t vx vy = some (r, s')) : opB C noRec (.call c) f s = some (.v (.s r), s') := by
  rw [opB_E (by show kindCall C c = _; unfold kindCall; rw [hc])]
  show eCall C noRec f s c = _
  simp only [eCall, hc, hx, evSs, eachR_cons, h, h', Option.bind_some, eachR_nil, one, ht, builtinB]
  rcases hu with hu | hu <;> simp only [hu, hr, Option.bind_some]

end

/-! ## Temporaries -/
section
variable {t : T2 TV} {n : Nat} {ms : List Nat} {r : Option Nat} {d e : Nat} {v : TV}
theorem get_same (hd : d < 256) : T2.get (T2.set t d v) d = v := by rw [T2.get_set _ _ _ _ hd hd, if_pos rfl]
theorem get_skip (hd : d < 256) (he : e < 256) (hne : e ≠ d) : T2.get (T2.set t d v) e = T2.get t e := by rw [T2.get_set _ _ _ _ hd he, if_neg hne]
theorem get_same_of {v' : TV} (hd : d < 256) (h : v = v') : T2.get (T2.set t d v) d = v' := (get_same hd).trans h
theorem get_skip_of {v' : TV} (hd : d < 256) (he : e < 256) (hne : e ≠ d) (h : T2.get t e = v') : T2.get (T2.set t d v) e = v' := (get_skip hd he hne).trans h
theorem ev_tmp (hd : Nat.blt d 256 = true) (h : T2.get t d = v) : Fr.ev ⟨t, n, ms, r⟩ (.tmp d) = some v := by simp only [Fr.ev, hd, cond_true, h]
theorem evS_tmp {a : SV} (hd : Nat.blt d 256 = true) (h : T2.get t d = .v (.s a)) : Fr.evS ⟨t, n, ms, r⟩ (.tmp d) = some a := by simp only [Fr.evS, Fr.ev, hd, cond_true, h, Option.bind_some, TV.sv]
theorem evA_tmp {a : AV} (hd : Nat.blt d 256 = true) (h : T2.get t d = .v a) : Fr.evA ⟨t, n, ms, r⟩ (.tmp d) = some a := by simp only [Fr.evA, Fr.ev, hd, cond_true, h, Option.bind_some, TV.av]
theorem put_tmp (hd : Nat.blt d n = true) : Fr.put ⟨t, n, ms, r⟩ (some d) v = some ⟨T2.set t d v, n, ms, r⟩ := by simp only [Fr.put, hd, cond_true]
theorem put_none : Fr.put ⟨t, n, ms, r⟩ none v = some ⟨t, n, ms, r⟩ := rfl
end
end Go.Ev

/- Regions whose reads are looked at anew. -/
namespace Go.Ev

/-- A step: its number, itself, whether what it reads is kept, what is read anew behind it. -/
abbrev HStep := Nat × Oper × Bool × List (Nat × Oper)

noncomputable def PS.step (p : PS) : HStep := (p.r.i, p.r.o, p.keep, p.hs.map fun r => (r.i, r.o))

noncomputable def stillH (C : Ctx) (s : St) (held : Held) : List (Nat × Oper) → Bool
  | [] => true
  | r :: l => (match held.find? (fun h => h.1.beq r.1) with
    | some (_, f, v) => match opL C r.2.op f s with
      | some w => TV.beq v w
      | none => false
    | none => true) && stillH C s held l

theorem stillH_eq (C : Ctx) (s : St) (held : Held) : ∀ l : List RI, stillHeld C s held l = stillH C s held (l.map fun r => (r.i, r.o))
  | [] => rfl
  | r :: l => by
    show (_ && stillHeld C s held l) = (_ && stillH C s held (l.map fun r => (r.i, r.o)))
    rw [stillH_eq C s held l]
    rfl

noncomputable def seqH (C : Ctx) (rec : ExecT) (ops : List Oper) : List HStep → Held → Fr → St → Option (Fr × St)
  | [], _, f, s => some (f, s)
  | (i, o, keep, hs) :: l, held, f, s =>
    (guarded ops f o).bind fun g =>
      cond g
        ((opB C rec o.op f s).bind fun q =>
          cond (stillH C q.2 held hs)
            ((f.put o.dst q.1).bind fun f' => seqH C rec ops l (cond keep ((i, f, q.1) :: held) held) f' q.2) none)
        ((f.put o.dst undefT).bind fun f' => seqH C rec ops l held f' s)

section
variable {C : Ctx} {ops : List Oper}

theorem planB_H {rec : ExecT} : ∀ (ps : List PS) (held : Held) (f : Fr) (s : St), planB C rec ops ps held f s = seqH C rec ops (ps.map PS.step) held f s
  | [], _, _, _ => rfl
  | p :: ps, held, f, s => by
    show (guarded ops f p.r.o).bind _ = (guarded ops f p.r.o).bind _
    congr 1
    funext g
    cases g with
    | false =>
      show (f.put p.r.o.dst undefT).bind _ = (f.put p.r.o.dst undefT).bind _
      congr 1
      funext f'
      exact planB_H ps held f' s
    | true =>
      show (opB C rec p.r.o.op f s).bind _ = (opB C rec p.r.o.op f s).bind _
      congr 1
      funext q
      rw [stillH_eq]
      congr 1
      show (f.put p.r.o.dst q.1).bind _ = (f.put p.r.o.dst q.1).bind _
      congr 1
      funext f'
      exact planB_H ps _ f' q.2

noncomputable def planSteps (C : Ctx) (ops : List Oper) : Option (List (Nat × Bool × List Nat)) := (planOf C ops).map fun l => l.map fun p => (p.r.i, p.keep, p.hs.map fun r => r.i)

noncomputable def stepAt (ops : List Oper) (x : Nat × Bool × List Nat) : HStep := (x.1, ops.getD x.1 default, x.2.1, x.2.2.map fun i => (i, ops.getD i default))

variable (C) in
def HopK (ops : List Oper) (l : List HStep) (held : Held) (f : Fr) (s : St) (K : Fr → St → Prop) : Prop := ∃ f' s', Evt (fun m => seqH C (exec C m) ops l held f s = some (f', s')) ∧ K f' s'

theorem withHeld_in : ∀ (l before : List RI), ∀ p ∈ withHeld l before, p.r ∈ l ∧ ∀ r ∈ p.hs, r ∈ before ∨ r ∈ l
  | [], _, p, hp => by cases hp
  | y :: l, before, p, hp => by
    have hp : p ∈ ((⟨y, Bool.rec false (anyR (fun e => Bool.rec false (Bool.rec true false (has e.am y.i)) e.k.isE) l) y.k.isL,
      Bool.rec [] (filterR (fun x => Bool.rec false (Bool.rec true false (has y.am x.i)) x.k.isL) before) y.k.isE⟩ : PS) :: withHeld l (y :: before)) := hp
    rcases List.mem_cons.1 hp with rfl | hp
    · refine ⟨by simp, fun r hr => .inl ?_⟩
      have hr : r ∈ (Bool.rec [] (filterR (fun x => Bool.rec false (Bool.rec true false (has y.am x.i)) x.k.isL) before) y.k.isE : List RI) := hr
      cases e : y.k.isE with
      | false => rw [e] at hr; cases hr
      | true =>
        rw [e] at hr
        have hr : r ∈ filterR (fun x => Bool.rec false (Bool.rec true false (has y.am x.i)) x.k.isL) before := hr
        rw [filterR_eq] at hr
        exact (List.mem_filter.1 hr).1
    · obtain ⟨h1, h2⟩ := withHeld_in l (y :: before) p hp
      refine ⟨by simp [h1], fun r hr => ?_⟩
      rcases h2 r hr with h | h
      · rcases List.mem_cons.1 h with rfl | h
        · exact .inr (by simp)
        · exact .inl h
      · exact .inr (by simp [h])

theorem CodK.drawnH {f : Fr} {s : St} {id : Nat} {ops : Array Oper} {says : List (Nat × Bool × List Nat)} (hp : planSteps C ops.toList = some says) {l : List HStep} (hl : says.map (stepAt ops.toList) = l)
    {K : Ex → Fr → St → Prop} (h : HopK C ops.toList l [] f s (K .normal)) : CodK C (.region id ops true) f s K := by
  subst hl
  obtain ⟨f', s', h1, h2⟩ := h
  refine ⟨_, f', s', h1.mp fun m hm => ?_, h2⟩
  show (regionB C (exec C m) ops.toList true f s).bind (fun r => some (Ex.normal, r.1, r.2)) = _
  unfold planSteps at hp
  obtain ⟨ps, hps, he⟩ := Option.map_eq_some_iff.1 hp
  obtain ⟨p, rfl, hok⟩ := planOf_ok hps
  have hat : ∀ r ∈ p, ops.toList.getD r.i default = r.o := fun r hr => by
    rw [List.getD_eq_getElem?_getD, (hok.item r hr).here]; rfl
  have hreg : regionB C (exec C m) ops.toList true f s = some (f', s') := by
    show (planOf C ops.toList).bind (fun p => planB C (exec C m) ops.toList p [] f s) = _
    rw [hps, Option.bind_some, planB_H]
    have : (withHeld p []).map PS.step = says.map (stepAt ops.toList) := by
      rw [← he, List.map_map]
      refine List.map_congr_left fun q hq => ?_
      obtain ⟨k1, k2⟩ := withHeld_in p [] q hq
      show PS.step q = stepAt ops.toList (q.r.i, q.keep, q.hs.map fun r => r.i)
      unfold PS.step stepAt
      simp only [List.map_map]
      rw [hat q.r k1]
      congr 3
      refine List.map_congr_left fun r hr => ?_
      have : r ∈ p := by
        rcases k2 r hr with h | h
        · cases h
        · exact h
      show (r.i, r.o) = (r.i, ops.toList.getD r.i default)
      rw [hat r this]
    rw [this]
    exact hm
  rw [hreg]
  rfl

variable {l : List HStep} {held : Held} {f f1 : Fr} {s s1 : St} {o : Oper} {v : TV} {i : Nat} {hs : List (Nat × Oper)} {K : Fr → St → Prop}

theorem HopK.nil (h : K f s) : HopK C ops [] held f s K := ⟨f, s, .all fun _ => rfl, h⟩

theorem HopK.on (hg : guarded ops f o = some true) (ho : opB C noRec o.op f s = some (v, s1)) (hp : f.put o.dst v = some f1) (h : HopK C ops l held f1 s1 K) : HopK C ops ((i, o, false, []) :: l) held f s K := by
  obtain ⟨f', s', h1, h2⟩ := h
  refine ⟨f', s', h1.mp fun m hm => ?_, h2⟩
  have ho := opB_none (rec := exec C m) ho
  unfold seqH
  simp only [hg, Option.bind_some, cond_true, ho, stillH, hp, cond_false]
  exact hm

theorem HopK.keep (hg : guarded ops f o = some true) (ho : opB C noRec o.op f s = some (v, s1)) (hp : f.put o.dst v = some f1) (h : HopK C ops l ((i, f, v) :: held) f1 s1 K) : HopK C ops ((i, o, true, []) :: l) held f s K := by
  obtain ⟨f', s', h1, h2⟩ := h
  refine ⟨f', s', h1.mp fun m hm => ?_, h2⟩
  have ho := opB_none (rec := exec C m) ho
  unfold seqH
  simp only [hg, Option.bind_some, cond_true, ho, stillH, hp]
  exact hm

theorem HopK.anew (hg : guarded ops f o = some true) (ho : opB C noRec o.op f s = some (v, s1)) (hst : stillH C s1 held hs = true) (hp : f.put o.dst v = some f1) (h : HopK C ops l held f1 s1 K) : HopK C ops ((i, o, false, hs) :: l) held f s K := by
  obtain ⟨f', s', h1, h2⟩ := h
  refine ⟨f', s', h1.mp fun m hm => ?_, h2⟩
  have ho := opB_none (rec := exec C m) ho
  unfold seqH
  simp only [hg, Option.bind_some, cond_true, ho, hst, hp, cond_false]
  exact hm

theorem HopK.off (hg : guarded ops f o = some false) (hp : f.put o.dst undefT = some f1) (h : HopK C ops l held f1 s K) {keep : Bool} : HopK C ops ((i, o, keep, hs) :: l) held f s K := by
  obtain ⟨f', s', h1, h2⟩ := h
  refine ⟨f', s', h1.mp fun m hm => ?_, h2⟩
  unfold seqH
  simp only [hg, Option.bind_some, cond_false, hp]
  exact hm

theorem HopK.app (hg : guarded ops f o = some true) {c : Call} (ho : o.op = .call c) {gx : Operand} (hc : c.callee = .value gx) {g : SV} (hgv : f.evS gx = some g) {args : List AV}
    (ha : evAs f c.args.toList = some args) (h : AppK C g args s fun v s1 => stillH C s1 held hs = true ∧ ∃ f1, f.put o.dst v = some f1 ∧ HopK C ops l held f1 s1 K) : HopK C ops ((i, o, false, hs) :: l) held f s K := by
  obtain ⟨v, s1, h1, hst, f1, hp, f', s', h2, h3⟩ := h
  refine ⟨f', s', h1.mp2 h2 fun m hm hk => ?_, h3⟩
  have hop : opB C (exec C m) o.op f s = some (v, s1) := by
    have hkd : kindOf C (.call c) = .E := by show kindCall C c = _; unfold kindCall; rw [hc]
    rw [ho, opB_E hkd]
    show eCall C (exec C m) f s c = _
    unfold eCall
    simp only [hc, hgv, ha, Option.bind_some]
    exact hm
  unfold seqH
  simp only [hg, Option.bind_some, cond_true, hop, hst, hp, cond_false]
  exact hk

end
end Go.Ev

/- Memory, for runs with values that are not known. -/
namespace Go.Ev

section
variable {s s' : St} {id off n sz fz et m : Nat} {c : Ct SV} {ex : Bool} {v : SV} {l : List SV} {b b' : Blk} {i j : Nat} {h : Tr Blk}

theorem get_here : (⟨s.h.set i b, n⟩ : St).h.get i = some b := Tr.get_set_self _ _ _
theorem get_there (hne : j ≠ i) (hg : s.h.get j = some b') : (⟨s.h.set i b, n⟩ : St).h.get j = some b' := (Tr.get_set_ne hne).trans hg
theorem get_here' : (s.put i b).h.get i = some b := Tr.get_set_self _ _ _
theorem get_there' (hne : j ≠ i) (hg : s.h.get j = some b') : (s.put i b).h.get j = some b' := (Tr.get_set_ne hne).trans hg
theorem get_kept (hk : Keeps s s') (hi : i < s.next) (hg : s.h.get i = some b) : s'.h.get i = some b := (hk.get i hi).trans hg

theorem load1_of (hg : s.h.get id = some (.cells n c sz ex fz et)) (hlt : Nat.blt off n = true) (hc : c.get off = some v) : s.load1 id off = some v := by
  unfold St.load1; rw [hg]; simp only [hlt, cond_true, hc]
theorem load1_ro {c : Nat → Option SV} (hg : s.h.get id = some (.ro c)) (hc : c off = some v) : s.load1 id off = some v := by
  unfold St.load1; rw [hg]; exact hc
theorem loadN_of (hg : s.h.get id = some (.cells n c sz ex fz et)) (hc : c.getL n m off = some l) : s.loadN id off m = some l := by
  unfold St.loadN; rw [hg]; exact hc
theorem loadN_ro {c : Nat → Option SV} (hg : s.h.get id = some (.ro c)) (hc : roN c m off = some l) : s.loadN id off m = some l := by
  unfold St.loadN; rw [hg]; exact hc
theorem storeL_of (hg : s.h.get id = some (.cells m c sz ex 0 et)) (hlt : Nat.ble (Nat.add off (lenR l)) m = true) : s.storeL id off l = some (s.put id (.cells m (c.put off l) sz ex 0 et)) := by
  unfold St.storeL; rw [hg]
  have : (Nat.ble (Nat.add off (lenR l)) m && (Nat.ble 0 off || l.isEmpty)) = true := by rw [hlt, ble_iff.2 (Nat.zero_le off)]; rfl
  simp only [this, cond_true]

/-! ## Results -/
theorem res_agg {C : Ctx} {f : Fr} {s : St} {t ty id off n : Nat} {l : List SV} (ht : Nat.blt t 256 = true) (h : T2.get f.t t = .v (.s (.ptr id off))) (hg : C.agg ty = some true) (hz : C.size ty = some n) (hl : s.loadN id off n = some l) :
    resultB f C s (.cell t ty) = some (.agg l) := by
  simp only [resultB, ht, cond_true, h, hg, Option.bind_some, hz, hl]
theorem res_one {C : Ctx} {f : Fr} {s : St} {t ty id off : Nat} {v : SV} (ht : Nat.blt t 256 = true) (h : T2.get f.t t = .v (.s (.ptr id off))) (hg : C.agg ty = some false) (hl : s.load1 id off = some v) :
    resultB f C s (.cell t ty) = some (.s v) := by
  simp only [resultB, ht, cond_true, h, hg, Option.bind_some, cond_false, hl]
theorem res_tmp {C : Ctx} {f : Fr} {s : St} {t : Nat} {a : AV} (ht : Nat.blt t 256 = true) (h : T2.get f.t t = .v a) : resultB f C s (.tmp t) = some a := by
  simp only [resultB, ht, cond_true, h, TV.av]

/-! ## What is read anew -/
theorem l_sliceL {C : Ctx} {f : Fr} {s : St} {t e n : Nat} {x : Operand} {lo hi : Option Operand} {l h : Option Nat} {v r : SV} (hu : C.und t = some (.slice e)) (hz : C.size e = some n) (hx : f.evS x = some v) (hl : natOfO f lo = some l) (hh : natOfO f hi = some h)
    (hr : sliceL s v n l h = some r) : opL C (.slice t x lo hi none) f s = some (.v (.s r)) := by
  show lSlice C f s t x lo hi none = _
  unfold lSlice
  simp only [hl, hh, natOfO_none, hx, hu, Option.bind_some, Option.isNone_none, cond_true, hz, hr]

theorem stillH_one {C : Ctx} {s : St} {i : Nat} {o : Oper} {f : Fr} {v : TV} {held : Held} (h : opL C o.op f s = some v) (hv : TV.beq v v = true) : stillH C s ((i, f, v) :: held) [(i, o)] = true := by
  have hb : Nat.beq i i = true := Nat.beq_refl i
  simp only [stillH, List.find?_cons, hb, h, hv, Bool.and_self]
end

/-! ## Numbers -/
section
variable {C : Ctx} {t : Nat} {k : IntKind} {a b : Int}
theorem b_lss : binB C .lss t (.s (.int k a)) (.s (.int k b)) = some (.bool (decide (a < b))) := by simp [binB, intB]
theorem b_lss_t (h : a < b) : binB C .lss t (.s (.int k a)) (.s (.int k b)) = some (.bool true) := by rw [b_lss, decide_eq_true h]
theorem b_lss_f (h : ¬ a < b) : binB C .lss t (.s (.int k a)) (.s (.int k b)) = some (.bool false) := by rw [b_lss, decide_eq_false h]
theorem b_inc {i : Nat} (h : i < 9223372036854775807) : binB C .add t (.s (.int .i64 (i : Int))) (.s (.int .i64 1)) = some (.int .i64 ((i + 1 : Nat) : Int)) := by
  simp only [binB, intB, decide_true, cond_true]
  rw [wrap_small (by omega) (by omega)]
  simp
end

/-! ## An append of one element to a slice of one's own -/
section
variable {C : Ctx} {s : St} {t e z : Nat} {ti : TypeInfo} {zv : AV} {j id i : Nat} {cc c : Ct SV} {new : List SV}

theorem ap_nil (hu : C.und t = some (.slice e)) (hty : C.ty e = some ti) (hz : ti.size = z) (hb : ti.bytes ≤ 100000) (hzv : C.zero e = some zv) (hl : lenR zv.cells = z) (hz0 : 0 < z)
    (hj : s.h.get j = some (.cells z cc z true 0 e)) (hn : cc.getL z z 0 = some new) :
    appendB C s t .nils (.slice j z 0 1 none) = some (.slice s.next z 0 1 none, ⟨s.h.set s.next (.cells z (.of new) z false 0 e), s.next + 1⟩) := by
  have hlen : lenR new = z := by rw [lenR_eq]; exact (Ct.getL_eq hn).1
  have h1 : (Nat.beq ti.size 0 || !Nat.beq (lenR zv.cells) ti.size) = false := by
    rw [hl, hz, Nat.beq_refl]
    cases z with
    | zero => omega
    | succ n => rfl
  have h2 : (Nat.ble ((2 * 1 + 1000) * ti.bytes) 281474976710656 && Nat.ble 1 1073741824) = true := by
    rw [ble_iff.2 (by omega), ble_iff.2 (by omega)]; rfl
  have hfc : firstC s ti.size 1 (.slice j z 0 1 none) = some new := by
    show cond (z.beq ti.size) (s.loadN j (0 * ti.size) (1 * ti.size)) _ = _
    rw [hz, beq_iff.2 rfl, cond_true, Nat.zero_mul, Nat.one_mul]
    exact loadN_of hj hn
  unfold appendB
  simp only [hu, hty, Option.bind_some, hzv]
  rw [show (ti.size.beq 0 || !(lenR zv.cells).beq ti.size) = false from h1, cond_false]
  simp only [lenV, Option.bind_some, hfc]
  rw [show ((1 : Nat).beq 0) = false from rfl, cond_false, show (((2 * 1 + 1000) * ti.bytes).ble 281474976710656 && (1 : Nat).ble 1073741824) = true from h2, cond_true]
  show some (SV.slice s.next ti.size 0 1 none, (⟨s.h.set s.next (.cells (lenR new) (.of new) ti.size false 0 e), s.next + 1⟩ : St)) = _
  rw [hlen, hz]

theorem ap_more (hu : C.und t = some (.slice e)) (hty : C.ty e = some ti) (hz : ti.size = z) (hb : ti.bytes ≤ 100000) (hzv : C.zero e = some zv) (hl : lenR zv.cells = z) (hz0 : 0 < z)
    (hj : s.h.get j = some (.cells z cc z true 0 e)) (hn : cc.getL z z 0 = some new) (hid : s.h.get id = some (.cells (i * z) c z false 0 e)) (hi : i ≤ 1000000) :
    appendB C s t (.slice id z 0 i none) (.slice j z 0 1 none) = some (.slice s.next z 0 (i + 1) none, ⟨(s.put id .dead).h.set s.next (.cells ((i + 1) * z) (c.put (i * z) new) z false 0 e), s.next + 1⟩) := by
  have hlen : lenR new = z := by rw [lenR_eq]; exact (Ct.getL_eq hn).1
  have h1 : (Nat.beq ti.size 0 || !Nat.beq (lenR zv.cells) ti.size) = false := by
    rw [hl, hz, Nat.beq_refl]
    cases z with
    | zero => omega
    | succ n => rfl
  have h2 : (Nat.ble ((2 * (i + 1) + 1000) * ti.bytes) 281474976710656 && Nat.ble (i + 1) 1073741824 && !Nat.beq 1 0) = true := by
    have : (2 * (i + 1) + 1000) * ti.bytes ≤ 2001002 * 100000 := Nat.mul_le_mul (by omega) hb
    rw [ble_iff.2 (by omega), ble_iff.2 (by omega)]; rfl
  have hfc : firstC s ti.size 1 (.slice j z 0 1 none) = some new := by
    show cond (z.beq ti.size) (s.loadN j (0 * ti.size) (1 * ti.size)) _ = _
    rw [hz, beq_iff.2 rfl, cond_true, Nat.zero_mul, Nat.one_mul]
    exact loadN_of hj hn
  have hk : capK s id z 0 none = none := by
    unfold capK
    rw [hid]
    simp
  have hlow : capLow s id z 0 none = some i := by
    unfold capLow
    rw [hid]
    show cond (z.beq z) (some (i * z / z - 0)) none = some i
    rw [beq_iff.2 rfl, cond_true, Nat.mul_div_cancel _ hz0, Nat.sub_zero]
  have hmv : moved s id z 0 i e new = some (.slice s.next z 0 (i + 1) none, ⟨(s.put id .dead).h.set s.next (.cells ((i + 1) * z) (c.put (i * z) new) z false 0 e), s.next + 1⟩) := by
    unfold moved
    rw [hid]
    have h3 : (Nat.beq z z && Nat.beq e e && Nat.ble 0 ((0 + i) * z) && Nat.ble ((0 + i) * z) (i * z)) = true := by
      rw [Nat.beq_refl, Nat.beq_refl, ble_iff.2 (Nat.zero_le _), ble_iff.2 (by rw [Nat.zero_add]; exact Nat.le_refl _)]; rfl
    have h4 : (Nat.beq 0 0 && Nat.beq (i * z) (i * z)) = true := by rw [Nat.beq_refl, Nat.beq_refl]; rfl
    show cond (z.beq z && e.beq e && Nat.ble 0 ((0 + i) * z) && ((0 + i) * z).ble (i * z)) (cond ((0 : Nat).beq 0 && (i * z).beq (i * z)) _ _) none = _
    rw [show (z.beq z && e.beq e && Nat.ble 0 ((0 + i) * z) && ((0 + i) * z).ble (i * z)) = true from h3, cond_true, show ((0 : Nat).beq 0 && (i * z).beq (i * z)) = true from h4, cond_true]
    show some (SV.slice s.next z 0 (i + lenR new / z) none, (⟨(s.h.set id .dead).set s.next (.cells (Nat.add (i * z) (lenR new)) (c.put (i * z) new) z false 0 e), s.next + 1⟩ : St)) = _
    rw [hlen, Nat.div_self hz0]
    have : Nat.add (i * z) z = (i + 1) * z := by rw [Nat.add_mul, Nat.one_mul]; rfl
    rw [this]
    rfl
  unfold appendB
  simp only [hu, hty, Option.bind_some, hzv]
  rw [show (ti.size.beq 0 || !(lenR zv.cells).beq ti.size) = false from h1, cond_false]
  simp only [lenV, Option.bind_some, hfc]
  rw [hz, beq_iff.2 rfl, cond_true, hk]
  simp only [hlow]
  have h5 : Nat.ble (i + 1) i = false := by
    cases hb : Nat.ble (i + 1) i with
    | false => rfl
    | true => have := ble_iff.1 hb; omega
  rw [show ((i + 1).ble i) = false from h5, cond_false, show (((2 * (i + 1) + 1000) * ti.bytes).ble 281474976710656 && (i + 1).ble 1073741824 && !(1 : Nat).beq 0) = true from h2, cond_true]
  exact hmv
end
end Go.Ev

/- Memory that came in, as the evaluator sees it: blocks that are read alone. -/
namespace Go.Ev
open Go.RowKit

/-- A world; a bound on its rows; how many shapes of rows there are; where a cell of a shape leads to (shape, cells to an element); the cells that the arguments are. -/
structure Foreign where
  W : World
  B : Nat
  T : Nat
  sh : Nat → Nat → Option (Nat × Nat)
  args : List Value
  fits : ∀ (b : Nat) (cs : Array Value) (et : Nat) (fr : Nat × Nat), W.heap[b]? = some (Obj.cells cs et fr) → cs.size ≤ B
  one : ∀ v ∈ args, v.oneCell' = true

namespace Foreign
variable (F : Foreign)

noncomputable def N : Nat := F.W.heap.size
noncomputable def M : Nat := F.N * F.B * F.T
noncomputable def enc (b off e : Nat) : Nat := (b * F.B + off) * F.T + e
noncomputable def blk (id : Nat) : Nat := id / F.T / F.B
noncomputable def off (id : Nat) : Nat := id / F.T % F.B
noncomputable def shp (id : Nat) : Nat := id % F.T

noncomputable def O (k : Nat) : Value :=
  if k < F.N * F.B then
    match F.W.cell? ⟨k / F.B, k % F.B, none⟩ with
    | some v => if v.oneCell' = true then v else .bool true
    | none => .bool true
  else (F.args[k - F.N * F.B]?).getD (.bool true)

theorem plain : Plain F.O := by
  intro k
  unfold O
  split
  · split
    · split
      · assumption
      · rfl
    · rfl
  · cases h : F.args[k - F.N * F.B]? with
    | none => rfl
    | some v => exact F.one v (List.mem_of_getElem? h)

noncomputable def conv (k e i : Nat) (v : Value) : Option SV :=
  match v with
  | .slice (some _a) 0 0 => some (.hollow k)
  | .slice (some ⟨b, o, none⟩) len cap => (F.sh e i).bind fun p => if b < F.N ∧ o < F.B ∧ p.1 < F.T then some (.slice (F.enc b o p.1) p.2 0 len (some cap)) else none
  | .pointer (some ⟨b, o, none⟩) => (F.sh e i).bind fun p => if b < F.N ∧ o < F.B ∧ p.1 < F.T then some (.ptr (F.enc b o p.1) 0) else none
  | v => SV.ofVal v

noncomputable def cellAt (id i : Nat) : Option SV :=
  (F.W.cell? ⟨F.blk id, F.off id + i, none⟩).bind fun v => F.conv (F.blk id * F.B + (F.off id + i)) (F.shp id) i v

noncomputable def blkAt (id : Nat) : Blk :=
  match F.W.heap[F.blk id]? with
  | some (.cells _ _ _) => .ro (F.cellAt id)
  | _ => .dead

noncomputable def st : St := ⟨Tr.ofList ((List.range F.M).map F.blkAt), F.M⟩
noncomputable def rho : Rho := fun id => if id < F.M then some ⟨F.blk id, F.off id, 0⟩ else none

theorem get_st {id : Nat} (h : id < F.M) : F.st.h.get id = some (F.blkAt id) := by
  show (Tr.ofList ((List.range F.M).map F.blkAt)).get id = _
  rw [Tr.get_ofList, List.getElem?_map, List.getElem?_range h]
  rfl

theorem enc_lt {b o e : Nat} (hb : b < F.N) (ho : o < F.B) (he : e < F.T) : F.enc b o e < F.M := by
  have h1 : b * F.B + o < F.N * F.B := by
    have : (b + 1) * F.B ≤ F.N * F.B := Nat.mul_le_mul_right _ hb
    rw [Nat.add_mul, Nat.one_mul] at this
    omega
  have h2 : (b * F.B + o + 1) * F.T ≤ F.N * F.B * F.T := Nat.mul_le_mul_right _ h1
  rw [Nat.add_mul, Nat.one_mul] at h2
  show (b * F.B + o) * F.T + e < F.N * F.B * F.T
  omega

theorem enc_back {b o e : Nat} (ho : o < F.B) (he : e < F.T) : F.blk (F.enc b o e) = b ∧ F.off (F.enc b o e) = o ∧ F.shp (F.enc b o e) = e := by
  have h1 : F.enc b o e / F.T = b * F.B + o := by
    unfold enc
    rw [Nat.add_comm, Nat.add_mul_div_right _ _ (by omega), Nat.div_eq_of_lt he, Nat.zero_add]
  refine ⟨?_, ?_, ?_⟩
  · unfold blk
    rw [h1, Nat.add_comm, Nat.add_mul_div_right _ _ (by omega), Nat.div_eq_of_lt ho, Nat.zero_add]
  · unfold off
    rw [h1, Nat.add_comm, Nat.add_mul_mod_self_right, Nat.mod_eq_of_lt ho]
  · unfold shp enc
    rw [Nat.add_comm, Nat.add_mul_mod_self_right, Nat.mod_eq_of_lt he]

theorem rho_enc {b o e : Nat} (hb : b < F.N) (ho : o < F.B) (he : e < F.T) : F.rho (F.enc b o e) = some ⟨b, o, 0⟩ := by
  unfold rho
  obtain ⟨h1, h2, _⟩ := F.enc_back (b := b) ho he
  rw [if_pos (F.enc_lt hb ho he), h1, h2]

theorem conv_emb {k e i : Nat} {v : Value} {a : SV} (h : F.conv k e i v = some a) (hk : v.oneCell' = true → F.O k = v) : a.emb F.O F.rho = some v := by
  unfold conv at h
  split at h
  · cases h
    simp only [SV.emb]
    rw [hk rfl]
    rfl
  · obtain ⟨p, hp, h⟩ := Option.bind_eq_some_iff.1 h
    split at h
    · rename_i hc
      cases h
      simp only [SV.emb, F.rho_enc hc.1 hc.2.1 hc.2.2, Option.map_some, Nat.zero_mul, Nat.add_zero]
    · cases h
  · obtain ⟨p, hp, h⟩ := Option.bind_eq_some_iff.1 h
    split at h
    · rename_i hc
      cases h
      simp only [SV.emb, ptrE, F.rho_enc hc.1 hc.2.1 hc.2.2, Option.map_some, Nat.add_zero]
    · cases h
  · exact SV.ofVal_emb h

theorem size_le {b o : Nat} {v : Value} (h : F.W.cell? ⟨b, o, none⟩ = some v) : b < F.N ∧ o < F.B := by
  unfold World.cell? at h
  split at h
  · rename_i cs et fr hb
    have h : cs[o]? = some v := h
    have h1 := F.fits b cs et fr hb
    have h2 := (Array.getElem?_eq_some_iff.1 h).1
    exact ⟨(Array.getElem?_eq_some_iff.1 hb).1, by omega⟩
  · cases h

theorem O_cell {b o : Nat} {v : Value} (h : F.W.cell? ⟨b, o, none⟩ = some v) (hv : v.oneCell' = true) : F.O (b * F.B + o) = v := by
  obtain ⟨hb, ho⟩ := F.size_le h
  have h1 : b * F.B + o < F.N * F.B := by
    have : (b + 1) * F.B ≤ F.N * F.B := Nat.mul_le_mul_right _ hb
    rw [Nat.add_mul, Nat.one_mul] at this
    omega
  have h2 : (b * F.B + o) / F.B = b := by rw [Nat.add_comm, Nat.add_mul_div_right _ _ (by omega), Nat.div_eq_of_lt ho, Nat.zero_add]
  have h3 : (b * F.B + o) % F.B = o := by rw [Nat.add_comm, Nat.add_mul_mod_self_right, Nat.mod_eq_of_lt ho]
  unfold O
  rw [if_pos h1, h2, h3, h]
  simp only [hv, if_true]

theorem O_arg {j : Nat} {v : Value} (h : F.args[j]? = some v) : F.O (F.N * F.B + j) = v := by
  unfold O
  rw [if_neg (by omega), show F.N * F.B + j - F.N * F.B = j by omega, h]
  rfl

theorem cell_emb {id i : Nat} {a : SV} (h : F.cellAt id i = some a) : ∃ v, F.W.cell? ⟨F.blk id, F.off id + i, none⟩ = some v ∧ a.emb F.O F.rho = some v := by
  unfold cellAt at h
  obtain ⟨v, hv, h⟩ := Option.bind_eq_some_iff.1 h
  exact ⟨v, hv, F.conv_emb h fun h1 => F.O_cell hv h1⟩

/-- THE EVALUATOR'S STATE STANDS TO THE WORLD. -/
theorem rel : Rel F.O F.N F.rho F.st F.W where
  dom i m h := by
    unfold rho at h
    split at h
    · assumption
    · cases h
  live i b m hi hl hm := by
    exfalso
    unfold rho at hm
    split at hm
    · rename_i hlt
      rw [F.get_st hlt] at hi
      cases hi
      unfold blkAt at hl
      split at hl <;> exact hl
    · cases hm
  inj i j bi bj mi mj hi hl _ _ hm _ _ := by
    exfalso
    unfold rho at hm
    split at hm
    · rename_i hlt
      rw [F.get_st hlt] at hi
      cases hi
      unfold blkAt at hl
      split at hl <;> exact hl
    · cases hm
  size := Nat.le_refl _
  fresh i hi := by
    show (Tr.ofList ((List.range F.M).map F.blkAt)).get i = none
    rw [Tr.get_ofList]
    have : F.M ≤ i := hi
    simp; omega
  ro i c m hi hm := by
    unfold rho at hm
    split at hm
    · rename_i hlt
      cases hm
      rw [F.get_st hlt] at hi
      have hi := Option.some.inj hi
      unfold blkAt at hi
      split at hi
      · rename_i cs et fr hb
        have hc : c = F.cellAt i := by cases hi; rfl
        subst hc
        refine ⟨(Array.getElem?_eq_some_iff.1 hb).1, cs, et, fr, hb, fun j a ha => ?_⟩
        obtain ⟨v, hv, he⟩ := F.cell_emb ha
        refine ⟨v, he, ?_⟩
        rw [cell_of hb] at hv
        exact hv
      · cases hi
    · cases hm

theorem ro_at {b o e : Nat} {cs : Array Value} {et : Nat} {fr : Nat × Nat} (hb : F.W.heap[b]? = some (.cells cs et fr)) (ho : o < F.B) (he : e < F.T) :
    F.enc b o e < F.st.next ∧ F.st.h.get (F.enc b o e) = some (.ro (F.cellAt (F.enc b o e))) := by
  have hlt := F.enc_lt (Array.getElem?_eq_some_iff.1 hb).1 ho he
  refine ⟨hlt, ?_⟩
  rw [F.get_st hlt]
  unfold blkAt
  rw [(F.enc_back ho he).1, hb]

/-- A cell, as it is seen. -/
theorem cellAt_enc {b o e i : Nat} {v : Value} {a : SV} (ho : o < F.B) (he : e < F.T) (hv : F.W.cell? ⟨b, o + i, none⟩ = some v) (h : F.conv (b * F.B + (o + i)) e i v = some a) : F.cellAt (F.enc b o e) i = some a := by
  unfold cellAt
  obtain ⟨h1, h2, h3⟩ := F.enc_back (b := b) ho he
  rw [h1, h2, h3, hv]
  exact h

end Foreign

/-- A bound on the rows of a world. -/
theorem exists_bound (w : World) : ∃ B, ∀ (b : Nat) (cs : Array Value) (et : Nat) (fr : Nat × Nat), w.heap[b]? = some (Obj.cells cs et fr) → cs.size ≤ B := by
  have key : ∀ l : List Obj, ∃ B, ∀ o ∈ l, ∀ (cs : Array Value) (et : Nat) (fr : Nat × Nat), o = Obj.cells cs et fr → cs.size ≤ B := by
    intro l
    induction l with
    | nil => exact ⟨0, fun _ h => by cases h⟩
    | cons o l ih =>
      obtain ⟨B, hB⟩ := ih
      refine ⟨max B (match o with | .cells cs _ _ => cs.size | _ => 0), fun o' ho' cs et fr e => ?_⟩
      rcases List.mem_cons.1 ho' with rfl | ho'
      · subst e; exact Nat.le_max_right _ _
      · exact Nat.le_trans (hB o' ho' cs et fr e) (Nat.le_max_left _ _)
  obtain ⟨B, hB⟩ := key w.heap.toList
  exact ⟨B, fun b cs et fr h => hB _ (by rw [← Array.getElem?_toList] at h; exact List.mem_of_getElem? h) cs et fr rfl⟩

end Go.Ev

