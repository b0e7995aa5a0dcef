/- One frame, in the kit's calculus. -/
import Derived.Test.YtdgccipcandojaaGreatEvC
import Derived.RangeFuncLeaves
import Derived.LoopNIn
import Derived.OrdersIn
import Derived.CallsIn
import Derived.TacticsIn
import Derived.RangeFuncRecord
import Derived.RangeFuncCalls
import Derived.Scope
import Derived.RangeFuncNested
namespace Go.Ev
open Go.RowKit

/-- No fence at all, in a round or in none. -/
def fence (ro : Option Nat) : Fence := { Fence.wide with round := ro }

section
variable {C : Ctx} {O : Nat → Value} {R R' : Rho} {f : Fr} {a : Act} {N : Nat} {s : St} {w : World} {ro : Option Nat}

/-- A frame's marks: its range loops' blocks for deferred calls. -/
def MarksOk (R : Rho) : List Nat → List Deferred → Prop
  | [], [] => True
  | d :: ms, x :: ds => (∃ m, R d = some m ∧ x.target = .collected m.blk) ∧ MarksOk R ms ds
  | _, _ => False

def RndOk (R : Rho) : Option Nat → Option Nat → Prop
  | none, none => True
  | some l, some b => ∃ m, R l = some m ∧ m.blk = b
  | _, _ => False

structure FrOk (O : Nat → Value) (R : Rho) (f : Fr) (a : Act) (ro : Option Nat) : Prop where
  tmps : TmpsOk O R f.t a.tmps
  size : a.tmps.size = f.n
  small : f.n ≤ 256
  marks : MarksOk R f.marks a.defers
  rnd : RndOk R f.rnd ro

theorem MarksOk.mono (h : Le R R') : ∀ {ms : List Nat} {ds : List Deferred}, MarksOk R ms ds → MarksOk R' ms ds
  | [], [], _ => trivial
  | _ :: _, _ :: _, ⟨⟨m, h1, h2⟩, k⟩ => ⟨⟨m, h _ _ h1, h2⟩, k.mono h⟩

theorem RndOk.mono (h : Le R R') {x y : Option Nat} (k : RndOk R x y) : RndOk R' x y := by
  cases x <;> cases y <;> first | exact k | (obtain ⟨m, h1, h2⟩ := k; exact ⟨m, h _ _ h1, h2⟩)

theorem FrOk.mono (h : Le R R') (k : FrOk O R f a ro) : FrOk O R' f a ro := ⟨k.tmps.mono h, k.size, k.small, k.marks.mono h, k.rnd.mono h⟩

/-- The activation as a frame. -/
def asFrame (a : Act) : Frame := { (default : Frame) with tmps := a.tmps }
theorem asFrame_eval (a : Act) : (asFrame a).eval = a.eval := funext fun x => by cases x <;> rfl

theorem FrOk.put (k : FrOk O R f a ro) {d : Option Nat} {v : TV} {f' : Fr} (h : f.put d v = some f') {V : Value} (hv : v.emb O R = some V) : FrOk O R f' (a.put d V) ro := by
  cases d with
  | none => cases h; exact k
  | some d =>
    simp only [Fr.put] at h
    (obtain ⟨g, hh⟩ := cond_some h; clear h; have h := hh; clear hh)
    cases h
    have g := blt_iff.1 g
    refine ⟨fun i hi => ?_, by simp [Act.put, k.size], k.small, k.marks, k.rnd⟩
    show (T2.get (T2.set f.t d v) i).emb O R = some ((a.tmps.setIfInBounds d V).getD i undef)
    rw [T2.get_set _ _ _ _ (Nat.lt_of_lt_of_le g k.small) hi]
    by_cases q : i = d
    · subst q
      rw [if_pos rfl, hv]
      simp [Array.getD, k.size, g]
    · rw [if_neg q, k.tmps i hi]
      simp only [Array.getD_eq_getD_getElem?, Array.getElem?_setIfInBounds, if_neg (fun e => q (Eq.symm e))]

/-- What a guard asks for. -/
theorem guarded_ok (k : FrOk O R f a ro) {ops : Array Oper} {o : Oper} {g : Bool} (h : guarded ops.toList f o = some g) : Region.wanted o (yielded ops a.tmps) = g := by
  unfold guarded at h
  unfold Region.wanted
  split at h
  · rename_i e; rw [e]; cases h; rfl
  · rename_i j want e
    rw [e]
    simp only [nthR_eq, Array.getElem?_toList] at h
    split at h
    · rename_i p hp
      split at h
      · rename_i d hd
        (obtain ⟨q, hh⟩ := cond_some h; clear h; have h := hh; clear hh)
        have q := blt_iff.1 q
        have ht := k.tmps d q
        have hy : yielded ops a.tmps j = match a.tmps[d]? with | some (.bool b) => some b | _ => none := by
          unfold yielded
          rw [hp]
          simp only [Option.bind_some, hd]
          rfl
        show (yielded ops a.tmps j == some want) = g
        rw [hy]
        rw [Array.getD_eq_getD_getElem?] at ht
        split at h
        · rename_i b hb
          rw [hb] at ht
          simp only [TV.emb, AV.emb, SV.emb, Option.some.injEq] at ht
          cases h
          cases hx : a.tmps[d]? with
          | none => rw [hx] at ht; cases ht
          | some V => rw [hx] at ht; simp only [Option.getD_some] at ht; subst ht; cases b <;> cases want <;> rfl
        · cases h
        · rename_i n1 n2
          cases h
          have : ∀ b, a.tmps[d]? ≠ some (.bool b) := fun b hx => by
            rw [hx, Option.getD_some] at ht
            revert ht n1 n2
            generalize T2.get f.t d = y
            intro n1 n2 ht
            cases y with
            | tup l => simp only [TV.emb] at ht; obtain ⟨l', _, e⟩ := Option.map_eq_some_iff.1 ht; cases e
            | v y => cases y with
              | agg l => simp only [TV.emb, AV.emb] at ht; obtain ⟨l', _, e⟩ := Option.map_eq_some_iff.1 ht; cases e
              | s y =>
                have ht : y.emb O R = some (.bool b) := ht
                cases y with
                | bool b => exact n1 b rfl
                | opq n => exact n2 n rfl
                | ptr => obtain ⟨m, _, e⟩ := ptr_emb ht; cases e
                | slice => obtain ⟨m, c, _, e, _⟩ := slice_emb ht; cases e
                | rest => obtain ⟨m, _, e⟩ := rest_emb ht; cases e
                | map => obtain ⟨m, _, e⟩ := Option.map_eq_some_iff.1 ht; cases e
                | yield => obtain ⟨m, _, e⟩ := Option.map_eq_some_iff.1 ht; cases e
                | func =>
                  simp only [SV.emb] at ht
                  obtain ⟨p, _, ht⟩ := Option.bind_eq_some_iff.1 ht
                  obtain ⟨q, _, ht⟩ := Option.bind_eq_some_iff.1 ht
                  cases ht
                | hollow n => simp only [SV.emb] at ht; split at ht <;> cases ht
                | _ => cases ht
          split
          · rename_i b hb; exact absurd hb (this b)
          · rfl
      · cases h
    · cases h

end
end Go.Ev

/- One operation, in the calculus. -/
namespace Go.Ev
open Go.RowKit

section
variable {C : Ctx} {O : Nat → Value} {R R' : Rho} {f : Fr} {a : Act} {N : Nat} {s : St} {w : World} {ro : Option Nat}

theorem semAt_exec {o : Oper} (hd : ∀ c, o.op ≠ .defer c) (ρ : Operand → Value) : Oper.semAt ro ρ o = execOp ρ o := by
  unfold Oper.semAt
  split
  · rename_i c e; exact absurd e (hd c)
  · rfl

/-- An operation that hands back a value, or none. -/
theorem wpIn_of_run {P : Program} {o : Oper} {w' : World} {nx : Next} {V : Value} {K : Act → World → Prop} {Q : Exit → Act → World → Prop} (hd : ∀ c, o.op ≠ .defer c) (h : (execOp a.eval o).run P w = .ok nx w')
    (hv : nx = .value V ∨ (nx = .skip ∧ V = undef)) (hK : K (a.put o.dst V) w') : o.wpIn (fence ro) 0 P a w K Q := by
  refine ⟨fun _ _ => trivial, ?_⟩
  have e : Oper.semAt (fence ro).round a.eval o = execOp a.eval o := semAt_exec hd _
  rw [e, h]
  rcases hv with rfl | ⟨rfl, rfl⟩ <;> exact hK

/-- What a piece of a run has to show: whatever holds of all that it may leave, holds. -/
def Leaves (O : Nat → Value) (N : Nat) (R : Rho) (s : St) (w : World) (s' : St) (v : TV) (K : Value → World → Prop) : Prop :=
  ∀ R' w' V, Fwd R s w R' s' w' → Rel O N R' s' w' → v.emb O R' = some V → K V w'

/-- A call of a function value, as the evaluator makes it. -/
def CallsOk (C : Ctx) (O : Nat → Value) (N : Nat) (rec : ExecT) : Prop :=
  ∀ (o : Oper) (c : Call) (g : Operand) (f : Fr) (s s' : St) (v : TV) (gv : SV) (args : List AV), o.op = .call c → c.callee = .value g → f.evS g = some gv → evAs f c.args.toList = some args → applyB C rec gv args s = some (v, s') →
    ∀ (R : Rho) (w : World) (a : Act) (ro : Option Nat), Rel O N R s w → FrOk O R f a ro → ∀ K Q, Leaves O N R s w s' v (fun V w' => K (a.put o.dst V) w') → o.wpIn (fence ro) 0 C.P a w K Q

theorem op_ok (hC : C.Ok) (hO : Plain O) {rec : ExecT} (hcall : CallsOk C O N rec) {o : Oper} {v : TV} {s' : St} (h : opB C rec o.op f s = some (v, s')) (hr : Rel O N R s w) (hf : FrOk O R f a ro)
    {K : Act → World → Prop} {Q : Exit → Act → World → Prop} (hK : Leaves O N R s w s' v (fun V w' => K (a.put o.dst V) w')) : o.wpIn (fence ro) 0 C.P a w K Q := by
  have hd : ∀ c, o.op ≠ .defer c := fun c e => by rw [e] at h; cases h
  have ht : TmpsOk O R f.t (asFrame a).tmps := hf.tmps
  unfold opB at h
  split at h
  · (obtain ⟨x, hx, hh⟩ := bind_some h; clear h; have h := hh; clear hh)
    cases h
    obtain ⟨V, k1, k2⟩ := opP_ok hC hO ht hx w
    rw [asFrame_eval] at k2
    exact wpIn_of_run hd k2 (.inl rfl) (hK _ _ _ (Fwd.refl _ _ _) hr k1)
  · (obtain ⟨x, hx, hh⟩ := bind_some h; clear h; have h := hh; clear hh)
    cases h
    obtain ⟨V, k1, k2⟩ := opL_ok hC hr ht hx
    rw [asFrame_eval] at k2
    exact wpIn_of_run hd k2 (.inl rfl) (hK _ _ _ (Fwd.refl _ _ _) hr k1)
  · (obtain ⟨p, hp, hh⟩ := bind_some h; clear h; have h := hh; clear hh)
    obtain ⟨b, k⟩ := p
    cases h
    obtain ⟨hlive, obj, cap, V, d, k1, k2, k3⟩ := opA_ok hC hO ht hp w
    rw [asFrame_eval] at k1
    have hb := k2 (upd R s.next ⟨w.heap.size, 0, cap⟩) (le_upd hr.next_none)
    obtain ⟨g1, g2⟩ := alloc_new hr (m := ⟨w.heap.size, 0, cap⟩) (d := d) rfl hb hlive.notRo
    exact wpIn_of_run hd k1 (.inl rfl) (hK _ _ _ g2 g1 (k3 _ _ (upd_self _ _ _)))
  · have fin : ∀ {x : Sem Next}, execOp a.eval o = x → Does O N R C.P x s w v s' → o.wpIn (fence ro) 0 C.P a w K Q := fun e ⟨R', w', V, nx, k1, k2, k3, k4, k5⟩ =>
      wpIn_of_run hd (by rw [e]; exact k1) k2 (hK _ _ _ k5 k4 k3)
    unfold opE at h
    split at h
    · rename_i t x y e
      refine fin (x := do Instr.storeAt t ((asFrame a).eval x) ((asFrame a).eval y); pure .skip) ?_ (eStore_ok hC hO hr ht h rfl)
      rw [asFrame_eval]; unfold execOp; rw [e]
    · rename_i t m k x e
      refine fin (x := do Instr.mapUpdate t ((asFrame a).eval m) ((asFrame a).eval k) ((asFrame a).eval x); pure .skip) ?_ (eMap_ok hC hr ht h rfl)
      rw [asFrame_eval]; unfold execOp; rw [e]
    · rename_i c e
      unfold eCall at h
      split at h
      · rename_i g hg
        (obtain ⟨gv, hgv, hh⟩ := bind_some h; clear h; have h := hh; clear hh)
        (obtain ⟨args, hargs, hh⟩ := bind_some h; clear h; have h := hh; clear hh)
        exact hcall o c g f s s' v gv args e hg hgv hargs h R w a ro hr hf K Q hK
      · rename_i b hb
        (obtain ⟨l, hl, hh⟩ := bind_some h; clear h; have h := hh; clear hh)
        unfold one at h
        (obtain ⟨p, hp, hh⟩ := bind_some h; clear h; have h := hh; clear hh)
        obtain ⟨r, s1⟩ := p
        cases h
        have hl' := evSs_ok ht hl
        rw [asFrame_eval] at hl'
        have := builtinB_ok hC hO hr hp (vs := c.args.map a.eval) (by rw [hl', Array.toList_map]) o.type (c.args.map fun | .const _ => true | _ => false)
        refine fin ?_ this
        unfold execOp
        rw [e]
        simp only [resolve, hb]
        rfl
      · cases h
    · cases h

end
end Go.Ev

/- A region that keeps the text's order. -/
namespace Go.Ev
open Go.RowKit

section
variable {C : Ctx} {O : Nat → Value} {R R' : Rho} {f : Fr} {a : Act} {N : Nat} {s : St} {w : World} {ro : Option Nat}

/-- All that a piece of code may leave: 'K' holds of it. -/
def After (O : Nat → Value) (N : Nat) (R : Rho) (s : St) (w : World) (ro : Option Nat) (f' : Fr) (s' : St) (K : Act → World → Prop) : Prop :=
  ∀ R' w' a', Fwd R s w R' s' w' → Rel O N R' s' w' → FrOk O R' f' a' ro → K a' w'

theorem After.fwd {f' : Fr} {s1 s' : St} {w1 : World} {K : Act → World → Prop} (hK : After O N R s w ro f' s' K) (hf : Fwd R s w R' s1 w1) : After O N R' s1 w1 ro f' s' K :=
  fun R'' w' a' h1 h2 h3 => hK R'' w' a' (hf.trans h1) h2 h3

theorem seq_ok (hC : C.Ok) (hO : Plain O) {rec : ExecT} (hcall : CallsOk C O N rec) {ops : Array Oper} {Q : Exit → Act → World → Prop} : ∀ (l : List Oper) {f f' : Fr} {s s' : St} {R : Rho} {a : Act} {w : World},
    seqB C rec ops.toList l f s = some (f', s') → Rel O N R s w → FrOk O R f a ro → After O N R s w ro f' s' (Q .normal) → wpListIn (fence ro) 0 C.P ops Q l a w
  | [], f, f', s, s', R, a, w, h, hr, hf, hK => by
    cases h
    exact hK R w a (Fwd.refl _ _ _) hr hf
  | o :: l, f, f', s, s', R, a, w, h, hr, hf, hK => by
    have h : (stepB C rec ops.toList o f s).bind (fun r => seqB C rec ops.toList l r.1 r.2) = some (f', s') := h
    (obtain ⟨r, hst, hh⟩ := bind_some h; clear h; have h := hh; clear hh)
    obtain ⟨f1, s1⟩ := r
    unfold stepB at hst
    (obtain ⟨g, hg, hh⟩ := bind_some hst; clear hst; have hst := hh; clear hh)
    have hw := guarded_ok hf hg
    unfold wpListIn
    rw [hw]
    cases g with
    | true =>
      simp only [cond_true] at hst
      (obtain ⟨p, hp, hh⟩ := bind_some hst; clear hst; have hst := hh; clear hh)
      (obtain ⟨f2, hput, hh⟩ := bind_some hst; clear hst; have hst := hh; clear hh)
      obtain ⟨v, s2⟩ := p
      cases hst
      rw [if_pos rfl]
      refine op_ok hC hO hcall hp hr hf fun R' w' V h1 h2 h3 => ?_
      exact seq_ok hC hO hcall l h h2 ((hf.mono h1.le).put hput h3) (hK.fwd h1)
    | false =>
      simp only [cond_false] at hst
      (obtain ⟨f2, hput, hh⟩ := bind_some hst; clear hst; have hst := hh; clear hh)
      cases hst
      rw [if_neg (by simp)]
      exact ⟨fun _ _ => trivial, seq_ok hC hO hcall l h hr (hf.put hput rfl) hK⟩

end
end Go.Ev

/- A call: its frame's end. -/
namespace Go.Ev
open Go.RowKit

section
variable {C : Ctx} {O : Nat → Value} {R R' : Rho} {f : Fr} {a : Act} {N : Nat} {s : St} {w : World} {ro : Option Nat}

def exOf : Ex → Exit
  | .normal => .normal
  | .exit i => .exit i
  | .ret => .ret

/-- The evaluator's word on a piece of code is true. -/
def SoundC (C : Ctx) (O : Nat → Value) (N : Nat) (rec : ExecT) : Prop :=
  ∀ (c : Code) (f : Fr) (s : St) (ex : Ex) (f' : Fr) (s' : St), rec c f s = some (ex, f', s') → ∀ (R : Rho) (w : World) (a : Act) (ro : Option Nat) (Q : Exit → Act → World → Prop),
    Rel O N R s w → FrOk O R f a ro → After O N R s w ro f' s' (Q (exOf ex)) → c.wpIn (fence ro) 0 C.P Q a w

/-- One result. -/
def resS (tmps : Array Value) (x : ResultVar) : Sem Value :=
  match x with
  | .tmp t => pure (tmps.getD t undef)
  | .cell a t => do loadVar t (← asAddr (tmps.getD a undef))

theorem resultB_ok (hC : C.Ok) (hr : Rel O N R s w) {tmps : Array Value} (ht : TmpsOk O R f.t tmps) {x : ResultVar} {v : AV} (h : resultB f C s x = some v) :
    ∃ V, v.emb O R = some V ∧ (resS tmps x).run C.P w = .ok V w := by
  cases x with
  | tmp t =>
    simp only [resultB] at h
    (obtain ⟨g, hh⟩ := cond_some h; clear h; have h := hh; clear hh)
    have := ht t (blt_iff.1 g)
    cases hv : T2.get f.t t with
    | tup l => rw [hv] at h; cases h
    | v y => rw [hv] at h this; cases h; exact ⟨_, this, rfl⟩
  | cell t ty =>
    simp only [resultB] at h
    split at h
    · rename_i id off e
      cases q : Nat.blt t 256 with
      | false => rw [q, cond_false] at e; cases e
      | true =>
        rw [q, cond_true] at e
        have := ht t (blt_iff.1 q)
        rw [e] at this
        obtain ⟨m, hm, ea⟩ := ptr_emb (O := O) this
        (obtain ⟨g, hg, hh⟩ := bind_some h; clear h; have h := hh; clear hh)
        show ∃ V, _ ∧ (do loadVar ty (← asAddr (tmps.getD t undef)) : Sem Value).run C.P w = .ok V w
        rw [ea]
        cases g with
        | true =>
          simp only [cond_true] at h
          (obtain ⟨n, hn, hh⟩ := bind_some h; clear h; have h := hh; clear hh)
          (obtain ⟨l, hl, hh⟩ := bind_some h; clear h; have h := hh; clear hh)
          cases h
          obtain ⟨g1, vs, g2, g3, g4⟩ := loadN_ok hr hl hm
          refine ⟨.agg vs.toArray, by simp [AV.emb, g2], ?_⟩
          have := range_load (C := C) g4
          rw [g3] at this
          simp [asAddr, loadVar, hC.agg hg, hC.sizeOf hn, this]
        | false =>
          simp only [cond_false] at h
          (obtain ⟨x, hx, hh⟩ := bind_some h; clear h; have h := hh; clear hh)
          cases h
          obtain ⟨V, g1, g2⟩ := load1_ok hr hx hm
          exact ⟨V, g1, by simp [asAddr, loadVar, hC.agg hg, g2]⟩
    · cases h

theorem resultsB_ok (hC : C.Ok) (hr : Rel O N R s w) {tmps : Array Value} (ht : TmpsOk O R f.t tmps) : ∀ {l : List ResultVar} {vs : List AV}, resultsB f C s l = some vs →
    ∃ Vs, eachR (AV.emb O R) vs = some Vs ∧ (l.mapM fun x => (resS tmps x)).run C.P w = .ok Vs w
  | [], vs, h => by cases h; exact ⟨[], rfl, rfl⟩
  | x :: l, vs, h => by
    obtain ⟨b, r, h1, h2, rfl⟩ := eachR_cons_some h
    obtain ⟨V, k1, k2⟩ := resultB_ok hC hr ht h1
    obtain ⟨Vs, k3, k4⟩ := resultsB_ok hC hr ht h2
    refine ⟨V :: Vs, eachR_cons_of k1 k3, ?_⟩
    rw [List.mapM_cons, Sem.run_bind, k2, Result.andThen_ok, Sem.run_bind, k4]
    rfl

/-- What a function hands back. -/
theorem results_ok (hC : C.Ok) (hr : Rel O N R s w) {fn : Func} {tmps : Array Value} (ht : TmpsOk O R f.t tmps) {vs : List AV} (h : resultsB f C s fn.results.toList = some vs) :
    ∃ V, (tvOf vs).emb O R = some V ∧ (results fn tmps).run C.P w = .ok V w := by
  obtain ⟨Vs, h1, h2⟩ := resultsB_ok hC hr ht h
  have hm : (fn.results.mapM fun x => (resS tmps x)).run C.P w = .ok Vs.toArray w := by
    rw [Array.mapM_eq_mapM_toList, Sem.run_map, h2]
    rfl
  have hlen := eachR_length h1
  refine ⟨if h : Vs.toArray.size = 1 then Vs.toArray[0] else .tuple Vs.toArray, ?_, ?_⟩
  · cases vs with
    | nil => cases h1; rfl
    | cons x l =>
      obtain ⟨y, ys, k1, k2, rfl⟩ := eachR_cons_some h1
      cases l with
      | nil => cases k2; exact k1
      | cons z l =>
        obtain ⟨u, us, k3, k4, rfl⟩ := eachR_cons_some k2
        rw [dif_neg (by simp)]
        show (eachR (AV.emb O R) (x :: z :: l)).map _ = _
        rw [h1]
        rfl
  · unfold results
    rw [Sem.run_bind]
    exact (congrArg (fun r => Result.andThen r _) hm).trans rfl

/-- The marks are taken: the frame goes. -/
theorem marks_ok (hC : C.Ok) {fn : Func} {tmps : Array Value} {K : Ending → World → Prop} {vs : List AV} : ∀ {ms : List Nat} {ds : List Deferred} {s s' : St} {w : World}, takeMarks s ms = some s' → Rel O N R s w → MarksOk R ms ds →
    TmpsOk O R f.t tmps → resultsB f C s' fn.results.toList = some vs → (∀ w' V, Fwd R s w R s' w' → Rel O N R s' w' → (tvOf vs).emb O R = some V → K (.returned V) w') →
    LeavesInM (fence none) 0 C.P fn tmps K ds .returning w
  | [], [], s, s', w, h, hr, hm, ht, hres, hK => by
    cases h
    obtain ⟨V, k1, k2⟩ := results_ok hC hr ht hres
    exact ⟨V, k2, hK w V (Fwd.refl _ _ _) hr k1⟩
  | d :: ms, x :: ds, s, s', w, h, hr, ⟨⟨m, hR, hx⟩, hm⟩, ht, hres, hK => by
    have h : (takeMark s d).bind (fun s1 => takeMarks s1 ms) = some s' := h
    (obtain ⟨s1, hs1, hh⟩ := bind_some h; clear h; have h := hh; clear hh)
    unfold takeMark at hs1
    split at hs1
    · rename_i hb
      cases hs1
      obtain ⟨h1, h2, h3⟩ := hr.live _ _ _ hb trivial hR
      have h3 : w.heap[m.blk]? = some (.deferred (some [])) := h3
      have hput : (w.putObj m.blk (.deferred none)).heap = w.heap.setIfInBounds m.blk (.deferred none) := rfl
      have hsz : (w.putObj m.blk (.deferred none)).heap.size = w.heap.size := by rw [hput]; simp
      have ho : ∀ k, k ≠ m.blk → (w.putObj m.blk (.deferred none)).heap[k]? = w.heap[k]? := fun k hk => by
        rw [hput, Array.getElem?_setIfInBounds, if_neg (fun e => hk e.symm)]
      have hrel : Rel O N R (s.put d (.deferred true)) (w.putObj m.blk (.deferred none)) := hr.put hb trivial hR hsz ho (by
        show _ = _
        rw [hput, Array.getElem?_setIfInBounds, if_pos rfl, if_pos h1]; rfl)
      have hfwd : Fwd R s w R (s.put d (.deferred true)) (w.putObj m.blk (.deferred none)) := Fwd.put hb trivial hR rfl rfl rfl hsz ho
      refine ⟨by simp, .inl ⟨m.blk, _, hx, run_takeDeferred h3, ?_⟩⟩
      exact marks_ok hC h hrel hm ht hres fun w' V k1 k2 k3 => hK w' V (hfwd.trans k1) k2 k3
    · cases hs1
  | [], _ :: _, _, _, _, _, _, hm, _, _, _ => hm.elim
  | _ :: _, [], _, _, _, _, _, hm, _, _, _ => hm.elim

end
end Go.Ev

/- A call. -/
namespace Go.Ev
open Go.RowKit

/-- What is known of the program's functions. -/
structure Ctx.Good (C : Ctx) : Prop extends C.Ok where
  named : ∀ g fn, C.fs.get g = some fn → (fn.name == "runtime.NumGoroutine") = false
  same : ∀ g fn, C.fs.get g = some fn → fn.body = none → C.ext.get g = some 4 → ∀ (x : Value) (w : World), (callFunc g #[x]).run C.P w = .ok (.value x) w
  made : ∀ g fn t l e, C.fs.get g = some fn → fn.body = none → C.ext.get g = some 5 → fn.resultTypes.toList = t :: l → C.P.underlying t = some (.slice e) → ∀ (n : Nat) (w : World), n ≤ 1073741824 →
    ∃ (cs : Array Value) (d : Nat), n ≤ cs.size ∧ (callFunc g #[.int .i64 n]).run C.P w = .ok (.value (.slice (some ⟨w.heap.size, 0, none⟩) n cs.size)) { w with heap := w.heap.push (.cells cs e), drawn := d }
  mixed : C.P.follows .mixedOrders = true
  stubs : ∀ g v, C.stub.get g = some v → ∃ V, (∀ O R, SV.emb O R v = some V) ∧ ∀ w, Calls C.P g #[] w fun e w' => e = .returned V ∧ Below w.heap.size w w'

section
variable {C : Ctx} {O : Nat → Value} {R R' : Rho} {f : Fr} {a : Act} {N : Nat} {s : St} {w : World} {ro : Option Nat}

/-- A frame at its beginning. -/
theorem frOk_enter {args : List AV} {vals : List Value} (hv : eachR (AV.emb O R) args = some vals) {n : Nat} (hn : max args.length n ≤ 256) :
    FrOk O R { t := T2.put T2.new 0 (args.map TV.v), n := max args.length n, marks := [], rnd := none } { tmps := vals.toArray ++ Array.replicate (n - vals.toArray.size) undef, defers := [] } none := by
  have hl := eachR_length hv
  refine ⟨fun i hi => ?_, by simp; omega, hn, trivial, trivial⟩
  show (T2.get (T2.put T2.new 0 (args.map TV.v)) i).emb O R = some ((vals.toArray ++ Array.replicate (n - vals.toArray.size) undef).getD i undef)
  rw [T2.get_put _ _ _ _ (by rw [List.length_map]; omega) hi, List.length_map, Array.getD_eq_getD_getElem?, Array.getElem?_append]
  by_cases q : i < args.length
  · rw [if_pos (by omega), if_pos (by simp; omega), Nat.sub_zero, List.getElem?_map, List.getElem?_eq_getElem q]
    obtain ⟨V, h1, h2⟩ := eachR_get hv i _ (List.getElem?_eq_getElem q)
    simp only [Option.map_some, Option.getD_some, List.getElem?_toArray, h2]
    exact h1
  · rw [if_neg (by omega), if_neg (by simp; omega), T2.get_new]
    have : ((Array.replicate (n - vals.toArray.size) undef)[i - vals.toArray.size]?).getD undef = undef := by
      rw [Array.getElem?_replicate]; split <;> rfl
    rw [this]
    rfl

/-- Memory that lies as it lay, and more of it. -/
theorem Rel.below {w' : World} (hr : Rel O N R s w) (h : Below w.heap.size w w') : Rel O N R s w' := by
  refine ⟨hr.dom, fun i b m hi hl hm => ?_, hr.inj, Nat.le_trans hr.size h.size, hr.fresh, fun i c m hi hm => ?_⟩
  · obtain ⟨h1, h2, h3⟩ := hr.live i b m hi hl hm
    exact ⟨Nat.lt_of_lt_of_le h1 h.size, h2, by rw [h.block _ h1]; exact h3⟩
  · obtain ⟨h1, h2⟩ := hr.ro i c m hi hm
    exact ⟨h1, by rw [h.block _ (Nat.lt_of_lt_of_le h1 hr.size)]; exact h2⟩

theorem Fwd.below {w' : World} (h : Below w.heap.size w w') : Fwd R s w R s w' :=
  ⟨Le.refl R, h.os, h.tape, h.output, h.size, fun b hb _ => h.block b hb, fun _ h _ => h, Nat.le_refl _, fun _ _ hr => ⟨hr, rfl⟩⟩

/-- A FUNCTION OF THE PROGRAM IS CALLED. -/
theorem callBody_ok (hC : C.Good) {rec : ExecT} (hrec : SoundC C O N rec) {g : Nat} {fn : Func} {body : Code} (hfn : C.fns g = some fn) (hb : fn.body = some body) {args : List AV} {vals : List Value} {v : TV} {s' : St}
    (h : callB C rec g args s = some (v, s')) (hr : Rel O N R s w) (hv : eachR (AV.emb O R) args = some vals) {K : Ending → World → Prop} (hK : Leaves O N R s w s' v (fun V w' => K (.returned V) w')) :
    CallsIn (fence ro) 0 C.P g vals.toArray w K := by
  unfold callB at h
  rw [hfn] at h
  simp only [hb] at h
  cases hst : C.stub.get g with
  | some x =>
    rw [hst] at h
    (obtain ⟨g0, hh⟩ := cond_some h; clear h; have h := hh; clear hh)
    have g0 := beq_iff.1 g0
    rw [lenR_eq] at g0
    cases List.eq_nil_of_length_eq_zero g0
    cases hv
    cases h
    obtain ⟨V, e1, e2⟩ := hC.stubs g x hst
    have fin : CallsIn (fence none) 0 C.P g #[] w K := callsIn_wide.2 ((e2 w).mono fun e w' ⟨h1, h2⟩ => by subst h1; exact hK R w' V (Fwd.below h2) (hr.below h2) (e1 O R))
    cases ro with
    | none => exact fin
    | some l => exact CallsIn.inRound l fin
  | none =>
  rw [hst] at h
  simp only [] at h
  (obtain ⟨g1, hh⟩ := cond_some h; clear h; have h := hh; clear hh)
  have g1 := ble_iff.1 g1
  rw [lenR_eq] at g1
  (obtain ⟨r, hrun, hh⟩ := bind_some h; clear h; have h := hh; clear hh)
  obtain ⟨ex, f', s1⟩ := r
  rw [mapR_eq, lenR_eq] at hrun
  have key : ∀ (s2 : St) (vs : List AV), takeMarks s1 f'.marks = some s2 → resultsB f' C s2 fn.results.toList = some vs → tvOf vs = v → s2 = s' → (ex = .normal ∨ ex = .ret) → CallsIn (fence none) 0 C.P g vals.toArray w K := by
    intro s2 vs k1 k2 k3 k4 hex
    subst k3 k4
    refine callsIn_of_wp_marks (F := fence none) (n := 0) (hC.fn _ _ hfn) hb trivial ?_
    refine hrec body _ s ex f' s1 hrun R w _ none _ hr (frOk_enter hv g1) fun R' w' a' h1 h2 h3 => ?_
    have := marks_ok hC.toOk k1 h2 h3.marks h3.tmps k2 (fun w'' V m1 m2 m3 => hK R' w'' V (h1.trans m1) m2 m3)
    rcases hex with rfl | rfl <;> exact this
  have fin : CallsIn (fence none) 0 C.P g vals.toArray w K := by
    cases ex with
    | exit i => cases h
    | normal =>
      (obtain ⟨s2, k1, hh⟩ := bind_some h; clear h; have h := hh; clear hh)
      (obtain ⟨vs, k2, hh⟩ := bind_some h; clear h; have h := hh; clear hh)
      cases h
      exact key _ _ k1 k2 rfl rfl (.inl rfl)
    | ret =>
      (obtain ⟨s2, k1, hh⟩ := bind_some h; clear h; have h := hh; clear hh)
      (obtain ⟨vs, k2, hh⟩ := bind_some h; clear h; have h := hh; clear hh)
      cases h
      exact key _ _ k1 k2 rfl rfl (.inr rfl)
  cases ro with
  | none => exact fin
  | some l => exact CallsIn.inRound l fin

theorem enter_run (hC : C.Good) {g : Nat} {fn : Func} {body : Code} (hfn : C.fns g = some fn) (hb : fn.body = some body) (args : Array Value) (w : World) : (callFunc g args).run C.P w = .ok (.enter g args) w := by
  have h1 := hC.fn _ _ hfn
  have h2 : ¬ fn.name = "runtime.NumGoroutine" := by simpa using hC.named _ _ hfn
  simp [callFunc, h1, h2, hb]

end
end Go.Ev

/- A round of a range over a function. -/
namespace Go.Ev
open Go.RowKit

section
variable {C : Ctx} {O : Nat → Value} {R R' : Rho} {f : Fr} {a : Act} {N : Nat} {s : St} {w : World} {ro : Option Nat}

theorem foldl_size (l : List (Nat × Value)) : ∀ (tmps : Array Value), (l.foldl (fun (tmps : Array Value) (x : Nat × Value) => tmps.setIfInBounds x.1 x.2) tmps).size = tmps.size := by
  induction l with
  | nil => intro t; rfl
  | cons x l ih => intro t; rw [List.foldl_cons, ih]; simp

theorem params_ok {n : Nat} (hn : n ≤ 256) : ∀ (ps : List Nat) (args : List AV) (vals : List Value) (t : T2 TV) (tmps : Array Value), TmpsOk O R t tmps → tmps.size = n → (∀ p ∈ ps, p < n) → eachR (AV.emb O R) args = some vals → args.length = ps.length →
    TmpsOk O R (paramsR ps args t) ((ps.zip vals).foldl (fun (tmps : Array Value) (x : Nat × Value) => tmps.setIfInBounds x.1 x.2) tmps)
  | [], args, vals, t, tmps, ht, _, _, hv, hl => by
    cases args with
    | nil => exact ht
    | cons _ _ => simp at hl
  | p :: ps, [], vals, t, tmps, ht, _, _, hv, hl => by simp at hl
  | p :: ps, x :: args, vals, t, tmps, ht, hs, hp, hv, hl => by
    obtain ⟨V, vs, h1, h2, rfl⟩ := eachR_cons_some hv
    show TmpsOk O R (paramsR ps args (T2.set t p (.v x))) _
    rw [List.zip_cons_cons, List.foldl_cons]
    have hpn := hp p (by simp)
    refine params_ok hn ps args vs _ _ (fun i hi => ?_) (by simp [hs]) (fun q hq => hp q (by simp [hq])) h2 (by simpa using hl)
    rw [T2.get_set _ _ _ _ (by omega) hi]
    by_cases q : i = p
    · subst q
      rw [if_pos rfl]
      show x.emb O R = _
      rw [h1]
      simp [Array.getD, hs, hpn]
    · rw [if_neg q, ht i hi]
      simp only [Array.getD_eq_getD_getElem?, Array.getElem?_setIfInBounds, if_neg (fun e => q (Eq.symm e))]

/-- A loop's record turns. -/
theorem putLoop (hr : Rel O N R s w) {l : Nat} {L L' : ALoop} (hb : s.h.get l = some (.loop L)) {m : M} (hm : R l = some m) {r r' : Loop} (hw : w.heap[m.blk]? = some (.loop r)) (hok : LoopOk O R L' r') :
    Rel O N R (s.put l (.loop L')) (w.putObj m.blk (.loop r')) ∧ Fwd R s w R (s.put l (.loop L')) (w.putObj m.blk (.loop r')) := by
  have hlt : m.blk < w.heap.size := (Array.getElem?_eq_some_iff.1 hw).1
  have hput : (w.putObj m.blk (.loop r')).heap = w.heap.setIfInBounds m.blk (.loop r') := rfl
  have hsz : (w.putObj m.blk (.loop r')).heap.size = w.heap.size := by rw [hput]; simp
  have ho : ∀ k, k ≠ m.blk → (w.putObj m.blk (.loop r')).heap[k]? = w.heap[k]? := fun k hk => by
    rw [hput, Array.getElem?_setIfInBounds, if_neg (fun e => hk e.symm)]
  refine ⟨hr.put hb trivial hm hsz ho ⟨r', ?_, hok⟩, Fwd.put hb trivial hm rfl rfl rfl hsz ho⟩
  rw [hput, Array.getElem?_setIfInBounds, if_pos rfl, if_pos hlt]

theorem roundB_ok {rec : ExecT} (hrec : SoundC C O N rec) {l : Nat} {args : List AV} {vals : List Value} {v : TV} {s' : St}
    (h : roundB rec l args s = some (v, s')) (hr : Rel O N R s w) (hv : eachR (AV.emb O R) args = some vals) {m : M} (hm : R l = some m) {K : Ending → World → Prop} (hK : Leaves O N R s w s' v (fun V w' => K (.returned V) w')) :
    ∃ f tmps assign body, (Instr.yield m.blk vals.toArray).run C.P w = .ok (.round m.blk f tmps assign body) w ∧ RoundIn (fence ro) 0 C.P m.blk f tmps assign body w K := by
  unfold roundB at h
  split at h
  case h_2 => cases h
  rename_i L hb
  split at h
  case h_2 => cases h
  rename_i hst
  (obtain ⟨g, hh⟩ := cond_some h; clear h; have h := hh; clear hh)
  simp only [Bool.and_eq_true, beq_iff, lenR_eq, List.all_eq_true, blt_iff] at g
  obtain ⟨g1, g2⟩ := g
  (obtain ⟨q, hrun, hh⟩ := bind_some h; clear h; have h := hh; clear hh)
  split at h
  case h_2 => cases h
  rename_i f1 s1
  split at h
  case h_2 => cases h
  rename_i L1 hb1
  split at h
  case h_2 => cases h
  rename_i hst1
  (obtain ⟨q2, hrun2, hh⟩ := bind_some h; clear h; have h := hh; clear hh)
  obtain ⟨ex, f2, s2⟩ := q2
  simp only [] at h
  (obtain ⟨g3, hh⟩ := cond_some h; clear h; have h := hh; clear hh)
  split at h
  case h_2 => cases h
  rename_i L2 hb2
  obtain ⟨_, _, r, hw, hok⟩ := hr.live _ _ _ hb trivial hm
  have hvl := eachR_length hv
  have hps : r.params.size = L.params.length := by rw [← hok.params, Array.length_toList]
  refine ⟨r.fn, _, r.assign, r.body, run_yield hw (by simp; omega), roundIn_of_wpIn trivial ?_⟩
  have hz : (r.params.zip vals.toArray).foldl (fun (tmps : Array Value) (x : Nat × Value) => tmps.setIfInBounds x.1 x.2) r.tmps = (L.params.zip vals).foldl (fun (tmps : Array Value) (x : Nat × Value) => tmps.setIfInBounds x.1 x.2) r.tmps := by
    rw [← Array.foldl_toList, Array.toList_zip, hok.params]
  have hfr : FrOk O R { t := paramsR L.params args L.t, n := L.n, marks := [], rnd := some l } { tmps := (r.params.zip vals.toArray).foldl (fun (tmps : Array Value) (x : Nat × Value) => tmps.setIfInBounds x.1 x.2) r.tmps, defers := [] } (some m.blk) := by
    refine ⟨?_, ?_, hok.small, trivial, ⟨m, hm, rfl⟩⟩
    · show TmpsOk O R _ ((r.params.zip vals.toArray).foldl _ r.tmps)
      rw [hz]
      exact params_ok hok.small _ _ _ _ _ hok.tmps hok.size g2 hv (by omega)
    · show ((r.params.zip vals.toArray).foldl _ r.tmps).size = _
      rw [hz, foldl_size]
      exact hok.size
  rw [hok.assign, hok.body]
  refine hrec L.assign _ s .normal f1 s1 hrun R w _ (some m.blk) _ hr hfr fun R1 w1 a1 h1 h2 h3 => ?_
  have hm1 := h1.le _ _ hm
  obtain ⟨_, _, r1, hw1, hok1⟩ := h2.live _ _ _ hb1 trivial hm1
  have hready : r1.state = .ready := by rw [hok1.state, hst1]; rfl
  obtain ⟨p1, p2⟩ := putLoop h2 hb1 hm1 hw1 (L' := { L1 with state := .busy }) (r' := { r1 with state := .busy }) { hok1 with state := rfl }
  refine ⟨_, run_beginRound hw1 hready, ?_⟩
  refine hrec L.body _ _ ex f2 s2 hrun2 R1 _ a1 (some m.blk) _ p1 h3 fun R2 w2 a2 k1 k2 k3 => ?_
  have hm2 := k1.le _ _ hm1
  obtain ⟨_, _, r2, hw2, hok2⟩ := k2.live _ _ _ hb2 trivial hm2
  have fin : ∀ (j : Option Code) (L' : ALoop) (b : Bool), b = j.isNone → LoopOk O R2 L' { r2 with state := if j.isNone then .ready else .done, pending := j } → some (TV.v (.s (.bool b)), s2.put l (.loop L')) = some (v, s') →
      ∃ v w', (Instr.endRound m.blk j).run C.P w2 = .ok v w' ∧ K (.returned v) w' := by
    intro j L' b e1 e2 e3
    subst e1
    cases e3
    obtain ⟨q1, q2⟩ := putLoop k2 hb2 hm2 hw2 e2
    refine ⟨_, _, run_endRound j hw2, ?_⟩
    exact hK R2 _ (.bool j.isNone) (h1.trans (p2.trans (k1.trans q2))) q1 rfl
  cases ex with
  | normal => exact fin none { L2 with state := .ready, pending := none } true rfl { hok2 with state := rfl, pending := rfl } h
  | ret => exact fin (some .ret) { L2 with state := .done, pending := some .ret } false rfl { hok2 with state := rfl, pending := rfl } h
  | exit i => exact fin (some (.exit i)) { L2 with state := .done, pending := some (.exit i) } false rfl { hok2 with state := rfl, pending := rfl } h

end
end Go.Ev

/- A call of a function value. -/
namespace Go.Ev
open Go.RowKit

section
variable {C : Ctx} {O : Nat → Value} {R R' : Rho} {f : Fr} {a : Act} {N : Nat} {s : St} {w : World} {ro : Option Nat}

theorem ptrA_ok : ∀ {l : List (Nat × Nat)} {vs : List Value}, eachR (ptrE R) l = some vs → eachR (AV.emb O R) (ptrA l) = some vs
  | [], vs, h => by cases h; rfl
  | p :: l, vs, h => by
    obtain ⟨b, r, h1, h2, rfl⟩ := eachR_cons_some h
    show eachR (AV.emb O R) (.s (.ptr p.1 p.2) :: ptrA l) = _
    exact eachR_cons_of h1 (ptrA_ok h2)

/-- A function without a body. -/
theorem extern_ok (hC : C.Good) {g : Nat} {fn : Func} (hfn : C.fns g = some fn) (hb : fn.body = none) {k : Nat} (hk : C.ext.get g = some k) {args : List AV} {vals : List Value} {v : AV} {s' : St}
    (h : externB C s k fn args = some (v, s')) (hr : Rel O N R s w) (hv : eachR (AV.emb O R) args = some vals) :
    ∃ R' w' V, (callFunc g vals.toArray).run C.P w = .ok (.value V) w' ∧ v.emb O R' = some V ∧ Rel O N R' s' w' ∧ Fwd R s w R' s' w' := by
  unfold externB at h
  split at h
  · cases h
    obtain ⟨V, r, h1, h2, rfl⟩ := eachR_cons_some hv
    cases h2
    exact ⟨R, w, V, hC.same g fn hfn hb hk V w, h1, hr, Fwd.refl _ _ _⟩
  · rename_i n
    obtain ⟨V, r, h1, h2, rfl⟩ := eachR_cons_some hv
    cases h2; cases h1
    split at h
    · rename_i t l hts
      split at h
      · rename_i e hu
        (obtain ⟨g1, hh⟩ := cond_some h; clear h; have h := hh; clear hh)
        simp only [Bool.and_eq_true, decide_eq_true_eq] at g1
        cases h
        obtain ⟨m, rfl⟩ : ∃ m : Nat, n = (m : Int) := ⟨n.toNat, by omega⟩
        obtain ⟨cs, d, k1, k2⟩ := hC.made g fn t l e hfn hb hk hts (hC.und hu) m w (by omega)
        have hcell : CellsOk O R ⟨w.heap.size, 0, cs.size⟩ m (.tr .nil) 1 false 0 cs (0, 0) :=
          { cell := fun i v _ hi => (by cases hi), size := (by show 0 + m ≤ _; omega), room := (by show 0 + cs.size * 1 ≤ _; omega), fits := (by show m ≤ cs.size * 1; omega), exact := (fun e => by cases e), cold := fun _ => .inl rfl,
            warm := (fun _ i _ _ q => by (have q : 0 ≤ 0 + i ∧ 0 + i < 0 := q); omega), has := trivial }
        have hb0 : BlkOk O R ⟨w.heap.size, 0, cs.size⟩ (.cells m (.tr .nil) 1 false 0 e) (some (.cells cs e (0, 0))) := ⟨cs, (0, 0), rfl, hcell⟩
        have key := alloc_new hr (m := ⟨w.heap.size, 0, cs.size⟩) (d := d) rfl (hb0.mono (le_upd hr.next_none))
        refine ⟨_, _, _, k2, ?_, key.1, key.2⟩
        have := slice_emb_of (O := O) (id := s.next) (sz := 1) (eo := 0) (len := m) (cp := none) (m := ⟨w.heap.size, 0, cs.size⟩) (c := cs.size) (upd_self R s.next _) (fun k e => by cases e) (fun _ => ⟨rfl, by show 0 + m ≤ cs.size; omega⟩)
        refine this.trans ?_
        simp
      · cases h
    · cases h
  · cases h

theorem resolve_value {ρ : Operand → Value} {c : Call} {g : Operand} (hg : c.callee = .value g) (t : Nat) {fn : Fn} {x y : Array Value} (he : ρ g = .func fn x y) {P : Program} {w : World} :
    (resolve ρ c t).run P w = .ok { target := .fn fn y, args := x ++ c.args.map ρ } w := by
  simp [resolve, hg, he, Deferred.ofValue]

theorem calls_ok (hC : C.Good) {rec : ExecT} (hrec : SoundC C O N rec) : CallsOk C O N rec := by
  intro o c g f s s' v gv args ho hg hgv hargs h R w a ro hr hf K Q hK
  have ht : TmpsOk O R f.t (asFrame a).tmps := hf.tmps
  have hG := evS_ok ht hgv
  have hA := evAs_ok ht hargs
  rw [asFrame_eval] at hG hA
  have hd : ∀ c, o.op ≠ .defer c := fun c e => by rw [e] at ho; cases ho
  have hsem : Oper.semAt (fence ro).round a.eval o = (do let d ← resolve a.eval c o.type; invoke d.target d.args) := by
    rw [semAt_exec hd]; unfold execOp; rw [ho]
  refine ⟨fun _ _ => trivial, ?_⟩
  rw [hsem]
  unfold applyB at h
  split at h
  · rename_i g0 first caps
    simp only [SV.emb] at hG
    (obtain ⟨x, hx, hh⟩ := bind_some hG; clear hG; have hG := hh; clear hh)
    (obtain ⟨y, hy, hh⟩ := bind_some hG; clear hG; have hG := hh; clear hh)
    have hG := Option.some.inj hG
    have hv : eachR (AV.emb O R) (appR (ptrA first) (appR args (ptrA caps))) = some (x ++ (c.args.toList.map a.eval ++ y)) := by
      rw [appR_eq, appR_eq]
      exact eachR_append (ptrA_ok hx) (eachR_append hA (ptrA_ok hy))
    have harr : ((x.toArray ++ c.args.map a.eval) ++ y.toArray : Array Value) = (x ++ (c.args.toList.map a.eval ++ y)).toArray := by
      apply Array.ext'; simp
    rw [Sem.run_bind, resolve_value hg o.type hG.symm, Result.andThen_ok]
    show o.uponIn (fence ro) 0 C.P a K Q ((callFunc g0 ((x.toArray ++ c.args.map a.eval) ++ y.toArray)).run C.P w)
    rw [harr]
    cases hfn : C.fns g0 with
    | none => unfold callB at h; rw [hfn] at h; cases h
    | some fn =>
      cases hb : fn.body with
      | some body =>
        rw [enter_run hC hfn hb]
        refine ⟨fun e => (by cases e), ?_⟩
        exact callBody_ok hC hrec hfn hb h hr hv hK
      | none =>
        unfold callB at h
        rw [hfn] at h
        simp only [hb] at h
        (obtain ⟨k, hk, hh⟩ := bind_some h; clear h; have h := hh; clear hh)
        (obtain ⟨r, hr', hh⟩ := bind_some h; clear h; have h := hh; clear hh)
        obtain ⟨v1, s1⟩ := r
        cases h
        obtain ⟨R', w', V, k1, k2, k3, k4⟩ := extern_ok hC hfn hb hk hr' hr hv
        rw [k1]
        exact hK R' w' V k4 k3 k2
  · rename_i l
    obtain ⟨m, hm, e⟩ := Option.map_eq_some_iff.1 hG
    rw [Sem.run_bind, resolve_value hg o.type e.symm, Result.andThen_ok]
    have harr : (#[] ++ c.args.map a.eval : Array Value) = (c.args.toList.map a.eval).toArray := by
      apply Array.ext'; simp
    show o.uponIn (fence ro) 0 C.P a K Q ((Instr.yield m.blk (#[] ++ c.args.map a.eval)).run C.P w)
    rw [harr]
    obtain ⟨f0, tm, as, bo, k1, k2⟩ := roundB_ok (ro := ro) (K := fun
      | .returned v, w'' => K (a.put o.dst v) w''
      | .panicked chain, w'' => Q (.panic chain) a w''
      | .outgrown, _ => LetsOut Q) hrec h hr hA hm hK
    rw [k1]
    exact ⟨fun e => (by cases e), k2⟩
  · cases h

end
end Go.Ev

/- Code, but for ranges over functions and regions that draw their order. -/
namespace Go.Ev
open Go.RowKit

section
variable {P : Program} {F : Fence} {n : Nat} {b : Frame} {a : Act} {k : List Item} {cs : List Frame} {w : World} {Q : Exit → Act → World → Prop}

theorem stepR_scope {c : Code} : step P (lone (b.atR a (.code (.scope c) :: k)) cs w) = .next (lone (b.atR a (.code c :: .inScope c :: k)) cs w) :=
  step_lone_go (by simp [stepG, stepG.exec, Frame.atR])
theorem stepR_inScope {c : Code} : step P (lone (b.atR a (.inScope c :: k)) cs w) = .next (lone (b.atR a k) cs w) :=
  step_lone_go (by simp [stepG, stepG.exec, Frame.atR])

theorem wpIn_scope {c : Code} (h : c.wpIn F n P (Exit.noGoto Q) a w) : (Code.scope c).wpIn F n P Q a w := by
  intro b k cs hro hb hr
  have h0 : (lone (b.atR a (.code (.scope c) :: k)) cs w).fenced P F := fenced_calm hb hr rfl
  obtain ⟨e, a₁, w₁, hq, harr⟩ := h b (.inScope c :: k) cs hro hb hr
  have s0 : StepsIn (Machine.fenced P F) P (lone (b.atR a (.code (.scope c) :: k)) cs w) (lone (b.atR a (.code c :: .inScope c :: k)) cs w) := .one h0 stepR_scope
  cases e with
  | normal => exact ⟨.normal, a₁, w₁, hq, s0.trans (StepsIn.trans harr (.one (fenced_calm hb hr rfl) stepR_inScope))⟩
  | exit id => exact ⟨.exit id, a₁, w₁, hq, fun k' hk => s0.trans (harr.1 k' (by simp [exitTo, hk])), fun hr' hk => let ⟨k₁, h1, h2⟩ := harr.2 hr' (by simp [exitTo, hk]); ⟨k₁, h1, s0.trans h2⟩⟩
  | goto l => exact hq.elim
  | ret => exact ⟨_, a₁, w₁, hq, .of_steps s0 harr⟩
  | panic ch => exact ⟨_, a₁, w₁, hq, .of_steps s0 harr⟩
  | outgrown => exact ⟨_, a₁, w₁, hq, .of_steps s0 harr⟩
end

section
variable {C : Ctx} {O : Nat → Value} {N : Nat}

def SoundL (C : Ctx) (O : Nat → Value) (N : Nat) (n : Nat) (rec : ExecT) : Prop :=
  ∀ (b : Code) (f : Fr) (s : St) (ex : Ex) (f' : Fr) (s' : St), rec (.loop b) f s = some (ex, f', s') → ∀ (R : Rho) (w : World) (a : Act) (ro : Option Nat) (Q : Exit → Act → World → Prop),
    Rel O N R s w → FrOk O R f a ro → After O N R s w ro f' s' (Q (exOf ex)) → Code.roundsIn (fence ro) 0 C.P b Q n a w

def DrawOk (C : Ctx) (O : Nat → Value) (N : Nat) (rec : ExecT) : Prop :=
  ∀ (id : Nat) (ops : Array Oper) (f : Fr) (s : St) (f' : Fr) (s' : St), regionB C rec ops.toList true f s = some (f', s') → ∀ (R : Rho) (w : World) (a : Act) (ro : Option Nat) (Q : Exit → Act → World → Prop),
    Rel O N R s w → FrOk O R f a ro → After O N R s w ro f' s' (Q .normal) → (Code.region id ops true).wpIn (fence ro) 0 C.P Q a w

def RangeOk (C : Ctx) (O : Nat → Value) (N : Nat) (rec : ExecT) : Prop :=
  ∀ (g : Operand) (ps : Array Nat) (assign body : Code) (f : Fr) (s : St) (ex : Ex) (f' : Fr) (s' : St), rangeB C rec g ps.toList assign body f s = some (ex, f', s') → ∀ (R : Rho) (w : World) (a : Act) (ro : Option Nat) (Q : Exit → Act → World → Prop),
    Rel O N R s w → FrOk O R f a ro → After O N R s w ro f' s' (Q (exOf ex)) → (Code.rangeFunc g ps assign body).wpIn (fence ro) 0 C.P Q a w

theorem code_ok (hC : C.Good) (hO : Plain O) {rec : ExecT} {n : Nat} (hcall : CallsOk C O N rec) (hloop : SoundL C O N n rec) (hdraw : DrawOk C O N rec) (hrange : RangeOk C O N rec) : SoundC C O N (runC C rec) := by
  intro c
  induction c with
  | skip => intro f s ex f' s' h R w a ro Q hr hf hK; cases h; exact wpIn_skip (hK R w a (Fwd.refl _ _ _) hr hf)
  | label l => intro f s ex f' s' h R w a ro Q hr hf hK; cases h; exact wpIn_label (hK R w a (Fwd.refl _ _ _) hr hf)
  | exit id => intro f s ex f' s' h R w a ro Q hr hf hK; cases h; exact wpIn_exit (hK R w a (Fwd.refl _ _ _) hr hf)
  | ret => intro f s ex f' s' h R w a ro Q hr hf hK; cases h; exact wpIn_ret (hK R w a (Fwd.refl _ _ _) hr hf)
  | goto l => intro f s ex f' s' h; cases h
  | refuse why => intro f s ex f' s' h; cases h
  | region id ops draw =>
    intro f s ex f' s' h R w a ro Q hr hf hK
    have h : (regionB C rec ops.toList draw f s).bind (fun r => some (Ex.normal, r.1, r.2)) = some (ex, f', s') := h
    (obtain ⟨r, hreg, hh⟩ := bind_some h; clear h; have h := hh; clear hh)
    obtain ⟨f1, s1⟩ := r
    cases h
    cases draw with
    | true => exact hdraw id ops f s f1 s1 hreg R w a ro Q hr hf hK
    | false => exact wpIn_region_list (seq_ok hC.toOk hO hcall ops.toList hreg hr hf hK)
  | seq x y ihx ihy =>
    intro f s ex f' s' h R w a ro Q hr hf hK
    have h : (runC C rec x f s).bind (fun r => match r with
      | (.normal, f', s') => runC C rec y f' s'
      | (.exit i, f', s') => some (.exit i, f', s')
      | (.ret, f', s') => some (.ret, f', s')) = some (ex, f', s') := h
    (obtain ⟨r, hx, hh⟩ := bind_some h; clear h; have h := hh; clear hh)
    obtain ⟨e1, f1, s1⟩ := r
    refine wpIn_seq (ihx f s e1 f1 s1 hx R w a ro _ hr hf fun R' w' a' h1 h2 h3 => ?_)
    cases e1 with
    | normal => exact ihy f1 s1 ex f' s' h R' w' a' ro Q h2 h3 (hK.fwd h1)
    | exit i => cases h; exact hK R' w' a' h1 h2 h3
    | ret => cases h; exact hK R' w' a' h1 h2 h3
  | cond c x y ihx ihy =>
    intro f s ex f' s' h R w a ro Q hr hf hK
    have h : (match f.evS c with
      | some (.bool true) => runC C rec x f s
      | some (.bool false) => runC C rec y f s
      | _ => none) = some (ex, f', s') := h
    have ht : TmpsOk O R f.t (asFrame a).tmps := hf.tmps
    split at h
    · rename_i e
      have hv := evS_ok ht e
      rw [asFrame_eval] at hv
      exact wpIn_cond_true (Option.some.inj hv).symm (ihx f s ex f' s' h R w a ro Q hr hf hK)
    · rename_i e
      have hv := evS_ok ht e
      rw [asFrame_eval] at hv
      exact wpIn_cond_false (Option.some.inj hv).symm (ihy f s ex f' s' h R w a ro Q hr hf hK)
    · cases h
  | block id x ih =>
    intro f s ex f' s' h R w a ro Q hr hf hK
    have h : (runC C rec x f s).bind (fun r => match r with
      | (.exit i, f', s') => cond (i.beq id) (some (.normal, f', s')) (some (.exit i, f', s'))
      | (.normal, f', s') => some (.normal, f', s')
      | (.ret, f', s') => some (.ret, f', s')) = some (ex, f', s') := h
    (obtain ⟨r, hx, hh⟩ := bind_some h; clear h; have h := hh; clear hh)
    obtain ⟨e1, f1, s1⟩ := r
    refine wpIn_block (ih f s e1 f1 s1 hx R w a ro _ hr hf fun R' w' a' h1 h2 h3 => ?_)
    cases e1 with
    | normal => cases h; exact hK R' w' a' h1 h2 h3
    | ret => cases h; exact hK R' w' a' h1 h2 h3
    | exit i =>
      cases q : i.beq id with
      | true =>
        simp only [q, cond_true] at h
        cases h
        have q := beq_iff.1 q
        subst q
        have := hK R' w' a' h1 h2 h3
        simpa [Exit.inBlock, exOf] using this
      | false =>
        simp only [q, cond_false] at h
        cases h
        have q := beq_false q
        have := hK R' w' a' h1 h2 h3
        simpa [Exit.inBlock, exOf, q] using this
  | loop x ih =>
    intro f s ex f' s' h R w a ro Q hr hf hK
    have h : (runC C rec x f s).bind (fun r => match r with
      | (.normal, f', s') => rec (.loop x) f' s'
      | (.exit i, f', s') => some (.exit i, f', s')
      | (.ret, f', s') => some (.ret, f', s')) = some (ex, f', s') := h
    (obtain ⟨r, hx, hh⟩ := bind_some h; clear h; have h := hh; clear hh)
    obtain ⟨e1, f1, s1⟩ := r
    refine wpIn_loop_rounds (n + 1) ?_
    rw [roundsIn_succ]
    refine ih f s e1 f1 s1 hx R w a ro _ hr hf fun R' w' a' h1 h2 h3 => ?_
    cases e1 with
    | normal => exact hloop x f1 s1 ex f' s' h R' w' a' ro Q h2 h3 (hK.fwd h1)
    | exit i => cases h; exact hK R' w' a' h1 h2 h3
    | ret => cases h; exact hK R' w' a' h1 h2 h3
  | scope x ih =>
    intro f s ex f' s' h R w a ro Q hr hf hK
    refine wpIn_scope (ih f s ex f' s' h R w a ro _ hr hf fun R' w' a' h1 h2 h3 => ?_)
    have := hK R' w' a' h1 h2 h3
    cases ex <;> exact this
  | rangeFunc g ps assign body iha ihb =>
    intro f s ex f' s' h R w a ro Q hr hf hK
    exact hrange g ps assign body f s ex f' s' h R w a ro Q hr hf hK

end
end Go.Ev

/- A range over a function. -/
namespace Go.Ev
open Go.RowKit

section
variable {C : Ctx} {O : Nat → Value} {N : Nat} {R : Rho} {s : St} {w : World}

/-- A block of another kind is made. -/
theorem newBlk (hr : Rel O N R s w) {b : Blk} {o : Obj} (hb : BlkOk O (upd R s.next ⟨w.heap.size, 0, 0⟩) ⟨w.heap.size, 0, 0⟩ b (some o)) (hn : b.notRo := by trivial) :
    Rel O N (upd R s.next ⟨w.heap.size, 0, 0⟩) ⟨s.h.set s.next b, s.next + 1⟩ (w.alloc o) ∧ Fwd R s w (upd R s.next ⟨w.heap.size, 0, 0⟩) ⟨s.h.set s.next b, s.next + 1⟩ (w.alloc o) :=
  alloc_new hr (m := ⟨w.heap.size, 0, 0⟩) (d := w.drawn) rfl hb hn

/-- The loop's record is laid. -/
theorem enter_ok {f : Fr} {a : Act} {ro : Option Nat} (hr : Rel O N R s w) (hf : FrOk O R f a ro) {ps : Array Nat} {assign body : Code} {dl : Nat} {ms' : List Nat} {s1 : St}
    (hq : (match f.rnd with
      | none => some (s.next, s.next :: f.marks, ({ h := s.h.set s.next (.deferred false), next := s.next + 1 } : St))
      | some l => match s.h.get l with
        | some (.loop L) => some (L.defers, f.marks, s)
        | _ => none) = some (dl, ms', s1)) (P : Program) (fnid : Nat) :
    ∃ R1 w1 ml mark, (Instr.enterLoop fnid a.tmps ps assign body ro).run P w = .ok (ml.blk, mark) w1 ∧
      Rel O N R1 { h := s1.h.set s1.next (.loop { state := .ready, pending := none, fn := 0, t := f.t, n := f.n, params := ps.toList, assign := assign, body := body, defers := dl }), next := s1.next + 1 } w1 ∧
      Fwd R s w R1 { h := s1.h.set s1.next (.loop { state := .ready, pending := none, fn := 0, t := f.t, n := f.n, params := ps.toList, assign := assign, body := body, defers := dl }), next := s1.next + 1 } w1 ∧
      R1 s1.next = some ml ∧ MarksOk R1 ms' (mark ++ a.defers) := by
  cases hrnd : f.rnd with
  | none =>
    rw [hrnd] at hq
    cases hq
    have hro : ro = none := by have := hf.rnd; rw [hrnd] at this; cases ro with | none => rfl | some _ => exact this.elim
    subst hro
    have hb1 : BlkOk O (upd R s.next ⟨w.heap.size, 0, 0⟩) ⟨w.heap.size, 0, 0⟩ (.deferred false) (some (.deferred (some []))) := rfl
    obtain ⟨g1, g2⟩ := newBlk hr hb1
    have hb2 : BlkOk O (upd (upd R s.next ⟨w.heap.size, 0, 0⟩) (s.next + 1) ⟨(w.alloc (.deferred (some []))).heap.size, 0, 0⟩) ⟨(w.alloc (.deferred (some []))).heap.size, 0, 0⟩
        (.loop { state := .ready, pending := none, fn := 0, t := f.t, n := f.n, params := ps.toList, assign := assign, body := body, defers := s.next })
        (some (.loop { state := .ready, pending := none, fn := fnid, tmps := a.tmps, params := ps, assign, body, defers := w.heap.size })) :=
      ⟨_, rfl, { state := rfl, pending := rfl, small := hf.small, size := hf.size, tmps := hf.tmps.mono ((le_upd hr.next_none).trans (le_upd g1.next_none)), params := rfl, assign := rfl, body := rfl,
                 defers := ⟨⟨w.heap.size, 0, 0⟩, by rw [upd_ne (show s.next ≠ s.next + 1 by omega), upd_self], rfl⟩ }⟩
    obtain ⟨g3, g4⟩ := newBlk g1 hb2
    refine ⟨_, _, ⟨(w.alloc (.deferred (some []))).heap.size, 0, 0⟩, [{ target := .collected w.heap.size, args := #[] }], ?_, g3, g2.trans g4, upd_self _ _ _, ?_⟩
    · rw [run_enterLoop_outer, World.size_alloc]
    · exact ⟨⟨⟨w.heap.size, 0, 0⟩, by rw [upd_ne (show s.next ≠ s.next + 1 by omega), upd_self], rfl⟩, hf.marks.mono ((le_upd hr.next_none).trans (le_upd g1.next_none))⟩
  | some l =>
    rw [hrnd] at hq
    simp only [] at hq
    split at hq
    case h_2 => cases hq
    rename_i L hb
    cases hq
    have hrd := hf.rnd
    rw [hrnd] at hrd
    cases ro with
    | none => exact hrd.elim
    | some b0 =>
      obtain ⟨m0, hm0, rfl⟩ := hrd
      obtain ⟨_, _, r0, hw0, hok0⟩ := hr.live _ _ _ hb trivial hm0
      obtain ⟨md, hmd, hdd⟩ := hok0.defers
      have hb2 : BlkOk O (upd R s.next ⟨w.heap.size, 0, 0⟩) ⟨w.heap.size, 0, 0⟩
          (.loop { state := .ready, pending := none, fn := 0, t := f.t, n := f.n, params := ps.toList, assign := assign, body := body, defers := L.defers })
          (some (.loop { state := .ready, pending := none, fn := fnid, tmps := a.tmps, params := ps, assign, body, defers := r0.defers })) :=
        ⟨_, rfl, { state := rfl, pending := rfl, small := hf.small, size := hf.size, tmps := hf.tmps.mono (le_upd hr.next_none), params := rfl, assign := rfl, body := rfl,
                   defers := ⟨md, le_upd hr.next_none _ _ hmd, hdd⟩ }⟩
      obtain ⟨g3, g4⟩ := newBlk hr hb2
      refine ⟨_, _, ⟨w.heap.size, 0, 0⟩, [], ?_, g3, g4, upd_self _ _ _, ?_⟩
      · rw [run_enterLoop_inner hw0]
      · exact hf.marks.mono (le_upd hr.next_none)

theorem range_ok (hC : C.Good) {rec : ExecT} (hrec : SoundC C O N rec) : RangeOk C O N rec := by
  intro g ps assign body f s ex f' s' h R w a ro Q hr hf hK
  unfold rangeB at h
  (obtain ⟨gv, hgv, hh⟩ := bind_some h; clear h; have h := hh; clear hh)
  (obtain ⟨hent, hh⟩ := cond_some h; clear h; have h := hh; clear hh)
  (obtain ⟨q, hq, hh⟩ := bind_some h; clear h; have h := hh; clear hh)
  obtain ⟨dl, ms', s1⟩ := q
  simp only [] at h
  (obtain ⟨r, hcall, hh⟩ := bind_some h; clear h; have h := hh; clear hh)
  obtain ⟨v, s3⟩ := r
  have ht : TmpsOk O R f.t (asFrame a).tmps := hf.tmps
  have hG := evS_ok ht hgv
  rw [asFrame_eval] at hG
  -- the function that is ranged over
  unfold entersB at hent
  split at hent
  case h_2 => cases hent
  rename_i g0 first caps
  cases hfn : C.fns g0 with
  | none => rw [hfn] at hent; cases hent
  | some fn =>
    cases hb : fn.body with
    | none => rw [hfn] at hent; simp [hb] at hent
    | some bd =>
      simp only [SV.emb] at hG
      (obtain ⟨x, hx, hh⟩ := bind_some hG; clear hG; have hG := hh; clear hh)
      (obtain ⟨y, hy, hh⟩ := bind_some hG; clear hG; have hG := hh; clear hh)
      have hG := Option.some.inj hG
      refine wpIn_rangeFunc fun fnid _ => ?_
      obtain ⟨R1, w1, ml, mark, e1, r1, f1, m1, mk⟩ := enter_ok (ps := ps) (assign := assign) (body := body) hr hf hq C.P fnid
      have hx1 := eachR_mono (ptrE_mono f1.le) hx
      have hy1 := eachR_mono (ptrE_mono f1.le) hy
      have hyl : eachR (AV.emb O R1) [AV.s (.yield s1.next)] = some [Value.func (.yield ml.blk) #[] #[]] := eachR_cons_of (by simp [AV.emb, SV.emb, m1]) rfl
      have hv : eachR (AV.emb O R1) (appR (ptrA first) (appR [AV.s (.yield s1.next)] (ptrA caps))) = some (x ++ ([Value.func (.yield ml.blk) #[] #[]] ++ y)) := by
        rw [appR_eq, appR_eq]
        exact eachR_append (ptrA_ok hx1) (eachR_append hyl (ptrA_ok hy1))
      have harr : ((x.toArray ++ (rangeCall g ml.blk).args.map a.eval) ++ y.toArray : Array Value) = (x ++ ([Value.func (.yield ml.blk) #[] #[]] ++ y)).toArray := by
        apply Array.ext'; simp [Act.eval]
      refine ⟨ml.blk, mark, w1, _, w1, g0, (x ++ ([Value.func (.yield ml.blk) #[] #[]] ++ y)).toArray, w1, e1, resolve_value (c := rangeCall g ml.blk) rfl 0 hG.symm, fun _ _ => trivial, ?_, fun e => (by cases e), ?_⟩
      · show (callFunc g0 ((x.toArray ++ (rangeCall g ml.blk).args.map a.eval) ++ y.toArray)).run C.P w1 = _
        rw [harr]
        exact enter_run hC hfn hb _ _
      · refine callBody_ok hC hrec hfn hb hcall r1 hv fun R2 w2 V k1 k2 k3 => ?_
        split at h
        case h_2 => cases h
        rename_i L hL
        have hm2 := k1.le _ _ m1
        obtain ⟨_, _, rl, hw2, hok2⟩ := k2.live _ _ _ hL trivial hm2
        have fin : rl.state ≠ .busy → ∀ (ex' : Ex), exOf ex' = exOf ex → (L.pending = none ∧ ex' = .normal ∨ L.pending = some .ret ∧ ex' = .ret ∨ ∃ i, L.pending = some (.exit i) ∧ ex' = .exit i) →
            f' = { f with marks := ms' } → s' = s3.put s1.next (.loop { L with state := .exhausted }) → rangePost (fence ro) 0 C.P ml.blk Q { a with defers := mark ++ a.defers } (.returned V) w2 := by
          intro hnb ex' hex hp e2 e3
          obtain ⟨p1, p2⟩ := putLoop k2 hL hm2 hw2 (L' := { L with state := .exhausted }) (r' := { rl with state := .exhausted }) { hok2 with state := rfl }
          refine ⟨rl.pending, _, run_endLoop hw2 hnb, ?_⟩
          have hfr : FrOk O R2 f' { a with defers := mark ++ a.defers } ro := by
            subst e2
            exact ⟨hf.tmps.mono (f1.le.trans k1.le), hf.size, hf.small, mk.mono k1.le, hf.rnd.mono (f1.le.trans k1.le)⟩
          have hQ : Q (exOf ex) { a with defers := mark ++ a.defers } (w2.putObj ml.blk (.loop { rl with state := .exhausted })) := by
            subst e3
            exact hK R2 _ _ (f1.trans (k1.trans p2)) p1 hfr
          rw [hok2.pending] at hQ ⊢
          rcases hp with ⟨e4, rfl⟩ | ⟨e4, rfl⟩ | ⟨i, e4, rfl⟩
          · rw [e4] at hQ ⊢; rw [← hex] at hQ; exact hQ
          · rw [e4] at hQ ⊢; rw [← hex] at hQ; exact wpIn_ret hQ
          · rw [e4] at hQ ⊢; rw [← hex] at hQ; exact wpIn_exit hQ
        have hst : rl.state = L.state.toGo := hok2.state
        split at h
        · cases h
        · rename_i hnb
          have hnb' : rl.state ≠ .busy := fun e => by
            rw [hst] at e
            cases hL2 : L.state <;> rw [hL2] at e <;> first | (cases e; done) | exact hnb hL2
          split at h
          · rename_i e4; cases h; exact fin hnb' .normal rfl (.inl ⟨e4, rfl⟩) rfl rfl
          · rename_i e4; cases h; exact fin hnb' .ret rfl (.inr (.inl ⟨e4, rfl⟩)) rfl rfl
          · rename_i i e4; cases h; exact fin hnb' (.exit i) rfl (.inr (.inr ⟨i, e4, rfl⟩)) rfl rfl
          · cases h

end
end Go.Ev

/- What regions that draw their order ask of the evaluator. -/
namespace Go.Ev
open Go.RowKit

/-- All blocks of the one are the other's. -/
def Sub (s s' : St) : Prop := ∀ i b, s.h.get i = some b → s'.h.get i = some b

section
variable {C : Ctx} {s s' : St} {f : Fr}

theorem Sub.refl (s : St) : Sub s s := fun _ _ h => h

theorem loadN_mono (hs : Sub s s') {id off n : Nat} {l : List SV} (h : s.loadN id off n = some l) : s'.loadN id off n = some l := by
  unfold St.loadN at *
  split at h
  · rename_i e; rw [hs _ _ e]; exact h
  · rename_i e; rw [hs _ _ e]; exact h
  · cases h

theorem load1_mono (hs : Sub s s') {id off : Nat} {l : SV} (h : s.load1 id off = some l) : s'.load1 id off = some l := by
  unfold St.load1 at *
  split at h
  · rename_i e; rw [hs _ _ e]; exact h
  · rename_i e; rw [hs _ _ e]; exact h
  · cases h

theorem cap_mono (hs : Sub s s') {id sz eo k : Nat} {cp : Option Nat} (h : capLow s id sz eo cp = some k) : capLow s' id sz eo cp = some k ∧ capK s' id sz eo cp = capK s id sz eo cp := by
  unfold capLow capK at *
  split at h
  · exact ⟨h, rfl⟩
  · split at h
    · rename_i e; rw [hs _ _ e]; exact ⟨h, rfl⟩
    · cases h

theorem sliceL_mono (hs : Sub s s') {x r : SV} {n : Nat} {lo hi : Option Nat} (h : sliceL s x n lo hi = some r) : sliceL s' x n lo hi = some r := by
  unfold sliceL at *
  split at h
  · exact h
  · exact h
  · exact h
  · rename_i id sz eo len cp
    (obtain ⟨g, hh⟩ := cond_some h; clear h; have h := hh; clear hh)
    (obtain ⟨low, hl, hh⟩ := bind_some h; clear h; have h := hh; clear hh)
    obtain ⟨h1, h2⟩ := cap_mono hs hl
    rw [g, cond_true, h1, Option.bind_some, h2]
    exact h
  · cases h

theorem convL_mono (hs : Sub s s') {a b : Nat} {x r : SV} (h : convL C s a b x = some r) : convL C s' a b x = some r := by
  unfold convL at *
  split at h
  · rename_i e h1 h2
    split at h
    · rename_i he
      split at h
      · exact h
      · exact h
      · rename_i id z eo len cp
        (obtain ⟨g, hh⟩ := cond_some h; clear h; have h := hh; clear hh)
        (obtain ⟨l, hl, hh⟩ := bind_some h; clear h; have h := hh; clear hh)
        simp only [g, cond_true, loadN_mono hs hl, Option.bind_some]
        exact h
      · cases h
    · cases h
  · split at h
    · exact h
    · (obtain ⟨n, hn, hh⟩ := bind_some h; clear h; have h := hh; clear hh)
      (obtain ⟨g, hh⟩ := cond_none h; clear h; have h := hh; clear hh)
      (obtain ⟨v, hv, hh⟩ := bind_some h; clear h; have h := hh; clear hh)
      simp only [hn, g, cond_false, load1_mono hs hv, Option.bind_some]
      exact h
    · cases h
  · split at h
    · exact h
    · split at h
      · rename_i e; simp only [hs _ _ e]; exact h
      · cases h
    · cases h
  · cases h

/-- A READ STANDS WHERE BLOCKS HAVE COME. -/
theorem opL_mono (hs : Sub s s') {o : Op} {v : TV} (h : opL C o f s = some v) : opL C o f s' = some v := by
  unfold opL at *
  split at h
  · unfold lLoad at *
    split at h
    · (obtain ⟨g, hg, hh⟩ := bind_some h; clear h; have h := hh; clear hh)
      cases g with
      | true =>
        simp only [cond_true] at h
        (obtain ⟨n, hn, hh⟩ := bind_some h; clear h; have h := hh; clear hh)
        (obtain ⟨l, hl, hh⟩ := bind_some h; clear h; have h := hh; clear hh)
        simp only [hg, Option.bind_some, cond_true, hn, loadN_mono hs hl]
        exact h
      | false =>
        simp only [cond_false] at h
        (obtain ⟨x, hx, hh⟩ := bind_some h; clear h; have h := hh; clear hh)
        simp only [hg, Option.bind_some, cond_false, load1_mono hs hx]
        exact h
    · cases h
  · unfold lSlice at *
    (obtain ⟨l, e1, hh⟩ := bind_some h; clear h; have h := hh; clear hh)
    (obtain ⟨u, e2, hh⟩ := bind_some h; clear h; have h := hh; clear hh)
    (obtain ⟨m, e3, hh⟩ := bind_some h; clear h; have h := hh; clear hh)
    (obtain ⟨y, e4, hh⟩ := bind_some h; clear h; have h := hh; clear hh)
    simp only [e1, e2, e3, e4, Option.bind_some]
    split at h
    · (obtain ⟨g, hh⟩ := cond_some h; clear h; have h := hh; clear hh)
      (obtain ⟨n, hn, hh⟩ := bind_some h; clear h; have h := hh; clear hh)
      (obtain ⟨r, hr, hh⟩ := bind_some h; clear h; have h := hh; clear hh)
      simp only [g, cond_true, hn, sliceL_mono hs hr, Option.bind_some]
      exact h
    · cases h
  · unfold lConv at *
    (obtain ⟨x, hx, hh⟩ := bind_some h; clear h; have h := hh; clear hh)
    (obtain ⟨r, hr, hh⟩ := bind_some h; clear h; have h := hh; clear hh)
    simp only [hx, Option.bind_some, convL_mono hs hr]
    exact h
  · split at h
    · exact h
    · cases h
  · cases h

end
end Go.Ev

/- An operation looks at its operands alone. -/
namespace Go.Ev
open Go.RowKit

section
variable {C : Ctx} {f f' : Fr}

def SameOn (f f' : Fr) (l : List Operand) : Prop := ∀ x ∈ l, f.ev x = f'.ev x

theorem SameOn.s {l : List Operand} (h : SameOn f f' l) {x : Operand} (hx : x ∈ l) : f.evS x = f'.evS x := by unfold Fr.evS; rw [h x hx]
theorem SameOn.a {l : List Operand} (h : SameOn f f' l) {x : Operand} (hx : x ∈ l) : f.evA x = f'.evA x := by unfold Fr.evA; rw [h x hx]
theorem SameOn.tail {x : Operand} {l : List Operand} (h : SameOn f f' (x :: l)) : SameOn f f' l := fun y hy => h y (by simp [hy])

theorem SameOn.ss : ∀ {l : List Operand}, SameOn f f' l → evSs f l = evSs f' l
  | [], _ => rfl
  | x :: l, h => by
    have h1 := h.s (x := x) (by simp)
    have h2 := h.tail.ss
    show (f.evS x).bind _ = (f'.evS x).bind _
    rw [h1]
    unfold evSs at h2
    show (f'.evS x).bind (fun b => (eachR f.evS l).bind fun r => some (b :: r)) = (f'.evS x).bind (fun b => (eachR f'.evS l).bind fun r => some (b :: r))
    rw [h2]

theorem SameOn.as : ∀ {l : List Operand}, SameOn f f' l → evAs f l = evAs f' l
  | [], _ => rfl
  | x :: l, h => by
    have h1 := h.a (x := x) (by simp)
    have h2 := h.tail.as
    unfold evAs at h2
    show (f.evA x).bind (fun b => (eachR f.evA l).bind fun r => some (b :: r)) = (f'.evA x).bind (fun b => (eachR f'.evA l).bind fun r => some (b :: r))
    rw [h1, h2]

theorem SameOn.parts : ∀ {l : List (Nat × Operand)}, SameOn f f' (l.map (·.2)) → evParts f l = evParts f' l
  | [], _ => rfl
  | p :: l, h => by
    have h1 := h.a (x := p.2) (by simp)
    have h2 := SameOn.parts (l := l) (fun y hy => h y (by simp at hy ⊢; exact .inr hy))
    unfold evParts at *
    rw [eachR_cons, eachR_cons, h1, h2]

theorem SameOn.o {l : List Operand} (h : SameOn f f' l) {x : Option Operand} (hx : ∀ y, x = some y → y ∈ l) : natOfO f x = natOfO f' x := by
  cases x with
  | none => rfl
  | some y => unfold natOfO; simp only [h.s (hx y rfl)]

theorem opP_same {o : Op} (h : SameOn f f' o.operands.toList) : opP C o f = opP C o f' := by
  cases o <;> simp only [Op.operands] at h <;> simp only [opP]
  case move x => exact h x (by simp)
  case assign x => exact h x (by simp)
  case pick c a b =>
    unfold pPick
    rw [h.s (x := c) (by simp)]
    have ha := h a (by simp)
    have hb := h b (by simp)
    split
    · rename_i t _; cases t <;> assumption
    · rfl
  case build t ps => unfold pBuild; rw [SameOn.parts (by simpa using h)]
  case nilCheck x => unfold pNil; rw [h.s (x := x) (by simp)]
  case binOp op t x y ty => unfold pBin; rw [h.a (x := x) (by simp), h.a (x := y) (by simp)]
  case unOp op t x => unfold pUn; rw [h.s (x := x) (by simp)]
  case convert a b x => unfold pConv; rw [h.s (x := x) (by simp)]
  case makeFunc fn first caps =>
    cases fn <;> simp only []
    unfold pFunc
    rw [SameOn.ss (l := first.toList) (fun y hy => h y (by simp at hy ⊢; exact .inl hy)), SameOn.ss (l := caps.toList) (fun y hy => h y (by simp at hy ⊢; exact .inr hy))]
  case slice t x lo hi mx =>
    unfold pSlice
    rw [h.o (x := lo) (fun y e => by subst e; simp), h.o (x := hi) (fun y e => by subst e; simp), h.o (x := mx) (fun y e => by subst e; simp), h.s (x := x) (by simp)]
  case fieldAddr t x i => unfold pFieldAddr; rw [h.s (x := x) (by simp)]
  case field t x i => unfold pField; rw [h.a (x := x) (by simp)]
  case indexAddr t x ix => unfold pIndexAddr; rw [h.s (x := x) (by simp), h.s (x := ix) (by simp)]
  case index t x ix => unfold pIndex; rw [h.a (x := x) (by simp), h.s (x := ix) (by simp)]
  case extract x i => unfold pExtract; rw [h x (by simp)]
  case call c =>
    split
    · unfold pCall
      rw [SameOn.ss (l := c.args.toList) (fun y hy => h y (by simp [Call.operands] at hy ⊢; exact .inr hy))]
    · rfl

theorem opL_same {o : Op} {s : St} (h : SameOn f f' o.operands.toList) : opL C o f s = opL C o f' s := by
  cases o <;> simp only [Op.operands] at h <;> simp only [opL]
  case load t x => unfold lLoad; rw [h.s (x := x) (by simp)]
  case slice t x lo hi mx =>
    unfold lSlice
    rw [h.o (x := lo) (fun y e => by subst e; simp), h.o (x := hi) (fun y e => by subst e; simp), h.o (x := mx) (fun y e => by subst e; simp), h.s (x := x) (by simp)]
  case convert a b x => unfold lConv; rw [h.s (x := x) (by simp)]
  case call c =>
    split
    · unfold lCall
      rw [SameOn.ss (l := c.args.toList) (fun y hy => h y (by simp [Call.operands] at hy ⊢; exact .inr hy))]
    · rfl

theorem opA_same {o : Op} (h : SameOn f f' o.operands.toList) : opA C o f = opA C o f' := by
  cases o <;> simp only [Op.operands] at h <;> simp only [opA]
  case box e x => rw [h.a (x := x) (by simp)]
  case buildSlice t n ps => rw [SameOn.parts (by simpa using h)]
  case makeSlice t l c => rw [h.s (x := l) (by simp), h.s (x := c) (by simp)]
  case makeMap t r => cases r <;> rfl
  case convert a b x => unfold aConv; rw [h.s (x := x) (by simp)]

theorem opE_same {rec : ExecT} {o : Op} {s : St} (h : SameOn f f' o.operands.toList) : opE C rec o f s = opE C rec o f' s := by
  cases o <;> simp only [Op.operands] at h <;> simp only [opE]
  case store t a x => unfold eStore; rw [h.s (x := a) (by simp), h.a (x := x) (by simp)]
  case mapUpdate t m k v => unfold eMap; rw [h.s (x := m) (by simp), h.s (x := k) (by simp), h.s (x := v) (by simp)]
  case call c =>
    have has := SameOn.as (l := c.args.toList) (fun y hy => h y (by simp [Call.operands] at hy ⊢; exact .inr hy))
    have hss := SameOn.ss (l := c.args.toList) (fun y hy => h y (by simp [Call.operands] at hy ⊢; exact .inr hy))
    unfold eCall
    split
    · rename_i g hg
      rw [h.s (x := g) (by simp [Call.operands, hg]), has]
    · rw [hss]
    · rfl

theorem opB_same {rec : ExecT} {o : Op} {s : St} (h : SameOn f f' o.operands.toList) : opB C rec o f s = opB C rec o f' s := by
  unfold opB
  rw [opP_same h, opL_same h, opA_same h, opE_same h]

end
end Go.Ev

