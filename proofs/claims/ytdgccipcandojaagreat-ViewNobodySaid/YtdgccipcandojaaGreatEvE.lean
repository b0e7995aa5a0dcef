/- Plans of regions that draw their order: what a plan that was found right says. -/
import Derived.Test.YtdgccipcandojaaGreatEvD
namespace Go.Ev
open Go.RowKit

/-! ## Bits -/

theorem has_eq (m n : Nat) : has m n = m.testBit n := by
  show Nat.beq (Nat.land (m >>> n) 1) 1 = (1 &&& (m >>> n) != 0)
  have h1 : Nat.land (m >>> n) 1 = (m >>> n) % 2 := Nat.and_one_is_mod _
  rw [h1, Nat.and_comm, Nat.and_one_is_mod]
  rcases Nat.mod_two_eq_zero_or_one (m >>> n) with h | h <;> rw [h] <;> rfl

theorem has_lor (a b n : Nat) : has (Nat.lor a b) n = (has a n || has b n) := by
  rw [has_eq, has_eq, has_eq]
  exact Nat.testBit_or a b n

theorem has_or (a b n : Nat) : has (a ||| b) n = (has a n || has b n) := has_lor a b n

theorem has_bit (k n : Nat) : has (bit k) n = decide (k = n) := by
  rw [has_eq]
  show (1 <<< k).testBit n = _
  rw [Nat.one_shiftLeft, Nat.testBit_two_pow]

theorem has_zero (n : Nat) : has 0 n = false := by rw [has_eq, Nat.zero_testBit]

theorem has_of_land {a b : Nat} (h : Nat.beq (Nat.land a b) a = true) {n : Nat} (hn : has a n = true) : has b n = true := by
  have h : a &&& b = a := Nat.eq_of_beq_eq_true h
  rw [has_eq] at *
  rw [← h, Nat.testBit_and, Bool.and_eq_true] at hn
  exact hn.2

theorem has_predMask (l : List Edge) (k : Nat) : has (predMask l) k = true ↔ ∃ e ∈ l, Region.binds .any e = true ∧ e.on = k := by
  induction l with
  | nil =>
    show has 0 k = true ↔ _
    simp [has_zero]
  | cons e l ih =>
    show has (Bool.rec (predMask l) (Nat.lor (bit e.on) (predMask l)) (Region.binds .any e)) k = true ↔ _
    cases hb : Region.binds .any e with
    | false => simp [ih, hb]
    | true => simp [has_or, has_bit, ih, hb]

theorem has_ancMask (done : List RI) (l : List Edge) (k : Nat) : has (ancMask done l) k = true ↔ ∃ e ∈ l, Region.binds .any e = true ∧ (e.on = k ∨ has (amOf done e.on) k = true) := by
  induction l with
  | nil =>
    show has 0 k = true ↔ _
    simp [has_zero]
  | cons e l ih =>
    show has (Bool.rec (ancMask done l) (Nat.lor (bit e.on) (Nat.lor (amOf done e.on) (ancMask done l))) (Region.binds .any e)) k = true ↔ _
    cases hb : Region.binds .any e with
    | false => simp [ih, hb]
    | true => simp [has_or, has_bit, ih, hb, or_assoc]

/-! ## The region's items -/

/-- Nothing of it waits for anything beside it. -/
def Closed (ops : List Oper) (D : Nat → Prop) : Prop := ∀ i, D i → ∀ o, ops[i]? = some o → ∀ e ∈ o.after.toList, Region.binds .any e = true → D e.on

structure ItemOk (C : Ctx) (ops : List Oper) (r : RI) : Prop where
  here : ops[r.i]? = some r.o
  kind : r.k = kindOf C r.o.op
  pred : r.pm = predMask r.o.after.toList
  anc : ∀ D : Nat → Prop, Closed ops D → (∀ e ∈ r.o.after.toList, Region.binds .any e = true → D e.on) → ∀ x, has r.am x = true → D x

theorem amOf_some {done : List RI} {i x : Nat} (h : has (amOf done i) x = true) : ∃ r ∈ done, r.i = i ∧ has r.am x = true := by
  unfold amOf at h
  rw [findR_eq] at h
  cases hf : done.find? (fun r => Nat.beq r.i i) with
  | none => rw [hf] at h; exact absurd h (by show has 0 x ≠ true; rw [has_zero]; simp)
  | some r =>
    rw [hf] at h
    exact ⟨r, List.mem_of_find?_eq_some hf, Nat.eq_of_beq_eq_true (by simpa using List.find?_some hf), h⟩

theorem itemsFrom_ok {C : Ctx} : ∀ (l pre : List Oper) (done : List RI), (∀ r ∈ done, ItemOk C (pre ++ l) r) → ∀ r ∈ itemsFrom C l pre.length done, ItemOk C (pre ++ l) r
  | [], pre, done, h => h
  | o :: l, pre, done, h => by
    intro r hr
    have hr : r ∈ itemsFrom C l (pre.length + 1) (⟨pre.length, o, kindOf C o.op, predMask o.after.toList, ancMask done o.after.toList⟩ :: done) := hr
    have e : pre ++ o :: l = (pre ++ [o]) ++ l := by simp
    have e2 : pre.length + 1 = (pre ++ [o]).length := by simp
    rw [e2] at hr
    rw [e] at h ⊢
    refine itemsFrom_ok l (pre ++ [o]) _ (fun r' hr' => ?_) r hr
    rcases List.mem_cons.1 hr' with rfl | hr'
    · refine ⟨by simp, rfl, rfl, fun D hD hp x hx => ?_⟩
      obtain ⟨e, he, hb, hx⟩ := (has_ancMask _ _ _).1 hx
      have hDe := hp e he hb
      rcases hx with rfl | hx
      · exact hDe
      · obtain ⟨r, hr, hi, hx⟩ := amOf_some hx
        have hk := h r hr
        exact hk.anc D hD (fun e' he' hb' => hD e.on hDe r.o (by rw [← hi]; exact hk.here) e' he' hb') x hx
    · exact h r' hr'

theorem items_ok {C : Ctx} {ops : List Oper} : ∀ r ∈ items C ops, ItemOk C ops r := by
  intro r hr
  unfold items at hr
  rw [revR_eq] at hr
  simp only [List.append_nil, List.mem_reverse] at hr
  exact itemsFrom_ok (C := C) ops [] [] (fun _ h => by cases h) r hr

/-! ## A plan is made of items -/

theorem sweep_mem {Q : RI → Prop} : ∀ (l : List RI) (taken : Nat) (acc : List RI), (∀ r ∈ l, Q r) → (∀ r ∈ acc, Q r) → ∀ r ∈ (sweep l taken acc).2, Q r
  | [], _, acc, _, ha => ha
  | r :: l, taken, acc, hl, ha => by
    have e : sweep (r :: l) taken acc = (Bool.rec (sweep l taken acc) (sweep l (Nat.lor taken (bit r.i)) (r :: acc)) (Bool.rec false (ready taken r) r.k.quiet : Bool) : Nat × List RI) := rfl
    rw [e]
    have hl' : ∀ r ∈ l, Q r := fun x hx => hl x (by simp [hx])
    cases (Bool.rec false (ready taken r) r.k.quiet : Bool) with
    | false => exact sweep_mem l taken acc hl' ha
    | true => exact sweep_mem l _ _ hl' (fun x hx => by
        rcases List.mem_cons.1 hx with rfl | hx
        · exact hl x (by simp)
        · exact ha x hx)

theorem planFrom_mem {Q : RI → Prop} : ∀ (n : Nat) (l : List RI) (taken : Nat) (acc acc' : List RI), (∀ r ∈ l, Q r) → (∀ r ∈ acc, Q r) → planFrom n l taken acc = some acc' → ∀ r ∈ acc', Q r
  | 0, _, _, _, _, _, _, h => by cases h
  | n + 1, l, taken, acc, acc', hl, ha, h => by
    have e : planFrom (n + 1) l taken acc = (Prod.rec (motive := fun _ => Option (List RI)) (fun taken acc =>
      Option.rec (motive := fun _ => Option (List RI))
        (Option.rec (motive := fun _ => Option (List RI)) (some acc) (fun r => planFrom n l (Nat.lor taken (bit r.i)) (r :: acc))
          (findR (fun r => Bool.rec false (ready taken r) r.k.isE) l))
        (fun r => planFrom n l (Nat.lor taken (bit r.i)) (r :: acc))
        (findR (fun r => Bool.rec false (ready taken r) r.k.isA) l)) (sweep l taken acc)) := rfl
    rw [e] at h
    have hs := sweep_mem l taken acc hl ha
    generalize sweep l taken acc = p at *
    obtain ⟨t, ac⟩ := p
    simp only [] at h hs
    have step : ∀ r, r ∈ l → planFrom n l (Nat.lor t (bit r.i)) (r :: ac) = some acc' → ∀ r ∈ acc', Q r := fun r hr h =>
      planFrom_mem n l _ _ acc' hl (fun x hx => by
        rcases List.mem_cons.1 hx with rfl | hx
        · exact hl x hr
        · exact hs x hx) h
    rw [findR_eq, findR_eq] at h
    cases h1 : l.find? (fun r => Bool.rec false (ready t r) r.k.isA) with
    | some r => rw [h1] at h; exact step r (List.mem_of_find?_eq_some h1) h
    | none =>
      rw [h1] at h
      cases h2 : l.find? (fun r => Bool.rec false (ready t r) r.k.isE) with
      | some r => rw [h2] at h; exact step r (List.mem_of_find?_eq_some h2) h
      | none => rw [h2] at h; cases h; exact hs

theorem rec_true {a b : Bool} (h : (Bool.rec false a b : Bool) = true) : b = true ∧ a = true := by
  cases b
  · cases h
  · exact ⟨rfl, h⟩

structure PlanOk (C : Ctx) (ops : List Oper) (p : List RI) : Prop where
  item : ∀ r ∈ p, ItemOk C ops r
  len : p.length = ops.length
  topo : topoOk p 0 = true
  temps : tempsOk ops p p = true
  chain : chainOk p p [] = true

theorem planOf_ok {C : Ctx} {ops : List Oper} {ps : List PS} (h : planOf C ops = some ps) : ∃ p, ps = withHeld p [] ∧ PlanOk C ops p := by
  unfold planOf at h
  (obtain ⟨acc, hacc, hh⟩ := bind_some h; clear h; have h := hh; clear hh)
  have hm := planFrom_mem (Q := ItemOk C ops) _ _ _ _ _ items_ok (fun _ h => by cases h) hacc
  rw [revR_eq] at h
  simp only [List.append_nil] at h
  cases hp : planOk ops acc.reverse with
  | false => rw [hp] at h; cases h
  | true =>
    rw [hp] at h
    cases h
    unfold planOk at hp
    obtain ⟨h1, hp⟩ := rec_true hp
    obtain ⟨h2, hp⟩ := rec_true hp
    obtain ⟨h3, hp⟩ := rec_true hp
    exact ⟨_, rfl, fun r hr => hm r (by simpa using hr), by have := Nat.eq_of_beq_eq_true h1; rwa [lenR_eq, lenR_eq] at this, h2, h3, hp⟩

/-! ## What the checks say, place by place -/

theorem topo_spec : ∀ (l : List RI) (taken : Nat), topoOk l taken = true → ∀ (k : Nat) (r : RI), l[k]? = some r →
    has taken r.i = false ∧ (∀ j r', j < k → l[j]? = some r' → r'.i ≠ r.i) ∧ ∀ x, has r.pm x = true → has taken x = true ∨ ∃ j r', j < k ∧ l[j]? = some r' ∧ r'.i = x
  | [], _, _, k, r, hk => by simp at hk
  | y :: l, taken, h, k, r, hk => by
    have h : (Bool.rec false (topoOk l (Nat.lor taken (bit y.i))) (ready taken y) : Bool) = true := h
    obtain ⟨hy, h⟩ := rec_true h
    cases k with
    | zero =>
      simp only [List.getElem?_cons_zero, Option.some.injEq] at hk
      subst hk
      unfold ready at hy
      cases ht : has taken y.i with
      | true => rw [ht] at hy; cases hy
      | false =>
        rw [ht] at hy
        exact ⟨rfl, fun j _ hj => by omega, fun x hx => .inl (has_of_land hy hx)⟩
    | succ k =>
      simp only [List.getElem?_cons_succ] at hk
      obtain ⟨h1, h2, h3⟩ := topo_spec l _ h k r hk
      rw [has_lor, has_bit, Bool.or_eq_false_iff] at h1
      have hne : y.i ≠ r.i := of_decide_eq_false h1.2
      refine ⟨h1.1, fun j r' hj hr' => ?_, fun x hx => ?_⟩
      · cases j with
        | zero => simp only [List.getElem?_cons_zero, Option.some.injEq] at hr'; subst hr'; exact hne
        | succ j => exact h2 j r' (by omega) (by simpa using hr')
      · rcases h3 x hx with h | ⟨j, r', hj, hr', e⟩
        · rw [has_lor, has_bit, Bool.or_eq_true] at h
          rcases h with h | h
          · exact .inl h
          · exact .inr ⟨0, y, by omega, by simp, of_decide_eq_true h⟩
        · exact .inr ⟨j + 1, r', by omega, by simpa using hr', e⟩

theorem chain_spec (all : List RI) : ∀ (l before : List RI), chainOk all l before = true → ∀ (k : Nat) (y : RI), l[k]? = some y → y.k ≠ .P →
    (∀ x ∈ before, x.k = .E → has y.am x.i = true) ∧ ∀ j x, j < k → l[j]? = some x → x.k = .E → has y.am x.i = true
  | [], _, _, k, y, hk, _ => by simp at hk
  | z :: l, before, h, k, y, hk, hP => by
    have h : (Bool.rec false (chainOk all l (z :: before)) (match z.k with
       | .P => true
       | _ => allR (fun x => match x.k with
         | .E => has z.am x.i
         | _ => true) before) : Bool) = true := h
    obtain ⟨hz, h⟩ := rec_true h
    cases k with
    | zero =>
      simp only [List.getElem?_cons_zero, Option.some.injEq] at hk
      subst hk
      refine ⟨fun x hx he => ?_, fun j _ hj => by omega⟩
      have hz : allR (fun x => match x.k with
         | .E => has z.am x.i
         | _ => true) before = true := by
        revert hz
        cases hk : z.k with
        | P => exact absurd hk hP
        | _ => exact id
      rw [allR_eq, List.all_eq_true] at hz
      have := hz x hx
      rw [he] at this
      exact this
    | succ k =>
      simp only [List.getElem?_cons_succ] at hk
      obtain ⟨h1, h2⟩ := chain_spec all l (z :: before) h k y hk hP
      refine ⟨fun x hx he => h1 x (by simp [hx]) he, fun j x hj hx he => ?_⟩
      cases j with
      | zero => simp only [List.getElem?_cons_zero, Option.some.injEq] at hx; subst hx; exact h1 z (by simp) he
      | succ j => exact h2 j x (by omega) (by simpa using hx) he

theorem related_spec {x y : RI} (h : related x y = true) : x.i = y.i ∨ has y.am x.i = true ∨ has x.am y.i = true := by
  unfold related at h
  cases h1 : Nat.beq x.i y.i with
  | true => exact .inl (Nat.eq_of_beq_eq_true h1)
  | false =>
    rw [h1] at h
    cases h2 : has y.am x.i with
    | true => exact .inr (.inl rfl)
    | false =>
      rw [h2] at h
      cases h3 : has x.am y.i with
      | true => exact .inr (.inr rfl)
      | false => rw [h3] at h; cases h

theorem temps_spec {ops : List Oper} {all l : List RI} (h : tempsOk ops all l = true) {y x : RI} (hy : y ∈ l) (hx : x ∈ all) {t : Nat} (ht : t ∈ y.o.dst.toList ++ looks ops y.o) (hd : x.o.dst = some t) :
    x.i = y.i ∨ has y.am x.i = true ∨ has x.am y.i = true := by
  unfold tempsOk at h
  rw [allR_eq, List.all_eq_true] at h
  have := h y hy
  simp only [appR_eq] at this
  rw [allR_eq, List.all_eq_true] at this
  have := this x hx
  have hw : writesIn (y.o.dst.toList ++ looks ops y.o) x = true := by
    unfold writesIn
    rw [hd]
    show anyR (fun s => Nat.beq s t) _ = true
    rw [anyR_eq, List.any_eq_true]
    exact ⟨t, ht, Nat.beq_refl t⟩
  rw [hw] at this
  exact related_spec this

theorem withHeld_length : ∀ (l before : List RI), (withHeld l before).length = l.length
  | [], _ => rfl
  | y :: l, before => by
    show (_ :: withHeld l (y :: before)).length = _
    rw [List.length_cons, List.length_cons, withHeld_length l]

theorem withHeld_spec : ∀ (l before : List RI) (k : Nat) (p : PS), (withHeld l before)[k]? = some p →
    l[k]? = some p.r ∧ (∀ j e, k < j → l[j]? = some e → e.k = .E → p.r.k = .L → has e.am p.r.i = false → p.keep = true) ∧
    (p.r.k = .E → ∀ x, (x ∈ before ∨ ∃ j, j < k ∧ l[j]? = some x) → x.k = .L → has p.r.am x.i = false → x ∈ p.hs)
  | [], _, k, p, hk => by
    have hk : ([] : List PS)[k]? = some p := hk
    simp at hk
  | y :: l, before, k, p, hk => by
    have hk : ((⟨y, Bool.rec false (anyR (fun e => Bool.rec false (Bool.rec true false (has e.am y.i)) e.k.isE) l) y.k.isL,
      Bool.rec [] (filterR (fun x => Bool.rec false (Bool.rec true false (has y.am x.i)) x.k.isL) before) y.k.isE⟩ : PS) :: withHeld l (y :: before))[k]? = some p := hk
    cases k with
    | zero =>
      simp only [List.getElem?_cons_zero, Option.some.injEq] at hk
      subst hk
      refine ⟨by simp, fun j e hj he hE hL hn => ?_, fun hE x hx hL hn => ?_⟩
      · have hL : y.k = .L := hL
        have hn : has e.am y.i = false := hn
        show (Bool.rec false (anyR (fun e => Bool.rec false (Bool.rec true false (has e.am y.i)) e.k.isE) l) y.k.isL : Bool) = true
        rw [hL]
        show anyR (fun e => Bool.rec false (Bool.rec true false (has e.am y.i)) e.k.isE) l = true
        rw [anyR_eq, List.any_eq_true]
        obtain ⟨j, rfl⟩ : ∃ i, j = i + 1 := ⟨j - 1, by omega⟩
        refine ⟨e, List.mem_of_getElem? (by simpa using he), ?_⟩
        rw [hE, hn]
        rfl
      · have hE : y.k = .E := hE
        have hn : has y.am x.i = false := hn
        show x ∈ (Bool.rec [] (filterR (fun x => Bool.rec false (Bool.rec true false (has y.am x.i)) x.k.isL) before) y.k.isE : List RI)
        rw [hE]
        show x ∈ filterR (fun x => Bool.rec false (Bool.rec true false (has y.am x.i)) x.k.isL) before
        rw [filterR_eq, List.mem_filter]
        rcases hx with hx | ⟨j, hj, _⟩
        · exact ⟨hx, by rw [hL, hn]; rfl⟩
        · omega
    | succ k =>
      simp only [List.getElem?_cons_succ] at hk
      obtain ⟨h1, h2, h3⟩ := withHeld_spec l (y :: before) k p hk
      refine ⟨by simpa using h1, fun j e hj he hE hL hn => ?_, fun hE x hx hL hn => ?_⟩
      · obtain ⟨j, rfl⟩ : ∃ i, j = i + 1 := ⟨j - 1, by omega⟩
        exact h2 j e (by omega) (by simpa using he) hE hL hn
      · refine h3 hE x ?_ hL hn
        rcases hx with hx | ⟨j, hj, hx⟩
        · exact .inl (by simp [hx])
        · cases j with
          | zero => simp only [List.getElem?_cons_zero, Option.some.injEq] at hx; subst hx; exact .inl (by simp)
          | succ j => exact .inr ⟨j, by omega, by simpa using hx⟩

/-- As many different numbers below 'n' as 'n': all of them. -/
theorem pigeon : ∀ (n : Nat) (l : List Nat), l.Nodup → (∀ x ∈ l, x < n) → l.length ≤ n
  | 0, l, _, h => by
    cases l with
    | nil => simp
    | cons x l => exact absurd (h x (by simp)) (by omega)
  | n + 1, l, hd, h => by
    have := pigeon n (l.erase n) (hd.erase n) (fun x hx => by
      have h1 := h x (List.mem_of_mem_erase hx)
      have h2 : x ≠ n := ((List.Nodup.mem_erase_iff hd).1 hx).1
      omega)
    by_cases hm : n ∈ l
    · rw [List.length_erase_of_mem hm] at this; omega
    · rw [List.erase_of_not_mem hm] at this; omega

theorem pigeon_all {n : Nat} {l : List Nat} (hd : l.Nodup) (h : ∀ x ∈ l, x < n) (hn : n ≤ l.length) {i : Nat} (hi : i < n) : i ∈ l := by
  by_cases hm : i ∈ l
  · exact hm
  · have := pigeon n (i :: l) (List.nodup_cons.2 ⟨hm, hd⟩) (fun x hx => by
      rcases List.mem_cons.1 hx with rfl | hx
      · exact hi
      · exact h x hx)
    simp at this
    omega

end Go.Ev

/- The trace of a plan. -/
namespace Go.Ev
open Go.RowKit

/-! ## Equal by the evaluator's word -/

theorem eqB_sound : ∀ {x y : List UInt8}, eqB x y = true → x = y
  | [], [], _ => rfl
  | [], _ :: _, h => by cases h
  | _ :: _, [], h => by cases h
  | a :: x, b :: y, h => by
    have h : (Bool.rec false (eqB x y) (Nat.beq a.toNat b.toNat) : Bool) = true := h
    cases hb : Nat.beq a.toNat b.toNat with
    | false => rw [hb] at h; cases h
    | true =>
      rw [hb] at h
      rw [eqB_sound h, UInt8.toNat_inj.1 (Nat.eq_of_beq_eq_true hb)]

theorem SV.beq_sound {a b : SV} (h : SV.beq a b = true) : a = b := by
  unfold SV.beq at h
  split at h <;> first
    | rfl
    | (cases h; done)
    | (rename_i a b; cases a <;> cases b <;> first | rfl | cases h)
    | (simp only [Bool.and_eq_true, decide_eq_true_eq, beq_iff_eq, beq_iff] at h; simp_all)
    | (rw [eqB_sound h])

theorem SV.beqL_sound : ∀ {x y : List SV}, SV.beqL x y = true → x = y
  | [], [], _ => rfl
  | [], _ :: _, h => by cases h
  | _ :: _, [], h => by cases h
  | a :: x, b :: y, h => by
    have h : (SV.beq a b && SV.beqL x y) = true := h
    rw [Bool.and_eq_true] at h
    rw [SV.beq_sound h.1, SV.beqL_sound h.2]

theorem AV.beq_sound {a b : AV} (h : AV.beq a b = true) : a = b := by
  cases a <;> cases b <;> first | (cases h; done) | skip
  · rw [SV.beq_sound h]
  · rw [SV.beqL_sound h]

theorem TV.beqL_sound : ∀ {x y : List AV}, TV.beqL x y = true → x = y
  | [], [], _ => rfl
  | [], _ :: _, h => by cases h
  | _ :: _, [], h => by cases h
  | a :: x, b :: y, h => by
    have h : (AV.beq a b && TV.beqL x y) = true := h
    rw [Bool.and_eq_true] at h
    rw [AV.beq_sound h.1, TV.beqL_sound h.2]

theorem TV.beq_sound {a b : TV} (h : TV.beq a b = true) : a = b := by
  cases a <;> cases b <;> first | (cases h; done) | skip
  · rw [AV.beq_sound h]
  · rw [TV.beqL_sound h]

/-! ## The trace -/

structure StepOk (C : Ctx) (rec : ExecT) (ops : List Oper) (p : PS) (f : Fr) (s : St) (h : Held) (g : Bool) (v : TV) (f' : Fr) (s' : St) (h' : Held) : Prop where
  guard : guarded ops f p.r.o = some g
  put : f.put p.r.o.dst v = some f'
  on : g = true → opB C rec p.r.o.op f s = some (v, s') ∧ stillHeld C s' h p.hs = true ∧ h' = cond p.keep ((p.r.i, f, v) :: h) h
  off : g = false → v = undefT ∧ s' = s ∧ h' = h

theorem planB_trace {C : Ctx} {rec : ExecT} {ops : List Oper} : ∀ (l : List PS) (held : Held) (f : Fr) (s : St) (f' : Fr) (s' : St), planB C rec ops l held f s = some (f', s') →
    ∃ (F : Nat → Fr) (S : Nat → St) (G : Nat → Bool) (V : Nat → TV) (H : Nat → Held), F 0 = f ∧ S 0 = s ∧ H 0 = held ∧ F l.length = f' ∧ S l.length = s' ∧
      ∀ k p, l[k]? = some p → StepOk C rec ops p (F k) (S k) (H k) (G k) (V k) (F (k + 1)) (S (k + 1)) (H (k + 1))
  | [], held, f, s, f', s', h => by
    cases h
    exact ⟨fun _ => f, fun _ => s, fun _ => false, fun _ => undefT, fun _ => held, rfl, rfl, rfl, rfl, rfl, fun k p hk => by simp at hk⟩
  | p :: l, held, f, s, f', s', h => by
    have h : (guarded ops f p.r.o).bind (fun g =>
      cond g
        ((opB C rec p.r.o.op f s).bind fun q =>
          cond (stillHeld C q.2 held p.hs)
            ((f.put p.r.o.dst q.1).bind fun f' => planB C rec ops l (cond p.keep ((p.r.i, f, q.1) :: held) held) f' q.2) none)
        ((f.put p.r.o.dst undefT).bind fun f' => planB C rec ops l held f' s)) = some (f', s') := h
    (obtain ⟨g, hg, hh⟩ := bind_some h; clear h; have h := hh; clear hh)
    have fin : ∀ (v : TV) (f1 : Fr) (s1 : St) (h1 : Held), StepOk C rec ops p f s held g v f1 s1 h1 → planB C rec ops l h1 f1 s1 = some (f', s') →
        ∃ (F : Nat → Fr) (S : Nat → St) (G : Nat → Bool) (V : Nat → TV) (H : Nat → Held), F 0 = f ∧ S 0 = s ∧ H 0 = held ∧ F (p :: l).length = f' ∧ S (p :: l).length = s' ∧
          ∀ k q, (p :: l)[k]? = some q → StepOk C rec ops q (F k) (S k) (H k) (G k) (V k) (F (k + 1)) (S (k + 1)) (H (k + 1)) := by
      intro v f1 s1 h1 hst hrest
      obtain ⟨F, S, G, V, H, e1, e2, e3, e4, e5, hk⟩ := planB_trace l h1 f1 s1 f' s' hrest
      refine ⟨fun k => Nat.casesOn k f F, fun k => Nat.casesOn k s S, fun k => Nat.casesOn k g G, fun k => Nat.casesOn k v V, fun k => Nat.casesOn k held H, rfl, rfl, rfl, e4, e5, fun k q hq => ?_⟩
      cases k with
      | zero =>
        simp only [List.getElem?_cons_zero, Option.some.injEq] at hq
        subst hq
        show StepOk C rec ops p f s held g v (F 0) (S 0) (H 0)
        rw [e1, e2, e3]
        exact hst
      | succ k => exact hk k q (by simpa using hq)
    cases g with
    | true =>
      simp only [cond_true] at h
      (obtain ⟨q, hq, hh⟩ := bind_some h; clear h; have h := hh; clear hh)
      (obtain ⟨hst, hh⟩ := cond_some h; clear h; have h := hh; clear hh)
      (obtain ⟨f1, hput, hh⟩ := bind_some h; clear h; have h := hh; clear hh)
      obtain ⟨v, s1⟩ := q
      exact fin v f1 s1 _ ⟨hg, hput, fun _ => ⟨hq, hst, rfl⟩, fun e => by cases e⟩ h
    | false =>
      simp only [cond_false] at h
      (obtain ⟨f1, hput, hh⟩ := bind_some h; clear h; have h := hh; clear hh)
      exact fin undefT f1 s held ⟨hg, hput, fun e => (by cases e), fun _ => ⟨rfl, rfl, rfl⟩⟩ h

instance : Inhabited RI := ⟨⟨0, default, .P, 0, 0⟩⟩
instance : Inhabited PS := ⟨⟨default, false, []⟩⟩

/-- A region that was run by its plan. -/
structure Trace (C : Ctx) (rec : ExecT) (ops : List Oper) (f0 : Fr) (s0 : St) (f1 : Fr) (s1 : St) where
  pl : Nat → PS
  F : Nat → Fr
  S : Nat → St
  G : Nat → Bool
  V : Nat → TV
  H : Nat → Held
  first : F 0 = f0 ∧ S 0 = s0 ∧ H 0 = []
  last : F ops.length = f1 ∧ S ops.length = s1
  step : ∀ k, k < ops.length → StepOk C rec ops (pl k) (F k) (S k) (H k) (G k) (V k) (F (k + 1)) (S (k + 1)) (H (k + 1))
  item : ∀ k, k < ops.length → ItemOk C ops (pl k).r
  inj : ∀ j k, j < ops.length → k < ops.length → (pl j).r.i = (pl k).r.i → j = k
  all : ∀ i, i < ops.length → ∃ k, k < ops.length ∧ (pl k).r.i = i
  topo : ∀ k, k < ops.length → ∀ e ∈ (pl k).r.o.after.toList, Region.binds .any e = true → ∃ j, j < k ∧ (pl j).r.i = e.on
  chain : ∀ j k, j < k → k < ops.length → (pl k).r.k ≠ .P → (pl j).r.k = .E → has (pl k).r.am (pl j).r.i = true
  temps : ∀ j k, j < ops.length → k < ops.length → ∀ t, t ∈ (pl k).r.o.dst.toList ++ looks ops (pl k).r.o → (pl j).r.o.dst = some t →
    j = k ∨ has (pl k).r.am (pl j).r.i = true ∨ has (pl j).r.am (pl k).r.i = true
  kept : ∀ j k, j < k → k < ops.length → (pl j).r.k = .L → (pl k).r.k = .E → has (pl k).r.am (pl j).r.i = false → (pl j).keep = true ∧ (pl j).r ∈ (pl k).hs

theorem trace_of {C : Ctx} {rec : ExecT} {ops : List Oper} {f0 : Fr} {s0 : St} {f1 : Fr} {s1 : St} (h : regionB C rec ops true f0 s0 = some (f1, s1)) : Nonempty (Trace C rec ops f0 s0 f1 s1) := by
  unfold regionB at h
  simp only [cond_true] at h
  (obtain ⟨ps, hps, hh⟩ := bind_some h; clear h; have h := hh; clear hh)
  obtain ⟨p, rfl, hp⟩ := planOf_ok hps
  obtain ⟨F, S, G, V, H, e1, e2, e3, e4, e5, hk⟩ := planB_trace _ _ _ _ _ _ h
  have hlen : (withHeld p []).length = ops.length := by rw [withHeld_length, hp.len]
  have hget : ∀ k, k < ops.length → (withHeld p [])[k]? = some ((withHeld p []).getD k default) := fun k hk => by
    simp [List.getElem?_eq_getElem (show k < (withHeld p []).length by omega)]
  rw [hlen] at e4 e5
  have sp := fun k hk => withHeld_spec p [] k _ (hget k hk)
  have tp := fun k hk => topo_spec p 0 hp.topo k _ (sp k hk).1
  have inj : ∀ j k, j < ops.length → k < ops.length → ((withHeld p []).getD j default).r.i = ((withHeld p []).getD k default).r.i → j = k := fun j k hj hk e => by
    rcases Nat.lt_trichotomy j k with h | h | h
    · exact absurd e ((tp k hk).2.1 j _ h (sp j hj).1)
    · exact h
    · exact absurd e.symm ((tp j hj).2.1 k _ h (sp k hk).1)
  have item : ∀ k, k < ops.length → ItemOk C ops ((withHeld p []).getD k default).r := fun k hk => hp.item _ (List.mem_of_getElem? (sp k hk).1)
  refine ⟨{ pl := fun k => (withHeld p []).getD k default, F, S, G, V, H, first := ⟨e1, e2, e3⟩, last := ⟨e4, e5⟩, step := fun k h => hk k _ (hget k h), item := item, inj := inj, all := ?_, topo := ?_, chain := ?_, temps := ?_, kept := ?_ }⟩
  · intro i hi
    have : i ∈ (List.range ops.length).map fun k => ((withHeld p []).getD k default).r.i := by
      refine pigeon_all (n := ops.length) ?_ ?_ (by simp) hi
      · rw [List.Nodup, List.pairwise_map]
        refine List.Pairwise.imp_of_mem (R := fun a b => a ≠ b) (fun {a b} ha hb hab e => hab (inj a b (by simpa using ha) (by simpa using hb) e)) List.nodup_range
      · intro x hx
        obtain ⟨k, hk, rfl⟩ := List.mem_map.1 hx
        exact (List.getElem?_eq_some_iff.1 (item k (by simpa using hk)).here).1
    obtain ⟨k, hk, e⟩ := List.mem_map.1 this
    exact ⟨k, by simpa using hk, e⟩
  · intro k hk e he hb
    have hpm : has ((withHeld p []).getD k default).r.pm e.on = true := by
      rw [(item k hk).pred]
      exact (has_predMask _ _).2 ⟨e, he, hb, rfl⟩
    rcases (tp k hk).2.2 _ hpm with h | ⟨j, r', hj, hr', e'⟩
    · rw [has_zero] at h; cases h
    · refine ⟨j, hj, ?_⟩
      have := (sp j (by omega)).1
      rw [hr'] at this
      rw [← Option.some.inj this]
      exact e'
  · intro j k hj hk hP hE
    exact (chain_spec p p [] hp.chain k _ (sp k hk).1 hP).2 j _ hj (sp j (by omega)).1 hE
  · intro j k hj hk t ht hd
    rcases temps_spec hp.temps (List.mem_of_getElem? (sp k hk).1) (List.mem_of_getElem? (sp j hj).1) ht hd with h | h
    · exact .inl (inj j k hj hk h)
    · exact .inr h
  · intro j k hj hk hL hE hn
    exact ⟨(sp j (by omega)).2.1 k _ hj (sp k hk).1 hE hL hn, (sp k hk).2.2 hE _ (.inr ⟨j, hj, (sp j (by omega)).1⟩) hL hn⟩

section
variable {C : Ctx} {rec : ExecT} {ops : List Oper} {f0 f1 : Fr} {s0 s1 : St} (T : Trace C rec ops f0 s0 f1 s1)

/-- What comes before in every order comes before in the plan. -/
theorem Trace.before {j k : Nat} (hj : j < ops.length) (hk : k < ops.length) (h : has (T.pl k).r.am (T.pl j).r.i = true) : j < k := by
  obtain ⟨m, hm, e⟩ := (T.item k hk).anc (fun i => ∃ m, m < k ∧ (T.pl m).r.i = i) (fun i ⟨m, hm, hi⟩ o ho e he hb => by
    have ho' := (T.item m (by omega)).here
    rw [hi, ho] at ho'
    rw [Option.some.inj ho'] at he
    obtain ⟨j', hj', e'⟩ := T.topo m (by omega) e he hb
    exact ⟨j', by omega, e'⟩) (fun e he hb => T.topo k hk e he hb) _ h
  have := T.inj m j (by omega) hj e
  omega

/-- One step leaves a state that grows by a block, or stands, or has turned. -/
theorem Trace.same {k : Nat} (hk : k < ops.length) (h : (T.pl k).r.k = .P ∨ (T.pl k).r.k = .L ∨ T.G k = false) : T.S (k + 1) = T.S k := by
  cases hg : T.G k with
  | false => exact ((T.step k hk).off hg).2.1
  | true =>
    have ho := ((T.step k hk).on hg).1
    unfold opB at ho
    rw [← (T.item k hk).kind] at ho
    rcases h with h | h | h
    · rw [h] at ho
      simp only [] at ho
      (obtain ⟨v, hv, hh⟩ := bind_some ho; clear ho; have ho := hh; clear hh)
      exact (congrArg Prod.snd (Option.some.inj ho)).symm
    · rw [h] at ho
      simp only [] at ho
      (obtain ⟨v, hv, hh⟩ := bind_some ho; clear ho; have ho := hh; clear hh)
      exact (congrArg Prod.snd (Option.some.inj ho)).symm
    · rw [h] at hg; cases hg

theorem Trace.read {k : Nat} (hk : k < ops.length) (h : (T.pl k).r.k = .L) (hg : T.G k = true) : opL C (T.pl k).r.o.op (T.F k) (T.S k) = some (T.V k) := by
  have ho := ((T.step k hk).on hg).1
  unfold opB at ho
  rw [← (T.item k hk).kind, h] at ho
  simp only [] at ho
  (obtain ⟨v, hv, hh⟩ := bind_some ho; clear ho; have ho := hh; clear hh)
  have e : v = T.V k := congrArg Prod.fst (Option.some.inj ho)
  rw [hv, e]

theorem Trace.made {k : Nat} (hk : k < ops.length) (h : (T.pl k).r.k = .A) (hg : T.G k = true) : ∃ b mk, opA C (T.pl k).r.o.op (T.F k) = some (b, mk) ∧ T.V k = mk.val (T.S k).next ∧
    T.S (k + 1) = { h := (T.S k).h.set (T.S k).next b, next := (T.S k).next + 1 } := by
  have ho := ((T.step k hk).on hg).1
  unfold opB at ho
  rw [← (T.item k hk).kind, h] at ho
  simp only [] at ho
  (obtain ⟨p, hp, hh⟩ := bind_some ho; clear ho; have ho := hh; clear hh)
  obtain ⟨b, mk⟩ := p
  refine ⟨b, mk, hp, ?_⟩
  have ho := Option.some.inj ho
  unfold mkB at ho
  exact ⟨(congrArg Prod.fst ho).symm, (congrArg Prod.snd ho).symm⟩

/-- What was read and is asked for again stands among what is held. -/
theorem Trace.held {j : Nat} (hj : (T.pl j).keep = true) (hg : T.G j = true) : ∀ m, j < m → m ≤ ops.length → (T.H m).find? (fun h => h.1.beq (T.pl j).r.i) = some ((T.pl j).r.i, T.F j, T.V j) := by
  intro m
  induction m with
  | zero => intro h; omega
  | succ m ih =>
    intro h1 h2
    have hm : m < ops.length := by omega
    by_cases e : j = m
    · subst e
      rw [((T.step j hm).on hg).2.2, hj]
      simp
    · have ih := ih (by omega) (by omega)
      cases hgm : T.G m with
      | false => rw [((T.step m hm).off hgm).2.2]; exact ih
      | true =>
        rw [((T.step m hm).on hgm).2.2]
        cases (T.pl m).keep with
        | false => exact ih
        | true =>
          rw [cond_true, List.find?_cons]
          have hb : (T.pl m).r.i.beq (T.pl j).r.i = false := by
            cases hb : (T.pl m).r.i.beq (T.pl j).r.i with
            | false => rfl
            | true => exact absurd (T.inj m j hm (by omega) (Nat.eq_of_beq_eq_true hb)) (by omega)
          simp only [hb]
          exact ih

/-- (a state that has nothing beyond its next number) -/
def St.Fresh (s : St) : Prop := ∀ i, s.next ≤ i → s.h.get i = none

theorem stillHeld_spec {s : St} {held : Held} : ∀ {l : List RI}, stillHeld C s held l = true → ∀ r ∈ l, ∀ f v, held.find? (fun h => h.1.beq r.i) = some (r.i, f, v) → opL C r.o.op f s = some v
  | [], _, r, hr, _, _, _ => by cases hr
  | x :: l, h, r, hr, f, v, hf => by
    have h : ((match held.find? (fun h => h.1.beq x.i) with
    | some (_, f, v) => match opL C x.o.op f s with
      | some w => TV.beq v w
      | none => false
    | none => true) && stillHeld C s held l) = true := h
    rw [Bool.and_eq_true] at h
    rcases List.mem_cons.1 hr with rfl | hr
    · have h := h.1
      rw [hf] at h
      simp only [] at h
      cases ho : opL C r.o.op f s with
      | none => rw [ho] at h; cases h
      | some w => rw [ho] at h; rw [TV.beq_sound h]
    · exact stillHeld_spec h.2 r hr f v hf

/-- A READ STANDS, UP TO THE NEXT EFFECT THAT HAS TO COME BEHIND IT. -/
theorem Trace.stands {j : Nat} (hL : (T.pl j).r.k = .L) (hg : T.G j = true) : ∀ m, j < m → m ≤ ops.length → (∀ i, i < m → (T.S i).Fresh) →
    (∀ i, j < i → i < m → (T.pl i).r.k = .E → has (T.pl i).r.am (T.pl j).r.i = false) → opL C (T.pl j).r.o.op (T.F j) (T.S m) = some (T.V j) := by
  intro m
  induction m with
  | zero => intro h; omega
  | succ m ih =>
    intro h1 h2 hf he
    have hm : m < ops.length := by omega
    by_cases e : j = m
    · subst e
      rw [T.same hm (.inr (.inl hL))]
      exact T.read hm hL hg
    · have ih := ih (by omega) (by omega) (fun i hi => hf i (by omega)) (fun i h1 h2 => he i h1 (by omega))
      cases hgm : T.G m with
      | false => rw [T.same hm (.inr (.inr hgm))]; exact ih
      | true =>
        cases hk : (T.pl m).r.k with
        | P => rw [T.same hm (.inl hk)]; exact ih
        | L => rw [T.same hm (.inr (.inl hk))]; exact ih
        | A =>
          obtain ⟨b, mk, _, _, e3⟩ := T.made hm hk hgm
          refine opL_mono (fun i bi hi => ?_) ih
          rw [e3]
          show ((T.S m).h.set (T.S m).next b).get i = some bi
          by_cases q : i = (T.S m).next
          · subst q; rw [hf m (by omega) _ (Nat.le_refl _)] at hi; cases hi
          · rw [Tr.get_set_ne q]; exact hi
        | E =>
          have hn := he m (by omega) (by omega) hk
          obtain ⟨k1, k2⟩ := T.kept j m (by omega) hm hL hk hn
          exact stillHeld_spec ((T.step m hm).on hgm).2.1 _ k2 _ _ (T.held k1 hg m (by omega) (by omega))

end
end Go.Ev

/- The frame that stands for what is done of a plan; blocks that are made late. -/
namespace Go.Ev
open Go.RowKit

def putT (f : Fr) (d : Option Nat) (v : TV) : Fr := match d with
  | none => f
  | some d => { f with t := T2.set f.t d v }

theorem put_eq {f f' : Fr} {d : Option Nat} {v : TV} (h : f.put d v = some f') : f' = putT f d v ∧ ∀ t, d = some t → t < f.n := by
  cases d with
  | none => cases h; exact ⟨rfl, fun t e => by cases e⟩
  | some d =>
    simp only [Fr.put] at h
    (obtain ⟨g, hh⟩ := cond_some h; clear h; have h := hh; clear hh)
    cases h
    exact ⟨rfl, fun t e => by cases e; exact blt_iff.1 g⟩

theorem putT_n (f : Fr) (d : Option Nat) (v : TV) : (putT f d v).n = f.n ∧ (putT f d v).marks = f.marks ∧ (putT f d v).rnd = f.rnd := by cases d <;> exact ⟨rfl, rfl, rfl⟩

theorem putT_get {f : Fr} {d : Option Nat} {v : TV} (hd : ∀ t, d = some t → t < 256) {t : Nat} (ht : t < 256) : T2.get (putT f d v).t t = if d = some t then v else T2.get f.t t := by
  cases d with
  | none => rw [if_neg (by simp)]; rfl
  | some d =>
    show T2.get (T2.set f.t d v) t = _
    rw [T2.get_set _ _ _ _ (hd d rfl) ht]
    by_cases e : t = d
    · subst e; rw [if_pos rfl, if_pos rfl]
    · rw [if_neg e, if_neg (fun h => e (Option.some.inj h).symm)]

section
variable {C : Ctx} {rec : ExecT} {ops : List Oper} {f0 f1 : Fr} {s0 s1 : St} (T : Trace C rec ops f0 s0 f1 s1)

theorem Trace.F_succ {k : Nat} (hk : k < ops.length) : T.F (k + 1) = putT (T.F k) (T.pl k).r.o.dst (T.V k) := (put_eq (T.step k hk).put).1

theorem Trace.F_n : ∀ k, k ≤ ops.length → (T.F k).n = f0.n ∧ (T.F k).marks = f0.marks ∧ (T.F k).rnd = f0.rnd
  | 0, _ => by rw [T.first.1]; exact ⟨rfl, rfl, rfl⟩
  | k + 1, h => by
    rw [T.F_succ (by omega)]
    obtain ⟨h1, h2, h3⟩ := putT_n (T.F k) (T.pl k).r.o.dst (T.V k)
    obtain ⟨g1, g2, g3⟩ := Trace.F_n k (by omega)
    exact ⟨h1.trans g1, h2.trans g2, h3.trans g3⟩

theorem Trace.dst_lt (hn : f0.n ≤ 256) {k : Nat} (hk : k < ops.length) : ∀ t, (T.pl k).r.o.dst = some t → t < 256 := fun t e => by
  have := (put_eq (T.step k hk).put).2 t e
  rw [(T.F_n k (by omega)).1] at this
  exact Nat.lt_of_lt_of_le this hn

noncomputable def Trace.fr (D : Nat → Bool) : Nat → Fr
  | 0 => f0
  | k + 1 => if D (T.pl k).r.i = true then putT (Trace.fr D k) (T.pl k).r.o.dst (T.V k) else Trace.fr D k

theorem Trace.fr_n (D : Nat → Bool) : ∀ k, (T.fr D k).n = f0.n ∧ (T.fr D k).marks = f0.marks ∧ (T.fr D k).rnd = f0.rnd
  | 0 => ⟨rfl, rfl, rfl⟩
  | k + 1 => by
    obtain ⟨g1, g2, g3⟩ := Trace.fr_n D k
    unfold Trace.fr
    split
    · obtain ⟨h1, h2, h3⟩ := putT_n (T.fr D k) (T.pl k).r.o.dst (T.V k)
      exact ⟨h1.trans g1, h2.trans g2, h3.trans g3⟩
    · exact ⟨g1, g2, g3⟩

theorem Trace.fr_get (hn : f0.n ≤ 256) (D : Nat → Bool) {k : Nat} (hk : k < ops.length) {t : Nat} (ht : t < 256) :
    T2.get (T.fr D (k + 1)).t t = if D (T.pl k).r.i = true ∧ (T.pl k).r.o.dst = some t then T.V k else T2.get (T.fr D k).t t := by
  show T2.get (if D (T.pl k).r.i = true then putT (T.fr D k) (T.pl k).r.o.dst (T.V k) else T.fr D k).t t = _
  by_cases h : D (T.pl k).r.i = true
  · rw [if_pos h, putT_get (T.dst_lt hn hk) ht]
    by_cases e : (T.pl k).r.o.dst = some t
    · rw [if_pos e, if_pos ⟨h, e⟩]
    · rw [if_neg e, if_neg (fun q => e q.2)]
  · rw [if_neg h, if_neg (fun q => h q.1)]

theorem Trace.fr_agree (hn : f0.n ≤ 256) (D : Nat → Bool) {k t : Nat} (ht : t < 256) (h1 : ∀ j, j < k → j < ops.length → (T.pl j).r.o.dst = some t → D (T.pl j).r.i = true)
    (h2 : ∀ j, k ≤ j → j < ops.length → (T.pl j).r.o.dst = some t → D (T.pl j).r.i = false) : ∀ m, m ≤ ops.length → T2.get (T.fr D m).t t = T2.get (T.F (min k m)).t t := by
  intro m
  induction m with
  | zero => intro _; rw [Nat.min_zero, T.first.1]; rfl
  | succ m ih =>
    intro hm
    have ih := ih (by omega)
    have hm' : m < ops.length := by omega
    rw [T.fr_get hn D hm' ht]
    by_cases hmk : m < k
    · rw [show min k (m + 1) = m + 1 by omega, T.F_succ hm', putT_get (T.dst_lt hn hm') ht]
      rw [show min k m = m by omega] at ih
      by_cases e : (T.pl m).r.o.dst = some t
      · rw [if_pos ⟨h1 m hmk hm' e, e⟩, if_pos e]
      · rw [if_neg (fun q => e q.2), if_neg e, ih]
    · rw [show min k (m + 1) = k by omega]
      rw [show min k m = k by omega] at ih
      rw [if_neg, ih]
      rintro ⟨q, e⟩
      rw [h2 m (by omega) hm' e] at q
      cases q

theorem Trace.fr_put (hn : f0.n ≤ 256) {D D' : Nat → Bool} {k : Nat} (hk : k < ops.length) (hD : D (T.pl k).r.i = false) (hD' : ∀ i, D' i = if i = (T.pl k).r.i then true else D i) {t : Nat} (ht : t < 256)
    (h : (T.pl k).r.o.dst = some t → ∀ j, k < j → j < ops.length → (T.pl j).r.o.dst = some t → D (T.pl j).r.i = false) :
    ∀ m, m ≤ ops.length → T2.get (T.fr D' m).t t = if k < m ∧ (T.pl k).r.o.dst = some t then T.V k else T2.get (T.fr D m).t t := by
  intro m
  induction m with
  | zero => intro _; rw [if_neg (fun q => by omega)]; rfl
  | succ m ih =>
    intro hm
    have ih := ih (by omega)
    have hm' : m < ops.length := by omega
    rw [T.fr_get hn D' hm' ht, T.fr_get hn D hm' ht, hD']
    by_cases e : m = k
    · subst e
      rw [if_pos rfl, ih]
      by_cases e2 : (T.pl m).r.o.dst = some t
      · rw [if_pos ⟨rfl, e2⟩, if_pos ⟨by omega, e2⟩]
      · rw [if_neg (fun q => e2 q.2), if_neg (fun q => by omega), if_neg (fun q => e2 q.2), if_neg (fun q => e2 q.2)]
    · rw [if_neg (fun q => e (T.inj m k hm' hk q))]
      by_cases e2 : D (T.pl m).r.i = true ∧ (T.pl m).r.o.dst = some t
      · rw [if_pos e2, if_pos e2]
        by_cases e3 : k < m + 1 ∧ (T.pl k).r.o.dst = some t
        · have := h e3.2 m (by omega) hm' e2.2
          rw [e2.1] at this; cases this
        · rw [if_neg e3]
      · rw [if_neg e2, if_neg e2, ih]
        by_cases e3 : k < m ∧ (T.pl k).r.o.dst = some t
        · rw [if_pos e3, if_pos ⟨by omega, e3.2⟩]
        · rw [if_neg e3, if_neg (fun q => e3 ⟨by omega, q.2⟩)]

end

/-! ## What an operation looks at -/

theorem opdTmp_mem {l : List Operand} {r : List Nat} {t : Nat} : t ∈ (List.rec (motive := fun _ => List Nat) r (fun x _ ih => opdTmp x ih) l : List Nat) ↔ .tmp t ∈ l ∨ t ∈ r := by
  induction l with
  | nil => simp
  | cons x l ih =>
    show t ∈ opdTmp x (List.rec (motive := fun _ => List Nat) r (fun x _ ih => opdTmp x ih) l) ↔ _
    cases x with
    | tmp u =>
      show t ∈ u :: _ ↔ _
      rw [List.mem_cons, ih]
      simp [or_assoc]
    | const v => refine ih.trans ?_; simp
    | global g => refine ih.trans ?_; simp
    | func g => refine ih.trans ?_; simp

theorem looks_opd {ops : List Oper} {o : Oper} {t : Nat} (h : .tmp t ∈ o.op.operands.toList) : t ∈ looks ops o := opdTmp_mem.2 (.inl h)

theorem looks_guard {ops : List Oper} {o p : Oper} {g t : Nat} {want : Bool} (h : o.guard = some (g, want)) (hp : ops[g]? = some p) (hd : p.dst = some t) : t ∈ looks ops o := by
  refine opdTmp_mem.2 (.inr ?_)
  rw [h]
  simp only [nthR_eq, hp, hd]
  simp

theorem sameOn_of {ops : List Oper} {o : Oper} {f f' : Fr} (h : ∀ t, t < 256 → t ∈ looks ops o → T2.get f.t t = T2.get f'.t t) : SameOn f f' o.op.operands.toList := by
  intro x hx
  cases x with
  | tmp t =>
    show cond (Nat.blt t 256) _ _ = cond (Nat.blt t 256) _ _
    cases q : Nat.blt t 256 with
    | false => rfl
    | true => rw [cond_true, cond_true, h t (blt_iff.1 q) (looks_opd hx)]
  | const v => rfl
  | global g => rfl
  | func g => rfl

theorem guarded_same {ops : List Oper} {o : Oper} {f f' : Fr} (h : ∀ t, t < 256 → t ∈ looks ops o → T2.get f.t t = T2.get f'.t t) : guarded ops f o = guarded ops f' o := by
  unfold guarded
  split
  · rfl
  · rename_i j want e
    split
    · rename_i p hp
      split
      · rename_i d hd
        cases q : Nat.blt d 256 with
        | false => rfl
        | true => rw [cond_true, cond_true, h d (blt_iff.1 q) (looks_guard e (by rwa [nthR_eq] at hp) hd)]
      · rfl
    · rfl

/-! ## Blocks that are not there yet -/

section
variable {O : Nat → Value} {N : Nat} {R R0 : Rho} {s s0 : St} {w w0 w' : World}

theorem Rel.unplaced (h : Rel O N R s w) (b : Blk) : Rel O N R ⟨s.h.set s.next b, s.next + 1⟩ w where
  dom i m hi := by have := h.dom i m hi; show i < s.next + 1; omega
  live i bi mi hi li hm := by
    have := h.dom i mi hm
    change (s.h.set s.next b).get i = some bi at hi
    rw [Tr.get_set_ne (by omega)] at hi
    exact h.live i bi mi hi li hm
  inj i j bi bj mi mj hi li hj lj ri rj q := by
    have h1 := h.dom i mi ri
    have h2 := h.dom j mj rj
    change (s.h.set s.next b).get i = some bi at hi
    change (s.h.set s.next b).get j = some bj at hj
    rw [Tr.get_set_ne (by omega)] at hi hj
    exact h.inj _ _ _ _ _ _ hi li hj lj ri rj q
  size := h.size
  fresh i hi := by
    show (s.h.set s.next b).get i = none
    have : s.next + 1 ≤ i := hi
    rw [Tr.get_set_ne (by omega)]; exact h.fresh i (by omega)
  ro i c mi hi hm := by
    have := h.dom i mi hm
    change (s.h.set s.next b).get i = some (.ro c) at hi
    rw [Tr.get_set_ne (by omega)] at hi
    exact h.ro i c mi hi hm

theorem Fwd.unplaced (h : Rel O N R s w) (b : Blk) : Fwd R s w R ⟨s.h.set s.next b, s.next + 1⟩ w where
  le := Le.refl R
  os := rfl
  tape := rfl
  output := rfl
  grow := Nat.le_refl _
  keep _ _ _ := rfl
  own k hk _ := by
    obtain ⟨i, bi, m, hi, li, ri, e⟩ := hk
    have := h.dom i m ri
    change (s.h.set s.next b).get i = some bi at hi
    rw [Tr.get_set_ne (by omega)] at hi
    exact ⟨i, bi, m, hi, li, ri, e⟩
  next := Nat.le_succ _
  idle i hi hr := ⟨hr, Tr.get_set_ne (by omega)⟩

/-- A block that was made earlier by the plan comes to be. -/
theorem Rel.late (h : Rel O N R s w) {id : Nat} {b : Blk} (hR : R id = none) (hb : s.h.get id = some b) (hid : id < s.next) (m : M)
    (hs : w.heap.size < w'.heap.size) (ho : ∀ k, k < w.heap.size → w'.heap[k]? = w.heap[k]?) (hm : w.heap.size ≤ m.blk) (hm' : m.blk < w'.heap.size)
    (hb' : BlkOk O (upd R id m) m b w'.heap[m.blk]?) (hn : b.notRo) : Rel O N (upd R id m) s w' where
  dom i mi hi := by
    by_cases e : i = id
    · omega
    · rw [upd_ne e] at hi; exact h.dom _ _ hi
  live i bi mi hi li hmi := by
    by_cases e : i = id
    · subst e
      rw [hb] at hi; cases hi
      rw [upd_self] at hmi; cases hmi
      exact ⟨hm', Nat.le_trans h.size hm, hb'⟩
    · rw [upd_ne e] at hmi
      obtain ⟨h2, h3, h4⟩ := h.live _ _ _ hi li hmi
      refine ⟨by omega, h3, ?_⟩
      rw [ho _ h2]
      exact h4.mono (le_upd hR)
  inj i j bi bj mi mj hi li hj lj ri rj q := by
    have f : ∀ k bk mk, k ≠ id → s.h.get k = some bk → bk.live → upd R id m k = some mk → R k = some mk ∧ mk.blk < w.heap.size := fun k bk mk e hk lk rk => by
      rw [upd_ne e] at rk
      exact ⟨rk, (h.live _ _ _ hk lk rk).1⟩
    by_cases ei : i = id
    · by_cases ej : j = id
      · rw [ei, ej]
      · subst ei
        rw [upd_self] at ri; cases ri
        have := (f _ _ _ ej hj lj rj).2; omega
    · by_cases ej : j = id
      · subst ej
        rw [upd_self] at rj; cases rj
        have := (f _ _ _ ei hi li ri).2; omega
      · exact h.inj _ _ _ _ _ _ hi li hj lj (f _ _ _ ei hi li ri).1 (f _ _ _ ej hj lj rj).1 q
  size := by have := h.size; omega
  fresh := h.fresh
  ro i c mi hi hmi := by
    by_cases e : i = id
    · subst e
      rw [hb] at hi; cases hi
      exact hn.elim
    · rw [upd_ne e] at hmi
      obtain ⟨h2, h3⟩ := h.ro _ _ _ hi hmi
      have := h.size
      exact ⟨h2, by rw [ho mi.blk (by omega)]; exact h3.mono (le_upd hR)⟩

theorem Fwd.late (h : Fwd R0 s0 w0 R s w) {id : Nat} (hR : R id = none) (hid : s0.next ≤ id) (m : M) (h1 : w'.os = w.os) (h2 : w'.tape = w.tape) (h3 : w'.output = w.output)
    (hs : w.heap.size < w'.heap.size) (ho : ∀ k, k < w.heap.size → w'.heap[k]? = w.heap[k]?) (hm : w.heap.size ≤ m.blk) : Fwd R0 s0 w0 (upd R id m) s w' where
  le := h.le.trans (le_upd hR)
  os := h1.trans h.os
  tape := h2.trans h.tape
  output := h3.trans h.output
  grow := by have := h.grow; omega
  keep k hk hno := (ho k (Nat.lt_of_lt_of_le hk h.grow)).trans (h.keep k hk hno)
  own k hk hlt := by
    obtain ⟨i, bi, mi, hi, li, ri, e⟩ := hk
    by_cases q : i = id
    · subst q
      rw [upd_self] at ri; cases ri
      have := h.grow; omega
    · rw [upd_ne q] at ri
      exact h.own k ⟨i, bi, mi, hi, li, ri, e⟩ hlt
  next := h.next
  idle i hi hr := by
    rw [upd_ne (by omega)]
    exact h.idle i hi hr

end
end Go.Ev

/- A region that draws its order, whatever order is drawn. -/
namespace Go.Ev
open Go.RowKit

def doneOf (listed : Array Bool) : Nat → Bool := fun i => listed.getD i false

section
variable {C : Ctx} {rec : ExecT} {ops : List Oper} {f0 f1 : Fr} {s0 s1 : St} {O : Nat → Value} {N : Nat}

/-- How things stand when the operations that are 'listed' are done: the state is the plan's at place 'q', before its first effect that is not done. -/
structure Inv (T : Trace C rec ops f0 s0 f1 s1) (O : Nat → Value) (N : Nat) (R0 : Rho) (w0 : World) (ro : Option Nat) (q : Nat) (listed : Array Bool) (a : Act) (w : World) (R : Rho) : Prop where
  size : listed.size = ops.length
  closed : Closed ops (fun i => doneOf listed i = true)
  qle : q ≤ ops.length
  done : ∀ k, k < q → (T.pl k).r.k = .E → doneOf listed (T.pl k).r.i = true
  ahead : ∀ k, q ≤ k → k < ops.length → (T.pl k).r.k ≠ .P → doneOf listed (T.pl k).r.i = false
  fresh : ∀ m, m ≤ q → (T.S m).Fresh
  mono : ∀ j k, j ≤ k → k ≤ q → (T.S j).next ≤ (T.S k).next
  fwd : Fwd R0 s0 w0 R (T.S q) w
  rel : Rel O N R (T.S q) w
  fr : FrOk O R (T.fr (doneOf listed) ops.length) a ro
  late : ∀ k, k < q → (T.pl k).r.k = .A → T.G k = true → doneOf listed (T.pl k).r.i = false →
    R (T.S k).next = none ∧ ∃ b mk, opA C (T.pl k).r.o.op (T.F k) = some (b, mk) ∧ (T.S q).h.get (T.S k).next = some b

def Stop (T : Trace C rec ops f0 s0 f1 s1) (q : Nat) : Prop := q < ops.length → (T.pl q).r.k = .E

variable {T : Trace C rec ops f0 s0 f1 s1} {R0 R : Rho} {w0 w : World} {ro : Option Nat} {q : Nat} {listed : Array Bool} {a : Act}

theorem Inv.succ (h : Inv T O N R0 w0 ro q listed a w R) (hq : q < ops.length) (hk : (T.pl q).r.k ≠ .E) : Inv T O N R0 w0 ro (q + 1) listed a w R := by
  have hdone : ∀ k, k < q + 1 → (T.pl k).r.k = .E → doneOf listed (T.pl k).r.i = true := fun k hk' hE => by
    by_cases e : k = q
    · subst e; exact absurd hE hk
    · exact h.done k (by omega) hE
  have hahead : ∀ k, q + 1 ≤ k → k < ops.length → (T.pl k).r.k ≠ .P → doneOf listed (T.pl k).r.i = false := fun k h1 h2 h3 => h.ahead k (by omega) h2 h3
  by_cases hs : (T.pl q).r.k = .P ∨ (T.pl q).r.k = .L ∨ T.G q = false
  · have e := T.same hq hs
    refine ⟨h.size, h.closed, hq, hdone, hahead, fun m hm => ?_, fun j k hj hk' => ?_, by rw [e]; exact h.fwd, by rw [e]; exact h.rel, h.fr, fun k hk' hA hG hD => ?_⟩
    · by_cases em : m = q + 1
      · subst em; rw [e]; exact h.fresh q (Nat.le_refl _)
      · exact h.fresh m (by omega)
    · by_cases ek : k = q + 1
      · subst ek
        by_cases ej : j = q + 1
        · subst ej; exact Nat.le_refl _
        · rw [e]; exact h.mono j q (by omega) (Nat.le_refl _)
      · exact h.mono j k hj (by omega)
    · by_cases ek : k = q
      · subst ek
        rcases hs with hs | hs | hs
        · rw [hs] at hA; cases hA
        · rw [hs] at hA; cases hA
        · rw [hs] at hG; cases hG
      · rw [e]; exact h.late k (by omega) hA hG hD
  · have hA : (T.pl q).r.k = .A := by
      cases e : (T.pl q).r.k with
      | P => exact absurd (.inl e) hs
      | L => exact absurd (.inr (.inl e)) hs
      | A => rfl
      | E => exact absurd e hk
    have hG : T.G q = true := by
      cases e : T.G q with
      | true => rfl
      | false => exact absurd (.inr (.inr e)) hs
    obtain ⟨b, mk, k1, k2, e⟩ := T.made hq hA hG
    have hrel := h.rel.unplaced b
    have hfwd := h.rel.unplaced b
    refine ⟨h.size, h.closed, hq, hdone, hahead, fun m hm => ?_, fun j k hj hk' => ?_, by rw [e]; exact h.fwd.trans (Fwd.unplaced h.rel b), by rw [e]; exact h.rel.unplaced b, h.fr, fun k hk' hA hG hD => ?_⟩
    · by_cases em : m = q + 1
      · subst em; rw [e]; exact hrel.fresh
      · exact h.fresh m (by omega)
    · by_cases ek : k = q + 1
      · subst ek
        by_cases ej : j = q + 1
        · subst ej; exact Nat.le_refl _
        · have := h.mono j q (by omega) (Nat.le_refl _)
          rw [e]
          show _ ≤ (T.S q).next + 1
          omega
      · exact h.mono j k hj (by omega)
    · by_cases ek : k = q
      · subst ek
        exact ⟨h.rel.next_none, b, mk, k1, by rw [e]; exact Tr.get_set_self _ _ _⟩
      · obtain ⟨g1, b', mk', g2, g3⟩ := h.late k (by omega) hA hG hD
        refine ⟨g1, b', mk', g2, ?_⟩
        obtain ⟨_, _, _, _, e'⟩ := T.made (k := k) (by omega) hA hG
        have hlt : (T.S k).next < (T.S q).next := by
          have := h.mono (k + 1) q (by omega) (Nat.le_refl _)
          rw [e'] at this
          exact this
        rw [e]
        show ((T.S q).h.set (T.S q).next b).get (T.S k).next = some b'
        rw [Tr.get_set_ne (by omega)]
        exact g3

theorem Inv.advance : ∀ (d q : Nat), ops.length - q = d → Inv T O N R0 w0 ro q listed a w R → ∃ q', q ≤ q' ∧ Inv T O N R0 w0 ro q' listed a w R ∧ Stop T q'
  | 0, q, hd, h => ⟨q, Nat.le_refl _, h, fun hq => by omega⟩
  | d + 1, q, hd, h => by
    have hq : q < ops.length := by omega
    by_cases hE : (T.pl q).r.k = .E
    · exact ⟨q, Nat.le_refl _, h, fun _ => hE⟩
    · obtain ⟨q', h1, h2, h3⟩ := Inv.advance d (q + 1) (by omega) (h.succ hq hE)
      exact ⟨q', by omega, h2, h3⟩

theorem done_set {i : Nat} (hi : i < listed.size) (j : Nat) : doneOf (listed.setIfInBounds i true) j = if j = i then true else doneOf listed j := by
  unfold doneOf
  by_cases e : j = i
  · subst e; simp [hi]
  · rw [if_neg e, getD_set_ne false (fun q => e q.symm)]

/-- The operations that an operation has to come behind are done when it is its turn. -/
theorem Inv.behind (h : Inv T O N R0 w0 ro q listed a w R) {k : Nat} (hk : k < ops.length) (hp : ∀ e ∈ (T.pl k).r.o.after.toList, Region.binds .any e = true → doneOf listed e.on = true) {x : Nat}
    (hx : has (T.pl k).r.am x = true) : doneOf listed x = true := (T.item k hk).anc (fun i => doneOf listed i = true) h.closed hp x hx

theorem Inv.behind' (h : Inv T O N R0 w0 ro q listed a w R) {k : Nat} (hk : k < ops.length) (hd : doneOf listed (T.pl k).r.i = true) {x : Nat} (hx : has (T.pl k).r.am x = true) : doneOf listed x = true :=
  h.behind hk (fun e he hb => h.closed _ hd _ (T.item k hk).here e he hb) hx

/-- An operation is done. -/
theorem Inv.next (hn : f0.n ≤ 256) (h : Inv T O N R0 w0 ro q listed a w R) {k : Nat} (hk : k < ops.length) (hD : doneOf listed (T.pl k).r.i = false)
    (hp : ∀ e ∈ (T.pl k).r.o.after.toList, Region.binds .any e = true → doneOf listed e.on = true) {q' : Nat} {R' : Rho} {w' : World} {V : Value}
    (hq : q ≤ q') (hq' : q' ≤ ops.length) (hdone : ∀ m, q ≤ m → m < q' → m = k) (hahead : (T.pl k).r.k = .P ∨ k < q') (hfresh : ∀ m, q < m → m ≤ q' → (T.S m).Fresh)
    (hmono : ∀ m, q < m → m ≤ q' → (T.S q).next ≤ (T.S m).next ∧ m = q') (hle : Le R R') (hfwd : Fwd R0 s0 w0 R' (T.S q') w') (hrel : Rel O N R' (T.S q') w') (hV : (T.V k).emb O R' = some V)
    (hlate : ∀ m, m < q' → m ≠ k → (T.pl m).r.k = .A → T.G m = true → doneOf listed (T.pl m).r.i = false → R' (T.S m).next = none ∧ ∃ b mk, opA C (T.pl m).r.o.op (T.F m) = some (b, mk) ∧ (T.S q').h.get (T.S m).next = some b) :
    Inv T O N R0 w0 ro q' (listed.setIfInBounds (T.pl k).r.i true) (a.put (T.pl k).r.o.dst V) w' R' := by
  have hlt : (T.pl k).r.i < listed.size := by
    rw [h.size]
    exact (List.getElem?_eq_some_iff.1 (T.item k hk).here).1
  have hset := fun j => done_set (listed := listed) hlt j
  have keep : ∀ {j}, doneOf listed j = true → doneOf (listed.setIfInBounds (T.pl k).r.i true) j = true := fun {j} hj => by rw [hset]; split <;> first | rfl | exact hj
  have back : ∀ {m}, m < ops.length → m ≠ k → doneOf listed (T.pl m).r.i = false → doneOf (listed.setIfInBounds (T.pl k).r.i true) (T.pl m).r.i = false := fun {m} hm hne hj => by
    rw [hset, if_neg (fun e => hne (T.inj m k hm hk e))]; exact hj
  refine ⟨by simp [h.size], ?_, hq', ?_, ?_, ?_, ?_, hfwd, hrel, ?_, ?_⟩
  · intro i hi o ho e he hb
    apply keep
    by_cases e1 : i = (T.pl k).r.i
    · subst e1
      rw [(T.item k hk).here] at ho
      cases ho
      exact hp e he hb
    · have hi : doneOf (listed.setIfInBounds (T.pl k).r.i true) i = true := hi
      rw [hset, if_neg e1] at hi
      exact h.closed i hi o ho e he hb
  · intro m hm hE
    by_cases e : m < q
    · exact keep (h.done m e hE)
    · have := hdone m (by omega) hm
      subst this
      rw [hset, if_pos rfl]
  · intro m hm1 hm2 hP
    by_cases e : m = k
    · subst e
      rcases hahead with h1 | h1
      · exact absurd h1 hP
      · omega
    · exact back hm2 e (h.ahead m (by omega) hm2 hP)
  · intro m hm
    by_cases e : m ≤ q
    · exact h.fresh m e
    · exact hfresh m (by omega) hm
  · intro j m hj hm
    by_cases e : m ≤ q
    · exact h.mono j m hj e
    · obtain ⟨g1, g2⟩ := hmono m (by omega) hm
      by_cases e2 : j ≤ q
      · exact Nat.le_trans (h.mono j q e2 (Nat.le_refl _)) g1
      · have := (hmono j (by omega) (by omega)).2
        have : j = m := by omega
        subst this
        exact Nat.le_refl _
  · obtain ⟨n1, n2, n3⟩ := T.fr_n (doneOf listed) ops.length
    obtain ⟨m1, m2, m3⟩ := T.fr_n (doneOf (listed.setIfInBounds (T.pl k).r.i true)) ops.length
    have hf := h.fr.mono hle
    have hp := put_eq (T.step k hk).put
    refine ⟨fun t ht => ?_, ?_, ?_, ?_, ?_⟩
    · rw [T.fr_put hn hk hD hset ht (fun e j hj1 hj2 hj3 => ?_) ops.length (Nat.le_refl _)]
      · cases hd : (T.pl k).r.o.dst with
        | none =>
          rw [if_neg (fun e => by cases e.2)]
          exact hf.tmps t ht
        | some d =>
          have hdl : d < a.tmps.size := by
            have := hp.2 d hd
            rw [(T.F_n k (by omega)).1] at this
            rw [hf.size, n1]
            exact this
          show _ = some ((a.tmps.setIfInBounds d V).getD t undef)
          by_cases e : d = t
          · subst e
            rw [if_pos ⟨hk, rfl⟩, hV]
            simp [Array.getD, hdl]
          · rw [if_neg (fun q => e (Option.some.inj q.2)), hf.tmps t ht]
            simp only [Array.getD_eq_getD_getElem?, Array.getElem?_setIfInBounds, if_neg e]
      · rcases T.temps j k hj2 hk t (by simp [e]) hj3 with g | g | g
        · omega
        · have := T.before hj2 hk g; omega
        · cases hx : doneOf listed (T.pl j).r.i with
          | false => rfl
          | true => rw [h.behind' hj2 hx g] at hD; cases hD
    · rw [m1]
      cases hd : (T.pl k).r.o.dst with
      | none => show a.tmps.size = _; rw [hf.size, n1]
      | some d => show (a.tmps.setIfInBounds d V).size = _; rw [Array.size_setIfInBounds, hf.size, n1]
    · rw [m1]; exact hn
    · rw [m2, ← n2]
      have : (a.put (T.pl k).r.o.dst V).defers = a.defers := by cases (T.pl k).r.o.dst <;> rfl
      rw [this]
      exact hf.marks
    · rw [m3, ← n3]; exact hf.rnd
  · intro m hm hA hG hDm
    by_cases e : m = k
    · subst e
      rw [hset, if_pos rfl] at hDm
      cases hDm
    · rw [hset] at hDm
      split at hDm
      · cases hDm
      · exact hlate m hm e hA hG hDm

/-- Where it looks, the frame of what is done is the plan's. -/
theorem Inv.looks (hn : f0.n ≤ 256) (h : Inv T O N R0 w0 ro q listed a w R) {k : Nat} (hk : k < ops.length) (hD : doneOf listed (T.pl k).r.i = false)
    (hp : ∀ e ∈ (T.pl k).r.o.after.toList, Region.binds .any e = true → doneOf listed e.on = true) : ∀ t, t < 256 → t ∈ looks ops (T.pl k).r.o → T2.get (T.fr (doneOf listed) ops.length).t t = T2.get (T.F k).t t := by
  intro t ht hl
  have hm : t ∈ (T.pl k).r.o.dst.toList ++ Ev.looks ops (T.pl k).r.o := List.mem_append_right _ hl
  rw [T.fr_agree hn (doneOf listed) (k := k) ht (fun j hj1 hj2 hj3 => ?_) (fun j hj1 hj2 hj3 => ?_) ops.length (Nat.le_refl _), show min k ops.length = k by omega]
  · rcases T.temps j k hj2 hk t hm hj3 with g | g | g
    · omega
    · exact h.behind hk hp g
    · have := T.before hk hj2 g; omega
  · rcases T.temps j k hj2 hk t hm hj3 with g | g | g
    · rw [g]; exact hD
    · have := T.before hj2 hk g; omega
    · cases hx : doneOf listed (T.pl j).r.i with
      | false => rfl
      | true => rw [h.behind' hj2 hx g] at hD; cases hD

theorem step_ok (hC : C.Ok) (hO : Plain O) (hcall : CallsOk C O N rec) {Q : Exit → Act → World → Prop} {opsA : Array Oper} (hops : opsA.toList = ops) (hn : f0.n ≤ 256)
    (h : Inv T O N R0 w0 ro q listed a w R) (hs : Stop T q) {k : Nat} (hk : k < ops.length) (hD : doneOf listed (T.pl k).r.i = false)
    (hp : ∀ e ∈ (T.pl k).r.o.after.toList, Region.binds .any e = true → doneOf listed e.on = true) {K : Act → World → Prop}
    (hK : ∀ a' w', (∃ q' R', Inv T O N R0 w0 ro q' (listed.setIfInBounds (T.pl k).r.i true) a' w' R' ∧ Stop T q') → K a' w') : wpOpIn (fence ro) 0 C.P opsA Q (T.pl k).r.i K a w := by
  have hlook := h.looks hn hk hD hp
  have hsame := sameOn_of hlook
  have hgs := guarded_same (o := (T.pl k).r.o) hlook
  rw [(T.step k hk).guard] at hgs
  have hw := guarded_ok (ops := opsA) h.fr (by rw [hops]; exact hgs)
  have hit : opsA[(T.pl k).r.i]? = some (T.pl k).r.o := by
    rw [← Array.getElem?_toList, hops]; exact (T.item k hk).here
  -- where it stands
  have place : (T.pl k).r.k ≠ .P → k < q ∨ (k = q ∧ (T.pl k).r.k = .E) := fun hP => by
    by_cases e : k < q
    · exact .inl e
    · have hql : q < ops.length := by omega
      have hE := hs hql
      by_cases e2 : k = q
      · subst e2; exact .inr ⟨rfl, hE⟩
      · have := h.behind hk hp (T.chain q k (by omega) hk hP hE)
        rw [h.ahead q (Nat.le_refl _) hql (by rw [hE]; simp)] at this
        cases this
  have late0 : ∀ m, m < q → m ≠ k → (T.pl m).r.k = .A → T.G m = true → doneOf listed (T.pl m).r.i = false →
      R (T.S m).next = none ∧ ∃ b mk, opA C (T.pl m).r.o.op (T.F m) = some (b, mk) ∧ (T.S q).h.get (T.S m).next = some b := fun m hm _ hA hG hDm => h.late m hm hA hG hDm
  -- no effect: the state stands
  have quiet : ∀ V : Value, ((T.pl k).r.k = .P ∨ k < q) → (T.V k).emb O R = some V → K (a.put (T.pl k).r.o.dst V) w := fun V hpl hV =>
    hK _ _ ⟨q, R, h.next hn hk hD hp (Nat.le_refl _) h.qle (fun m h1 h2 => by omega) hpl (fun m h1 h2 => by omega) (fun m h1 h2 => by omega) (Le.refl R) h.fwd h.rel hV late0, hs⟩
  -- its effect is done: the state goes on
  have turned : ∀ (V : Value) (R' : Rho) (w' : World), k = q → Fwd R (T.S q) w R' (T.S (q + 1)) w' → Rel O N R' (T.S (q + 1)) w' → (T.V k).emb O R' = some V → K (a.put (T.pl k).r.o.dst V) w' := fun V R' w' hkq hf hr hV => by
    subst hkq
    have hE := hs hk
    have hnx := h.next (q' := k + 1) hn hk hD hp (by omega) hk (fun m h1 h2 => by omega) (.inr (by omega)) (fun m h1 h2 => by
        have : m = k + 1 := by omega
        subst this; exact hr.fresh) (fun m h1 h2 => by
        have : m = k + 1 := by omega
        subst this; exact ⟨hf.next, rfl⟩) hf.le (h.fwd.trans hf) hr hV (fun m hm hmk hA hG hDm => by
        obtain ⟨g1, b, mk, g2, g3⟩ := h.late m (by omega) hA hG hDm
        obtain ⟨_, _, _, _, e'⟩ := T.made (k := m) (by omega) hA hG
        have hlt : (T.S m).next < (T.S k).next := by
          have := h.mono (m + 1) k (by omega) (Nat.le_refl _)
          rw [e'] at this
          exact this
        obtain ⟨g4, g5⟩ := hf.idle _ hlt g1
        exact ⟨g4, b, mk, g2, by rw [g5]; exact g3⟩)
    obtain ⟨q', _, h2, h3⟩ := hnx.advance (ops.length - (k + 1)) (k + 1) rfl
    exact hK _ _ ⟨q', R', h2, h3⟩
  unfold wpOpIn
  rw [hit]
  simp only []
  rw [hw]
  cases hg : T.G k with
  | false =>
    rw [if_neg (by simp)]
    refine ⟨fun _ _ => trivial, ?_⟩
    obtain ⟨e1, e2, _⟩ := (T.step k hk).off hg
    have hV : (T.V k).emb O R = some undef := by rw [e1]; rfl
    by_cases hP : (T.pl k).r.k = .P
    · exact quiet undef (.inl hP) hV
    · rcases place hP with hlt | ⟨hkq, _⟩
      · exact quiet undef (.inr hlt) hV
      · subst hkq
        exact turned undef R w rfl (by rw [e2]; exact Fwd.refl _ _ _) (by rw [e2]; exact h.rel) hV
  | true =>
    rw [if_pos rfl]
    have hon := (T.step k hk).on hg
    cases hkd : (T.pl k).r.k with
    | P =>
      have ho : opB C rec (T.pl k).r.o.op (T.fr (doneOf listed) ops.length) (T.S q) = some (T.V k, T.S q) := by
        have := hon.1
        unfold opB at this ⊢
        rw [← (T.item k hk).kind, hkd] at this ⊢
        simp only [] at this ⊢
        rw [opP_same hsame]
        (obtain ⟨v, hv, hh⟩ := bind_some this; clear this; have this := hh; clear hh)
        have e : v = T.V k := congrArg Prod.fst (Option.some.inj this)
        rw [hv, e]
        rfl
      exact op_ok hC hO hcall ho h.rel h.fr fun R' w' V k1 k2 k3 => by
        refine hK _ _ ⟨q, R', h.next hn hk hD hp (Nat.le_refl _) h.qle (fun m h1 h2 => by omega) (.inl hkd) (fun m h1 h2 => by omega) (fun m h1 h2 => by omega) k1.le (h.fwd.trans k1) k2 k3 (fun m hm hmk hA hG hDm => ?_), hs⟩
        obtain ⟨g1, b, mk, g2, g3⟩ := h.late m hm hA hG hDm
        obtain ⟨_, _, _, _, e'⟩ := T.made (k := m) (by have := h.qle; omega) hA hG
        have hlt : (T.S m).next < (T.S q).next := by
          have := h.mono (m + 1) q (by omega) (Nat.le_refl _)
          rw [e'] at this
          exact this
        exact ⟨(k1.idle _ hlt g1).1, b, mk, g2, g3⟩
    | L =>
      have hlt : k < q := by
        rcases place (by rw [hkd]; simp) with h1 | ⟨_, h1⟩
        · exact h1
        · rw [hkd] at h1; cases h1
      have hst := T.stands hkd hg q hlt h.qle (fun i hi => h.fresh i (by omega)) (fun i h1 h2 hE => by
        cases hx : has (T.pl i).r.am (T.pl k).r.i with
        | false => rfl
        | true =>
          have := h.behind' (k := i) (by have := h.qle; omega) (h.done i h2 hE) hx
          rw [hD] at this; cases this)
      have ho : opB C rec (T.pl k).r.o.op (T.fr (doneOf listed) ops.length) (T.S q) = some (T.V k, T.S q) := by
        unfold opB
        rw [← (T.item k hk).kind, hkd]
        simp only []
        rw [opL_same hsame, hst]
        rfl
      exact op_ok hC hO hcall ho h.rel h.fr fun R' w' V k1 k2 k3 => by
        refine hK _ _ ⟨q, R', h.next hn hk hD hp (Nat.le_refl _) h.qle (fun m h1 h2 => by omega) (.inr hlt) (fun m h1 h2 => by omega) (fun m h1 h2 => by omega) k1.le (h.fwd.trans k1) k2 k3 (fun m hm hmk hA hG hDm => ?_), hs⟩
        obtain ⟨g1, b, mk, g2, g3⟩ := h.late m hm hA hG hDm
        obtain ⟨_, _, _, _, e'⟩ := T.made (k := m) (by have := h.qle; omega) hA hG
        have hlt : (T.S m).next < (T.S q).next := by
          have := h.mono (m + 1) q (by omega) (Nat.le_refl _)
          rw [e'] at this
          exact this
        exact ⟨(k1.idle _ hlt g1).1, b, mk, g2, g3⟩
    | A =>
      have hlt : k < q := by
        rcases place (by rw [hkd]; simp) with h1 | ⟨_, h1⟩
        · exact h1
        · rw [hkd] at h1; cases h1
      obtain ⟨g1, b, mk, g2, g3⟩ := h.late k hlt hkd hg hD
      obtain ⟨b', mk', g4, g5, g6⟩ := T.made hk hkd hg
      rw [g2] at g4
      cases g4
      have hidlt : (T.S k).next < (T.S q).next := by
        have := h.mono (k + 1) q hlt (Nat.le_refl _)
        rw [g6] at this
        exact this
      have hid0 : s0.next ≤ (T.S k).next := by
        have := h.mono 0 k (by omega) (by omega)
        rw [T.first.2.1] at this
        exact this
      have hoA : opA C (T.pl k).r.o.op (T.fr (doneOf listed) ops.length) = some (b, mk) := by rw [opA_same hsame]; exact g2
      have ht : TmpsOk O R (T.fr (doneOf listed) ops.length).t (asFrame a).tmps := h.fr.tmps
      have hdf : ∀ c, (T.pl k).r.o.op ≠ .defer c := fun c e => by rw [e] at g2; cases g2
      obtain ⟨hlive, obj, cap, V, d, k1, k2, k3⟩ := opA_ok hC hO ht hoA w
      rw [asFrame_eval] at k1
      have hle := le_upd (m := ⟨w.heap.size, 0, cap⟩) g1
      have hpush : ∀ i, i < w.heap.size → (w.heap.push obj)[i]? = w.heap[i]? := fun i hi => by rw [Array.getElem?_push, if_neg (by omega)]
      have hsz : w.heap.size < (w.heap.push obj).size := by simp
      have hblk : BlkOk O (upd R (T.S k).next ⟨w.heap.size, 0, cap⟩) ⟨w.heap.size, 0, cap⟩ b (w.heap.push obj)[w.heap.size]? := by
        rw [Array.getElem?_push, if_pos rfl]
        exact k2 _ hle
      refine wpIn_of_run hdf k1 (.inl rfl) (hK _ _ ⟨q, upd R (T.S k).next ⟨w.heap.size, 0, cap⟩, h.next hn hk hD hp (Nat.le_refl _) h.qle (fun m h1 h2 => by omega) (.inr hlt) (fun m h1 h2 => by omega) (fun m h1 h2 => by omega) hle
        (h.fwd.late g1 hid0 ⟨w.heap.size, 0, cap⟩ rfl rfl rfl hsz hpush (Nat.le_refl _)) (h.rel.late g1 g3 hidlt ⟨w.heap.size, 0, cap⟩ hsz hpush (Nat.le_refl _) hsz hblk hlive.notRo)
        (by rw [g5]; exact k3 _ _ (upd_self _ _ _)) (fun m hm hmk hA hG hDm => ?_), hs⟩)
      obtain ⟨l1, b2, mk2, l2, l3⟩ := h.late m hm hA hG hDm
      refine ⟨?_, b2, mk2, l2, l3⟩
      rw [upd_ne ?_]
      · exact l1
      · obtain ⟨_, _, _, _, e'⟩ := T.made (k := m) (by have := h.qle; omega) hA hG
        rcases Nat.lt_or_gt_of_ne hmk with hl | hl
        · have := h.mono (m + 1) k (by omega) (by omega)
          rw [e'] at this
          have this : (T.S m).next + 1 ≤ (T.S k).next := this
          omega
        · have := h.mono (k + 1) m (by omega) (by omega)
          rw [g6] at this
          have this : (T.S k).next + 1 ≤ (T.S m).next := this
          omega
    | E =>
      have hkq : k = q := by
        by_cases e : k < q
        · rw [h.done k e hkd] at hD; cases hD
        · rcases place (by rw [hkd]; simp) with h1 | ⟨h1, _⟩
          · exact absurd h1 e
          · exact h1
      subst hkq
      have ho : opB C rec (T.pl k).r.o.op (T.fr (doneOf listed) ops.length) (T.S k) = some (T.V k, T.S (k + 1)) := by
        rw [opB_same hsame]; exact hon.1
      exact op_ok hC hO hcall ho h.rel h.fr fun R' w' V k1 k2 k3 => turned V R' w' rfl k1 k2 k3

/-- When no operation is left, all are done. -/
theorem Inv.over (hn : f0.n ≤ 256) (h : Inv T O N R0 w0 ro q listed a w R) (hs : Stop T q) {opsA : Array Oper} (hops : opsA.toList = ops) (hr : Region.ready .any opsA listed = []) :
    T.S q = s1 ∧ FrOk O R f1 a ro := by
  have hall : ∀ k, k < ops.length → doneOf listed (T.pl k).r.i = true := by
    intro k
    induction k using Nat.strongRecOn with
    | _ k ih =>
      intro hk
      cases hx : doneOf listed (T.pl k).r.i with
      | true => rfl
      | false =>
        exfalso
        have hlt : (T.pl k).r.i < listed.size := by
          rw [h.size]
          exact (List.getElem?_eq_some_iff.1 (T.item k hk).here).1
        have : (T.pl k).r.i ∈ Region.ready .any opsA listed := mem_ready.2 ⟨by
            unfold doneOf at hx
            simp only [Array.getD_eq_getD_getElem?, Array.getElem?_eq_getElem hlt, Option.getD_some] at hx ⊢
            exact hx, (T.pl k).r.o, by rw [← Array.getElem?_toList, hops]; exact (T.item k hk).here, fun e he hb => by
            obtain ⟨j, hj, e'⟩ := T.topo k hk e (by simpa using he) hb
            rw [← e']
            exact ih j hj (by omega)⟩
        rw [hr] at this
        cases this
  have hq : q = ops.length := by
    by_cases e : q < ops.length
    · have := h.ahead q (Nat.le_refl _) e (by rw [hs e]; simp)
      rw [hall q e] at this
      cases this
    · have := h.qle; omega
  subst hq
  obtain ⟨n1, n2, n3⟩ := T.fr_n (doneOf listed) ops.length
  obtain ⟨m1, m2, m3⟩ := T.F_n ops.length (Nat.le_refl _)
  have hf := h.fr
  refine ⟨T.last.2, ?_⟩
  rw [← T.last.1]
  refine ⟨fun t ht => ?_, by rw [hf.size, n1, m1], by rw [m1]; exact hn, by rw [m2, ← n2]; exact hf.marks, by rw [m3, ← n3]; exact hf.rnd⟩
  have := hf.tmps t ht
  rw [T.fr_agree hn (doneOf listed) (k := ops.length) ht (fun j _ hj _ => hall j hj) (fun j h1 h2 => by omega) ops.length (Nat.le_refl _), Nat.min_self] at this
  exact this

theorem any_ok (hC : C.Ok) (hO : Plain O) (hcall : CallsOk C O N rec) {Q : Exit → Act → World → Prop} {opsA : Array Oper} (hops : opsA.toList = ops) (hn : f0.n ≤ 256) (hK : After O N R0 s0 w0 ro f1 s1 (Q .normal)) :
    ∀ (fuel : Nat) (listed : Array Bool) (a : Act) (w : World), (∃ q R, Inv T O N R0 w0 ro q listed a w R ∧ Stop T q) →
      (∃ L : List Nat, L.Nodup ∧ (∀ i ∈ L, i < ops.length ∧ doneOf listed i = true) ∧ ops.length ≤ L.length + fuel) → wpAnyIn (fence ro) 0 C.P .any opsA Q fuel listed a w := by
  intro fuel
  have fin : ∀ (listed : Array Bool) (a : Act) (w : World), (∃ q R, Inv T O N R0 w0 ro q listed a w R ∧ Stop T q) → Region.ready .any opsA listed = [] → Q .normal a w := by
    rintro listed a w ⟨q, R, h, hs⟩ hr
    obtain ⟨e, hf⟩ := h.over hn hs hops hr
    have h1 := h.fwd
    have h2 := h.rel
    rw [e] at h1 h2
    exact hK R w a h1 h2 hf
  have hsz : opsA.size = ops.length := by rw [← hops, Array.length_toList]
  induction fuel with
  | zero =>
    rintro listed a w hi ⟨L, hL1, hL2, hL3⟩
    have hr : Region.ready .any opsA listed = [] := by
      rw [List.eq_nil_iff_forall_not_mem]
      intro j hj
      obtain ⟨h1, o, ho, _⟩ := mem_ready.1 hj
      have hj' : j < ops.length := by rw [← hsz]; exact (Array.getElem?_eq_some_iff.1 ho).1
      have := (hL2 j (pigeon_all hL1 (fun x hx => (hL2 x hx).1) (by omega) hj')).2
      unfold doneOf at this
      obtain ⟨q, R, h, _⟩ := hi
      have hlt : j < listed.size := by rw [h.size]; exact hj'
      simp only [Array.getD_eq_getD_getElem?, Array.getElem?_eq_getElem hlt, Option.getD_some] at h1 this
      rw [h1] at this; cases this
    exact ⟨hr, fin listed a w hi hr⟩
  | succ fuel ih =>
    rintro listed a w hi ⟨L, hL1, hL2, hL3⟩
    refine ⟨fin listed a w hi, fun i hr => ?_⟩
    obtain ⟨q, R, h, hs⟩ := hi
    obtain ⟨h1, o, ho, hall⟩ := mem_ready.1 hr
    have hilt : i < ops.length := by rw [← hsz]; exact (Array.getElem?_eq_some_iff.1 ho).1
    obtain ⟨k, hk, rfl⟩ := T.all i hilt
    have hlt : (T.pl k).r.i < listed.size := by rw [h.size]; exact hilt
    have hoo : o = (T.pl k).r.o := by
      rw [← Array.getElem?_toList, hops, (T.item k hk).here] at ho
      exact (Option.some.inj ho).symm
    subst hoo
    have hD : doneOf listed (T.pl k).r.i = false := by
      unfold doneOf
      simp only [Array.getD_eq_getD_getElem?, Array.getElem?_eq_getElem hlt, Option.getD_some] at h1 ⊢
      exact h1
    refine step_ok hC hO hcall hops hn h hs hk hD (fun e he hb => hall e (by simpa using he) hb) fun a' w' hx => ih _ a' w' hx ⟨(T.pl k).r.i :: L, List.nodup_cons.2 ⟨fun hm => ?_, hL1⟩, fun j hj => ?_, by simp only [List.length_cons]; omega⟩
    · rw [(hL2 _ hm).2] at hD; cases hD
    · rcases List.mem_cons.1 hj with rfl | hj
      · exact ⟨hilt, by rw [done_set hlt, if_pos rfl]⟩
      · refine ⟨(hL2 j hj).1, ?_⟩
        rw [done_set hlt]
        split
        · rfl
        · exact (hL2 j hj).2

end

theorem draw_ok {C : Ctx} {O : Nat → Value} {N : Nat} (hC : C.Good) (hO : Plain O) {rec : ExecT} (hcall : CallsOk C O N rec) : DrawOk C O N rec := by
  intro id ops f s f' s' h R w a ro Q hr hf hK
  obtain ⟨T⟩ := trace_of h
  refine wpIn_region_any hC.mixed ?_
  have hr' := hr.drawn (w.drawn + 1)
  have hget : ∀ i, doneOf (Array.replicate ops.size false) i = false := fun i => by
    unfold doneOf
    rw [Array.getD_eq_getD_getElem?, Array.getElem?_replicate]
    split <;> rfl
  have hinv : Inv T O N R { w with drawn := w.drawn + 1 } ro 0 (Array.replicate ops.size false) a { w with drawn := w.drawn + 1 } R := by
    refine ⟨by simp, fun i hi => (by have hi : doneOf (Array.replicate ops.size false) i = true := hi; rw [hget] at hi; cases hi), by omega, fun k hk => by omega, fun k _ _ _ => hget _, fun m hm => ?_, fun j k hj hk => ?_, ?_, ?_, ?_, fun k hk => by omega⟩
    · rw [show m = 0 by omega, T.first.2.1]; exact hr.fresh
    · rw [show k = 0 by omega, show j = 0 by omega]; exact Nat.le_refl _
    · rw [T.first.2.1]; exact Fwd.refl _ _ _
    · rw [T.first.2.1]; exact hr'
    · have e : T.fr (doneOf (Array.replicate ops.size false)) ops.toList.length = f := by
        have : ∀ m, T.fr (doneOf (Array.replicate ops.size false)) m = f := by
          intro m
          induction m with
          | zero => rfl
          | succ m ih => show (if _ then _ else _) = f; rw [if_neg (by rw [hget]; simp)]; exact ih
        exact this _
      rw [e]
      exact hf
  obtain ⟨q, _, h1, h2⟩ := hinv.advance _ 0 rfl
  exact any_ok (T := T) hC.toOk hO hcall rfl hf.small (hK.fwd (Fwd.drawn _)) ops.size _ _ _ ⟨q, R, h1, h2⟩ ⟨[], List.nodup_nil, fun _ h => (by cases h), by simp⟩

end Go.Ev

/- THE EVALUATOR'S WORD IS TRUE. -/
namespace Go.Ev
open Go.RowKit

section
variable {C : Ctx} {O : Nat → Value} {N : Nat}

theorem loop_ok {rec : ExecT} {n : Nat} (hcode : SoundC C O N (runC C rec)) (hloop : SoundL C O N n rec) : SoundL C O N (n + 1) (runC C rec) := by
  intro x f s ex f' s' h R w a ro Q hr hf hK
  have h : (runC C rec x f s).bind (fun r => match r with
    | (.normal, f', s') => rec (.loop x) f' s'
    | (.exit i, f', s') => some (.exit i, f', s')
    | (.ret, f', s') => some (.ret, f', s')) = some (ex, f', s') := h
  (obtain ⟨r, hx, hh⟩ := bind_some h; clear h; have h := hh; clear hh)
  obtain ⟨e1, f1, s1⟩ := r
  rw [roundsIn_succ]
  refine hcode x f s e1 f1 s1 hx R w a ro _ hr hf fun R' w' a' h1 h2 h3 => ?_
  cases e1 with
  | normal => exact hloop x f1 s1 ex f' s' h R' w' a' ro Q h2 h3 (hK.fwd h1)
  | exit i => cases h; exact hK R' w' a' h1 h2 h3
  | ret => cases h; exact hK R' w' a' h1 h2 h3

theorem exec_ok (hC : C.Good) (hO : Plain O) : ∀ n, SoundC C O N (exec C n) ∧ SoundL C O N n (exec C n)
  | 0 => ⟨fun _ _ _ _ _ _ h => (by cases h), fun _ _ _ _ _ _ h => (by cases h)⟩
  | n + 1 => by
    obtain ⟨h1, h2⟩ := exec_ok hC hO n
    have hcall := calls_ok hC h1
    have hcode : SoundC C O N (runC C (exec C n)) := code_ok hC hO hcall h2 (draw_ok hC hO hcall) (range_ok hC h1)
    exact ⟨hcode, loop_ok hcode h2⟩

theorem fence_none : fence none = Fence.wide := rfl

/-- A call that the evaluator runs is one that the model makes, in every world and on every tape. -/
theorem run_ok (hC : C.Good) (hO : Plain O) {fuel g : Nat} {fn : Func} {body : Code} (hfn : C.fns g = some fn) (hb : fn.body = some body) {args : List AV} {vals : List Value} {v : TV} {s s' : St} {R : Rho} {w : World}
    (h : callB C (exec C fuel) g args s = some (v, s')) (hr : Rel O N R s w) (hv : eachR (AV.emb O R) args = some vals) {K : Ending → World → Prop} (hK : Leaves O N R s w s' v (fun V w' => K (.returned V) w')) :
    Calls C.P g vals.toArray w K := by
  have := callBody_ok (ro := none) hC (exec_ok hC hO fuel).1 hfn hb h hr hv hK
  rw [fence_none] at this
  exact callsIn_wide.1 this

/-- No block yet. -/
theorem rel_nil (O : Nat → Value) (w : World) : Rel O w.heap.size (fun _ => none) ⟨.nil, 0⟩ w where
  dom _ _ h := by cases h
  live _ _ _ h := by cases h
  inj _ _ _ _ _ _ h := by cases h
  size := Nat.le_refl _
  fresh _ _ := rfl
  ro _ _ _ h := by cases h

theorem fwd_below {R : Rho} {s s' : St} {w w' : World} (h : Fwd (fun _ => none) s w R s' w') : Below w.heap.size w w' :=
  ⟨h.os, h.tape, h.output, h.grow, fun k hk => h.keep k hk fun ⟨_, _, _, _, _, e, _⟩ => (by cases e)⟩

theorem plain_true : Plain (fun _ => Value.bool true) := fun _ => rfl

/-- A closed call that comes out true. -/
theorem says_true (hC : C.Good) {fuel g : Nat} {fn : Func} {body : Code} (hfn : C.fns g = some fn) (hb : fn.body = some body) (h : saysTrue C fuel g = true) (w : World) :
    Calls C.P g #[] w fun e w' => e = .returned (.bool true) ∧ Below w.heap.size w w' := by
  unfold saysTrue at h
  split at h
  · rename_i s' e
    refine run_ok (O := fun _ => Value.bool true) hC plain_true hfn hb e (rel_nil _ w) (vals := []) rfl fun R' w' V h1 _ h3 => ⟨?_, fwd_below h1⟩
    cases h3
    rfl
  · cases h

end
end Go.Ev

