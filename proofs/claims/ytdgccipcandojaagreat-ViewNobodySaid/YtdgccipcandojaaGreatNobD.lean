/- Lemmas. -/
import Derived.Test.YtdgccipcandojaaGreatNobC
import Derived.Test.YtdgccipcandojaaGreatRows
namespace Go.Proofs.YtdgccipcandojaaGreat
open Go Go.Ev Go.RowKit Go.ChangeShapes Go.WideShapes Go.ChangeAt

theorem FieldOk.keep {s s' : St} {l : List SV} (h : FieldOk s l) (hk : Keeps s s') : FieldOk s' l := by
  obtain ⟨k0, opts, m4, m5, m6, m7, m8, dN, dB, dL, dF, nm, lb, dS, sh, ck, len, dlen, e, h1, h2⟩ := h
  exact ⟨k0, opts, m4, m5, m6, m7, m8, dN, dB, dL, dF, nm, lb, dS, sh, ck, len, dlen, e, h1.keep hk, h2⟩

theorem Flds.keep {s s' : St} {v : SV} {len most : Nat} (h : Flds s v len most) (hk : Keeps s s') : Flds s' v len most := by
  rcases h with h | ⟨id, eo, c, cc, e, h1, h2, h3, h4⟩
  · exact .inl h
  · exact .inr ⟨id, eo, c, cc, e, h1, Nat.lt_of_lt_of_le h2 hk.next, get_kept hk h2 h3, fun i hi hm => let ⟨l, g1, g2⟩ := h4 i hi hm; ⟨l, g1, g2.keep hk⟩⟩

/-- The first statement. -/
theorem run_R0 (T : T2 TV) (s : St) (l : List SV) (h0 : T2.get T 0 = .v (.agg l)) : CodK CY R0c ⟨T, 90, [], none⟩ s fun ex f' s' => ex = .normal ∧ f' = ⟨T2.set (T2.set T 3 (.v (.s (.ptr s.next 0)))) 6 (.v (.s (.bool false))), 90, [], none⟩ ∧
    s' = ⟨s.h.set s.next (boxOf 25 (.agg l)), s.next + 1⟩ := by
  refine CodK.region ?_
  refine OpsK.on rfl (o_box (evA_tmp rfl (by (repeat (first | with_reducible assumption | ((with_reducible apply get_skip_of); (focus decide); (focus decide); (focus decide)) | ((with_reducible apply get_same_of); (focus decide); exact rfl)))))) (put_tmp rfl) ?_
  refine OpsK.on rfl (o_assign rfl) (put_tmp rfl) ?_
  exact OpsK.nil ⟨rfl, rfl, rfl⟩

/-- The second one. -/
theorem run_R1 (t : T2 TV) (s : St) (A : Nat) (ti : List UInt8) (fl ru ro : SV) {len rlen : Nat} (hF : Flds s fl len 12) (hR : Strs s ru rlen 18) (h3 : T2.get t 3 = .v (.s (.ptr A 0))) (hA : A < s.next)
    (mA : s.h.get A = some (.cells 4 (.ls [.str ti, fl, ru, ro]) 4 true 0 25)) : CodK CY R1c ⟨t, 90, [], none⟩ s fun ex f' s' => ex = .normal ∧ ∃ l0 l1 l2 l3, f' = ⟨T2.set (T2.set t 16 (.v (.agg [.str ti, fl, ru, ro]))) 17 (.v (.agg [l0, l1, l2, l3])), 90, [], none⟩ ∧
      s'.h.get A = some (.cells 4 (.ls [l0, l1, l2, l3]) 4 true 0 25) := by
  refine CodK.region ?_
  refine OpsK.on rfl (o_loadN (evS_tmp rfl (by (repeat (first | with_reducible assumption | ((with_reducible apply get_skip_of); (focus decide); (focus decide); (focus decide)) | ((with_reducible apply get_same_of); (focus decide); exact rfl))))) g25 z25 (loadN_of mA rfl)) (put_tmp rfl) ?_
  refine OpsK.call rfl rfl rfl (eachR_cons_of (evA_tmp rfl (by (repeat (first | with_reducible assumption | ((with_reducible apply get_skip_of); (focus decide); (focus decide); (focus decide)) | ((with_reducible apply get_same_of); (focus decide); exact rfl))))) rfl) ?_
  refine RetK.mono (few ti fl ru ro s hF hR) fun v s1 ⟨⟨l, e, hl⟩, hk⟩ => ?_
  subst e
  match l, hl with
  | [l0, l1, l2, l3], _ =>
    have mA1 := get_kept hk hA mA
    refine ⟨_, put_tmp rfl, ?_⟩
    refine OpsK.on rfl (o_store (evS_tmp rfl (by (repeat (first | with_reducible assumption | ((with_reducible apply get_skip_of); (focus decide); (focus decide); (focus decide)) | ((with_reducible apply get_same_of); (focus decide); exact rfl))))) (evA_tmp rfl (by (repeat (first | with_reducible assumption | ((with_reducible apply get_skip_of); (focus decide); (focus decide); (focus decide)) | ((with_reducible apply get_same_of); (focus decide); exact rfl))))) z25 (storeL_of mA1 rfl) (by rfl)) put_none ?_
    exact OpsK.nil ⟨rfl, l0, l1, l2, l3, rfl, get_here'⟩

theorem get_put3 (x0 x1 x2 : TV) (i : Nat) (hi : i < 256) : T2.get (T2.put T2.new 0 [x0, x1, x2]) i = if i = 2 then x2 else if i = 1 then x1 else if i = 0 then x0 else undefT := by
  show T2.get (T2.set (T2.set (T2.set T2.new 0 x0) (0 + 1) x1) (0 + 1 + 1) x2) i = _
  rw [T2.get_set _ _ _ _ (by omega) hi, T2.get_set _ _ _ _ (by omega) hi, T2.get_set _ _ _ _ (by omega) hi, T2.get_new]

theorem get_set7 (v0 v1 v2 v3 v6 v16 v17 : TV) (i : Nat) (hi : i < 256) : T2.get (set7 v0 v1 v2 v3 v6 v16 v17) i =
    if i = 17 then v17 else if i = 16 then v16 else if i = 6 then v6 else if i = 3 then v3 else if i = 2 then v2 else if i = 1 then v1 else if i = 0 then v0 else undefT := by
  unfold set7
  rw [T2.get_set _ _ _ _ (by omega) hi, T2.get_set _ _ _ _ (by omega) hi, T2.get_set _ _ _ _ (by omega) hi, T2.get_set _ _ _ _ (by omega) hi, get_put3 _ _ _ _ hi]

/-- What the values that are not looked into are. -/
def oY (v1 v2 : Value) (p q r : Nat → Value) (k : Nat) : Value :=
  if k = 1 then v1 else if k = 2 then v2 else if 10 ≤ k ∧ k < 14 then p (k - 10) else if 20 ≤ k ∧ k < 24 then q (k - 20) else if 24 ≤ k ∧ k < 28 then r (k - 24) else .bool true

theorem emb4 {O : Nat → Value} {R : Rho} {a b c d : SV} {V : Value} (h : (AV.agg [a, b, c, d]).emb O R = some V) : ∃ v : Nat → Value, V = .agg #[v 0, v 1, v 2, v 3] ∧ a.emb O R = some (v 0) ∧ b.emb O R = some (v 1) ∧ c.emb O R = some (v 2) ∧ d.emb O R = some (v 3) := by
  simp only [AV.emb] at h
  obtain ⟨l, hl, rfl⟩ := Option.map_eq_some_iff.1 h
  obtain ⟨x0, la, h0, hla, e⟩ := eachR_cons_some hl
  obtain ⟨x1, lb, h1, hlb, e1⟩ := eachR_cons_some hla
  obtain ⟨x2, lc, h2, hlc, e2⟩ := eachR_cons_some hlb
  obtain ⟨x3, ld, h3, hld, e3⟩ := eachR_cons_some hlc
  cases hld
  subst e3 e2 e1 e
  exact ⟨fun i => match i with | 0 => x0 | 1 => x1 | 2 => x2 | _ => x3, rfl, h0, h1, h2, h3⟩

/-- THE REST, FROM WHEREVER FEW HAS LEFT THE MACHINE. -/
theorem rest_ok {O : Nat → Value} (hO : Plain O) {N : Nat} {R : Rho} {s : St} {w : World} {a : Act} {A : Nat} {c0 c1 c2 c3 d0 d1 d2 d3 l0 l1 l2 l3 : SV} {w1 w2 : Int} (hr : Rel O N R s w)
    (hf : FrOk O R ⟨set7 (.v (.agg [c0, c1, c2, c3])) (.v (.s (.int .i64 w1))) (.v (.s (.int .i64 w2))) (.v (.s (.ptr A 0))) (.v (.s (.bool false))) (.v (.agg [d0, d1, d2, d3])) (.v (.agg [l0, l1, l2, l3])), 90, [], none⟩ a none)
    (mA : s.h.get A = some (.cells 4 (.ls [l0, l1, l2, l3]) 4 true 0 25)) {K : Ending → World → Prop} (hK : ∀ w', (∀ b, b < N → w'.heap[b]? = w.heap[b]?) → w'.os = w.os → w'.tape = w.tape → w'.output = w.output → w.heap.size ≤ w'.heap.size → K (.returned (.bool true)) w') :
    rest3.wpIn (fence none) 0 CY.P (bodyPostM (fence none) 0 CY.P Tryz.f3 K) a w := by
  have ht := hf.tmps
  have tt : ∀ i, i < 256 → _ := fun i hi => (congrArg (TV.emb O R) (get_set7 _ _ _ _ _ _ _ i hi)).symm.trans (ht i hi)
  have t0 := tt 0 (by omega)
  have t1 := tt 1 (by omega)
  have t2 := tt 2 (by omega)
  have t3 := tt 3 (by omega)
  have t6 := tt 6 (by omega)
  have t16 := tt 16 (by omega)
  have t17 := tt 17 (by omega)
  simp only [reduceIte, Nat.reduceEqDiff] at t0 t1 t2 t3 t6 t16 t17
  obtain ⟨q, e0, q0, q1, q2, q3⟩ := emb4 (show (AV.agg [c0, c1, c2, c3]).emb O R = _ from t0)
  obtain ⟨r, e16, r0, r1, r2, r3⟩ := emb4 (show (AV.agg [d0, d1, d2, d3]).emb O R = _ from t16)
  obtain ⟨p, e17, p0, p1, p2, p3⟩ := emb4 (show (AV.agg [l0, l1, l2, l3]).emb O R = _ from t17)
  obtain ⟨m, hm, e3⟩ := ptr_emb (O := O) (show (SV.ptr A 0).emb O R = _ from t3)
  obtain ⟨m1, m2, cs, fr, hobj, hcells⟩ := hr.live A _ m mA trivial hm
  have one : ∀ {x : SV} {v : Value}, x.emb O R = some v → v.oneCell' = true := fun h => SV.emb_one hO h
  have hO' : Plain (oY (.int .i64 w1) (.int .i64 w2) p q r) := by
    intro k
    unfold oY
    split
    · rfl
    · split
      · rfl
      · split
        · rename_i h
          have : k - 10 = 0 ∨ k - 10 = 1 ∨ k - 10 = 2 ∨ k - 10 = 3 := by omega
          rcases this with e | e | e | e <;> rw [e]
          · exact one p0
          · exact one p1
          · exact one p2
          · exact one p3
        · split
          · rename_i h
            have : k - 20 = 0 ∨ k - 20 = 1 ∨ k - 20 = 2 ∨ k - 20 = 3 := by omega
            rcases this with e | e | e | e <;> rw [e]
            · exact one q0
            · exact one q1
            · exact one q2
            · exact one q3
          · split
            · rename_i h
              have : k - 24 = 0 ∨ k - 24 = 1 ∨ k - 24 = 2 ∨ k - 24 = 3 := by omega
              rcases this with e | e | e | e <;> rw [e]
              · exact one r0
              · exact one r1
              · exact one r2
              · exact one r3
            · rfl
  have hR0 : (fun i => if i = 0 then some m else none : Rho) 0 = some m := rfl
  have hRn : ∀ i mm, (fun i => if i = 0 then some m else none : Rho) i = some mm → i = 0 ∧ mm = m := fun i mm h => by
    have h : (if i = 0 then some m else none) = some mm := h
    split at h
    · cases h; exact ⟨by assumption, rfl⟩
    · cases h
  have hget : s2lit.h.get 0 = some (.cells 4 (.ls [.opq 10, .opq 11, .opq 12, .opq 13]) 4 true 0 25) := rfl
  have hrel : Rel (oY (.int .i64 w1) (.int .i64 w2) p q r) N (fun i => if i = 0 then some m else none) s2lit w := by
    refine ⟨fun i mm h => ?_, fun i b mm hb hl h => ?_, fun i j bi bj mi mj _ _ _ _ hi hj _ => ?_, hr.size, fun i hi => ?_, fun i c mm hb h => ?_⟩
    · obtain ⟨rfl, _⟩ := hRn i mm h; exact Nat.zero_lt_one
    · obtain ⟨rfl, rfl⟩ := hRn i mm h
      rw [hget] at hb
      cases hb
      refine ⟨m1, m2, cs, fr, hobj, { hcells with cell := fun j v hj hv => ?_ }⟩
      have hj : j = 0 ∨ j = 1 ∨ j = 2 ∨ j = 3 := by omega
      rcases hj with rfl | rfl | rfl | rfl
      · cases hv; obtain ⟨V, g1, g2⟩ := hcells.cell 0 l0 (by omega) rfl; rw [p0] at g1; cases g1; exact ⟨_, rfl, g2⟩
      · cases hv; obtain ⟨V, g1, g2⟩ := hcells.cell 1 l1 (by omega) rfl; rw [p1] at g1; cases g1; exact ⟨_, rfl, g2⟩
      · cases hv; obtain ⟨V, g1, g2⟩ := hcells.cell 2 l2 (by omega) rfl; rw [p2] at g1; cases g1; exact ⟨_, rfl, g2⟩
      · cases hv; obtain ⟨V, g1, g2⟩ := hcells.cell 3 l3 (by omega) rfl; rw [p3] at g1; cases g1; exact ⟨_, rfl, g2⟩
    · rw [(hRn i mi hi).1, (hRn j mj hj).1]
    · have : 1 ≤ i := hi
      show (Tr.nil.set 0 _).get i = none
      rw [Tr.get_set_ne (by omega)]; rfl
    · obtain ⟨rfl, rfl⟩ := hRn i mm h
      rw [hget] at hb
      cases hb
  have hfr : FrOk (oY (.int .i64 w1) (.int .i64 w2) p q r) (fun i => if i = 0 then some m else none) ⟨t2lit, 90, [], none⟩ a none := by
    refine ⟨fun i hi => ?_, hf.size, by decide, ?_, trivial⟩
    · show (T2.get (set7 _ _ _ _ _ _ _) i).emb _ _ = _
      rw [get_set7 _ _ _ _ _ _ _ i hi]
      have ti := tt i hi
      by_cases h17 : i = 17
      · subst h17; exact (congrArg some e17).symm
      rw [if_neg h17] at ti ⊢
      by_cases h16 : i = 16
      · subst h16; exact (congrArg some e16).symm
      rw [if_neg h16] at ti ⊢
      by_cases h6 : i = 6
      · subst h6; exact t6
      rw [if_neg h6] at ti ⊢
      by_cases h3 : i = 3
      · subst h3; exact (congrArg some e3).symm
      rw [if_neg h3] at ti ⊢
      by_cases h2 : i = 2
      · subst h2; exact t2
      rw [if_neg h2] at ti ⊢
      by_cases h1 : i = 1
      · subst h1; exact t1
      rw [if_neg h1] at ti ⊢
      by_cases h0 : i = 0
      · subst h0; exact (congrArg some e0).symm
      rw [if_neg h0] at ti ⊢
      exact ti
    · have := hf.marks
      cases hd : a.defers with
      | nil => trivial
      | cons x l => rw [hd] at this; exact this
  obtain ⟨ex, t', ms', s', hrun, hend⟩ := comp_ok rest3 ⟨fexec CY 3000, 90, none⟩ t2lit [] s2lit _ (fexec_ok 3000) restX
  have hend2 : (∀ i, ex ≠ .exit i) ∧ ms' = [] ∧ T2.get t' 6 = .v (.s (.bool true)) := by
    unfold okEnd at hend
    split at hend
    · cases hend
    · rename_i hne
      split at hend
      · split at hend
        · rename_i h6; exact ⟨fun i e => hne i e, rfl, h6⟩
        · cases hend
      · cases hend
  obtain ⟨hne, rfl, h6⟩ := hend2
  refine (exec_ok goodY hO' 3001).1 rest3 ⟨t2lit, 90, [], none⟩ s2lit ex ⟨t', 90, [], none⟩ s' hrun _ w a none _ hrel hfr fun R3 w3 a3 g1 g2 g3 => ?_
  refine end_ok okY hne g2 g3 rfl (vs := [.s (.bool true)]) (eachR_cons_of (res_tmp rfl h6) rfl) fun w4 V k1 k2 => ?_
  cases k2
  have hfw := g1.trans k1
  refine hK w4 (fun b hb => hfw.keep b (Nat.lt_of_lt_of_le hb hr.size) ?_) hfw.os hfw.tape hfw.output hfw.grow
  rintro ⟨i, bl, mm, _, _, hmm, e⟩
  obtain ⟨_, rfl⟩ := hRn i mm hmm
  omega

end Go.Proofs.YtdgccipcandojaaGreat

namespace Go.Proofs.YtdgccipcandojaaGreat
open Go Go.Ev Go.RowKit Go.ChangeShapes Go.WideShapes Go.ChangeAt

theorem desc_one {W : World} {H : Type} {enc : TypeId × Value → H} {fuel : Nat} {x0 x1 x2 x3 : Value} {y : DataW H × List MemPlace} (h : DataW.trod enc Tryz.prog W 0 (fun _ => true) true fuel 25 [x0, x1, x2, x3] = some y) :
    ∀ v ∈ [x0, x1, x2, x3], v.oneCell' = true := by
  obtain ⟨xs, n, rfl, _, _, hxl, hx⟩ := DataW.trod_struct Tryz.underlying25 h
  have hsz : xs.length = 4 := hxl
  obtain ⟨y0, h0⟩ : ∃ y, DataW.trod enc Tryz.prog W 0 (fun _ => true) true n 9 [x0] = some y := ⟨xs[0], by have this : DataW.trod enc Tryz.prog W 0 (fun _ => true) true n 9 (List.take (Tryz.prog.cellsOf 9) (List.drop 0 [x0, x1, x2, x3])) = xs[0]? := hx 0 _ rfl; rw [c9] at this; exact this.trans (List.getElem?_eq_getElem (by omega))⟩
  obtain ⟨y1, h1⟩ : ∃ y, DataW.trod enc Tryz.prog W 0 (fun _ => true) true n 22 [x1] = some y := ⟨xs[1], by have this : DataW.trod enc Tryz.prog W 0 (fun _ => true) true n 22 (List.take (Tryz.prog.cellsOf 22) (List.drop 1 [x0, x1, x2, x3])) = xs[1]? := hx 1 _ rfl; rw [c22] at this; exact this.trans (List.getElem?_eq_getElem (by omega))⟩
  obtain ⟨y2, h2⟩ : ∃ y, DataW.trod enc Tryz.prog W 0 (fun _ => true) true n 23 [x2] = some y := ⟨xs[2], by have this : DataW.trod enc Tryz.prog W 0 (fun _ => true) true n 23 (List.take (Tryz.prog.cellsOf 23) (List.drop 2 [x0, x1, x2, x3])) = xs[2]? := hx 2 _ rfl; rw [c23] at this; exact this.trans (List.getElem?_eq_getElem (by omega))⟩
  obtain ⟨y3, h3⟩ : ∃ y, DataW.trod enc Tryz.prog W 0 (fun _ => true) true n 3 [x3] = some y := ⟨xs[3], by have this : DataW.trod enc Tryz.prog W 0 (fun _ => true) true n 3 (List.take (Tryz.prog.cellsOf 3) (List.drop 3 [x0, x1, x2, x3])) = xs[3]? := hx 3 _ rfl; rw [c3] at this; exact this.trans (List.getElem?_eq_getElem (by omega))⟩
  obtain ⟨_, e0, _⟩ := DataW.trod_string Tryz.underlying9 h0
  obtain ⟨_, e3, _⟩ := DataW.trod_int Tryz.underlying3 h3
  have sl : ∀ (e t : Nat) (_ : Tryz.prog.underlying t = some (.slice e)) (v : Value) (y : DataW H × List MemPlace), DataW.trod enc Tryz.prog W 0 (fun _ => true) true n t [v] = some y → v.oneCell' = true := fun _ _ ht v y h => by
    rcases DataW.trod_slice ht h with ⟨e, _⟩ | ⟨_, _, _, _, _, _, _, e, _⟩ <;> (cases e; rfl)
  cases e0; cases e3
  intro v hv
  simp only [List.mem_cons, List.not_mem_nil, or_false] at hv
  rcases hv with rfl | rfl | rfl | rfl
  · rfl
  · exact sl _ _ Tryz.underlying22 _ _ h1
  · exact sl _ _ Tryz.underlying23 _ _ h2
  · rfl

/-- THE CALL. -/
theorem nobody (W : World) {H : Type} {enc : TypeId × Value → H} {fuel : Nat} {x0 x1 x2 x3 : Value} {y : DataW H × List MemPlace} (h : DataW.trod enc Tryz.prog W 0 (fun _ => true) true fuel 25 [x0, x1, x2, x3] = some y) (w1 w2 : Int) :
    Calls Tryz.prog 3 #[.agg #[x0, x1, x2, x3], .int .i64 w1, .int .i64 w2] W fun e W' => e = .returned (.bool true) ∧ Below W.heap.size W W' := by
  obtain ⟨B, hB⟩ := exists_bound W
  let F : Foreign := ⟨W, B, 4, shY, [x0, x1, x2, x3], hB, desc_one h⟩
  have hF : F.sh = shY := rfl
  obtain ⟨a0, a1, a2, a3, len, rlen, e0, e1, e2, e3, hA, hB2⟩ := desc_in (F := F) hF rfl h (F.N * F.B + 0) (F.N * F.B + 1) (F.N * F.B + 2) (F.N * F.B + 3)
  have hv : eachR (AV.emb F.O F.rho) [.agg [.str a0, a1, a2, a3], .s (.int .i64 w1), .s (.int .i64 w2)] = some [.agg #[x0, x1, x2, x3], .int .i64 w1, .int .i64 w2] := by
    have hl : eachR (SV.emb F.O F.rho) [.str a0, a1, a2, a3] = some [x0, x1, x2, x3] :=
      eachR_cons_of (F.conv_emb e0 fun _ => F.O_arg rfl) (eachR_cons_of (F.conv_emb e1 fun _ => F.O_arg rfl) (eachR_cons_of (F.conv_emb e2 fun _ => F.O_arg rfl) (eachR_cons_of (F.conv_emb e3 fun _ => F.O_arg rfl) rfl)))
    refine eachR_cons_of ?_ (eachR_cons_of rfl (eachR_cons_of rfl rfl))
    simp only [AV.emb, hl, Option.map_some]
  refine callsIn_wide.1 (fence_none ▸ callsIn_of_wp_marks (F := fence none) (n := 0) Tryz.func3 fb3 trivial ?_)
  rw [body3_eq]
  have hfr := frOk_enter hv (n := Tryz.f3.ntmps) (by show max 3 90 ≤ 256; decide)
  refine wpIn_seq (codK_wp (C := CY) goodY F.plain (run_R0 _ F.st [.str a0, a1, a2, a3] rfl) F.rel hfr ?_)
  rintro ex f' s' ⟨rfl, rfl, rfl⟩ R1 W1 A1 g1 g2 g3
  refine wpIn_seq (codK_wp (C := CY) goodY F.plain (run_R1 _ _ F.st.next a0 a1 a2 a3 (hA.keep ((Keeps.refl _).new _)) (hB2.keep ((Keeps.refl _).new _)) (by (repeat (first | with_reducible assumption | ((with_reducible apply get_skip_of); (focus decide); (focus decide); (focus decide)) | ((with_reducible apply get_same_of); (focus decide); exact rfl)))) (Nat.lt_succ_self _) get_here) g2 g3 ?_)
  rintro ex f' s' ⟨rfl, l0, l1, l2, l3, rfl, mA⟩ R2 W2 A2 k1 k2 k3
  refine rest_ok F.plain k2 k3 mA fun w' hb ho ht hu hz => ⟨rfl, ?_⟩
  have hfw := g1.trans k1
  refine ⟨ho.trans hfw.os, ht.trans hfw.tape, hu.trans hfw.output, Nat.le_trans hfw.grow hz, fun k hk => (hb k hk).trans (hfw.keep k hk ?_)⟩
  rintro ⟨i, bl, m, hi, hl, hm, _⟩
  unfold Foreign.rho at hm
  split at hm
  · rename_i hlt
    rw [F.get_st hlt] at hi
    cases hi
    unfold Foreign.blkAt at hl
    split at hl <;> exact hl
  · cases hm

theorem Tryz.own : ownKnob Tryz.prog.godebug = none := by kernel_rfl
theorem Tryz.laidOut : laidOutB Tryz.prog = true := by kernel_rfl
end Go.Proofs.YtdgccipcandojaaGreat

