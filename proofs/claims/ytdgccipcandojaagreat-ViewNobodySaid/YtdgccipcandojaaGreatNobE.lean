/- For every input placardlaw26.ViewNobody returns true, and each argument reads afterwards as it read before. No condition. -/
import Derived.Test.YtdgccipcandojaaGreatNobD
import Derived.Test.YtdgccipcandojaaGreatNobX
import Derived.ProofKit
namespace Go.Proofs.YtdgccipcandojaaGreat
open Go Go.Ev Go.RowKit Go.ChangeShapes Go.WideShapes Go.ChangeAt

theorem arr4 (cs : Array Value) (h : cs.size = 4) : ∃ x0 x1 x2 x3, cs = #[x0, x1, x2, x3] := by
  obtain ⟨l⟩ := cs
  match l, h with
  | [x0, x1, x2, x3], _ => exact ⟨x0, x1, x2, x3, rfl⟩

set_option maxHeartbeats 1000000 in
set_option maxRecDepth 100000 in
theorem nobody_lifted (os : Os) (started : os.Started) (H : Type) (enc : TypeId × Value → H) :
    ReturnsInHanded {} Tryz.checked os 3 .any (Rows.viewNobodySpec.pre6 enc Tryz.prog Tryz.f3 Rows.viewNobodyRow.domain false) (Rows.viewNobodySpec.post enc Tryz.prog Tryz.f3 false true false false) := by
  refine returnsInHanded_of_change (C := Tryz.checked) Tryz.own started (by kernel_rfl) Tryz.func3
    (ChangeSpec.witness6 (enc := enc) (C := Tryz.checked) false ⟨#[], #[.agg #[.string ⟨#[]⟩, .slice none 0 0, .slice none 0 0, .int .i64 0], .int .i64 0, .int .i64 0], []⟩ 8 (by kernel_rfl) (by kernel_rfl) (by kernel_rfl) (by kernel_rfl)) ?_
  intro W base args ds gs before hval0 hW hcnd _
  have hval : ∀ (j : Nat) t v, Tryz.f3.params[j]? = some t → args[j]? = some v → Value.okWide Tryz.prog W .any base t v := hval0
  have hW' := hW
  obtain ⟨p, q, hA0, hV, rfl, hfz, hnd⟩ := hW
  have hA : DataW.TrodAll enc Tryz.prog W 0 (fun _ => true) true Tryz.f3.params.toList args.toList ds p := hA0
  rw [Tryz.params3] at hA hval
  obtain ⟨v0, v1, v2, d0, d1, d2, p0, p1, p2, rfl, rfl, rfl, h0, h1, h2⟩ := trodAll_three hA
  obtain ⟨rfl, rfl⟩ := trodVars_none hV
  have hv0 := hval 0 25 v0 rfl rfl
  obtain ⟨cs, rfl, hsz, _⟩ : ∃ cs, v0 = .agg cs ∧ cs.size = Tryz.prog.cellsOf 25 ∧ True := by
    unfold Value.okWide at hv0
    rw [Tryz.underlying25] at hv0
    obtain ⟨cs, e1, e2, _⟩ := hv0
    exact ⟨cs, e1, e2, trivial⟩
  rw [c25] at hsz
  obtain ⟨x0, x1, x2, x3, rfl⟩ := arr4 cs hsz
  obtain ⟨w1, rfl, rfl, rfl, wa1⟩ := open_int Tryz.underlying3 (hval 1 3 v1 rfl rfl) h1
  obtain ⟨w2, rfl, rfl, rfl, wa2⟩ := open_int Tryz.underlying3 (hval 2 3 v2 rfl rfl) h2
  obtain ⟨fuel, h0f⟩ := h0
  refine (nobody W h0f w1 w2).mono fun e W' ⟨he, hB⟩ => ?_
  subst he
  simp only [List.append_nil] at hW'
  have hlt : ∀ x ∈ p0, x.block < W.heap.size := fun x hx => hW'.lt x hx
  refine ⟨_, rfl, _, _, _, [], p0, [], hW', ?_, ?_, ?_, hB.frame _, fun h => by cases h⟩
  · exact trodAll_mk1 (shut_bool Tryz.underlying4 true)
  · have := trodAll_mk3 (Below.trod Tryz.laidOut (by kernel_rfl) (of_decide_eq_true (by kernel_rfl)) (⟨fuel, h0f⟩ : DataW.Trod enc Tryz.prog W 0 (fun _ => true) true 25 (.agg #[x0, x1, x2, x3]) d0 p0) hB hlt) (shut_int (base := 0) (spare := fun b => decide (b < W.heap.size)) (held := true) (w := W') (enc := enc) Tryz.underlying3 wa1) (shut_int Tryz.underlying3 wa2)
    rw [List.append_nil, List.append_nil] at this
    exact this
  · rfl

theorem and_of {a b : Bool} (h : a = true) (k : b = true) : (a && b) = true := by rw [h, k]; rfl

set_option maxRecDepth 100000 in
theorem facts : joinedFacts Tryz.checked.prog 3 Tryz.f3 Rows.viewNobodySpec Rows.viewNobodyRow = true := by
  unfold joinedFacts
  exact and_of (and_of (and_of (and_of (and_of (and_of (and_of (and_of (and_of (and_of (and_of (and_of (and_of (and_of (and_of (and_of (and_of (and_of (and_of (and_of (and_of (and_of (and_of (and_of (and_of (and_of (and_of (and_of (and_of (and_of (and_of fact0 fact1) fact2) fact3) fact4) fact5) fact6) fact7) fact8) fact9) fact10) fact11) fact12) fact13) fact14) fact15) fact16) fact17) fact18) fact19) fact20) fact21) fact22) fact23) fact24) fact25) fact26) fact27) fact28) fact29) fact30) fact31

/-- 'placardlaw26.ViewNobody': whatever the input: true; the input reads as it did. -/
theorem viewNobody_holds : Rows.ViewNobodySaid :=
  OpenClaim.holds_of_wide 3 Tryz.f3 rfl rfl rfl rfl rfl rfl rfl ⟨rfl, rfl, rfl, rfl, rfl⟩ rfl rfl rfl rfl rfl rowFunc Tryz.func3 facts rowInst rowWrap
    (fun os started H enc _ => nobody_lifted os started H enc)
end Go.Proofs.YtdgccipcandojaaGreat

