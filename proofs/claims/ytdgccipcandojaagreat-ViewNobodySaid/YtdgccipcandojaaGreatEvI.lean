/- What can be read as data, as the evaluator sees it. -/
import Derived.Test.YtdgccipcandojaaGreatEvH
import Derived.ProofKit
namespace Go.Ev
open Go.RowKit Go.ChangeShapes Go.WideShapes Go.ChangeAt

section
variable {F : Foreign} {P : Program} {H : Type} {enc : TypeId × Value → H} {fuel : Nat} {t : TypeId} {v : Value} {x : DataW H × List MemPlace}

theorem conv_of {k e i : Nat} {a : SV} (h : SV.ofVal v = some a) : F.conv k e i v = some a := by
  unfold SV.ofVal at h
  split at h <;> first | (cases h; rfl) | (cases h; done) | exact h

/-- A slice that came in, of elements of 'z' cells each of which can be read. -/
theorem slice_in {e z : Nat} (ht : P.underlying t = some (.slice e)) (hz : P.cellsOf e = z) (hz0 : 0 < z) (h : DataW.trod enc P F.W 0 (fun _ => true) true fuel t [v] = some x)
    {e0 i0 e' : Nat} (hs : F.sh e0 i0 = some (e', z)) (he' : e' < F.T) (k : Nat) :
    (∃ a, F.conv k e0 i0 v = some a ∧ (a = .nils ∨ ∃ k, a = .hollow k) ∧ ∃ ad, v = .slice ad 0 0) ∨
    ∃ b o len cap n, v = .slice (some ⟨b, o, none⟩) len cap ∧ F.conv k e0 i0 v = some (.slice (F.enc b o e') z 0 len (some cap)) ∧ len ≤ cap ∧ F.enc b o e' < F.st.next ∧
      F.st.h.get (F.enc b o e') = some (.ro (F.cellAt (F.enc b o e'))) ∧ o < F.B ∧
      ∀ i, i < len → ∃ cells y, cells.length = z ∧ (∀ j, j < z → F.W.cell? ⟨b, o + (i * z + j), none⟩ = cells[j]?) ∧ DataW.trod enc P F.W 0 (fun _ => true) true n e cells = some y := by
  rcases DataW.trod_slice ht h with ⟨hv, _⟩ | ⟨a, len, cap, elems, rest, n, rfl, hv, _, _, hlc, _, hel, hget, hsp, _⟩
  · cases hv
    exact .inl ⟨.nils, rfl, .inl rfl, none, rfl⟩
  · cases hv
    by_cases hc : cap = 0
    · have : len = 0 := by omega
      subst hc this
      exact .inl ⟨.hollow k, rfl, .inr ⟨k, rfl⟩, some a, rfl⟩
    · right
      have elem : ∀ i, i < cap → ∃ cells, F.W.cells? 0 (a.add (i * z)) z = some cells := by
        intro i hi
        by_cases hl : i < len
        · have := hget i hl
          rw [hz] at this
          cases hcs : F.W.cells? 0 (a.add (i * z)) z with
          | none =>
            rw [hcs] at this
            rw [List.getElem?_eq_getElem (by omega)] at this
            cases this
          | some cells => exact ⟨cells, rfl⟩
        · obtain ⟨h1, h2⟩ := hsp rfl
          have := h2 (i - len) (by omega)
          rw [hz, show len + (i - len) = i by omega] at this
          cases hcs : F.W.cells? 0 (a.add (i * z)) z with
          | none =>
            rw [hcs] at this
            rw [List.getElem?_eq_getElem (by omega)] at this
            cases this
          | some cells => exact ⟨cells, rfl⟩
      obtain ⟨b, o, spot⟩ := a
      have hspot : spot = none := by
        obtain ⟨cells, hcells⟩ := elem 0 (by omega)
        obtain ⟨_, hl, hc0⟩ := World.cells?_some hcells
        have h0 := hc0 0 hz0
        rw [List.getElem?_eq_getElem (by omega)] at h0
        have := World.cell?_spot h0
        simpa [Addr.add] using this
      subst hspot
      have hcell0 : ∃ u, F.W.cell? ⟨b, o, none⟩ = some u := by
        obtain ⟨cells, hcells⟩ := elem 0 (by omega)
        obtain ⟨_, hl, hc0⟩ := World.cells?_some hcells
        have h0 := hc0 0 hz0
        rw [List.getElem?_eq_getElem (by omega)] at h0
        rw [Addr.add_eq, Addr.add_eq, Nat.zero_mul, Nat.add_zero] at h0
        exact ⟨_, h0⟩
      obtain ⟨u, hu⟩ := hcell0
      obtain ⟨hb, ho⟩ := F.size_le hu
      have hblk : ∃ cs et fr, F.W.heap[b]? = some (.cells cs et fr) := by
        have hu := hu
        unfold World.cell? at hu
        split at hu
        · rename_i cs et fr he; exact ⟨cs, et, fr, he⟩
        · cases hu
      obtain ⟨cs, et, fr, hblk⟩ := hblk
      obtain ⟨k1, k2⟩ := F.ro_at hblk ho he'
      refine ⟨b, o, len, cap, n, rfl, ?_, hlc, k1, k2, ho, fun i hi => ?_⟩
      · unfold Foreign.conv
        split
        · rename_i heq; cases heq; exact absurd rfl hc
        · rename_i heq; cases heq
          rw [hs]
          show (if b < F.N ∧ o < F.B ∧ e' < F.T then _ else none) = _
          rw [if_pos ⟨hb, ho, he'⟩]
        · rename_i heq; cases heq
        · rename_i h1 h2 h3
          exact absurd rfl (h2 b o len cap)
      · have := hget i hi
        rw [hz] at this
        cases hcs : F.W.cells? 0 ((⟨b, o, none⟩ : Addr).add (i * z)) z with
        | none =>
          rw [hcs] at this
          rw [List.getElem?_eq_getElem (by omega)] at this
          cases this
        | some cells =>
          rw [hcs] at this
          obtain ⟨_, hl, hc0⟩ := World.cells?_some hcs
          refine ⟨cells, elems[i], hl, fun j hj => ?_, ?_⟩
          · have := hc0 j hj
            rw [Addr.add_eq, Addr.add_eq, Nat.add_assoc] at this
            exact this
          · rw [List.getElem?_eq_getElem (by omega)] at this
            exact this

end
end Go.Ev

/- From the evaluator's rules to the machine. -/
namespace Go.Ev
open Go.RowKit

section
variable {C : Ctx} {O : Nat → Value} {N : Nat}

theorem codK_wp (hC : C.Good) (hO : Plain O) {c : Code} {f : Fr} {s : St} {K : Ex → Fr → St → Prop} (h : CodK C c f s K) {R : Rho} {w : World} {a : Act} {ro : Option Nat} {Q : Exit → Act → World → Prop} (hr : Rel O N R s w) (hf : FrOk O R f a ro)
    (hQ : ∀ ex f' s', K ex f' s' → After O N R s w ro f' s' (Q (exOf ex))) : c.wpIn (fence ro) 0 C.P Q a w := by
  obtain ⟨ex, f', s', ⟨n, hn⟩, hK⟩ := h
  exact (exec_ok hC hO (n + 1)).1 c f s ex f' s' (hn n (Nat.le_refl n)) R w a ro Q hr hf (hQ ex f' s' hK)

/-- A frame's end, no marks. -/
theorem end_ok (hC : C.Ok) {fn : Func} {f : Fr} {s : St} {R : Rho} {a : Act} {w : World} {K : Ending → World → Prop} {vs : List AV} {ex : Ex} (hex : ∀ i, ex ≠ .exit i) (hr : Rel O N R s w) (hf : FrOk O R f a none) (hm : f.marks = [])
    (hres : resultsB f C s fn.results.toList = some vs) (hK : ∀ w' V, Fwd R s w R s w' → (tvOf vs).emb O R = some V → K (.returned V) w') : bodyPostM (fence none) 0 C.P fn K (exOf ex) a w := by
  have hmk := hf.marks
  rw [hm] at hmk
  have := marks_ok (fn := fn) (s' := s) hC (ms := []) rfl hr hmk hf.tmps hres (K := K) (fun w'' V h1 _ h3 => hK w'' V h1 h3)
  cases ex with
  | exit i => exact absurd rfl (hex i)
  | normal => exact this
  | ret => exact this

end
end Go.Ev

