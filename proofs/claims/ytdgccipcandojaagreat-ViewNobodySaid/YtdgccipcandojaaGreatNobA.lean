/- Lemmas. -/
import Derived.Test.YtdgccipcandojaaGreatEvG
import Derived.Test.YtdgccipcandojaaGreatProg
import Derived.Laws.Externs
import Derived.Lib.MakeNoZero
import Derived.KernelRfl
import Derived.Room.MakeNoZero
import Derived.Test.YtdgccipcandojaaGreatEvH
namespace Go.Proofs.YtdgccipcandojaaGreat
open Go Go.Ev Go.RowKit
noncomputable def extY : Tr Nat := ((Tr.nil.set 207 4).set 280 5)
noncomputable def CY : Ctx := ctxOf Tryz.prog extY

theorem extY_4 {g : Nat} (h : extY.get g = some 4) : g = 207 := by
  unfold extY at h
  rw [Tr.get_set, Tr.get_set] at h
  by_cases h1 : g = 280
  · rw [if_pos h1] at h; cases h
  · rw [if_neg h1] at h
    by_cases h2 : g = 207
    · exact h2
    · rw [if_neg h2] at h; cases h
theorem extY_5 {g : Nat} (h : extY.get g = some 5) : g = 280 := by
  unfold extY at h
  rw [Tr.get_set, Tr.get_set] at h
  by_cases h1 : g = 280
  · exact h1
  · rw [if_neg h1] at h
    by_cases h2 : g = 207
    · rw [if_pos h2] at h; cases h
    · rw [if_neg h2] at h; cases h

theorem namedY : (Tryz.prog.funcs.toList.all fun fn => !(fn.name == "runtime.NumGoroutine")) = true := by decide +kernel

theorem okY : CY.Ok := ctxOf_ok _ _

theorem goodY : CY.Good where
  toOk := okY
  named g fn h := by
    have h := okY.fn g fn h
    have h : Tryz.prog.funcs[g]? = some fn := h
    have hm : fn ∈ Tryz.prog.funcs.toList := by
      rw [← Array.getElem?_toList] at h
      exact List.mem_of_getElem? h
    have := List.all_eq_true.1 namedY fn hm
    simpa using this
  same g fn h hb he x w := by
    have h := okY.fn g fn h
    have h : Tryz.prog.funcs[g]? = some fn := h
    have := extY_4 he
    subst this
    rw [Tryz.func207] at h
    cases h
    exact (run_callFunc_extern (P := Tryz.prog) (e := Extern.AbiNoEscape.same) Tryz.func207 (by kernel_rfl) (by kernel_rfl) (by kernel_rfl) (by kernel_rfl) #[x] w).trans rfl
  made g fn t l e h hb he ht hu n w hn := by
    have h := okY.fn g fn h
    have h : Tryz.prog.funcs[g]? = some fn := h
    have := extY_5 he
    subst this
    rw [Tryz.func280] at h
    cases h
    cases ht
    obtain ⟨cs, h1, h2, _⟩ := Lib.run_makeNoZero_cap (P := Tryz.prog) w #[3] 150 e hu n (by omega)
    refine ⟨cs, (w.drawn + 1) + 1, h2, ?_⟩
    have := run_callFunc_extern (P := Tryz.prog) (e := Extern.BytealgMakeNoZero.makeNoZero #[3] #[150]) Tryz.func280 (by kernel_rfl) (by kernel_rfl) (by kernel_rfl) (by kernel_rfl) #[.int .i64 n] w
    refine this.trans ?_
    rw [h1]
    rfl
  mixed := by kernel_rfl
  stubs g v h := by cases h
end Go.Proofs.YtdgccipcandojaaGreat

namespace Go.Proofs.YtdgccipcandojaaGreat
open Go Go.Ev Go.RowKit

theorem u9 : CY.und 9 = some .string := by kernel_rfl
theorem u22 : CY.und 22 = some (.slice 55) := by kernel_rfl
theorem u23 : CY.und 23 = some (.slice 9) := by kernel_rfl
theorem u51 : CY.und 51 = some (.slice 3) := by kernel_rfl
noncomputable def F53 : Array Field := match CY.und 53 with | some (.struct fs) => fs | _ => #[]
noncomputable def F55 : Array Field := match CY.und 55 with | some (.struct fs) => fs | _ => #[]
noncomputable def F25 : Array Field := match CY.und 25 with | some (.struct fs) => fs | _ => #[]
theorem u53 : CY.und 53 = some (.struct F53) := by kernel_rfl
theorem u55 : CY.und 55 = some (.struct F55) := by kernel_rfl
theorem u25 : CY.und 25 = some (.struct F25) := by kernel_rfl
def fS : Field := { name := "S", type := 9, offset := 0, embedded := false, tag := "", pkgPath := "", byteOffset := 0 }
def fL : Field := { name := "L", type := 51, offset := 3, embedded := false, tag := "", pkgPath := "", byteOffset := 32 }
theorem F53_0 : F53.toList[0]? = some fS := by kernel_rfl
theorem F53_3 : F53.toList[3]? = some fL := by kernel_rfl
theorem z9 : CY.size 9 = some 1 := by kernel_rfl
theorem z3 : CY.size 3 = some 1 := by kernel_rfl
theorem z51 : CY.size 51 = some 1 := by kernel_rfl
theorem z53 : CY.size 53 = some 5 := by kernel_rfl
theorem g9 : CY.agg 9 = some false := by kernel_rfl
theorem g51 : CY.agg 51 = some false := by kernel_rfl
theorem g53 : CY.agg 53 = some true := by kernel_rfl
def Z53 : List SV := [.str [], .int .i64 0, .bool false, .nils, .float .f64 0]
theorem zero53 : CY.zero 53 = some (.agg Z53) := by kernel_rfl

noncomputable def body38 : Code := match Tryz.f38.body with | some b => b | none => .skip
theorem fn38 : CY.fns 38 = some Tryz.f38 := by kernel_rfl
theorem fb38 : Tryz.f38.body = some body38 := by kernel_rfl
end Go.Proofs.YtdgccipcandojaaGreat

namespace Go.Proofs.YtdgccipcandojaaGreat
open Go Go.Ev Go.RowKit


/-- A slice that came in: nil, or so many elements of one cell, with room behind them that is known. -/
def Sl (sz : Nat) (v : SV) (len : Nat) : Prop := ((v = .nils ∨ ∃ k, v = .hollow k) ∧ len = 0) ∨ ∃ id eo c, v = .slice id sz eo len (some c) ∧ len ≤ c ∧ 0 < sz

theorem Sl.len {sz : Nat} {v : SV} {len e : Nat} (h : Sl sz v len) : lenP (.slice e) v = some len := by
  rcases h with ⟨rfl | ⟨k, rfl⟩, rfl⟩ | ⟨id, eo, c, rfl, _⟩ <;> rfl

theorem Sl.cut {sz : Nat} {v : SV} {len n : Nat} (h : Sl sz v len) (hn : n ≤ len) : ∃ r, TV.beq (.v (.s r)) (.v (.s r)) = true ∧ ∀ s : St, sliceL s v sz none (some n) = some r := by
  rcases h with ⟨rfl | ⟨k, rfl⟩, rfl⟩ | ⟨id, eo, c, rfl, hc, hz⟩
  · have : n = 0 := by omega
    subst this
    exact ⟨.nils, rfl, fun s => rfl⟩
  · have : n = 0 := by omega
    subst this
    exact ⟨.hollow k, Nat.beq_refl k, fun s => rfl⟩
  · refine ⟨.slice id sz (cond ((0 : Nat).beq c) eo (eo + 0)) (n - 0) (some (c - 0)), ?_, fun s => ?_⟩
    · show (Nat.beq _ _ && Nat.beq _ _ && Nat.beq _ _ && Nat.beq _ _ && Nat.beq _ _) = true
      simp only [Nat.beq_refl, Bool.and_self]
    have h1 : (Nat.beq sz sz && !Nat.beq sz 0) = true := by
      rw [Nat.beq_refl]
      cases sz with
      | zero => omega
      | succ k => rfl
    have h2 : (Nat.ble n c && Nat.ble 0 n) = true := by rw [ble_iff.2 (by omega : n ≤ c), ble_iff.2 (Nat.zero_le n)]; rfl
    simp only [sliceL, capLow, capK, Option.bind_some, Option.getD_some, Option.getD_none]
    rw [show (sz.beq sz && !sz.beq 0) = true from h1, cond_true, show (n.ble c && Nat.ble 0 n) = true from h2, cond_true]

theorem few_value (a : List UInt8) (n b L fl : SV) {len : Nat} (hL : Sl 1 L len) (s : St) :
    RetK CY 38 [.agg [.str a, n, b, L, fl]] s fun v s' => (∃ l, v = .v (.agg l) ∧ l.length = 5) ∧ Keeps s s' := by
  obtain ⟨r, hrr, hr⟩ := hL.cut (n := min len 300) (by omega)
  refine RetK.body fn38 fb38 rfl rfl ?_
  refine CodK.seq (CodK.region ?_)
  refine OpsK.on rfl (o_box (evA_tmp rfl rfl)) (put_tmp rfl) ?_
  refine OpsK.on rfl (o_alloc zero53) (put_tmp rfl) ?_
  refine OpsK.nil ?_
  refine CodK.seq (CodK.drawnH (says := (List.range 13).map (fun i => (i, false, [])) ++ [(13, true, []), (14, false, []), (15, false, [13]), (16, false, []), (17, false, [])]) (by decide +kernel) rfl ?_)
  refine HopK.on rfl (o_fieldAddr 0 (evS_tmp rfl rfl) u53 F53_0 z9 rfl) (put_tmp rfl) ?_
  refine HopK.on rfl (o_load1 (evS_tmp rfl rfl) g9 (load1_of (by (repeat (first | exact get_here | exact get_here' | refine get_there (by (try dsimp only [St.put]); omega) ?_ | refine get_there' (by (try dsimp only [St.put]); omega) ?_ | assumption | refine get_kept (by assumption) (by (try dsimp only [St.put]); omega) ?_))) rfl rfl)) (put_tmp rfl) ?_
  refine HopK.on rfl (o_fieldAddr 0 (evS_tmp rfl rfl) u53 F53_0 z9 rfl) (put_tmp rfl) ?_
  refine HopK.on rfl (o_load1 (evS_tmp rfl rfl) g9 (load1_of (by (repeat (first | exact get_here | exact get_here' | refine get_there (by (try dsimp only [St.put]); omega) ?_ | refine get_there' (by (try dsimp only [St.put]); omega) ?_ | assumption | refine get_kept (by assumption) (by (try dsimp only [St.put]); omega) ?_))) rfl rfl)) (put_tmp rfl) ?_
  refine HopK.on rfl (o_lenS rfl rfl rfl (evS_tmp rfl rfl) u9) (put_tmp rfl) ?_
  refine HopK.on rfl (o_min (n := 300) rfl rfl (evS_tmp rfl rfl) rfl) (put_tmp rfl) ?_
  refine HopK.on rfl (o_sliceS u9 (evS_tmp rfl rfl) natOfO_none (natOfO_some (evS_tmp rfl rfl)) (by dsimp only [Option.getD]; omega) (Nat.zero_le _)) (put_tmp rfl) ?_
  refine HopK.on rfl (o_fieldAddr 3 (evS_tmp rfl rfl) u53 F53_3 z51 rfl) (put_tmp rfl) ?_
  refine HopK.on rfl (o_load1 (evS_tmp rfl rfl) g51 (load1_of (by (repeat (first | exact get_here | exact get_here' | refine get_there (by (try dsimp only [St.put]); omega) ?_ | refine get_there' (by (try dsimp only [St.put]); omega) ?_ | assumption | refine get_kept (by assumption) (by (try dsimp only [St.put]); omega) ?_))) rfl rfl)) (put_tmp rfl) ?_
  refine HopK.on rfl (o_fieldAddr 3 (evS_tmp rfl rfl) u53 F53_3 z51 rfl) (put_tmp rfl) ?_
  refine HopK.on rfl (o_load1 (evS_tmp rfl rfl) g51 (load1_of (by (repeat (first | exact get_here | exact get_here' | refine get_there (by (try dsimp only [St.put]); omega) ?_ | refine get_there' (by (try dsimp only [St.put]); omega) ?_ | assumption | refine get_kept (by assumption) (by (try dsimp only [St.put]); omega) ?_))) rfl rfl)) (put_tmp rfl) ?_
  refine HopK.on rfl (o_lenL rfl rfl rfl (evS_tmp rfl rfl) u51 hL.len) (put_tmp rfl) ?_
  refine HopK.on rfl (o_min (n := 300) rfl rfl (evS_tmp rfl rfl) rfl) (put_tmp rfl) ?_
  refine HopK.keep rfl (o_sliceL u51 z3 (evS_tmp rfl rfl) natOfO_none (natOfO_some (evS_tmp rfl rfl)) (hr _)) (put_tmp rfl) ?_
  refine HopK.on rfl (o_fieldAddr 0 (evS_tmp rfl rfl) u53 F53_0 z9 rfl) (put_tmp rfl) ?_
  refine HopK.anew rfl (o_store (evS_tmp rfl rfl) (evA_tmp rfl rfl) z9 (storeL_of (by (repeat (first | exact get_here | exact get_here' | refine get_there (by (try dsimp only [St.put]); omega) ?_ | refine get_there' (by (try dsimp only [St.put]); omega) ?_ | assumption | refine get_kept (by assumption) (by (try dsimp only [St.put]); omega) ?_))) rfl) (by rfl)) ?_ put_none ?_
  · exact stillH_one (l_sliceL u51 z3 (evS_tmp rfl rfl) natOfO_none (natOfO_some (evS_tmp rfl rfl)) (hr _)) hrr
  refine HopK.on rfl (o_fieldAddr 3 (evS_tmp rfl rfl) u53 F53_3 z51 rfl) (put_tmp rfl) ?_
  refine HopK.on rfl (o_store (evS_tmp rfl rfl) (evA_tmp rfl rfl) z51 (storeL_of (by (repeat (first | exact get_here | exact get_here' | refine get_there (by (try dsimp only [St.put]); omega) ?_ | refine get_there' (by (try dsimp only [St.put]); omega) ?_ | assumption | refine get_kept (by assumption) (by (try dsimp only [St.put]); omega) ?_))) rfl) (by rfl)) put_none ?_
  refine HopK.nil ?_
  refine CodK.seq (CodK.region ?_)
  refine OpsK.on rfl (o_loadN (evS_tmp rfl rfl) g53 z53 (loadN_of (by (repeat (first | exact get_here | exact get_here' | refine get_there (by (try dsimp only [St.put]); omega) ?_ | refine get_there' (by (try dsimp only [St.put]); omega) ?_ | assumption | refine get_kept (by assumption) (by (try dsimp only [St.put]); omega) ?_))) rfl)) (put_tmp rfl) ?_
  refine OpsK.on rfl (o_store (evS_tmp rfl rfl) (evA_tmp rfl rfl) z53 (storeL_of (by (repeat (first | exact get_here | exact get_here' | refine get_there (by (try dsimp only [St.put]); omega) ?_ | refine get_there' (by (try dsimp only [St.put]); omega) ?_ | assumption | refine get_kept (by assumption) (by (try dsimp only [St.put]); omega) ?_))) rfl) (by rfl)) put_none ?_
  refine OpsK.nil (CodK.ret ⟨fun i e => (by cases e), _, _, rfl, eachR_cons_of (res_agg rfl rfl g53 z53 (loadN_of (by (repeat (first | exact get_here | exact get_here' | refine get_there (by (try dsimp only [St.put]); omega) ?_ | refine get_there' (by (try dsimp only [St.put]); omega) ?_ | assumption | refine get_kept (by assumption) (by (try dsimp only [St.put]); omega) ?_))) rfl)) rfl, ⟨_, rfl, rfl⟩, ?_⟩)
  exact ((((((Keeps.refl s).new _).new _).put (by ((try dsimp only [St.put]); omega)) _).put (by ((try dsimp only [St.put]); omega)) _).put (by ((try dsimp only [St.put]); omega)) _)
end Go.Proofs.YtdgccipcandojaaGreat

namespace Go.Proofs.YtdgccipcandojaaGreat
open Go Go.Ev Go.RowKit

def f55_1 : Field := { name := "Name", type := 9, offset := 1, embedded := false, tag := "form:\"name\"", pkgPath := "", byteOffset := 8 }
def f55_2 : Field := { name := "Label", type := 9, offset := 2, embedded := false, tag := "form:\"label\"", pkgPath := "", byteOffset := 24 }
def f55_3 : Field := { name := "Options", type := 23, offset := 3, embedded := false, tag := "form:\"options\"", pkgPath := "", byteOffset := 40 }
def f55_9 : Field := { name := "Default", type := 53, offset := 9, embedded := false, tag := "form:\"default\"", pkgPath := "", byteOffset := 104 }
def f55_10 : Field := { name := "Show", type := 9, offset := 14, embedded := false, tag := "form:\"show\"", pkgPath := "", byteOffset := 168 }
def f55_11 : Field := { name := "Check", type := 9, offset := 15, embedded := false, tag := "form:\"check\"", pkgPath := "", byteOffset := 184 }
theorem F55_1 : F55.toList[1]? = some f55_1 := by kernel_rfl
theorem F55_2 : F55.toList[2]? = some f55_2 := by kernel_rfl
theorem F55_3 : F55.toList[3]? = some f55_3 := by kernel_rfl
theorem F55_9 : F55.toList[9]? = some f55_9 := by kernel_rfl
theorem F55_10 : F55.toList[10]? = some f55_10 := by kernel_rfl
theorem F55_11 : F55.toList[11]? = some f55_11 := by kernel_rfl
theorem z23 : CY.size 23 = some 1 := by kernel_rfl
theorem z55 : CY.size 55 = some 16 := by kernel_rfl
theorem g23 : CY.agg 23 = some false := by kernel_rfl
theorem g55 : CY.agg 55 = some true := by kernel_rfl
def Z55 : List SV := [.int .i64 0, .str [], .str [], .nils, .int .i64 0, .int .i64 0, .float .f64 0, .float .f64 0, .float .f64 0, .str [], .int .i64 0, .bool false, .nils, .float .f64 0, .str [], .str []]
theorem zero55 : CY.zero 55 = some (.agg Z55) := by kernel_rfl
theorem zero9 : CY.zero 9 = some (.s (.str [])) := by kernel_rfl
theorem ty9 : ∃ ti, CY.ty 9 = some ti ∧ ti.size = 1 ∧ ti.bytes ≤ 100000 := by
  have h : (match CY.ty 9 with | some i => Nat.beq i.size 1 && Nat.ble i.bytes 100000 | none => false) = true := by decide +kernel
  cases e : CY.ty 9 with
  | none => rw [e] at h; cases h
  | some i => rw [e] at h; rw [Bool.and_eq_true] at h; exact ⟨i, rfl, beq_iff.1 h.1, ble_iff.1 h.2⟩
theorem ty55 : ∃ ti, CY.ty 55 = some ti ∧ ti.size = 16 ∧ ti.bytes ≤ 100000 := by
  have h : (match CY.ty 55 with | some i => Nat.beq i.size 16 && Nat.ble i.bytes 100000 | none => false) = true := by decide +kernel
  cases e : CY.ty 55 with
  | none => rw [e] at h; cases h
  | some i => rw [e] at h; rw [Bool.and_eq_true] at h; exact ⟨i, rfl, beq_iff.1 h.1, ble_iff.1 h.2⟩

noncomputable def body10 : Code := match Tryz.f10.body with | some b => b | none => .skip
theorem fn10 : CY.fns 10 = some Tryz.f10 := by kernel_rfl
theorem fb10 : Tryz.f10.body = some body10 := by kernel_rfl

noncomputable def seqL : Code → Code | .seq a _ => a | _ => .skip
noncomputable def seqR : Code → Code | .seq _ b => b | _ => .skip
noncomputable def blkB : Code → Code | .block _ b => b | _ => .skip
noncomputable def lpB : Code → Code | .loop b => b | _ => .skip
noncomputable def loop10 : Code := lpB (blkB (seqR (seqL (seqR (seqR (seqR (seqR (seqR body10))))))))

/-- A slice of texts that came in: how many, and that the first ones can be read. -/
def Strs (s : St) (v : SV) (len most : Nat) : Prop := ((v = .nils ∨ ∃ k, v = .hollow k) ∧ len = 0) ∨
  ∃ id eo c cc, v = .slice id 1 eo len (some c) ∧ len ≤ c ∧ id < s.next ∧ s.h.get id = some (.ro cc) ∧ ∀ i, i < len → i < most → ∃ x, cc ((eo + i) * 1) = some (.str x)

theorem Strs.len {s : St} {v : SV} {len e most : Nat} (h : Strs s v len most) : lenP (.slice e) v = some len := by
  rcases h with ⟨rfl | ⟨k, rfl⟩, rfl⟩ | ⟨id, eo, c, cc, rfl, _⟩ <;> rfl

/-- A slice of one's own, made by appends: so many elements of size 'z'. -/
def Own (s0 s : St) (z e : Nat) (v : SV) (i : Nat) : Prop := (v = .nils ∧ i = 0) ∨ ∃ id c, v = .slice id z 0 i none ∧ s0.next ≤ id ∧ s.h.get id = some (.cells (i * z) c z false 0 e)

theorem bs23 (x : SV) : buildSliceB CY 23 1 [(0, .s x)] = some (.cells 1 (.of [x]) 1 true 0 9, .slice 1 1) := by
  unfold buildSliceB
  simp only [u23, z9, zero9, Option.bind_some]
  rfl

theorem loop_opts {s0 : St} {A B : Nat} {v : SV} {len : Nat} (hv : Strs s0 v len 40) (_hA : s0.next ≤ A) (_hB : s0.next ≤ B) (_hAB : A ≠ B) {cA cB : Ct SV} (hc : cA.get 3 = some v) : ∀ (k i : Nat) (t : T2 TV) (s : St) (l : SV),
    i + k = min len 40 → T2.get t 1 = .v (.s (.ptr A 0)) → T2.get t 2 = .v (.s (.ptr B 0)) → T2.get t 3 = .v (.s l) → T2.get t 4 = .v (.s (.int .i64 (i : Int))) → Keeps s0 s → A < s.next → B < s.next →
    s.h.get A = some (.cells 16 cA 16 true 0 55) → s.h.get B = some (.cells 16 cB 16 true 0 55) → Own s0 s 1 9 l i → (∀ id, l = .slice id 1 0 i none → id ≠ A ∧ id ≠ B ∧ id < s.next) →
    CodK CY (.loop loop10) ⟨t, 71, [], none⟩ s fun ex f' s' => ex = .exit 0 ∧ ∃ t' l', f' = ⟨t', 71, [], none⟩ ∧ T2.get t' 1 = .v (.s (.ptr A 0)) ∧ T2.get t' 2 = .v (.s (.ptr B 0)) ∧ T2.get t' 3 = .v (.s l') ∧ Keeps s0 s' ∧
      s'.h.get A = some (.cells 16 cA 16 true 0 55) ∧ s'.h.get B = some (.cells 16 cB 16 true 0 55) := by
  intro k
  induction k with
  | zero =>
    intro i t s l hik h1 h2 h3 h4 hk hA' hB' mA mB hl hne
    refine CodK.loop (CodK.seq (CodK.seq (CodK.region ?_)))
    refine OpsK.on rfl (o_move (ev_tmp rfl (by (repeat (first | with_reducible assumption | ((with_reducible apply get_skip_of); (focus decide); (focus decide); (focus decide)) | ((with_reducible apply get_same_of); (focus decide); exact rfl)))))) (put_tmp rfl) ?_
    refine OpsK.on rfl (o_fieldAddr 3 (evS_tmp rfl (by (repeat (first | with_reducible assumption | ((with_reducible apply get_skip_of); (focus decide); (focus decide); (focus decide)) | ((with_reducible apply get_same_of); (focus decide); exact rfl))))) u55 F55_3 z23 rfl) (put_tmp rfl) ?_
    refine OpsK.on rfl (o_load1 (evS_tmp rfl (by (repeat (first | with_reducible assumption | ((with_reducible apply get_skip_of); (focus decide); (focus decide); (focus decide)) | ((with_reducible apply get_same_of); (focus decide); exact rfl))))) g23 (load1_of mA rfl hc)) (put_tmp rfl) ?_
    refine OpsK.on rfl (o_lenL rfl rfl rfl (evS_tmp rfl (by (repeat (first | with_reducible assumption | ((with_reducible apply get_skip_of); (focus decide); (focus decide); (focus decide)) | ((with_reducible apply get_same_of); (focus decide); exact rfl))))) u23 hv.len) (put_tmp rfl) ?_
    by_cases hlt : i < len
    · refine OpsK.on rfl (o_bin (evA_tmp rfl (by (repeat (first | with_reducible assumption | ((with_reducible apply get_skip_of); (focus decide); (focus decide); (focus decide)) | ((with_reducible apply get_same_of); (focus decide); exact rfl))))) (evA_tmp rfl (by (repeat (first | with_reducible assumption | ((with_reducible apply get_skip_of); (focus decide); (focus decide); (focus decide)) | ((with_reducible apply get_same_of); (focus decide); exact rfl))))) (b_lss_t (by omega))) (put_tmp rfl) ?_
      refine OpsK.on rfl (o_move (ev_tmp rfl (by (repeat (first | with_reducible assumption | ((with_reducible apply get_skip_of); (focus decide); (focus decide); (focus decide)) | ((with_reducible apply get_same_of); (focus decide); exact rfl)))))) (put_tmp rfl) ?_
      refine OpsK.on rfl (o_move (ev_tmp rfl (by (repeat (first | with_reducible assumption | ((with_reducible apply get_skip_of); (focus decide); (focus decide); (focus decide)) | ((with_reducible apply get_same_of); (focus decide); exact rfl)))))) (put_tmp rfl) ?_
      refine OpsK.on rfl (o_bin (evA_tmp rfl (by (repeat (first | with_reducible assumption | ((with_reducible apply get_skip_of); (focus decide); (focus decide); (focus decide)) | ((with_reducible apply get_same_of); (focus decide); exact rfl))))) rfl (b_lss_f (by omega))) (put_tmp rfl) ?_
      refine OpsK.on rfl (o_pick true (evS_tmp rfl (by (repeat (first | with_reducible assumption | ((with_reducible apply get_skip_of); (focus decide); (focus decide); (focus decide)) | ((with_reducible apply get_same_of); (focus decide); exact rfl))))) (ev_tmp rfl (by (repeat (first | with_reducible assumption | ((with_reducible apply get_skip_of); (focus decide); (focus decide); (focus decide)) | ((with_reducible apply get_same_of); (focus decide); exact rfl)))))) (put_tmp rfl) ?_
      exact OpsK.nil (CodK.cond (t := false) (evS_tmp rfl (by (repeat (first | with_reducible assumption | ((with_reducible apply get_skip_of); (focus decide); (focus decide); (focus decide)) | ((with_reducible apply get_same_of); (focus decide); exact rfl))))) (CodK.exit (And.intro rfl ⟨_, l, rfl, by (repeat (first | with_reducible assumption | ((with_reducible apply get_skip_of); (focus decide); (focus decide); (focus decide)) | ((with_reducible apply get_same_of); (focus decide); exact rfl))), by (repeat (first | with_reducible assumption | ((with_reducible apply get_skip_of); (focus decide); (focus decide); (focus decide)) | ((with_reducible apply get_same_of); (focus decide); exact rfl))), by (repeat (first | with_reducible assumption | ((with_reducible apply get_skip_of); (focus decide); (focus decide); (focus decide)) | ((with_reducible apply get_same_of); (focus decide); exact rfl))), hk, mA, mB⟩)))
    · refine OpsK.on rfl (o_bin (evA_tmp rfl (by (repeat (first | with_reducible assumption | ((with_reducible apply get_skip_of); (focus decide); (focus decide); (focus decide)) | ((with_reducible apply get_same_of); (focus decide); exact rfl))))) (evA_tmp rfl (by (repeat (first | with_reducible assumption | ((with_reducible apply get_skip_of); (focus decide); (focus decide); (focus decide)) | ((with_reducible apply get_same_of); (focus decide); exact rfl))))) (b_lss_f (by omega))) (put_tmp rfl) ?_
      refine OpsK.on rfl (o_move (ev_tmp rfl (by (repeat (first | with_reducible assumption | ((with_reducible apply get_skip_of); (focus decide); (focus decide); (focus decide)) | ((with_reducible apply get_same_of); (focus decide); exact rfl)))))) (put_tmp rfl) ?_
      refine OpsK.off rfl (put_tmp rfl) ?_
      refine OpsK.off rfl (put_tmp rfl) ?_
      refine OpsK.on rfl (o_pick false (evS_tmp rfl (by (repeat (first | with_reducible assumption | ((with_reducible apply get_skip_of); (focus decide); (focus decide); (focus decide)) | ((with_reducible apply get_same_of); (focus decide); exact rfl))))) rfl) (put_tmp rfl) ?_
      exact OpsK.nil (CodK.cond (t := false) (evS_tmp rfl (by (repeat (first | with_reducible assumption | ((with_reducible apply get_skip_of); (focus decide); (focus decide); (focus decide)) | ((with_reducible apply get_same_of); (focus decide); exact rfl))))) (CodK.exit (And.intro rfl ⟨_, l, rfl, by (repeat (first | with_reducible assumption | ((with_reducible apply get_skip_of); (focus decide); (focus decide); (focus decide)) | ((with_reducible apply get_same_of); (focus decide); exact rfl))), by (repeat (first | with_reducible assumption | ((with_reducible apply get_skip_of); (focus decide); (focus decide); (focus decide)) | ((with_reducible apply get_same_of); (focus decide); exact rfl))), by (repeat (first | with_reducible assumption | ((with_reducible apply get_skip_of); (focus decide); (focus decide); (focus decide)) | ((with_reducible apply get_same_of); (focus decide); exact rfl))), hk, mA, mB⟩)))
  | succ k ih =>
    intro i t s l hik h1 h2 h3 h4 hk hA' hB' mA mB hl hne
    obtain ⟨ti, hti, hti1, hti2⟩ := ty9
    have hlt : i < len := by omega
    have hlt2 : i < 40 := by omega
    obtain ⟨fid, eo, cap, cc, hvv, hcap, hfid, mF, hcell⟩ : ∃ id eo c cc, v = .slice id 1 eo len (some c) ∧ len ≤ c ∧ id < s0.next ∧ s0.h.get id = some (.ro cc) ∧ ∀ i, i < len → i < 40 → ∃ x, cc ((eo + i) * 1) = some (.str x) := by
      rcases hv with ⟨_, h⟩ | h
      · omega
      · exact h
    obtain ⟨x, hx⟩ := hcell i hlt hlt2
    subst hvv
    have mF' := get_kept hk hfid mF
    have hfn := hk.next
    refine CodK.loop (CodK.seq (CodK.seq (CodK.region ?_)))
    refine OpsK.on rfl (o_move (ev_tmp rfl (by (repeat (first | with_reducible assumption | ((with_reducible apply get_skip_of); (focus decide); (focus decide); (focus decide)) | ((with_reducible apply get_same_of); (focus decide); exact rfl)))))) (put_tmp rfl) ?_
    refine OpsK.on rfl (o_fieldAddr 3 (evS_tmp rfl (by (repeat (first | with_reducible assumption | ((with_reducible apply get_skip_of); (focus decide); (focus decide); (focus decide)) | ((with_reducible apply get_same_of); (focus decide); exact rfl))))) u55 F55_3 z23 rfl) (put_tmp rfl) ?_
    refine OpsK.on rfl (o_load1 (evS_tmp rfl (by (repeat (first | with_reducible assumption | ((with_reducible apply get_skip_of); (focus decide); (focus decide); (focus decide)) | ((with_reducible apply get_same_of); (focus decide); exact rfl))))) g23 (load1_of mA rfl hc)) (put_tmp rfl) ?_
    refine OpsK.on rfl (o_lenL rfl rfl rfl (evS_tmp rfl (by (repeat (first | with_reducible assumption | ((with_reducible apply get_skip_of); (focus decide); (focus decide); (focus decide)) | ((with_reducible apply get_same_of); (focus decide); exact rfl))))) u23 rfl) (put_tmp rfl) ?_
    refine OpsK.on rfl (o_bin (evA_tmp rfl (by (repeat (first | with_reducible assumption | ((with_reducible apply get_skip_of); (focus decide); (focus decide); (focus decide)) | ((with_reducible apply get_same_of); (focus decide); exact rfl))))) (evA_tmp rfl (by (repeat (first | with_reducible assumption | ((with_reducible apply get_skip_of); (focus decide); (focus decide); (focus decide)) | ((with_reducible apply get_same_of); (focus decide); exact rfl))))) (b_lss_t (by omega))) (put_tmp rfl) ?_
    refine OpsK.on rfl (o_move (ev_tmp rfl (by (repeat (first | with_reducible assumption | ((with_reducible apply get_skip_of); (focus decide); (focus decide); (focus decide)) | ((with_reducible apply get_same_of); (focus decide); exact rfl)))))) (put_tmp rfl) ?_
    refine OpsK.on rfl (o_move (ev_tmp rfl (by (repeat (first | with_reducible assumption | ((with_reducible apply get_skip_of); (focus decide); (focus decide); (focus decide)) | ((with_reducible apply get_same_of); (focus decide); exact rfl)))))) (put_tmp rfl) ?_
    refine OpsK.on rfl (o_bin (evA_tmp rfl (by (repeat (first | with_reducible assumption | ((with_reducible apply get_skip_of); (focus decide); (focus decide); (focus decide)) | ((with_reducible apply get_same_of); (focus decide); exact rfl))))) rfl (b_lss_t (by omega))) (put_tmp rfl) ?_
    refine OpsK.on rfl (o_pick true (evS_tmp rfl (by (repeat (first | with_reducible assumption | ((with_reducible apply get_skip_of); (focus decide); (focus decide); (focus decide)) | ((with_reducible apply get_same_of); (focus decide); exact rfl))))) (ev_tmp rfl (by (repeat (first | with_reducible assumption | ((with_reducible apply get_skip_of); (focus decide); (focus decide); (focus decide)) | ((with_reducible apply get_same_of); (focus decide); exact rfl)))))) (put_tmp rfl) ?_
    refine OpsK.nil (CodK.cond (t := true) (evS_tmp rfl (by (repeat (first | with_reducible assumption | ((with_reducible apply get_skip_of); (focus decide); (focus decide); (focus decide)) | ((with_reducible apply get_same_of); (focus decide); exact rfl))))) (CodK.skip ?_))
    refine CodK.seq (CodK.block (CodK.drawn (perm := List.range 17) (by decide +kernel) rfl ?_))
    refine OpsK.on rfl (o_move (ev_tmp rfl (by (repeat (first | with_reducible assumption | ((with_reducible apply get_skip_of); (focus decide); (focus decide); (focus decide)) | ((with_reducible apply get_same_of); (focus decide); exact rfl)))))) (put_tmp rfl) ?_
    refine OpsK.on rfl (o_fieldAddr 3 (evS_tmp rfl (by (repeat (first | with_reducible assumption | ((with_reducible apply get_skip_of); (focus decide); (focus decide); (focus decide)) | ((with_reducible apply get_same_of); (focus decide); exact rfl))))) u55 F55_3 z23 rfl) (put_tmp rfl) ?_
    refine OpsK.on rfl (o_load1 (evS_tmp rfl (by (repeat (first | with_reducible assumption | ((with_reducible apply get_skip_of); (focus decide); (focus decide); (focus decide)) | ((with_reducible apply get_same_of); (focus decide); exact rfl))))) g23 (load1_of mA rfl hc)) (put_tmp rfl) ?_
    refine OpsK.on rfl (o_move (ev_tmp rfl (by (repeat (first | with_reducible assumption | ((with_reducible apply get_skip_of); (focus decide); (focus decide); (focus decide)) | ((with_reducible apply get_same_of); (focus decide); exact rfl)))))) (put_tmp rfl) ?_
    refine OpsK.on rfl (o_indexAddr (evS_tmp rfl (by (repeat (first | with_reducible assumption | ((with_reducible apply get_skip_of); (focus decide); (focus decide); (focus decide)) | ((with_reducible apply get_same_of); (focus decide); exact rfl))))) (evS_tmp rfl (by (repeat (first | with_reducible assumption | ((with_reducible apply get_skip_of); (focus decide); (focus decide); (focus decide)) | ((with_reducible apply get_same_of); (focus decide); exact rfl))))) u23 z9 hlt) (put_tmp rfl) ?_
    refine OpsK.on rfl (o_load1 (evS_tmp rfl (by (repeat (first | with_reducible assumption | ((with_reducible apply get_skip_of); (focus decide); (focus decide); (focus decide)) | ((with_reducible apply get_same_of); (focus decide); exact rfl))))) g9 (load1_ro mF' hx)) (put_tmp rfl) ?_
    refine OpsK.on rfl (o_fieldAddr 3 (evS_tmp rfl (by (repeat (first | with_reducible assumption | ((with_reducible apply get_skip_of); (focus decide); (focus decide); (focus decide)) | ((with_reducible apply get_same_of); (focus decide); exact rfl))))) u55 F55_3 z23 rfl) (put_tmp rfl) ?_
    refine OpsK.on rfl (o_load1 (evS_tmp rfl (by (repeat (first | with_reducible assumption | ((with_reducible apply get_skip_of); (focus decide); (focus decide); (focus decide)) | ((with_reducible apply get_same_of); (focus decide); exact rfl))))) g23 (load1_of mA rfl hc)) (put_tmp rfl) ?_
    refine OpsK.on rfl (o_move (ev_tmp rfl (by (repeat (first | with_reducible assumption | ((with_reducible apply get_skip_of); (focus decide); (focus decide); (focus decide)) | ((with_reducible apply get_same_of); (focus decide); exact rfl)))))) (put_tmp rfl) ?_
    refine OpsK.on rfl (o_indexAddr (evS_tmp rfl (by (repeat (first | with_reducible assumption | ((with_reducible apply get_skip_of); (focus decide); (focus decide); (focus decide)) | ((with_reducible apply get_same_of); (focus decide); exact rfl))))) (evS_tmp rfl (by (repeat (first | with_reducible assumption | ((with_reducible apply get_skip_of); (focus decide); (focus decide); (focus decide)) | ((with_reducible apply get_same_of); (focus decide); exact rfl))))) u23 z9 hlt) (put_tmp rfl) ?_
    refine OpsK.on rfl (o_load1 (evS_tmp rfl (by (repeat (first | with_reducible assumption | ((with_reducible apply get_skip_of); (focus decide); (focus decide); (focus decide)) | ((with_reducible apply get_same_of); (focus decide); exact rfl))))) g9 (load1_ro mF' hx)) (put_tmp rfl) ?_
    refine OpsK.on rfl (o_lenS rfl rfl rfl (evS_tmp rfl (by (repeat (first | with_reducible assumption | ((with_reducible apply get_skip_of); (focus decide); (focus decide); (focus decide)) | ((with_reducible apply get_same_of); (focus decide); exact rfl))))) u9) (put_tmp rfl) ?_
    refine OpsK.on rfl (o_min (n := 300) rfl rfl (evS_tmp rfl (by (repeat (first | with_reducible assumption | ((with_reducible apply get_skip_of); (focus decide); (focus decide); (focus decide)) | ((with_reducible apply get_same_of); (focus decide); exact rfl))))) rfl) (put_tmp rfl) ?_
    refine OpsK.on rfl (o_sliceS u9 (evS_tmp rfl (by (repeat (first | with_reducible assumption | ((with_reducible apply get_skip_of); (focus decide); (focus decide); (focus decide)) | ((with_reducible apply get_same_of); (focus decide); exact rfl))))) natOfO_none (natOfO_some (evS_tmp rfl (by (repeat (first | with_reducible assumption | ((with_reducible apply get_skip_of); (focus decide); (focus decide); (focus decide)) | ((with_reducible apply get_same_of); (focus decide); exact rfl)))))) (by dsimp only [Option.getD]; omega) (Nat.zero_le _)) (put_tmp rfl) ?_
    refine OpsK.on rfl (o_buildSlice (sz := 1) (eachR_cons_of (by rw [evA_tmp rfl (by (repeat (first | with_reducible assumption | ((with_reducible apply get_skip_of); (focus decide); (focus decide); (focus decide)) | ((with_reducible apply get_same_of); (focus decide); exact rfl))))]; rfl) rfl) (bs23 _)) (put_tmp rfl) ?_
    rcases hl with ⟨rfl, rfl⟩ | ⟨id, c, rfl, hid0, mI⟩
    · refine OpsK.on rfl (o_append rfl rfl rfl (evS_tmp rfl (by (repeat (first | with_reducible assumption | ((with_reducible apply get_skip_of); (focus decide); (focus decide); (focus decide)) | ((with_reducible apply get_same_of); (focus decide); exact rfl))))) (evS_tmp rfl (by (repeat (first | with_reducible assumption | ((with_reducible apply get_skip_of); (focus decide); (focus decide); (focus decide)) | ((with_reducible apply get_same_of); (focus decide); exact rfl))))) (.inl u23) (ap_nil u23 hti hti1 hti2 zero9 rfl (by omega) get_here rfl)) (put_tmp rfl) ?_
      refine OpsK.on rfl (o_assign (ev_tmp rfl (by (repeat (first | with_reducible assumption | ((with_reducible apply get_skip_of); (focus decide); (focus decide); (focus decide)) | ((with_reducible apply get_same_of); (focus decide); exact rfl)))))) (put_tmp rfl) ?_
      refine OpsK.nil ?_
      refine CodK.region ?_
      refine OpsK.on rfl (o_move (ev_tmp rfl (by (repeat (first | with_reducible assumption | ((with_reducible apply get_skip_of); (focus decide); (focus decide); (focus decide)) | ((with_reducible apply get_same_of); (focus decide); exact rfl)))))) (put_tmp rfl) ?_
      refine OpsK.on rfl (o_bin (evA_tmp rfl (by (repeat (first | with_reducible assumption | ((with_reducible apply get_skip_of); (focus decide); (focus decide); (focus decide)) | ((with_reducible apply get_same_of); (focus decide); exact rfl))))) rfl (b_inc (by omega))) (put_tmp rfl) ?_
      refine OpsK.on rfl (o_assign (ev_tmp rfl (by (repeat (first | with_reducible assumption | ((with_reducible apply get_skip_of); (focus decide); (focus decide); (focus decide)) | ((with_reducible apply get_same_of); (focus decide); exact rfl)))))) (put_tmp rfl) ?_
      refine OpsK.nil ?_
      refine ih (0 + 1) _ _ _ (by omega) (by (repeat (first | with_reducible assumption | ((with_reducible apply get_skip_of); (focus decide); (focus decide); (focus decide)) | ((with_reducible apply get_same_of); (focus decide); exact rfl)))) (by (repeat (first | with_reducible assumption | ((with_reducible apply get_skip_of); (focus decide); (focus decide); (focus decide)) | ((with_reducible apply get_same_of); (focus decide); exact rfl)))) (by (repeat (first | with_reducible assumption | ((with_reducible apply get_skip_of); (focus decide); (focus decide); (focus decide)) | ((with_reducible apply get_same_of); (focus decide); exact rfl)))) (by (repeat (first | with_reducible assumption | ((with_reducible apply get_skip_of); (focus decide); (focus decide); (focus decide)) | ((with_reducible apply get_same_of); (focus decide); exact rfl)))) ((hk.new _).new _) (by ((try dsimp only [St.put]); omega)) (by ((try dsimp only [St.put]); omega)) (by (repeat (first | exact get_here | exact get_here' | refine get_there (by (try dsimp only [St.put]); omega) ?_ | refine get_there' (by (try dsimp only [St.put]); omega) ?_ | assumption | refine get_kept (by assumption) (by (try dsimp only [St.put]); omega) ?_))) (by (repeat (first | exact get_here | exact get_here' | refine get_there (by (try dsimp only [St.put]); omega) ?_ | refine get_there' (by (try dsimp only [St.put]); omega) ?_ | assumption | refine get_kept (by assumption) (by (try dsimp only [St.put]); omega) ?_))) (.inr ⟨_, _, rfl, by ((try dsimp only [St.put]); omega), get_here⟩) ?_
      intro id e
      cases e
      refine ⟨?_, ?_, ?_⟩ <;> ((try dsimp only [St.put]); omega)
    · obtain ⟨n1, n2, n3⟩ := hne id rfl
      refine OpsK.on rfl (o_append rfl rfl rfl (evS_tmp rfl (by (repeat (first | with_reducible assumption | ((with_reducible apply get_skip_of); (focus decide); (focus decide); (focus decide)) | ((with_reducible apply get_same_of); (focus decide); exact rfl))))) (evS_tmp rfl (by (repeat (first | with_reducible assumption | ((with_reducible apply get_skip_of); (focus decide); (focus decide); (focus decide)) | ((with_reducible apply get_same_of); (focus decide); exact rfl))))) (.inl u23) (ap_more (i := i) u23 hti hti1 hti2 zero9 rfl (by omega) get_here rfl (by (repeat (first | exact get_here | exact get_here' | refine get_there (by (try dsimp only [St.put]); omega) ?_ | refine get_there' (by (try dsimp only [St.put]); omega) ?_ | assumption | refine get_kept (by assumption) (by (try dsimp only [St.put]); omega) ?_))) (by omega))) (put_tmp rfl) ?_
      refine OpsK.on rfl (o_assign (ev_tmp rfl (by (repeat (first | with_reducible assumption | ((with_reducible apply get_skip_of); (focus decide); (focus decide); (focus decide)) | ((with_reducible apply get_same_of); (focus decide); exact rfl)))))) (put_tmp rfl) ?_
      refine OpsK.nil ?_
      refine CodK.region ?_
      refine OpsK.on rfl (o_move (ev_tmp rfl (by (repeat (first | with_reducible assumption | ((with_reducible apply get_skip_of); (focus decide); (focus decide); (focus decide)) | ((with_reducible apply get_same_of); (focus decide); exact rfl)))))) (put_tmp rfl) ?_
      refine OpsK.on rfl (o_bin (evA_tmp rfl (by (repeat (first | with_reducible assumption | ((with_reducible apply get_skip_of); (focus decide); (focus decide); (focus decide)) | ((with_reducible apply get_same_of); (focus decide); exact rfl))))) rfl (b_inc (by omega))) (put_tmp rfl) ?_
      refine OpsK.on rfl (o_assign (ev_tmp rfl (by (repeat (first | with_reducible assumption | ((with_reducible apply get_skip_of); (focus decide); (focus decide); (focus decide)) | ((with_reducible apply get_same_of); (focus decide); exact rfl)))))) (put_tmp rfl) ?_
      refine OpsK.nil ?_
      refine ih (i + 1) _ _ _ (by omega) (by (repeat (first | with_reducible assumption | ((with_reducible apply get_skip_of); (focus decide); (focus decide); (focus decide)) | ((with_reducible apply get_same_of); (focus decide); exact rfl)))) (by (repeat (first | with_reducible assumption | ((with_reducible apply get_skip_of); (focus decide); (focus decide); (focus decide)) | ((with_reducible apply get_same_of); (focus decide); exact rfl)))) (by (repeat (first | with_reducible assumption | ((with_reducible apply get_skip_of); (focus decide); (focus decide); (focus decide)) | ((with_reducible apply get_same_of); (focus decide); exact rfl)))) (by (repeat (first | with_reducible assumption | ((with_reducible apply get_skip_of); (focus decide); (focus decide); (focus decide)) | ((with_reducible apply get_same_of); (focus decide); exact rfl)))) (((hk.new _).put (by ((try dsimp only [St.put]); omega)) _).new _) (by ((try dsimp only [St.put]); omega)) (by ((try dsimp only [St.put]); omega)) (by (repeat (first | exact get_here | exact get_here' | refine get_there (by (try dsimp only [St.put]); omega) ?_ | refine get_there' (by (try dsimp only [St.put]); omega) ?_ | assumption | refine get_kept (by assumption) (by (try dsimp only [St.put]); omega) ?_))) (by (repeat (first | exact get_here | exact get_here' | refine get_there (by (try dsimp only [St.put]); omega) ?_ | refine get_there' (by (try dsimp only [St.put]); omega) ?_ | assumption | refine get_kept (by assumption) (by (try dsimp only [St.put]); omega) ?_))) (.inr ⟨_, _, rfl, by ((try dsimp only [St.put]); omega), get_here⟩) ?_
      intro id e
      cases e
      refine ⟨?_, ?_, ?_⟩ <;> ((try dsimp only [St.put]); omega)
end Go.Proofs.YtdgccipcandojaaGreat

namespace Go.Proofs.YtdgccipcandojaaGreat
open Go Go.Ev Go.RowKit

theorem few_field (k0 opts m4 m5 m6 m7 m8 dN dB dL dF : SV) (nm lb dS sh ck : List UInt8) {len dlen : Nat} (s : St) (hO : Strs s opts len 40) (hL : Sl 1 dL dlen) :
    RetK CY 10 [.agg [k0, .str nm, .str lb, opts, m4, m5, m6, m7, m8, .str dS, dN, dB, dL, dF, .str sh, .str ck]] s fun v s' => (∃ l, v = .v (.agg l) ∧ l.length = 16) ∧ Keeps s s' := by
  refine RetK.body fn10 fb10 rfl rfl ?_
  refine CodK.seq (CodK.region ?_)
  refine OpsK.on rfl (o_box (evA_tmp rfl rfl)) (put_tmp rfl) ?_
  refine OpsK.on rfl (o_alloc zero55) (put_tmp rfl) ?_
  refine OpsK.nil ?_
  refine CodK.seq (CodK.drawn (perm := List.range 18) (by decide +kernel) rfl ?_)
  refine OpsK.on rfl (o_fieldAddr 1 (evS_tmp rfl (by (repeat (first | with_reducible assumption | ((with_reducible apply get_skip_of); (focus decide); (focus decide); (focus decide)) | ((with_reducible apply get_same_of); (focus decide); exact rfl))))) u55 F55_1 z9 rfl) (put_tmp rfl) ?_
  refine OpsK.on rfl (o_load1 (evS_tmp rfl (by (repeat (first | with_reducible assumption | ((with_reducible apply get_skip_of); (focus decide); (focus decide); (focus decide)) | ((with_reducible apply get_same_of); (focus decide); exact rfl))))) g9 (load1_of (by (repeat (first | exact get_here | exact get_here' | refine get_there (by (try dsimp only [St.put]); omega) ?_ | refine get_there' (by (try dsimp only [St.put]); omega) ?_ | assumption | refine get_kept (by assumption) (by (try dsimp only [St.put]); omega) ?_))) rfl rfl)) (put_tmp rfl) ?_
  refine OpsK.on rfl (o_fieldAddr 1 (evS_tmp rfl (by (repeat (first | with_reducible assumption | ((with_reducible apply get_skip_of); (focus decide); (focus decide); (focus decide)) | ((with_reducible apply get_same_of); (focus decide); exact rfl))))) u55 F55_1 z9 rfl) (put_tmp rfl) ?_
  refine OpsK.on rfl (o_load1 (evS_tmp rfl (by (repeat (first | with_reducible assumption | ((with_reducible apply get_skip_of); (focus decide); (focus decide); (focus decide)) | ((with_reducible apply get_same_of); (focus decide); exact rfl))))) g9 (load1_of (by (repeat (first | exact get_here | exact get_here' | refine get_there (by (try dsimp only [St.put]); omega) ?_ | refine get_there' (by (try dsimp only [St.put]); omega) ?_ | assumption | refine get_kept (by assumption) (by (try dsimp only [St.put]); omega) ?_))) rfl rfl)) (put_tmp rfl) ?_
  refine OpsK.on rfl (o_lenS rfl rfl rfl (evS_tmp rfl (by (repeat (first | with_reducible assumption | ((with_reducible apply get_skip_of); (focus decide); (focus decide); (focus decide)) | ((with_reducible apply get_same_of); (focus decide); exact rfl))))) u9) (put_tmp rfl) ?_
  refine OpsK.on rfl (o_min (n := 40) rfl rfl (evS_tmp rfl (by (repeat (first | with_reducible assumption | ((with_reducible apply get_skip_of); (focus decide); (focus decide); (focus decide)) | ((with_reducible apply get_same_of); (focus decide); exact rfl))))) rfl) (put_tmp rfl) ?_
  refine OpsK.on rfl (o_sliceS u9 (evS_tmp rfl (by (repeat (first | with_reducible assumption | ((with_reducible apply get_skip_of); (focus decide); (focus decide); (focus decide)) | ((with_reducible apply get_same_of); (focus decide); exact rfl))))) natOfO_none (natOfO_some (evS_tmp rfl (by (repeat (first | with_reducible assumption | ((with_reducible apply get_skip_of); (focus decide); (focus decide); (focus decide)) | ((with_reducible apply get_same_of); (focus decide); exact rfl)))))) (by dsimp only [Option.getD]; omega) (Nat.zero_le _)) (put_tmp rfl) ?_
  refine OpsK.on rfl (o_fieldAddr 2 (evS_tmp rfl (by (repeat (first | with_reducible assumption | ((with_reducible apply get_skip_of); (focus decide); (focus decide); (focus decide)) | ((with_reducible apply get_same_of); (focus decide); exact rfl))))) u55 F55_2 z9 rfl) (put_tmp rfl) ?_
  refine OpsK.on rfl (o_load1 (evS_tmp rfl (by (repeat (first | with_reducible assumption | ((with_reducible apply get_skip_of); (focus decide); (focus decide); (focus decide)) | ((with_reducible apply get_same_of); (focus decide); exact rfl))))) g9 (load1_of (by (repeat (first | exact get_here | exact get_here' | refine get_there (by (try dsimp only [St.put]); omega) ?_ | refine get_there' (by (try dsimp only [St.put]); omega) ?_ | assumption | refine get_kept (by assumption) (by (try dsimp only [St.put]); omega) ?_))) rfl rfl)) (put_tmp rfl) ?_
  refine OpsK.on rfl (o_fieldAddr 2 (evS_tmp rfl (by (repeat (first | with_reducible assumption | ((with_reducible apply get_skip_of); (focus decide); (focus decide); (focus decide)) | ((with_reducible apply get_same_of); (focus decide); exact rfl))))) u55 F55_2 z9 rfl) (put_tmp rfl) ?_
  refine OpsK.on rfl (o_load1 (evS_tmp rfl (by (repeat (first | with_reducible assumption | ((with_reducible apply get_skip_of); (focus decide); (focus decide); (focus decide)) | ((with_reducible apply get_same_of); (focus decide); exact rfl))))) g9 (load1_of (by (repeat (first | exact get_here | exact get_here' | refine get_there (by (try dsimp only [St.put]); omega) ?_ | refine get_there' (by (try dsimp only [St.put]); omega) ?_ | assumption | refine get_kept (by assumption) (by (try dsimp only [St.put]); omega) ?_))) rfl rfl)) (put_tmp rfl) ?_
  refine OpsK.on rfl (o_lenS rfl rfl rfl (evS_tmp rfl (by (repeat (first | with_reducible assumption | ((with_reducible apply get_skip_of); (focus decide); (focus decide); (focus decide)) | ((with_reducible apply get_same_of); (focus decide); exact rfl))))) u9) (put_tmp rfl) ?_
  refine OpsK.on rfl (o_min (n := 400) rfl rfl (evS_tmp rfl (by (repeat (first | with_reducible assumption | ((with_reducible apply get_skip_of); (focus decide); (focus decide); (focus decide)) | ((with_reducible apply get_same_of); (focus decide); exact rfl))))) rfl) (put_tmp rfl) ?_
  refine OpsK.on rfl (o_sliceS u9 (evS_tmp rfl (by (repeat (first | with_reducible assumption | ((with_reducible apply get_skip_of); (focus decide); (focus decide); (focus decide)) | ((with_reducible apply get_same_of); (focus decide); exact rfl))))) natOfO_none (natOfO_some (evS_tmp rfl (by (repeat (first | with_reducible assumption | ((with_reducible apply get_skip_of); (focus decide); (focus decide); (focus decide)) | ((with_reducible apply get_same_of); (focus decide); exact rfl)))))) (by dsimp only [Option.getD]; omega) (Nat.zero_le _)) (put_tmp rfl) ?_
  refine OpsK.on rfl (o_fieldAddr 1 (evS_tmp rfl (by (repeat (first | with_reducible assumption | ((with_reducible apply get_skip_of); (focus decide); (focus decide); (focus decide)) | ((with_reducible apply get_same_of); (focus decide); exact rfl))))) u55 F55_1 z9 rfl) (put_tmp rfl) ?_
  refine OpsK.on rfl (o_store (evS_tmp rfl (by (repeat (first | with_reducible assumption | ((with_reducible apply get_skip_of); (focus decide); (focus decide); (focus decide)) | ((with_reducible apply get_same_of); (focus decide); exact rfl))))) (evA_tmp rfl (by (repeat (first | with_reducible assumption | ((with_reducible apply get_skip_of); (focus decide); (focus decide); (focus decide)) | ((with_reducible apply get_same_of); (focus decide); exact rfl))))) z9 (storeL_of (by (repeat (first | exact get_here | exact get_here' | refine get_there (by (try dsimp only [St.put]); omega) ?_ | refine get_there' (by (try dsimp only [St.put]); omega) ?_ | assumption | refine get_kept (by assumption) (by (try dsimp only [St.put]); omega) ?_))) rfl) (by rfl)) put_none ?_
  refine OpsK.on rfl (o_fieldAddr 2 (evS_tmp rfl (by (repeat (first | with_reducible assumption | ((with_reducible apply get_skip_of); (focus decide); (focus decide); (focus decide)) | ((with_reducible apply get_same_of); (focus decide); exact rfl))))) u55 F55_2 z9 rfl) (put_tmp rfl) ?_
  refine OpsK.on rfl (o_store (evS_tmp rfl (by (repeat (first | with_reducible assumption | ((with_reducible apply get_skip_of); (focus decide); (focus decide); (focus decide)) | ((with_reducible apply get_same_of); (focus decide); exact rfl))))) (evA_tmp rfl (by (repeat (first | with_reducible assumption | ((with_reducible apply get_skip_of); (focus decide); (focus decide); (focus decide)) | ((with_reducible apply get_same_of); (focus decide); exact rfl))))) z9 (storeL_of (by (repeat (first | exact get_here | exact get_here' | refine get_there (by (try dsimp only [St.put]); omega) ?_ | refine get_there' (by (try dsimp only [St.put]); omega) ?_ | assumption | refine get_kept (by assumption) (by (try dsimp only [St.put]); omega) ?_))) rfl) (by rfl)) put_none ?_
  refine OpsK.nil ?_
  refine CodK.seq (CodK.drawn (perm := List.range 18) (by decide +kernel) rfl ?_)
  refine OpsK.on rfl (o_fieldAddr 14 (evS_tmp rfl (by (repeat (first | with_reducible assumption | ((with_reducible apply get_skip_of); (focus decide); (focus decide); (focus decide)) | ((with_reducible apply get_same_of); (focus decide); exact rfl))))) u55 F55_10 z9 rfl) (put_tmp rfl) ?_
  refine OpsK.on rfl (o_load1 (evS_tmp rfl (by (repeat (first | with_reducible assumption | ((with_reducible apply get_skip_of); (focus decide); (focus decide); (focus decide)) | ((with_reducible apply get_same_of); (focus decide); exact rfl))))) g9 (load1_of (by (repeat (first | exact get_here | exact get_here' | refine get_there (by (try dsimp only [St.put]); omega) ?_ | refine get_there' (by (try dsimp only [St.put]); omega) ?_ | assumption | refine get_kept (by assumption) (by (try dsimp only [St.put]); omega) ?_))) rfl rfl)) (put_tmp rfl) ?_
  refine OpsK.on rfl (o_fieldAddr 14 (evS_tmp rfl (by (repeat (first | with_reducible assumption | ((with_reducible apply get_skip_of); (focus decide); (focus decide); (focus decide)) | ((with_reducible apply get_same_of); (focus decide); exact rfl))))) u55 F55_10 z9 rfl) (put_tmp rfl) ?_
  refine OpsK.on rfl (o_load1 (evS_tmp rfl (by (repeat (first | with_reducible assumption | ((with_reducible apply get_skip_of); (focus decide); (focus decide); (focus decide)) | ((with_reducible apply get_same_of); (focus decide); exact rfl))))) g9 (load1_of (by (repeat (first | exact get_here | exact get_here' | refine get_there (by (try dsimp only [St.put]); omega) ?_ | refine get_there' (by (try dsimp only [St.put]); omega) ?_ | assumption | refine get_kept (by assumption) (by (try dsimp only [St.put]); omega) ?_))) rfl rfl)) (put_tmp rfl) ?_
  refine OpsK.on rfl (o_lenS rfl rfl rfl (evS_tmp rfl (by (repeat (first | with_reducible assumption | ((with_reducible apply get_skip_of); (focus decide); (focus decide); (focus decide)) | ((with_reducible apply get_same_of); (focus decide); exact rfl))))) u9) (put_tmp rfl) ?_
  refine OpsK.on rfl (o_min (n := 300) rfl rfl (evS_tmp rfl (by (repeat (first | with_reducible assumption | ((with_reducible apply get_skip_of); (focus decide); (focus decide); (focus decide)) | ((with_reducible apply get_same_of); (focus decide); exact rfl))))) rfl) (put_tmp rfl) ?_
  refine OpsK.on rfl (o_sliceS u9 (evS_tmp rfl (by (repeat (first | with_reducible assumption | ((with_reducible apply get_skip_of); (focus decide); (focus decide); (focus decide)) | ((with_reducible apply get_same_of); (focus decide); exact rfl))))) natOfO_none (natOfO_some (evS_tmp rfl (by (repeat (first | with_reducible assumption | ((with_reducible apply get_skip_of); (focus decide); (focus decide); (focus decide)) | ((with_reducible apply get_same_of); (focus decide); exact rfl)))))) (by dsimp only [Option.getD]; omega) (Nat.zero_le _)) (put_tmp rfl) ?_
  refine OpsK.on rfl (o_fieldAddr 15 (evS_tmp rfl (by (repeat (first | with_reducible assumption | ((with_reducible apply get_skip_of); (focus decide); (focus decide); (focus decide)) | ((with_reducible apply get_same_of); (focus decide); exact rfl))))) u55 F55_11 z9 rfl) (put_tmp rfl) ?_
  refine OpsK.on rfl (o_load1 (evS_tmp rfl (by (repeat (first | with_reducible assumption | ((with_reducible apply get_skip_of); (focus decide); (focus decide); (focus decide)) | ((with_reducible apply get_same_of); (focus decide); exact rfl))))) g9 (load1_of (by (repeat (first | exact get_here | exact get_here' | refine get_there (by (try dsimp only [St.put]); omega) ?_ | refine get_there' (by (try dsimp only [St.put]); omega) ?_ | assumption | refine get_kept (by assumption) (by (try dsimp only [St.put]); omega) ?_))) rfl rfl)) (put_tmp rfl) ?_
  refine OpsK.on rfl (o_fieldAddr 15 (evS_tmp rfl (by (repeat (first | with_reducible assumption | ((with_reducible apply get_skip_of); (focus decide); (focus decide); (focus decide)) | ((with_reducible apply get_same_of); (focus decide); exact rfl))))) u55 F55_11 z9 rfl) (put_tmp rfl) ?_
  refine OpsK.on rfl (o_load1 (evS_tmp rfl (by (repeat (first | with_reducible assumption | ((with_reducible apply get_skip_of); (focus decide); (focus decide); (focus decide)) | ((with_reducible apply get_same_of); (focus decide); exact rfl))))) g9 (load1_of (by (repeat (first | exact get_here | exact get_here' | refine get_there (by (try dsimp only [St.put]); omega) ?_ | refine get_there' (by (try dsimp only [St.put]); omega) ?_ | assumption | refine get_kept (by assumption) (by (try dsimp only [St.put]); omega) ?_))) rfl rfl)) (put_tmp rfl) ?_
  refine OpsK.on rfl (o_lenS rfl rfl rfl (evS_tmp rfl (by (repeat (first | with_reducible assumption | ((with_reducible apply get_skip_of); (focus decide); (focus decide); (focus decide)) | ((with_reducible apply get_same_of); (focus decide); exact rfl))))) u9) (put_tmp rfl) ?_
  refine OpsK.on rfl (o_min (n := 300) rfl rfl (evS_tmp rfl (by (repeat (first | with_reducible assumption | ((with_reducible apply get_skip_of); (focus decide); (focus decide); (focus decide)) | ((with_reducible apply get_same_of); (focus decide); exact rfl))))) rfl) (put_tmp rfl) ?_
  refine OpsK.on rfl (o_sliceS u9 (evS_tmp rfl (by (repeat (first | with_reducible assumption | ((with_reducible apply get_skip_of); (focus decide); (focus decide); (focus decide)) | ((with_reducible apply get_same_of); (focus decide); exact rfl))))) natOfO_none (natOfO_some (evS_tmp rfl (by (repeat (first | with_reducible assumption | ((with_reducible apply get_skip_of); (focus decide); (focus decide); (focus decide)) | ((with_reducible apply get_same_of); (focus decide); exact rfl)))))) (by dsimp only [Option.getD]; omega) (Nat.zero_le _)) (put_tmp rfl) ?_
  refine OpsK.on rfl (o_fieldAddr 14 (evS_tmp rfl (by (repeat (first | with_reducible assumption | ((with_reducible apply get_skip_of); (focus decide); (focus decide); (focus decide)) | ((with_reducible apply get_same_of); (focus decide); exact rfl))))) u55 F55_10 z9 rfl) (put_tmp rfl) ?_
  refine OpsK.on rfl (o_store (evS_tmp rfl (by (repeat (first | with_reducible assumption | ((with_reducible apply get_skip_of); (focus decide); (focus decide); (focus decide)) | ((with_reducible apply get_same_of); (focus decide); exact rfl))))) (evA_tmp rfl (by (repeat (first | with_reducible assumption | ((with_reducible apply get_skip_of); (focus decide); (focus decide); (focus decide)) | ((with_reducible apply get_same_of); (focus decide); exact rfl))))) z9 (storeL_of (by (repeat (first | exact get_here | exact get_here' | refine get_there (by (try dsimp only [St.put]); omega) ?_ | refine get_there' (by (try dsimp only [St.put]); omega) ?_ | assumption | refine get_kept (by assumption) (by (try dsimp only [St.put]); omega) ?_))) rfl) (by rfl)) put_none ?_
  refine OpsK.on rfl (o_fieldAddr 15 (evS_tmp rfl (by (repeat (first | with_reducible assumption | ((with_reducible apply get_skip_of); (focus decide); (focus decide); (focus decide)) | ((with_reducible apply get_same_of); (focus decide); exact rfl))))) u55 F55_11 z9 rfl) (put_tmp rfl) ?_
  refine OpsK.on rfl (o_store (evS_tmp rfl (by (repeat (first | with_reducible assumption | ((with_reducible apply get_skip_of); (focus decide); (focus decide); (focus decide)) | ((with_reducible apply get_same_of); (focus decide); exact rfl))))) (evA_tmp rfl (by (repeat (first | with_reducible assumption | ((with_reducible apply get_skip_of); (focus decide); (focus decide); (focus decide)) | ((with_reducible apply get_same_of); (focus decide); exact rfl))))) z9 (storeL_of (by (repeat (first | exact get_here | exact get_here' | refine get_there (by (try dsimp only [St.put]); omega) ?_ | refine get_there' (by (try dsimp only [St.put]); omega) ?_ | assumption | refine get_kept (by assumption) (by (try dsimp only [St.put]); omega) ?_))) rfl) (by rfl)) put_none ?_
  refine OpsK.nil ?_
  refine CodK.seq (CodK.region ?_)
  refine OpsK.on rfl (o_fieldAddr 9 (evS_tmp rfl (by (repeat (first | with_reducible assumption | ((with_reducible apply get_skip_of); (focus decide); (focus decide); (focus decide)) | ((with_reducible apply get_same_of); (focus decide); exact rfl))))) u55 F55_9 z53 rfl) (put_tmp rfl) ?_
  refine OpsK.on rfl (o_loadN (evS_tmp rfl (by (repeat (first | with_reducible assumption | ((with_reducible apply get_skip_of); (focus decide); (focus decide); (focus decide)) | ((with_reducible apply get_same_of); (focus decide); exact rfl))))) g53 z53 (loadN_of (by (repeat (first | exact get_here | exact get_here' | refine get_there (by (try dsimp only [St.put]); omega) ?_ | refine get_there' (by (try dsimp only [St.put]); omega) ?_ | assumption | refine get_kept (by assumption) (by (try dsimp only [St.put]); omega) ?_))) rfl)) (put_tmp rfl) ?_
  refine OpsK.call rfl rfl rfl (eachR_cons_of (evA_tmp rfl (by (repeat (first | with_reducible assumption | ((with_reducible apply get_skip_of); (focus decide); (focus decide); (focus decide)) | ((with_reducible apply get_same_of); (focus decide); exact rfl))))) rfl) ?_
  refine RetK.mono (few_value dS dN dB dL dF hL _) fun v s1 ⟨⟨l, e, hl5⟩, hk1⟩ => ?_
  subst e
  obtain ⟨l0, l1, l2, l3, l4, rfl⟩ : ∃ a b c d e, l = [a, b, c, d, e] := by
    match l, hl5 with
    | [a, b, c, d, e], _ => exact ⟨a, b, c, d, e, rfl⟩
  refine ⟨_, put_tmp rfl, ?_⟩
  refine OpsK.on rfl (o_fieldAddr 9 (evS_tmp rfl (by (repeat (first | with_reducible assumption | ((with_reducible apply get_skip_of); (focus decide); (focus decide); (focus decide)) | ((with_reducible apply get_same_of); (focus decide); exact rfl))))) u55 F55_9 z53 rfl) (put_tmp rfl) ?_
  refine OpsK.on rfl (o_store (evS_tmp rfl (by (repeat (first | with_reducible assumption | ((with_reducible apply get_skip_of); (focus decide); (focus decide); (focus decide)) | ((with_reducible apply get_same_of); (focus decide); exact rfl))))) (evA_tmp rfl (by (repeat (first | with_reducible assumption | ((with_reducible apply get_skip_of); (focus decide); (focus decide); (focus decide)) | ((with_reducible apply get_same_of); (focus decide); exact rfl))))) z53 (storeL_of (by (repeat (first | exact get_here | exact get_here' | refine get_there (by (try dsimp only [St.put]); omega) ?_ | refine get_there' (by (try dsimp only [St.put]); omega) ?_ | assumption | refine get_kept (by assumption) (by (try dsimp only [St.put]); omega) ?_))) rfl) (by rfl)) put_none ?_
  refine OpsK.nil ?_
  refine CodK.seq (CodK.region ?_)
  refine OpsK.on rfl (o_assign rfl) (put_tmp rfl) (OpsK.nil ?_)
  refine CodK.seq (CodK.seq (CodK.region ?_))
  refine OpsK.on rfl (o_assign rfl) (put_tmp rfl) (OpsK.nil ?_)
  refine CodK.block (CodK.mono (loop_opts (len := len) (v := opts) (A := s.next) (B := s.next + 1) (s0 := s) hO (by omega) (by omega) (by omega) ?_ (min len 40) 0 _ _ .nils (by omega) ?_ ?_ ?_ ?_ ?_ ?_ ?_ (by (repeat (first | exact get_here | exact get_here' | refine get_there (by (try dsimp only [St.put]); omega) ?_ | refine get_there' (by (try dsimp only [St.put]); omega) ?_ | assumption | refine get_kept (by assumption) (by (try dsimp only [St.put]); omega) ?_))) (by (repeat (first | exact get_here | exact get_here' | refine get_there (by (try dsimp only [St.put]); omega) ?_ | refine get_there' (by (try dsimp only [St.put]); omega) ?_ | assumption | refine get_kept (by assumption) (by (try dsimp only [St.put]); omega) ?_))) (.inl ⟨rfl, rfl⟩) (fun _ e => by cases e)) ?_)
  · rfl
  · (repeat (first | with_reducible assumption | ((with_reducible apply get_skip_of); (focus decide); (focus decide); (focus decide)) | ((with_reducible apply get_same_of); (focus decide); exact rfl)))
  · (repeat (first | with_reducible assumption | ((with_reducible apply get_skip_of); (focus decide); (focus decide); (focus decide)) | ((with_reducible apply get_same_of); (focus decide); exact rfl)))
  · (repeat (first | with_reducible assumption | ((with_reducible apply get_skip_of); (focus decide); (focus decide); (focus decide)) | ((with_reducible apply get_same_of); (focus decide); exact rfl)))
  · (repeat (first | with_reducible assumption | ((with_reducible apply get_skip_of); (focus decide); (focus decide); (focus decide)) | ((with_reducible apply get_same_of); (focus decide); exact rfl)))
  · exact ((((((((Keeps.refl s).new _).new _).put (by ((try dsimp only [St.put]); omega)) _).put (by ((try dsimp only [St.put]); omega)) _).put (by ((try dsimp only [St.put]); omega)) _).put (by ((try dsimp only [St.put]); omega)) _).trans hk1).put (by ((try dsimp only [St.put]); omega)) _
  · have := hk1.next; dsimp only [St.put] at this ⊢; omega
  · have := hk1.next; dsimp only [St.put] at this ⊢; omega
  rintro ex f' s2 ⟨rfl, t', l', rfl, h1, h2, h3, hk2, mA, mB⟩
  refine CodK.seq (CodK.region ?_)
  refine OpsK.on rfl (o_move (ev_tmp rfl (by (repeat (first | with_reducible assumption | ((with_reducible apply get_skip_of); (focus decide); (focus decide); (focus decide)) | ((with_reducible apply get_same_of); (focus decide); exact rfl)))))) (put_tmp rfl) ?_
  refine OpsK.on rfl (o_fieldAddr 3 (evS_tmp rfl (by (repeat (first | with_reducible assumption | ((with_reducible apply get_skip_of); (focus decide); (focus decide); (focus decide)) | ((with_reducible apply get_same_of); (focus decide); exact rfl))))) u55 F55_3 z23 rfl) (put_tmp rfl) ?_
  refine OpsK.on rfl (o_store (evS_tmp rfl (by (repeat (first | with_reducible assumption | ((with_reducible apply get_skip_of); (focus decide); (focus decide); (focus decide)) | ((with_reducible apply get_same_of); (focus decide); exact rfl))))) (evA_tmp rfl (by (repeat (first | with_reducible assumption | ((with_reducible apply get_skip_of); (focus decide); (focus decide); (focus decide)) | ((with_reducible apply get_same_of); (focus decide); exact rfl))))) z23 (storeL_of (by (repeat (first | exact get_here | exact get_here' | refine get_there (by (try dsimp only [St.put]); omega) ?_ | refine get_there' (by (try dsimp only [St.put]); omega) ?_ | assumption | refine get_kept (by assumption) (by (try dsimp only [St.put]); omega) ?_))) rfl) (by rfl)) put_none (OpsK.nil ?_)
  refine CodK.seq (CodK.region ?_)
  refine OpsK.on rfl (o_loadN (evS_tmp rfl (by (repeat (first | with_reducible assumption | ((with_reducible apply get_skip_of); (focus decide); (focus decide); (focus decide)) | ((with_reducible apply get_same_of); (focus decide); exact rfl))))) g55 z55 (loadN_of (by (repeat (first | exact get_here | exact get_here' | refine get_there (by (try dsimp only [St.put]); omega) ?_ | refine get_there' (by (try dsimp only [St.put]); omega) ?_ | assumption | refine get_kept (by assumption) (by (try dsimp only [St.put]); omega) ?_))) rfl)) (put_tmp rfl) ?_
  refine OpsK.on rfl (o_store (evS_tmp rfl (by (repeat (first | with_reducible assumption | ((with_reducible apply get_skip_of); (focus decide); (focus decide); (focus decide)) | ((with_reducible apply get_same_of); (focus decide); exact rfl))))) (evA_tmp rfl (by (repeat (first | with_reducible assumption | ((with_reducible apply get_skip_of); (focus decide); (focus decide); (focus decide)) | ((with_reducible apply get_same_of); (focus decide); exact rfl))))) z55 (storeL_of (by (repeat (first | exact get_here | exact get_here' | refine get_there (by (try dsimp only [St.put]); omega) ?_ | refine get_there' (by (try dsimp only [St.put]); omega) ?_ | assumption | refine get_kept (by assumption) (by (try dsimp only [St.put]); omega) ?_))) rfl) (by rfl)) put_none (OpsK.nil ?_)
  refine CodK.ret ⟨fun i e => (by cases e), _, _, rfl, eachR_cons_of (res_agg rfl (by (repeat (first | with_reducible assumption | ((with_reducible apply get_skip_of); (focus decide); (focus decide); (focus decide)) | ((with_reducible apply get_same_of); (focus decide); exact rfl)))) g55 z55 (loadN_of (by (repeat (first | exact get_here | exact get_here' | refine get_there (by (try dsimp only [St.put]); omega) ?_ | refine get_there' (by (try dsimp only [St.put]); omega) ?_ | assumption | refine get_kept (by assumption) (by (try dsimp only [St.put]); omega) ?_))) rfl)) rfl, ⟨_, rfl, rfl⟩, ?_⟩
  exact (hk2.put (by omega) _).put (by omega) _
end Go.Proofs.YtdgccipcandojaaGreat

namespace Go.Proofs.YtdgccipcandojaaGreat
open Go Go.Ev Go.RowKit

def f25_0 : Field := { name := "Title", type := 9, offset := 0, embedded := false, tag := "", pkgPath := "", byteOffset := 0 }
def f25_1 : Field := { name := "Fields", type := 22, offset := 1, embedded := false, tag := "", pkgPath := "", byteOffset := 16 }
def f25_2 : Field := { name := "Rules", type := 23, offset := 2, embedded := false, tag := "", pkgPath := "", byteOffset := 40 }
theorem F25_0 : F25.toList[0]? = some f25_0 := by kernel_rfl
theorem F25_1 : F25.toList[1]? = some f25_1 := by kernel_rfl
theorem F25_2 : F25.toList[2]? = some f25_2 := by kernel_rfl
theorem z22 : CY.size 22 = some 1 := by kernel_rfl
theorem z25 : CY.size 25 = some 4 := by kernel_rfl
theorem g22 : CY.agg 22 = some false := by kernel_rfl
theorem g25 : CY.agg 25 = some true := by kernel_rfl
def Z25 : List SV := [.str [], .nils, .nils, .int .i64 0]
theorem zero25 : CY.zero 25 = some (.agg Z25) := by kernel_rfl
noncomputable def body4 : Code := match Tryz.f4.body with | some b => b | none => .skip
theorem fn4 : CY.fns 4 = some Tryz.f4 := by kernel_rfl
theorem fb4 : Tryz.f4.body = some body4 := by kernel_rfl
noncomputable def rest4 : Code := seqR (seqR (seqR body4))
noncomputable def loop4a : Code := lpB (blkB (seqR (seqL rest4)))
noncomputable def loop4b : Code := lpB (blkB (seqR (seqL (seqR (seqR (seqR rest4))))))

theorem Strs.keep {s s' : St} {v : SV} {len most : Nat} (h : Strs s v len most) (hk : Keeps s s') : Strs s' v len most := by
  rcases h with h | ⟨id, eo, c, cc, e, h1, h2, h3, h4⟩
  · exact .inl h
  · exact .inr ⟨id, eo, c, cc, e, h1, Nat.lt_of_lt_of_le h2 hk.next, get_kept hk h2 h3, h4⟩

/-- A field that came in. -/
def FieldOk (s : St) (l : List SV) : Prop := ∃ (k0 opts m4 m5 m6 m7 m8 dN dB dL dF : SV) (nm lb dS sh ck : List UInt8) (len dlen : Nat),
  l = [k0, .str nm, .str lb, opts, m4, m5, m6, m7, m8, .str dS, dN, dB, dL, dF, .str sh, .str ck] ∧ Strs s opts len 40 ∧ Sl 1 dL dlen

/-- Fields that came in. -/
def Flds (s : St) (v : SV) (len most : Nat) : Prop := ((v = .nils ∨ ∃ k, v = .hollow k) ∧ len = 0) ∨
  ∃ id eo c cc, v = .slice id 16 eo len (some c) ∧ len ≤ c ∧ id < s.next ∧ s.h.get id = some (.ro cc) ∧ ∀ i, i < len → i < most → ∃ l, roN cc 16 ((eo + i) * 16) = some l ∧ FieldOk s l

theorem Flds.len {s : St} {v : SV} {len e most : Nat} (h : Flds s v len most) : lenP (.slice e) v = some len := by
  rcases h with ⟨rfl | ⟨k, rfl⟩, rfl⟩ | ⟨id, eo, c, cc, rfl, _⟩ <;> rfl

theorem bs22 (l : List SV) (h : l.length = 16) : buildSliceB CY 22 1 [(0, .agg l)] = some (.cells 16 (.of l) 16 true 0 55, .slice 16 1) := by
  match l, h with
  | [a0, a1, a2, a3, a4, a5, a6, a7, a8, a9, a10, a11, a12, a13, a14, a15], _ =>
    unfold buildSliceB
    simp only [u22, z55, zero55, Option.bind_some]
    rfl

theorem of16 (l : List SV) (h : l.length = 16) : (Ct.of l).getL 16 16 0 = some l := by
  match l, h with
  | [a0, a1, a2, a3, a4, a5, a6, a7, a8, a9, a10, a11, a12, a13, a14, a15], _ => rfl

theorem loop_fields {s0 : St} {A B : Nat} {v : SV} {len : Nat} (hv : Flds s0 v len 12) (hA : s0.next ≤ A) (_hB : s0.next ≤ B) (_hAB : A ≠ B) {cA cB : Ct SV} (hc : cA.get 1 = some v) : ∀ (k i : Nat) (t : T2 TV) (s : St) (l : SV),
    i + k = min len 12 → T2.get t 1 = .v (.s (.ptr A 0)) → T2.get t 2 = .v (.s (.ptr B 0)) → T2.get t 3 = .v (.s l) → T2.get t 4 = .v (.s (.int .i64 (i : Int))) → Keeps s0 s → A < s.next → B < s.next →
    s.h.get A = some (.cells 4 cA 4 true 0 25) → s.h.get B = some (.cells 4 cB 4 true 0 25) → Own s0 s 16 55 l i → (∀ id, l = .slice id 16 0 i none → id ≠ A ∧ id ≠ B ∧ id < s.next) →
    CodK CY (.loop loop4a) ⟨t, 67, [], none⟩ s fun ex f' s' => ex = .exit 0 ∧ ∃ t' l', f' = ⟨t', 67, [], none⟩ ∧ T2.get t' 1 = .v (.s (.ptr A 0)) ∧ T2.get t' 2 = .v (.s (.ptr B 0)) ∧ T2.get t' 3 = .v (.s l') ∧ Keeps s0 s' ∧ s.next ≤ s'.next ∧
      s'.h.get A = some (.cells 4 cA 4 true 0 25) ∧ s'.h.get B = some (.cells 4 cB 4 true 0 25) := by
  intro k
  induction k with
  | zero =>
    intro i t s l hik h1 h2 h3 h4 hk hA' hB' mA mB hl hne
    refine CodK.loop (CodK.seq (CodK.seq (CodK.region ?_)))
    refine OpsK.on rfl (o_move (ev_tmp rfl (by (repeat (first | with_reducible assumption | ((with_reducible apply get_skip_of); (focus decide); (focus decide); (focus decide)) | ((with_reducible apply get_same_of); (focus decide); exact rfl)))))) (put_tmp rfl) ?_
    refine OpsK.on rfl (o_fieldAddr 1 (evS_tmp rfl (by (repeat (first | with_reducible assumption | ((with_reducible apply get_skip_of); (focus decide); (focus decide); (focus decide)) | ((with_reducible apply get_same_of); (focus decide); exact rfl))))) u25 F25_1 z22 rfl) (put_tmp rfl) ?_
    refine OpsK.on rfl (o_load1 (evS_tmp rfl (by (repeat (first | with_reducible assumption | ((with_reducible apply get_skip_of); (focus decide); (focus decide); (focus decide)) | ((with_reducible apply get_same_of); (focus decide); exact rfl))))) g22 (load1_of mA rfl hc)) (put_tmp rfl) ?_
    refine OpsK.on rfl (o_lenL rfl rfl rfl (evS_tmp rfl (by (repeat (first | with_reducible assumption | ((with_reducible apply get_skip_of); (focus decide); (focus decide); (focus decide)) | ((with_reducible apply get_same_of); (focus decide); exact rfl))))) u22 hv.len) (put_tmp rfl) ?_
    by_cases hlt : i < len
    · refine OpsK.on rfl (o_bin (evA_tmp rfl (by (repeat (first | with_reducible assumption | ((with_reducible apply get_skip_of); (focus decide); (focus decide); (focus decide)) | ((with_reducible apply get_same_of); (focus decide); exact rfl))))) (evA_tmp rfl (by (repeat (first | with_reducible assumption | ((with_reducible apply get_skip_of); (focus decide); (focus decide); (focus decide)) | ((with_reducible apply get_same_of); (focus decide); exact rfl))))) (b_lss_t (by omega))) (put_tmp rfl) ?_
      refine OpsK.on rfl (o_move (ev_tmp rfl (by (repeat (first | with_reducible assumption | ((with_reducible apply get_skip_of); (focus decide); (focus decide); (focus decide)) | ((with_reducible apply get_same_of); (focus decide); exact rfl)))))) (put_tmp rfl) ?_
      refine OpsK.on rfl (o_move (ev_tmp rfl (by (repeat (first | with_reducible assumption | ((with_reducible apply get_skip_of); (focus decide); (focus decide); (focus decide)) | ((with_reducible apply get_same_of); (focus decide); exact rfl)))))) (put_tmp rfl) ?_
      refine OpsK.on rfl (o_bin (evA_tmp rfl (by (repeat (first | with_reducible assumption | ((with_reducible apply get_skip_of); (focus decide); (focus decide); (focus decide)) | ((with_reducible apply get_same_of); (focus decide); exact rfl))))) rfl (b_lss_f (by omega))) (put_tmp rfl) ?_
      refine OpsK.on rfl (o_pick true (evS_tmp rfl (by (repeat (first | with_reducible assumption | ((with_reducible apply get_skip_of); (focus decide); (focus decide); (focus decide)) | ((with_reducible apply get_same_of); (focus decide); exact rfl))))) (ev_tmp rfl (by (repeat (first | with_reducible assumption | ((with_reducible apply get_skip_of); (focus decide); (focus decide); (focus decide)) | ((with_reducible apply get_same_of); (focus decide); exact rfl)))))) (put_tmp rfl) ?_
      exact OpsK.nil (CodK.cond (t := false) (evS_tmp rfl (by (repeat (first | with_reducible assumption | ((with_reducible apply get_skip_of); (focus decide); (focus decide); (focus decide)) | ((with_reducible apply get_same_of); (focus decide); exact rfl))))) (CodK.exit (And.intro rfl ⟨_, l, rfl, by (repeat (first | with_reducible assumption | ((with_reducible apply get_skip_of); (focus decide); (focus decide); (focus decide)) | ((with_reducible apply get_same_of); (focus decide); exact rfl))), by (repeat (first | with_reducible assumption | ((with_reducible apply get_skip_of); (focus decide); (focus decide); (focus decide)) | ((with_reducible apply get_same_of); (focus decide); exact rfl))), by (repeat (first | with_reducible assumption | ((with_reducible apply get_skip_of); (focus decide); (focus decide); (focus decide)) | ((with_reducible apply get_same_of); (focus decide); exact rfl))), hk, Nat.le_refl _, mA, mB⟩)))
    · refine OpsK.on rfl (o_bin (evA_tmp rfl (by (repeat (first | with_reducible assumption | ((with_reducible apply get_skip_of); (focus decide); (focus decide); (focus decide)) | ((with_reducible apply get_same_of); (focus decide); exact rfl))))) (evA_tmp rfl (by (repeat (first | with_reducible assumption | ((with_reducible apply get_skip_of); (focus decide); (focus decide); (focus decide)) | ((with_reducible apply get_same_of); (focus decide); exact rfl))))) (b_lss_f (by omega))) (put_tmp rfl) ?_
      refine OpsK.on rfl (o_move (ev_tmp rfl (by (repeat (first | with_reducible assumption | ((with_reducible apply get_skip_of); (focus decide); (focus decide); (focus decide)) | ((with_reducible apply get_same_of); (focus decide); exact rfl)))))) (put_tmp rfl) ?_
      refine OpsK.off rfl (put_tmp rfl) ?_
      refine OpsK.off rfl (put_tmp rfl) ?_
      refine OpsK.on rfl (o_pick false (evS_tmp rfl (by (repeat (first | with_reducible assumption | ((with_reducible apply get_skip_of); (focus decide); (focus decide); (focus decide)) | ((with_reducible apply get_same_of); (focus decide); exact rfl))))) rfl) (put_tmp rfl) ?_
      exact OpsK.nil (CodK.cond (t := false) (evS_tmp rfl (by (repeat (first | with_reducible assumption | ((with_reducible apply get_skip_of); (focus decide); (focus decide); (focus decide)) | ((with_reducible apply get_same_of); (focus decide); exact rfl))))) (CodK.exit (And.intro rfl ⟨_, l, rfl, by (repeat (first | with_reducible assumption | ((with_reducible apply get_skip_of); (focus decide); (focus decide); (focus decide)) | ((with_reducible apply get_same_of); (focus decide); exact rfl))), by (repeat (first | with_reducible assumption | ((with_reducible apply get_skip_of); (focus decide); (focus decide); (focus decide)) | ((with_reducible apply get_same_of); (focus decide); exact rfl))), by (repeat (first | with_reducible assumption | ((with_reducible apply get_skip_of); (focus decide); (focus decide); (focus decide)) | ((with_reducible apply get_same_of); (focus decide); exact rfl))), hk, Nat.le_refl _, mA, mB⟩)))
  | succ k ih =>
    intro i t s l hik h1 h2 h3 h4 hk hA' hB' mA mB hl hne
    obtain ⟨ti, hti, hti1, hti2⟩ := ty55
    have hlt : i < len := by omega
    have hlt2 : i < 12 := by omega
    obtain ⟨fid, eo, cap, cc, hvv, hcap, hfid, mF, hcell⟩ : ∃ id eo c cc, v = .slice id 16 eo len (some c) ∧ len ≤ c ∧ id < s0.next ∧ s0.h.get id = some (.ro cc) ∧ ∀ i, i < len → i < 12 → ∃ l, roN cc 16 ((eo + i) * 16) = some l ∧ FieldOk s0 l := by
      rcases hv with ⟨_, h⟩ | h
      · omega
      · exact h
    obtain ⟨lf, hx, k0, opts, m4, m5, m6, m7, m8, dN, dB, dL, dF, nm, lb, dS, sh, ck, olen, dlen, rfl, hO, hL⟩ := hcell i hlt hlt2
    subst hvv
    have mF' := get_kept hk hfid mF
    have hfn := hk.next
    refine CodK.loop (CodK.seq (CodK.seq (CodK.region ?_)))
    refine OpsK.on rfl (o_move (ev_tmp rfl (by (repeat (first | with_reducible assumption | ((with_reducible apply get_skip_of); (focus decide); (focus decide); (focus decide)) | ((with_reducible apply get_same_of); (focus decide); exact rfl)))))) (put_tmp rfl) ?_
    refine OpsK.on rfl (o_fieldAddr 1 (evS_tmp rfl (by (repeat (first | with_reducible assumption | ((with_reducible apply get_skip_of); (focus decide); (focus decide); (focus decide)) | ((with_reducible apply get_same_of); (focus decide); exact rfl))))) u25 F25_1 z22 rfl) (put_tmp rfl) ?_
    refine OpsK.on rfl (o_load1 (evS_tmp rfl (by (repeat (first | with_reducible assumption | ((with_reducible apply get_skip_of); (focus decide); (focus decide); (focus decide)) | ((with_reducible apply get_same_of); (focus decide); exact rfl))))) g22 (load1_of mA rfl hc)) (put_tmp rfl) ?_
    refine OpsK.on rfl (o_lenL rfl rfl rfl (evS_tmp rfl (by (repeat (first | with_reducible assumption | ((with_reducible apply get_skip_of); (focus decide); (focus decide); (focus decide)) | ((with_reducible apply get_same_of); (focus decide); exact rfl))))) u22 rfl) (put_tmp rfl) ?_
    refine OpsK.on rfl (o_bin (evA_tmp rfl (by (repeat (first | with_reducible assumption | ((with_reducible apply get_skip_of); (focus decide); (focus decide); (focus decide)) | ((with_reducible apply get_same_of); (focus decide); exact rfl))))) (evA_tmp rfl (by (repeat (first | with_reducible assumption | ((with_reducible apply get_skip_of); (focus decide); (focus decide); (focus decide)) | ((with_reducible apply get_same_of); (focus decide); exact rfl))))) (b_lss_t (by omega))) (put_tmp rfl) ?_
    refine OpsK.on rfl (o_move (ev_tmp rfl (by (repeat (first | with_reducible assumption | ((with_reducible apply get_skip_of); (focus decide); (focus decide); (focus decide)) | ((with_reducible apply get_same_of); (focus decide); exact rfl)))))) (put_tmp rfl) ?_
    refine OpsK.on rfl (o_move (ev_tmp rfl (by (repeat (first | with_reducible assumption | ((with_reducible apply get_skip_of); (focus decide); (focus decide); (focus decide)) | ((with_reducible apply get_same_of); (focus decide); exact rfl)))))) (put_tmp rfl) ?_
    refine OpsK.on rfl (o_bin (evA_tmp rfl (by (repeat (first | with_reducible assumption | ((with_reducible apply get_skip_of); (focus decide); (focus decide); (focus decide)) | ((with_reducible apply get_same_of); (focus decide); exact rfl))))) rfl (b_lss_t (by omega))) (put_tmp rfl) ?_
    refine OpsK.on rfl (o_pick true (evS_tmp rfl (by (repeat (first | with_reducible assumption | ((with_reducible apply get_skip_of); (focus decide); (focus decide); (focus decide)) | ((with_reducible apply get_same_of); (focus decide); exact rfl))))) (ev_tmp rfl (by (repeat (first | with_reducible assumption | ((with_reducible apply get_skip_of); (focus decide); (focus decide); (focus decide)) | ((with_reducible apply get_same_of); (focus decide); exact rfl)))))) (put_tmp rfl) ?_
    refine OpsK.nil (CodK.cond (t := true) (evS_tmp rfl (by (repeat (first | with_reducible assumption | ((with_reducible apply get_skip_of); (focus decide); (focus decide); (focus decide)) | ((with_reducible apply get_same_of); (focus decide); exact rfl))))) (CodK.skip ?_))
    refine CodK.seq (CodK.block (CodK.region ?_))
    refine OpsK.on rfl (o_move (ev_tmp rfl (by (repeat (first | with_reducible assumption | ((with_reducible apply get_skip_of); (focus decide); (focus decide); (focus decide)) | ((with_reducible apply get_same_of); (focus decide); exact rfl)))))) (put_tmp rfl) ?_
    refine OpsK.on rfl (o_fieldAddr 1 (evS_tmp rfl (by (repeat (first | with_reducible assumption | ((with_reducible apply get_skip_of); (focus decide); (focus decide); (focus decide)) | ((with_reducible apply get_same_of); (focus decide); exact rfl))))) u25 F25_1 z22 rfl) (put_tmp rfl) ?_
    refine OpsK.on rfl (o_load1 (evS_tmp rfl (by (repeat (first | with_reducible assumption | ((with_reducible apply get_skip_of); (focus decide); (focus decide); (focus decide)) | ((with_reducible apply get_same_of); (focus decide); exact rfl))))) g22 (load1_of mA rfl hc)) (put_tmp rfl) ?_
    refine OpsK.on rfl (o_move (ev_tmp rfl (by (repeat (first | with_reducible assumption | ((with_reducible apply get_skip_of); (focus decide); (focus decide); (focus decide)) | ((with_reducible apply get_same_of); (focus decide); exact rfl)))))) (put_tmp rfl) ?_
    refine OpsK.on rfl (o_indexAddr (evS_tmp rfl (by (repeat (first | with_reducible assumption | ((with_reducible apply get_skip_of); (focus decide); (focus decide); (focus decide)) | ((with_reducible apply get_same_of); (focus decide); exact rfl))))) (evS_tmp rfl (by (repeat (first | with_reducible assumption | ((with_reducible apply get_skip_of); (focus decide); (focus decide); (focus decide)) | ((with_reducible apply get_same_of); (focus decide); exact rfl))))) u22 z55 hlt) (put_tmp rfl) ?_
    refine OpsK.on rfl (o_loadN (evS_tmp rfl (by (repeat (first | with_reducible assumption | ((with_reducible apply get_skip_of); (focus decide); (focus decide); (focus decide)) | ((with_reducible apply get_same_of); (focus decide); exact rfl))))) g55 z55 (loadN_ro mF' hx)) (put_tmp rfl) ?_
    refine OpsK.call rfl rfl rfl (eachR_cons_of (evA_tmp rfl (by (repeat (first | with_reducible assumption | ((with_reducible apply get_skip_of); (focus decide); (focus decide); (focus decide)) | ((with_reducible apply get_same_of); (focus decide); exact rfl))))) rfl) ?_
    refine RetK.mono (few_field k0 opts m4 m5 m6 m7 m8 dN dB dL dF nm lb dS sh ck s (hO.keep hk) hL) fun v s1 ⟨⟨lv, e, hl16⟩, hk1⟩ => ?_
    subst e
    have hn1 := hk1.next
    refine ⟨_, put_tmp rfl, ?_⟩
    refine OpsK.on rfl (o_buildSlice (sz := 16) (eachR_cons_of (by rw [evA_tmp rfl (by (repeat (first | with_reducible assumption | ((with_reducible apply get_skip_of); (focus decide); (focus decide); (focus decide)) | ((with_reducible apply get_same_of); (focus decide); exact rfl))))]; rfl) rfl) (bs22 lv hl16)) (put_tmp rfl) ?_
    rcases hl with ⟨rfl, rfl⟩ | ⟨id, c, rfl, hid0, mI⟩
    · refine OpsK.on rfl (o_append rfl rfl rfl (evS_tmp rfl (by (repeat (first | with_reducible assumption | ((with_reducible apply get_skip_of); (focus decide); (focus decide); (focus decide)) | ((with_reducible apply get_same_of); (focus decide); exact rfl))))) (evS_tmp rfl (by (repeat (first | with_reducible assumption | ((with_reducible apply get_skip_of); (focus decide); (focus decide); (focus decide)) | ((with_reducible apply get_same_of); (focus decide); exact rfl))))) (.inl u22) (ap_nil u22 hti hti1 hti2 zero55 rfl (by omega) get_here (of16 lv hl16))) (put_tmp rfl) ?_
      refine OpsK.on rfl (o_assign (ev_tmp rfl (by (repeat (first | with_reducible assumption | ((with_reducible apply get_skip_of); (focus decide); (focus decide); (focus decide)) | ((with_reducible apply get_same_of); (focus decide); exact rfl)))))) (put_tmp rfl) ?_
      refine OpsK.nil ?_
      refine CodK.region ?_
      refine OpsK.on rfl (o_move (ev_tmp rfl (by (repeat (first | with_reducible assumption | ((with_reducible apply get_skip_of); (focus decide); (focus decide); (focus decide)) | ((with_reducible apply get_same_of); (focus decide); exact rfl)))))) (put_tmp rfl) ?_
      refine OpsK.on rfl (o_bin (evA_tmp rfl (by (repeat (first | with_reducible assumption | ((with_reducible apply get_skip_of); (focus decide); (focus decide); (focus decide)) | ((with_reducible apply get_same_of); (focus decide); exact rfl))))) rfl (b_inc (by omega))) (put_tmp rfl) ?_
      refine OpsK.on rfl (o_assign (ev_tmp rfl (by (repeat (first | with_reducible assumption | ((with_reducible apply get_skip_of); (focus decide); (focus decide); (focus decide)) | ((with_reducible apply get_same_of); (focus decide); exact rfl)))))) (put_tmp rfl) ?_
      refine OpsK.nil ?_
      refine CodK.mono (ih (0 + 1) _ _ _ (by omega) (by (repeat (first | with_reducible assumption | ((with_reducible apply get_skip_of); (focus decide); (focus decide); (focus decide)) | ((with_reducible apply get_same_of); (focus decide); exact rfl)))) (by (repeat (first | with_reducible assumption | ((with_reducible apply get_skip_of); (focus decide); (focus decide); (focus decide)) | ((with_reducible apply get_same_of); (focus decide); exact rfl)))) (by (repeat (first | with_reducible assumption | ((with_reducible apply get_skip_of); (focus decide); (focus decide); (focus decide)) | ((with_reducible apply get_same_of); (focus decide); exact rfl)))) (by (repeat (first | with_reducible assumption | ((with_reducible apply get_skip_of); (focus decide); (focus decide); (focus decide)) | ((with_reducible apply get_same_of); (focus decide); exact rfl)))) (((hk.trans hk1).new _).new _) (by ((try dsimp only [St.put]); omega)) (by ((try dsimp only [St.put]); omega)) (by (repeat (first | exact get_here | exact get_here' | refine get_there (by (try dsimp only [St.put]); omega) ?_ | refine get_there' (by (try dsimp only [St.put]); omega) ?_ | assumption | refine get_kept (by assumption) (by (try dsimp only [St.put]); omega) ?_))) (by (repeat (first | exact get_here | exact get_here' | refine get_there (by (try dsimp only [St.put]); omega) ?_ | refine get_there' (by (try dsimp only [St.put]); omega) ?_ | assumption | refine get_kept (by assumption) (by (try dsimp only [St.put]); omega) ?_))) (.inr ⟨_, _, rfl, by ((try dsimp only [St.put]); omega), get_here⟩) ?_) ?_
      · intro id e
        cases e
        refine ⟨?_, ?_, ?_⟩ <;> ((try dsimp only [St.put]); omega)
      · rintro ex f' s' ⟨e1, t', l', e2, e3, e4, e5, e6, e7, e8, e9⟩
        refine ⟨e1, t', l', e2, e3, e4, e5, e6, ?_, e8, e9⟩
        dsimp only [St.put] at e7
        omega
    · obtain ⟨n1, n2, n3⟩ := hne id rfl
      refine OpsK.on rfl (o_append rfl rfl rfl (evS_tmp rfl (by (repeat (first | with_reducible assumption | ((with_reducible apply get_skip_of); (focus decide); (focus decide); (focus decide)) | ((with_reducible apply get_same_of); (focus decide); exact rfl))))) (evS_tmp rfl (by (repeat (first | with_reducible assumption | ((with_reducible apply get_skip_of); (focus decide); (focus decide); (focus decide)) | ((with_reducible apply get_same_of); (focus decide); exact rfl))))) (.inl u22) (ap_more (i := i) u22 hti hti1 hti2 zero55 rfl (by omega) get_here (of16 lv hl16) (by (repeat (first | exact get_here | exact get_here' | refine get_there (by (try dsimp only [St.put]); omega) ?_ | refine get_there' (by (try dsimp only [St.put]); omega) ?_ | assumption | refine get_kept (by assumption) (by (try dsimp only [St.put]); omega) ?_))) (by omega))) (put_tmp rfl) ?_
      refine OpsK.on rfl (o_assign (ev_tmp rfl (by (repeat (first | with_reducible assumption | ((with_reducible apply get_skip_of); (focus decide); (focus decide); (focus decide)) | ((with_reducible apply get_same_of); (focus decide); exact rfl)))))) (put_tmp rfl) ?_
      refine OpsK.nil ?_
      refine CodK.region ?_
      refine OpsK.on rfl (o_move (ev_tmp rfl (by (repeat (first | with_reducible assumption | ((with_reducible apply get_skip_of); (focus decide); (focus decide); (focus decide)) | ((with_reducible apply get_same_of); (focus decide); exact rfl)))))) (put_tmp rfl) ?_
      refine OpsK.on rfl (o_bin (evA_tmp rfl (by (repeat (first | with_reducible assumption | ((with_reducible apply get_skip_of); (focus decide); (focus decide); (focus decide)) | ((with_reducible apply get_same_of); (focus decide); exact rfl))))) rfl (b_inc (by omega))) (put_tmp rfl) ?_
      refine OpsK.on rfl (o_assign (ev_tmp rfl (by (repeat (first | with_reducible assumption | ((with_reducible apply get_skip_of); (focus decide); (focus decide); (focus decide)) | ((with_reducible apply get_same_of); (focus decide); exact rfl)))))) (put_tmp rfl) ?_
      refine OpsK.nil ?_
      refine CodK.mono (ih (i + 1) _ _ _ (by omega) (by (repeat (first | with_reducible assumption | ((with_reducible apply get_skip_of); (focus decide); (focus decide); (focus decide)) | ((with_reducible apply get_same_of); (focus decide); exact rfl)))) (by (repeat (first | with_reducible assumption | ((with_reducible apply get_skip_of); (focus decide); (focus decide); (focus decide)) | ((with_reducible apply get_same_of); (focus decide); exact rfl)))) (by (repeat (first | with_reducible assumption | ((with_reducible apply get_skip_of); (focus decide); (focus decide); (focus decide)) | ((with_reducible apply get_same_of); (focus decide); exact rfl)))) (by (repeat (first | with_reducible assumption | ((with_reducible apply get_skip_of); (focus decide); (focus decide); (focus decide)) | ((with_reducible apply get_same_of); (focus decide); exact rfl)))) ((((hk.trans hk1).new _).put (by ((try dsimp only [St.put]); omega)) _).new _) (by ((try dsimp only [St.put]); omega)) (by ((try dsimp only [St.put]); omega)) (by (repeat (first | exact get_here | exact get_here' | refine get_there (by (try dsimp only [St.put]); omega) ?_ | refine get_there' (by (try dsimp only [St.put]); omega) ?_ | assumption | refine get_kept (by assumption) (by (try dsimp only [St.put]); omega) ?_))) (by (repeat (first | exact get_here | exact get_here' | refine get_there (by (try dsimp only [St.put]); omega) ?_ | refine get_there' (by (try dsimp only [St.put]); omega) ?_ | assumption | refine get_kept (by assumption) (by (try dsimp only [St.put]); omega) ?_))) (.inr ⟨_, _, rfl, by ((try dsimp only [St.put]); omega), get_here⟩) ?_) ?_
      · intro id e
        cases e
        refine ⟨?_, ?_, ?_⟩ <;> ((try dsimp only [St.put]); omega)
      · rintro ex f' s' ⟨e1, t', l', e2, e3, e4, e5, e6, e7, e8, e9⟩
        refine ⟨e1, t', l', e2, e3, e4, e5, e6, ?_, e8, e9⟩
        dsimp only [St.put] at e7
        omega
end Go.Proofs.YtdgccipcandojaaGreat

namespace Go.Proofs.YtdgccipcandojaaGreat
open Go Go.Ev Go.RowKit

theorem loop_rules {s0 : St} {A B : Nat} {v : SV} {len : Nat} (hv : Strs s0 v len 18) (_hA : s0.next ≤ A) (_hB : s0.next ≤ B) (_hAB : A ≠ B) {cA cB : Ct SV} (hc : cA.get 2 = some v) : ∀ (k i : Nat) (t : T2 TV) (s : St) (l : SV),
    i + k = min len 18 → T2.get t 1 = .v (.s (.ptr A 0)) → T2.get t 2 = .v (.s (.ptr B 0)) → T2.get t 5 = .v (.s l) → T2.get t 6 = .v (.s (.int .i64 (i : Int))) → Keeps s0 s → A < s.next → B < s.next →
    s.h.get A = some (.cells 4 cA 4 true 0 25) → s.h.get B = some (.cells 4 cB 4 true 0 25) → Own s0 s 1 9 l i → (∀ id, l = .slice id 1 0 i none → id ≠ A ∧ id ≠ B ∧ id < s.next) →
    CodK CY (.loop loop4b) ⟨t, 67, [], none⟩ s fun ex f' s' => ex = .exit 2 ∧ ∃ t' l', f' = ⟨t', 67, [], none⟩ ∧ T2.get t' 1 = .v (.s (.ptr A 0)) ∧ T2.get t' 2 = .v (.s (.ptr B 0)) ∧ T2.get t' 5 = .v (.s l') ∧ Keeps s0 s' ∧
      s'.h.get A = some (.cells 4 cA 4 true 0 25) ∧ s'.h.get B = some (.cells 4 cB 4 true 0 25) := by
  intro k
  induction k with
  | zero =>
    intro i t s l hik h1 h2 h3 h4 hk hA' hB' mA mB hl hne
    refine CodK.loop (CodK.seq (CodK.seq (CodK.region ?_)))
    refine OpsK.on rfl (o_move (ev_tmp rfl (by (repeat (first | with_reducible assumption | ((with_reducible apply get_skip_of); (focus decide); (focus decide); (focus decide)) | ((with_reducible apply get_same_of); (focus decide); exact rfl)))))) (put_tmp rfl) ?_
    refine OpsK.on rfl (o_fieldAddr 2 (evS_tmp rfl (by (repeat (first | with_reducible assumption | ((with_reducible apply get_skip_of); (focus decide); (focus decide); (focus decide)) | ((with_reducible apply get_same_of); (focus decide); exact rfl))))) u25 F25_2 z23 rfl) (put_tmp rfl) ?_
    refine OpsK.on rfl (o_load1 (evS_tmp rfl (by (repeat (first | with_reducible assumption | ((with_reducible apply get_skip_of); (focus decide); (focus decide); (focus decide)) | ((with_reducible apply get_same_of); (focus decide); exact rfl))))) g23 (load1_of mA rfl hc)) (put_tmp rfl) ?_
    refine OpsK.on rfl (o_lenL rfl rfl rfl (evS_tmp rfl (by (repeat (first | with_reducible assumption | ((with_reducible apply get_skip_of); (focus decide); (focus decide); (focus decide)) | ((with_reducible apply get_same_of); (focus decide); exact rfl))))) u23 hv.len) (put_tmp rfl) ?_
    by_cases hlt : i < len
    · refine OpsK.on rfl (o_bin (evA_tmp rfl (by (repeat (first | with_reducible assumption | ((with_reducible apply get_skip_of); (focus decide); (focus decide); (focus decide)) | ((with_reducible apply get_same_of); (focus decide); exact rfl))))) (evA_tmp rfl (by (repeat (first | with_reducible assumption | ((with_reducible apply get_skip_of); (focus decide); (focus decide); (focus decide)) | ((with_reducible apply get_same_of); (focus decide); exact rfl))))) (b_lss_t (by omega))) (put_tmp rfl) ?_
      refine OpsK.on rfl (o_move (ev_tmp rfl (by (repeat (first | with_reducible assumption | ((with_reducible apply get_skip_of); (focus decide); (focus decide); (focus decide)) | ((with_reducible apply get_same_of); (focus decide); exact rfl)))))) (put_tmp rfl) ?_
      refine OpsK.on rfl (o_move (ev_tmp rfl (by (repeat (first | with_reducible assumption | ((with_reducible apply get_skip_of); (focus decide); (focus decide); (focus decide)) | ((with_reducible apply get_same_of); (focus decide); exact rfl)))))) (put_tmp rfl) ?_
      refine OpsK.on rfl (o_bin (evA_tmp rfl (by (repeat (first | with_reducible assumption | ((with_reducible apply get_skip_of); (focus decide); (focus decide); (focus decide)) | ((with_reducible apply get_same_of); (focus decide); exact rfl))))) rfl (b_lss_f (by omega))) (put_tmp rfl) ?_
      refine OpsK.on rfl (o_pick true (evS_tmp rfl (by (repeat (first | with_reducible assumption | ((with_reducible apply get_skip_of); (focus decide); (focus decide); (focus decide)) | ((with_reducible apply get_same_of); (focus decide); exact rfl))))) (ev_tmp rfl (by (repeat (first | with_reducible assumption | ((with_reducible apply get_skip_of); (focus decide); (focus decide); (focus decide)) | ((with_reducible apply get_same_of); (focus decide); exact rfl)))))) (put_tmp rfl) ?_
      exact OpsK.nil (CodK.cond (t := false) (evS_tmp rfl (by (repeat (first | with_reducible assumption | ((with_reducible apply get_skip_of); (focus decide); (focus decide); (focus decide)) | ((with_reducible apply get_same_of); (focus decide); exact rfl))))) (CodK.exit (And.intro rfl ⟨_, l, rfl, by (repeat (first | with_reducible assumption | ((with_reducible apply get_skip_of); (focus decide); (focus decide); (focus decide)) | ((with_reducible apply get_same_of); (focus decide); exact rfl))), by (repeat (first | with_reducible assumption | ((with_reducible apply get_skip_of); (focus decide); (focus decide); (focus decide)) | ((with_reducible apply get_same_of); (focus decide); exact rfl))), by (repeat (first | with_reducible assumption | ((with_reducible apply get_skip_of); (focus decide); (focus decide); (focus decide)) | ((with_reducible apply get_same_of); (focus decide); exact rfl))), hk, mA, mB⟩)))
    · refine OpsK.on rfl (o_bin (evA_tmp rfl (by (repeat (first | with_reducible assumption | ((with_reducible apply get_skip_of); (focus decide); (focus decide); (focus decide)) | ((with_reducible apply get_same_of); (focus decide); exact rfl))))) (evA_tmp rfl (by (repeat (first | with_reducible assumption | ((with_reducible apply get_skip_of); (focus decide); (focus decide); (focus decide)) | ((with_reducible apply get_same_of); (focus decide); exact rfl))))) (b_lss_f (by omega))) (put_tmp rfl) ?_
      refine OpsK.on rfl (o_move (ev_tmp rfl (by (repeat (first | with_reducible assumption | ((with_reducible apply get_skip_of); (focus decide); (focus decide); (focus decide)) | ((with_reducible apply get_same_of); (focus decide); exact rfl)))))) (put_tmp rfl) ?_
      refine OpsK.off rfl (put_tmp rfl) ?_
      refine OpsK.off rfl (put_tmp rfl) ?_
      refine OpsK.on rfl (o_pick false (evS_tmp rfl (by (repeat (first | with_reducible assumption | ((with_reducible apply get_skip_of); (focus decide); (focus decide); (focus decide)) | ((with_reducible apply get_same_of); (focus decide); exact rfl))))) rfl) (put_tmp rfl) ?_
      exact OpsK.nil (CodK.cond (t := false) (evS_tmp rfl (by (repeat (first | with_reducible assumption | ((with_reducible apply get_skip_of); (focus decide); (focus decide); (focus decide)) | ((with_reducible apply get_same_of); (focus decide); exact rfl))))) (CodK.exit (And.intro rfl ⟨_, l, rfl, by (repeat (first | with_reducible assumption | ((with_reducible apply get_skip_of); (focus decide); (focus decide); (focus decide)) | ((with_reducible apply get_same_of); (focus decide); exact rfl))), by (repeat (first | with_reducible assumption | ((with_reducible apply get_skip_of); (focus decide); (focus decide); (focus decide)) | ((with_reducible apply get_same_of); (focus decide); exact rfl))), by (repeat (first | with_reducible assumption | ((with_reducible apply get_skip_of); (focus decide); (focus decide); (focus decide)) | ((with_reducible apply get_same_of); (focus decide); exact rfl))), hk, mA, mB⟩)))
  | succ k ih =>
    intro i t s l hik h1 h2 h3 h4 hk hA' hB' mA mB hl hne
    obtain ⟨ti, hti, hti1, hti2⟩ := ty9
    have hlt : i < len := by omega
    have hlt2 : i < 18 := by omega
    obtain ⟨fid, eo, cap, cc, hvv, hcap, hfid, mF, hcell⟩ : ∃ id eo c cc, v = .slice id 1 eo len (some c) ∧ len ≤ c ∧ id < s0.next ∧ s0.h.get id = some (.ro cc) ∧ ∀ i, i < len → i < 18 → ∃ x, cc ((eo + i) * 1) = some (.str x) := by
      rcases hv with ⟨_, h⟩ | h
      · omega
      · exact h
    obtain ⟨x, hx⟩ := hcell i hlt hlt2
    subst hvv
    have mF' := get_kept hk hfid mF
    have hfn := hk.next
    refine CodK.loop (CodK.seq (CodK.seq (CodK.region ?_)))
    refine OpsK.on rfl (o_move (ev_tmp rfl (by (repeat (first | with_reducible assumption | ((with_reducible apply get_skip_of); (focus decide); (focus decide); (focus decide)) | ((with_reducible apply get_same_of); (focus decide); exact rfl)))))) (put_tmp rfl) ?_
    refine OpsK.on rfl (o_fieldAddr 2 (evS_tmp rfl (by (repeat (first | with_reducible assumption | ((with_reducible apply get_skip_of); (focus decide); (focus decide); (focus decide)) | ((with_reducible apply get_same_of); (focus decide); exact rfl))))) u25 F25_2 z23 rfl) (put_tmp rfl) ?_
    refine OpsK.on rfl (o_load1 (evS_tmp rfl (by (repeat (first | with_reducible assumption | ((with_reducible apply get_skip_of); (focus decide); (focus decide); (focus decide)) | ((with_reducible apply get_same_of); (focus decide); exact rfl))))) g23 (load1_of mA rfl hc)) (put_tmp rfl) ?_
    refine OpsK.on rfl (o_lenL rfl rfl rfl (evS_tmp rfl (by (repeat (first | with_reducible assumption | ((with_reducible apply get_skip_of); (focus decide); (focus decide); (focus decide)) | ((with_reducible apply get_same_of); (focus decide); exact rfl))))) u23 rfl) (put_tmp rfl) ?_
    refine OpsK.on rfl (o_bin (evA_tmp rfl (by (repeat (first | with_reducible assumption | ((with_reducible apply get_skip_of); (focus decide); (focus decide); (focus decide)) | ((with_reducible apply get_same_of); (focus decide); exact rfl))))) (evA_tmp rfl (by (repeat (first | with_reducible assumption | ((with_reducible apply get_skip_of); (focus decide); (focus decide); (focus decide)) | ((with_reducible apply get_same_of); (focus decide); exact rfl))))) (b_lss_t (by omega))) (put_tmp rfl) ?_
    refine OpsK.on rfl (o_move (ev_tmp rfl (by (repeat (first | with_reducible assumption | ((with_reducible apply get_skip_of); (focus decide); (focus decide); (focus decide)) | ((with_reducible apply get_same_of); (focus decide); exact rfl)))))) (put_tmp rfl) ?_
    refine OpsK.on rfl (o_move (ev_tmp rfl (by (repeat (first | with_reducible assumption | ((with_reducible apply get_skip_of); (focus decide); (focus decide); (focus decide)) | ((with_reducible apply get_same_of); (focus decide); exact rfl)))))) (put_tmp rfl) ?_
    refine OpsK.on rfl (o_bin (evA_tmp rfl (by (repeat (first | with_reducible assumption | ((with_reducible apply get_skip_of); (focus decide); (focus decide); (focus decide)) | ((with_reducible apply get_same_of); (focus decide); exact rfl))))) rfl (b_lss_t (by omega))) (put_tmp rfl) ?_
    refine OpsK.on rfl (o_pick true (evS_tmp rfl (by (repeat (first | with_reducible assumption | ((with_reducible apply get_skip_of); (focus decide); (focus decide); (focus decide)) | ((with_reducible apply get_same_of); (focus decide); exact rfl))))) (ev_tmp rfl (by (repeat (first | with_reducible assumption | ((with_reducible apply get_skip_of); (focus decide); (focus decide); (focus decide)) | ((with_reducible apply get_same_of); (focus decide); exact rfl)))))) (put_tmp rfl) ?_
    refine OpsK.nil (CodK.cond (t := true) (evS_tmp rfl (by (repeat (first | with_reducible assumption | ((with_reducible apply get_skip_of); (focus decide); (focus decide); (focus decide)) | ((with_reducible apply get_same_of); (focus decide); exact rfl))))) (CodK.skip ?_))
    refine CodK.seq (CodK.block (CodK.drawn (perm := List.range 17) (by decide +kernel) rfl ?_))
    refine OpsK.on rfl (o_move (ev_tmp rfl (by (repeat (first | with_reducible assumption | ((with_reducible apply get_skip_of); (focus decide); (focus decide); (focus decide)) | ((with_reducible apply get_same_of); (focus decide); exact rfl)))))) (put_tmp rfl) ?_
    refine OpsK.on rfl (o_fieldAddr 2 (evS_tmp rfl (by (repeat (first | with_reducible assumption | ((with_reducible apply get_skip_of); (focus decide); (focus decide); (focus decide)) | ((with_reducible apply get_same_of); (focus decide); exact rfl))))) u25 F25_2 z23 rfl) (put_tmp rfl) ?_
    refine OpsK.on rfl (o_load1 (evS_tmp rfl (by (repeat (first | with_reducible assumption | ((with_reducible apply get_skip_of); (focus decide); (focus decide); (focus decide)) | ((with_reducible apply get_same_of); (focus decide); exact rfl))))) g23 (load1_of mA rfl hc)) (put_tmp rfl) ?_
    refine OpsK.on rfl (o_move (ev_tmp rfl (by (repeat (first | with_reducible assumption | ((with_reducible apply get_skip_of); (focus decide); (focus decide); (focus decide)) | ((with_reducible apply get_same_of); (focus decide); exact rfl)))))) (put_tmp rfl) ?_
    refine OpsK.on rfl (o_indexAddr (evS_tmp rfl (by (repeat (first | with_reducible assumption | ((with_reducible apply get_skip_of); (focus decide); (focus decide); (focus decide)) | ((with_reducible apply get_same_of); (focus decide); exact rfl))))) (evS_tmp rfl (by (repeat (first | with_reducible assumption | ((with_reducible apply get_skip_of); (focus decide); (focus decide); (focus decide)) | ((with_reducible apply get_same_of); (focus decide); exact rfl))))) u23 z9 hlt) (put_tmp rfl) ?_
    refine OpsK.on rfl (o_load1 (evS_tmp rfl (by (repeat (first | with_reducible assumption | ((with_reducible apply get_skip_of); (focus decide); (focus decide); (focus decide)) | ((with_reducible apply get_same_of); (focus decide); exact rfl))))) g9 (load1_ro mF' hx)) (put_tmp rfl) ?_
    refine OpsK.on rfl (o_fieldAddr 2 (evS_tmp rfl (by (repeat (first | with_reducible assumption | ((with_reducible apply get_skip_of); (focus decide); (focus decide); (focus decide)) | ((with_reducible apply get_same_of); (focus decide); exact rfl))))) u25 F25_2 z23 rfl) (put_tmp rfl) ?_
    refine OpsK.on rfl (o_load1 (evS_tmp rfl (by (repeat (first | with_reducible assumption | ((with_reducible apply get_skip_of); (focus decide); (focus decide); (focus decide)) | ((with_reducible apply get_same_of); (focus decide); exact rfl))))) g23 (load1_of mA rfl hc)) (put_tmp rfl) ?_
    refine OpsK.on rfl (o_move (ev_tmp rfl (by (repeat (first | with_reducible assumption | ((with_reducible apply get_skip_of); (focus decide); (focus decide); (focus decide)) | ((with_reducible apply get_same_of); (focus decide); exact rfl)))))) (put_tmp rfl) ?_
    refine OpsK.on rfl (o_indexAddr (evS_tmp rfl (by (repeat (first | with_reducible assumption | ((with_reducible apply get_skip_of); (focus decide); (focus decide); (focus decide)) | ((with_reducible apply get_same_of); (focus decide); exact rfl))))) (evS_tmp rfl (by (repeat (first | with_reducible assumption | ((with_reducible apply get_skip_of); (focus decide); (focus decide); (focus decide)) | ((with_reducible apply get_same_of); (focus decide); exact rfl))))) u23 z9 hlt) (put_tmp rfl) ?_
    refine OpsK.on rfl (o_load1 (evS_tmp rfl (by (repeat (first | with_reducible assumption | ((with_reducible apply get_skip_of); (focus decide); (focus decide); (focus decide)) | ((with_reducible apply get_same_of); (focus decide); exact rfl))))) g9 (load1_ro mF' hx)) (put_tmp rfl) ?_
    refine OpsK.on rfl (o_lenS rfl rfl rfl (evS_tmp rfl (by (repeat (first | with_reducible assumption | ((with_reducible apply get_skip_of); (focus decide); (focus decide); (focus decide)) | ((with_reducible apply get_same_of); (focus decide); exact rfl))))) u9) (put_tmp rfl) ?_
    refine OpsK.on rfl (o_min (n := 300) rfl rfl (evS_tmp rfl (by (repeat (first | with_reducible assumption | ((with_reducible apply get_skip_of); (focus decide); (focus decide); (focus decide)) | ((with_reducible apply get_same_of); (focus decide); exact rfl))))) rfl) (put_tmp rfl) ?_
    refine OpsK.on rfl (o_sliceS u9 (evS_tmp rfl (by (repeat (first | with_reducible assumption | ((with_reducible apply get_skip_of); (focus decide); (focus decide); (focus decide)) | ((with_reducible apply get_same_of); (focus decide); exact rfl))))) natOfO_none (natOfO_some (evS_tmp rfl (by (repeat (first | with_reducible assumption | ((with_reducible apply get_skip_of); (focus decide); (focus decide); (focus decide)) | ((with_reducible apply get_same_of); (focus decide); exact rfl)))))) (by dsimp only [Option.getD]; omega) (Nat.zero_le _)) (put_tmp rfl) ?_
    refine OpsK.on rfl (o_buildSlice (sz := 1) (eachR_cons_of (by rw [evA_tmp rfl (by (repeat (first | with_reducible assumption | ((with_reducible apply get_skip_of); (focus decide); (focus decide); (focus decide)) | ((with_reducible apply get_same_of); (focus decide); exact rfl))))]; rfl) rfl) (bs23 _)) (put_tmp rfl) ?_
    rcases hl with ⟨rfl, rfl⟩ | ⟨id, c, rfl, hid0, mI⟩
    · refine OpsK.on rfl (o_append rfl rfl rfl (evS_tmp rfl (by (repeat (first | with_reducible assumption | ((with_reducible apply get_skip_of); (focus decide); (focus decide); (focus decide)) | ((with_reducible apply get_same_of); (focus decide); exact rfl))))) (evS_tmp rfl (by (repeat (first | with_reducible assumption | ((with_reducible apply get_skip_of); (focus decide); (focus decide); (focus decide)) | ((with_reducible apply get_same_of); (focus decide); exact rfl))))) (.inl u23) (ap_nil u23 hti hti1 hti2 zero9 rfl (by omega) get_here rfl)) (put_tmp rfl) ?_
      refine OpsK.on rfl (o_assign (ev_tmp rfl (by (repeat (first | with_reducible assumption | ((with_reducible apply get_skip_of); (focus decide); (focus decide); (focus decide)) | ((with_reducible apply get_same_of); (focus decide); exact rfl)))))) (put_tmp rfl) ?_
      refine OpsK.nil ?_
      refine CodK.region ?_
      refine OpsK.on rfl (o_move (ev_tmp rfl (by (repeat (first | with_reducible assumption | ((with_reducible apply get_skip_of); (focus decide); (focus decide); (focus decide)) | ((with_reducible apply get_same_of); (focus decide); exact rfl)))))) (put_tmp rfl) ?_
      refine OpsK.on rfl (o_bin (evA_tmp rfl (by (repeat (first | with_reducible assumption | ((with_reducible apply get_skip_of); (focus decide); (focus decide); (focus decide)) | ((with_reducible apply get_same_of); (focus decide); exact rfl))))) rfl (b_inc (by omega))) (put_tmp rfl) ?_
      refine OpsK.on rfl (o_assign (ev_tmp rfl (by (repeat (first | with_reducible assumption | ((with_reducible apply get_skip_of); (focus decide); (focus decide); (focus decide)) | ((with_reducible apply get_same_of); (focus decide); exact rfl)))))) (put_tmp rfl) ?_
      refine OpsK.nil ?_
      refine ih (0 + 1) _ _ _ (by omega) (by (repeat (first | with_reducible assumption | ((with_reducible apply get_skip_of); (focus decide); (focus decide); (focus decide)) | ((with_reducible apply get_same_of); (focus decide); exact rfl)))) (by (repeat (first | with_reducible assumption | ((with_reducible apply get_skip_of); (focus decide); (focus decide); (focus decide)) | ((with_reducible apply get_same_of); (focus decide); exact rfl)))) (by (repeat (first | with_reducible assumption | ((with_reducible apply get_skip_of); (focus decide); (focus decide); (focus decide)) | ((with_reducible apply get_same_of); (focus decide); exact rfl)))) (by (repeat (first | with_reducible assumption | ((with_reducible apply get_skip_of); (focus decide); (focus decide); (focus decide)) | ((with_reducible apply get_same_of); (focus decide); exact rfl)))) ((hk.new _).new _) (by ((try dsimp only [St.put]); omega)) (by ((try dsimp only [St.put]); omega)) (by (repeat (first | exact get_here | exact get_here' | refine get_there (by (try dsimp only [St.put]); omega) ?_ | refine get_there' (by (try dsimp only [St.put]); omega) ?_ | assumption | refine get_kept (by assumption) (by (try dsimp only [St.put]); omega) ?_))) (by (repeat (first | exact get_here | exact get_here' | refine get_there (by (try dsimp only [St.put]); omega) ?_ | refine get_there' (by (try dsimp only [St.put]); omega) ?_ | assumption | refine get_kept (by assumption) (by (try dsimp only [St.put]); omega) ?_))) (.inr ⟨_, _, rfl, by ((try dsimp only [St.put]); omega), get_here⟩) ?_
      intro id e
      cases e
      refine ⟨?_, ?_, ?_⟩ <;> ((try dsimp only [St.put]); omega)
    · obtain ⟨n1, n2, n3⟩ := hne id rfl
      refine OpsK.on rfl (o_append rfl rfl rfl (evS_tmp rfl (by (repeat (first | with_reducible assumption | ((with_reducible apply get_skip_of); (focus decide); (focus decide); (focus decide)) | ((with_reducible apply get_same_of); (focus decide); exact rfl))))) (evS_tmp rfl (by (repeat (first | with_reducible assumption | ((with_reducible apply get_skip_of); (focus decide); (focus decide); (focus decide)) | ((with_reducible apply get_same_of); (focus decide); exact rfl))))) (.inl u23) (ap_more (i := i) u23 hti hti1 hti2 zero9 rfl (by omega) get_here rfl (by (repeat (first | exact get_here | exact get_here' | refine get_there (by (try dsimp only [St.put]); omega) ?_ | refine get_there' (by (try dsimp only [St.put]); omega) ?_ | assumption | refine get_kept (by assumption) (by (try dsimp only [St.put]); omega) ?_))) (by omega))) (put_tmp rfl) ?_
      refine OpsK.on rfl (o_assign (ev_tmp rfl (by (repeat (first | with_reducible assumption | ((with_reducible apply get_skip_of); (focus decide); (focus decide); (focus decide)) | ((with_reducible apply get_same_of); (focus decide); exact rfl)))))) (put_tmp rfl) ?_
      refine OpsK.nil ?_
      refine CodK.region ?_
      refine OpsK.on rfl (o_move (ev_tmp rfl (by (repeat (first | with_reducible assumption | ((with_reducible apply get_skip_of); (focus decide); (focus decide); (focus decide)) | ((with_reducible apply get_same_of); (focus decide); exact rfl)))))) (put_tmp rfl) ?_
      refine OpsK.on rfl (o_bin (evA_tmp rfl (by (repeat (first | with_reducible assumption | ((with_reducible apply get_skip_of); (focus decide); (focus decide); (focus decide)) | ((with_reducible apply get_same_of); (focus decide); exact rfl))))) rfl (b_inc (by omega))) (put_tmp rfl) ?_
      refine OpsK.on rfl (o_assign (ev_tmp rfl (by (repeat (first | with_reducible assumption | ((with_reducible apply get_skip_of); (focus decide); (focus decide); (focus decide)) | ((with_reducible apply get_same_of); (focus decide); exact rfl)))))) (put_tmp rfl) ?_
      refine OpsK.nil ?_
      refine ih (i + 1) _ _ _ (by omega) (by (repeat (first | with_reducible assumption | ((with_reducible apply get_skip_of); (focus decide); (focus decide); (focus decide)) | ((with_reducible apply get_same_of); (focus decide); exact rfl)))) (by (repeat (first | with_reducible assumption | ((with_reducible apply get_skip_of); (focus decide); (focus decide); (focus decide)) | ((with_reducible apply get_same_of); (focus decide); exact rfl)))) (by (repeat (first | with_reducible assumption | ((with_reducible apply get_skip_of); (focus decide); (focus decide); (focus decide)) | ((with_reducible apply get_same_of); (focus decide); exact rfl)))) (by (repeat (first | with_reducible assumption | ((with_reducible apply get_skip_of); (focus decide); (focus decide); (focus decide)) | ((with_reducible apply get_same_of); (focus decide); exact rfl)))) (((hk.new _).put (by ((try dsimp only [St.put]); omega)) _).new _) (by ((try dsimp only [St.put]); omega)) (by ((try dsimp only [St.put]); omega)) (by (repeat (first | exact get_here | exact get_here' | refine get_there (by (try dsimp only [St.put]); omega) ?_ | refine get_there' (by (try dsimp only [St.put]); omega) ?_ | assumption | refine get_kept (by assumption) (by (try dsimp only [St.put]); omega) ?_))) (by (repeat (first | exact get_here | exact get_here' | refine get_there (by (try dsimp only [St.put]); omega) ?_ | refine get_there' (by (try dsimp only [St.put]); omega) ?_ | assumption | refine get_kept (by assumption) (by (try dsimp only [St.put]); omega) ?_))) (.inr ⟨_, _, rfl, by ((try dsimp only [St.put]); omega), get_here⟩) ?_
      intro id e
      cases e
      refine ⟨?_, ?_, ?_⟩ <;> ((try dsimp only [St.put]); omega)

theorem few (ti : List UInt8) (fl ru ro : SV) {len rlen : Nat} (s : St) (hF : Flds s fl len 12) (hR : Strs s ru rlen 18) :
    RetK CY 4 [.agg [.str ti, fl, ru, ro]] s fun v s' => (∃ l, v = .v (.agg l) ∧ l.length = 4) ∧ Keeps s s' := by
  refine RetK.body fn4 fb4 rfl rfl ?_
  refine CodK.seq (CodK.region ?_)
  refine OpsK.on rfl (o_box (evA_tmp rfl rfl)) (put_tmp rfl) ?_
  refine OpsK.on rfl (o_alloc zero25) (put_tmp rfl) ?_
  refine OpsK.nil ?_
  refine CodK.seq (CodK.region ?_)
  refine OpsK.on rfl (o_fieldAddr 0 (evS_tmp rfl (by (repeat (first | with_reducible assumption | ((with_reducible apply get_skip_of); (focus decide); (focus decide); (focus decide)) | ((with_reducible apply get_same_of); (focus decide); exact rfl))))) u25 F25_0 z9 rfl) (put_tmp rfl) ?_
  refine OpsK.on rfl (o_load1 (evS_tmp rfl (by (repeat (first | with_reducible assumption | ((with_reducible apply get_skip_of); (focus decide); (focus decide); (focus decide)) | ((with_reducible apply get_same_of); (focus decide); exact rfl))))) g9 (load1_of (by (repeat (first | exact get_here | exact get_here' | refine get_there (by (try dsimp only [St.put]); omega) ?_ | refine get_there' (by (try dsimp only [St.put]); omega) ?_ | assumption | refine get_kept (by assumption) (by (try dsimp only [St.put]); omega) ?_))) rfl rfl)) (put_tmp rfl) ?_
  refine OpsK.on rfl (o_fieldAddr 0 (evS_tmp rfl (by (repeat (first | with_reducible assumption | ((with_reducible apply get_skip_of); (focus decide); (focus decide); (focus decide)) | ((with_reducible apply get_same_of); (focus decide); exact rfl))))) u25 F25_0 z9 rfl) (put_tmp rfl) ?_
  refine OpsK.on rfl (o_load1 (evS_tmp rfl (by (repeat (first | with_reducible assumption | ((with_reducible apply get_skip_of); (focus decide); (focus decide); (focus decide)) | ((with_reducible apply get_same_of); (focus decide); exact rfl))))) g9 (load1_of (by (repeat (first | exact get_here | exact get_here' | refine get_there (by (try dsimp only [St.put]); omega) ?_ | refine get_there' (by (try dsimp only [St.put]); omega) ?_ | assumption | refine get_kept (by assumption) (by (try dsimp only [St.put]); omega) ?_))) rfl rfl)) (put_tmp rfl) ?_
  refine OpsK.on rfl (o_lenS rfl rfl rfl (evS_tmp rfl (by (repeat (first | with_reducible assumption | ((with_reducible apply get_skip_of); (focus decide); (focus decide); (focus decide)) | ((with_reducible apply get_same_of); (focus decide); exact rfl))))) u9) (put_tmp rfl) ?_
  refine OpsK.on rfl (o_min (n := 400) rfl rfl (evS_tmp rfl (by (repeat (first | with_reducible assumption | ((with_reducible apply get_skip_of); (focus decide); (focus decide); (focus decide)) | ((with_reducible apply get_same_of); (focus decide); exact rfl))))) rfl) (put_tmp rfl) ?_
  refine OpsK.on rfl (o_sliceS u9 (evS_tmp rfl (by (repeat (first | with_reducible assumption | ((with_reducible apply get_skip_of); (focus decide); (focus decide); (focus decide)) | ((with_reducible apply get_same_of); (focus decide); exact rfl))))) natOfO_none (natOfO_some (evS_tmp rfl (by (repeat (first | with_reducible assumption | ((with_reducible apply get_skip_of); (focus decide); (focus decide); (focus decide)) | ((with_reducible apply get_same_of); (focus decide); exact rfl)))))) (by dsimp only [Option.getD]; omega) (Nat.zero_le _)) (put_tmp rfl) ?_
  refine OpsK.on rfl (o_fieldAddr 0 (evS_tmp rfl (by (repeat (first | with_reducible assumption | ((with_reducible apply get_skip_of); (focus decide); (focus decide); (focus decide)) | ((with_reducible apply get_same_of); (focus decide); exact rfl))))) u25 F25_0 z9 rfl) (put_tmp rfl) ?_
  refine OpsK.on rfl (o_store (evS_tmp rfl (by (repeat (first | with_reducible assumption | ((with_reducible apply get_skip_of); (focus decide); (focus decide); (focus decide)) | ((with_reducible apply get_same_of); (focus decide); exact rfl))))) (evA_tmp rfl (by (repeat (first | with_reducible assumption | ((with_reducible apply get_skip_of); (focus decide); (focus decide); (focus decide)) | ((with_reducible apply get_same_of); (focus decide); exact rfl))))) z9 (storeL_of (by (repeat (first | exact get_here | exact get_here' | refine get_there (by (try dsimp only [St.put]); omega) ?_ | refine get_there' (by (try dsimp only [St.put]); omega) ?_ | assumption | refine get_kept (by assumption) (by (try dsimp only [St.put]); omega) ?_))) rfl) (by rfl)) put_none ?_
  refine OpsK.nil ?_
  refine CodK.seq (CodK.region ?_)
  refine OpsK.on rfl (o_assign rfl) (put_tmp rfl) (OpsK.nil ?_)
  refine CodK.seq (CodK.seq (CodK.region ?_))
  refine OpsK.on rfl (o_assign rfl) (put_tmp rfl) (OpsK.nil ?_)
  refine CodK.block (CodK.mono (loop_fields (len := len) (v := fl) (A := s.next) (B := s.next + 1) (s0 := s) hF (by omega) (by omega) (by omega) ?_ (min len 12) 0 _ _ .nils (by omega) (by (repeat (first | with_reducible assumption | ((with_reducible apply get_skip_of); (focus decide); (focus decide); (focus decide)) | ((with_reducible apply get_same_of); (focus decide); exact rfl)))) (by (repeat (first | with_reducible assumption | ((with_reducible apply get_skip_of); (focus decide); (focus decide); (focus decide)) | ((with_reducible apply get_same_of); (focus decide); exact rfl)))) (by (repeat (first | with_reducible assumption | ((with_reducible apply get_skip_of); (focus decide); (focus decide); (focus decide)) | ((with_reducible apply get_same_of); (focus decide); exact rfl)))) (by (repeat (first | with_reducible assumption | ((with_reducible apply get_skip_of); (focus decide); (focus decide); (focus decide)) | ((with_reducible apply get_same_of); (focus decide); exact rfl)))) ?_ ?_ ?_ (by (repeat (first | exact get_here | exact get_here' | refine get_there (by (try dsimp only [St.put]); omega) ?_ | refine get_there' (by (try dsimp only [St.put]); omega) ?_ | assumption | refine get_kept (by assumption) (by (try dsimp only [St.put]); omega) ?_))) (by (repeat (first | exact get_here | exact get_here' | refine get_there (by (try dsimp only [St.put]); omega) ?_ | refine get_there' (by (try dsimp only [St.put]); omega) ?_ | assumption | refine get_kept (by assumption) (by (try dsimp only [St.put]); omega) ?_))) (.inl ⟨rfl, rfl⟩) (fun _ e => by cases e)) ?_)
  · rfl
  · exact (((Keeps.refl s).new _).new _).put (by ((try dsimp only [St.put]); omega)) _
  · ((try dsimp only [St.put]); omega)
  · ((try dsimp only [St.put]); omega)
  rintro ex f' s2 ⟨rfl, t', l', rfl, h1, h2, h3, hk2, hn2, mA, mB⟩
  dsimp only [St.put] at hn2
  refine CodK.seq (CodK.region ?_)
  refine OpsK.on rfl (o_move (ev_tmp rfl (by (repeat (first | with_reducible assumption | ((with_reducible apply get_skip_of); (focus decide); (focus decide); (focus decide)) | ((with_reducible apply get_same_of); (focus decide); exact rfl)))))) (put_tmp rfl) ?_
  refine OpsK.on rfl (o_fieldAddr 1 (evS_tmp rfl (by (repeat (first | with_reducible assumption | ((with_reducible apply get_skip_of); (focus decide); (focus decide); (focus decide)) | ((with_reducible apply get_same_of); (focus decide); exact rfl))))) u25 F25_1 z22 rfl) (put_tmp rfl) ?_
  refine OpsK.on rfl (o_store (evS_tmp rfl (by (repeat (first | with_reducible assumption | ((with_reducible apply get_skip_of); (focus decide); (focus decide); (focus decide)) | ((with_reducible apply get_same_of); (focus decide); exact rfl))))) (evA_tmp rfl (by (repeat (first | with_reducible assumption | ((with_reducible apply get_skip_of); (focus decide); (focus decide); (focus decide)) | ((with_reducible apply get_same_of); (focus decide); exact rfl))))) z22 (storeL_of (by (repeat (first | exact get_here | exact get_here' | refine get_there (by (try dsimp only [St.put]); omega) ?_ | refine get_there' (by (try dsimp only [St.put]); omega) ?_ | assumption | refine get_kept (by assumption) (by (try dsimp only [St.put]); omega) ?_))) rfl) (by rfl)) put_none (OpsK.nil ?_)
  refine CodK.seq (CodK.region ?_)
  refine OpsK.on rfl (o_assign rfl) (put_tmp rfl) (OpsK.nil ?_)
  refine CodK.seq (CodK.seq (CodK.region ?_))
  refine OpsK.on rfl (o_assign rfl) (put_tmp rfl) (OpsK.nil ?_)
  refine CodK.block (CodK.mono (loop_rules (len := rlen) (v := ru) (A := s.next) (B := s.next + 1) (s0 := s) hR (by omega) (by omega) (by omega) ?_ (min rlen 18) 0 _ _ .nils (by omega) (by (repeat (first | with_reducible assumption | ((with_reducible apply get_skip_of); (focus decide); (focus decide); (focus decide)) | ((with_reducible apply get_same_of); (focus decide); exact rfl)))) (by (repeat (first | with_reducible assumption | ((with_reducible apply get_skip_of); (focus decide); (focus decide); (focus decide)) | ((with_reducible apply get_same_of); (focus decide); exact rfl)))) (by (repeat (first | with_reducible assumption | ((with_reducible apply get_skip_of); (focus decide); (focus decide); (focus decide)) | ((with_reducible apply get_same_of); (focus decide); exact rfl)))) (by (repeat (first | with_reducible assumption | ((with_reducible apply get_skip_of); (focus decide); (focus decide); (focus decide)) | ((with_reducible apply get_same_of); (focus decide); exact rfl)))) ?_ ?_ ?_ (by (repeat (first | exact get_here | exact get_here' | refine get_there (by (try dsimp only [St.put]); omega) ?_ | refine get_there' (by (try dsimp only [St.put]); omega) ?_ | assumption | refine get_kept (by assumption) (by (try dsimp only [St.put]); omega) ?_))) (by (repeat (first | exact get_here | exact get_here' | refine get_there (by (try dsimp only [St.put]); omega) ?_ | refine get_there' (by (try dsimp only [St.put]); omega) ?_ | assumption | refine get_kept (by assumption) (by (try dsimp only [St.put]); omega) ?_))) (.inl ⟨rfl, rfl⟩) (fun _ e => by cases e)) ?_)
  · rfl
  · exact hk2.put (by omega) _
  · ((try dsimp only [St.put]); omega)
  · ((try dsimp only [St.put]); omega)
  rintro ex f' s3 ⟨rfl, t3, l3, rfl, h1, h2, h3, hk3, mA, mB⟩
  refine CodK.seq (CodK.region ?_)
  refine OpsK.on rfl (o_move (ev_tmp rfl (by (repeat (first | with_reducible assumption | ((with_reducible apply get_skip_of); (focus decide); (focus decide); (focus decide)) | ((with_reducible apply get_same_of); (focus decide); exact rfl)))))) (put_tmp rfl) ?_
  refine OpsK.on rfl (o_fieldAddr 2 (evS_tmp rfl (by (repeat (first | with_reducible assumption | ((with_reducible apply get_skip_of); (focus decide); (focus decide); (focus decide)) | ((with_reducible apply get_same_of); (focus decide); exact rfl))))) u25 F25_2 z23 rfl) (put_tmp rfl) ?_
  refine OpsK.on rfl (o_store (evS_tmp rfl (by (repeat (first | with_reducible assumption | ((with_reducible apply get_skip_of); (focus decide); (focus decide); (focus decide)) | ((with_reducible apply get_same_of); (focus decide); exact rfl))))) (evA_tmp rfl (by (repeat (first | with_reducible assumption | ((with_reducible apply get_skip_of); (focus decide); (focus decide); (focus decide)) | ((with_reducible apply get_same_of); (focus decide); exact rfl))))) z23 (storeL_of (by (repeat (first | exact get_here | exact get_here' | refine get_there (by (try dsimp only [St.put]); omega) ?_ | refine get_there' (by (try dsimp only [St.put]); omega) ?_ | assumption | refine get_kept (by assumption) (by (try dsimp only [St.put]); omega) ?_))) rfl) (by rfl)) put_none (OpsK.nil ?_)
  refine CodK.seq (CodK.region ?_)
  refine OpsK.on rfl (o_loadN (evS_tmp rfl (by (repeat (first | with_reducible assumption | ((with_reducible apply get_skip_of); (focus decide); (focus decide); (focus decide)) | ((with_reducible apply get_same_of); (focus decide); exact rfl))))) g25 z25 (loadN_of (by (repeat (first | exact get_here | exact get_here' | refine get_there (by (try dsimp only [St.put]); omega) ?_ | refine get_there' (by (try dsimp only [St.put]); omega) ?_ | assumption | refine get_kept (by assumption) (by (try dsimp only [St.put]); omega) ?_))) rfl)) (put_tmp rfl) ?_
  refine OpsK.on rfl (o_store (evS_tmp rfl (by (repeat (first | with_reducible assumption | ((with_reducible apply get_skip_of); (focus decide); (focus decide); (focus decide)) | ((with_reducible apply get_same_of); (focus decide); exact rfl))))) (evA_tmp rfl (by (repeat (first | with_reducible assumption | ((with_reducible apply get_skip_of); (focus decide); (focus decide); (focus decide)) | ((with_reducible apply get_same_of); (focus decide); exact rfl))))) z25 (storeL_of (by (repeat (first | exact get_here | exact get_here' | refine get_there (by (try dsimp only [St.put]); omega) ?_ | refine get_there' (by (try dsimp only [St.put]); omega) ?_ | assumption | refine get_kept (by assumption) (by (try dsimp only [St.put]); omega) ?_))) rfl) (by rfl)) put_none (OpsK.nil ?_)
  refine CodK.ret ⟨fun i e => (by cases e), _, _, rfl, eachR_cons_of (res_agg rfl (by (repeat (first | with_reducible assumption | ((with_reducible apply get_skip_of); (focus decide); (focus decide); (focus decide)) | ((with_reducible apply get_same_of); (focus decide); exact rfl)))) g25 z25 (loadN_of (by (repeat (first | exact get_here | exact get_here' | refine get_there (by (try dsimp only [St.put]); omega) ?_ | refine get_there' (by (try dsimp only [St.put]); omega) ?_ | assumption | refine get_kept (by assumption) (by (try dsimp only [St.put]); omega) ?_))) rfl)) rfl, ⟨_, rfl, rfl⟩, ?_⟩
  exact (hk3.put (by omega) _).put (by omega) _
end Go.Proofs.YtdgccipcandojaaGreat

