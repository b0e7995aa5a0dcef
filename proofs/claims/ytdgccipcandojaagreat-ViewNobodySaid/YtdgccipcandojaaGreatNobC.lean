/- Lemmas. -/
import Derived.Test.YtdgccipcandojaaGreatEvI
import Derived.Test.YtdgccipcandojaaGreatNobB
namespace Go.Proofs.YtdgccipcandojaaGreat
open Go Go.Ev Go.RowKit Go.ChangeShapes Go.WideShapes Go.ChangeAt

noncomputable def body3 : Code := match Tryz.f3.body with | some b => b | none => .skip
noncomputable def R0c : Code := seqL body3
noncomputable def R1c : Code := seqL (seqR body3)
noncomputable def rest3 : Code := seqR (seqR body3)
theorem fn3 : CY.fns 3 = some Tryz.f3 := by kernel_rfl
theorem fb3 : Tryz.f3.body = some body3 := by kernel_rfl
theorem body3_eq : body3 = .seq R0c (.seq R1c rest3) := by kernel_rfl

/-- The temporaries behind the first two statements. -/
noncomputable def set7 (v0 v1 v2 v3 v6 v16 v17 : TV) : T2 TV := T2.set (T2.set (T2.set (T2.set (T2.put T2.new 0 [v0, v1, v2]) 3 v3) 6 v6) 16 v16) 17 v17

noncomputable def t2lit : T2 TV := set7 (.v (.agg [.opq 20, .opq 21, .opq 22, .opq 23])) (.v (.s (.opq 1))) (.v (.s (.opq 2))) (.v (.s (.ptr 0 0))) (.v (.s (.bool false))) (.v (.agg [.opq 24, .opq 25, .opq 26, .opq 27])) (.v (.agg [.opq 10, .opq 11, .opq 12, .opq 13]))
noncomputable def s2lit : St := ⟨Tr.nil.set 0 (.cells 4 (.ls [.opq 10, .opq 11, .opq 12, .opq 13]) 4 true 0 25), 1⟩

def okEnd (ex : Ex) (t : T2 TV) (ms : List Nat) : Bool := match ex with
  | .exit _ => false
  | _ => match ms with
    | [] => match T2.get t 6 with
      | .v (.s (.bool true)) => true
      | _ => false
    | _ => false

theorem restX : (comp CY rest3).run ⟨fexec CY 3000, 90, none⟩ t2lit [] s2lit (fun ex t ms _ => okEnd ex t ms) = true := by decide +kernel
end Go.Proofs.YtdgccipcandojaaGreat

