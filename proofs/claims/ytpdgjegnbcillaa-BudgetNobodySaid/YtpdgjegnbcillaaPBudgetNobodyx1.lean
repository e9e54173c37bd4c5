/- The Go functions that the law reaches, as plain Lean functions, and proofs that the calls of the machine come to them, or the row of the law over them, for every input that the row speaks of; written by a program of this session (wip/tool/mkprint.py) out of the translation and of hand-made templates. -/
import Derived.Test.YtpdgjegnbcillaaPBudgetNobodyx0
namespace Go.Proofs.Ytpdgjegnbcillaa.PBudgetNobody
open Go.RowKit Go.Proofs.YtpdgjegnbcillaaW.PrintWords Go.Proofs.YtpdgjegnbcillaaW.PrintLast Go.Proofs.YtpdgjegnbcillaaW.PrintMore
attribute [local go_sem] max2_int min2_int max_two min_two max_three min_three max_four min_four   -- for this text's walks alone
set_option linter.unusedVariables false
set_option linter.unusedSimpArgs false

/-! ### chainmanlaw07_BudgetNobody: function 9 -/
def chainmanlaw07_BudgetNobody.f (a0 : Int) : Option Bool := some true
set_option maxHeartbeats 4000000 in
set_option maxRecDepth 100000 in
theorem chainmanlaw07_BudgetNobody.calls (a0 : Int) (r : Bool) (w : World) (h : chainmanlaw07_BudgetNobody.f a0 = some r) :
    Calls Try.prog 9 #[.int .i64 a0] w fun e w' => e = .returned (.bool r) ∧ Below w.heap.size w w' := by
  obtain rfl : true = r := Option.some.inj h
  clear h
  go_enter Try.func9, Try.ntmps9
  go_wp2
  go_loop [4] (fun i => i = .int .i64 0 ∨ i = .int .i64 1 ∨ i = .int .i64 2) (fun i => 2 - (intOf i).toNat)
  case atStart => exact .inl rfl
  case round =>
    rcases hrel with rfl | rfl | rfl
    · go_wp2
      go_end0
      go_wp2
      exact ⟨.inr (.inl rfl), by decide⟩
    · go_wp2
      go_end0
      go_wp2
      exact ⟨.inr (.inr rfl), by decide⟩
    · go_wp2
      go_region
      go_wp2
      go_region
      go_wp2
      go_region
      go_wp2
      go_region
      go_wp2
      go_ret
      exact ⟨rfl, below_drew (below_drew (below_drew (below_drew (below_alloc (below_alloc (below_alloc (Below.refl _ _) _) _) _))))⟩


/-- THE ONE PURE STATEMENT of chainmanlaw07_BudgetNobody. -/
def chainmanlaw07_BudgetNobody.Pure : Prop := ∀ (a0 : Int), (Lit.int .i64 a0).wf = true → chainmanlaw07_BudgetNobody.f a0 = some true
theorem chainmanlaw07_BudgetNobody.walk (P : chainmanlaw07_BudgetNobody.Pure) (a0 : Int) (w : World) (w0 : (Lit.int .i64 a0).wf = true) :
    Calls Try.prog 9 #[.int .i64 a0] w fun e w' => e = .returned (.bool true) ∧ Below w.heap.size w w' := by
  have h := P a0 w0
  refine (chainmanlaw07_BudgetNobody.calls a0 true w  h).mono ?_
  rintro e w' ⟨rfl, hd⟩
  exact ⟨rfl, hd⟩

end Go.Proofs.Ytpdgjegnbcillaa.PBudgetNobody
