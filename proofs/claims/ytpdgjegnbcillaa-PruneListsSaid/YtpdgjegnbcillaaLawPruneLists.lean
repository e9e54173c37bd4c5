/- The Go functions that the law reaches, as plain Lean functions, and proofs that the calls of the machine come to them, or the row of the law over them, for every input that the row speaks of; written by a program of this session (wip/tool/mkprint.py) out of the translation and of hand-made templates. -/
import Derived.Test.YtpdgjegnbcillaaRows
import Derived.Test.YtpdgjegnbcillaaPPruneListsx4
import Derived.Test.YtpdgjegnbcillaaPurePruneLists
import Derived.WalkKit
import Derived.ProofKit
import Derived.OpenShut
import Derived.ShutString
import Derived.ChangeOld
import Derived.Below
import Derived.SizedLaws
import Derived.Test.YtpdgjegnbcillaaHOpen
namespace Go.Proofs.Ytpdgjegnbcillaa.pruneLists
open Go.ChangeShapes Go.WideShapes Go.ChangeAt Go.RowKit
open Go.ChangeMaps (open_string shut_string)
set_option linter.unusedVariables false
theorem laidOut : laidOutB Try.prog = true := by kernel_rfl
theorem own : ownKnob Try.prog.godebug = none := by kernel_rfl
set_option maxRecDepth 100000 in
theorem lifted (os : Os) (started : os.Started) (H : Type) (enc : TypeId × Value → H) :
    ReturnsInHanded {} Try.checked os 5 .any (Rows.pruneListsSpec.pre6 enc Try.prog Try.f5 Rows.pruneListsRow.domain false) (Rows.pruneListsSpec.post enc Try.prog Try.f5 false true false false) := by
  refine returnsInHanded_of_change_sized (C := Try.checked) own started (by kernel_rfl) Try.func5
    (ChangeSpec.witness6 (enc := enc) (C := Try.checked) false ⟨#[], #[.slice none 0 0, .int .i64 0], []⟩ 8 (by kernel_rfl) (by kernel_rfl) (by kernel_rfl) (by kernel_rfl)) ?_
  intro W base args ds gs before hval0 hW hcnd hsz0 _
  have hsz : (DataW.weightsEach Try.prog (Try.f5.params.toList ++ Rows.pruneListsSpec.plain.varTypes Try.prog) (ds ++ gs)).all (· ≤ reachBytes) = true := hsz0
  have hval : ∀ (j : Nat) t v, Try.f5.params[j]? = some t → args[j]? = some v → Value.okWide Try.prog W .any base t v := hval0
  have hW' := hW
  obtain ⟨p, q, hA0, hV, rfl, hfz, hnd⟩ := hW
  have hA : DataW.TrodAll enc Try.prog W 0 (fun _ => true) true Try.f5.params.toList args.toList ds p := hA0
  rw [Try.params5] at hA hval hsz
  obtain ⟨v0, vs0, d0, ds0, p0, q0, hargs, rfl, rfl, h0, r0⟩ := trodAll_cons hA
  obtain ⟨v1, vs1, d1, ds1, p1, q1, rfl, rfl, rfl, h1, r1⟩ := trodAll_cons r0
  obtain ⟨rfl, rfl, rfl⟩ := trodAll_nil r1
  obtain rfl : args = #[v0, v1] := by cases args; simp_all
  obtain ⟨rfl, rfl⟩ := trodVars_none hV
  have k0 := h0
  have lt0 : ∀ x ∈ p0, x.block < W.heap.size := by obtain ⟨m, hm⟩ := k0; exact DataW.trod_lt m _ _ _ hm
  obtain ⟨fuel0, hf0⟩ := h0
  obtain ⟨y0_, hk0, ok0⟩ := (show Go.Proofs.YtpdgjegnbcillaaH.Opens Try.prog (Go.Proofs.YtpdgjegnbcillaaW.PrintWords.Kd.slice 33 (Go.Proofs.YtpdgjegnbcillaaW.PrintWords.Kd.slice 80 PPruneLists.k80)) 32 _ from (Go.Proofs.YtpdgjegnbcillaaH.opens_slice Try.underlying32 (by kernel_rfl) (Go.Proofs.YtpdgjegnbcillaaH.opens_slice Try.underlying33 (by kernel_rfl) (Go.Proofs.YtpdgjegnbcillaaH.opens_iso (fun y => ⟨⟨y.1, y.2.1, y.2.2⟩, rfl⟩) (Go.Proofs.YtpdgjegnbcillaaH.opens_struct Try.underlying80 (by kernel_rfl) (Go.Proofs.YtpdgjegnbcillaaH.opens_cons rfl (by kernel_rfl) (Go.Proofs.YtpdgjegnbcillaaH.opens_int Try.underlying3) (Go.Proofs.YtpdgjegnbcillaaH.opens_cons rfl (by kernel_rfl) (Go.Proofs.YtpdgjegnbcillaaH.opens_int Try.underlying3) (Go.Proofs.YtpdgjegnbcillaaH.opens_one rfl (by kernel_rfl) (Go.Proofs.YtpdgjegnbcillaaH.opens_bool Try.underlying4))))))))) enc W _ _ fuel0 _ _ hf0
  obtain ⟨a0, len0, cap0, rfl⟩ := okWide_slice Try.underlying32 (hval 0 32 v0 rfl rfl)
  obtain ⟨A0, c0, e0, hc0, hr0⟩ := hk0
  simp [Value.cells] at e0
  obtain ⟨rfl, rfl, rfl⟩ := e0
  obtain ⟨a1, rfl, rfl, rfl, w1⟩ := open_int Try.underlying3 (hval 1 3 v1 rfl rfl) h1
  clear hA0 hval0 hsz0 hsz
  refine (PPruneLists.chainmanlaw35_PruneLists.walk Pure.PruneLists _ _ y0_ a1 W hr0 hc0 ok0 w1).mono fun e W' ⟨he, bel⟩ => ?_
  subst he
  exact ⟨_, rfl, _, _, _, [], _, [], hW', trodAll_mk1 (shut_bool Try.underlying4 _), (trodAll_cons_mk (Below.trod laidOut (by kernel_rfl) (of_decide_eq_true (by kernel_rfl)) k0 bel lt0) (trodAll_cons_mk (shut_int Try.underlying3 w1) trodAll_mk0)), rfl, bel.frame _, fun h => by cases h⟩
theorem over : Rows.pruneListsRow.holds Try.pinned (OpenSpec.ofChange Rows.pruneListsSpec) :=
  OpenClaim.holds_of_wide 5 Try.f5 rfl rfl rfl rfl rfl rfl rfl ⟨rfl, rfl, rfl, rfl, rfl⟩ rfl rfl rfl rfl rfl (by kernel_rfl) Try.func5 (by kernel_rfl)
    (of_decide_eq_true (by kernel_rfl)) (by unfold Func.isWrapper; first | (rw [if_pos (by decide +kernel)]; kernel_rfl) | (rw [if_neg (by decide +kernel)]; exact ⟨rfl, rfl⟩))
    (fun os started H enc _ => lifted os started H enc)
theorem proved : Rows.PruneListsSaid := over
#print axioms proved
end Go.Proofs.Ytpdgjegnbcillaa.pruneLists
namespace Go.Proofs.Ytpdgjegnbcillaa
/-- The row, under a short name, for the claim. -/
theorem pruneLists_holds : Rows.PruneListsSaid := pruneLists.proved
end Go.Proofs.Ytpdgjegnbcillaa
