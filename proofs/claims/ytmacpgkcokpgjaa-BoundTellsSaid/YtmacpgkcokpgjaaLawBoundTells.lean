/- The Go functions that the law reaches, as plain Lean functions, and proofs that the calls of the machine come to them, or the row of the law over them, for every input that the row speaks of; written by a program of this session (wip/tool/mkprint.py) out of the translation and of hand-made templates. -/
import Derived.Test.YtmacpgkcokpgjaaRows
import Derived.Test.YtmacpgkcokpgjaaPBoundTellsx8
import Derived.Test.YtmacpgkcokpgjaaPureBoundTells
import Derived.WalkKit
import Derived.ProofKit
import Derived.OpenShut
import Derived.ShutString
import Derived.ChangeOld
import Derived.Below
import Derived.SizedLaws
import Derived.Test.YtmacpgkcokpgjaaHTBoundTells
namespace Go.Proofs.Ytmacpgkcokpgjaa.boundTells
open Go.ChangeShapes Go.WideShapes Go.ChangeAt Go.RowKit
open Go.ChangeMaps (open_string shut_string)
set_option linter.unusedVariables false
theorem laidOut : laidOutB Try.prog = true := by kernel_rfl
theorem own : ownKnob Try.prog.godebug = none := by kernel_rfl
set_option maxRecDepth 100000 in
theorem lifted (os : Os) (started : os.Started) (H : Type) (enc : TypeId × Value → H) :
    ReturnsInHanded {} Try.checked os 4 .any (Rows.boundTellsSpec.pre6 enc Try.prog Try.f4 Rows.boundTellsRow.domain false) (Rows.boundTellsSpec.post enc Try.prog Try.f4 false true false false) := by
  refine returnsInHanded_of_change_sized (C := Try.checked) own started (by kernel_rfl) Try.func4
    (ChangeSpec.witness6 (enc := enc) (C := Try.checked) false ⟨#[], #[.int .i64 0, .int .i64 0, .int .i64 0, .int .i64 0, .int .i64 0, .agg #[.int .i64 0, .int .i64 0, .int .i64 0, .int .i64 0, .int .i64 0, .int .i64 0, .int .i64 0, .int .i64 0, .int .i64 0]], []⟩ 8 (by kernel_rfl) (by kernel_rfl) (by kernel_rfl) (by kernel_rfl)) ?_
  intro W base args ds gs before hval0 hW hcnd hsz0 _
  have hsz : (DataW.weightsEach Try.prog (Try.f4.params.toList ++ Rows.boundTellsSpec.plain.varTypes Try.prog) (ds ++ gs)).all (· ≤ reachBytes) = true := hsz0
  have hval : ∀ (j : Nat) t v, Try.f4.params[j]? = some t → args[j]? = some v → Value.okWide Try.prog W .any base t v := hval0
  have hW' := hW
  obtain ⟨p, q, hA0, hV, rfl, hfz, hnd⟩ := hW
  have hA : DataW.TrodAll enc Try.prog W 0 (fun _ => true) true Try.f4.params.toList args.toList ds p := hA0
  rw [Try.params4] at hA hval hsz
  obtain ⟨v0, vs0, d0, ds0, p0, q0, hargs, rfl, rfl, h0, r0⟩ := trodAll_cons hA
  obtain ⟨v1, vs1, d1, ds1, p1, q1, rfl, rfl, rfl, h1, r1⟩ := trodAll_cons r0
  obtain ⟨v2, vs2, d2, ds2, p2, q2, rfl, rfl, rfl, h2, r2⟩ := trodAll_cons r1
  obtain ⟨v3, vs3, d3, ds3, p3, q3, rfl, rfl, rfl, h3, r3⟩ := trodAll_cons r2
  obtain ⟨v4, vs4, d4, ds4, p4, q4, rfl, rfl, rfl, h4, r4⟩ := trodAll_cons r3
  obtain ⟨v5, vs5, d5, ds5, p5, q5, rfl, rfl, rfl, h5, r5⟩ := trodAll_cons r4
  obtain ⟨rfl, rfl, rfl⟩ := trodAll_nil r5
  obtain rfl : args = #[v0, v1, v2, v3, v4, v5] := by cases args; simp_all
  obtain ⟨rfl, rfl⟩ := trodVars_none hV
  obtain ⟨a0, rfl, rfl, rfl, w0⟩ := open_int Try.underlying3 (hval 0 3 v0 rfl rfl) h0
  obtain ⟨a1, rfl, rfl, rfl, w1⟩ := open_int Try.underlying3 (hval 1 3 v1 rfl rfl) h1
  obtain ⟨a2, rfl, rfl, rfl, w2⟩ := open_int Try.underlying3 (hval 2 3 v2 rfl rfl) h2
  obtain ⟨a3, rfl, rfl, rfl, w3⟩ := open_int Try.underlying3 (hval 3 3 v3 rfl rfl) h3
  obtain ⟨a4, rfl, rfl, rfl, w4⟩ := open_int Try.underlying3 (hval 4 3 v4 rfl rfl) h4
  have k5 := h5
  have lt5 : ∀ x ∈ p5, x.block < W.heap.size := by obtain ⟨m, hm⟩ := k5; exact DataW.trod_lt m _ _ _ hm
  obtain ⟨fuel5, hf5⟩ := h5
  obtain ⟨y5_, hk5, ok5⟩ := (show Go.Proofs.YtmacpgkcokpgjaaH.Opens Try.prog PBoundTells.k35 35 _ from (Go.Proofs.YtmacpgkcokpgjaaH.opens_iso (fun y => ⟨⟨y.1, y.2.1, y.2.2.1, y.2.2.2.1, y.2.2.2.2.1, y.2.2.2.2.2.1, y.2.2.2.2.2.2.1, y.2.2.2.2.2.2.2.1, y.2.2.2.2.2.2.2.2⟩, rfl⟩) (Go.Proofs.YtmacpgkcokpgjaaH.opens_struct Try.underlying35 (by kernel_rfl) (Go.Proofs.YtmacpgkcokpgjaaH.opens_cons rfl (by kernel_rfl) (Go.Proofs.YtmacpgkcokpgjaaH.opens_int Try.underlying3) (Go.Proofs.YtmacpgkcokpgjaaH.opens_cons rfl (by kernel_rfl) (Go.Proofs.YtmacpgkcokpgjaaH.opens_int Try.underlying3) (Go.Proofs.YtmacpgkcokpgjaaH.opens_cons rfl (by kernel_rfl) (Go.Proofs.YtmacpgkcokpgjaaH.opens_int Try.underlying3) (Go.Proofs.YtmacpgkcokpgjaaH.opens_cons rfl (by kernel_rfl) (Go.Proofs.YtmacpgkcokpgjaaH.opens_int Try.underlying3) (Go.Proofs.YtmacpgkcokpgjaaH.opens_cons rfl (by kernel_rfl) (Go.Proofs.YtmacpgkcokpgjaaH.opens_int Try.underlying3) (Go.Proofs.YtmacpgkcokpgjaaH.opens_cons rfl (by kernel_rfl) (Go.Proofs.YtmacpgkcokpgjaaH.opens_int Try.underlying3) (Go.Proofs.YtmacpgkcokpgjaaH.opens_cons rfl (by kernel_rfl) (Go.Proofs.YtmacpgkcokpgjaaH.opens_int Try.underlying3) (Go.Proofs.YtmacpgkcokpgjaaH.opens_cons rfl (by kernel_rfl) (Go.Proofs.YtmacpgkcokpgjaaH.opens_int Try.underlying3) (Go.Proofs.YtmacpgkcokpgjaaH.opens_one rfl (by kernel_rfl) (Go.Proofs.YtmacpgkcokpgjaaH.opens_int Try.underlying3))))))))))))) enc W _ _ fuel5 _ _ hf5
  obtain ⟨cs5, rfl⟩ : ∃ cs, v5 = .agg cs := by
    have hv_ := (hval 5 35 v5 rfl rfl)
    unfold Value.okWide at hv_
    rw [Try.underlying35] at hv_
    obtain ⟨cs, h_, _⟩ := hv_
    exact ⟨cs, h_⟩
  obtain e5 := PBoundTells.k35_open hk5
  obtain rfl : cs5 = _ := Array.toList_inj.1 e5
  clear hA0 hval0 hsz0 hsz
  refine (PBoundTells.chainmanlaw40_BoundTells.walk Pure.BoundTells a0 a1 a2 a3 a4 y5_.f0 y5_.f1 y5_.f2 y5_.f3 y5_.f4 y5_.f5 y5_.f6 y5_.f7 y5_.f8 W w0 w1 w2 w3 w4 ok5.1 ok5.2.1 ok5.2.2.1 ok5.2.2.2.1 ok5.2.2.2.2.1 ok5.2.2.2.2.2.1 ok5.2.2.2.2.2.2.1 ok5.2.2.2.2.2.2.2.1 ok5.2.2.2.2.2.2.2.2).mono fun e W' ⟨he, bel⟩ => ?_
  subst he
  exact ⟨_, rfl, _, _, _, [], _, [], hW', trodAll_mk1 (shut_bool Try.underlying4 _), (trodAll_cons_mk (shut_int Try.underlying3 w0) (trodAll_cons_mk (shut_int Try.underlying3 w1) (trodAll_cons_mk (shut_int Try.underlying3 w2) (trodAll_cons_mk (shut_int Try.underlying3 w3) (trodAll_cons_mk (shut_int Try.underlying3 w4) (trodAll_cons_mk (Below.trod laidOut (by kernel_rfl) (of_decide_eq_true (by kernel_rfl)) k5 bel lt5) trodAll_mk0)))))), rfl, bel.frame _, fun h => by cases h⟩
theorem over : Rows.boundTellsRow.holds Try.pinned (OpenSpec.ofChange Rows.boundTellsSpec) :=
  OpenClaim.holds_of_wide 4 Try.f4 rfl rfl rfl rfl rfl rfl rfl ⟨rfl, rfl, rfl, rfl, rfl⟩ rfl rfl rfl rfl rfl (by kernel_rfl) Try.func4 (by kernel_rfl)
    (of_decide_eq_true (by kernel_rfl)) (by unfold Func.isWrapper; first | (rw [if_pos (by decide +kernel)]; kernel_rfl) | (rw [if_neg (by decide +kernel)]; exact ⟨rfl, rfl⟩))
    (fun os started H enc _ => lifted os started H enc)
theorem proved : Rows.BoundTellsSaid := over
#print axioms proved
end Go.Proofs.Ytmacpgkcokpgjaa.boundTells
namespace Go.Proofs.Ytmacpgkcokpgjaa
/-- The row, under a short name, for the claim. -/
theorem boundTells_holds : Rows.BoundTellsSaid := boundTells.proved
end Go.Proofs.Ytmacpgkcokpgjaa
