/- The Go functions that the law reaches, as plain Lean functions, and proofs that the calls of the machine come to them, or the row of the law over them, for every input that the row speaks of; written by a program of this session (wip/tool/mkprint.py) out of the translation and of hand-made templates. -/
import Derived.Test.YtjjjafhchombcaaRows
import Derived.Test.YtjjjafhchombcaaPModelExactx17
import Derived.Test.YtjjjafhchombcaaPureModelExact
import Derived.WalkKit
import Derived.ProofKit
import Derived.OpenShut
import Derived.ShutString
import Derived.ChangeOld
import Derived.Below
import Derived.SizedLaws
import Derived.Test.YtjjjafhchombcaaHTModelExact
namespace Go.Proofs.Ytjjjafhchombcaa.modelExact
open Go.ChangeShapes Go.WideShapes Go.ChangeAt Go.RowKit
open Go.ChangeMaps (open_string shut_string)
set_option linter.unusedVariables false
theorem laidOut : laidOutB Try.prog = true := by kernel_rfl
theorem own : ownKnob Try.prog.godebug = none := by kernel_rfl
set_option maxRecDepth 100000 in
theorem lifted (os : Os) (started : os.Started) (H : Type) (enc : TypeId × Value → H) :
    ReturnsInHanded {} Try.checked os 3 .any (Rows.modelExactSpec.pre6 enc Try.prog Try.f3 Rows.modelExactRow.domain false) (Rows.modelExactSpec.post enc Try.prog Try.f3 false true false false) := by
  refine returnsInHanded_of_change_sized (C := Try.checked) own started (by kernel_rfl) Try.func3
    (ChangeSpec.witness6 (enc := enc) (C := Try.checked) false ⟨#[], #[.slice none 0 0, .int .i64 0, .int .i64 0, .slice none 0 0, .slice none 0 0], []⟩ 8 (by kernel_rfl) (by kernel_rfl) (by kernel_rfl) (by kernel_rfl)) ?_
  intro W base args ds gs before hval0 hW hcnd hsz0 _
  have hsz : (DataW.weightsEach Try.prog (Try.f3.params.toList ++ Rows.modelExactSpec.plain.varTypes Try.prog) (ds ++ gs)).all (· ≤ reachBytes) = true := hsz0
  have hval : ∀ (j : Nat) t v, Try.f3.params[j]? = some t → args[j]? = some v → Value.okWide Try.prog W .any base t v := hval0
  have hW' := hW
  obtain ⟨p, q, hA0, hV, rfl, hfz, hnd⟩ := hW
  have hA : DataW.TrodAll enc Try.prog W 0 (fun _ => true) true Try.f3.params.toList args.toList ds p := hA0
  rw [Try.params3] at hA hval hsz
  obtain ⟨v0, vs0, d0, ds0, p0, q0, hargs, rfl, rfl, h0, r0⟩ := trodAll_cons hA
  obtain ⟨v1, vs1, d1, ds1, p1, q1, rfl, rfl, rfl, h1, r1⟩ := trodAll_cons r0
  obtain ⟨v2, vs2, d2, ds2, p2, q2, rfl, rfl, rfl, h2, r2⟩ := trodAll_cons r1
  obtain ⟨v3, vs3, d3, ds3, p3, q3, rfl, rfl, rfl, h3, r3⟩ := trodAll_cons r2
  obtain ⟨v4, vs4, d4, ds4, p4, q4, rfl, rfl, rfl, h4, r4⟩ := trodAll_cons r3
  obtain ⟨rfl, rfl, rfl⟩ := trodAll_nil r4
  obtain rfl : args = #[v0, v1, v2, v3, v4] := by cases args; simp_all
  obtain ⟨rfl, rfl⟩ := trodVars_none hV
  have k0 := h0
  have lt0 : ∀ x ∈ p0, x.block < W.heap.size := by obtain ⟨m, hm⟩ := k0; exact DataW.trod_lt m _ _ _ hm
  obtain ⟨fuel0, hf0⟩ := h0
  obtain ⟨y0_, hk0, ok0⟩ := (show Go.Proofs.YtjjjafhchombcaaH.Opens Try.prog (Go.Proofs.YtjjjafhchombcaaW.PrintWords.Kd.slice 35 (Go.Proofs.YtjjjafhchombcaaW.PrintWords.Kd.slice 3 (Go.Proofs.YtjjjafhchombcaaW.PrintWords.Kd.int .i64))) 22 _ from (Go.Proofs.YtjjjafhchombcaaH.opens_slice Try.underlying22 (by kernel_rfl) (Go.Proofs.YtjjjafhchombcaaH.opens_slice Try.underlying35 (by kernel_rfl) (Go.Proofs.YtjjjafhchombcaaH.opens_int Try.underlying3)))) enc W _ _ fuel0 _ _ hf0
  obtain ⟨a0, len0, cap0, rfl⟩ := okWide_slice Try.underlying22 (hval 0 22 v0 rfl rfl)
  obtain ⟨A0, c0, e0, hc0, hr0⟩ := hk0
  simp [Value.cells] at e0
  obtain ⟨rfl, rfl, rfl⟩ := e0
  obtain ⟨a1, rfl, rfl, rfl, w1⟩ := open_int Try.underlying3 (hval 1 3 v1 rfl rfl) h1
  obtain ⟨a2, rfl, rfl, rfl, w2⟩ := open_int Try.underlying3 (hval 2 3 v2 rfl rfl) h2
  have k3 := h3
  have lt3 : ∀ x ∈ p3, x.block < W.heap.size := by obtain ⟨m, hm⟩ := k3; exact DataW.trod_lt m _ _ _ hm
  obtain ⟨fuel3, hf3⟩ := h3
  obtain ⟨y3_, hk3, ok3⟩ := (show Go.Proofs.YtjjjafhchombcaaH.Opens Try.prog (Go.Proofs.YtjjjafhchombcaaW.PrintWords.Kd.slice 26 (Go.Proofs.YtjjjafhchombcaaW.PrintWords.Kd.slice 74 PModelExact.k74)) 23 _ from (Go.Proofs.YtjjjafhchombcaaH.opens_slice Try.underlying23 (by kernel_rfl) (Go.Proofs.YtjjjafhchombcaaH.opens_slice Try.underlying26 (by kernel_rfl) (Go.Proofs.YtjjjafhchombcaaH.opens_iso (fun y => ⟨⟨y.1, y.2.1, y.2.2⟩, rfl⟩) (Go.Proofs.YtjjjafhchombcaaH.opens_struct Try.underlying74 (by kernel_rfl) (Go.Proofs.YtjjjafhchombcaaH.opens_cons rfl (by kernel_rfl) (Go.Proofs.YtjjjafhchombcaaH.opens_int Try.underlying3) (Go.Proofs.YtjjjafhchombcaaH.opens_cons rfl (by kernel_rfl) (Go.Proofs.YtjjjafhchombcaaH.opens_int Try.underlying3) (Go.Proofs.YtjjjafhchombcaaH.opens_one rfl (by kernel_rfl) (Go.Proofs.YtjjjafhchombcaaH.opens_bool Try.underlying4))))))))) enc W _ _ fuel3 _ _ hf3
  obtain ⟨a3, len3, cap3, rfl⟩ := okWide_slice Try.underlying23 (hval 3 23 v3 rfl rfl)
  obtain ⟨A3, c3, e3, hc3, hr3⟩ := hk3
  simp [Value.cells] at e3
  obtain ⟨rfl, rfl, rfl⟩ := e3
  have k4 := h4
  have lt4 : ∀ x ∈ p4, x.block < W.heap.size := by obtain ⟨m, hm⟩ := k4; exact DataW.trod_lt m _ _ _ hm
  obtain ⟨fuel4, hf4⟩ := h4
  obtain ⟨y4_, hk4, ok4⟩ := (show Go.Proofs.YtjjjafhchombcaaH.Opens Try.prog (Go.Proofs.YtjjjafhchombcaaW.PrintWords.Kd.slice 26 (Go.Proofs.YtjjjafhchombcaaW.PrintWords.Kd.slice 74 PModelExact.k74)) 23 _ from (Go.Proofs.YtjjjafhchombcaaH.opens_slice Try.underlying23 (by kernel_rfl) (Go.Proofs.YtjjjafhchombcaaH.opens_slice Try.underlying26 (by kernel_rfl) (Go.Proofs.YtjjjafhchombcaaH.opens_iso (fun y => ⟨⟨y.1, y.2.1, y.2.2⟩, rfl⟩) (Go.Proofs.YtjjjafhchombcaaH.opens_struct Try.underlying74 (by kernel_rfl) (Go.Proofs.YtjjjafhchombcaaH.opens_cons rfl (by kernel_rfl) (Go.Proofs.YtjjjafhchombcaaH.opens_int Try.underlying3) (Go.Proofs.YtjjjafhchombcaaH.opens_cons rfl (by kernel_rfl) (Go.Proofs.YtjjjafhchombcaaH.opens_int Try.underlying3) (Go.Proofs.YtjjjafhchombcaaH.opens_one rfl (by kernel_rfl) (Go.Proofs.YtjjjafhchombcaaH.opens_bool Try.underlying4))))))))) enc W _ _ fuel4 _ _ hf4
  obtain ⟨a4, len4, cap4, rfl⟩ := okWide_slice Try.underlying23 (hval 4 23 v4 rfl rfl)
  obtain ⟨A4, c4, e4, hc4, hr4⟩ := hk4
  simp [Value.cells] at e4
  obtain ⟨rfl, rfl, rfl⟩ := e4
  clear hA0 hval0 hsz0 hsz
  refine (PModelExact.chainmanlaw33_ModelExact.walk Pure.ModelExact _ _ y0_ a1 a2 _ _ y3_ _ _ y4_ W hr0 hc0 ok0 w1 w2 hr3 hc3 ok3 hr4 hc4 ok4).mono fun e W' ⟨he, bel⟩ => ?_
  subst he
  exact ⟨_, rfl, _, _, _, [], _, [], hW', trodAll_mk1 (shut_bool Try.underlying4 _), (trodAll_cons_mk (Below.trod laidOut (by kernel_rfl) (of_decide_eq_true (by kernel_rfl)) k0 bel lt0) (trodAll_cons_mk (shut_int Try.underlying3 w1) (trodAll_cons_mk (shut_int Try.underlying3 w2) (trodAll_cons_mk (Below.trod laidOut (by kernel_rfl) (of_decide_eq_true (by kernel_rfl)) k3 bel lt3) (trodAll_cons_mk (Below.trod laidOut (by kernel_rfl) (of_decide_eq_true (by kernel_rfl)) k4 bel lt4) trodAll_mk0))))), rfl, bel.frame _, fun h => by cases h⟩
theorem over : Rows.modelExactRow.holds Try.pinned (OpenSpec.ofChange Rows.modelExactSpec) :=
  OpenClaim.holds_of_wide 3 Try.f3 rfl rfl rfl rfl rfl rfl rfl ⟨rfl, rfl, rfl, rfl, rfl⟩ rfl rfl rfl rfl rfl (by kernel_rfl) Try.func3 (by kernel_rfl)
    (of_decide_eq_true (by kernel_rfl)) (by unfold Func.isWrapper; first | (rw [if_pos (by decide +kernel)]; kernel_rfl) | (rw [if_neg (by decide +kernel)]; exact ⟨rfl, rfl⟩))
    (fun os started H enc _ => lifted os started H enc)
theorem proved : Rows.ModelExactSaid := over
#print axioms proved
end Go.Proofs.Ytjjjafhchombcaa.modelExact
namespace Go.Proofs.Ytjjjafhchombcaa
/-- The row, under a short name, for the claim. -/
theorem modelExact_holds : Rows.ModelExactSaid := modelExact.proved
end Go.Proofs.Ytjjjafhchombcaa
