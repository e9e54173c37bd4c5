/- The Go functions that the law reaches, as plain Lean functions, and proofs that the calls of the machine come to them, or the row of the law over them, for every input that the row speaks of; written by a program of this session (wip/tool/mkprint.py) out of the translation and of hand-made templates. -/
import Derived.Test.YtmacpgkcokpgjaaRows
import Derived.Test.YtmacpgkcokpgjaaPManifestTellsx15
import Derived.Test.YtmacpgkcokpgjaaPureManifestTells
import Derived.WalkKit
import Derived.ProofKit
import Derived.OpenShut
import Derived.ShutString
import Derived.ChangeOld
import Derived.Below
import Derived.SizedLaws
import Derived.Test.YtmacpgkcokpgjaaHTManifestTells
namespace Go.Proofs.Ytmacpgkcokpgjaa.manifestTells
open Go.ChangeShapes Go.WideShapes Go.ChangeAt Go.RowKit
open Go.ChangeMaps (open_string shut_string)
set_option linter.unusedVariables false
theorem laidOut : laidOutB Try.prog = true := by kernel_rfl
theorem own : ownKnob Try.prog.godebug = none := by kernel_rfl
set_option maxRecDepth 100000 in
theorem lifted (os : Os) (started : os.Started) (H : Type) (enc : TypeId × Value → H) :
    ReturnsInHanded {} Try.checked os 11 .any (Rows.manifestTellsSpec.pre6 enc Try.prog Try.f11 Rows.manifestTellsRow.domain false) (Rows.manifestTellsSpec.post enc Try.prog Try.f11 false true false false) := by
  refine returnsInHanded_of_change_sized (C := Try.checked) own started (by kernel_rfl) Try.func11
    (ChangeSpec.witness6 (enc := enc) (C := Try.checked) false ⟨#[], #[.agg #[.int .i64 0, .int .i64 0, .slice none 0 0], .agg #[.int .i64 0, .int .i64 0, .slice none 0 0], .string ByteArray.empty, .agg #[.string ByteArray.empty, .int .i64 0, .int .i64 0, .int .u32 0]], []⟩ 8 (by kernel_rfl) (by kernel_rfl) (by kernel_rfl) (by kernel_rfl)) ?_
  intro W base args ds gs before hval0 hW hcnd hsz0 _
  have hsz : (DataW.weightsEach Try.prog (Try.f11.params.toList ++ Rows.manifestTellsSpec.plain.varTypes Try.prog) (ds ++ gs)).all (· ≤ reachBytes) = true := hsz0
  have hval : ∀ (j : Nat) t v, Try.f11.params[j]? = some t → args[j]? = some v → Value.okWide Try.prog W .any base t v := hval0
  have hW' := hW
  obtain ⟨p, q, hA0, hV, rfl, hfz, hnd⟩ := hW
  have hA : DataW.TrodAll enc Try.prog W 0 (fun _ => true) true Try.f11.params.toList args.toList ds p := hA0
  rw [Try.params11] at hA hval hsz
  obtain ⟨v0, vs0, d0, ds0, p0, q0, hargs, rfl, rfl, h0, r0⟩ := trodAll_cons hA
  obtain ⟨v1, vs1, d1, ds1, p1, q1, rfl, rfl, rfl, h1, r1⟩ := trodAll_cons r0
  obtain ⟨v2, vs2, d2, ds2, p2, q2, rfl, rfl, rfl, h2, r2⟩ := trodAll_cons r1
  obtain ⟨v3, vs3, d3, ds3, p3, q3, rfl, rfl, rfl, h3, r3⟩ := trodAll_cons r2
  obtain ⟨rfl, rfl, rfl⟩ := trodAll_nil r3
  obtain rfl : args = #[v0, v1, v2, v3] := by cases args; simp_all
  obtain ⟨rfl, rfl⟩ := trodVars_none hV
  have k0 := h0
  have lt0 : ∀ x ∈ p0, x.block < W.heap.size := by obtain ⟨m, hm⟩ := k0; exact DataW.trod_lt m _ _ _ hm
  obtain ⟨fuel0, hf0⟩ := h0
  obtain ⟨y0_, hk0, ok0⟩ := (show Go.Proofs.YtmacpgkcokpgjaaH.Opens Try.prog PManifestTells.k80 80 _ from (Go.Proofs.YtmacpgkcokpgjaaH.opens_iso (fun y => ⟨⟨y.1, y.2.1, y.2.2⟩, rfl⟩) (Go.Proofs.YtmacpgkcokpgjaaH.opens_struct Try.underlying80 (by kernel_rfl) (Go.Proofs.YtmacpgkcokpgjaaH.opens_cons rfl (by kernel_rfl) (Go.Proofs.YtmacpgkcokpgjaaH.opens_int Try.underlying3) (Go.Proofs.YtmacpgkcokpgjaaH.opens_cons rfl (by kernel_rfl) (Go.Proofs.YtmacpgkcokpgjaaH.opens_int Try.underlying3) (Go.Proofs.YtmacpgkcokpgjaaH.opens_one rfl (by kernel_rfl) (Go.Proofs.YtmacpgkcokpgjaaH.opens_slice Try.underlying78 (by kernel_rfl) (Go.Proofs.YtmacpgkcokpgjaaH.opens_iso (fun y => ⟨⟨y.1, y.2.1, y.2.2.1, y.2.2.2⟩, rfl⟩) (Go.Proofs.YtmacpgkcokpgjaaH.opens_struct Try.underlying82 (by kernel_rfl) (Go.Proofs.YtmacpgkcokpgjaaH.opens_cons rfl (by kernel_rfl) (Go.Proofs.YtmacpgkcokpgjaaH.opens_string Try.underlying9) (Go.Proofs.YtmacpgkcokpgjaaH.opens_cons rfl (by kernel_rfl) (Go.Proofs.YtmacpgkcokpgjaaH.opens_int Try.underlying3) (Go.Proofs.YtmacpgkcokpgjaaH.opens_cons rfl (by kernel_rfl) (Go.Proofs.YtmacpgkcokpgjaaH.opens_int Try.underlying3) (Go.Proofs.YtmacpgkcokpgjaaH.opens_one rfl (by kernel_rfl) (Go.Proofs.YtmacpgkcokpgjaaH.opens_int Try.underlying44)))))))))))))) enc W _ _ fuel0 _ _ hf0
  obtain ⟨cs0, rfl⟩ : ∃ cs, v0 = .agg cs := by
    have hv_ := (hval 0 80 v0 rfl rfl)
    unfold Value.okWide at hv_
    rw [Try.underlying80] at hv_
    obtain ⟨cs, h_, _⟩ := hv_
    exact ⟨cs, h_⟩
  obtain ⟨A0_2, c0_2, e0, hc0_2, hr0_2⟩ := PManifestTells.k80_open hk0
  obtain rfl : cs0 = _ := Array.toList_inj.1 e0
  have k1 := h1
  have lt1 : ∀ x ∈ p1, x.block < W.heap.size := by obtain ⟨m, hm⟩ := k1; exact DataW.trod_lt m _ _ _ hm
  obtain ⟨fuel1, hf1⟩ := h1
  obtain ⟨y1_, hk1, ok1⟩ := (show Go.Proofs.YtmacpgkcokpgjaaH.Opens Try.prog PManifestTells.k80 80 _ from (Go.Proofs.YtmacpgkcokpgjaaH.opens_iso (fun y => ⟨⟨y.1, y.2.1, y.2.2⟩, rfl⟩) (Go.Proofs.YtmacpgkcokpgjaaH.opens_struct Try.underlying80 (by kernel_rfl) (Go.Proofs.YtmacpgkcokpgjaaH.opens_cons rfl (by kernel_rfl) (Go.Proofs.YtmacpgkcokpgjaaH.opens_int Try.underlying3) (Go.Proofs.YtmacpgkcokpgjaaH.opens_cons rfl (by kernel_rfl) (Go.Proofs.YtmacpgkcokpgjaaH.opens_int Try.underlying3) (Go.Proofs.YtmacpgkcokpgjaaH.opens_one rfl (by kernel_rfl) (Go.Proofs.YtmacpgkcokpgjaaH.opens_slice Try.underlying78 (by kernel_rfl) (Go.Proofs.YtmacpgkcokpgjaaH.opens_iso (fun y => ⟨⟨y.1, y.2.1, y.2.2.1, y.2.2.2⟩, rfl⟩) (Go.Proofs.YtmacpgkcokpgjaaH.opens_struct Try.underlying82 (by kernel_rfl) (Go.Proofs.YtmacpgkcokpgjaaH.opens_cons rfl (by kernel_rfl) (Go.Proofs.YtmacpgkcokpgjaaH.opens_string Try.underlying9) (Go.Proofs.YtmacpgkcokpgjaaH.opens_cons rfl (by kernel_rfl) (Go.Proofs.YtmacpgkcokpgjaaH.opens_int Try.underlying3) (Go.Proofs.YtmacpgkcokpgjaaH.opens_cons rfl (by kernel_rfl) (Go.Proofs.YtmacpgkcokpgjaaH.opens_int Try.underlying3) (Go.Proofs.YtmacpgkcokpgjaaH.opens_one rfl (by kernel_rfl) (Go.Proofs.YtmacpgkcokpgjaaH.opens_int Try.underlying44)))))))))))))) enc W _ _ fuel1 _ _ hf1
  obtain ⟨cs1, rfl⟩ : ∃ cs, v1 = .agg cs := by
    have hv_ := (hval 1 80 v1 rfl rfl)
    unfold Value.okWide at hv_
    rw [Try.underlying80] at hv_
    obtain ⟨cs, h_, _⟩ := hv_
    exact ⟨cs, h_⟩
  obtain ⟨A1_2, c1_2, e1, hc1_2, hr1_2⟩ := PManifestTells.k80_open hk1
  obtain rfl : cs1 = _ := Array.toList_inj.1 e1
  obtain ⟨a2, rfl, rfl, rfl, y2⟩ := open_string Try.underlying9 (hval 2 9 v2 rfl rfl) h2
  have w2 : a2.size ≤ 140737488351232 := by
    have z := sized_string hsz (j := 2) (t := 9) rfl rfl
    rw [Array.length_toList] at z
    exact z
  have k3 := h3
  have lt3 : ∀ x ∈ p3, x.block < W.heap.size := by obtain ⟨m, hm⟩ := k3; exact DataW.trod_lt m _ _ _ hm
  obtain ⟨fuel3, hf3⟩ := h3
  obtain ⟨y3_, hk3, ok3⟩ := (show Go.Proofs.YtmacpgkcokpgjaaH.Opens Try.prog PManifestTells.k82 82 _ from (Go.Proofs.YtmacpgkcokpgjaaH.opens_iso (fun y => ⟨⟨y.1, y.2.1, y.2.2.1, y.2.2.2⟩, rfl⟩) (Go.Proofs.YtmacpgkcokpgjaaH.opens_struct Try.underlying82 (by kernel_rfl) (Go.Proofs.YtmacpgkcokpgjaaH.opens_cons rfl (by kernel_rfl) (Go.Proofs.YtmacpgkcokpgjaaH.opens_string Try.underlying9) (Go.Proofs.YtmacpgkcokpgjaaH.opens_cons rfl (by kernel_rfl) (Go.Proofs.YtmacpgkcokpgjaaH.opens_int Try.underlying3) (Go.Proofs.YtmacpgkcokpgjaaH.opens_cons rfl (by kernel_rfl) (Go.Proofs.YtmacpgkcokpgjaaH.opens_int Try.underlying3) (Go.Proofs.YtmacpgkcokpgjaaH.opens_one rfl (by kernel_rfl) (Go.Proofs.YtmacpgkcokpgjaaH.opens_int Try.underlying44)))))))) enc W _ _ fuel3 _ _ hf3
  obtain ⟨cs3, rfl⟩ : ∃ cs, v3 = .agg cs := by
    have hv_ := (hval 3 82 v3 rfl rfl)
    unfold Value.okWide at hv_
    rw [Try.underlying82] at hv_
    obtain ⟨cs, h_, _⟩ := hv_
    exact ⟨cs, h_⟩
  obtain e3 := PManifestTells.k82_open hk3
  obtain rfl : cs3 = _ := Array.toList_inj.1 e3
  clear hA0 hval0 hsz0 hsz
  refine (PManifestTells.chainmanlaw19_ManifestTells.walk Pure.ManifestTells y0_.f0 y0_.f1 _ _ y0_.f2 y1_.f0 y1_.f1 _ _ y1_.f2 a2 y3_.f0 y3_.f1 y3_.f2 y3_.f3 W hr0_2 hc0_2 ok0.1 ok0.2.1 ok0.2.2 hr1_2 hc1_2 ok1.1 ok1.2.1 ok1.2.2 w2 ok3.1 ok3.2.1 ok3.2.2.1 ok3.2.2.2).mono fun e W' ⟨he, bel⟩ => ?_
  subst he
  exact ⟨_, rfl, _, _, _, [], _, [], hW', trodAll_mk1 (shut_bool Try.underlying4 _), (trodAll_cons_mk (Below.trod laidOut (by kernel_rfl) (of_decide_eq_true (by kernel_rfl)) k0 bel lt0) (trodAll_cons_mk (Below.trod laidOut (by kernel_rfl) (of_decide_eq_true (by kernel_rfl)) k1 bel lt1) (trodAll_cons_mk (shut_string Try.underlying9 y2) (trodAll_cons_mk (Below.trod laidOut (by kernel_rfl) (of_decide_eq_true (by kernel_rfl)) k3 bel lt3) trodAll_mk0)))), rfl, bel.frame _, fun h => by cases h⟩
theorem over : Rows.manifestTellsRow.holds Try.pinned (OpenSpec.ofChange Rows.manifestTellsSpec) :=
  OpenClaim.holds_of_wide 11 Try.f11 rfl rfl rfl rfl rfl rfl rfl ⟨rfl, rfl, rfl, rfl, rfl⟩ rfl rfl rfl rfl rfl (by kernel_rfl) Try.func11 (by kernel_rfl)
    (of_decide_eq_true (by kernel_rfl)) (by unfold Func.isWrapper; first | (rw [if_pos (by decide +kernel)]; kernel_rfl) | (rw [if_neg (by decide +kernel)]; exact ⟨rfl, rfl⟩))
    (fun os started H enc _ => lifted os started H enc)
theorem proved : Rows.ManifestTellsSaid := over
#print axioms proved
end Go.Proofs.Ytmacpgkcokpgjaa.manifestTells
namespace Go.Proofs.Ytmacpgkcokpgjaa
/-- The row, under a short name, for the claim. -/
theorem manifestTells_holds : Rows.ManifestTellsSaid := manifestTells.proved
end Go.Proofs.Ytmacpgkcokpgjaa
