/- The Go functions that the law reaches, and walks to them; printed by wip/tool/mkprint.py. -/
import Derived.Test.YtjjjafhchombcaaPDenseTellsx0
import Derived.Test.YtjjjafhchombcaaPDenseTellsx9
import Derived.Test.YtjjjafhchombcaaPDenseTellsx10
namespace Go.Proofs.Ytjjjafhchombcaa.PDenseTells
open Go.RowKit Go.Proofs.YtjjjafhchombcaaW.PrintWords Go.Proofs.YtjjjafhchombcaaW.PrintLast Go.Proofs.YtjjjafhchombcaaW.PrintMore
attribute [local go_sem] max2_int min2_int max_two min_two max_three min_three max_four min_four   -- for this text's walks alone
set_option linter.unusedVariables false
set_option linter.unusedSimpArgs false

/-! ### chainmanref48_Groups: function 24 -/
mutual
def chainmanref48_Groups.l0 : Nat → List (S47) → Int → List Bool → List (S47) → Int → Option (List Int × Int)
 | 0, _, _, _, _, _ => none
 | k + 1, x0, x1, x8, x9, x10 => if x10 < (x0.length : Int) then (if 0 ≤ x10 then (if 0 ≤ ((rd_T47 x0 x10).f0) then (if ((rd_T47 x0 x10).f0) < (x8.length : Int) then (if rdOf false x8 ((rd_T47 x0 x10).f0) = true then (if 0 ≤ ((rd_T47 x0 x10).f1) then (if ((rd_T47 x0 x10).f1) < (x8.length : Int) then (if rdOf false x8 ((rd_T47 x0 x10).f1) = true then (if x9.length < 8796093022208 then (chainmanref48_Groups.l0 k x0 x1 x8 (x9 ++ [(⟨(rd_T47 x0 x10).f0, (rd_T47 x0 x10).f1⟩ : S47)]) (wrap64 (x10 + 1))) else (none)) else (chainmanref48_Groups.l0 k x0 x1 x8 x9 (wrap64 (x10 + 1)))) else (none)) else (none)) else (chainmanref48_Groups.l0 k x0 x1 x8 x9 (wrap64 (x10 + 1)))) else (none)) else (none)) else (none)) else ((chainmanref37_Groups.f k x9 x1).bind fun bt287 => (chainmanref48_Groups.l1 k x0 x1 x8 bt287.1 ([] : List Int) 0))
def chainmanref48_Groups.l1 : Nat → List (S47) → Int → List Bool → List Int → List Int → Int → Option (List Int × Int)
 | 0, _, _, _, _, _, _ => none
 | k + 1, x0, x1, x8, x11, x13, x14 => if x14 < x1 then (if 0 ≤ x14 then (if x14 < (x8.length : Int) then (if rdOf false x8 x14 = true then (if x14 < (x11.length : Int) then (chainmanref48_Groups.j2 k x0 x1 x8 x11 x13 x14 (rd x11 x14)) else (none)) else (chainmanref48_Groups.j2 k x0 x1 x8 x11 x13 x14 (-1))) else (none)) else (none)) else (chainmanref48_Groups.l3 k x1 x13 0 0)
def chainmanref48_Groups.j2 : Nat → List (S47) → Int → List Bool → List Int → List Int → Int → Int → Option (List Int × Int)
 | 0, _, _, _, _, _, _, _ => none
 | k + 1, x0, x1, x8, x11, x13, x14, x15 => chainmanref48_Groups.l2 k x0 x1 x8 x11 x13 x14 x15 0
def chainmanref48_Groups.l2 : Nat → List (S47) → Int → List Bool → List Int → List Int → Int → Int → Int → Option (List Int × Int)
 | 0, _, _, _, _, _, _, _, _ => none
 | k + 1, x0, x1, x8, x11, x13, x14, x15, x16 => if x16 < (x0.length : Int) then (if 0 ≤ x14 then (if x14 < (x8.length : Int) then (chainmanref48_Groups.j4 k x0 x1 x8 x11 x13 x14 x15 x16 (!(rdOf false x8 x14))) else (none)) else (none)) else (chainmanref48_Groups.j4 k x0 x1 x8 x11 x13 x14 x15 x16 false)
def chainmanref48_Groups.j4 : Nat → List (S47) → Int → List Bool → List Int → List Int → Int → Int → Int → Bool → Option (List Int × Int)
 | 0, _, _, _, _, _, _, _, _, _ => none
 | k + 1, x0, x1, x8, x11, x13, x14, x15, x16, x89 => if x89 = true then (if 0 ≤ x16 then (if x16 < (x0.length : Int) then (if ((rd_T47 x0 x16).f0) = x14 then (chainmanref48_Groups.j5 k x0 x1 x8 x11 x13 x14 x15 x16 ((rd_T47 x0 x16).f1)) else (chainmanref48_Groups.j5 k x0 x1 x8 x11 x13 x14 x15 x16 (-1))) else (none)) else (none)) else (if x13.length < 17592186044416 then (chainmanref48_Groups.l1 k x0 x1 x8 x11 (x13 ++ [x15]) (wrap64 (x14 + 1))) else (none))
def chainmanref48_Groups.j5 : Nat → List (S47) → Int → List Bool → List Int → List Int → Int → Int → Int → Int → Option (List Int × Int)
 | 0, _, _, _, _, _, _, _, _, _ => none
 | k + 1, x0, x1, x8, x11, x13, x14, x15, x16, x17 => if 0 ≤ x16 then (if x16 < (x0.length : Int) then (if ((rd_T47 x0 x16).f1) = x14 then (if ((rd_T47 x0 x16).f0) ≥ 0 then (if 0 ≤ ((rd_T47 x0 x16).f0) then (if ((rd_T47 x0 x16).f0) < (x8.length : Int) then (if rdOf false x8 ((rd_T47 x0 x16).f0) = true then (if x15 < 0 then (if ((rd_T47 x0 x16).f0) < (x11.length : Int) then (chainmanref48_Groups.l2 k x0 x1 x8 x11 x13 x14 (rd x11 ((rd_T47 x0 x16).f0)) (wrap64 (x16 + 1))) else (none)) else (if ((rd_T47 x0 x16).f0) < (x11.length : Int) then (if (rd x11 ((rd_T47 x0 x16).f0)) < x15 then (chainmanref48_Groups.l2 k x0 x1 x8 x11 x13 x14 (rd x11 ((rd_T47 x0 x16).f0)) (wrap64 (x16 + 1))) else (chainmanref48_Groups.l2 k x0 x1 x8 x11 x13 x14 x15 (wrap64 (x16 + 1)))) else (none))) else (chainmanref48_Groups.l2 k x0 x1 x8 x11 x13 x14 x15 (wrap64 (x16 + 1)))) else (none)) else (none)) else (chainmanref48_Groups.l2 k x0 x1 x8 x11 x13 x14 x15 (wrap64 (x16 + 1)))) else (if x17 ≥ 0 then (if 0 ≤ x17 then (if x17 < (x8.length : Int) then (if rdOf false x8 x17 = true then (if x15 < 0 then (if x17 < (x11.length : Int) then (chainmanref48_Groups.l2 k x0 x1 x8 x11 x13 x14 (rd x11 x17) (wrap64 (x16 + 1))) else (none)) else (if x17 < (x11.length : Int) then (if (rd x11 x17) < x15 then (chainmanref48_Groups.l2 k x0 x1 x8 x11 x13 x14 (rd x11 x17) (wrap64 (x16 + 1))) else (chainmanref48_Groups.l2 k x0 x1 x8 x11 x13 x14 x15 (wrap64 (x16 + 1)))) else (none))) else (chainmanref48_Groups.l2 k x0 x1 x8 x11 x13 x14 x15 (wrap64 (x16 + 1)))) else (none)) else (none)) else (chainmanref48_Groups.l2 k x0 x1 x8 x11 x13 x14 x15 (wrap64 (x16 + 1))))) else (none)) else (none)
def chainmanref48_Groups.l3 : Nat → Int → List Int → Int → Int → Option (List Int × Int)
 | 0, _, _, _, _ => none
 | k + 1, x1, x13, x18, x19 => if x19 < x1 then (if 0 ≤ x19 then (if x19 < (x13.length : Int) then (if (rd x13 x19) = x19 then (chainmanref48_Groups.l3 k x1 x13 (wrap64 (x18 + 1)) (wrap64 (x19 + 1))) else (chainmanref48_Groups.l3 k x1 x13 x18 (wrap64 (x19 + 1)))) else (none)) else (none)) else (some (x13, x18))
end
def chainmanref48_Groups.f (k : Nat) (l0 : List (S47)) (a1 : Int) (a2 : Int) : Option (List Int × Int) := (chainmanref48_may.f k l0 a1 a2).bind fun t275 => (if t275 = true then ((chainmanref48_Cores.f k l0 a1 a2).bind fun t276 => (chainmanref48_Groups.l0 k l0 a1 t276 ([] : List (S47)) 0)) else (some (([] : List Int), 0)))
theorem chainmanref48_Groups.mono_l : ∀ k, (∀ y0 y1 y2 y3 y4, LeO (chainmanref48_Groups.l0 k y0 y1 y2 y3 y4) (chainmanref48_Groups.l0 (k + 1) y0 y1 y2 y3 y4)) ∧ (∀ y0 y1 y2 y3 y4 y5, LeO (chainmanref48_Groups.l1 k y0 y1 y2 y3 y4 y5) (chainmanref48_Groups.l1 (k + 1) y0 y1 y2 y3 y4 y5)) ∧ (∀ y0 y1 y2 y3 y4 y5 y6, LeO (chainmanref48_Groups.j2 k y0 y1 y2 y3 y4 y5 y6) (chainmanref48_Groups.j2 (k + 1) y0 y1 y2 y3 y4 y5 y6)) ∧ (∀ y0 y1 y2 y3 y4 y5 y6 y7, LeO (chainmanref48_Groups.l2 k y0 y1 y2 y3 y4 y5 y6 y7) (chainmanref48_Groups.l2 (k + 1) y0 y1 y2 y3 y4 y5 y6 y7)) ∧ (∀ y0 y1 y2 y3 y4 y5 y6 y7 y8, LeO (chainmanref48_Groups.j4 k y0 y1 y2 y3 y4 y5 y6 y7 y8) (chainmanref48_Groups.j4 (k + 1) y0 y1 y2 y3 y4 y5 y6 y7 y8)) ∧ (∀ y0 y1 y2 y3 y4 y5 y6 y7 y8, LeO (chainmanref48_Groups.j5 k y0 y1 y2 y3 y4 y5 y6 y7 y8) (chainmanref48_Groups.j5 (k + 1) y0 y1 y2 y3 y4 y5 y6 y7 y8)) ∧ (∀ y0 y1 y2 y3, LeO (chainmanref48_Groups.l3 k y0 y1 y2 y3) (chainmanref48_Groups.l3 (k + 1) y0 y1 y2 y3))
 | 0 => ⟨fun _ _ _ _ _ r h => by simp [chainmanref48_Groups.l0] at h, fun _ _ _ _ _ _ r h => by simp [chainmanref48_Groups.l1] at h, fun _ _ _ _ _ _ _ r h => by simp [chainmanref48_Groups.j2] at h, fun _ _ _ _ _ _ _ _ r h => by simp [chainmanref48_Groups.l2] at h, fun _ _ _ _ _ _ _ _ _ r h => by simp [chainmanref48_Groups.j4] at h, fun _ _ _ _ _ _ _ _ _ r h => by simp [chainmanref48_Groups.j5] at h, fun _ _ _ _ r h => by simp [chainmanref48_Groups.l3] at h⟩
 | k + 1 => by
  obtain ⟨ih0, ih1, ih2, ih3, ih4, ih5, ih6⟩ := chainmanref48_Groups.mono_l k
  refine ⟨?_, ?_, ?_, ?_, ?_, ?_, ?_⟩
  ·intro y0 y1 y2 y3 y4
   unfold chainmanref48_Groups.l0
   repeat' first
   | (with_reducible exact ih0 _ _ _ _ _)
   | (with_reducible exact ih1 _ _ _ _ _ _)
   | (with_reducible exact ih2 _ _ _ _ _ _ _)
   | (with_reducible exact ih3 _ _ _ _ _ _ _ _)
   | (with_reducible exact ih4 _ _ _ _ _ _ _ _ _)
   | (with_reducible exact ih5 _ _ _ _ _ _ _ _ _)
   | (with_reducible exact ih6 _ _ _ _)
   | (with_reducible exact chainmanref37_Groups.mono _ _ _)
   | (with_reducible exact chainmanref48_Cores.mono _ _ _ _)
   | (with_reducible exact chainmanref48_may.mono _ _ _ _)
   | (with_reducible exact LeO.refl _)
   | (with_reducible exact LeO.none _)
   | (with_reducible refine LeO.ite ?_ ?_)
   | (with_reducible refine LeO.bind ?_ (fun _ => ?_))
   | exact ih0 _ _ _ _ _
   | exact ih1 _ _ _ _ _ _
   | exact ih2 _ _ _ _ _ _ _
   | exact ih3 _ _ _ _ _ _ _ _
   | exact ih4 _ _ _ _ _ _ _ _ _
   | exact ih5 _ _ _ _ _ _ _ _ _
   | exact ih6 _ _ _ _
   | exact chainmanref37_Groups.mono _ _ _
   | exact chainmanref48_Cores.mono _ _ _ _
   | exact chainmanref48_may.mono _ _ _ _
   | exact LeO.none _
   | refine LeO.ite ?_ ?_
   | refine LeO.bind ?_ (fun _ => ?_)
  ·intro y0 y1 y2 y3 y4 y5
   unfold chainmanref48_Groups.l1
   repeat' first
   | (with_reducible exact ih0 _ _ _ _ _)
   | (with_reducible exact ih1 _ _ _ _ _ _)
   | (with_reducible exact ih2 _ _ _ _ _ _ _)
   | (with_reducible exact ih3 _ _ _ _ _ _ _ _)
   | (with_reducible exact ih4 _ _ _ _ _ _ _ _ _)
   | (with_reducible exact ih5 _ _ _ _ _ _ _ _ _)
   | (with_reducible exact ih6 _ _ _ _)
   | (with_reducible exact chainmanref37_Groups.mono _ _ _)
   | (with_reducible exact chainmanref48_Cores.mono _ _ _ _)
   | (with_reducible exact chainmanref48_may.mono _ _ _ _)
   | (with_reducible exact LeO.refl _)
   | (with_reducible exact LeO.none _)
   | (with_reducible refine LeO.ite ?_ ?_)
   | (with_reducible refine LeO.bind ?_ (fun _ => ?_))
   | exact ih0 _ _ _ _ _
   | exact ih1 _ _ _ _ _ _
   | exact ih2 _ _ _ _ _ _ _
   | exact ih3 _ _ _ _ _ _ _ _
   | exact ih4 _ _ _ _ _ _ _ _ _
   | exact ih5 _ _ _ _ _ _ _ _ _
   | exact ih6 _ _ _ _
   | exact chainmanref37_Groups.mono _ _ _
   | exact chainmanref48_Cores.mono _ _ _ _
   | exact chainmanref48_may.mono _ _ _ _
   | exact LeO.none _
   | refine LeO.ite ?_ ?_
   | refine LeO.bind ?_ (fun _ => ?_)
  ·intro y0 y1 y2 y3 y4 y5 y6
   unfold chainmanref48_Groups.j2
   repeat' first
   | (with_reducible exact ih0 _ _ _ _ _)
   | (with_reducible exact ih1 _ _ _ _ _ _)
   | (with_reducible exact ih2 _ _ _ _ _ _ _)
   | (with_reducible exact ih3 _ _ _ _ _ _ _ _)
   | (with_reducible exact ih4 _ _ _ _ _ _ _ _ _)
   | (with_reducible exact ih5 _ _ _ _ _ _ _ _ _)
   | (with_reducible exact ih6 _ _ _ _)
   | (with_reducible exact chainmanref37_Groups.mono _ _ _)
   | (with_reducible exact chainmanref48_Cores.mono _ _ _ _)
   | (with_reducible exact chainmanref48_may.mono _ _ _ _)
   | (with_reducible exact LeO.refl _)
   | (with_reducible exact LeO.none _)
   | (with_reducible refine LeO.ite ?_ ?_)
   | (with_reducible refine LeO.bind ?_ (fun _ => ?_))
   | exact ih0 _ _ _ _ _
   | exact ih1 _ _ _ _ _ _
   | exact ih2 _ _ _ _ _ _ _
   | exact ih3 _ _ _ _ _ _ _ _
   | exact ih4 _ _ _ _ _ _ _ _ _
   | exact ih5 _ _ _ _ _ _ _ _ _
   | exact ih6 _ _ _ _
   | exact chainmanref37_Groups.mono _ _ _
   | exact chainmanref48_Cores.mono _ _ _ _
   | exact chainmanref48_may.mono _ _ _ _
   | exact LeO.none _
   | refine LeO.ite ?_ ?_
   | refine LeO.bind ?_ (fun _ => ?_)
  ·intro y0 y1 y2 y3 y4 y5 y6 y7
   unfold chainmanref48_Groups.l2
   repeat' first
   | (with_reducible exact ih0 _ _ _ _ _)
   | (with_reducible exact ih1 _ _ _ _ _ _)
   | (with_reducible exact ih2 _ _ _ _ _ _ _)
   | (with_reducible exact ih3 _ _ _ _ _ _ _ _)
   | (with_reducible exact ih4 _ _ _ _ _ _ _ _ _)
   | (with_reducible exact ih5 _ _ _ _ _ _ _ _ _)
   | (with_reducible exact ih6 _ _ _ _)
   | (with_reducible exact chainmanref37_Groups.mono _ _ _)
   | (with_reducible exact chainmanref48_Cores.mono _ _ _ _)
   | (with_reducible exact chainmanref48_may.mono _ _ _ _)
   | (with_reducible exact LeO.refl _)
   | (with_reducible exact LeO.none _)
   | (with_reducible refine LeO.ite ?_ ?_)
   | (with_reducible refine LeO.bind ?_ (fun _ => ?_))
   | exact ih0 _ _ _ _ _
   | exact ih1 _ _ _ _ _ _
   | exact ih2 _ _ _ _ _ _ _
   | exact ih3 _ _ _ _ _ _ _ _
   | exact ih4 _ _ _ _ _ _ _ _ _
   | exact ih5 _ _ _ _ _ _ _ _ _
   | exact ih6 _ _ _ _
   | exact chainmanref37_Groups.mono _ _ _
   | exact chainmanref48_Cores.mono _ _ _ _
   | exact chainmanref48_may.mono _ _ _ _
   | exact LeO.none _
   | refine LeO.ite ?_ ?_
   | refine LeO.bind ?_ (fun _ => ?_)
  ·intro y0 y1 y2 y3 y4 y5 y6 y7 y8
   unfold chainmanref48_Groups.j4
   repeat' first
   | (with_reducible exact ih0 _ _ _ _ _)
   | (with_reducible exact ih1 _ _ _ _ _ _)
   | (with_reducible exact ih2 _ _ _ _ _ _ _)
   | (with_reducible exact ih3 _ _ _ _ _ _ _ _)
   | (with_reducible exact ih4 _ _ _ _ _ _ _ _ _)
   | (with_reducible exact ih5 _ _ _ _ _ _ _ _ _)
   | (with_reducible exact ih6 _ _ _ _)
   | (with_reducible exact chainmanref37_Groups.mono _ _ _)
   | (with_reducible exact chainmanref48_Cores.mono _ _ _ _)
   | (with_reducible exact chainmanref48_may.mono _ _ _ _)
   | (with_reducible exact LeO.refl _)
   | (with_reducible exact LeO.none _)
   | (with_reducible refine LeO.ite ?_ ?_)
   | (with_reducible refine LeO.bind ?_ (fun _ => ?_))
   | exact ih0 _ _ _ _ _
   | exact ih1 _ _ _ _ _ _
   | exact ih2 _ _ _ _ _ _ _
   | exact ih3 _ _ _ _ _ _ _ _
   | exact ih4 _ _ _ _ _ _ _ _ _
   | exact ih5 _ _ _ _ _ _ _ _ _
   | exact ih6 _ _ _ _
   | exact chainmanref37_Groups.mono _ _ _
   | exact chainmanref48_Cores.mono _ _ _ _
   | exact chainmanref48_may.mono _ _ _ _
   | exact LeO.none _
   | refine LeO.ite ?_ ?_
   | refine LeO.bind ?_ (fun _ => ?_)
  ·intro y0 y1 y2 y3 y4 y5 y6 y7 y8
   unfold chainmanref48_Groups.j5
   repeat' first
   | (with_reducible exact ih0 _ _ _ _ _)
   | (with_reducible exact ih1 _ _ _ _ _ _)
   | (with_reducible exact ih2 _ _ _ _ _ _ _)
   | (with_reducible exact ih3 _ _ _ _ _ _ _ _)
   | (with_reducible exact ih4 _ _ _ _ _ _ _ _ _)
   | (with_reducible exact ih5 _ _ _ _ _ _ _ _ _)
   | (with_reducible exact ih6 _ _ _ _)
   | (with_reducible exact chainmanref37_Groups.mono _ _ _)
   | (with_reducible exact chainmanref48_Cores.mono _ _ _ _)
   | (with_reducible exact chainmanref48_may.mono _ _ _ _)
   | (with_reducible exact LeO.refl _)
   | (with_reducible exact LeO.none _)
   | (with_reducible refine LeO.ite ?_ ?_)
   | (with_reducible refine LeO.bind ?_ (fun _ => ?_))
   | exact ih0 _ _ _ _ _
   | exact ih1 _ _ _ _ _ _
   | exact ih2 _ _ _ _ _ _ _
   | exact ih3 _ _ _ _ _ _ _ _
   | exact ih4 _ _ _ _ _ _ _ _ _
   | exact ih5 _ _ _ _ _ _ _ _ _
   | exact ih6 _ _ _ _
   | exact chainmanref37_Groups.mono _ _ _
   | exact chainmanref48_Cores.mono _ _ _ _
   | exact chainmanref48_may.mono _ _ _ _
   | exact LeO.none _
   | refine LeO.ite ?_ ?_
   | refine LeO.bind ?_ (fun _ => ?_)
  ·intro y0 y1 y2 y3
   unfold chainmanref48_Groups.l3
   repeat' first
   | (with_reducible exact ih0 _ _ _ _ _)
   | (with_reducible exact ih1 _ _ _ _ _ _)
   | (with_reducible exact ih2 _ _ _ _ _ _ _)
   | (with_reducible exact ih3 _ _ _ _ _ _ _ _)
   | (with_reducible exact ih4 _ _ _ _ _ _ _ _ _)
   | (with_reducible exact ih5 _ _ _ _ _ _ _ _ _)
   | (with_reducible exact ih6 _ _ _ _)
   | (with_reducible exact chainmanref37_Groups.mono _ _ _)
   | (with_reducible exact chainmanref48_Cores.mono _ _ _ _)
   | (with_reducible exact chainmanref48_may.mono _ _ _ _)
   | (with_reducible exact LeO.refl _)
   | (with_reducible exact LeO.none _)
   | (with_reducible refine LeO.ite ?_ ?_)
   | (with_reducible refine LeO.bind ?_ (fun _ => ?_))
   | exact ih0 _ _ _ _ _
   | exact ih1 _ _ _ _ _ _
   | exact ih2 _ _ _ _ _ _ _
   | exact ih3 _ _ _ _ _ _ _ _
   | exact ih4 _ _ _ _ _ _ _ _ _
   | exact ih5 _ _ _ _ _ _ _ _ _
   | exact ih6 _ _ _ _
   | exact chainmanref37_Groups.mono _ _ _
   | exact chainmanref48_Cores.mono _ _ _ _
   | exact chainmanref48_may.mono _ _ _ _
   | exact LeO.none _
   | refine LeO.ite ?_ ?_
   | refine LeO.bind ?_ (fun _ => ?_)
theorem chainmanref48_Groups.mono : ∀ a0 a1 a2 k, LeO (chainmanref48_Groups.f k a0 a1 a2) (chainmanref48_Groups.f (k + 1) a0 a1 a2) := by
 intro a0 a1 a2 k
 obtain ⟨ih0, ih1, ih2, ih3, ih4, ih5, ih6⟩ := chainmanref48_Groups.mono_l k
 unfold chainmanref48_Groups.f
 repeat' first
   | (with_reducible exact ih0 _ _ _ _ _)
   | (with_reducible exact ih1 _ _ _ _ _ _)
   | (with_reducible exact ih2 _ _ _ _ _ _ _)
   | (with_reducible exact ih3 _ _ _ _ _ _ _ _)
   | (with_reducible exact ih4 _ _ _ _ _ _ _ _ _)
   | (with_reducible exact ih5 _ _ _ _ _ _ _ _ _)
   | (with_reducible exact ih6 _ _ _ _)
   | (with_reducible exact chainmanref37_Groups.mono _ _ _)
   | (with_reducible exact chainmanref48_Cores.mono _ _ _ _)
   | (with_reducible exact chainmanref48_may.mono _ _ _ _)
   | (with_reducible exact LeO.refl _)
   | (with_reducible exact LeO.none _)
   | (with_reducible refine LeO.ite ?_ ?_)
   | (with_reducible refine LeO.bind ?_ (fun _ => ?_))
   | exact ih0 _ _ _ _ _
   | exact ih1 _ _ _ _ _ _
   | exact ih2 _ _ _ _ _ _ _
   | exact ih3 _ _ _ _ _ _ _ _
   | exact ih4 _ _ _ _ _ _ _ _ _
   | exact ih5 _ _ _ _ _ _ _ _ _
   | exact ih6 _ _ _ _
   | exact chainmanref37_Groups.mono _ _ _
   | exact chainmanref48_Cores.mono _ _ _ _
   | exact chainmanref48_may.mono _ _ _ _
   | exact LeO.none _
   | refine LeO.ite ?_ ?_
   | refine LeO.bind ?_ (fun _ => ?_)
set_option maxHeartbeats 8000000 in
set_option maxRecDepth 100000 in
theorem chainmanref48_Groups.calls (k : Nat) (A0 : Option Addr) (c0 : Nat) (l0 : List (S47)) (a1 : Int) (a2 : Int) (r1 : List Int) (r2 : Int) (w : World) (hr0 : Kd.C k47 w A0 l0.length l0) (hc0 : l0.length ≤ c0) (h : chainmanref48_Groups.f k l0 a1 a2 = some (r1, r2)) :
  Calls Try.prog 24 #[.slice A0 l0.length c0, .int .i64 a1, .int .i64 a2] w fun e w' => ∃ v0_ : Value, e = .returned (.tuple #[v0_, .int .i64 r2]) ∧ Kd.R (Kd.int .i64) 3 w' w.heap.size (fun _ => True) v0_ r1 ∧ Below w.heap.size w w' := by
 have hu47 := Try.underlying47
 have HR0 := Aside0.mk hr0
 have HC0 := Aside0.mk hc0
 clear hr0 hc0
 have HB := Aside0.mk (Below.refl w.heap.size w)
 have H : ((chainmanref48_may.f k l0 a1 a2).bind fun t275 => (if t275 = true then ((chainmanref48_Cores.f k l0 a1 a2).bind fun t276 => (chainmanref48_Groups.l0 k l0 a1 t276 ([] : List (S47)) 0)) else (some (([] : List Int), 0)))) = some (r1, r2) := h
 clear h
 replace H := Option.bind_eq_some_iff.mp H
 obtain ⟨t275, A40, H⟩ := H
 replace H : (if t275 = true then ((chainmanref48_Cores.f k l0 a1 a2).bind fun t276 => (chainmanref48_Groups.l0 k l0 a1 t276 ([] : List (S47)) 0)) else (some (([] : List Int), 0))) = some (r1, r2) := H
 have A4 := Aside0.mk A40
 clear A40
 by_cases c5 : t275 = true
 ·subst c5
  have H1 : ((chainmanref48_Cores.f k l0 a1 a2).bind fun t276 => (chainmanref48_Groups.l0 k l0 a1 t276 ([] : List (S47)) 0)) = some (r1, r2) := by rw [if_pos rfl] at H; exact H
  clear H
  have H := H1
  clear H1
  replace H := Option.bind_eq_some_iff.mp H
  obtain ⟨t276, A60, H⟩ := H
  replace H : (chainmanref48_Groups.l0 k l0 a1 t276 ([] : List (S47)) 0) = some (r1, r2) := H
  have A6 := Aside0.mk A60
  clear A60
  have H' := Aside0.mk H
  clear H
  go_enter Try.func24, Try.ntmps24
  go_wp2_with (first | ((with_reducible refine gate_callee (f := 73) rfl ?_); refine goesL_ (some 23) rfl rfl Try.func73 (by kernel_rfl) rfl #[.slice A0 l0.length c0, .int .i64 a1, .int .i64 a2] rfl (by (try simp only [List.map_toArray, List.map_cons, List.map_nil]); first | done | rfl) ?_; (with_reducible refine (chainmanref48_may.calls k _ _ l0 a1 a2 true _ ?side1 ?side2 A4.out).mono ?_); (case side1 => repeat (first | exact HR0.out | (with_reducible refine Kd.C_alloc ?_ _) | (with_reducible refine Kd.C_drewN ?_ _) | (with_reducible refine Kd.C_drew ?_))); (case side2 => exact HC0.out); rintro e w7 ⟨rfl, hb⟩; refine ⟨_, rfl, ?_⟩; have n0_ := Aside0.mk (below_step (by repeat (first | (with_reducible first | exact HB.out | apply below_alloc | apply pw_below_drewN | apply below_drew1) | exact HB.out)) hb); clear HB; have HB := n0_; clear n0_; (try clear hb); (try clear hb2); (try clear hk); (try clear hi)) | ((with_reducible refine gate_callee (f := 30) rfl ?_); refine goesL_ (some 28) rfl rfl Try.func30 (by kernel_rfl) rfl #[.slice A0 l0.length c0, .int .i64 a1, .int .i64 a2] rfl (by (try simp only [List.map_toArray, List.map_cons, List.map_nil]); first | done | rfl) ?_; (with_reducible refine (chainmanref48_Cores.calls k _ _ l0 a1 a2 t276 _ ?side1 ?side2 A6.out).mono ?_); (case side1 => repeat (first | exact (Kd.C_below HR0.out HB.out) | (with_reducible refine Kd.C_alloc ?_ _) | (with_reducible refine Kd.C_drewN ?_ _) | (with_reducible refine Kd.C_drew ?_))); (case side2 => exact HC0.out); rintro e w8 ⟨v277, rfl, ho0, hb⟩; refine ⟨_, rfl, ?_⟩; have n0_ := Aside0.mk (Kd.R_lower ho0 (below_size (by repeat (first | (with_reducible first | exact HB.out | apply below_alloc | apply pw_below_drewN | apply below_drew1) | exact HB.out)))); have n1_ := Aside0.mk (below_step (by repeat (first | (with_reducible first | exact HB.out | apply below_alloc | apply pw_below_drewN | apply below_drew1) | exact HB.out)) hb); clear HB; have HO278 := n0_; have HB := n1_; clear n0_ n1_; (try clear hb); (try clear hb2); (try clear hk); (try clear hi); (try clear ho0)))
  go_loopg [9, 10] k (fun kq v9 v10 w' => ∃ (x9_1 : List (S47)) (x10_1 : Int), v10 = .int .i64 x10_1 ∧ Aside0 (chainmanref48_Groups.l0 kq l0 a1 t276 x9_1 x10_1 = some (r1, r2)) ∧ Aside0 (kq ≤ k) ∧ Aside0 (Kd.R Kd.bool 4 w' w.heap.size (fun _ => True) v277 t276) ∧ Aside0 (Kd.R k47 47 w' w.heap.size (fun _ => True) v9 x9_1) ∧ Aside0 (Below w.heap.size w w'))
  case atStart => exact ⟨(([] : List (S47))), (0), (by first | rfl | (simp; done) | (simp [*]; done)), H', ⟨Nat.le_refl _⟩, ⟨by (with_reducible repeat (first | apply Kd.R_alloc | apply Kd.R_drewN | apply Kd.R_drew)); exact HO278.out⟩, ⟨by first | exact Kd.R_nil _ _ _ _ _ | exact Kd.N_nil _ _ _ _ _ | exact Kd.V_nil _ _ _ _ _ | exact Kd.Q_nil _ _ _ _ _ | exact Kd.S_nil _ _ _ _ _⟩, ⟨by repeat (first | (with_reducible first | exact HB.out | apply below_alloc | apply pw_below_drewN | apply below_drew1) | exact HB.out)⟩⟩
  case round =>
   clear H'
   try clear c2
   try clear p2
   try clear c3
   try clear c5
   try clear c7
   obtain ⟨x9_1, x10_1, rfl, HA, HK1, HO_8, HO_9, HB⟩ := hrel
   cases gk with
   | zero => exact absurd HA.out (by simp [chainmanref48_Groups.l0])
   | succ k1 =>
    have H := HA.out
    clear HA
    simp only [chainmanref48_Groups.l0] at H
    by_cases c9 : x10_1 < (l0.length : Int)
    ·rw [if_pos c9] at H
     have c9b0 : decide (x10_1 < (l0.length : Int)) = true := decide_eq_true c9
     clear c9
     by_cases c10 : 0 ≤ x10_1
     ·rw [if_pos c10] at H
      have c10b0 : decide (0 ≤ x10_1) = true := decide_eq_true c10
      clear c10
      by_cases c11 : 0 ≤ ((rd_T47 l0 x10_1).f0)
      ·rw [if_pos c11] at H
       have c11b0 : decide (0 ≤ ((rd_T47 l0 x10_1).f0)) = true := decide_eq_true c11
       clear c11
       by_cases c12 : ((rd_T47 l0 x10_1).f0) < (t276.length : Int)
       ·rw [if_pos c12] at H
        have c12b0 : decide (((rd_T47 l0 x10_1).f0) < (t276.length : Int)) = true := decide_eq_true c12
        clear c12
        obtain ⟨bq13, hbq13⟩ : ∃ b_ : Bool, b_ = (rdOf false t276 ((rd_T47 l0 x10_1).f0)) := ⟨_, rfl⟩
        replace H : (if bq13 = true then (if 0 ≤ ((rd_T47 l0 x10_1).f1) then (if ((rd_T47 l0 x10_1).f1) < (t276.length : Int) then (if rdOf false t276 ((rd_T47 l0 x10_1).f1) = true then (if x9_1.length < 8796093022208 then (chainmanref48_Groups.l0 k1 l0 a1 t276 (x9_1 ++ [(⟨(rd_T47 l0 x10_1).f0, (rd_T47 l0 x10_1).f1⟩ : S47)]) (wrap64 (x10_1 + 1))) else (none)) else (chainmanref48_Groups.l0 k1 l0 a1 t276 x9_1 (wrap64 (x10_1 + 1)))) else (none)) else (none)) else (chainmanref48_Groups.l0 k1 l0 a1 t276 x9_1 (wrap64 (x10_1 + 1)))) = some (r1, r2) := by rw [← hbq13] at H; exact H
        have Nbq13 := Aside0.mk hbq13
        clear hbq13
        by_cases c14 : bq13 = true
        ·subst c14
         have H1 : (if 0 ≤ ((rd_T47 l0 x10_1).f1) then (if ((rd_T47 l0 x10_1).f1) < (t276.length : Int) then (if rdOf false t276 ((rd_T47 l0 x10_1).f1) = true then (if x9_1.length < 8796093022208 then (chainmanref48_Groups.l0 k1 l0 a1 t276 (x9_1 ++ [(⟨(rd_T47 l0 x10_1).f0, (rd_T47 l0 x10_1).f1⟩ : S47)]) (wrap64 (x10_1 + 1))) else (none)) else (chainmanref48_Groups.l0 k1 l0 a1 t276 x9_1 (wrap64 (x10_1 + 1)))) else (none)) else (none)) = some (r1, r2) := by rw [if_pos rfl] at H; exact H
         clear H
         have H := H1
         clear H1
         by_cases c15 : 0 ≤ ((rd_T47 l0 x10_1).f1)
         ·rw [if_pos c15] at H
          have c15b0 : decide (0 ≤ ((rd_T47 l0 x10_1).f1)) = true := decide_eq_true c15
          clear c15
          by_cases c16 : ((rd_T47 l0 x10_1).f1) < (t276.length : Int)
          ·rw [if_pos c16] at H
           have c16b0 : decide (((rd_T47 l0 x10_1).f1) < (t276.length : Int)) = true := decide_eq_true c16
           clear c16
           obtain ⟨bq17, hbq17⟩ : ∃ b_ : Bool, b_ = (rdOf false t276 ((rd_T47 l0 x10_1).f1)) := ⟨_, rfl⟩
           replace H : (if bq17 = true then (if x9_1.length < 8796093022208 then (chainmanref48_Groups.l0 k1 l0 a1 t276 (x9_1 ++ [(⟨(rd_T47 l0 x10_1).f0, (rd_T47 l0 x10_1).f1⟩ : S47)]) (wrap64 (x10_1 + 1))) else (none)) else (chainmanref48_Groups.l0 k1 l0 a1 t276 x9_1 (wrap64 (x10_1 + 1)))) = some (r1, r2) := by rw [← hbq17] at H; exact H
           have Nbq17 := Aside0.mk hbq17
           clear hbq17
           by_cases c18 : bq17 = true
           ·subst c18
            have H1 : (if x9_1.length < 8796093022208 then (chainmanref48_Groups.l0 k1 l0 a1 t276 (x9_1 ++ [(⟨(rd_T47 l0 x10_1).f0, (rd_T47 l0 x10_1).f1⟩ : S47)]) (wrap64 (x10_1 + 1))) else (none)) = some (r1, r2) := by rw [if_pos rfl] at H; exact H
            clear H
            have H := H1
            clear H1
            by_cases c19 : x9_1.length < 8796093022208
            ·rw [if_pos c19] at H
             have LMc19 := Aside0.mk c19
             clear c19
             obtain ⟨y284, hy284⟩ : ∃ y_ : List (S47), y_ = (x9_1 ++ [(⟨(rd_T47 l0 x10_1).f0, (rd_T47 l0 x10_1).f1⟩ : S47)]) := ⟨_, rfl⟩
             replace H : (chainmanref48_Groups.l0 k1 l0 a1 t276 y284 (wrap64 (x10_1 + 1))) = some (r1, r2) := by first | (rw [hy284]; with_reducible exact H) | (have H2_ := (Option.bind_some _ _).symm.trans H; rw [hy284]; with_reducible exact H2_) | (have H2_ := (Option.bind_some _ _).symm.trans H; with_reducible exact H2_) | with_reducible exact H | (rw [hy284]; exact H) | exact H
             have Ny284 := Aside0.mk hy284
             clear hy284
             have H' := Aside0.mk H
             clear H
             have p279 : 0 ≤ (x10_1 : Int) := of_decide_eq_true (by assumption)
             have q279 : x10_1 < (l0.length : Int) := of_decide_eq_true (by assumption)
             obtain ⟨ad279, e279, hx279_0, hx279_1⟩ := at_T47 HR0.out x10_1 p279 q279
             cases e279
             replace hx279_0 := (HB.out.cell (World.block_lt_of_cell? w _ hx279_0)).trans hx279_0
             replace hx279_1 := (HB.out.cell (World.block_lt_of_cell? w _ hx279_1)).trans hx279_1
             replace p279 := eq_true p279
             replace q279 := eq_true q279
             obtain ⟨Ao20, co20, eo20⟩ := Kd.R_slice HO_8.out
             subst eo20
             have p280 : 0 ≤ (((rd_T47 l0 x10_1).f0) : Int) := of_decide_eq_true (by assumption)
             have q280 : ((rd_T47 l0 x10_1).f0) < (t276.length : Int) := of_decide_eq_true (by assumption)
             obtain ⟨ad280, e280, hx280_0⟩ := Kd.at_bool (Kd.R_reads' HO_8.out).2.2 ((rd_T47 l0 x10_1).f0) p280 q280
             (try rw [← Nbq13.out] at hx280_0)
             (try rw [← Nbq17.out] at hx280_0)
             cases e280
             replace p280 := eq_true p280
             replace q280 := eq_true q280
             have p281 : 0 ≤ (x10_1 : Int) := of_decide_eq_true (by assumption)
             have q281 : x10_1 < (l0.length : Int) := of_decide_eq_true (by assumption)
             obtain ⟨ad281, e281, hx281_0, hx281_1⟩ := at_T47 HR0.out x10_1 p281 q281
             obtain rfl : ad279 = ad281 := (by injection e281)
             replace hx281_0 := (HB.out.cell (World.block_lt_of_cell? w _ hx281_0)).trans hx281_0
             replace hx281_1 := (HB.out.cell (World.block_lt_of_cell? w _ hx281_1)).trans hx281_1
             replace p281 := eq_true p281
             replace q281 := eq_true q281
             have p282 : 0 ≤ (((rd_T47 l0 x10_1).f1) : Int) := of_decide_eq_true (by assumption)
             have q282 : ((rd_T47 l0 x10_1).f1) < (t276.length : Int) := of_decide_eq_true (by assumption)
             obtain ⟨ad282, e282, hx282_0⟩ := Kd.at_bool (Kd.R_reads' HO_8.out).2.2 ((rd_T47 l0 x10_1).f1) p282 q282
             (try rw [← Nbq13.out] at hx282_0)
             (try rw [← Nbq17.out] at hx282_0)
             obtain rfl : ad280 = ad282 := (by injection e282)
             replace p282 := eq_true p282
             replace q282 := eq_true q282
             have p283 : 0 ≤ (x10_1 : Int) := of_decide_eq_true (by assumption)
             have q283 : x10_1 < (l0.length : Int) := of_decide_eq_true (by assumption)
             obtain ⟨ad283, e283, hx283_0, hx283_1⟩ := at_T47 HR0.out x10_1 p283 q283
             obtain rfl : ad279 = ad283 := (by injection e283)
             replace hx283_0 := (HB.out.cell (World.block_lt_of_cell? w _ hx283_0)).trans hx283_0
             replace hx283_1 := (HB.out.cell (World.block_lt_of_cell? w _ hx283_1)).trans hx283_1
             replace p283 := eq_true p283
             replace q283 := eq_true q283
             go_wp2_with (first | ((with_reducible refine gate_builtin (b := .append) (xs := #[.tmp 53, .tmp 58]) rfl ?_); at_builtin; refine Kd.R_append k47 (w0 := w) w.heap.size rfl (.tmp 53) (.tmp 58) 28 47 (.agg #[(.int .i64 0), (.int .i64 0)]) 16 rfl Try.underlying28 info47 rfl (by decide) (by omega) u9 x9_1 (⟨(rd_T47 l0 x10_1).f0, (rd_T47 l0 x10_1).f1⟩ : S47) [.int .i64 ((rd_T47 l0 x10_1).f0), .int .i64 ((rd_T47 l0 x10_1).f1)] (fun _ => True) (fun _ => False) rfl rfl ?aP (fun _ hk => hk.elim) ?aF ?aO ?aB ?aS ?aL ?_; (case aP => exact k47_mkM _ _ _ (⟨(rd_T47 l0 x10_1).f0, (rd_T47 l0 x10_1).f1⟩ : S47)); (case aB => exact (by repeat (first | (with_reducible first | exact HB.out | apply below_alloc | apply pw_below_drewN | apply below_drew1) | exact HB.out))); (case aF => exact (fun _ _ => trivial)); (case aO => exact (by (with_reducible repeat (first | apply Kd.R_alloc | apply Kd.R_drewN | apply Kd.R_drew)); exact HO_9.out)); (case aS => exact (below_size (by repeat (first | (with_reducible first | exact HB.out | apply below_alloc | apply pw_below_drewN | apply below_drew1) | exact HB.out)))); (case aL => have := LMc19.out; omega); intro v285 w21 ho hb hg hat; rw [← Ny284.out] at ho; have n0_ := Aside0.mk (Kd.R_over' (by (with_reducible repeat (first | apply Kd.R_alloc | apply Kd.R_drewN | apply Kd.R_drew)); exact HO_8.out) (Kd.R_typed (by (with_reducible repeat (first | apply Kd.R_alloc | apply Kd.R_drewN | apply Kd.R_drew)); exact HO_9.out)) (by decide) hg); have n1_ := Aside0.mk (hb); have n2_ := Aside0.mk (ho); clear HO_8; clear HB; clear HO_9; have HO_8 := n0_; have HB := n1_; have HO286 := n2_; clear n0_ n1_ n2_; clear ho hb hg hat))
             go_roundg k1
             case measure => have := HK1.out; omega
             case rel => exact ⟨(y284), (wrap64 (x10_1 + 1)), (by first | rfl | (simp; done) | (simp [*]; done)), H', ⟨by have := HK1.out; omega⟩, ⟨by (with_reducible repeat (first | apply Kd.R_alloc | apply Kd.R_drewN | apply Kd.R_drew)); exact HO_8.out⟩, ⟨by (with_reducible repeat (first | apply Kd.R_alloc | apply Kd.R_drewN | apply Kd.R_drew)); exact HO286.out⟩, ⟨by repeat (first | (with_reducible first | exact HB.out | apply below_alloc | apply pw_below_drewN | apply below_drew1) | exact HB.out)⟩⟩
            ·rw [if_neg c19] at H
             exact absurd H (by simp)
           ·replace c18 := Bool.eq_false_iff.mpr c18
            subst c18
            have H1 : (chainmanref48_Groups.l0 k1 l0 a1 t276 x9_1 (wrap64 (x10_1 + 1))) = some (r1, r2) := by rw [if_neg (show ¬ (false = true) by decide)] at H; exact H
            clear H
            have H := H1
            clear H1
            have H' := Aside0.mk H
            clear H
            have p279 : 0 ≤ (x10_1 : Int) := of_decide_eq_true (by assumption)
            have q279 : x10_1 < (l0.length : Int) := of_decide_eq_true (by assumption)
            obtain ⟨ad279, e279, hx279_0, hx279_1⟩ := at_T47 HR0.out x10_1 p279 q279
            cases e279
            replace hx279_0 := (HB.out.cell (World.block_lt_of_cell? w _ hx279_0)).trans hx279_0
            replace hx279_1 := (HB.out.cell (World.block_lt_of_cell? w _ hx279_1)).trans hx279_1
            replace p279 := eq_true p279
            replace q279 := eq_true q279
            obtain ⟨Ao22, co22, eo22⟩ := Kd.R_slice HO_8.out
            subst eo22
            have p280 : 0 ≤ (((rd_T47 l0 x10_1).f0) : Int) := of_decide_eq_true (by assumption)
            have q280 : ((rd_T47 l0 x10_1).f0) < (t276.length : Int) := of_decide_eq_true (by assumption)
            obtain ⟨ad280, e280, hx280_0⟩ := Kd.at_bool (Kd.R_reads' HO_8.out).2.2 ((rd_T47 l0 x10_1).f0) p280 q280
            (try rw [← Nbq13.out] at hx280_0)
            (try rw [← Nbq17.out] at hx280_0)
            cases e280
            replace p280 := eq_true p280
            replace q280 := eq_true q280
            have p281 : 0 ≤ (x10_1 : Int) := of_decide_eq_true (by assumption)
            have q281 : x10_1 < (l0.length : Int) := of_decide_eq_true (by assumption)
            obtain ⟨ad281, e281, hx281_0, hx281_1⟩ := at_T47 HR0.out x10_1 p281 q281
            obtain rfl : ad279 = ad281 := (by injection e281)
            replace hx281_0 := (HB.out.cell (World.block_lt_of_cell? w _ hx281_0)).trans hx281_0
            replace hx281_1 := (HB.out.cell (World.block_lt_of_cell? w _ hx281_1)).trans hx281_1
            replace p281 := eq_true p281
            replace q281 := eq_true q281
            have p282 : 0 ≤ (((rd_T47 l0 x10_1).f1) : Int) := of_decide_eq_true (by assumption)
            have q282 : ((rd_T47 l0 x10_1).f1) < (t276.length : Int) := of_decide_eq_true (by assumption)
            obtain ⟨ad282, e282, hx282_0⟩ := Kd.at_bool (Kd.R_reads' HO_8.out).2.2 ((rd_T47 l0 x10_1).f1) p282 q282
            (try rw [← Nbq13.out] at hx282_0)
            (try rw [← Nbq17.out] at hx282_0)
            obtain rfl : ad280 = ad282 := (by injection e282)
            replace p282 := eq_true p282
            replace q282 := eq_true q282
            go_wp2
            go_roundg k1
            case measure => have := HK1.out; omega
            case rel => exact ⟨(x9_1), (wrap64 (x10_1 + 1)), (by first | rfl | (simp; done) | (simp [*]; done)), H', ⟨by have := HK1.out; omega⟩, ⟨by (with_reducible repeat (first | apply Kd.R_alloc | apply Kd.R_drewN | apply Kd.R_drew)); exact HO_8.out⟩, ⟨by (with_reducible repeat (first | apply Kd.R_alloc | apply Kd.R_drewN | apply Kd.R_drew)); exact HO_9.out⟩, ⟨by repeat (first | (with_reducible first | exact HB.out | apply below_alloc | apply pw_below_drewN | apply below_drew1) | exact HB.out)⟩⟩
          ·rw [if_neg c16] at H
           exact absurd H (by simp)
         ·rw [if_neg c15] at H
          exact absurd H (by simp)
        ·replace c14 := Bool.eq_false_iff.mpr c14
         subst c14
         have H1 : (chainmanref48_Groups.l0 k1 l0 a1 t276 x9_1 (wrap64 (x10_1 + 1))) = some (r1, r2) := by rw [if_neg (show ¬ (false = true) by decide)] at H; exact H
         clear H
         have H := H1
         clear H1
         have H' := Aside0.mk H
         clear H
         have p279 : 0 ≤ (x10_1 : Int) := of_decide_eq_true (by assumption)
         have q279 : x10_1 < (l0.length : Int) := of_decide_eq_true (by assumption)
         obtain ⟨ad279, e279, hx279_0, hx279_1⟩ := at_T47 HR0.out x10_1 p279 q279
         cases e279
         replace hx279_0 := (HB.out.cell (World.block_lt_of_cell? w _ hx279_0)).trans hx279_0
         replace hx279_1 := (HB.out.cell (World.block_lt_of_cell? w _ hx279_1)).trans hx279_1
         replace p279 := eq_true p279
         replace q279 := eq_true q279
         obtain ⟨Ao23, co23, eo23⟩ := Kd.R_slice HO_8.out
         subst eo23
         have p280 : 0 ≤ (((rd_T47 l0 x10_1).f0) : Int) := of_decide_eq_true (by assumption)
         have q280 : ((rd_T47 l0 x10_1).f0) < (t276.length : Int) := of_decide_eq_true (by assumption)
         obtain ⟨ad280, e280, hx280_0⟩ := Kd.at_bool (Kd.R_reads' HO_8.out).2.2 ((rd_T47 l0 x10_1).f0) p280 q280
         (try rw [← Nbq13.out] at hx280_0)
         cases e280
         replace p280 := eq_true p280
         replace q280 := eq_true q280
         go_wp2
         go_roundg k1
         case measure => have := HK1.out; omega
         case rel => exact ⟨(x9_1), (wrap64 (x10_1 + 1)), (by first | rfl | (simp; done) | (simp [*]; done)), H', ⟨by have := HK1.out; omega⟩, ⟨by (with_reducible repeat (first | apply Kd.R_alloc | apply Kd.R_drewN | apply Kd.R_drew)); exact HO_8.out⟩, ⟨by (with_reducible repeat (first | apply Kd.R_alloc | apply Kd.R_drewN | apply Kd.R_drew)); exact HO_9.out⟩, ⟨by repeat (first | (with_reducible first | exact HB.out | apply below_alloc | apply pw_below_drewN | apply below_drew1) | exact HB.out)⟩⟩
       ·rw [if_neg c12] at H
        exact absurd H (by simp)
      ·rw [if_neg c11] at H
       exact absurd H (by simp)
     ·rw [if_neg c10] at H
      exact absurd H (by simp)
    ·rw [if_neg c9] at H
     have c9b0 : decide (x10_1 < (l0.length : Int)) = false := decide_eq_false c9
     clear c9
     replace H := Option.bind_eq_some_iff.mp H
     obtain ⟨⟨t287, t288⟩, A240, H⟩ := H
     replace H : (chainmanref48_Groups.l1 k1 l0 a1 t276 t287 ([] : List Int) 0) = some (r1, r2) := H
     have A24 := Aside0.mk A240
     clear A240
     have H' := Aside0.mk H
     clear H
     obtain ⟨Ao25, co25, eo25⟩ := Kd.R_slice HO_9.out
     subst eo25
     go_wp2_with (first | ((with_reducible refine gate_callee (f := 32) rfl ?_); refine goesL_ (some 63) rfl rfl Try.func32 (by kernel_rfl) rfl #[.slice Ao25 x9_1.length co25, .int .i64 a1] rfl (by (try simp only [List.map_toArray, List.map_cons, List.map_nil]); first | done | rfl) ?_; (with_reducible refine (chainmanref37_Groups.calls k1 _ _ x9_1 a1 t287 t288 _ ?side1 ?side2 A24.out).mono ?_); (case side1 => repeat (first | exact (Kd.R_reads' HO_9.out).2.2 | (with_reducible refine Kd.C_alloc ?_ _) | (with_reducible refine Kd.C_drewN ?_ _) | (with_reducible refine Kd.C_drew ?_))); (case side2 => exact (Kd.R_reads' HO_9.out).2.1); rintro e w26 ⟨v289, rfl, ho0, hb⟩; refine ⟨_, rfl, ?_⟩; have n0_ := Aside0.mk (Kd.R_below (by (with_reducible repeat (first | apply Kd.R_alloc | apply Kd.R_drewN | apply Kd.R_drew)); exact HO_8.out) hb); have n1_ := Aside0.mk (Kd.R_below (by (with_reducible repeat (first | apply Kd.R_alloc | apply Kd.R_drewN | apply Kd.R_drew)); exact HO_9.out) hb); have n2_ := Aside0.mk (Kd.R_lower ho0 (below_size (by repeat (first | (with_reducible first | exact HB.out | apply below_alloc | apply pw_below_drewN | apply below_drew1) | exact HB.out)))); have n3_ := Aside0.mk (below_step (by repeat (first | (with_reducible first | exact HB.out | apply below_alloc | apply pw_below_drewN | apply below_drew1) | exact HB.out)) hb); clear HO_8; clear HO_9; clear HB; have HO_8 := n0_; have HO_9 := n1_; have HO290 := n2_; have HB := n3_; clear n0_ n1_ n2_ n3_; (try clear hb); (try clear hb2); (try clear hk); (try clear hi); (try clear ho0)))
     go_loopg [13, 14] k1 (fun kq v13 v14 w' => ∃ (x13_2 : List Int) (x14_2 : Int), v14 = .int .i64 x14_2 ∧ Aside0 (chainmanref48_Groups.l1 kq l0 a1 t276 t287 x13_2 x14_2 = some (r1, r2)) ∧ Aside0 (kq ≤ k1) ∧ Aside0 (Kd.R Kd.bool 4 w' w.heap.size (fun _ => True) v277 t276) ∧ Aside0 (Kd.R (Kd.int .i64) 3 w' w.heap.size (fun k_ => some k_ ≠ (v13 : Value).ownBlock) v289 t287) ∧ Aside0 (Kd.R (Kd.int .i64) 3 w' w.heap.size (fun k_ => some k_ ≠ (v289 : Value).ownBlock) v13 x13_2) ∧ Aside0 (Below w.heap.size w w'))
     case atStart => exact ⟨(([] : List Int)), (0), (by first | rfl | (simp; done) | (simp [*]; done)), H', ⟨Nat.le_refl _⟩, ⟨by (with_reducible repeat (first | apply Kd.R_alloc | apply Kd.R_drewN | apply Kd.R_drew)); exact HO_8.out⟩, ⟨by (with_reducible repeat (first | apply Kd.R_alloc | apply Kd.R_drewN | apply Kd.R_drew)); exact Kd.R_mono HO290.out (fun _ hk => (by simp [Value.ownBlock]))⟩, ⟨by first | exact Kd.R_nil _ _ _ _ _ | exact Kd.N_nil _ _ _ _ _ | exact Kd.V_nil _ _ _ _ _ | exact Kd.Q_nil _ _ _ _ _ | exact Kd.S_nil _ _ _ _ _⟩, ⟨by repeat (first | (with_reducible first | exact HB.out | apply below_alloc | apply pw_below_drewN | apply below_drew1) | exact HB.out)⟩⟩
     case round =>
      clear H'
      try clear c1
      try clear q1
      try clear c2
      try clear p2
      try clear q2
      try clear hx2
      try clear c3
      try clear c5
      try clear p6
      try clear c7
      try clear c9
      try clear c9b0
      try clear c10
      try clear c10b0
      try clear c11
      try clear c11b0
      try clear c12
      try clear c12b0
      try clear q13
      try clear c14
      try clear c15
      try clear c15b0
      try clear c16
      try clear c16b0
      try clear q17
      try clear c18
      try clear c19
      try clear c24
      try clear hx279_0
      try clear hx279_1
      try clear hx280_0
      try clear hx281_0
      try clear hx281_1
      try clear hx282_0
      try clear hx283_0
      try clear hx283_1
      try clear p2
      try clear p279
      try clear p280
      try clear p281
      try clear p282
      try clear p283
      try clear q279
      try clear q280
      try clear q281
      try clear q282
      try clear q283
      obtain ⟨x13_2, x14_2, rfl, HA, HK2, HO_8, HO_11, HO_13, HB⟩ := hrel
      cases gk with
      | zero => exact absurd HA.out (by simp [chainmanref48_Groups.l1])
      | succ k2 =>
       have H := HA.out
       clear HA
       simp only [chainmanref48_Groups.l1] at H
       by_cases c27 : x14_2 < a1
       ·rw [if_pos c27] at H
        have c27b0 : decide (x14_2 < a1) = true := decide_eq_true c27
        clear c27
        by_cases c28 : 0 ≤ x14_2
        ·rw [if_pos c28] at H
         have c28b0 : decide (0 ≤ x14_2) = true := decide_eq_true c28
         clear c28
         by_cases c29 : x14_2 < (t276.length : Int)
         ·rw [if_pos c29] at H
          have c29b0 : decide (x14_2 < (t276.length : Int)) = true := decide_eq_true c29
          clear c29
          have HC30 := Aside0.mk H
          clear H
          obtain ⟨Ao31, co31, eo31⟩ := Kd.R_slice HO_8.out
          subst eo31
          have p291 : 0 ≤ (x14_2 : Int) := of_decide_eq_true (by assumption)
          have q291 : x14_2 < (t276.length : Int) := of_decide_eq_true (by assumption)
          obtain ⟨ad291, e291, hx291_0⟩ := Kd.at_bool (Kd.R_reads' HO_8.out).2.2 x14_2 p291 q291
          cases e291
          replace p291 := eq_true p291
          replace q291 := eq_true q291
          go_upto_if 74 with (fail)
          go_cut [15] (fun v15 wc => ∃ (kq : Nat) (x15_29 : Int), v15 = .int .i64 x15_29 ∧ Aside0 (chainmanref48_Groups.j2 kq l0 a1 t276 t287 x13_2 x14_2 x15_29 = some (r1, r2)) ∧ Aside0 (kq ≤ k2) ∧ Aside0 (Kd.R Kd.bool 4 wc w.heap.size (fun _ => True) (.slice (some ad291) t276.length co31) t276) ∧ Aside0 (Kd.R (Kd.int .i64) 3 wc w.heap.size (fun k_ => some k_ ≠ (u13 : Value).ownBlock) v289 t287) ∧ Aside0 (Kd.R (Kd.int .i64) 3 wc w.heap.size (fun k_ => some k_ ≠ (v289 : Value).ownBlock) u13 x13_2) ∧ Aside0 (Below w.heap.size w wc))
          case first =>
           have H := HC30.out
           clear HC30
           obtain ⟨bq32, hbq32⟩ : ∃ b_ : Bool, b_ = (rdOf false t276 x14_2) := ⟨_, rfl⟩
           replace H : (if bq32 = true then (if x14_2 < (t287.length : Int) then (chainmanref48_Groups.j2 k2 l0 a1 t276 t287 x13_2 x14_2 (rd t287 x14_2)) else (none)) else (chainmanref48_Groups.j2 k2 l0 a1 t276 t287 x13_2 x14_2 (-1))) = some (r1, r2) := by rw [← hbq32] at H; exact H
           have Nbq32 := Aside0.mk hbq32
           clear hbq32
           (try rw [← Nbq32.out])
           by_cases c33 : bq32 = true
           ·subst c33
            have H1 : (if x14_2 < (t287.length : Int) then (chainmanref48_Groups.j2 k2 l0 a1 t276 t287 x13_2 x14_2 (rd t287 x14_2)) else (none)) = some (r1, r2) := by rw [if_pos rfl] at H; exact H
            clear H
            have H := H1
            clear H1
            by_cases c34 : x14_2 < (t287.length : Int)
            ·rw [if_pos c34] at H
             have c34b0 : decide (x14_2 < (t287.length : Int)) = true := decide_eq_true c34
             clear c34
             have H' := Aside0.mk H
             clear H
             obtain ⟨Ao35, co35, eo35⟩ := Kd.R_slice HO_11.out
             subst eo35
             have p292 : 0 ≤ (x14_2 : Int) := of_decide_eq_true (by assumption)
             have q292 : x14_2 < (t287.length : Int) := of_decide_eq_true (by assumption)
             obtain ⟨ad292, e292, hx292_0⟩ := Kd.at_int (Kd.R_reads' HO_11.out).2.2 x14_2 p292 q292
             cases e292
             replace p292 := eq_true p292
             replace q292 := eq_true q292
             go_wp2
             go_meet
             case rel => exact ⟨_, (rd t287 x14_2), (by first | rfl | (simp; done) | (simp [*]; done)), H', ⟨by have := HK1.out; have := HK2.out; first | omega | exact Nat.le_refl _⟩, ⟨by (with_reducible repeat (first | apply Kd.R_alloc | apply Kd.R_drewN | apply Kd.R_drew)); exact HO_8.out⟩, ⟨by (with_reducible repeat (first | apply Kd.R_alloc | apply Kd.R_drewN | apply Kd.R_drew)); exact HO_11.out⟩, ⟨by (with_reducible repeat (first | apply Kd.R_alloc | apply Kd.R_drewN | apply Kd.R_drew)); exact HO_13.out⟩, ⟨by repeat (first | (with_reducible first | exact HB.out | apply below_alloc | apply pw_below_drewN | apply below_drew1) | exact HB.out)⟩⟩
            ·rw [if_neg c34] at H
             exact absurd H (by simp)
           ·replace c33 := Bool.eq_false_iff.mpr c33
            subst c33
            have H1 : (chainmanref48_Groups.j2 k2 l0 a1 t276 t287 x13_2 x14_2 (-1)) = some (r1, r2) := by rw [if_neg (show ¬ (false = true) by decide)] at H; exact H
            clear H
            have H := H1
            clear H1
            have H' := Aside0.mk H
            clear H
            go_wp2
            go_meet
            case rel => exact ⟨_, ((-1)), (by first | rfl | (simp; done) | (simp [*]; done)), H', ⟨by have := HK1.out; have := HK2.out; first | omega | exact Nat.le_refl _⟩, ⟨by (with_reducible repeat (first | apply Kd.R_alloc | apply Kd.R_drewN | apply Kd.R_drew)); exact HO_8.out⟩, ⟨by (with_reducible repeat (first | apply Kd.R_alloc | apply Kd.R_drewN | apply Kd.R_drew)); exact HO_11.out⟩, ⟨by (with_reducible repeat (first | apply Kd.R_alloc | apply Kd.R_drewN | apply Kd.R_drew)); exact HO_13.out⟩, ⟨by repeat (first | (with_reducible first | exact HB.out | apply below_alloc | apply pw_below_drewN | apply below_drew1) | exact HB.out)⟩⟩
          case rest =>
           clear HC30
           try clear c1
           try clear q1
           try clear c2
           try clear p2
           try clear q2
           try clear hx2
           try clear c3
           try clear q3
           try clear c5
           try clear p6
           try clear c7
           try clear c9
           try clear c9b0
           try clear c10
           try clear c10b0
           try clear c11
           try clear c11b0
           try clear c12
           try clear c12b0
           try clear q13
           try clear c14
           try clear c15
           try clear c15b0
           try clear c16
           try clear c16b0
           try clear q17
           try clear c18
           try clear c19
           try clear c24
           try clear c27
           try clear c27b0
           try clear p27
           try clear q27
           try clear hx27
           try clear c28
           try clear c28b0
           try clear p28
           try clear q28
           try clear hx28
           try clear c29
           try clear c29b0
           try clear p29
           try clear q29
           try clear hx29
           try clear c30
           try clear c32
           try clear q32
           try clear c33
           try clear c34
           try clear c34b0
           try clear hx279_0
           try clear hx279_1
           try clear hx280_0
           try clear hx281_0
           try clear hx281_1
           try clear hx282_0
           try clear hx283_0
           try clear hx283_1
           try clear hx291_0
           try clear hx292_0
           try clear p2
           try clear p279
           try clear p280
           try clear p281
           try clear p282
           try clear p283
           try clear p291
           try clear p292
           try clear p6
           try clear q1
           try clear q13
           try clear q17
           try clear q2
           try clear q279
           try clear q280
           try clear q281
           try clear q282
           try clear q283
           try clear q291
           try clear q292
           obtain ⟨kq, x15_29, rfl, HA, HJ29, HO_8, HO_11, HO_13, HB⟩ := hcut
           cases kq with
           | zero => exact absurd HA.out (by simp [chainmanref48_Groups.j2])
           | succ kj29 =>
            have H := HA.out
            clear HA
            simp only [chainmanref48_Groups.j2] at H
            have H' := Aside0.mk H
            clear H
            go_wp2
            go_loopg [15, 16] kj29 (fun kq v15 v16 w' => ∃ (x15_4 : Int) (x16_4 : Int), v15 = .int .i64 x15_4 ∧ v16 = .int .i64 x16_4 ∧ Aside0 (chainmanref48_Groups.l2 kq l0 a1 t276 t287 x13_2 x14_2 x15_4 x16_4 = some (r1, r2)) ∧ Aside0 (kq ≤ kj29) ∧ Aside0 (Kd.R Kd.bool 4 w' w.heap.size (fun _ => True) (.slice (some ad291) t276.length co31) t276) ∧ Aside0 (Kd.R (Kd.int .i64) 3 w' w.heap.size (fun k_ => some k_ ≠ (u13 : Value).ownBlock) v289 t287) ∧ Aside0 (Kd.R (Kd.int .i64) 3 w' w.heap.size (fun k_ => some k_ ≠ (v289 : Value).ownBlock) u13 x13_2) ∧ Aside0 (Below w.heap.size w w'))
            case atStart => exact ⟨(x15_29), (0), (by first | rfl | (simp; done) | (simp [*]; done)), (by first | rfl | (simp; done) | (simp [*]; done)), H', ⟨Nat.le_refl _⟩, ⟨by (with_reducible repeat (first | apply Kd.R_alloc | apply Kd.R_drewN | apply Kd.R_drew)); exact HO_8.out⟩, ⟨by (with_reducible repeat (first | apply Kd.R_alloc | apply Kd.R_drewN | apply Kd.R_drew)); exact HO_11.out⟩, ⟨by (with_reducible repeat (first | apply Kd.R_alloc | apply Kd.R_drewN | apply Kd.R_drew)); exact HO_13.out⟩, ⟨by repeat (first | (with_reducible first | exact HB.out | apply below_alloc | apply pw_below_drewN | apply below_drew1) | exact HB.out)⟩⟩
            case round =>
             clear H'
             try clear c1
             try clear q1
             try clear c2
             try clear p2
             try clear q2
             try clear hx2
             try clear c3
             try clear q3
             try clear c5
             try clear p6
             try clear c7
             try clear c9
             try clear c9b0
             try clear c10
             try clear c10b0
             try clear c11
             try clear c11b0
             try clear c12
             try clear c12b0
             try clear q13
             try clear c14
             try clear c15
             try clear c15b0
             try clear c16
             try clear c16b0
             try clear q17
             try clear c18
             try clear c19
             try clear c24
             try clear c27
             try clear c27b0
             try clear p27
             try clear q27
             try clear hx27
             try clear c28
             try clear c28b0
             try clear p28
             try clear q28
             try clear hx28
             try clear c29
             try clear c29b0
             try clear p29
             try clear q29
             try clear hx29
             try clear c30
             try clear c32
             try clear q32
             try clear c33
             try clear c34
             try clear c34b0
             try clear hx279_0
             try clear hx279_1
             try clear hx280_0
             try clear hx281_0
             try clear hx281_1
             try clear hx282_0
             try clear hx283_0
             try clear hx283_1
             try clear hx291_0
             try clear hx292_0
             try clear p2
             try clear p27
             try clear p279
             try clear p28
             try clear p280
             try clear p281
             try clear p282
             try clear p283
             try clear p29
             try clear p291
             try clear p292
             try clear p6
             try clear q1
             try clear q13
             try clear q17
             try clear q2
             try clear q27
             try clear q279
             try clear q28
             try clear q280
             try clear q281
             try clear q282
             try clear q283
             try clear q29
             try clear q291
             try clear q292
             try clear q3
             try clear q32
             obtain ⟨x15_4, x16_4, rfl, rfl, HA, HK4, HO_8, HO_11, HO_13, HB⟩ := hrel
             cases gk with
             | zero => exact absurd HA.out (by simp [chainmanref48_Groups.l2])
             | succ k4 =>
              have H := HA.out
              clear HA
              simp only [chainmanref48_Groups.l2] at H
              have HC36 := Aside0.mk H
              clear H
              go_upto_region 19 with (fail)
              go_cut [89] (fun v89 wc => ∃ (kq : Nat) (x89_35 : Bool), v89 = .bool x89_35 ∧ Aside0 (chainmanref48_Groups.j4 kq l0 a1 t276 t287 x13_2 x14_2 x15_4 x16_4 x89_35 = some (r1, r2)) ∧ Aside0 (kq ≤ k4) ∧ Aside0 (Kd.R Kd.bool 4 wc w.heap.size (fun _ => True) (.slice (some ad291) t276.length co31) t276) ∧ Aside0 (Kd.R (Kd.int .i64) 3 wc w.heap.size (fun k_ => some k_ ≠ (u13 : Value).ownBlock) v289 t287) ∧ Aside0 (Kd.R (Kd.int .i64) 3 wc w.heap.size (fun k_ => some k_ ≠ (v289 : Value).ownBlock) u13 x13_2) ∧ Aside0 (Below w.heap.size w wc))
              case first =>
               have H := HC36.out
               clear HC36
               by_cases c37 : x16_4 < (l0.length : Int)
               ·rw [if_pos c37] at H
                have c37b0 : decide (x16_4 < (l0.length : Int)) = true := decide_eq_true c37
                clear c37
                (first | rw [c37b0] | (simp only [i64_w, i32_w]; rw [c37b0]) | skip)
                by_cases c38 : 0 ≤ x14_2
                ·rw [if_pos c38] at H
                 have c38b0 : decide (0 ≤ x14_2) = true := decide_eq_true c38
                 clear c38
                 by_cases c39 : x14_2 < (t276.length : Int)
                 ·rw [if_pos c39] at H
                  have c39b0 : decide (x14_2 < (t276.length : Int)) = true := decide_eq_true c39
                  clear c39
                  have H' := Aside0.mk H
                  clear H
                  have p293 : 0 ≤ (x14_2 : Int) := of_decide_eq_true (by assumption)
                  have q293 : x14_2 < (t276.length : Int) := of_decide_eq_true (by assumption)
                  obtain ⟨ad293, e293, hx293_0⟩ := Kd.at_bool (Kd.R_reads' HO_8.out).2.2 x14_2 p293 q293
                  obtain rfl : ad291 = ad293 := (by injection e293)
                  replace p293 := eq_true p293
                  replace q293 := eq_true q293
                  go_wp2
                  go_meet
                  case rel => exact ⟨_, (!(rdOf false t276 x14_2)), (by first | rfl | (simp; done) | (simp [*]; done)), H', ⟨by have := HK1.out; have := HK2.out; have := HJ29.out; have := HK4.out; first | omega | exact Nat.le_refl _⟩, ⟨by (with_reducible repeat (first | apply Kd.R_alloc | apply Kd.R_drewN | apply Kd.R_drew)); exact HO_8.out⟩, ⟨by (with_reducible repeat (first | apply Kd.R_alloc | apply Kd.R_drewN | apply Kd.R_drew)); exact HO_11.out⟩, ⟨by (with_reducible repeat (first | apply Kd.R_alloc | apply Kd.R_drewN | apply Kd.R_drew)); exact HO_13.out⟩, ⟨by repeat (first | (with_reducible first | exact HB.out | apply below_alloc | apply pw_below_drewN | apply below_drew1) | exact HB.out)⟩⟩
                 ·rw [if_neg c39] at H
                  exact absurd H (by simp)
                ·rw [if_neg c38] at H
                 exact absurd H (by simp)
               ·rw [if_neg c37] at H
                have c37b0 : decide (x16_4 < (l0.length : Int)) = false := decide_eq_false c37
                clear c37
                (first | rw [c37b0] | (simp only [i64_w, i32_w]; rw [c37b0]) | skip)
                have H' := Aside0.mk H
                clear H
                go_wp2
                go_meet
                case rel => exact ⟨_, (false), (by first | rfl | (simp; done) | (simp [*]; done)), H', ⟨by have := HK1.out; have := HK2.out; have := HJ29.out; have := HK4.out; first | omega | exact Nat.le_refl _⟩, ⟨by (with_reducible repeat (first | apply Kd.R_alloc | apply Kd.R_drewN | apply Kd.R_drew)); exact HO_8.out⟩, ⟨by (with_reducible repeat (first | apply Kd.R_alloc | apply Kd.R_drewN | apply Kd.R_drew)); exact HO_11.out⟩, ⟨by (with_reducible repeat (first | apply Kd.R_alloc | apply Kd.R_drewN | apply Kd.R_drew)); exact HO_13.out⟩, ⟨by repeat (first | (with_reducible first | exact HB.out | apply below_alloc | apply pw_below_drewN | apply below_drew1) | exact HB.out)⟩⟩
              case rest =>
               clear HC36
               try clear c1
               try clear q1
               try clear c2
               try clear p2
               try clear q2
               try clear hx2
               try clear c3
               try clear q3
               try clear c5
               try clear p6
               try clear c7
               try clear c9
               try clear c9b0
               try clear c10
               try clear c10b0
               try clear c11
               try clear c11b0
               try clear c12
               try clear c12b0
               try clear q13
               try clear c14
               try clear c15
               try clear c15b0
               try clear c16
               try clear c16b0
               try clear q17
               try clear c18
               try clear c19
               try clear c24
               try clear c27
               try clear c27b0
               try clear p27
               try clear q27
               try clear hx27
               try clear c28
               try clear c28b0
               try clear p28
               try clear q28
               try clear hx28
               try clear c29
               try clear c29b0
               try clear p29
               try clear q29
               try clear hx29
               try clear c30
               try clear c32
               try clear q32
               try clear c33
               try clear c34
               try clear c34b0
               try clear c37
               try clear c37b0
               try clear c38
               try clear c38b0
               try clear c39
               try clear c39b0
               try clear hx279_0
               try clear hx279_1
               try clear hx280_0
               try clear hx281_0
               try clear hx281_1
               try clear hx282_0
               try clear hx283_0
               try clear hx283_1
               try clear hx291_0
               try clear hx292_0
               try clear hx293_0
               try clear p2
               try clear p27
               try clear p279
               try clear p28
               try clear p280
               try clear p281
               try clear p282
               try clear p283
               try clear p29
               try clear p291
               try clear p292
               try clear p293
               try clear p6
               try clear q1
               try clear q13
               try clear q17
               try clear q2
               try clear q27
               try clear q279
               try clear q28
               try clear q280
               try clear q281
               try clear q282
               try clear q283
               try clear q29
               try clear q291
               try clear q292
               try clear q293
               try clear q3
               try clear q32
               obtain ⟨kq, x89_35, rfl, HA, HJ35, HO_8, HO_11, HO_13, HB⟩ := hcut
               cases kq with
               | zero => exact absurd HA.out (by simp [chainmanref48_Groups.j4])
               | succ kj35 =>
                have H := HA.out
                clear HA
                simp only [chainmanref48_Groups.j4] at H
                by_cases c40 : x89_35 = true
                ·subst c40
                 have H1 : (if 0 ≤ x16_4 then (if x16_4 < (l0.length : Int) then (if ((rd_T47 l0 x16_4).f0) = x14_2 then (chainmanref48_Groups.j5 kj35 l0 a1 t276 t287 x13_2 x14_2 x15_4 x16_4 ((rd_T47 l0 x16_4).f1)) else (chainmanref48_Groups.j5 kj35 l0 a1 t276 t287 x13_2 x14_2 x15_4 x16_4 (-1))) else (none)) else (none)) = some (r1, r2) := by rw [if_pos rfl] at H; exact H
                 clear H
                 have H := H1
                 clear H1
                 by_cases c41 : 0 ≤ x16_4
                 ·rw [if_pos c41] at H
                  have c41b0 : decide (0 ≤ x16_4) = true := decide_eq_true c41
                  clear c41
                  by_cases c42 : x16_4 < (l0.length : Int)
                  ·rw [if_pos c42] at H
                   have c42b0 : decide (x16_4 < (l0.length : Int)) = true := decide_eq_true c42
                   clear c42
                   have HC43 := Aside0.mk H
                   clear H
                   have p297 : 0 ≤ (x16_4 : Int) := of_decide_eq_true (by assumption)
                   have q297 : x16_4 < (l0.length : Int) := of_decide_eq_true (by assumption)
                   obtain ⟨ad297, e297, hx297_0, hx297_1⟩ := at_T47 HR0.out x16_4 p297 q297
                   cases e297
                   replace hx297_0 := (HB.out.cell (World.block_lt_of_cell? w _ hx297_0)).trans hx297_0
                   replace hx297_1 := (HB.out.cell (World.block_lt_of_cell? w _ hx297_1)).trans hx297_1
                   replace p297 := eq_true p297
                   replace q297 := eq_true q297
                   go_upto_if 98 with (fail)
                   go_cut [17] (fun v17 wc => ∃ (kq : Nat) (x17_42 : Int), v17 = .int .i64 x17_42 ∧ Aside0 (chainmanref48_Groups.j5 kq l0 a1 t276 t287 x13_2 x14_2 x15_4 x16_4 x17_42 = some (r1, r2)) ∧ Aside0 (kq ≤ kj35) ∧ Aside0 (Kd.R Kd.bool 4 wc w.heap.size (fun _ => True) (.slice (some ad291) t276.length co31) t276) ∧ Aside0 (Kd.R (Kd.int .i64) 3 wc w.heap.size (fun k_ => some k_ ≠ (u13 : Value).ownBlock) v289 t287) ∧ Aside0 (Kd.R (Kd.int .i64) 3 wc w.heap.size (fun k_ => some k_ ≠ (v289 : Value).ownBlock) u13 x13_2) ∧ Aside0 (Below w.heap.size w wc))
                   case first =>
                    have H := HC43.out
                    clear HC43
                    by_cases c44 : ((rd_T47 l0 x16_4).f0) = x14_2
                    ·rw [if_pos c44] at H
                     have c44b0 : (((rd_T47 l0 x16_4).f0) == x14_2) = true := beq_iff_eq.mpr c44
                     have c44b1 : (((rd_T47 l0 x16_4).f0) != x14_2) = false := bne_eq_false_iff_eq.mpr c44
                     clear c44
                     (first | rw [c44b0] | (simp only [i64_w, i32_w]; rw [c44b0]) | skip)
                     have H' := Aside0.mk H
                     clear H
                     have p298 : 0 ≤ (x16_4 : Int) := of_decide_eq_true (by assumption)
                     have q298 : x16_4 < (l0.length : Int) := of_decide_eq_true (by assumption)
                     obtain ⟨ad298, e298, hx298_0, hx298_1⟩ := at_T47 HR0.out x16_4 p298 q298
                     obtain rfl : ad297 = ad298 := (by injection e298)
                     replace hx298_0 := (HB.out.cell (World.block_lt_of_cell? w _ hx298_0)).trans hx298_0
                     replace hx298_1 := (HB.out.cell (World.block_lt_of_cell? w _ hx298_1)).trans hx298_1
                     replace p298 := eq_true p298
                     replace q298 := eq_true q298
                     go_wp2
                     go_meet
                     case rel => exact ⟨_, ((rd_T47 l0 x16_4).f1), (by first | rfl | (simp; done) | (simp [*]; done)), H', ⟨by have := HK1.out; have := HK2.out; have := HJ29.out; have := HK4.out; have := HJ35.out; first | omega | exact Nat.le_refl _⟩, ⟨by (with_reducible repeat (first | apply Kd.R_alloc | apply Kd.R_drewN | apply Kd.R_drew)); exact HO_8.out⟩, ⟨by (with_reducible repeat (first | apply Kd.R_alloc | apply Kd.R_drewN | apply Kd.R_drew)); exact HO_11.out⟩, ⟨by (with_reducible repeat (first | apply Kd.R_alloc | apply Kd.R_drewN | apply Kd.R_drew)); exact HO_13.out⟩, ⟨by repeat (first | (with_reducible first | exact HB.out | apply below_alloc | apply pw_below_drewN | apply below_drew1) | exact HB.out)⟩⟩
                    ·rw [if_neg c44] at H
                     have c44b0 : (((rd_T47 l0 x16_4).f0) == x14_2) = false := beq_eq_false_iff_ne.mpr c44
                     have c44b1 : (((rd_T47 l0 x16_4).f0) != x14_2) = true := bne_iff_ne.mpr c44
                     (first | rw [c44b0] | (simp only [i64_w, i32_w]; rw [c44b0]) | skip)
                     have H' := Aside0.mk H
                     clear H
                     go_wp2
                     go_meet
                     case rel => exact ⟨_, ((-1)), (by first | rfl | (simp; done) | (simp [*]; done)), H', ⟨by have := HK1.out; have := HK2.out; have := HJ29.out; have := HK4.out; have := HJ35.out; first | omega | exact Nat.le_refl _⟩, ⟨by (with_reducible repeat (first | apply Kd.R_alloc | apply Kd.R_drewN | apply Kd.R_drew)); exact HO_8.out⟩, ⟨by (with_reducible repeat (first | apply Kd.R_alloc | apply Kd.R_drewN | apply Kd.R_drew)); exact HO_11.out⟩, ⟨by (with_reducible repeat (first | apply Kd.R_alloc | apply Kd.R_drewN | apply Kd.R_drew)); exact HO_13.out⟩, ⟨by repeat (first | (with_reducible first | exact HB.out | apply below_alloc | apply pw_below_drewN | apply below_drew1) | exact HB.out)⟩⟩
                   case rest =>
                    clear HC43
                    try clear c1
                    try clear q1
                    try clear c2
                    try clear p2
                    try clear q2
                    try clear hx2
                    try clear c3
                    try clear q3
                    try clear c4
                    try clear c5
                    try clear p6
                    try clear c7
                    try clear c9
                    try clear c9b0
                    try clear c10
                    try clear c10b0
                    try clear c11
                    try clear c11b0
                    try clear c12
                    try clear c12b0
                    try clear q13
                    try clear c14
                    try clear c15
                    try clear c15b0
                    try clear c16
                    try clear c16b0
                    try clear q17
                    try clear c18
                    try clear c19
                    try clear c24
                    try clear c27
                    try clear c27b0
                    try clear p27
                    try clear q27
                    try clear hx27
                    try clear c28
                    try clear c28b0
                    try clear p28
                    try clear q28
                    try clear hx28
                    try clear c29
                    try clear c29b0
                    try clear p29
                    try clear q29
                    try clear hx29
                    try clear c30
                    try clear c32
                    try clear q32
                    try clear c33
                    try clear c34
                    try clear c34b0
                    try clear c37
                    try clear c37b0
                    try clear c38
                    try clear c38b0
                    try clear c39
                    try clear c39b0
                    try clear c40
                    try clear c41
                    try clear c41b0
                    try clear c42
                    try clear c42b0
                    try clear c44
                    try clear c44b0
                    try clear c44b1
                    try clear hx279_0
                    try clear hx279_1
                    try clear hx280_0
                    try clear hx281_0
                    try clear hx281_1
                    try clear hx282_0
                    try clear hx283_0
                    try clear hx283_1
                    try clear hx291_0
                    try clear hx292_0
                    try clear hx293_0
                    try clear hx297_0
                    try clear hx297_1
                    try clear hx298_0
                    try clear hx298_1
                    try clear p2
                    try clear p27
                    try clear p279
                    try clear p28
                    try clear p280
                    try clear p281
                    try clear p282
                    try clear p283
                    try clear p29
                    try clear p291
                    try clear p292
                    try clear p293
                    try clear p297
                    try clear p298
                    try clear p6
                    try clear q1
                    try clear q13
                    try clear q17
                    try clear q2
                    try clear q27
                    try clear q279
                    try clear q28
                    try clear q280
                    try clear q281
                    try clear q282
                    try clear q283
                    try clear q29
                    try clear q291
                    try clear q292
                    try clear q293
                    try clear q297
                    try clear q298
                    try clear q3
                    try clear q32
                    obtain ⟨kq, x17_42, rfl, HA, HJ42, HO_8, HO_11, HO_13, HB⟩ := hcut
                    cases kq with
                    | zero => exact absurd HA.out (by simp [chainmanref48_Groups.j5])
                    | succ kj42 =>
                     have H := HA.out
                     clear HA
                     simp only [chainmanref48_Groups.j5] at H
                     by_cases c45 : 0 ≤ x16_4
                     ·rw [if_pos c45] at H
                      have c45b0 : decide (0 ≤ x16_4) = true := decide_eq_true c45
                      clear c45
                      by_cases c46 : x16_4 < (l0.length : Int)
                      ·rw [if_pos c46] at H
                       have c46b0 : decide (x16_4 < (l0.length : Int)) = true := decide_eq_true c46
                       clear c46
                       by_cases c47 : ((rd_T47 l0 x16_4).f1) = x14_2
                       ·rw [if_pos c47] at H
                        have c47b0 : (((rd_T47 l0 x16_4).f1) == x14_2) = true := beq_iff_eq.mpr c47
                        have c47b1 : (((rd_T47 l0 x16_4).f1) != x14_2) = false := bne_eq_false_iff_eq.mpr c47
                        clear c47
                        by_cases c48 : ((rd_T47 l0 x16_4).f0) ≥ 0
                        ·rw [if_pos c48] at H
                         have c48b0 : decide (0 ≤ ((rd_T47 l0 x16_4).f0)) = true := decide_eq_true c48
                         clear c48
                         by_cases c49 : 0 ≤ ((rd_T47 l0 x16_4).f0)
                         ·rw [if_pos c49] at H
                          have c49b0 : decide (0 ≤ ((rd_T47 l0 x16_4).f0)) = true := decide_eq_true c49
                          clear c49
                          by_cases c50 : ((rd_T47 l0 x16_4).f0) < (t276.length : Int)
                          ·rw [if_pos c50] at H
                           have c50b0 : decide (((rd_T47 l0 x16_4).f0) < (t276.length : Int)) = true := decide_eq_true c50
                           clear c50
                           obtain ⟨bq51, hbq51⟩ : ∃ b_ : Bool, b_ = (rdOf false t276 ((rd_T47 l0 x16_4).f0)) := ⟨_, rfl⟩
                           replace H : (if bq51 = true then (if x15_4 < 0 then (if ((rd_T47 l0 x16_4).f0) < (t287.length : Int) then (chainmanref48_Groups.l2 kj42 l0 a1 t276 t287 x13_2 x14_2 (rd t287 ((rd_T47 l0 x16_4).f0)) (wrap64 (x16_4 + 1))) else (none)) else (if ((rd_T47 l0 x16_4).f0) < (t287.length : Int) then (if (rd t287 ((rd_T47 l0 x16_4).f0)) < x15_4 then (chainmanref48_Groups.l2 kj42 l0 a1 t276 t287 x13_2 x14_2 (rd t287 ((rd_T47 l0 x16_4).f0)) (wrap64 (x16_4 + 1))) else (chainmanref48_Groups.l2 kj42 l0 a1 t276 t287 x13_2 x14_2 x15_4 (wrap64 (x16_4 + 1)))) else (none))) else (chainmanref48_Groups.l2 kj42 l0 a1 t276 t287 x13_2 x14_2 x15_4 (wrap64 (x16_4 + 1)))) = some (r1, r2) := by rw [← hbq51] at H; exact H
                           have Nbq51 := Aside0.mk hbq51
                           clear hbq51
                           by_cases c52 : bq51 = true
                           ·subst c52
                            have H1 : (if x15_4 < 0 then (if ((rd_T47 l0 x16_4).f0) < (t287.length : Int) then (chainmanref48_Groups.l2 kj42 l0 a1 t276 t287 x13_2 x14_2 (rd t287 ((rd_T47 l0 x16_4).f0)) (wrap64 (x16_4 + 1))) else (none)) else (if ((rd_T47 l0 x16_4).f0) < (t287.length : Int) then (if (rd t287 ((rd_T47 l0 x16_4).f0)) < x15_4 then (chainmanref48_Groups.l2 kj42 l0 a1 t276 t287 x13_2 x14_2 (rd t287 ((rd_T47 l0 x16_4).f0)) (wrap64 (x16_4 + 1))) else (chainmanref48_Groups.l2 kj42 l0 a1 t276 t287 x13_2 x14_2 x15_4 (wrap64 (x16_4 + 1)))) else (none))) = some (r1, r2) := by rw [if_pos rfl] at H; exact H
                            clear H
                            have H := H1
                            clear H1
                            by_cases c53 : x15_4 < 0
                            ·rw [if_pos c53] at H
                             have c53b0 : decide (x15_4 < 0) = true := decide_eq_true c53
                             clear c53
                             by_cases c54 : ((rd_T47 l0 x16_4).f0) < (t287.length : Int)
                             ·rw [if_pos c54] at H
                              have c54b0 : decide (((rd_T47 l0 x16_4).f0) < (t287.length : Int)) = true := decide_eq_true c54
                              clear c54
                              have H' := Aside0.mk H
                              clear H
                              have p299 : 0 ≤ (x16_4 : Int) := of_decide_eq_true (by assumption)
                              have q299 : x16_4 < (l0.length : Int) := of_decide_eq_true (by assumption)
                              obtain ⟨ad299, e299, hx299_0, hx299_1⟩ := at_T47 HR0.out x16_4 p299 q299
                              obtain rfl : ad297 = ad299 := (by injection e299)
                              replace hx299_0 := (HB.out.cell (World.block_lt_of_cell? w _ hx299_0)).trans hx299_0
                              replace hx299_1 := (HB.out.cell (World.block_lt_of_cell? w _ hx299_1)).trans hx299_1
                              replace p299 := eq_true p299
                              replace q299 := eq_true q299
                              have p300 : 0 ≤ (x16_4 : Int) := of_decide_eq_true (by assumption)
                              have q300 : x16_4 < (l0.length : Int) := of_decide_eq_true (by assumption)
                              obtain ⟨ad300, e300, hx300_0, hx300_1⟩ := at_T47 HR0.out x16_4 p300 q300
                              obtain rfl : ad297 = ad300 := (by injection e300)
                              replace hx300_0 := (HB.out.cell (World.block_lt_of_cell? w _ hx300_0)).trans hx300_0
                              replace hx300_1 := (HB.out.cell (World.block_lt_of_cell? w _ hx300_1)).trans hx300_1
                              replace p300 := eq_true p300
                              replace q300 := eq_true q300
                              have p301 : 0 ≤ (((rd_T47 l0 x16_4).f0) : Int) := of_decide_eq_true (by assumption)
                              have q301 : ((rd_T47 l0 x16_4).f0) < (t276.length : Int) := of_decide_eq_true (by assumption)
                              obtain ⟨ad301, e301, hx301_0⟩ := Kd.at_bool (Kd.R_reads' HO_8.out).2.2 ((rd_T47 l0 x16_4).f0) p301 q301
                              (try rw [← Nbq51.out] at hx301_0)
                              obtain rfl : ad291 = ad301 := (by injection e301)
                              replace p301 := eq_true p301
                              replace q301 := eq_true q301
                              obtain ⟨Ao55, co55, eo55⟩ := Kd.R_slice HO_11.out
                              subst eo55
                              have p302 : 0 ≤ (((rd_T47 l0 x16_4).f0) : Int) := of_decide_eq_true (by assumption)
                              have q302 : ((rd_T47 l0 x16_4).f0) < (t287.length : Int) := of_decide_eq_true (by assumption)
                              obtain ⟨ad302, e302, hx302_0⟩ := Kd.at_int (Kd.R_reads' HO_11.out).2.2 ((rd_T47 l0 x16_4).f0) p302 q302
                              cases e302
                              replace p302 := eq_true p302
                              replace q302 := eq_true q302
                              go_wp2
                              go_roundg kj42
                              case measure => have := HK1.out; have := HK2.out; have := HJ29.out; have := HK4.out; have := HJ35.out; have := HJ42.out; omega
                              case rel => exact ⟨(rd t287 ((rd_T47 l0 x16_4).f0)), (wrap64 (x16_4 + 1)), (by first | rfl | (simp; done) | (simp [*]; done)), (by first | rfl | (simp; done) | (simp [*]; done)), H', ⟨by have := HK1.out; have := HK2.out; have := HJ29.out; have := HK4.out; have := HJ35.out; have := HJ42.out; omega⟩, ⟨by (with_reducible repeat (first | apply Kd.R_alloc | apply Kd.R_drewN | apply Kd.R_drew)); exact HO_8.out⟩, ⟨by (with_reducible repeat (first | apply Kd.R_alloc | apply Kd.R_drewN | apply Kd.R_drew)); exact HO_11.out⟩, ⟨by (with_reducible repeat (first | apply Kd.R_alloc | apply Kd.R_drewN | apply Kd.R_drew)); exact HO_13.out⟩, ⟨by repeat (first | (with_reducible first | exact HB.out | apply below_alloc | apply pw_below_drewN | apply below_drew1) | exact HB.out)⟩⟩
                             ·rw [if_neg c54] at H
                              exact absurd H (by simp)
                            ·rw [if_neg c53] at H
                             have c53b0 : decide (x15_4 < 0) = false := decide_eq_false c53
                             clear c53
                             by_cases c56 : ((rd_T47 l0 x16_4).f0) < (t287.length : Int)
                             ·rw [if_pos c56] at H
                              have c56b0 : decide (((rd_T47 l0 x16_4).f0) < (t287.length : Int)) = true := decide_eq_true c56
                              clear c56
                              by_cases c57 : (rd t287 ((rd_T47 l0 x16_4).f0)) < x15_4
                              ·rw [if_pos c57] at H
                               have c57b0 : decide ((rd t287 ((rd_T47 l0 x16_4).f0)) < x15_4) = true := decide_eq_true c57
                               clear c57
                               have H' := Aside0.mk H
                               clear H
                               have p299 : 0 ≤ (x16_4 : Int) := of_decide_eq_true (by assumption)
                               have q299 : x16_4 < (l0.length : Int) := of_decide_eq_true (by assumption)
                               obtain ⟨ad299, e299, hx299_0, hx299_1⟩ := at_T47 HR0.out x16_4 p299 q299
                               obtain rfl : ad297 = ad299 := (by injection e299)
                               replace hx299_0 := (HB.out.cell (World.block_lt_of_cell? w _ hx299_0)).trans hx299_0
                               replace hx299_1 := (HB.out.cell (World.block_lt_of_cell? w _ hx299_1)).trans hx299_1
                               replace p299 := eq_true p299
                               replace q299 := eq_true q299
                               have p300 : 0 ≤ (x16_4 : Int) := of_decide_eq_true (by assumption)
                               have q300 : x16_4 < (l0.length : Int) := of_decide_eq_true (by assumption)
                               obtain ⟨ad300, e300, hx300_0, hx300_1⟩ := at_T47 HR0.out x16_4 p300 q300
                               obtain rfl : ad297 = ad300 := (by injection e300)
                               replace hx300_0 := (HB.out.cell (World.block_lt_of_cell? w _ hx300_0)).trans hx300_0
                               replace hx300_1 := (HB.out.cell (World.block_lt_of_cell? w _ hx300_1)).trans hx300_1
                               replace p300 := eq_true p300
                               replace q300 := eq_true q300
                               have p301 : 0 ≤ (((rd_T47 l0 x16_4).f0) : Int) := of_decide_eq_true (by assumption)
                               have q301 : ((rd_T47 l0 x16_4).f0) < (t276.length : Int) := of_decide_eq_true (by assumption)
                               obtain ⟨ad301, e301, hx301_0⟩ := Kd.at_bool (Kd.R_reads' HO_8.out).2.2 ((rd_T47 l0 x16_4).f0) p301 q301
                               (try rw [← Nbq51.out] at hx301_0)
                               obtain rfl : ad291 = ad301 := (by injection e301)
                               replace p301 := eq_true p301
                               replace q301 := eq_true q301
                               obtain ⟨Ao58, co58, eo58⟩ := Kd.R_slice HO_11.out
                               subst eo58
                               have p303 : 0 ≤ (((rd_T47 l0 x16_4).f0) : Int) := of_decide_eq_true (by assumption)
                               have q303 : ((rd_T47 l0 x16_4).f0) < (t287.length : Int) := of_decide_eq_true (by assumption)
                               obtain ⟨ad303, e303, hx303_0⟩ := Kd.at_int (Kd.R_reads' HO_11.out).2.2 ((rd_T47 l0 x16_4).f0) p303 q303
                               cases e303
                               replace p303 := eq_true p303
                               replace q303 := eq_true q303
                               have p304 : 0 ≤ (((rd_T47 l0 x16_4).f0) : Int) := of_decide_eq_true (by assumption)
                               have q304 : ((rd_T47 l0 x16_4).f0) < (t287.length : Int) := of_decide_eq_true (by assumption)
                               obtain ⟨ad304, e304, hx304_0⟩ := Kd.at_int (Kd.R_reads' HO_11.out).2.2 ((rd_T47 l0 x16_4).f0) p304 q304
                               obtain rfl : ad303 = ad304 := (by injection e304)
                               replace p304 := eq_true p304
                               replace q304 := eq_true q304
                               go_wp2
                               go_roundg kj42
                               case measure => have := HK1.out; have := HK2.out; have := HJ29.out; have := HK4.out; have := HJ35.out; have := HJ42.out; omega
                               case rel => exact ⟨(rd t287 ((rd_T47 l0 x16_4).f0)), (wrap64 (x16_4 + 1)), (by first | rfl | (simp; done) | (simp [*]; done)), (by first | rfl | (simp; done) | (simp [*]; done)), H', ⟨by have := HK1.out; have := HK2.out; have := HJ29.out; have := HK4.out; have := HJ35.out; have := HJ42.out; omega⟩, ⟨by (with_reducible repeat (first | apply Kd.R_alloc | apply Kd.R_drewN | apply Kd.R_drew)); exact HO_8.out⟩, ⟨by (with_reducible repeat (first | apply Kd.R_alloc | apply Kd.R_drewN | apply Kd.R_drew)); exact HO_11.out⟩, ⟨by (with_reducible repeat (first | apply Kd.R_alloc | apply Kd.R_drewN | apply Kd.R_drew)); exact HO_13.out⟩, ⟨by repeat (first | (with_reducible first | exact HB.out | apply below_alloc | apply pw_below_drewN | apply below_drew1) | exact HB.out)⟩⟩
                              ·rw [if_neg c57] at H
                               have c57b0 : decide ((rd t287 ((rd_T47 l0 x16_4).f0)) < x15_4) = false := decide_eq_false c57
                               clear c57
                               have H' := Aside0.mk H
                               clear H
                               have p299 : 0 ≤ (x16_4 : Int) := of_decide_eq_true (by assumption)
                               have q299 : x16_4 < (l0.length : Int) := of_decide_eq_true (by assumption)
                               obtain ⟨ad299, e299, hx299_0, hx299_1⟩ := at_T47 HR0.out x16_4 p299 q299
                               obtain rfl : ad297 = ad299 := (by injection e299)
                               replace hx299_0 := (HB.out.cell (World.block_lt_of_cell? w _ hx299_0)).trans hx299_0
                               replace hx299_1 := (HB.out.cell (World.block_lt_of_cell? w _ hx299_1)).trans hx299_1
                               replace p299 := eq_true p299
                               replace q299 := eq_true q299
                               have p300 : 0 ≤ (x16_4 : Int) := of_decide_eq_true (by assumption)
                               have q300 : x16_4 < (l0.length : Int) := of_decide_eq_true (by assumption)
                               obtain ⟨ad300, e300, hx300_0, hx300_1⟩ := at_T47 HR0.out x16_4 p300 q300
                               obtain rfl : ad297 = ad300 := (by injection e300)
                               replace hx300_0 := (HB.out.cell (World.block_lt_of_cell? w _ hx300_0)).trans hx300_0
                               replace hx300_1 := (HB.out.cell (World.block_lt_of_cell? w _ hx300_1)).trans hx300_1
                               replace p300 := eq_true p300
                               replace q300 := eq_true q300
                               have p301 : 0 ≤ (((rd_T47 l0 x16_4).f0) : Int) := of_decide_eq_true (by assumption)
                               have q301 : ((rd_T47 l0 x16_4).f0) < (t276.length : Int) := of_decide_eq_true (by assumption)
                               obtain ⟨ad301, e301, hx301_0⟩ := Kd.at_bool (Kd.R_reads' HO_8.out).2.2 ((rd_T47 l0 x16_4).f0) p301 q301
                               (try rw [← Nbq51.out] at hx301_0)
                               obtain rfl : ad291 = ad301 := (by injection e301)
                               replace p301 := eq_true p301
                               replace q301 := eq_true q301
                               obtain ⟨Ao59, co59, eo59⟩ := Kd.R_slice HO_11.out
                               subst eo59
                               have p303 : 0 ≤ (((rd_T47 l0 x16_4).f0) : Int) := of_decide_eq_true (by assumption)
                               have q303 : ((rd_T47 l0 x16_4).f0) < (t287.length : Int) := of_decide_eq_true (by assumption)
                               obtain ⟨ad303, e303, hx303_0⟩ := Kd.at_int (Kd.R_reads' HO_11.out).2.2 ((rd_T47 l0 x16_4).f0) p303 q303
                               cases e303
                               replace p303 := eq_true p303
                               replace q303 := eq_true q303
                               go_wp2
                               go_roundg kj42
                               case measure => have := HK1.out; have := HK2.out; have := HJ29.out; have := HK4.out; have := HJ35.out; have := HJ42.out; omega
                               case rel => exact ⟨(x15_4), (wrap64 (x16_4 + 1)), (by first | rfl | (simp; done) | (simp [*]; done)), (by first | rfl | (simp; done) | (simp [*]; done)), H', ⟨by have := HK1.out; have := HK2.out; have := HJ29.out; have := HK4.out; have := HJ35.out; have := HJ42.out; omega⟩, ⟨by (with_reducible repeat (first | apply Kd.R_alloc | apply Kd.R_drewN | apply Kd.R_drew)); exact HO_8.out⟩, ⟨by (with_reducible repeat (first | apply Kd.R_alloc | apply Kd.R_drewN | apply Kd.R_drew)); exact HO_11.out⟩, ⟨by (with_reducible repeat (first | apply Kd.R_alloc | apply Kd.R_drewN | apply Kd.R_drew)); exact HO_13.out⟩, ⟨by repeat (first | (with_reducible first | exact HB.out | apply below_alloc | apply pw_below_drewN | apply below_drew1) | exact HB.out)⟩⟩
                             ·rw [if_neg c56] at H
                              exact absurd H (by simp)
                           ·replace c52 := Bool.eq_false_iff.mpr c52
                            subst c52
                            have H1 : (chainmanref48_Groups.l2 kj42 l0 a1 t276 t287 x13_2 x14_2 x15_4 (wrap64 (x16_4 + 1))) = some (r1, r2) := by rw [if_neg (show ¬ (false = true) by decide)] at H; exact H
                            clear H
                            have H := H1
                            clear H1
                            have H' := Aside0.mk H
                            clear H
                            have p299 : 0 ≤ (x16_4 : Int) := of_decide_eq_true (by assumption)
                            have q299 : x16_4 < (l0.length : Int) := of_decide_eq_true (by assumption)
                            obtain ⟨ad299, e299, hx299_0, hx299_1⟩ := at_T47 HR0.out x16_4 p299 q299
                            obtain rfl : ad297 = ad299 := (by injection e299)
                            replace hx299_0 := (HB.out.cell (World.block_lt_of_cell? w _ hx299_0)).trans hx299_0
                            replace hx299_1 := (HB.out.cell (World.block_lt_of_cell? w _ hx299_1)).trans hx299_1
                            replace p299 := eq_true p299
                            replace q299 := eq_true q299
                            have p300 : 0 ≤ (x16_4 : Int) := of_decide_eq_true (by assumption)
                            have q300 : x16_4 < (l0.length : Int) := of_decide_eq_true (by assumption)
                            obtain ⟨ad300, e300, hx300_0, hx300_1⟩ := at_T47 HR0.out x16_4 p300 q300
                            obtain rfl : ad297 = ad300 := (by injection e300)
                            replace hx300_0 := (HB.out.cell (World.block_lt_of_cell? w _ hx300_0)).trans hx300_0
                            replace hx300_1 := (HB.out.cell (World.block_lt_of_cell? w _ hx300_1)).trans hx300_1
                            replace p300 := eq_true p300
                            replace q300 := eq_true q300
                            have p301 : 0 ≤ (((rd_T47 l0 x16_4).f0) : Int) := of_decide_eq_true (by assumption)
                            have q301 : ((rd_T47 l0 x16_4).f0) < (t276.length : Int) := of_decide_eq_true (by assumption)
                            obtain ⟨ad301, e301, hx301_0⟩ := Kd.at_bool (Kd.R_reads' HO_8.out).2.2 ((rd_T47 l0 x16_4).f0) p301 q301
                            (try rw [← Nbq51.out] at hx301_0)
                            obtain rfl : ad291 = ad301 := (by injection e301)
                            replace p301 := eq_true p301
                            replace q301 := eq_true q301
                            go_wp2
                            go_roundg kj42
                            case measure => have := HK1.out; have := HK2.out; have := HJ29.out; have := HK4.out; have := HJ35.out; have := HJ42.out; omega
                            case rel => exact ⟨(x15_4), (wrap64 (x16_4 + 1)), (by first | rfl | (simp; done) | (simp [*]; done)), (by first | rfl | (simp; done) | (simp [*]; done)), H', ⟨by have := HK1.out; have := HK2.out; have := HJ29.out; have := HK4.out; have := HJ35.out; have := HJ42.out; omega⟩, ⟨by (with_reducible repeat (first | apply Kd.R_alloc | apply Kd.R_drewN | apply Kd.R_drew)); exact HO_8.out⟩, ⟨by (with_reducible repeat (first | apply Kd.R_alloc | apply Kd.R_drewN | apply Kd.R_drew)); exact HO_11.out⟩, ⟨by (with_reducible repeat (first | apply Kd.R_alloc | apply Kd.R_drewN | apply Kd.R_drew)); exact HO_13.out⟩, ⟨by repeat (first | (with_reducible first | exact HB.out | apply below_alloc | apply pw_below_drewN | apply below_drew1) | exact HB.out)⟩⟩
                          ·rw [if_neg c50] at H
                           exact absurd H (by simp)
                         ·rw [if_neg c49] at H
                          exact absurd H (by simp)
                        ·rw [if_neg c48] at H
                         have c48b0 : decide (0 ≤ ((rd_T47 l0 x16_4).f0)) = false := decide_eq_false c48
                         clear c48
                         have H' := Aside0.mk H
                         clear H
                         have p299 : 0 ≤ (x16_4 : Int) := of_decide_eq_true (by assumption)
                         have q299 : x16_4 < (l0.length : Int) := of_decide_eq_true (by assumption)
                         obtain ⟨ad299, e299, hx299_0, hx299_1⟩ := at_T47 HR0.out x16_4 p299 q299
                         obtain rfl : ad297 = ad299 := (by injection e299)
                         replace hx299_0 := (HB.out.cell (World.block_lt_of_cell? w _ hx299_0)).trans hx299_0
                         replace hx299_1 := (HB.out.cell (World.block_lt_of_cell? w _ hx299_1)).trans hx299_1
                         replace p299 := eq_true p299
                         replace q299 := eq_true q299
                         have p300 : 0 ≤ (x16_4 : Int) := of_decide_eq_true (by assumption)
                         have q300 : x16_4 < (l0.length : Int) := of_decide_eq_true (by assumption)
                         obtain ⟨ad300, e300, hx300_0, hx300_1⟩ := at_T47 HR0.out x16_4 p300 q300
                         obtain rfl : ad297 = ad300 := (by injection e300)
                         replace hx300_0 := (HB.out.cell (World.block_lt_of_cell? w _ hx300_0)).trans hx300_0
                         replace hx300_1 := (HB.out.cell (World.block_lt_of_cell? w _ hx300_1)).trans hx300_1
                         replace p300 := eq_true p300
                         replace q300 := eq_true q300
                         go_wp2
                         go_roundg kj42
                         case measure => have := HK1.out; have := HK2.out; have := HJ29.out; have := HK4.out; have := HJ35.out; have := HJ42.out; omega
                         case rel => exact ⟨(x15_4), (wrap64 (x16_4 + 1)), (by first | rfl | (simp; done) | (simp [*]; done)), (by first | rfl | (simp; done) | (simp [*]; done)), H', ⟨by have := HK1.out; have := HK2.out; have := HJ29.out; have := HK4.out; have := HJ35.out; have := HJ42.out; omega⟩, ⟨by (with_reducible repeat (first | apply Kd.R_alloc | apply Kd.R_drewN | apply Kd.R_drew)); exact HO_8.out⟩, ⟨by (with_reducible repeat (first | apply Kd.R_alloc | apply Kd.R_drewN | apply Kd.R_drew)); exact HO_11.out⟩, ⟨by (with_reducible repeat (first | apply Kd.R_alloc | apply Kd.R_drewN | apply Kd.R_drew)); exact HO_13.out⟩, ⟨by repeat (first | (with_reducible first | exact HB.out | apply below_alloc | apply pw_below_drewN | apply below_drew1) | exact HB.out)⟩⟩
                       ·rw [if_neg c47] at H
                        have c47b0 : (((rd_T47 l0 x16_4).f1) == x14_2) = false := beq_eq_false_iff_ne.mpr c47
                        have c47b1 : (((rd_T47 l0 x16_4).f1) != x14_2) = true := bne_iff_ne.mpr c47
                        by_cases c60 : x17_42 ≥ 0
                        ·rw [if_pos c60] at H
                         have c60b0 : decide (0 ≤ x17_42) = true := decide_eq_true c60
                         clear c60
                         by_cases c61 : 0 ≤ x17_42
                         ·rw [if_pos c61] at H
                          have c61b0 : decide (0 ≤ x17_42) = true := decide_eq_true c61
                          clear c61
                          by_cases c62 : x17_42 < (t276.length : Int)
                          ·rw [if_pos c62] at H
                           have c62b0 : decide (x17_42 < (t276.length : Int)) = true := decide_eq_true c62
                           clear c62
                           obtain ⟨bq63, hbq63⟩ : ∃ b_ : Bool, b_ = (rdOf false t276 x17_42) := ⟨_, rfl⟩
                           replace H : (if bq63 = true then (if x15_4 < 0 then (if x17_42 < (t287.length : Int) then (chainmanref48_Groups.l2 kj42 l0 a1 t276 t287 x13_2 x14_2 (rd t287 x17_42) (wrap64 (x16_4 + 1))) else (none)) else (if x17_42 < (t287.length : Int) then (if (rd t287 x17_42) < x15_4 then (chainmanref48_Groups.l2 kj42 l0 a1 t276 t287 x13_2 x14_2 (rd t287 x17_42) (wrap64 (x16_4 + 1))) else (chainmanref48_Groups.l2 kj42 l0 a1 t276 t287 x13_2 x14_2 x15_4 (wrap64 (x16_4 + 1)))) else (none))) else (chainmanref48_Groups.l2 kj42 l0 a1 t276 t287 x13_2 x14_2 x15_4 (wrap64 (x16_4 + 1)))) = some (r1, r2) := by rw [← hbq63] at H; exact H
                           have Nbq63 := Aside0.mk hbq63
                           clear hbq63
                           by_cases c64 : bq63 = true
                           ·subst c64
                            have H1 : (if x15_4 < 0 then (if x17_42 < (t287.length : Int) then (chainmanref48_Groups.l2 kj42 l0 a1 t276 t287 x13_2 x14_2 (rd t287 x17_42) (wrap64 (x16_4 + 1))) else (none)) else (if x17_42 < (t287.length : Int) then (if (rd t287 x17_42) < x15_4 then (chainmanref48_Groups.l2 kj42 l0 a1 t276 t287 x13_2 x14_2 (rd t287 x17_42) (wrap64 (x16_4 + 1))) else (chainmanref48_Groups.l2 kj42 l0 a1 t276 t287 x13_2 x14_2 x15_4 (wrap64 (x16_4 + 1)))) else (none))) = some (r1, r2) := by rw [if_pos rfl] at H; exact H
                            clear H
                            have H := H1
                            clear H1
                            by_cases c65 : x15_4 < 0
                            ·rw [if_pos c65] at H
                             have c65b0 : decide (x15_4 < 0) = true := decide_eq_true c65
                             clear c65
                             by_cases c66 : x17_42 < (t287.length : Int)
                             ·rw [if_pos c66] at H
                              have c66b0 : decide (x17_42 < (t287.length : Int)) = true := decide_eq_true c66
                              clear c66
                              have H' := Aside0.mk H
                              clear H
                              have p299 : 0 ≤ (x16_4 : Int) := of_decide_eq_true (by assumption)
                              have q299 : x16_4 < (l0.length : Int) := of_decide_eq_true (by assumption)
                              obtain ⟨ad299, e299, hx299_0, hx299_1⟩ := at_T47 HR0.out x16_4 p299 q299
                              obtain rfl : ad297 = ad299 := (by injection e299)
                              replace hx299_0 := (HB.out.cell (World.block_lt_of_cell? w _ hx299_0)).trans hx299_0
                              replace hx299_1 := (HB.out.cell (World.block_lt_of_cell? w _ hx299_1)).trans hx299_1
                              replace p299 := eq_true p299
                              replace q299 := eq_true q299
                              have p305 : 0 ≤ (x17_42 : Int) := of_decide_eq_true (by assumption)
                              have q305 : x17_42 < (t276.length : Int) := of_decide_eq_true (by assumption)
                              obtain ⟨ad305, e305, hx305_0⟩ := Kd.at_bool (Kd.R_reads' HO_8.out).2.2 x17_42 p305 q305
                              (try rw [← Nbq63.out] at hx305_0)
                              obtain rfl : ad291 = ad305 := (by injection e305)
                              replace p305 := eq_true p305
                              replace q305 := eq_true q305
                              obtain ⟨Ao67, co67, eo67⟩ := Kd.R_slice HO_11.out
                              subst eo67
                              have p306 : 0 ≤ (x17_42 : Int) := of_decide_eq_true (by assumption)
                              have q306 : x17_42 < (t287.length : Int) := of_decide_eq_true (by assumption)
                              obtain ⟨ad306, e306, hx306_0⟩ := Kd.at_int (Kd.R_reads' HO_11.out).2.2 x17_42 p306 q306
                              cases e306
                              replace p306 := eq_true p306
                              replace q306 := eq_true q306
                              go_wp2
                              go_roundg kj42
                              case measure => have := HK1.out; have := HK2.out; have := HJ29.out; have := HK4.out; have := HJ35.out; have := HJ42.out; omega
                              case rel => exact ⟨(rd t287 x17_42), (wrap64 (x16_4 + 1)), (by first | rfl | (simp; done) | (simp [*]; done)), (by first | rfl | (simp; done) | (simp [*]; done)), H', ⟨by have := HK1.out; have := HK2.out; have := HJ29.out; have := HK4.out; have := HJ35.out; have := HJ42.out; omega⟩, ⟨by (with_reducible repeat (first | apply Kd.R_alloc | apply Kd.R_drewN | apply Kd.R_drew)); exact HO_8.out⟩, ⟨by (with_reducible repeat (first | apply Kd.R_alloc | apply Kd.R_drewN | apply Kd.R_drew)); exact HO_11.out⟩, ⟨by (with_reducible repeat (first | apply Kd.R_alloc | apply Kd.R_drewN | apply Kd.R_drew)); exact HO_13.out⟩, ⟨by repeat (first | (with_reducible first | exact HB.out | apply below_alloc | apply pw_below_drewN | apply below_drew1) | exact HB.out)⟩⟩
                             ·rw [if_neg c66] at H
                              exact absurd H (by simp)
                            ·rw [if_neg c65] at H
                             have c65b0 : decide (x15_4 < 0) = false := decide_eq_false c65
                             clear c65
                             by_cases c68 : x17_42 < (t287.length : Int)
                             ·rw [if_pos c68] at H
                              have c68b0 : decide (x17_42 < (t287.length : Int)) = true := decide_eq_true c68
                              clear c68
                              by_cases c69 : (rd t287 x17_42) < x15_4
                              ·rw [if_pos c69] at H
                               have c69b0 : decide ((rd t287 x17_42) < x15_4) = true := decide_eq_true c69
                               clear c69
                               have H' := Aside0.mk H
                               clear H
                               have p299 : 0 ≤ (x16_4 : Int) := of_decide_eq_true (by assumption)
                               have q299 : x16_4 < (l0.length : Int) := of_decide_eq_true (by assumption)
                               obtain ⟨ad299, e299, hx299_0, hx299_1⟩ := at_T47 HR0.out x16_4 p299 q299
                               obtain rfl : ad297 = ad299 := (by injection e299)
                               replace hx299_0 := (HB.out.cell (World.block_lt_of_cell? w _ hx299_0)).trans hx299_0
                               replace hx299_1 := (HB.out.cell (World.block_lt_of_cell? w _ hx299_1)).trans hx299_1
                               replace p299 := eq_true p299
                               replace q299 := eq_true q299
                               have p305 : 0 ≤ (x17_42 : Int) := of_decide_eq_true (by assumption)
                               have q305 : x17_42 < (t276.length : Int) := of_decide_eq_true (by assumption)
                               obtain ⟨ad305, e305, hx305_0⟩ := Kd.at_bool (Kd.R_reads' HO_8.out).2.2 x17_42 p305 q305
                               (try rw [← Nbq63.out] at hx305_0)
                               obtain rfl : ad291 = ad305 := (by injection e305)
                               replace p305 := eq_true p305
                               replace q305 := eq_true q305
                               obtain ⟨Ao70, co70, eo70⟩ := Kd.R_slice HO_11.out
                               subst eo70
                               have p307 : 0 ≤ (x17_42 : Int) := of_decide_eq_true (by assumption)
                               have q307 : x17_42 < (t287.length : Int) := of_decide_eq_true (by assumption)
                               obtain ⟨ad307, e307, hx307_0⟩ := Kd.at_int (Kd.R_reads' HO_11.out).2.2 x17_42 p307 q307
                               cases e307
                               replace p307 := eq_true p307
                               replace q307 := eq_true q307
                               have p308 : 0 ≤ (x17_42 : Int) := of_decide_eq_true (by assumption)
                               have q308 : x17_42 < (t287.length : Int) := of_decide_eq_true (by assumption)
                               obtain ⟨ad308, e308, hx308_0⟩ := Kd.at_int (Kd.R_reads' HO_11.out).2.2 x17_42 p308 q308
                               obtain rfl : ad307 = ad308 := (by injection e308)
                               replace p308 := eq_true p308
                               replace q308 := eq_true q308
                               go_wp2
                               go_roundg kj42
                               case measure => have := HK1.out; have := HK2.out; have := HJ29.out; have := HK4.out; have := HJ35.out; have := HJ42.out; omega
                               case rel => exact ⟨(rd t287 x17_42), (wrap64 (x16_4 + 1)), (by first | rfl | (simp; done) | (simp [*]; done)), (by first | rfl | (simp; done) | (simp [*]; done)), H', ⟨by have := HK1.out; have := HK2.out; have := HJ29.out; have := HK4.out; have := HJ35.out; have := HJ42.out; omega⟩, ⟨by (with_reducible repeat (first | apply Kd.R_alloc | apply Kd.R_drewN | apply Kd.R_drew)); exact HO_8.out⟩, ⟨by (with_reducible repeat (first | apply Kd.R_alloc | apply Kd.R_drewN | apply Kd.R_drew)); exact HO_11.out⟩, ⟨by (with_reducible repeat (first | apply Kd.R_alloc | apply Kd.R_drewN | apply Kd.R_drew)); exact HO_13.out⟩, ⟨by repeat (first | (with_reducible first | exact HB.out | apply below_alloc | apply pw_below_drewN | apply below_drew1) | exact HB.out)⟩⟩
                              ·rw [if_neg c69] at H
                               have c69b0 : decide ((rd t287 x17_42) < x15_4) = false := decide_eq_false c69
                               clear c69
                               have H' := Aside0.mk H
                               clear H
                               have p299 : 0 ≤ (x16_4 : Int) := of_decide_eq_true (by assumption)
                               have q299 : x16_4 < (l0.length : Int) := of_decide_eq_true (by assumption)
                               obtain ⟨ad299, e299, hx299_0, hx299_1⟩ := at_T47 HR0.out x16_4 p299 q299
                               obtain rfl : ad297 = ad299 := (by injection e299)
                               replace hx299_0 := (HB.out.cell (World.block_lt_of_cell? w _ hx299_0)).trans hx299_0
                               replace hx299_1 := (HB.out.cell (World.block_lt_of_cell? w _ hx299_1)).trans hx299_1
                               replace p299 := eq_true p299
                               replace q299 := eq_true q299
                               have p305 : 0 ≤ (x17_42 : Int) := of_decide_eq_true (by assumption)
                               have q305 : x17_42 < (t276.length : Int) := of_decide_eq_true (by assumption)
                               obtain ⟨ad305, e305, hx305_0⟩ := Kd.at_bool (Kd.R_reads' HO_8.out).2.2 x17_42 p305 q305
                               (try rw [← Nbq63.out] at hx305_0)
                               obtain rfl : ad291 = ad305 := (by injection e305)
                               replace p305 := eq_true p305
                               replace q305 := eq_true q305
                               obtain ⟨Ao71, co71, eo71⟩ := Kd.R_slice HO_11.out
                               subst eo71
                               have p307 : 0 ≤ (x17_42 : Int) := of_decide_eq_true (by assumption)
                               have q307 : x17_42 < (t287.length : Int) := of_decide_eq_true (by assumption)
                               obtain ⟨ad307, e307, hx307_0⟩ := Kd.at_int (Kd.R_reads' HO_11.out).2.2 x17_42 p307 q307
                               cases e307
                               replace p307 := eq_true p307
                               replace q307 := eq_true q307
                               go_wp2
                               go_roundg kj42
                               case measure => have := HK1.out; have := HK2.out; have := HJ29.out; have := HK4.out; have := HJ35.out; have := HJ42.out; omega
                               case rel => exact ⟨(x15_4), (wrap64 (x16_4 + 1)), (by first | rfl | (simp; done) | (simp [*]; done)), (by first | rfl | (simp; done) | (simp [*]; done)), H', ⟨by have := HK1.out; have := HK2.out; have := HJ29.out; have := HK4.out; have := HJ35.out; have := HJ42.out; omega⟩, ⟨by (with_reducible repeat (first | apply Kd.R_alloc | apply Kd.R_drewN | apply Kd.R_drew)); exact HO_8.out⟩, ⟨by (with_reducible repeat (first | apply Kd.R_alloc | apply Kd.R_drewN | apply Kd.R_drew)); exact HO_11.out⟩, ⟨by (with_reducible repeat (first | apply Kd.R_alloc | apply Kd.R_drewN | apply Kd.R_drew)); exact HO_13.out⟩, ⟨by repeat (first | (with_reducible first | exact HB.out | apply below_alloc | apply pw_below_drewN | apply below_drew1) | exact HB.out)⟩⟩
                             ·rw [if_neg c68] at H
                              exact absurd H (by simp)
                           ·replace c64 := Bool.eq_false_iff.mpr c64
                            subst c64
                            have H1 : (chainmanref48_Groups.l2 kj42 l0 a1 t276 t287 x13_2 x14_2 x15_4 (wrap64 (x16_4 + 1))) = some (r1, r2) := by rw [if_neg (show ¬ (false = true) by decide)] at H; exact H
                            clear H
                            have H := H1
                            clear H1
                            have H' := Aside0.mk H
                            clear H
                            have p299 : 0 ≤ (x16_4 : Int) := of_decide_eq_true (by assumption)
                            have q299 : x16_4 < (l0.length : Int) := of_decide_eq_true (by assumption)
                            obtain ⟨ad299, e299, hx299_0, hx299_1⟩ := at_T47 HR0.out x16_4 p299 q299
                            obtain rfl : ad297 = ad299 := (by injection e299)
                            replace hx299_0 := (HB.out.cell (World.block_lt_of_cell? w _ hx299_0)).trans hx299_0
                            replace hx299_1 := (HB.out.cell (World.block_lt_of_cell? w _ hx299_1)).trans hx299_1
                            replace p299 := eq_true p299
                            replace q299 := eq_true q299
                            have p305 : 0 ≤ (x17_42 : Int) := of_decide_eq_true (by assumption)
                            have q305 : x17_42 < (t276.length : Int) := of_decide_eq_true (by assumption)
                            obtain ⟨ad305, e305, hx305_0⟩ := Kd.at_bool (Kd.R_reads' HO_8.out).2.2 x17_42 p305 q305
                            (try rw [← Nbq63.out] at hx305_0)
                            obtain rfl : ad291 = ad305 := (by injection e305)
                            replace p305 := eq_true p305
                            replace q305 := eq_true q305
                            go_wp2
                            go_roundg kj42
                            case measure => have := HK1.out; have := HK2.out; have := HJ29.out; have := HK4.out; have := HJ35.out; have := HJ42.out; omega
                            case rel => exact ⟨(x15_4), (wrap64 (x16_4 + 1)), (by first | rfl | (simp; done) | (simp [*]; done)), (by first | rfl | (simp; done) | (simp [*]; done)), H', ⟨by have := HK1.out; have := HK2.out; have := HJ29.out; have := HK4.out; have := HJ35.out; have := HJ42.out; omega⟩, ⟨by (with_reducible repeat (first | apply Kd.R_alloc | apply Kd.R_drewN | apply Kd.R_drew)); exact HO_8.out⟩, ⟨by (with_reducible repeat (first | apply Kd.R_alloc | apply Kd.R_drewN | apply Kd.R_drew)); exact HO_11.out⟩, ⟨by (with_reducible repeat (first | apply Kd.R_alloc | apply Kd.R_drewN | apply Kd.R_drew)); exact HO_13.out⟩, ⟨by repeat (first | (with_reducible first | exact HB.out | apply below_alloc | apply pw_below_drewN | apply below_drew1) | exact HB.out)⟩⟩
                          ·rw [if_neg c62] at H
                           exact absurd H (by simp)
                         ·rw [if_neg c61] at H
                          exact absurd H (by simp)
                        ·rw [if_neg c60] at H
                         have c60b0 : decide (0 ≤ x17_42) = false := decide_eq_false c60
                         clear c60
                         have H' := Aside0.mk H
                         clear H
                         have p299 : 0 ≤ (x16_4 : Int) := of_decide_eq_true (by assumption)
                         have q299 : x16_4 < (l0.length : Int) := of_decide_eq_true (by assumption)
                         obtain ⟨ad299, e299, hx299_0, hx299_1⟩ := at_T47 HR0.out x16_4 p299 q299
                         obtain rfl : ad297 = ad299 := (by injection e299)
                         replace hx299_0 := (HB.out.cell (World.block_lt_of_cell? w _ hx299_0)).trans hx299_0
                         replace hx299_1 := (HB.out.cell (World.block_lt_of_cell? w _ hx299_1)).trans hx299_1
                         replace p299 := eq_true p299
                         replace q299 := eq_true q299
                         go_wp2
                         go_roundg kj42
                         case measure => have := HK1.out; have := HK2.out; have := HJ29.out; have := HK4.out; have := HJ35.out; have := HJ42.out; omega
                         case rel => exact ⟨(x15_4), (wrap64 (x16_4 + 1)), (by first | rfl | (simp; done) | (simp [*]; done)), (by first | rfl | (simp; done) | (simp [*]; done)), H', ⟨by have := HK1.out; have := HK2.out; have := HJ29.out; have := HK4.out; have := HJ35.out; have := HJ42.out; omega⟩, ⟨by (with_reducible repeat (first | apply Kd.R_alloc | apply Kd.R_drewN | apply Kd.R_drew)); exact HO_8.out⟩, ⟨by (with_reducible repeat (first | apply Kd.R_alloc | apply Kd.R_drewN | apply Kd.R_drew)); exact HO_11.out⟩, ⟨by (with_reducible repeat (first | apply Kd.R_alloc | apply Kd.R_drewN | apply Kd.R_drew)); exact HO_13.out⟩, ⟨by repeat (first | (with_reducible first | exact HB.out | apply below_alloc | apply pw_below_drewN | apply below_drew1) | exact HB.out)⟩⟩
                      ·rw [if_neg c46] at H
                       exact absurd H (by simp)
                     ·rw [if_neg c45] at H
                      exact absurd H (by simp)
                  ·rw [if_neg c42] at H
                   exact absurd H (by simp)
                 ·rw [if_neg c41] at H
                  exact absurd H (by simp)
                ·replace c40 := Bool.eq_false_iff.mpr c40
                 subst c40
                 have H1 : (if x13_2.length < 17592186044416 then (chainmanref48_Groups.l1 kj35 l0 a1 t276 t287 (x13_2 ++ [x15_4]) (wrap64 (x14_2 + 1))) else (none)) = some (r1, r2) := by rw [if_neg (show ¬ (false = true) by decide)] at H; exact H
                 clear H
                 have H := H1
                 clear H1
                 by_cases c72 : x13_2.length < 17592186044416
                 ·rw [if_pos c72] at H
                  have LMc72 := Aside0.mk c72
                  clear c72
                  obtain ⟨y294, hy294⟩ : ∃ y_ : List Int, y_ = (x13_2 ++ [x15_4]) := ⟨_, rfl⟩
                  replace H : (chainmanref48_Groups.l1 kj35 l0 a1 t276 t287 y294 (wrap64 (x14_2 + 1))) = some (r1, r2) := by first | (rw [hy294]; with_reducible exact H) | (have H2_ := (Option.bind_some _ _).symm.trans H; rw [hy294]; with_reducible exact H2_) | (have H2_ := (Option.bind_some _ _).symm.trans H; with_reducible exact H2_) | with_reducible exact H | (rw [hy294]; exact H) | exact H
                  have Ny294 := Aside0.mk hy294
                  clear hy294
                  have H' := Aside0.mk H
                  clear H
                  go_wp2_with (first | ((with_reducible refine gate_builtin (b := .append) (xs := #[.tmp 140, .tmp 142]) rfl ?_); at_builtin; refine Kd.R_append (Kd.int .i64) (w0 := w) w.heap.size rfl (.tmp 140) (.tmp 142) 35 3 (.int .i64 0) 8 rfl Try.underlying35 info3 rfl (by decide) (by omega) u13 x13_2 x15_4 [.int .i64 x15_4] (fun k_ => some k_ ≠ (v289 : Value).ownBlock) (fun _ => False) rfl rfl ?aP (fun _ hk => hk.elim) ?aF ?aO ?aB ?aS ?aL ?_; (case aP => exact rfl); (case aB => exact (by repeat (first | (with_reducible first | exact HB.out | apply below_alloc | apply pw_below_drewN | apply below_drew1) | exact HB.out))); (case aF => exact (fun k_ hk => Kd.fresh' (Kd.R_lt (by (with_reducible repeat (first | apply Kd.R_alloc | apply Kd.R_drewN | apply Kd.R_drew)); exact HO_11.out)) k_ hk)); (case aO => exact (by (with_reducible repeat (first | apply Kd.R_alloc | apply Kd.R_drewN | apply Kd.R_drew)); exact HO_13.out)); (case aS => exact (below_size (by repeat (first | (with_reducible first | exact HB.out | apply below_alloc | apply pw_below_drewN | apply below_drew1) | exact HB.out)))); (case aL => have := LMc72.out; omega); intro v295 w73 ho hb hg hat; rw [← Ny294.out] at ho; have n0_ := Aside0.mk (Kd.R_over' (by (with_reducible repeat (first | apply Kd.R_alloc | apply Kd.R_drewN | apply Kd.R_drew)); exact HO_8.out) (Kd.R_typed (by (with_reducible repeat (first | apply Kd.R_alloc | apply Kd.R_drewN | apply Kd.R_drew)); exact HO_13.out)) (by decide) hg); have n1_ := Aside0.mk (Kd.R_after (ok := (fun _ => True)) (by (with_reducible repeat (first | apply Kd.R_alloc | apply Kd.R_drewN | apply Kd.R_drew)); exact Kd.R_mono HO_11.out (fun _ hk => ⟨trivial, hk⟩)) hg hat); have n2_ := Aside0.mk (hb); have n3_ := Aside0.mk (ho); clear HO_8; clear HO_11; clear HB; clear HO_13; have HO_8 := n0_; have HO_11 := n1_; have HB := n2_; have HO296 := n3_; clear n0_ n1_ n2_ n3_; clear ho hb hg hat))
                  go_roundg kj35
                  case measure => have := HK1.out; have := HK2.out; have := HJ29.out; have := HK4.out; have := HJ35.out; omega
                  case rel => exact ⟨(y294), (wrap64 (x14_2 + 1)), (by first | rfl | (simp; done) | (simp [*]; done)), H', ⟨by have := HK1.out; have := HK2.out; have := HJ29.out; have := HK4.out; have := HJ35.out; omega⟩, ⟨by (with_reducible repeat (first | apply Kd.R_alloc | apply Kd.R_drewN | apply Kd.R_drew)); exact HO_8.out⟩, ⟨by (with_reducible repeat (first | apply Kd.R_alloc | apply Kd.R_drewN | apply Kd.R_drew)); exact Kd.R_mono HO_11.out (fun _ hk => hk.2)⟩, ⟨by (with_reducible repeat (first | apply Kd.R_alloc | apply Kd.R_drewN | apply Kd.R_drew)); exact HO296.out⟩, ⟨by repeat (first | (with_reducible first | exact HB.out | apply below_alloc | apply pw_below_drewN | apply below_drew1) | exact HB.out)⟩⟩
                 ·rw [if_neg c72] at H
                  exact absurd H (by simp)
         ·rw [if_neg c29] at H
          exact absurd H (by simp)
        ·rw [if_neg c28] at H
         exact absurd H (by simp)
       ·rw [if_neg c27] at H
        have c27b0 : decide (x14_2 < a1) = false := decide_eq_false c27
        clear c27
        have H' := Aside0.mk H
        clear H
        go_wp2
        go_loopg [18, 19] k2 (fun kq v18 v19 w' => ∃ (x18_3 : Int) (x19_3 : Int), v18 = .int .i64 x18_3 ∧ v19 = .int .i64 x19_3 ∧ Aside0 (chainmanref48_Groups.l3 kq a1 x13_2 x18_3 x19_3 = some (r1, r2)) ∧ Aside0 (kq ≤ k2) ∧ Aside0 (Kd.R (Kd.int .i64) 3 w' w.heap.size (fun _ => True) u13 x13_2) ∧ Aside0 (Below w.heap.size w w'))
        case atStart => exact ⟨(0), (0), (by first | rfl | (simp; done) | (simp [*]; done)), (by first | rfl | (simp; done) | (simp [*]; done)), H', ⟨Nat.le_refl _⟩, ⟨by (with_reducible repeat (first | apply Kd.R_alloc | apply Kd.R_drewN | apply Kd.R_drew)); exact Kd.R_mono HO_13.out (fun _ hk => trivial)⟩, ⟨by repeat (first | (with_reducible first | exact HB.out | apply below_alloc | apply pw_below_drewN | apply below_drew1) | exact HB.out)⟩⟩
        case round =>
         clear H'
         try clear c1
         try clear q1
         try clear c2
         try clear p2
         try clear q2
         try clear hx2
         try clear c3
         try clear p3
         try clear q3
         try clear hx3
         try clear c4
         try clear c5
         try clear q5
         try clear c6
         try clear p6
         try clear q6
         try clear c7
         try clear c9
         try clear c9b0
         try clear c10
         try clear c10b0
         try clear c11
         try clear c11b0
         try clear c12
         try clear c12b0
         try clear q13
         try clear c14
         try clear c15
         try clear c15b0
         try clear c16
         try clear c16b0
         try clear q17
         try clear c18
         try clear c19
         try clear c24
         try clear c27
         try clear c27b0
         try clear p27
         try clear q27
         try clear hx27
         try clear c28
         try clear c28b0
         try clear p28
         try clear q28
         try clear hx28
         try clear c29
         try clear c29b0
         try clear p29
         try clear q29
         try clear hx29
         try clear c30
         try clear p30
         try clear q30
         try clear hx30
         try clear c32
         try clear q32
         try clear c33
         try clear c34
         try clear c34b0
         try clear c37
         try clear c37b0
         try clear c38
         try clear c38b0
         try clear c39
         try clear c39b0
         try clear c40
         try clear c41
         try clear c41b0
         try clear c42
         try clear c42b0
         try clear c44
         try clear c44b0
         try clear c44b1
         try clear c45
         try clear c45b0
         try clear c46
         try clear c46b0
         try clear c47
         try clear c47b0
         try clear c47b1
         try clear c48
         try clear c48b0
         try clear c49
         try clear c49b0
         try clear c50
         try clear c50b0
         try clear q51
         try clear c52
         try clear c53
         try clear c53b0
         try clear c54
         try clear c54b0
         try clear c56
         try clear c56b0
         try clear c57
         try clear c57b0
         try clear c60
         try clear c60b0
         try clear c61
         try clear c61b0
         try clear c62
         try clear c62b0
         try clear q63
         try clear c64
         try clear p64
         try clear c65
         try clear c65b0
         try clear c66
         try clear c66b0
         try clear c68
         try clear c68b0
         try clear c69
         try clear c69b0
         try clear c72
         try clear hx279_0
         try clear hx279_1
         try clear hx280_0
         try clear hx281_0
         try clear hx281_1
         try clear hx282_0
         try clear hx283_0
         try clear hx283_1
         try clear hx291_0
         try clear hx292_0
         try clear hx293_0
         try clear hx297_0
         try clear hx297_1
         try clear hx298_0
         try clear hx298_1
         try clear hx299_0
         try clear hx299_1
         try clear hx300_0
         try clear hx300_1
         try clear hx301_0
         try clear hx302_0
         try clear hx303_0
         try clear hx304_0
         try clear hx305_0
         try clear hx306_0
         try clear hx307_0
         try clear hx308_0
         try clear p2
         try clear p27
         try clear p279
         try clear p28
         try clear p280
         try clear p281
         try clear p282
         try clear p283
         try clear p29
         try clear p291
         try clear p292
         try clear p293
         try clear p297
         try clear p298
         try clear p299
         try clear p300
         try clear p301
         try clear p302
         try clear p303
         try clear p304
         try clear p305
         try clear p306
         try clear p307
         try clear p308
         try clear p6
         try clear q1
         try clear q13
         try clear q17
         try clear q2
         try clear q27
         try clear q279
         try clear q28
         try clear q280
         try clear q281
         try clear q282
         try clear q283
         try clear q29
         try clear q291
         try clear q292
         try clear q293
         try clear q297
         try clear q298
         try clear q299
         try clear q3
         try clear q300
         try clear q301
         try clear q302
         try clear q303
         try clear q304
         try clear q305
         try clear q306
         try clear q307
         try clear q308
         try clear q32
         obtain ⟨x18_3, x19_3, rfl, rfl, HA, HK3, HO_13, HB⟩ := hrel
         cases gk with
         | zero => exact absurd HA.out (by simp [chainmanref48_Groups.l3])
         | succ k3 =>
          have H := HA.out
          clear HA
          simp only [chainmanref48_Groups.l3] at H
          by_cases c74 : x19_3 < a1
          ·rw [if_pos c74] at H
           have c74b0 : decide (x19_3 < a1) = true := decide_eq_true c74
           clear c74
           by_cases c75 : 0 ≤ x19_3
           ·rw [if_pos c75] at H
            have c75b0 : decide (0 ≤ x19_3) = true := decide_eq_true c75
            clear c75
            by_cases c76 : x19_3 < (x13_2.length : Int)
            ·rw [if_pos c76] at H
             have c76b0 : decide (x19_3 < (x13_2.length : Int)) = true := decide_eq_true c76
             clear c76
             by_cases c77 : (rd x13_2 x19_3) = x19_3
             ·rw [if_pos c77] at H
              have c77b0 : ((rd x13_2 x19_3) == x19_3) = true := beq_iff_eq.mpr c77
              have c77b1 : ((rd x13_2 x19_3) != x19_3) = false := bne_eq_false_iff_eq.mpr c77
              clear c77
              have H' := Aside0.mk H
              clear H
              obtain ⟨Ao78, co78, eo78⟩ := Kd.R_slice HO_13.out
              subst eo78
              have p309 : 0 ≤ (x19_3 : Int) := of_decide_eq_true (by assumption)
              have q309 : x19_3 < (x13_2.length : Int) := of_decide_eq_true (by assumption)
              obtain ⟨ad309, e309, hx309_0⟩ := Kd.at_int (Kd.R_reads' HO_13.out).2.2 x19_3 p309 q309
              cases e309
              replace p309 := eq_true p309
              replace q309 := eq_true q309
              go_wp2
              go_roundg k3
              case measure => have := HK1.out; have := HK2.out; have := HK3.out; omega
              case rel => exact ⟨(wrap64 (x18_3 + 1)), (wrap64 (x19_3 + 1)), (by first | rfl | (simp; done) | (simp [*]; done)), (by first | rfl | (simp; done) | (simp [*]; done)), H', ⟨by have := HK1.out; have := HK2.out; have := HK3.out; omega⟩, ⟨by (with_reducible repeat (first | apply Kd.R_alloc | apply Kd.R_drewN | apply Kd.R_drew)); exact HO_13.out⟩, ⟨by repeat (first | (with_reducible first | exact HB.out | apply below_alloc | apply pw_below_drewN | apply below_drew1) | exact HB.out)⟩⟩
             ·rw [if_neg c77] at H
              have c77b0 : ((rd x13_2 x19_3) == x19_3) = false := beq_eq_false_iff_ne.mpr c77
              have c77b1 : ((rd x13_2 x19_3) != x19_3) = true := bne_iff_ne.mpr c77
              have H' := Aside0.mk H
              clear H
              obtain ⟨Ao79, co79, eo79⟩ := Kd.R_slice HO_13.out
              subst eo79
              have p309 : 0 ≤ (x19_3 : Int) := of_decide_eq_true (by assumption)
              have q309 : x19_3 < (x13_2.length : Int) := of_decide_eq_true (by assumption)
              obtain ⟨ad309, e309, hx309_0⟩ := Kd.at_int (Kd.R_reads' HO_13.out).2.2 x19_3 p309 q309
              cases e309
              replace p309 := eq_true p309
              replace q309 := eq_true q309
              go_wp2
              go_roundg k3
              case measure => have := HK1.out; have := HK2.out; have := HK3.out; omega
              case rel => exact ⟨(x18_3), (wrap64 (x19_3 + 1)), (by first | rfl | (simp; done) | (simp [*]; done)), (by first | rfl | (simp; done) | (simp [*]; done)), H', ⟨by have := HK1.out; have := HK2.out; have := HK3.out; omega⟩, ⟨by (with_reducible repeat (first | apply Kd.R_alloc | apply Kd.R_drewN | apply Kd.R_drew)); exact HO_13.out⟩, ⟨by repeat (first | (with_reducible first | exact HB.out | apply below_alloc | apply pw_below_drewN | apply below_drew1) | exact HB.out)⟩⟩
            ·rw [if_neg c76] at H
             exact absurd H (by simp)
           ·rw [if_neg c75] at H
            exact absurd H (by simp)
          ·rw [if_neg c74] at H
           have c74b0 : decide (x19_3 < a1) = false := decide_eq_false c74
           clear c74
           simp only [Option.some.injEq, Prod.mk.injEq] at H
           obtain ⟨rfl, rfl⟩ := H
           go_wp2
           go_ret2
           exact ⟨_, by first | rfl | (simp [errW_none, errW_some] <;> rfl) | (simp [*, errW_none, errW_some] <;> rfl), by (with_reducible repeat (first | apply Kd.R_alloc | apply Kd.R_drewN | apply Kd.R_drew)); exact HO_13.out, by repeat (first | (with_reducible first | exact HB.out | apply below_alloc | apply pw_below_drewN | apply below_drew1) | exact HB.out)⟩
 ·replace c5 := Bool.eq_false_iff.mpr c5
  subst c5
  have H1 : (some (([] : List Int), 0)) = some (r1, r2) := by rw [if_neg (show ¬ (false = true) by decide)] at H; exact H
  clear H
  have H := H1
  clear H1
  simp only [Option.some.injEq, Prod.mk.injEq] at H
  obtain ⟨rfl, rfl⟩ := H
  go_enter Try.func24, Try.ntmps24
  go_wp2_with (first | ((with_reducible refine gate_callee (f := 73) rfl ?_); refine goesL_ (some 23) rfl rfl Try.func73 (by kernel_rfl) rfl #[.slice A0 l0.length c0, .int .i64 a1, .int .i64 a2] rfl (by (try simp only [List.map_toArray, List.map_cons, List.map_nil]); first | done | rfl) ?_; (with_reducible refine (chainmanref48_may.calls k _ _ l0 a1 a2 false _ ?side1 ?side2 A4.out).mono ?_); (case side1 => repeat (first | exact HR0.out | (with_reducible refine Kd.C_alloc ?_ _) | (with_reducible refine Kd.C_drewN ?_ _) | (with_reducible refine Kd.C_drew ?_))); (case side2 => exact HC0.out); rintro e w80 ⟨rfl, hb⟩; refine ⟨_, rfl, ?_⟩; have n0_ := Aside0.mk (below_step (by repeat (first | (with_reducible first | exact HB.out | apply below_alloc | apply pw_below_drewN | apply below_drew1) | exact HB.out)) hb); clear HB; have HB := n0_; clear n0_; (try clear hb); (try clear hb2); (try clear hk); (try clear hi)))
  go_ret2
  exact ⟨_, by first | rfl | (simp [errW_none, errW_some] <;> rfl) | (simp [*, errW_none, errW_some] <;> rfl), by first | exact Kd.R_nil _ _ _ _ _ | exact Kd.N_nil _ _ _ _ _ | exact Kd.V_nil _ _ _ _ _ | exact Kd.Q_nil _ _ _ _ _ | exact Kd.S_nil _ _ _ _ _, by repeat (first | (with_reducible first | exact HB.out | apply below_alloc | apply pw_below_drewN | apply below_drew1) | exact HB.out)⟩

end Go.Proofs.Ytjjjafhchombcaa.PDenseTells
