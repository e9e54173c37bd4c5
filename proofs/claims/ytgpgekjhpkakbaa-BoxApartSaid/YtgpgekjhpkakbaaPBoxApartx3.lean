/- The Go functions that the law reaches, as plain Lean functions, and proofs that the calls of the machine come to them, or the row of the law over them, for every input that the row speaks of; written by a program of this session (wip/tool/mkprint.py) out of the translation and of hand-made templates. -/
import Derived.Test.YtgpgekjhpkakbaaPBoxApartx0
import Derived.Test.YtgpgekjhpkakbaaPBoxApartx2
namespace Go.Proofs.Ytgpgekjhpkakbaa.PBoxApart
open Go.RowKit Go.Proofs.YtgpgekjhpkakbaaW.PrintWords Go.Proofs.YtgpgekjhpkakbaaW.PrintLast Go.Proofs.YtgpgekjhpkakbaaW.PrintMore
attribute [local go_sem] max2_int min2_int max_two min_two max_three min_three max_four min_four   -- for this text's walks alone
set_option linter.unusedVariables false
set_option linter.unusedSimpArgs false

/-! ### box_like: function 97 -/
def box_like.bad (first : Nat) (v : List Int) : Bool := !((dist_Right.f v).getD false) || !(v.length == first)
def box_like.f (l0 : List (List Int)) : Option Bool := some (!l0.any (box_like.bad (l0.headD []).length))
theorem box_like.elem {w : World} {A : Option Addr} {n : Nat} {xs : List (List Int)} (h : Kd.C (Kd.slice 3 (Kd.int .i64)) w A n xs) (x : Nat) (hx : x < n) : ∃ ad A0 c0, A = some ad ∧ w.cell? (ad.add x) = some (.slice A0 (xs.getD x []).length c0) ∧ (xs.getD x []).length ≤ c0 ∧ Kd.C (Kd.int .i64) w A0 (xs.getD x []).length (xs.getD x []) := by
  obtain ⟨ad, c, e, _, hK, hc0⟩ := Kd.C_get h ([] : List Int) (x : Int) (by omega) (by omega)
  obtain ⟨A0, c0, rfl, l0, g0⟩ := hK
  have hq := hc0 0 _ rfl
  rw [Int.toNat_natCast] at hq
  refine ⟨ad, A0, c0, e, ?_, l0, g0⟩
  rwa [show x * (Kd.slice 3 (Kd.int .i64)).sz + 0 = x from by show x * 1 + 0 = x; omega] at hq
set_option maxHeartbeats 4000000 in
set_option maxRecDepth 100000 in
theorem box_like.each (B : Nat) (A1 : Option Addr) (c1 : Nat) (ls : List (List Int)) (A0 : Option Addr) (c0 : Nat) (v : List Int) (w : World) (hc : w.cell? ⟨B, 0, none⟩ = some (.slice A1 ls.length c1)) (hr1 : Kd.C (Kd.slice 3 (Kd.int .i64)) w A1 ls.length ls) (hn : 0 < ls.length) (hr0 : Kd.C (Kd.int .i64) w A0 v.length v) (hc0 : v.length ≤ c0) :
    Calls Try.prog 121 #[.slice A0 v.length c0, .pointer (some ⟨B, 0, none⟩)] w fun e w' => e = .returned (.bool (box_like.bad (ls.headD []).length v)) ∧ Below w.heap.size w w' := by
  obtain ⟨ad, A2, c2, rfl, hcell, _, _⟩ := box_like.elem hr1 0 hn
  have eh : ls.getD 0 [] = ls.headD [] := by cases ls <;> rfl
  rw [eh] at hcell
  have e0 : ad.add 0 = ad := by simp [Addr.add]
  rw [e0] at hcell
  have hcall := dist_Right.calls A0 c0 v ((dist_Right.f v).getD false) w hr0 hc0 rfl
  have HN : Aside0 (0 < ls.length) := ⟨hn⟩
  have b2 : ((0 : Int) < (ls.length : Int)) = True := eq_true (by omega)
  unfold box_like.bad
  have hlen : ∀ n : Nat, (((v.length : Nat) : Int) == (n : Int)) = (v.length == n) := fun n => by
    rw [Bool.eq_iff_iff]; simp; omega
  generalize (ls.headD []).length = first at hcell
  have hl := hlen first
  generalize (v.length == first) = q at hl ⊢
  replace hn := eq_true hn
  clear hr0 hr1 eh e0 hlen
  generalize (dist_Right.f v).getD false = ok at hcall ⊢
  cases ok with
  | false =>
    go_enter Try.func121, Try.ntmps121
    go_wp2_with (go_at_call 77; refine hcall.mono ?_; rintro e w' ⟨rfl, hb⟩)
    go_ret
    exact ⟨rfl, hb⟩
  | true =>
    have HCC := Aside0.mk hcell
    have HC0 := Aside0.mk hc
    clear hcell hc
    go_enter Try.func121, Try.ntmps121
    go_wp2_with (go_at_call 77; refine hcall.mono ?_; rintro e w' ⟨rfl, hb⟩; have d0 := (hb.cell (World.block_lt_of_cell? w _ HC0.out)).trans HC0.out; have d1 := (hb.cell (World.block_lt_of_cell? w _ HCC.out)).trans HCC.out)
    go_ret
    exact ⟨by rw [← hl]; rfl, hb⟩
set_option maxHeartbeats 4000000 in
set_option maxRecDepth 100000 in
theorem box_like.index (B : Nat) (A0 : Option Addr) (c0 : Nat) (l0 : List (List Int)) (w : World) (hc : w.cell? ⟨B, 0, none⟩ = some (.slice A0 l0.length c0)) (hr0 : Kd.C (Kd.slice 3 (Kd.int .i64)) w A0 l0.length l0) :
    Calls Try.prog 124 #[.slice A0 l0.length c0, .func (.func 121) #[] #[.pointer (some ⟨B, 0, none⟩)]] w fun e w' => (∃ r : Int, e = .returned (.int .i64 r) ∧ decide (0 ≤ r) = l0.any (box_like.bad (l0.headD []).length)) ∧ Below w.heap.size w w' := by
  have HR := Aside0.mk hr0
  have HC := Aside0.mk hc
  have HM := Aside0.mk (Kd.C_max hr0)
  have eg : ∀ args w, (callFunc 121 args).run Try.prog w = .ok (.enter 121 args) w := enters_of Try.func121 (by kernel_rfl) rfl
  clear hr0 hc
  go_enter Try.func124, Try.ntmps124
  go_wp2
  go_loopw [5, 8] (fun _ s8 wr => ∃ x : Nat, x ≤ l0.length ∧ s8 = .int .i64 (x : Int) ∧ Aside0 (Below w.heap.size w wr) ∧ Aside0 (∀ j, j < x → box_like.bad (l0.headD []).length (l0.getD j []) = false)) (fun _ i _ => l0.length - (intOf i).toNat)
  case atStart => exact ⟨0, Nat.zero_le _, rfl, ⟨Below.refl _ w⟩, ⟨fun j hj => absurd hj (Nat.not_lt_zero _)⟩⟩
  case round =>
    obtain ⟨x, hx, rfl, HB, HJ⟩ := hrel
    have hm := HM.out
    by_cases hlt : x < l0.length
    · obtain ⟨ad, A2, c2, ead, hcell, hc2, hr2⟩ := box_like.elem HR.out x hlt
      cases ead
      replace hcell := (HB.out.cell (World.block_lt_of_cell? w _ hcell)).trans hcell
      have hcall := box_like.each B (some ad) c0 l0 A2 c2 (l0.getD x []) _ ((HB.out.cell (World.block_lt_of_cell? w _ HC.out)).trans HC.out) (Kd.C_below HR.out HB.out) (Nat.lt_of_le_of_lt (Nat.zero_le _) hlt) (Kd.C_below hr2 HB.out) hc2
      have HX := Aside0.mk hlt
      have b1 : decide ((x : Int) < (l0.length : Int)) = true := decide_eq_true (by omega)
      have b2 : ((0 : Int) ≤ (x : Int)) = True := eq_true (by omega)
      have HG : Aside0 (l0.getD x [] ∈ l0) := ⟨by
        rw [List.getD_eq_getElem?_getD, List.getElem?_eq_getElem hlt]
        exact List.getElem_mem hlt⟩
      have HE : Aside0 (∀ q, box_like.bad (l0.headD []).length (l0.getD x []) = q → box_like.bad (l0.headD []).length (l0.getD x []) = q) := ⟨fun _ h => h⟩
      generalize hv : l0.getD x [] = v at hcell hcall HG HE
      have HV := Aside0.mk hv
      clear hv hr2
      generalize hq : box_like.bad (l0.headD []).length v = q at hcall
      have HQ := Aside0.mk hq
      clear hq
      cases q with
      | true =>
        go_wp2_with (go_at_fn 121; refine hcall.mono ?_; rintro e w' ⟨rfl, hb⟩)
        go_ret
        exact ⟨⟨_, rfl, by rw [List.any_eq_true.mpr ⟨v, HG.out, HQ.out⟩]; exact decide_eq_true (by omega)⟩, HB.out.trans (hb.mono HB.out.size)⟩
      | false =>
        go_wp2_with (go_at_fn 121; refine hcall.mono ?_; rintro e w' ⟨rfl, hb⟩)
        go_roundw
        case rel =>
          refine ⟨x + 1, HX.out, by go_num, ⟨HB.out.trans (hb.mono HB.out.size)⟩, ⟨fun j hj => ?_⟩⟩
          by_cases e : j = x
          · subst e
            rw [HV.out]; exact HQ.out
          · exact HJ.out j (by omega)
        case measure => have := HX.out; simp [intOf]; omega
    · obtain rfl : x = l0.length := by omega
      go_wp2
      go_ret
      refine ⟨⟨_, rfl, ?_⟩, HB.out⟩
      rw [show l0.any (box_like.bad (l0.headD []).length) = false from List.any_eq_false.mpr fun y hy => ?_]
      · rfl
      · obtain ⟨j, hj, rfl⟩ := List.getElem_of_mem hy
        have := HJ.out j hj
        rw [List.getD_eq_getElem?_getD, List.getElem?_eq_getElem hj] at this
        simpa using this
set_option maxHeartbeats 2000000 in
set_option maxRecDepth 100000 in
theorem box_like.contains (B : Nat) (A0 : Option Addr) (c0 : Nat) (l0 : List (List Int)) (w : World) (hc : w.cell? ⟨B, 0, none⟩ = some (.slice A0 l0.length c0)) (hr0 : Kd.C (Kd.slice 3 (Kd.int .i64)) w A0 l0.length l0) :
    Calls Try.prog 120 #[.slice A0 l0.length c0, .func (.func 121) #[] #[.pointer (some ⟨B, 0, none⟩)]] w fun e w' => e = .returned (.bool (l0.any (box_like.bad (l0.headD []).length))) ∧ Below w.heap.size w w' := by
  have hi := box_like.index B A0 c0 l0 w hc hr0
  clear hr0 hc
  generalize l0.any (box_like.bad (l0.headD []).length) = q at hi ⊢
  go_enter Try.func120, Try.ntmps120
  go_wp2_with (go_at_call 124; refine hi.mono ?_; rintro e w' ⟨⟨r, rfl, rfl⟩, hb⟩)
  go_ret
  exact ⟨rfl, hb⟩
set_option maxHeartbeats 2000000 in
set_option maxRecDepth 100000 in
theorem box_like.calls (A0 : Option Addr) (c0 : Nat) (l0 : List (List Int)) (r : Bool) (w : World) (hr0 : Kd.C (Kd.slice 3 (Kd.int .i64)) w A0 l0.length l0) (hc0 : l0.length ≤ c0) (h : box_like.f l0 = some r) :
    Calls Try.prog 97 #[.slice A0 l0.length c0] w fun e w' => e = .returned (.bool r) ∧ Below w.heap.size w w' := by
  unfold box_like.f at h
  obtain rfl := Option.some.inj h
  clear h
  have hcell : (w.alloc (.cells #[.slice A0 l0.length c0] 68)).cell? ⟨w.heap.size, 0, none⟩ = some (.slice A0 l0.length c0) := by
    have h := World.alloc_heap_new w (.cells #[.slice A0 l0.length c0] 68)
    unfold World.cell?
    rw [h]
    rfl
  have hcall := box_like.contains w.heap.size A0 c0 l0 _ hcell (Kd.C_alloc hr0 _)
  clear hr0
  generalize l0.any (box_like.bad (l0.headD []).length) = q at hcall ⊢
  have HB := Aside0.mk (below_alloc (Below.refl w.heap.size w) (.cells #[.slice A0 l0.length c0] 68))
  go_enter Try.func97, Try.ntmps97
  go_wp2_with (go_at_call 120; refine hcall.mono ?_; rintro e w' ⟨rfl, hb⟩)
  go_ret
  exact ⟨rfl, HB.out.trans (hb.mono HB.out.size)⟩


/-! ### slices_Clone_int_int: function 98 -/
theorem slices_Clone_int_int.info : (Try.prog.info? 3).map (fun i => (i.zero, i.size, i.bytes)) = some (some (.int .i64 0), 1, 8) := by kernel_rfl
def slices_Clone_int_int.f (l0 : List Int) : Option (List Int) := if l0.length ≤ 1000000000 then some l0 else none
set_option maxHeartbeats 4000000 in
set_option maxRecDepth 100000 in
theorem slices_Clone_int_int.calls (A0 : Option Addr) (c0 : Nat) (l0 : List Int) (r : List Int) (w : World) (hr0 : Kd.C (Kd.int .i64) w A0 l0.length l0) (hc0 : l0.length ≤ c0) (h : slices_Clone_int_int.f l0 = some r) :
    Calls Try.prog 98 #[.slice A0 l0.length c0] w fun e w' => ∃ v0_ : Value, e = .returned v0_ ∧ Kd.R (Kd.int .i64) 3 w' w.heap.size (fun _ => True) v0_ r ∧ Below w.heap.size w w' := by
  unfold slices_Clone_int_int.f at h
  by_cases c : l0.length ≤ 1000000000
  case neg => rw [if_neg c] at h; cases h
  rw [if_pos c] at h
  obtain rfl := Option.some.inj h
  clear h
  have HR := Aside0.mk hr0
  have HM := Aside0.mk c
  cases A0 with
  | none =>
    have hz : l0.length = 0 := by
      rcases Nat.eq_zero_or_pos l0.length with z | z
      · exact z
      · obtain ⟨ad, e, _⟩ := hr0.2.2 z; cases e
    obtain rfl : l0 = [] := List.eq_nil_of_length_eq_zero hz
    have hnil := fun W : World => Lib.run_eql_slice_nil (P := Try.prog) W 37 _ none 0 c0 0 0 Try.underlying37
    clear hr0
    go_enter Try.func98, Try.ntmps98
    go_wp2
    go_ret
    exact ⟨_, rfl, Kd.R_nil _ _ _ _ _, Below.refl _ _⟩
  | some ad =>
    clear hr0
    have hnil := fun W : World => Lib.run_eql_slice_nil (P := Try.prog) W 37 _ (some ad) l0.length c0 0 0 Try.underlying37
    go_enter Try.func98, Try.ntmps98
    have HO := Aside0.mk (Kd.R_of_own (enc := Value.int .i64) (h1 := fun _ => rfl) (ok := fun _ => True) (xs := []) (World.ownsRow_lit (base := w.heap.size) (e := 3) (size := 1) w #[] 0 (Nat.le_refl _) (by decide) rfl) (fun _ _ => trivial))
    have HB := Aside0.mk (below_alloc (Below.refl w.heap.size w) (.cells #[] 3))
    go_wp2_with (at_builtin; refine Kd.R_append_rows (Kd.int .i64) (w0 := w) w.heap.size rfl (.tmp 5) (.tmp 6) 37 3 (.int .i64 0) 8 rfl Try.underlying37 slices_Clone_int_int.info rfl (by decide) (by omega) _ [] l0 (some ad) l0.length c0 (fun _ => True) (fun _ => False) rfl rfl HO.out (Kd.C_alloc HR.out _) ?aK (fun _ hk => hk.elim) (fun _ _ => trivial) HB.out HB.out.size ?aL ?_; (case aK => exact fun _ _ h_ => h_); (case aL => have := HM.out; simp; omega); intro v1 w3 ho hb hg hat; rw [List.nil_append] at ho; have HO2 := Aside0.mk ho; have HB2 := Aside0.mk hb; clear HO HB ho hb hg hat)
    go_ret
    exact ⟨_, rfl, HO2.out, HB2.out⟩


/-! ### box_zip_int_int_int: function 99 -/
theorem box_zip_int_int_int.info : (Try.prog.info? 3).map (fun i => (i.zero, i.size, i.bytes)) = some (some (.int .i64 0), 1, 8) := by kernel_rfl
set_option maxHeartbeats 4000000 in
set_option maxRecDepth 100000 in
theorem box_zip_int_int_int.zips (p : Int → Int → Int) (g : Nat) (eg : ∀ args w, (callFunc g args).run Try.prog w = .ok (.enter g args) w) (hp : ∀ (x y : Int) (W : World), Calls Try.prog g #[.int .i64 x, .int .i64 y] W fun e w' => e = .returned (.int .i64 (p x y)) ∧ Below W.heap.size W w')
    (A0 : Option Addr) (c0 : Nat) (l0 : List Int) (A1 : Option Addr) (c1 : Nat) (l1 : List Int) (w : World) (hr0 : Kd.C (Kd.int .i64) w A0 l0.length l0) (hc0 : l0.length ≤ c0) (hr1 : Kd.C (Kd.int .i64) w A1 l1.length l1) (hc1 : l1.length ≤ c1) (hl : l0.length ≤ l1.length) (hm : l0.length ≤ 1000000000) :
    Calls Try.prog 99 #[.slice A0 l0.length c0, .slice A1 l1.length c1, .func (.func g) #[] #[]] w fun e w' => ∃ v0_ : Value, e = .returned v0_ ∧ Kd.R (Kd.int .i64) 3 w' w.heap.size (fun _ => True) v0_ (List.zipWith p l0 l1) ∧ Below w.heap.size w w' := by
  obtain ⟨i0, hi, hz0, hz1, hz2⟩ := info_parts box_zip_int_int_int.info
  have HR := Aside0.mk hr0
  have HR1 := Aside0.mk hr1
  have HL := Aside0.mk hl
  have HM := Aside0.mk hm
  have HP := Aside0.mk hp
  clear hr0 hr1 hl hp
  go_enter Try.func99, Try.ntmps99
  go_wp2_with (at_make; refine wpList_make_own _ rfl _ _ 37 rfl w.heap.size 3 i0 (.int .i64 0) 1 Try.underlying37 hi hz0 hz1 .i64 .i64 _ l0.length rfl rfl (by first | rfl | omega) (by rw [hz2]; omega) (by unfold maxLen; omega) (Nat.le_refl _) ?_; intro w0 hown0 hgrow0)
  have HO0 := Aside0.mk (Kd.R_of_own (enc := Value.int .i64) (h1 := fun _ => rfl) (ok := fun _ => True) (xs := []) hown0 (fun _ _ => trivial))
  have HB0 := Aside0.mk ((Below.refl w.heap.size w).grown hgrow0 (Nat.le_refl _) (fun k e => by cases e))
  clear hown0 hgrow0 hm hi hz0 hz1 hz2
  go_loopw [7, 15] (fun v i wr => ∃ x : Nat, i = .int .i64 (x : Int) ∧ x ≤ l0.length ∧ Aside0 (Kd.R (Kd.int .i64) 3 wr w.heap.size (fun _ => True) v (List.zipWith p (l0.take x) (l1.take x))) ∧ Aside0 (Below w.heap.size w wr)) (fun _ i _ => l0.length - (intOf i).toNat)
  case atStart => exact ⟨0, rfl, Nat.zero_le _, HO0, HB0⟩
  case round =>
    clear HO0 HB0
    obtain ⟨x, rfl, hx, HO, HB⟩ := hrel
    have hm := HM.out
    by_cases hlt : x < l0.length
    · have hlt1 : x < l1.length := Nat.lt_of_lt_of_le hlt HL.out
      obtain ⟨ad, ead, hcell⟩ := Kd.at_int HR.out (x : Int) (by omega) (by omega)
      cases ead
      replace hcell := (HB.out.cell (World.block_lt_of_cell? w _ hcell)).trans hcell
      obtain ⟨ad1, ead1, hcell1⟩ := Kd.at_int HR1.out (x : Int) (by omega) (by omega)
      cases ead1
      replace hcell1 := (HB.out.cell (World.block_lt_of_cell? w _ hcell1)).trans hcell1
      have hrd : rd l0 (x : Int) = l0[x] := by
        show l0.getD (x : Int).toNat 0 = _
        rw [Int.toNat_natCast, List.getD_eq_getElem?_getD, List.getElem?_eq_getElem hlt]; rfl
      have hrd1 : rd l1 (x : Int) = l1[x] := by
        show l1.getD (x : Int).toNat 0 = _
        rw [Int.toNat_natCast, List.getD_eq_getElem?_getD, List.getElem?_eq_getElem hlt1]; rfl
      rw [hrd, Int.toNat_natCast] at hcell
      rw [hrd1, Int.toNat_natCast] at hcell1
      have HZ : Aside0 (List.zipWith p (l0.take (x + 1)) (l1.take (x + 1)) = List.zipWith p (l0.take x) (l1.take x) ++ [p l0[x] l1[x]]) := ⟨by
        rw [List.take_succ_eq_append_getElem hlt, List.take_succ_eq_append_getElem hlt1, List.zipWith_append (by simp; omega)]; rfl⟩
      have HZL : Aside0 ((List.zipWith p (l0.take x) (l1.take x)).length ≤ 1000000000) := ⟨by
        rw [List.length_zipWith, List.length_take]; have := HM.out; omega⟩
      have hcall := HP.out l0[x] l1[x]
      generalize l0[x] = y at hcell hcall HZ
      generalize l1[x] = y1 at hcell1 hcall HZ
      clear hrd hrd1
      have HX := Aside0.mk hlt
      have hlI : (x : Int) < (l1.length : Int) := by omega
      have b1 : decide ((x : Int) < (l0.length : Int)) = true := decide_eq_true (by omega)
      go_wp2_with (first | (go_at_fn g; refine (hcall _).mono ?_; rintro e w1 ⟨rfl, hb'⟩; have HO1 := Aside0.mk (Kd.R_below HO.out hb'); have HB1 := Aside0.mk (below_step HB.out hb'); clear HO HB hb' hcell hcell1 hcall) | (at_builtin; refine Kd.R_append (Kd.int .i64) (w0 := w) w.heap.size rfl (.tmp 20) (.tmp 28) 37 3 (.int .i64 0) 8 rfl Try.underlying37 box_zip_int_int_int.info rfl (by decide) (by omega) _ _ (p y y1) [.int .i64 (p y y1)] (fun _ => True) (fun _ => False) rfl rfl ?aP (fun _ hk => hk.elim) (fun _ _ => trivial) HO1.out HB1.out HB1.out.size ?aL ?_; (case aP => exact rfl); (case aL => have := HZL.out; omega); intro v1 w3 ho hb hg hat; have HO2 := Aside0.mk ho; have HB2 := Aside0.mk hb; clear HO1 HB1 ho hb hg hat))
      go_roundw
      case rel => exact ⟨x + 1, by go_num, HX.out, ⟨by rw [HZ.out]; exact HO2.out⟩, HB2⟩
      case measure => have := HX.out; simp [intOf]; omega
    · obtain rfl : x = l0.length := by omega
      have b1 : decide ((l0.length : Int) < (l0.length : Int)) = false := decide_eq_false (by omega)
      have HZ : Aside0 (List.zipWith p (l0.take l0.length) (l1.take l0.length) = List.zipWith p l0 l1) := ⟨by
        rw [List.take_length]
        have e : l1 = l1.take l0.length ++ l1.drop l0.length := (List.take_append_drop _ _).symm
        have := List.zipWith_append (f := p) (l₁ := l0) (l₁' := []) (l₂ := l1.take l0.length) (l₂' := l1.drop l0.length) (by rw [List.length_take]; have := HL.out; omega)
        rw [List.append_nil, ← e] at this
        rw [this]; simp⟩
      go_wp2
      go_ret
      exact ⟨_, rfl, by rw [← HZ.out]; exact HO.out, HB.out⟩

/-! ### box_lower: function 100 -/
def box_lower.f (a0 : Int) (a1 : Int) : Option (Int) := some (mn a0 a1)
set_option maxHeartbeats 8000000 in
set_option maxRecDepth 100000 in
theorem box_lower.calls (a0 : Int) (a1 : Int) (r : Int) (w : World) (h : box_lower.f a0 a1 = some r) :
    Calls Try.prog 100 #[.int .i64 a0, .int .i64 a1] w fun e w' => e = .returned (.int .i64 r) ∧ Below w.heap.size w w' := by
  have HB := Aside0.mk (Below.refl w.heap.size w)
  have H : (some (mn a0 a1)) = some r := h
  clear h
  obtain ⟨ji3, hji3⟩ : ∃ j_ : Int, (mn a0 a1) = j_ := ⟨_, rfl⟩
  replace H : (some ji3) = some r := by first | (rw [hji3] at H; exact H) | (simp only [hji3] at H ⊢; exact H)
  have hji3_ : (if a1 < a0 then a1 else a0) = ji3 := hji3
  obtain rfl := Option.some.inj H
  go_enter Try.func100, Try.ntmps100
  go_wp2
  go_ret
  exact ⟨by first | rfl | (simp [errW_none, errW_some] <;> rfl) | (simp only [← hji3]; first | rfl | (simp [errW_none, errW_some] <;> rfl)) | (simp [*, errW_none, errW_some] <;> rfl), by repeat (first | (with_reducible first | exact HB.out | apply below_alloc | apply pw_below_drewN | apply below_drew1) | exact HB.out)⟩

/-! ### box_higher: function 101 -/
def box_higher.f (a0 : Int) (a1 : Int) : Option (Int) := some (mx a0 a1)
set_option maxHeartbeats 8000000 in
set_option maxRecDepth 100000 in
theorem box_higher.calls (a0 : Int) (a1 : Int) (r : Int) (w : World) (h : box_higher.f a0 a1 = some r) :
    Calls Try.prog 101 #[.int .i64 a0, .int .i64 a1] w fun e w' => e = .returned (.int .i64 r) ∧ Below w.heap.size w w' := by
  have HB := Aside0.mk (Below.refl w.heap.size w)
  have H : (some (mx a0 a1)) = some r := h
  clear h
  obtain ⟨ji3, hji3⟩ : ∃ j_ : Int, (mx a0 a1) = j_ := ⟨_, rfl⟩
  replace H : (some ji3) = some r := by first | (rw [hji3] at H; exact H) | (simp only [hji3] at H ⊢; exact H)
  have hji3_ : (if a0 < a1 then a1 else a0) = ji3 := hji3
  obtain rfl := Option.some.inj H
  go_enter Try.func101, Try.ntmps101
  go_wp2
  go_ret
  exact ⟨by first | rfl | (simp [errW_none, errW_some] <;> rfl) | (simp only [← hji3]; first | rfl | (simp [errW_none, errW_some] <;> rfl)) | (simp [*, errW_none, errW_some] <;> rfl), by repeat (first | (with_reducible first | exact HB.out | apply below_alloc | apply pw_below_drewN | apply below_drew1) | exact HB.out)⟩

/-! ### box_zip_gap: function 99 -/
set_option maxHeartbeats 1000000 in
set_option maxRecDepth 100000 in
theorem box_zip_gap.each (x y : Int) (W : World) : Calls Try.prog 108 #[.int .i64 x, .int .i64 y] W fun e w' => e = .returned (.int .i64 (mx 0 (wrap64 (x - y)))) ∧ Below W.heap.size W w' := by
  obtain ⟨z, hz⟩ : ∃ z, wrap64 (x - y) = z := ⟨_, rfl⟩
  have hz2 : IntKind.i64.wrap (x - y) = z := (i64_w _).trans hz
  rw [hz]
  rcases Int.lt_or_le 0 z with hc | hc
  all_goals (go_enter Try.func108, Try.ntmps108; go_wp2; go_ret; exact ⟨by first | (rw [show mx 0 z = z from by unfold mx; split <;> omega]; done) | (rw [show mx 0 z = z from by unfold mx; split <;> omega]; rfl) | (rw [show mx 0 z = 0 from by unfold mx; split <;> omega]; done) | (rw [show mx 0 z = 0 from by unfold mx; split <;> omega]; rfl), by repeat (first | exact Below.refl _ _ | apply below_alloc | apply pw_below_drewN | apply below_drew1)⟩)
def box_zip_gap.f (l0 l1 : List Int) (_ : Unit) : Option (List Int) := if l0.length ≤ l1.length ∧ l0.length ≤ 1000000000 then some (List.zipWith (fun x y => mx 0 (wrap64 (x - y))) l0 l1) else none
theorem box_zip_gap.calls (A0 : Option Addr) (c0 : Nat) (l0 : List Int) (A1 : Option Addr) (c1 : Nat) (l1 : List Int) (u : Unit) (r : List Int) (w : World) (hr0 : Kd.C (Kd.int .i64) w A0 l0.length l0) (hc0 : l0.length ≤ c0) (hr1 : Kd.C (Kd.int .i64) w A1 l1.length l1) (hc1 : l1.length ≤ c1) (h : box_zip_gap.f l0 l1 u = some r) :
    Calls Try.prog 99 #[.slice A0 l0.length c0, .slice A1 l1.length c1, .func (.func 108) #[] #[]] w fun e w' => ∃ v0_ : Value, e = .returned v0_ ∧ Kd.R (Kd.int .i64) 3 w' w.heap.size (fun _ => True) v0_ r ∧ Below w.heap.size w w' := by
  unfold box_zip_gap.f at h
  by_cases c : l0.length ≤ l1.length ∧ l0.length ≤ 1000000000
  · rw [if_pos c] at h
    obtain rfl := Option.some.inj h
    exact box_zip_int_int_int.zips (fun x y => mx 0 (wrap64 (x - y))) 108 (enters_of Try.func108 (by kernel_rfl) rfl) (fun x y W => box_zip_gap.each x y W) A0 c0 l0 A1 c1 l1 w hr0 hc0 hr1 hc1 c.1 c.2
  · rw [if_neg c] at h; cases h


/-! ### box_zip_sub: function 99 -/
set_option maxHeartbeats 1000000 in
set_option maxRecDepth 100000 in
theorem box_zip_sub.each (x y : Int) (W : World) : Calls Try.prog 109 #[.int .i64 x, .int .i64 y] W fun e w' => e = .returned (.int .i64 (wrap64 (x - y))) ∧ Below W.heap.size W w' := by
  skip
  (go_enter Try.func109, Try.ntmps109; go_wp2; go_ret; exact ⟨rfl, by repeat (first | exact Below.refl _ _ | apply below_alloc | apply pw_below_drewN | apply below_drew1)⟩)
def box_zip_sub.f (l0 l1 : List Int) (_ : Unit) : Option (List Int) := if l0.length ≤ l1.length ∧ l0.length ≤ 1000000000 then some (List.zipWith (fun x y => wrap64 (x - y)) l0 l1) else none
theorem box_zip_sub.calls (A0 : Option Addr) (c0 : Nat) (l0 : List Int) (A1 : Option Addr) (c1 : Nat) (l1 : List Int) (u : Unit) (r : List Int) (w : World) (hr0 : Kd.C (Kd.int .i64) w A0 l0.length l0) (hc0 : l0.length ≤ c0) (hr1 : Kd.C (Kd.int .i64) w A1 l1.length l1) (hc1 : l1.length ≤ c1) (h : box_zip_sub.f l0 l1 u = some r) :
    Calls Try.prog 99 #[.slice A0 l0.length c0, .slice A1 l1.length c1, .func (.func 109) #[] #[]] w fun e w' => ∃ v0_ : Value, e = .returned v0_ ∧ Kd.R (Kd.int .i64) 3 w' w.heap.size (fun _ => True) v0_ r ∧ Below w.heap.size w w' := by
  unfold box_zip_sub.f at h
  by_cases c : l0.length ≤ l1.length ∧ l0.length ≤ 1000000000
  · rw [if_pos c] at h
    obtain rfl := Option.some.inj h
    exact box_zip_int_int_int.zips (fun x y => wrap64 (x - y)) 109 (enters_of Try.func109 (by kernel_rfl) rfl) (fun x y W => box_zip_sub.each x y W) A0 c0 l0 A1 c1 l1 w hr0 hc0 hr1 hc1 c.1 c.2
  · rw [if_neg c] at h; cases h


/-! ### box_zip_higher: function 99 -/
def box_zip_higher.f (l0 l1 : List Int) (_ : Unit) : Option (List Int) := if l0.length ≤ l1.length ∧ l0.length ≤ 1000000000 then some (List.zipWith (fun x y => mx x y) l0 l1) else none
theorem box_zip_higher.calls (A0 : Option Addr) (c0 : Nat) (l0 : List Int) (A1 : Option Addr) (c1 : Nat) (l1 : List Int) (u : Unit) (r : List Int) (w : World) (hr0 : Kd.C (Kd.int .i64) w A0 l0.length l0) (hc0 : l0.length ≤ c0) (hr1 : Kd.C (Kd.int .i64) w A1 l1.length l1) (hc1 : l1.length ≤ c1) (h : box_zip_higher.f l0 l1 u = some r) :
    Calls Try.prog 99 #[.slice A0 l0.length c0, .slice A1 l1.length c1, .func (.func 101) #[] #[]] w fun e w' => ∃ v0_ : Value, e = .returned v0_ ∧ Kd.R (Kd.int .i64) 3 w' w.heap.size (fun _ => True) v0_ r ∧ Below w.heap.size w w' := by
  unfold box_zip_higher.f at h
  by_cases c : l0.length ≤ l1.length ∧ l0.length ≤ 1000000000
  · rw [if_pos c] at h
    obtain rfl := Option.some.inj h
    exact box_zip_int_int_int.zips (fun x y => mx x y) 101 (enters_of Try.func101 (by kernel_rfl) rfl) (fun x y W => box_higher.calls x y _ W rfl) A0 c0 l0 A1 c1 l1 w hr0 hc0 hr1 hc1 c.1 c.2
  · rw [if_neg c] at h; cases h


/-! ### box_zip_lower: function 99 -/
def box_zip_lower.f (l0 l1 : List Int) (_ : Unit) : Option (List Int) := if l0.length ≤ l1.length ∧ l0.length ≤ 1000000000 then some (List.zipWith (fun x y => mn x y) l0 l1) else none
theorem box_zip_lower.calls (A0 : Option Addr) (c0 : Nat) (l0 : List Int) (A1 : Option Addr) (c1 : Nat) (l1 : List Int) (u : Unit) (r : List Int) (w : World) (hr0 : Kd.C (Kd.int .i64) w A0 l0.length l0) (hc0 : l0.length ≤ c0) (hr1 : Kd.C (Kd.int .i64) w A1 l1.length l1) (hc1 : l1.length ≤ c1) (h : box_zip_lower.f l0 l1 u = some r) :
    Calls Try.prog 99 #[.slice A0 l0.length c0, .slice A1 l1.length c1, .func (.func 100) #[] #[]] w fun e w' => ∃ v0_ : Value, e = .returned v0_ ∧ Kd.R (Kd.int .i64) 3 w' w.heap.size (fun _ => True) v0_ r ∧ Below w.heap.size w w' := by
  unfold box_zip_lower.f at h
  by_cases c : l0.length ≤ l1.length ∧ l0.length ≤ 1000000000
  · rw [if_pos c] at h
    obtain rfl := Option.some.inj h
    exact box_zip_int_int_int.zips (fun x y => mn x y) 100 (enters_of Try.func100 (by kernel_rfl) rfl) (fun x y W => box_lower.calls x y _ W rfl) A0 c0 l0 A1 c1 l1 w hr0 hc0 hr1 hc1 c.1 c.2
  · rw [if_neg c] at h; cases h


end Go.Proofs.Ytgpgekjhpkakbaa.PBoxApart
