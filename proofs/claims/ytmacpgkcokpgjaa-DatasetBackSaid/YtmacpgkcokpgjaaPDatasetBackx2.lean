/- The Go functions that the law reaches, as plain Lean functions, and proofs that the calls of the machine come to them, or the row of the law over them, for every input that the row speaks of; written by a program of this session (wip/tool/mkprint.py) out of the translation and of hand-made templates. -/
import Derived.Test.YtmacpgkcokpgjaaPDatasetBackx0
import Derived.Test.YtmacpgkcokpgjaaPDatasetBackx1
namespace Go.Proofs.Ytmacpgkcokpgjaa.PDatasetBack
open Go.RowKit Go.Proofs.YtmacpgkcokpgjaaW.PrintWords Go.Proofs.YtmacpgkcokpgjaaW.PrintLast Go.Proofs.YtmacpgkcokpgjaaW.PrintMore
attribute [local go_sem] max2_int min2_int max_two min_two max_three min_three max_four min_four   -- for this text's walks alone
set_option linter.unusedVariables false
set_option linter.unusedSimpArgs false

/-! ### dataset_Lay: function 46 -/
def dataset_Lay.one (x : Int) : Option (ByteArray × Bool) := (octet_PutCoord.f x).bind fun p => if p.2 = true then (dataset_may.f x).bind fun m => some (p.1, m) else some (p.1, false)
def dataset_Lay.vec (d : Int) (v : List Int) : Option (ByteArray × Bool) := if v.length ≤ 1000000000 then (dataset_each_int_string_158.go dataset_Lay.one [] v).bind fun q => (strings_Join.f q.1 ⟨#[]⟩).bind fun j => some (j, q.2 && decide ((v.length : Int) = d)) else none
def dataset_Lay.f (l0 : List (List Int)) : Option (ByteArray × Bool) :=
  if l0.length ≤ 1000000000 then (if l0.length = 0 then some (⟨#[]⟩, false) else
    (dataset_shaped.f (l0.length : Int) ((l0.getD 0 []).length : Int)).bind fun s => if s = true then
      (octet_Put.f (l0.length : Int) 4).bind fun n => (octet_Put.f ((l0.getD 0 []).length : Int) 2).bind fun d =>
        (dataset_each_int_string_111.go (dataset_Lay.vec ((l0.getD 0 []).length : Int)) [] l0).bind fun q => if q.2 = true then
          (strings_Join.f q.1 ⟨#[]⟩).bind fun j => if 4 + n.1.size ≤ 9223372036854775807 ∧ 4 + n.1.size + d.1.size ≤ 9223372036854775807 ∧ 4 + n.1.size + d.1.size + j.size ≤ 9223372036854775807 then some ((⟨#[86, 69, 67, 49]⟩ : ByteArray) ++ n.1 ++ d.1 ++ j, true) else none
        else some (⟨#[]⟩, false)
      else some (⟨#[]⟩, false)) else none
set_option maxHeartbeats 4000000 in
set_option maxRecDepth 100000 in
theorem dataset_Lay.one_calls (x : Int) (y : ByteArray) (b : Bool) (W : World) (h : dataset_Lay.one x = some (y, b)) :
    Calls Try.prog 159 #[.int .i64 x] W fun e w' => e = .returned (.tuple #[.string y, .bool b]) ∧ Below W.heap.size W w' := by
  unfold dataset_Lay.one at h
  obtain ⟨⟨p, ok⟩, hp, h1⟩ := Option.bind_eq_some_iff.mp h
  clear h
  have hP := fun W => octet_PutCoord.calls x p ok W hp
  clear hp
  cases ok with
  | false =>
    rw [if_neg (by simp)] at h1
    obtain ⟨e1, e2⟩ := Prod.mk.inj (Option.some.inj h1)
    clear h1
    subst e1 e2
    go_enter Try.func159, Try.ntmps159
    go_wp2_with (first | (go_at_call 160; refine (hP _).mono ?_; rintro e w' ⟨rfl, hb⟩))
    go_ret2
    exact ⟨rfl, hb⟩
  | true =>
    rw [if_pos rfl] at h1
    obtain ⟨m, hm, h2⟩ := Option.bind_eq_some_iff.mp h1
    clear h1
    obtain ⟨e1, e2⟩ := Prod.mk.inj (Option.some.inj h2)
    clear h2
    subst e1 e2
    have hM := fun W => dataset_may.calls x m W hm
    clear hm
    go_enter Try.func159, Try.ntmps159
    go_wp2_with (first | (go_at_call 160; refine (hP _).mono ?_; rintro e w' ⟨rfl, hb⟩; have HB := Aside0.mk hb; clear hb) | (go_at_call 118; refine (hM _).mono ?_; rintro e w2 ⟨rfl, ⟨nd, rfl⟩⟩))
    go_ret2
    exact ⟨rfl, pw_below_drewN HB.out _⟩
theorem dataset_Lay.kb1 {W0 W : World} {p : Addr} {a : Value} (hp : p.block < W0.heap.size) (ha : W0.cell? p = some a) (h : Below W0.heap.size W0 W) : Below W0.heap.size W0 W ∧ W.cell? p = some a := ⟨h, (h.cell hp).trans ha⟩
set_option maxHeartbeats 4000000 in
set_option maxRecDepth 100000 in
theorem dataset_Lay.vec_calls (d : Int) (A : Option Addr) (c : Nat) (v : List Int) (y : ByteArray) (b : Bool) (g : Nat) (W : World) (hg : W.cell? ⟨g, 0, none⟩ = some (.int .i64 d)) (hr : Kd.C (Kd.int .i64) W A v.length v) (hc : v.length ≤ c) (h : dataset_Lay.vec d v = some (y, b)) :
    Calls Try.prog 157 #[.slice A v.length c, .pointer (some ⟨g, 0, none⟩)] W fun e w' => e = .returned (.tuple #[.string y, .bool b]) ∧ Below W.heap.size W w' := by
  unfold dataset_Lay.vec at h
  split at h
  case isFalse => cases h
  case isTrue hm =>
  obtain ⟨⟨q, qb⟩, hq, h1⟩ := Option.bind_eq_some_iff.mp h
  clear h
  obtain ⟨j, hj, h2⟩ := Option.bind_eq_some_iff.mp h1
  clear h1
  obtain ⟨e1, e2⟩ := Prod.mk.inj (Option.some.inj h2)
  clear h2
  subst e1 e2
  have hE := dataset_each_int_string_158.runs dataset_Lay.one 159 #[] (enters_of Try.func159 (by kernel_rfl) rfl) A c v W hr hc hm (fun x y b W' _ hF _ => dataset_Lay.one_calls x y b W' hF) q qb hq
  have hJ := fun A c W hr hc => strings_Join.calls A c q ⟨#[]⟩ j W hr hc hj
  have HV := Aside0.mk hm
  have HG := Aside0.mk hg
  clear hq hj hr hm hg
  go_enter Try.func157, Try.ntmps157
  go_upto_region 2 with (first | (go_at_call 158; refine hE.mono ?_; rintro e w1 ⟨v0, rfl, ho, hb⟩; obtain ⟨A1, c1, rfl, hle, hC⟩ := Kd.R_reads ho; have HC := Aside0.mk hC; have HB := Aside0.mk hb; clear ho hb hC hE))
  have HB0 := Below.refl w1.heap.size w1
  have L0 : g < w1.heap.size := Nat.lt_of_lt_of_le (World.block_lt_of_cell? W _ HG.out) HB.out.size
  have c0 : w1.cell? ⟨g, 0, none⟩ = some (.int .i64 d) := (HB.out.cell (World.block_lt_of_cell? W _ HG.out)).trans HG.out
  cases qb with
  | true =>
    refine start_ (ds := []) (n := 11) (S := fun _ => True) #[false, false, false, false, false, false, false, false, false, false, false] (by kernel_rfl) rfl (by rfl) (trivial) (fun hHeld => ?_)
    refine pure_ (i := 0) (N := (some 12)) (v := ?_) (a' := ?_) #[true, false, false, false, false, false, false, false, false, false, false] rfl rfl (by kernel_rfl) (fun _ _ _ h => h) (Or.inl ⟨by rfl, ?_⟩) ?_ ?_
    rotate_left
    · intro w'
      go_simp
      first | with_reducible rfl | rfl
    rotate_left
    · simp only [Act.put, List.setIfInBounds_toArray, List.set_cons_zero, List.set_cons_succ, i64_w, i32_w]
      rfl
    refine pure_ (i := 2) (N := (some 14)) (v := ?_) (a' := ?_) #[true, false, true, false, false, false, false, false, false, false, false] rfl rfl (by kernel_rfl) (fun _ _ _ h => h) (Or.inl ⟨by rfl, ?_⟩) ?_ ?_
    rotate_left
    · intro w'
      go_simp
      first | with_reducible rfl | rfl
    rotate_left
    · simp only [Act.put, List.setIfInBounds_toArray, List.set_cons_zero, List.set_cons_succ, i64_w, i32_w]
      rfl
    refine one_ (i := 1) (N := (some 13)) #[true, true, true, false, false, false, false, false, false, false, false] rfl rfl (by kernel_rfl) (by decide) (fun K hK => ?_)
    refine goes_ Try.func98 (by kernel_rfl) rfl #[.slice A1 q.length c1, .string ⟨#[]⟩] (by rfl) rfl rfl (by (try simp only [List.map_toArray, List.map_cons, List.map_nil]); first | done | rfl | (simp only [List.length_drop, List.length_take]; rfl)) ?_
    with_reducible refine (hJ _ _ _ (Kd.C_below HC.out (by repeat (first | exact HB0 | refine below_drew1 ?_ | refine pw_below_drewN ?_ _))) hle).mono ?_
    rintro e w2 ⟨rfl, hb⟩
    have c2 : w2.cell? ⟨g, 0, none⟩ = some (.int .i64 d) := ((below_step (below_drew1 HB0) hb).cell L0).trans c0
    refine ⟨_, rfl, ?_⟩
    refine hK.out _ _ (trivial) (fun hHeld => ?_)
    clear hK K
    refine norm_ (a' := ?_) ?_ ?_
    rotate_left
    · show Act.put _ (some 13) _ = _
      simp only [Act.put, List.setIfInBounds_toArray, List.set_cons_zero, List.set_cons_succ, i64_w, i32_w]
      rfl
    refine pure_ (i := 3) (N := (some 15)) (v := ?_) (a' := ?_) #[true, true, true, true, false, false, false, false, false, false, false] rfl rfl (by kernel_rfl) (fun _ _ _ h => h) (Or.inl ⟨by rfl, ?_⟩) ?_ ?_
    rotate_left
    · intro w'
      go_simp
      first | with_reducible rfl | rfl
    rotate_left
    · simp only [Act.put, List.setIfInBounds_toArray, List.set_cons_zero, List.set_cons_succ, i64_w, i32_w]
      rfl
    refine pure_ (i := 9) (N := (some 3)) (v := ?_) (a' := ?_) #[true, true, true, true, false, false, false, false, false, true, false] rfl rfl (by kernel_rfl) (fun _ _ _ h => h) (Or.inl ⟨by rfl, ?_⟩) ?_ ?_
    rotate_left
    · intro w'
      go_simp
      first | with_reducible rfl | rfl
    rotate_left
    · simp only [Act.put, List.setIfInBounds_toArray, List.set_cons_zero, List.set_cons_succ, i64_w, i32_w]
      rfl
    refine pure_ (i := 4) (N := (some 16)) (v := ?_) (a' := ?_) #[true, true, true, true, true, false, false, false, false, true, false] rfl rfl (by kernel_rfl) (fun _ _ _ h => h) (Or.inl ⟨by rfl, ?_⟩) ?_ ?_
    rotate_left
    · intro w'
      go_simp
      first | with_reducible rfl | rfl
    rotate_left
    · simp only [Act.put, List.setIfInBounds_toArray, List.set_cons_zero, List.set_cons_succ, i64_w, i32_w]
      rfl
    refine pure_ (i := 5) (N := (some 17)) (v := ?_) (a' := ?_) #[true, true, true, true, true, true, false, false, false, true, false] rfl rfl (by kernel_rfl) (fun _ _ _ h => h) (Or.inl ⟨by rfl, ?_⟩) ?_ ?_
    rotate_left
    · intro w'
      go_simp
      first | with_reducible rfl | rfl
    rotate_left
    · simp only [Act.put, List.setIfInBounds_toArray, List.set_cons_zero, List.set_cons_succ, i64_w, i32_w]
      rfl
    refine one_ (i := 6) (N := (some 18)) #[true, true, true, true, true, true, true, false, false, true, false] rfl rfl (by kernel_rfl) (by decide) (fun K hK => ?_)
    rw [if_pos (by rfl)]
    go_simp
    refine hK.out _ _ (trivial) (fun hHeld => ?_)
    clear hK K
    refine pure_ (i := 7) (N := (some 19)) (v := ?_) (a' := ?_) #[true, true, true, true, true, true, true, true, false, true, false] rfl rfl (by kernel_rfl) (fun _ _ _ h => h) (Or.inl ⟨by rfl, ?_⟩) ?_ ?_
    rotate_left
    · intro w'
      go_simp
      first | with_reducible rfl | rfl
    rotate_left
    · simp only [Act.put, List.setIfInBounds_toArray, List.set_cons_zero, List.set_cons_succ, i64_w, i32_w]
      rfl
    refine pure_ (i := 8) (N := (some 20)) (v := ?_) (a' := ?_) #[true, true, true, true, true, true, true, true, true, true, false] rfl rfl (by kernel_rfl) (fun _ _ _ h => h) (Or.inl ⟨by rfl, ?_⟩) ?_ ?_
    rotate_left
    · intro w'
      go_simp
      first | with_reducible rfl | rfl
    rotate_left
    · simp only [Act.put, List.setIfInBounds_toArray, List.set_cons_zero, List.set_cons_succ, i64_w, i32_w]
      rfl
    refine pure_ (i := 10) (N := (some 4)) (v := ?_) (a' := ?_) #[true, true, true, true, true, true, true, true, true, true, true] rfl rfl (by kernel_rfl) (fun _ _ _ h => h) (Or.inl ⟨by rfl, ?_⟩) ?_ ?_
    rotate_left
    · intro w'
      go_simp
      first | with_reducible rfl | rfl
    rotate_left
    · simp only [Act.put, List.setIfInBounds_toArray, List.set_cons_zero, List.set_cons_succ, i64_w, i32_w]
      rfl
    refine done_ (by kernel_rfl) ?_
    try go_wp2
    go_ret2
    exact ⟨by first | rfl | simp, below_step (below_step HB.out (below_drew1 HB0)) hb⟩
  | false =>
    refine start_ (ds := []) (n := 11) (S := fun _ => True) #[false, false, false, false, false, false, false, false, false, false, false] (by kernel_rfl) rfl (by rfl) (trivial) (fun hHeld => ?_)
    refine pure_ (i := 0) (N := (some 12)) (v := ?_) (a' := ?_) #[true, false, false, false, false, false, false, false, false, false, false] rfl rfl (by kernel_rfl) (fun _ _ _ h => h) (Or.inl ⟨by rfl, ?_⟩) ?_ ?_
    rotate_left
    · intro w'
      go_simp
      first | with_reducible rfl | rfl
    rotate_left
    · simp only [Act.put, List.setIfInBounds_toArray, List.set_cons_zero, List.set_cons_succ, i64_w, i32_w]
      rfl
    refine pure_ (i := 2) (N := (some 14)) (v := ?_) (a' := ?_) #[true, false, true, false, false, false, false, false, false, false, false] rfl rfl (by kernel_rfl) (fun _ _ _ h => h) (Or.inl ⟨by rfl, ?_⟩) ?_ ?_
    rotate_left
    · intro w'
      go_simp
      first | with_reducible rfl | rfl
    rotate_left
    · simp only [Act.put, List.setIfInBounds_toArray, List.set_cons_zero, List.set_cons_succ, i64_w, i32_w]
      rfl
    refine one_ (i := 1) (N := (some 13)) #[true, true, true, false, false, false, false, false, false, false, false] rfl rfl (by kernel_rfl) (by decide) (fun K hK => ?_)
    refine goes_ Try.func98 (by kernel_rfl) rfl #[.slice A1 q.length c1, .string ⟨#[]⟩] (by rfl) rfl rfl (by (try simp only [List.map_toArray, List.map_cons, List.map_nil]); first | done | rfl | (simp only [List.length_drop, List.length_take]; rfl)) ?_
    with_reducible refine (hJ _ _ _ (Kd.C_below HC.out (by repeat (first | exact HB0 | refine below_drew1 ?_ | refine pw_below_drewN ?_ _))) hle).mono ?_
    rintro e w2 ⟨rfl, hb⟩
    have c2 : w2.cell? ⟨g, 0, none⟩ = some (.int .i64 d) := ((below_step (below_drew1 HB0) hb).cell L0).trans c0
    refine ⟨_, rfl, ?_⟩
    refine hK.out _ _ (trivial) (fun hHeld => ?_)
    clear hK K
    refine norm_ (a' := ?_) ?_ ?_
    rotate_left
    · show Act.put _ (some 13) _ = _
      simp only [Act.put, List.setIfInBounds_toArray, List.set_cons_zero, List.set_cons_succ, i64_w, i32_w]
      rfl
    refine pure_ (i := 3) (N := (some 15)) (v := ?_) (a' := ?_) #[true, true, true, true, false, false, false, false, false, false, false] rfl rfl (by kernel_rfl) (fun _ _ _ h => h) (Or.inl ⟨by rfl, ?_⟩) ?_ ?_
    rotate_left
    · intro w'
      go_simp
      first | with_reducible rfl | rfl
    rotate_left
    · simp only [Act.put, List.setIfInBounds_toArray, List.set_cons_zero, List.set_cons_succ, i64_w, i32_w]
      rfl
    refine pure_ (i := 9) (N := (some 3)) (v := ?_) (a' := ?_) #[true, true, true, true, false, false, false, false, false, true, false] rfl rfl (by kernel_rfl) (fun _ _ _ h => h) (Or.inl ⟨by rfl, ?_⟩) ?_ ?_
    rotate_left
    · intro w'
      go_simp
      first | with_reducible rfl | rfl
    rotate_left
    · simp only [Act.put, List.setIfInBounds_toArray, List.set_cons_zero, List.set_cons_succ, i64_w, i32_w]
      rfl
    refine pure_ (i := 4) (N := (some 16)) (v := undef) (a' := ?_) #[true, true, true, true, true, false, false, false, false, true, false] rfl rfl (by kernel_rfl) (fun _ _ _ h => h) (Or.inr ⟨by rfl, rfl⟩) ?_ ?_
    rotate_left
    · simp only [Act.put, List.setIfInBounds_toArray, List.set_cons_zero, List.set_cons_succ, i64_w, i32_w]
      rfl
    refine pure_ (i := 5) (N := (some 17)) (v := undef) (a' := ?_) #[true, true, true, true, true, true, false, false, false, true, false] rfl rfl (by kernel_rfl) (fun _ _ _ h => h) (Or.inr ⟨by rfl, rfl⟩) ?_ ?_
    rotate_left
    · simp only [Act.put, List.setIfInBounds_toArray, List.set_cons_zero, List.set_cons_succ, i64_w, i32_w]
      rfl
    refine pure_ (i := 6) (N := (some 18)) (v := undef) (a' := ?_) #[true, true, true, true, true, true, true, false, false, true, false] rfl rfl (by kernel_rfl) (fun _ _ _ h => h) (Or.inr ⟨by rfl, rfl⟩) ?_ ?_
    rotate_left
    · simp only [Act.put, List.setIfInBounds_toArray, List.set_cons_zero, List.set_cons_succ, i64_w, i32_w]
      rfl
    refine pure_ (i := 7) (N := (some 19)) (v := undef) (a' := ?_) #[true, true, true, true, true, true, true, true, false, true, false] rfl rfl (by kernel_rfl) (fun _ _ _ h => h) (Or.inr ⟨by rfl, rfl⟩) ?_ ?_
    rotate_left
    · simp only [Act.put, List.setIfInBounds_toArray, List.set_cons_zero, List.set_cons_succ, i64_w, i32_w]
      rfl
    refine pure_ (i := 8) (N := (some 20)) (v := ?_) (a' := ?_) #[true, true, true, true, true, true, true, true, true, true, false] rfl rfl (by kernel_rfl) (fun _ _ _ h => h) (Or.inl ⟨by rfl, ?_⟩) ?_ ?_
    rotate_left
    · intro w'
      go_simp
      first | with_reducible rfl | rfl
    rotate_left
    · simp only [Act.put, List.setIfInBounds_toArray, List.set_cons_zero, List.set_cons_succ, i64_w, i32_w]
      rfl
    refine pure_ (i := 10) (N := (some 4)) (v := ?_) (a' := ?_) #[true, true, true, true, true, true, true, true, true, true, true] rfl rfl (by kernel_rfl) (fun _ _ _ h => h) (Or.inl ⟨by rfl, ?_⟩) ?_ ?_
    rotate_left
    · intro w'
      go_simp
      first | with_reducible rfl | rfl
    rotate_left
    · simp only [Act.put, List.setIfInBounds_toArray, List.set_cons_zero, List.set_cons_succ, i64_w, i32_w]
      rfl
    refine done_ (by kernel_rfl) ?_
    try go_wp2
    go_ret2
    exact ⟨by first | rfl | simp, below_step (below_step HB.out (below_drew1 HB0)) hb⟩
theorem dataset_Lay.laid_calls (d : Int) (w : World) : Calls Try.prog 112 #[.int .i64 d] w fun e w' => e = .returned (.func (.func 157) #[] #[.pointer (some ⟨w.heap.size, 0, none⟩)]) ∧ w' = w.alloc (.cells #[.int .i64 d] 3) := by
  go_enter Try.func112, Try.ntmps112
  go_wp2
  go_ret
  exact ⟨rfl, rfl⟩
set_option maxHeartbeats 8000000 in
set_option maxRecDepth 100000 in
theorem dataset_Lay.calls (A0 : Option Addr) (c0 : Nat) (l0 : List (List Int)) (r1 : ByteArray) (r2 : Bool) (w : World) (hr0 : Kd.C (Kd.slice 3 (Kd.int .i64)) w A0 l0.length l0) (hc0 : l0.length ≤ c0) (h : dataset_Lay.f l0 = some (r1, r2)) :
    Calls Try.prog 46 #[.slice A0 l0.length c0] w fun e w' => e = .returned (.tuple #[.string r1, .bool r2]) ∧ Below w.heap.size w w' := by
  unfold dataset_Lay.f at h
  split at h
  case isFalse => cases h
  case isTrue hm =>
  have HR := Aside0.mk hr0
  have HM := Aside0.mk hm
  split at h
  case isTrue hz =>
    obtain ⟨e1, e2⟩ := Prod.mk.inj (Option.some.inj h)
    clear h
    subst e1 e2
    have hb0 : ((l0.length : Int) == 0) = true := by simp [hz]
    have hb1 : (l0.length : Int) = 0 := by omega
    clear hr0
    go_enter Try.func46, Try.ntmps46
    go_wp2
    go_ret2
    exact ⟨rfl, Below.refl _ _⟩
  case isFalse hz =>
  have hb1 : ¬ (l0.length : Int) = 0 := by omega
  have hpos : 0 < l0.length := by omega
  obtain ⟨v, hv⟩ : ∃ v, l0.getD 0 [] = v := ⟨_, rfl⟩
  have hv0 : l0[0] = v := by rw [← hv, List.getD_eq_getElem?_getD, List.getElem?_eq_getElem hpos]; rfl
  rw [hv] at h
  obtain ⟨ad, A1, c1, ead, hcell, hle, hC⟩ := dataset_each_int_string_111.at_ hr0 0 hpos hpos
  rw [hv0] at hcell hle hC
  cases ead
  replace hcell : w.cell? ad = some (.slice A1 v.length c1) := hcell
  have HC0 := Aside0.mk hcell
  clear hcell hC hr0 hv hv0
  obtain ⟨s, hs, h1⟩ := Option.bind_eq_some_iff.mp h
  clear h
  have hS := fun W => dataset_shaped.calls (l0.length : Int) (v.length : Int) s W hs
  clear hs
  cases s with
  | false =>
    rw [if_neg (by simp)] at h1
    obtain ⟨e1, e2⟩ := Prod.mk.inj (Option.some.inj h1)
    clear h1
    subst e1 e2
    have hcell := HC0.out
    go_enter Try.func46, Try.ntmps46
    go_wp2_with (first | (go_at_call 110; refine (hS _).mono ?_; rintro e w' ⟨rfl, ⟨nd, rfl⟩⟩))
    go_ret2
    exact ⟨rfl, pw_below_drewN (Below.refl _ _) _⟩
  | true =>
    rw [if_pos rfl] at h1
    obtain ⟨⟨n, nb⟩, hn, h2⟩ := Option.bind_eq_some_iff.mp h1
    clear h1
    obtain ⟨⟨d, db⟩, hd, h3⟩ := Option.bind_eq_some_iff.mp h2
    clear h2
    obtain ⟨⟨q, qb⟩, hq, h4⟩ := Option.bind_eq_some_iff.mp h3
    clear h3
    have hN := fun W => octet_Put.calls (l0.length : Int) 4 n nb W hn
    have hD := fun W => octet_Put.calls (v.length : Int) 2 d db W hd
    have hEg : ∀ args w, (callFunc 157 args).run Try.prog w = .ok (.enter 157 args) w := enters_of Try.func157 (by kernel_rfl) rfl
    clear hn hd
    have HQ := Aside0.mk hq
    clear hq
    cases qb with
    | false =>
      rw [if_neg (by simp)] at h4
      obtain ⟨e1, e2⟩ := Prod.mk.inj (Option.some.inj h4)
      clear h4
      subst e1 e2
      have hcell := HC0.out
      have HLT := Aside0.mk (World.block_lt_of_cell? w _ HC0.out)
      clear hm
      go_enter Try.func46, Try.ntmps46
      go_wp2_with (first | (go_at_call 110; refine (hS _).mono ?_; rintro e w' ⟨rfl, ⟨nd, rfl⟩⟩; have HB := Aside0.mk (pw_below_drewN (Below.refl w.heap.size w) nd); clear hcell; have hcell := (HB.out.cell HLT.out).trans HC0.out) | (go_at_call 102; with_reducible refine (hN _).mono ?_; rintro e w' ⟨rfl, hb⟩; have HB2 := Aside0.mk (below_step (by repeat (first | (with_reducible first | exact HB.out | apply below_alloc | apply pw_below_drewN | apply below_drew1) | exact HB.out)) hb); clear HB hb hcell; have HB := HB2; clear HB2; have hcell := (HB.out.cell HLT.out).trans HC0.out) | (go_at_call 102; with_reducible refine (hD _).mono ?_; rintro e w' ⟨rfl, hb⟩; have HB2 := Aside0.mk (below_step (by repeat (first | (with_reducible first | exact HB.out | apply below_alloc | apply pw_below_drewN | apply below_drew1) | exact HB.out)) hb); clear HB hb hcell; have HB := HB2; clear HB2; have hcell := (HB.out.cell HLT.out).trans HC0.out) | (go_at_call 112; refine (dataset_Lay.laid_calls _ _).mono ?_; rintro e w' ⟨rfl, rfl⟩) | (go_at_call 111; refine (dataset_each_int_string_111.runs (dataset_Lay.vec (v.length : Int)) 157 #[.pointer (some ⟨_, 0, none⟩)] hEg (some ad) c0 l0 _ (Kd.C_below HR.out (by repeat (first | (with_reducible first | exact HB.out | apply below_alloc | apply pw_below_drewN | apply below_drew1) | exact HB.out))) hc0 HM.out (fun A c x y b W' _ hF hB' hC' hle' => dataset_Lay.vec_calls (v.length : Int) A c x y b _ W' ((hB'.cell (World.block_lt_of_cell? _ _ (blk_cell (blk_new _ _) 0))).trans ((blk_cell (blk_new _ _) 0).trans rfl)) hC' hle' hF) q false HQ.out).mono ?_; rintro e w' ⟨v0, rfl, ho, hb⟩; obtain ⟨A2, c2, rfl, hle2, hC2⟩ := Kd.R_reads ho; have HC2 := Aside0.mk hC2; have HB2 := Aside0.mk (below_step (by repeat (first | (with_reducible first | exact HB.out | apply below_alloc | apply pw_below_drewN | apply below_drew1) | exact HB.out)) hb); clear HB hb hcell ho hC2; have HB := HB2; clear HB2))
      go_ret2
      exact ⟨rfl, HB.out⟩
    | true =>
      rw [if_pos rfl] at h4
      obtain ⟨j, hj, h5⟩ := Option.bind_eq_some_iff.mp h4
      clear h4
      split at h5
      case isFalse => cases h5
      case isTrue hlen =>
      obtain ⟨e1, e2⟩ := Prod.mk.inj (Option.some.inj h5)
      clear h5
      subst e1 e2
      have hcell := HC0.out
      have HLT := Aside0.mk (World.block_lt_of_cell? w _ HC0.out)
      clear hm
      have hJ := fun A c W hr hc => strings_Join.calls A c q ⟨#[]⟩ j W hr hc hj
      have HL1 := Aside0.mk hlen.1
      have HL2 := Aside0.mk (show ((⟨#[86, 69, 67, 49]⟩ : ByteArray) ++ n).size + d.size ≤ 9223372036854775807 by rw [ByteArray.size_append]; exact hlen.2.1)
      have HL3 := Aside0.mk (show ((⟨#[86, 69, 67, 49]⟩ : ByteArray) ++ n ++ d).size + j.size ≤ 9223372036854775807 by rw [ByteArray.size_append, ByteArray.size_append]; exact hlen.2.2)
      have HL4 := Aside0.mk hlen.2.1
      have HL5 := Aside0.mk hlen.2.2
      clear hj hlen
      go_enter Try.func46, Try.ntmps46
      go_wp2_with (first | (go_at_call 110; refine (hS _).mono ?_; rintro e w' ⟨rfl, ⟨nd, rfl⟩⟩; have HB := Aside0.mk (pw_below_drewN (Below.refl w.heap.size w) nd); clear hcell; have hcell := (HB.out.cell HLT.out).trans HC0.out) | (go_at_call 102; with_reducible refine (hN _).mono ?_; rintro e w' ⟨rfl, hb⟩; have HB2 := Aside0.mk (below_step (by repeat (first | (with_reducible first | exact HB.out | apply below_alloc | apply pw_below_drewN | apply below_drew1) | exact HB.out)) hb); clear HB hb hcell; have HB := HB2; clear HB2; have hcell := (HB.out.cell HLT.out).trans HC0.out) | (go_at_call 102; with_reducible refine (hD _).mono ?_; rintro e w' ⟨rfl, hb⟩; have HB2 := Aside0.mk (below_step (by repeat (first | (with_reducible first | exact HB.out | apply below_alloc | apply pw_below_drewN | apply below_drew1) | exact HB.out)) hb); clear HB hb hcell; have HB := HB2; clear HB2; have hcell := (HB.out.cell HLT.out).trans HC0.out) | (go_at_call 112; refine (dataset_Lay.laid_calls _ _).mono ?_; rintro e w' ⟨rfl, rfl⟩) | (go_at_call 111; refine (dataset_each_int_string_111.runs (dataset_Lay.vec (v.length : Int)) 157 #[.pointer (some ⟨_, 0, none⟩)] hEg (some ad) c0 l0 _ (Kd.C_below HR.out (by repeat (first | (with_reducible first | exact HB.out | apply below_alloc | apply pw_below_drewN | apply below_drew1) | exact HB.out))) hc0 HM.out (fun A c x y b W' _ hF hB' hC' hle' => dataset_Lay.vec_calls (v.length : Int) A c x y b _ W' ((hB'.cell (World.block_lt_of_cell? _ _ (blk_cell (blk_new _ _) 0))).trans ((blk_cell (blk_new _ _) 0).trans rfl)) hC' hle' hF) q true HQ.out).mono ?_; rintro e w' ⟨v0, rfl, ho, hb⟩; obtain ⟨A2, c2, rfl, hle2, hC2⟩ := Kd.R_reads ho; have HC2 := Aside0.mk hC2; have HB2 := Aside0.mk (below_step (by repeat (first | (with_reducible first | exact HB.out | apply below_alloc | apply pw_below_drewN | apply below_drew1) | exact HB.out)) hb); clear HB hb hcell ho hC2; have HB := HB2; clear HB2; have hl1 := HL1.out; have hl2 := HL2.out; have hl3 := HL3.out; have hl4 := HL4.out; have hl5 := HL5.out) | (go_at_call 98; refine (hJ _ _ _ (Kd.C_below HC2.out (by repeat (first | (with_reducible first | apply below_alloc | apply pw_below_drewN | apply below_drew1) | exact Below.refl _ _))) hle2).mono ?_; rintro e w' ⟨rfl, hb⟩; have HB2 := Aside0.mk (below_step (by repeat (first | (with_reducible first | exact HB.out | apply below_alloc | apply pw_below_drewN | apply below_drew1) | exact HB.out)) hb); clear HB hb; have HB := HB2; clear HB2; skip))
      go_ret2
      exact ⟨rfl, HB.out⟩


/-! ### octet_Split: function 101 -/
mutual
def octet_Split.j0 : Nat → ByteArray → Int → Bool → Option (List ByteArray × Bool)
  | 0, _, _, _ => none
  | k + 1, x0, x1, x15 => if x15 = true then (some (([] : List ByteArray), false)) else (octet_Split.l0 k x0 x1 ([] : List ByteArray))
def octet_Split.l0 : Nat → ByteArray → Int → List ByteArray → Option (List ByteArray × Bool)
  | 0, _, _, _ => none
  | k + 1, x0, x1, x6 => if x0.toList = ([] : List UInt8) then (some (x6, true)) else (if 0 ≤ x1 then (if x1 ≤ (x0.size : Int) then (if x6.length < 8796093022208 then (octet_Split.l0 k (x0.extract (x1 : Int).toNat x0.size) x1 (x6 ++ [x0.extract 0 (x1 : Int).toNat])) else (none)) else (none)) else (none))
end
def octet_Split.f (k : Nat) (a0 : ByteArray) (a1 : Int) : Option (List ByteArray × Bool) := if a1 < 1 then (octet_Split.j0 k a0 a1 true) else (if a1 = 0 then (none) else (octet_Split.j0 k a0 a1 (decide (((a0.size : Int) % a1) > 0))))
theorem octet_Split.mono_l : ∀ k, (∀ y0 y1 y2, LeO (octet_Split.j0 k y0 y1 y2) (octet_Split.j0 (k + 1) y0 y1 y2)) ∧ (∀ y0 y1 y2, LeO (octet_Split.l0 k y0 y1 y2) (octet_Split.l0 (k + 1) y0 y1 y2))
  | 0 => ⟨fun _ _ _ r h => by simp [octet_Split.j0] at h, fun _ _ _ r h => by simp [octet_Split.l0] at h⟩
  | k + 1 => by
    obtain ⟨ih0, ih1⟩ := octet_Split.mono_l k
    refine ⟨?_, ?_⟩
    · intro y0 y1 y2
      unfold octet_Split.j0
      repeat' first
      | (with_reducible exact ih0 _ _ _)
      | (with_reducible exact ih1 _ _ _)
      | (with_reducible exact LeO.refl _)
      | (with_reducible exact LeO.none _)
      | (with_reducible refine LeO.ite ?_ ?_)
      | (with_reducible refine LeO.bind ?_ (fun _ => ?_))
      | exact ih0 _ _ _
      | exact ih1 _ _ _
      | exact LeO.none _
      | refine LeO.ite ?_ ?_
      | refine LeO.bind ?_ (fun _ => ?_)
    · intro y0 y1 y2
      unfold octet_Split.l0
      repeat' first
      | (with_reducible exact ih0 _ _ _)
      | (with_reducible exact ih1 _ _ _)
      | (with_reducible exact LeO.refl _)
      | (with_reducible exact LeO.none _)
      | (with_reducible refine LeO.ite ?_ ?_)
      | (with_reducible refine LeO.bind ?_ (fun _ => ?_))
      | exact ih0 _ _ _
      | exact ih1 _ _ _
      | exact LeO.none _
      | refine LeO.ite ?_ ?_
      | refine LeO.bind ?_ (fun _ => ?_)
theorem octet_Split.mono : ∀ a0 a1 k, LeO (octet_Split.f k a0 a1) (octet_Split.f (k + 1) a0 a1) := by
  intro a0 a1 k
  obtain ⟨ih0, ih1⟩ := octet_Split.mono_l k
  unfold octet_Split.f
  repeat' first
      | (with_reducible exact ih0 _ _ _)
      | (with_reducible exact ih1 _ _ _)
      | (with_reducible exact LeO.refl _)
      | (with_reducible exact LeO.none _)
      | (with_reducible refine LeO.ite ?_ ?_)
      | (with_reducible refine LeO.bind ?_ (fun _ => ?_))
      | exact ih0 _ _ _
      | exact ih1 _ _ _
      | exact LeO.none _
      | refine LeO.ite ?_ ?_
      | refine LeO.bind ?_ (fun _ => ?_)
set_option maxHeartbeats 8000000 in
set_option maxRecDepth 100000 in
theorem octet_Split.calls (k : Nat) (a0 : ByteArray) (a1 : Int) (r1 : List ByteArray) (r2 : Bool) (w : World) (h : octet_Split.f k a0 a1 = some (r1, r2)) :
    Calls Try.prog 101 #[.string a0, .int .i64 a1] w fun e w' => ∃ v0_ : Value, e = .returned (.tuple #[v0_, .bool r2]) ∧ Kd.R Kd.string 9 w' w.heap.size (fun _ => True) v0_ r1 ∧ Below w.heap.size w w' := by
  have HB := Aside0.mk (Below.refl w.heap.size w)
  have H : (if a1 < 1 then (octet_Split.j0 k a0 a1 true) else (if a1 = 0 then (none) else (octet_Split.j0 k a0 a1 (decide (((a0.size : Int) % a1) > 0))))) = some (r1, r2) := h
  clear h
  have HC3 := Aside0.mk H
  clear H
  go_enter Try.func101, Try.ntmps101
  go_upto_region 1 with (fail)
  go_cut [15] (fun v15 wc => ∃ (kq : Nat) (x15_2 : Bool), v15 = .bool x15_2 ∧ Aside0 (octet_Split.j0 kq a0 a1 x15_2 = some (r1, r2)) ∧ Aside0 (kq ≤ k) ∧ Aside0 (Below w.heap.size w wc))
  case first =>
    have H := HC3.out
    clear HC3
    by_cases c4 : a1 < 1
    · rw [if_pos c4] at H
      have c4b0 : decide (a1 < 1) = true := decide_eq_true c4
      clear c4
      (first | rw [c4b0] | (simp only [i64_w, i32_w]; rw [c4b0]) | skip)
      have H' := Aside0.mk H
      clear H
      go_wp2
      go_meet
      case rel => exact ⟨_, (true), (by first | rfl | (simp; done) | (simp [*]; done)), H', ⟨by first | omega | exact Nat.le_refl _⟩, ⟨by repeat (first | (with_reducible first | exact HB.out | apply below_alloc | apply pw_below_drewN | apply below_drew1) | exact HB.out)⟩⟩
    · rw [if_neg c4] at H
      have c4b0 : decide (a1 < 1) = false := decide_eq_false c4
      clear c4
      (first | rw [c4b0] | (simp only [i64_w, i32_w]; rw [c4b0]) | skip)
      by_cases c5 : a1 = 0
      · rw [if_pos c5] at H
        exact absurd H (by simp)
      · rw [if_neg c5] at H
        have c5b0 : (a1 == 0) = false := beq_eq_false_iff_ne.mpr c5
        have c5b1 : (a1 != 0) = true := bne_iff_ne.mpr c5
        have H' := Aside0.mk H
        clear H
        go_wp2
        go_meet
        case rel => exact ⟨_, (decide (((a0.size : Int) % a1) > 0)), (by first | rfl | (simp; done) | (simp [*]; done)), H', ⟨by first | omega | exact Nat.le_refl _⟩, ⟨by repeat (first | (with_reducible first | exact HB.out | apply below_alloc | apply pw_below_drewN | apply below_drew1) | exact HB.out)⟩⟩
  case rest =>
    clear HC3
    try clear c1
    try clear p2
    try clear c4
    try clear c4b0
    try clear c5
    try clear c5b0
    try clear c5b1
    obtain ⟨kq, x15_2, rfl, HA, HJ2, HB⟩ := hcut
    cases kq with
    | zero => exact absurd HA.out (by simp [octet_Split.j0])
    | succ kj2 =>
      have H := HA.out
      clear HA
      simp only [octet_Split.j0] at H
      by_cases c6 : x15_2 = true
      · subst c6
        have H1 : (some (([] : List ByteArray), false)) = some (r1, r2) := by rw [if_pos rfl] at H; exact H
        clear H
        have H := H1
        clear H1
        simp only [Option.some.injEq, Prod.mk.injEq] at H
        obtain ⟨rfl, rfl⟩ := H
        go_wp2
        go_ret2
        exact ⟨_, by first | rfl | (simp [errW_none, errW_some] <;> rfl) | (simp [*, errW_none, errW_some] <;> rfl), by first | exact Kd.R_nil _ _ _ _ _ | exact Kd.N_nil _ _ _ _ _ | exact Kd.V_nil _ _ _ _ _ | exact Kd.Q_nil _ _ _ _ _ | exact Kd.S_nil _ _ _ _ _, by repeat (first | (with_reducible first | exact HB.out | apply below_alloc | apply pw_below_drewN | apply below_drew1) | exact HB.out)⟩
      · replace c6 := Bool.eq_false_iff.mpr c6
        subst c6
        have H1 : (octet_Split.l0 kj2 a0 a1 ([] : List ByteArray)) = some (r1, r2) := by rw [if_neg (show ¬ (false = true) by decide)] at H; exact H
        clear H
        have H := H1
        clear H1
        have H' := Aside0.mk H
        clear H
        go_wp2
        go_loopg [0, 6] kj2 (fun kq v0 v6 w' => ∃ (x0_2 : ByteArray) (x6_2 : List ByteArray), v0 = .string x0_2 ∧ Aside0 (octet_Split.l0 kq x0_2 a1 x6_2 = some (r1, r2)) ∧ Aside0 (kq ≤ kj2) ∧ Aside0 (Kd.R Kd.string 9 w' w.heap.size (fun _ => True) v6 x6_2) ∧ Aside0 (Below w.heap.size w w'))
        case atStart => exact ⟨(a0), (([] : List ByteArray)), (by first | rfl | (simp; done) | (simp [*]; done)), H', ⟨Nat.le_refl _⟩, ⟨by first | exact Kd.R_nil _ _ _ _ _ | exact Kd.N_nil _ _ _ _ _ | exact Kd.V_nil _ _ _ _ _ | exact Kd.Q_nil _ _ _ _ _ | exact Kd.S_nil _ _ _ _ _⟩, ⟨by repeat (first | (with_reducible first | exact HB.out | apply below_alloc | apply pw_below_drewN | apply below_drew1) | exact HB.out)⟩⟩
        case round =>
          clear H'
          try clear c1
          try clear p2
          try clear c4
          try clear c4b0
          try clear c5
          try clear c5b0
          try clear c5b1
          try clear c6
          try clear p2
          obtain ⟨x0_2, x6_2, rfl, HA, HK2, HO_6, HB⟩ := hrel
          cases gk with
          | zero => exact absurd HA.out (by simp [octet_Split.l0])
          | succ k2 =>
            have H := HA.out
            clear HA
            simp only [octet_Split.l0] at H
            by_cases c7 : x0_2.toList = ([] : List UInt8)
            · rw [if_pos c7] at H
              have c7b0 : (x0_2.toList == ([] : List UInt8)) = true := beq_iff_eq.mpr c7
              have c7b1 : (x0_2.toList != ([] : List UInt8)) = false := bne_eq_false_iff_eq.mpr c7
              clear c7
              simp only [Option.some.injEq, Prod.mk.injEq] at H
              obtain ⟨rfl, rfl⟩ := H
              go_wp2
              go_ret2
              exact ⟨_, by first | rfl | (simp [errW_none, errW_some] <;> rfl) | (simp [*, errW_none, errW_some] <;> rfl), by (with_reducible repeat (first | apply Kd.R_alloc | apply Kd.R_drewN | apply Kd.R_drew)); exact HO_6.out, by repeat (first | (with_reducible first | exact HB.out | apply below_alloc | apply pw_below_drewN | apply below_drew1) | exact HB.out)⟩
            · rw [if_neg c7] at H
              have c7b0 : (x0_2.toList == ([] : List UInt8)) = false := beq_eq_false_iff_ne.mpr c7
              have c7b1 : (x0_2.toList != ([] : List UInt8)) = true := bne_iff_ne.mpr c7
              by_cases c8 : 0 ≤ a1
              · rw [if_pos c8] at H
                have c8b0 := eq_true c8
                have c8b1 : decide (0 ≤ a1) = true := decide_eq_true c8
                clear c8
                by_cases c9 : a1 ≤ (x0_2.size : Int)
                · rw [if_pos c9] at H
                  have c9b0 := eq_true c9
                  have c9b1 : decide (a1 ≤ (x0_2.size : Int)) = true := decide_eq_true c9
                  clear c9
                  by_cases c10 : x6_2.length < 8796093022208
                  · rw [if_pos c10] at H
                    have LMc10 := Aside0.mk c10
                    clear c10
                    obtain ⟨y104, hy104⟩ : ∃ y_ : List ByteArray, y_ = (x6_2 ++ [x0_2.extract 0 (a1 : Int).toNat]) := ⟨_, rfl⟩
                    replace H : (octet_Split.l0 k2 (x0_2.extract (a1 : Int).toNat x0_2.size) a1 y104) = some (r1, r2) := by first | (rw [hy104]; with_reducible exact H) | (have H2_ := (Option.bind_some _ _).symm.trans H; rw [hy104]; with_reducible exact H2_) | (have H2_ := (Option.bind_some _ _).symm.trans H; with_reducible exact H2_) | with_reducible exact H | (rw [hy104]; exact H) | exact H
                    have Ny104 := Aside0.mk hy104
                    clear hy104
                    have c11b0 := eq_true (of_decide_eq_true (by first | (with_reducible assumption) | assumption) : 0 ≤ a1)
                    have c12b0 := eq_true (of_decide_eq_true (by first | (with_reducible assumption) | assumption) : a1 ≤ (x0_2.size : Int))
                    have H' := Aside0.mk H
                    clear H
                    go_wp2_with (first | ((with_reducible refine gate_builtin (b := .append) (xs := #[.tmp 21, .tmp 25]) rfl ?_); (try (refine gate_guard (by rfl) ?_; dsimp only)); at_builtin; refine Kd.R_append Kd.string (w0 := w) w.heap.size rfl (.tmp 21) (.tmp 25) 43 9 (.string ⟨#[]⟩) 16 rfl Try.underlying43 info9 rfl (by decide) (by omega) u6 x6_2 (x0_2.extract 0 (a1 : Int).toNat) [.string (x0_2.extract 0 (a1 : Int).toNat)] (fun _ => True) (fun _ => False) rfl rfl ?aP (fun _ hk => hk.elim) ?aF ?aO ?aB ?aS ?aL ?_; (case aP => exact rfl); (case aB => exact (by repeat (first | (with_reducible first | exact HB.out | apply below_alloc | apply pw_below_drewN | apply below_drew1) | exact HB.out))); (case aF => exact (fun _ _ => trivial)); (case aO => exact (by (with_reducible repeat (first | apply Kd.R_alloc | apply Kd.R_drewN | apply Kd.R_drew)); exact HO_6.out)); (case aS => exact (below_size (by repeat (first | (with_reducible first | exact HB.out | apply below_alloc | apply pw_below_drewN | apply below_drew1) | exact HB.out)))); (case aL => have := LMc10.out; omega); intro v105 w13 ho hb hg hat; rw [← Ny104.out] at ho; have n0_ := Aside0.mk (hb); have n1_ := Aside0.mk (ho); clear HB; clear HO_6; have HB := n0_; have HO106 := n1_; clear n0_ n1_; clear ho hb hg hat))
                    go_roundg k2
                    case measure => have := HJ2.out; have := HK2.out; omega
                    case rel => exact ⟨(x0_2.extract (a1 : Int).toNat x0_2.size), (y104), (by first | rfl | (simp; done) | (simp [*]; done)), H', ⟨by have := HJ2.out; have := HK2.out; omega⟩, ⟨by (with_reducible repeat (first | apply Kd.R_alloc | apply Kd.R_drewN | apply Kd.R_drew)); exact HO106.out⟩, ⟨by repeat (first | (with_reducible first | exact HB.out | apply below_alloc | apply pw_below_drewN | apply below_drew1) | exact HB.out)⟩⟩
                  · rw [if_neg c10] at H
                    exact absurd H (by simp)
                · rw [if_neg c9] at H
                  exact absurd H (by simp)
              · rw [if_neg c8] at H
                exact absurd H (by simp)

/-! ### octet_Get: function 103 -/
def octet_Get.join (n : Int) (b : Int) : Int := Go.bits .or .u64 (IntKind.u64.wrap (n * 256)) b
def octet_Get.num (l : List Int) : Int := l.foldl octet_Get.join 0
def octet_Get.f (a0 : ByteArray) (a1 a2 : Int) : Option (Int × Bool) :=
  if a0.size ≤ 1000000000 ∧ -9223372036854775808 ≤ a1 ∧ a1 ≤ 9223372036854775807 then
    if a2 < 1 ∨ 8 < a2 ∨ a1 < 0 ∨ (a0.size : Int) - a2 < a1 then some (0, false)
    else if octet_Get.num (bytesOf (a0.extract a1.toNat (a1 + a2).toNat)) < 9223372036854775808 then some (octet_Get.num (bytesOf (a0.extract a1.toNat (a1 + a2).toNat)), true) else some (0, false)
  else none
theorem octet_Get.join_range (n b : Int) : 0 ≤ octet_Get.join n b ∧ octet_Get.join n b < 18446744073709551616 := by
  unfold octet_Get.join Go.bits IntKind.wrap
  simp [IntKind.bits, IntKind.signed]
  omega
theorem octet_Get.num_snoc (l : List Int) (b : Int) : octet_Get.num (l ++ [b]) = octet_Get.join (octet_Get.num l) b := by
  unfold octet_Get.num
  rw [List.foldl_append]; rfl
theorem octet_Get.num_range (l : List Int) : 0 ≤ octet_Get.num l ∧ octet_Get.num l < 18446744073709551616 := by
  rcases List.eq_nil_or_concat l with rfl | ⟨m, b, rfl⟩
  · exact ⟨Int.le_refl _, by decide⟩
  · rw [List.concat_eq_append, octet_Get.num_snoc]; exact octet_Get.join_range _ _
theorem octet_Get.bytes_take (s : ByteArray) (k : Nat) (h : k < s.size) : (bytesOf s).take (k + 1) = (bytesOf s).take k ++ [((s.data.toList.getD k 0).toNat : Int)] := by
  have h' : k < (bytesOf s).length := by simpa [bytesOf] using h
  have h2 : k < s.data.toList.length := by simpa using h
  rw [List.take_succ_eq_append_getElem h']
  congr 2
  rw [List.getD_eq_getElem?_getD, List.getElem?_eq_getElem h2]
  simp [bytesOf]
set_option maxHeartbeats 2000000 in
set_option maxRecDepth 100000 in
theorem octet_Get.calls (a0 : ByteArray) (a1 a2 : Int) (r1 : Int) (r2 : Bool) (w : World) (h : octet_Get.f a0 a1 a2 = some (r1, r2)) :
    Calls Try.prog 103 #[.string a0, .int .i64 a1, .int .i64 a2] w fun e w' => e = .returned (.tuple #[.int .i64 r1, .bool r2]) ∧ Below w.heap.size w w' := by
  unfold octet_Get.f at h
  by_cases hg : a0.size ≤ 1000000000 ∧ -9223372036854775808 ≤ a1 ∧ a1 ≤ 9223372036854775807
  · rw [if_pos hg] at h
    obtain ⟨hs, hl, hu⟩ := hg
    by_cases c1 : a2 < 1
    · rw [if_pos (.inl c1)] at h
      simp only [Option.some.injEq, Prod.mk.injEq] at h
      obtain ⟨rfl, rfl⟩ := h
      go_enter Try.func103, Try.ntmps103
      go_wp2
      go_ret2
      exact ⟨rfl, Below.refl _ _⟩
    · by_cases c2 : 8 < a2
      · rw [if_pos (.inr (.inl c2))] at h
        simp only [Option.some.injEq, Prod.mk.injEq] at h
        obtain ⟨rfl, rfl⟩ := h
        go_enter Try.func103, Try.ntmps103
        go_wp2
        go_ret2
        exact ⟨rfl, Below.refl _ _⟩
      · by_cases c3 : a1 < 0
        · rw [if_pos (.inr (.inr (.inl c3)))] at h
          simp only [Option.some.injEq, Prod.mk.injEq] at h
          obtain ⟨rfl, rfl⟩ := h
          go_enter Try.func103, Try.ntmps103
          go_wp2
          go_ret2
          exact ⟨rfl, Below.refl _ _⟩
        · by_cases c4 : (a0.size : Int) - a2 < a1
          · rw [if_pos (.inr (.inr (.inr c4)))] at h
            simp only [Option.some.injEq, Prod.mk.injEq] at h
            obtain ⟨rfl, rfl⟩ := h
            go_enter Try.func103, Try.ntmps103
            go_wp2
            go_ret2
            exact ⟨rfl, Below.refl _ _⟩
          · rw [if_neg (by omega)] at h
            obtain ⟨i, rfl⟩ : ∃ i : Nat, a1 = (i : Int) := ⟨a1.toNat, by omega⟩
            obtain ⟨k, rfl⟩ : ∃ k : Nat, a2 = (k : Int) := ⟨a2.toNat, by omega⟩
            rw [Int.toNat_natCast, show ((i : Int) + (k : Int)).toNat = i + k from by omega] at h
            have hik : i + k ≤ a0.size := by omega
            have hes : (a0.extract i (i + k)).size = k := by rw [ByteArray.size_extract]; omega
            have H := Aside0.mk h
            have hsl : ∀ w, (Instr.slice 9 (.string a0) (some (.int .i64 (i : Int))) (some (.int .i64 ((i : Int) + (k : Int)))) none).run Try.prog w = .ok (.string (a0.extract i (i + k))) w := fun w => by
              rw [run_slice_string w 9 a0 .i64 .i64 _ _ Try.underlying9 (by omega) (by omega) (by omega)]
              rw [Int.toNat_natCast, show ((i : Int) + (k : Int)).toNat = i + k from by omega]
            clear h
            generalize a0.extract i (i + k) = z at H hsl hes
            have hconv := fun w : World => Lib.run_convert_string_bytes (P := Try.prog) w 9 109 5 z Try.underlying9 Try.underlying109 Try.underlying5
            go_enter Try.func103, Try.ntmps103
            go_wp2
            obtain ⟨W1, hW1⟩ : ∃ W1, W1 = Lib.bytesWorld w 5 z := ⟨_, rfl⟩
            have hB : ∀ t, t < z.size → W1.cell? ⟨w.heap.size, t, none⟩ = some (.int .u8 (z.data.toList.getD t 0).toNat) := fun t ht => by rw [hW1]; exact Lib.bytesWorld_cell w 5 z t ht
            have hwW : Below w.heap.size w W1 := by rw [hW1]; exact ⟨rfl, rfl, rfl, by rw [Lib.bytesWorld_size]; omega, fun j hj => Lib.bytesWorld_at_old w 5 z j hj⟩
            rw [← hW1]
            rw [hes] at hB
            have HW := Aside0.mk hW1
            have HB := Aside0.mk hB
            have HC := Aside0.mk hconv
            have HN := Aside0.mk hwW
            have HE := Aside0.mk hes
            clear hW1 hB hconv hwW hes hsl
            have hk8 : k ≤ 8 := by omega
            have h64 : (k : Int) ≤ 8 := by omega
            go_loop [8, 37] (fun n i => ∃ j : Nat, j ≤ k ∧ i = .int .i64 j ∧ n = .int .u64 (octet_Get.num ((bytesOf z).take j))) (fun _ i => k - (intOf i).toNat)
            case atStart => exact ⟨0, Nat.zero_le _, rfl, rfl⟩
            case round =>
              obtain ⟨j, hj, rfl, rfl⟩ := hrel
              by_cases hlt : j < k
              · have hc := HB.out j hlt
                have HS : Aside0 (octet_Get.num ((bytesOf z).take (j + 1)) = octet_Get.join (octet_Get.num ((bytesOf z).take j)) ((z.data.toList.getD j 0).toNat : Int)) := ⟨by
                  rw [octet_Get.bytes_take z j (by rw [HE.out]; exact hlt), octet_Get.num_snoc]⟩
                have hr := octet_Get.num_range ((bytesOf z).take j)
                generalize octet_Get.num ((bytesOf z).take j) = n at HS hr ⊢
                obtain ⟨c, hcc⟩ : ∃ c, c = z.data.toList.getD j 0 := ⟨_, rfl⟩
                rw [← hcc] at hc HS
                clear hcc
                have hc0 : (c.toNat : Int) < 256 := by have := c.toNat_lt; omega
                go_wp2
                go_round
                case rel => exact ⟨j + 1, by omega, by go_num, by rw [HS.out]; rfl⟩
                case measure => simp [intOf]; omega
              · obtain rfl : j = k := by omega
                have HT : Aside0 ((bytesOf z).take j = bytesOf z) := ⟨List.take_of_length_le (by have := HE.out; simp [bytesOf] at *; omega)⟩
                rw [HT.out]
                have hr := octet_Get.num_range (bytesOf z)
                have H' := H.out
                by_cases hlim : octet_Get.num (bytesOf z) < 9223372036854775808
                · rw [if_pos hlim] at H'
                  simp only [Option.some.injEq, Prod.mk.injEq] at H'
                  have HR := Aside0.mk H'
                  clear H' H
                  generalize octet_Get.num (bytesOf z) = n at hr hlim HR ⊢
                  have hsh : decide (0 < n / 9223372036854775808) = false := decide_eq_false (by omega)
                  have hwr : (n + 9223372036854775808) % 18446744073709551616 - 9223372036854775808 = n := by omega
                  go_wp2
                  go_ret2
                  exact ⟨by rw [← HR.out.1, ← HR.out.2]; rfl, HN.out⟩
                · rw [if_neg hlim] at H'
                  simp only [Option.some.injEq, Prod.mk.injEq] at H'
                  have HR := Aside0.mk H'
                  clear H' H
                  generalize octet_Get.num (bytesOf z) = n at hr hlim HR ⊢
                  have hsh : decide (0 < n / 9223372036854775808) = true := decide_eq_true (by omega)
                  go_wp2
                  go_ret2
                  exact ⟨by rw [← HR.out.1, ← HR.out.2]; rfl, HN.out⟩
  · rw [if_neg hg] at h
    cases h


/-! ### octet_GetCoord: function 117 -/
def octet_GetCoord.f (a0 : ByteArray) (a1 : Int) : Option (Int × Bool) := (octet_Get.f a0 a1 4).bind fun bt107 => (if bt107.2 = true then (some (wrap64 (bt107.1 - 2147483648), true)) else (some (0, false)))
set_option maxHeartbeats 8000000 in
set_option maxRecDepth 100000 in
theorem octet_GetCoord.calls (a0 : ByteArray) (a1 : Int) (r1 : Int) (r2 : Bool) (w : World) (h : octet_GetCoord.f a0 a1 = some (r1, r2)) :
    Calls Try.prog 117 #[.string a0, .int .i64 a1] w fun e w' => e = .returned (.tuple #[.int .i64 r1, .bool r2]) ∧ Below w.heap.size w w' := by
  have HB := Aside0.mk (Below.refl w.heap.size w)
  have H : ((octet_Get.f a0 a1 4).bind fun bt107 => (if bt107.2 = true then (some (wrap64 (bt107.1 - 2147483648), true)) else (some (0, false)))) = some (r1, r2) := h
  clear h
  replace H := Option.bind_eq_some_iff.mp H
  obtain ⟨⟨t107, t108⟩, A30, H⟩ := H
  replace H : (if t108 = true then (some (wrap64 (t107 - 2147483648), true)) else (some (0, false))) = some (r1, r2) := H
  have A3 := Aside0.mk A30
  clear A30
  by_cases c4 : t108 = true
  · subst c4
    have H1 : (some (wrap64 (t107 - 2147483648), true)) = some (r1, r2) := by rw [if_pos rfl] at H; exact H
    clear H
    have H := H1
    clear H1
    simp only [Option.some.injEq, Prod.mk.injEq] at H
    obtain ⟨rfl, rfl⟩ := H
    go_enter Try.func117, Try.ntmps117
    go_wp2_with (first | ((with_reducible refine gate_callee (f := 103) rfl ?_); refine goesL_ (some 11) rfl rfl Try.func103 (by kernel_rfl) rfl #[.string a0, .int .i64 a1, .int .i64 4] rfl (by (try simp only [List.map_toArray, List.map_cons, List.map_nil]); first | done | rfl | (simp only [List.length_drop, List.length_take]; rfl)) ?_; (with_reducible refine (octet_Get.calls a0 a1 4 t107 true _ A3.out).mono ?_); rintro e w5 ⟨rfl, hb⟩; refine ⟨_, rfl, ?_⟩; have n0_ := Aside0.mk (below_step (by repeat (first | (with_reducible first | exact HB.out | apply below_alloc | apply pw_below_drewN | apply below_drew1) | exact HB.out)) hb); clear HB; have HB := n0_; clear n0_; (try clear hb); (try clear hb2); (try clear hk); (try clear hi)))
    go_ret2
    exact ⟨by first | rfl | (simp [errW_none, errW_some] <;> rfl) | (simp [*, errW_none, errW_some] <;> rfl), by repeat (first | (with_reducible first | exact HB.out | apply below_alloc | apply pw_below_drewN | apply below_drew1) | exact HB.out)⟩
  · replace c4 := Bool.eq_false_iff.mpr c4
    subst c4
    have H1 : (some (0, false)) = some (r1, r2) := by rw [if_neg (show ¬ (false = true) by decide)] at H; exact H
    clear H
    have H := H1
    clear H1
    simp only [Option.some.injEq, Prod.mk.injEq] at H
    obtain ⟨rfl, rfl⟩ := H
    go_enter Try.func117, Try.ntmps117
    go_wp2_with (first | ((with_reducible refine gate_callee (f := 103) rfl ?_); refine goesL_ (some 11) rfl rfl Try.func103 (by kernel_rfl) rfl #[.string a0, .int .i64 a1, .int .i64 4] rfl (by (try simp only [List.map_toArray, List.map_cons, List.map_nil]); first | done | rfl | (simp only [List.length_drop, List.length_take]; rfl)) ?_; (with_reducible refine (octet_Get.calls a0 a1 4 t107 false _ A3.out).mono ?_); rintro e w6 ⟨rfl, hb⟩; refine ⟨_, rfl, ?_⟩; have n0_ := Aside0.mk (below_step (by repeat (first | (with_reducible first | exact HB.out | apply below_alloc | apply pw_below_drewN | apply below_drew1) | exact HB.out)) hb); clear HB; have HB := n0_; clear n0_; (try clear hb); (try clear hb2); (try clear hk); (try clear hi)))
    go_ret2
    exact ⟨by first | rfl | (simp [errW_none, errW_some] <;> rfl) | (simp [*, errW_none, errW_some] <;> rfl), by repeat (first | (with_reducible first | exact HB.out | apply below_alloc | apply pw_below_drewN | apply below_drew1) | exact HB.out)⟩

/-! ### dataset_each_string_int_115: function 115 -/
def dataset_each_string_int_115.go (F : ByteArray → Option (Int × Bool)) : List (Int) → List (ByteArray) → Option (List (Int) × Bool)
  | acc, [] => some (acc, true)
  | acc, x :: l => (F x).bind fun r => if r.2 = true then dataset_each_string_int_115.go F (acc ++ [r.1]) l else some ([], false)
theorem dataset_each_string_int_115.info : (Try.prog.info? 3).map (fun i => (i.zero, i.size, i.bytes)) = some (some (.int .i64 0), 1, 8) := by kernel_rfl
set_option maxHeartbeats 4000000 in
set_option maxRecDepth 100000 in
theorem dataset_each_string_int_115.runs (F : ByteArray → Option (Int × Bool)) (g : Nat) (lb : Array Value) (eg : ∀ args w, (callFunc g args).run Try.prog w = .ok (.enter g args) w) (A0 : Option Addr) (c0 : Nat) (l0 : List (ByteArray)) (w : World) (hr0 : Kd.C Kd.string w A0 l0.length l0) (hc0 : l0.length ≤ c0) (hm : l0.length ≤ 1000000000)
    (hp : ∀ (x : ByteArray) (y : Int) (b : Bool) (W : World), x ∈ l0 → F x = some (y, b) → Below w.heap.size w W → Calls Try.prog g (#[.string x] ++ lb) W fun e w' => e = .returned (.tuple #[.int .i64 y, .bool b]) ∧ Below W.heap.size W w')
    (r1 : List (Int)) (r2 : Bool) (h : dataset_each_string_int_115.go F [] l0 = some (r1, r2)) :
    Calls Try.prog 115 #[.slice A0 l0.length c0, .func (.func g) #[] lb] w fun e w' => ∃ v0_ : Value, e = .returned (.tuple #[v0_, .bool r2]) ∧ Kd.R (Kd.int .i64) 3 w' w.heap.size (fun _ => True) v0_ r1 ∧ Below w.heap.size w w' := by
  obtain ⟨i0, hi, hz0, hz1, hz2⟩ := info_parts dataset_each_string_int_115.info
  have HR := Aside0.mk hr0
  have HM := Aside0.mk hm
  have HP := Aside0.mk hp
  have HG := Aside0.mk h
  clear hr0 hp h
  go_enter Try.func115, Try.ntmps115
  go_wp2_with (at_make; refine wpList_make_own _ rfl _ _ 69 rfl w.heap.size 3 i0 (.int .i64 0) 1 Try.underlying69 hi hz0 hz1 .i64 .i64 _ l0.length rfl rfl (by first | rfl | omega) (by rw [hz2]; omega) (by unfold maxLen; omega) (Nat.le_refl _) ?_; intro w0 hown0 hgrow0)
  have HO0 := Aside0.mk (Kd.R_of_own (enc := Value.int .i64) (h1 := fun _ => rfl) (ok := fun _ => True) (xs := []) hown0 (fun _ _ => trivial))
  have HB0 := Aside0.mk ((Below.refl w.heap.size w).grown hgrow0 (Nat.le_refl _) (fun k e => by cases e))
  clear hown0 hgrow0 hm hi hz0 hz1 hz2
  go_loopw [6, 16] (fun v i wr => ∃ (x : Nat) (acc : List (Int)), i = .int .i64 (x : Int) ∧ x ≤ l0.length ∧ Aside0 (dataset_each_string_int_115.go F acc (l0.drop x) = some (r1, r2)) ∧ Aside0 (Kd.R (Kd.int .i64) 3 wr w.heap.size (fun _ => True) v acc) ∧ Aside0 (acc.length = x) ∧ Aside0 (Below w.heap.size w wr)) (fun _ i _ => l0.length - (intOf i).toNat)
  case atStart => exact ⟨0, [], rfl, Nat.zero_le _, HG, HO0, ⟨rfl⟩, HB0⟩
  case round =>
    clear HO0 HB0 HG
    obtain ⟨x, acc, rfl, hx, HQ, HO, HA, HB⟩ := hrel
    by_cases hlt : x < l0.length
    · have H := HQ.out
      rw [List.drop_eq_getElem_cons hlt, dataset_each_string_int_115.go] at H
      obtain ⟨⟨y, b⟩, hF, H1⟩ := Option.bind_eq_some_iff.mp H
      clear H
      have hmem : l0[x] ∈ l0 := List.getElem_mem hlt
      obtain ⟨ad, ead, hcell⟩ := Kd.at_string HR.out (x : Int) (by omega) (by omega)
      cases ead
      replace hcell := (HB.out.cell (World.block_lt_of_cell? w _ hcell)).trans hcell
      have hrd : rdOf ByteArray.empty l0 (x : Int) = l0[x] := by
        show l0.getD (x : Int).toNat ByteArray.empty = _
        rw [Int.toNat_natCast, List.getD_eq_getElem?_getD, List.getElem?_eq_getElem hlt]; rfl
      rw [hrd, Int.toNat_natCast] at hcell
      have hcall := fun W hW => HP.out l0[x] y b W hmem hF hW
      clear hrd hmem
      generalize l0[x] = z at hcell hcall hF
      clear HQ hF
      have HX := Aside0.mk hlt
      have b1 : decide ((x : Int) < (l0.length : Int)) = true := decide_eq_true (by omega)
      have b2 : ((0 : Int) ≤ (x : Int)) = True := eq_true (by omega)
      have hm := HM.out
      cases b with
      | false =>
        rw [if_neg (by simp)] at H1
        obtain ⟨e1, e2⟩ := Prod.mk.inj (Option.some.inj H1)
        clear H1
        subst e1 e2
        go_wp2_with (first | (go_at_fn g; refine (hcall _ HB.out).mono ?_; rintro e w1 ⟨rfl, hb'⟩; have HO1 := Aside0.mk (Kd.R_below HO.out hb'); have HB1 := Aside0.mk (below_step HB.out hb'); clear HO HB hb' hcell hcall))
        go_ret2
        exact ⟨_, rfl, Kd.R_nil _ _ _ _ _, HB1.out⟩
      | true =>
        rw [if_pos rfl] at H1
        have HN := Aside0.mk H1
        clear H1
        go_wp2_with (first | (go_at_fn g; refine (hcall _ HB.out).mono ?_; rintro e w1 ⟨rfl, hb'⟩; have HO1 := Aside0.mk (Kd.R_below HO.out hb'); have HB1 := Aside0.mk (below_step HB.out hb'); clear HO HB hb' hcell hcall) | (at_builtin; refine Kd.R_append (Kd.int .i64) (w0 := w) w.heap.size rfl (.tmp 28) (.tmp 30) 69 3 (.int .i64 0) 8 rfl Try.underlying69 dataset_each_string_int_115.info rfl (by decide) (by omega) _ _ y [.int .i64 y] (fun _ => True) (fun _ => False) rfl rfl ?aP (fun _ hk => hk.elim) (fun _ _ => trivial) HO1.out HB1.out HB1.out.size ?aL ?_; (case aP => exact rfl); (case aL => have := HA.out; have := HX.out; have := HM.out; omega); intro v1 w3 ho hb hg hat; have HO2 := Aside0.mk ho; have HB2 := Aside0.mk hb; clear HO1 HB1 ho hb hg hat))
        go_roundw
        case rel => exact ⟨x + 1, acc ++ [y], by go_num, HX.out, HN, HO2, ⟨by rw [List.length_append, HA.out]; rfl⟩, HB2⟩
        case measure => have := HX.out; simp [intOf]; omega
    · obtain rfl : x = l0.length := by omega
      have b1 : decide ((l0.length : Int) < (l0.length : Int)) = false := decide_eq_false (by omega)
      have H := HQ.out
      rw [List.drop_length, dataset_each_string_int_115.go] at H
      obtain ⟨e1, e2⟩ := Prod.mk.inj (Option.some.inj H)
      clear H HQ
      subst e1 e2
      go_wp2
      go_ret2
      exact ⟨_, rfl, HO.out, HB.out⟩

/-! ### dataset_each_vec: function 115 -/
def dataset_each_vec.one (s : ByteArray) : Option (Int × Bool) := (octet_GetCoord.f s 0).bind fun p => if p.2 = true then (dataset_may.f p.1).bind fun m => some (p.1, m) else some (p.1, false)
def dataset_each_vec.f (l0 : List ByteArray) (_ : Unit) : Option (List Int × Bool) := if l0.length ≤ 1000000000 then dataset_each_string_int_115.go dataset_each_vec.one [] l0 else none
set_option maxHeartbeats 4000000 in
set_option maxRecDepth 100000 in
theorem dataset_each_vec.one_calls (s : ByteArray) (y : Int) (b : Bool) (W : World) (h : dataset_each_vec.one s = some (y, b)) :
    Calls Try.prog 116 #[.string s] W fun e w' => e = .returned (.tuple #[.int .i64 y, .bool b]) ∧ Below W.heap.size W w' := by
  unfold dataset_each_vec.one at h
  obtain ⟨⟨p, ok⟩, hp, h1⟩ := Option.bind_eq_some_iff.mp h
  clear h
  have hP := fun W => octet_GetCoord.calls s 0 p ok W hp
  clear hp
  cases ok with
  | false =>
    rw [if_neg (by simp)] at h1
    obtain ⟨e1, e2⟩ := Prod.mk.inj (Option.some.inj h1)
    clear h1
    subst e1 e2
    go_enter Try.func116, Try.ntmps116
    go_wp2_with (first | (go_at_call 117; refine (hP _).mono ?_; rintro e w' ⟨rfl, hb⟩))
    go_ret2
    exact ⟨rfl, hb⟩
  | true =>
    rw [if_pos rfl] at h1
    obtain ⟨m, hm, h2⟩ := Option.bind_eq_some_iff.mp h1
    clear h1
    obtain ⟨e1, e2⟩ := Prod.mk.inj (Option.some.inj h2)
    clear h2
    subst e1 e2
    have hM := fun W => dataset_may.calls p m W hm
    clear hm
    go_enter Try.func116, Try.ntmps116
    go_wp2_with (first | (go_at_call 117; refine (hP _).mono ?_; rintro e w' ⟨rfl, hb⟩; have HB := Aside0.mk hb; clear hb) | (go_at_call 118; refine (hM _).mono ?_; rintro e w2 ⟨rfl, ⟨nd, rfl⟩⟩))
    go_ret2
    exact ⟨rfl, pw_below_drewN HB.out _⟩
theorem dataset_each_vec.calls (A0 : Option Addr) (c0 : Nat) (l0 : List ByteArray) (u : Unit) (r1 : List Int) (r2 : Bool) (w : World) (hr0 : Kd.C Kd.string w A0 l0.length l0) (hc0 : l0.length ≤ c0) (h : dataset_each_vec.f l0 u = some (r1, r2)) :
    Calls Try.prog 115 #[.slice A0 l0.length c0, .func (.func 116) #[] #[]] w fun e w' => ∃ v0_ : Value, e = .returned (.tuple #[v0_, .bool r2]) ∧ Kd.R (Kd.int .i64) 3 w' w.heap.size (fun _ => True) v0_ r1 ∧ Below w.heap.size w w' := by
  unfold dataset_each_vec.f at h
  by_cases c : l0.length ≤ 1000000000
  · rw [if_pos c] at h
    exact dataset_each_string_int_115.runs dataset_each_vec.one 116 #[] (enters_of Try.func116 (by kernel_rfl) rfl) A0 c0 l0 w hr0 hc0 c (fun x y b W _ hF _ => dataset_each_vec.one_calls x y b W hF) r1 r2 h
  · rw [if_neg c] at h; cases h


end Go.Proofs.Ytmacpgkcokpgjaa.PDatasetBack
