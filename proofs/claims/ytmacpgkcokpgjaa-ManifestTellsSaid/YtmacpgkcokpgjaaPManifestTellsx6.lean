/- The Go functions that the law reaches, as plain Lean functions, and proofs that the calls of the machine come to them, or the row of the law over them, for every input that the row speaks of; written by a program of this session (wip/tool/mkprint.py) out of the translation and of hand-made templates. -/
import Derived.Test.YtmacpgkcokpgjaaPManifestTellsx0
import Derived.Test.YtmacpgkcokpgjaaPManifestTellsx1
import Derived.Test.YtmacpgkcokpgjaaPManifestTellsx3
import Derived.Test.YtmacpgkcokpgjaaPManifestTellsx4
import Derived.Test.YtmacpgkcokpgjaaPManifestTellsx5
namespace Go.Proofs.Ytmacpgkcokpgjaa.PManifestTells
open Go.RowKit Go.Proofs.YtmacpgkcokpgjaaW.PrintWords Go.Proofs.YtmacpgkcokpgjaaW.PrintLast Go.Proofs.YtmacpgkcokpgjaaW.PrintMore
attribute [local go_sem] max2_int min2_int max_two min_two max_three min_three max_four min_four   -- for this text's walks alone
set_option linter.unusedVariables false
set_option linter.unusedSimpArgs false

attribute [local go_sem high] eqA82
/-! ### manifest_Get: function 65 -/
def manifest_Get.loop : Nat → ByteArray → Bool → List S82 → Option (List S82 × ByteArray × Bool)
  | 0, q, b, l => some (l, q, b)
  | n + 1, q, b, l => if b = true then some (l, q, b) else (manifest_cursor_file.f q b).bind fun x => manifest_Get.loop n x.2.1 x.2.2 (l ++ [x.1])
def manifest_Get.zero : Int × Int × List S82 × Bool := (0, 0, [], false)
def manifest_Get.ends (a b : Int) (L : List S82 × ByteArray × Bool) : Option (Int × Int × List S82 × Bool) :=
  if L.2.2 = true ∨ L.2.1.toList ≠ [] then some manifest_Get.zero else (manifest_Right.f a b L.1).bind fun ok => if ok = true then some (a, b, L.1, true) else some manifest_Get.zero
def manifest_Get.body (t : ByteArray) : Option (Int × Int × List S82 × Bool) :=
  (manifest_cursor_number.f t false 2).bind fun a => (manifest_cursor_number.f a.2.1 a.2.2 2).bind fun b => (manifest_cursor_number.f b.2.1 b.2.2 1).bind fun n => if n.1 ≤ 1000 then (manifest_Get.loop n.1.toNat n.2.1 n.2.2 []).bind fun L => manifest_Get.ends a.1 b.1 L else none
def manifest_Get.f (a0 : ByteArray) : Option (Int × Int × List S82 × Bool) :=
  (crc_Open.f a0).bind fun o => if o.2 = true then ((strings_HasPrefix.f o.1 ⟨#[77, 65, 78, 49]⟩).bind fun hp => if hp = true then (if 4 ≤ o.1.size ∧ o.1.size ≤ 1000000 then manifest_Get.body (o.1.extract 4 o.1.size) else none) else some manifest_Get.zero) else some manifest_Get.zero
theorem manifest_Get.none_R (w : World) (B : Nat) : Kd.R k82 82 w B (fun _ => True) (.slice none 0 0) ([] : List S82) := Kd.R_nil _ _ _ _ _
def manifest_Get.At (w : World) (B M : Nat) (a b : Int) (q : ByteArray) (bad : Bool) (l : List S82) (W : World) : Prop :=
  W.heap[B]? = some (.cells #[.string q, .bool bad] 144) ∧ W.heap[w.heap.size]? = some (.cells #[.int .i64 0, .int .i64 0, .slice none 0 0] 80) ∧
    (∃ A c, W.heap[M]? = some (.cells #[.int .i64 a, .int .i64 b, .slice A l.length c] 80) ∧ l.length ≤ c ∧ Kd.R k82 82 W w.heap.size (fun k => M < k) (.slice A l.length c) l) ∧ Below w.heap.size w W
set_option maxHeartbeats 4000000 in
set_option maxRecDepth 100000 in
theorem manifest_Get.calls (a0 : ByteArray) (r1 : Int) (r2 : Int) (r3 : List S82) (r4 : Bool) (w : World) (h : manifest_Get.f a0 = some (r1, r2, r3, r4)) :
    Calls Try.prog 65 #[.string a0] w fun e w' => ∃ v2_ : Value, e = .returned (.tuple #[.agg #[.int .i64 r1, .int .i64 r2, v2_], .bool r4]) ∧ Kd.R k82 82 w' w.heap.size (fun _ => True) v2_ r3 ∧ Below w.heap.size w w' := by
  have hu82 := Try.underlying82
  have hu80 := Try.underlying80
  unfold manifest_Get.f at h
  obtain ⟨⟨t, ok⟩, ho, h⟩ := Option.bind_eq_some_iff.mp h
  dsimp only at h
  obtain ⟨W0, hW0⟩ : ∃ W0, w.alloc (.cells #[.int .i64 0, .int .i64 0, .slice none 0 0] 80) = W0 := ⟨_, rfl⟩
  have HX0 := Aside0.mk (show Below w.heap.size w W0 by rw [← hW0]; exact below_alloc (Below.refl _ _) _)
  have HR0 := Aside0.mk (show W0.heap[w.heap.size]? = some (.cells #[.int .i64 0, .int .i64 0, .slice none 0 0] 80) by rw [← hW0]; exact blk_new _ _)
  have HO := Aside0.mk (crc_Open.calls a0 t ok W0 ho)
  clear ho
  cases ok with
  | false =>
    rw [if_neg (by decide)] at h
    obtain ⟨rfl, rfl, rfl, rfl⟩ : 0 = r1 ∧ 0 = r2 ∧ [] = r3 ∧ false = r4 := by simpa [manifest_Get.zero] using h
    clear h
    go_enter Try.func65, Try.ntmps65
    go_wp2_with (first | (go_at_call 100; refine HO.out.mono ?_; rintro e w1 ⟨rfl, hb1⟩; have HX1 := Aside0.mk (below_step HX0.out hb1); have HR1 := Aside0.mk (blk_below HR0.out hb1); clear HO hb1 HR0; have q0 := blk_frozen HR1.out 0; have q1 := blk_frozen HR1.out 1; have q2 := blk_frozen HR1.out 2; have z0 : w1.cell? ⟨w.heap.size, 0, none⟩ = some (.int .i64 0) := (blk_cell HR1.out 0).trans rfl; have z1 : w1.cell? ⟨w.heap.size, 1, none⟩ = some (.int .i64 0) := (blk_cell HR1.out 1).trans rfl; have z2 : w1.cell? ⟨w.heap.size, 2, none⟩ = some (.slice none 0 0) := (blk_cell HR1.out 2).trans rfl))
    refine bodyPost_ret (results_ct rfl _ _ w.heap.size 80 #[.int .i64 0, .int .i64 0, .slice none 0 0] (0, 0) _ rfl (by refine blk_put (cs := #[.int .i64 0, .int .i64 0, .slice none 0 0]) ?_ 2 _ rfl; refine blk_put (cs := #[.int .i64 0, .int .i64 0, .slice none 0 0]) ?_ 1 _ rfl; refine blk_put (cs := #[.int .i64 0, .int .i64 0, .slice none 0 0]) ?_ 0 _ rfl; exact HR1.out) hu80 rfl (by kernel_rfl)) rfl ?_
    exact ⟨_, rfl, manifest_Get.none_R _ _, below_set (below_set (below_set HX1.out (Nat.le_refl _)) (Nat.le_refl _)) (Nat.le_refl _)⟩
  | true =>
    rw [if_pos rfl] at h
    obtain ⟨hp, hh, h⟩ := Option.bind_eq_some_iff.mp h
    have HH := Aside0.mk (fun W => strings_HasPrefix.calls t ⟨#[77, 65, 78, 49]⟩ hp W hh)
    clear hh
    cases hp with
    | false =>
      rw [if_neg (by decide)] at h
      obtain ⟨rfl, rfl, rfl, rfl⟩ : 0 = r1 ∧ 0 = r2 ∧ [] = r3 ∧ false = r4 := by simpa [manifest_Get.zero] using h
      clear h
      go_enter Try.func65, Try.ntmps65
      go_wp2_with (first | (go_at_call 100; refine HO.out.mono ?_; rintro e w1 ⟨rfl, hb1⟩; have HX1 := Aside0.mk (below_step HX0.out hb1); have HR1 := Aside0.mk (blk_below HR0.out hb1); clear HO hb1 HR0) | (go_at_call 120; refine (HH.out _).mono ?_; rintro e w2 ⟨rfl, hd2⟩; have hb2 := hd2.below; clear hd2; have HX2 := Aside0.mk (below_step HX1.out hb2); have HR2 := Aside0.mk (blk_below HR1.out hb2); clear HH hb2 HR1; have q0 := blk_frozen HR2.out 0; have q1 := blk_frozen HR2.out 1; have q2 := blk_frozen HR2.out 2; have z0 : w2.cell? ⟨w.heap.size, 0, none⟩ = some (.int .i64 0) := (blk_cell HR2.out 0).trans rfl; have z1 : w2.cell? ⟨w.heap.size, 1, none⟩ = some (.int .i64 0) := (blk_cell HR2.out 1).trans rfl; have z2 : w2.cell? ⟨w.heap.size, 2, none⟩ = some (.slice none 0 0) := (blk_cell HR2.out 2).trans rfl))
      refine bodyPost_ret (results_ct rfl _ _ w.heap.size 80 #[.int .i64 0, .int .i64 0, .slice none 0 0] (0, 0) _ rfl (by refine blk_put (cs := #[.int .i64 0, .int .i64 0, .slice none 0 0]) ?_ 2 _ rfl; refine blk_put (cs := #[.int .i64 0, .int .i64 0, .slice none 0 0]) ?_ 1 _ rfl; refine blk_put (cs := #[.int .i64 0, .int .i64 0, .slice none 0 0]) ?_ 0 _ rfl; exact HR2.out) hu80 rfl (by kernel_rfl)) rfl ?_
      exact ⟨_, rfl, manifest_Get.none_R _ _, below_set (below_set (below_set HX2.out (Nat.le_refl _)) (Nat.le_refl _)) (Nat.le_refl _)⟩
    | true =>
      rw [if_pos rfl] at h
      split at h
      case isFalse => cases h
      case isTrue hsz =>
      unfold manifest_Get.body at h
      obtain ⟨⟨a, qa, ba⟩, hna, h⟩ := Option.bind_eq_some_iff.mp h
      obtain ⟨⟨b, qb, bb⟩, hnb, h⟩ := Option.bind_eq_some_iff.mp h
      obtain ⟨⟨n, qn, bn⟩, hnn, h⟩ := Option.bind_eq_some_iff.mp h
      dsimp only at hnb hnn h
      split at h
      case isFalse => cases h
      case isTrue hn1 =>
      obtain ⟨L, hL, h⟩ := Option.bind_eq_some_iff.mp h
      have HSZ := Aside0.mk hsz
      have d4 : ((4 : Int) ≤ (t.size : Int)) = True := eq_true (by omega)
      obtain ⟨t4, ht4⟩ : ∃ t4, t.extract 4 t.size = t4 := ⟨_, rfl⟩
      have hz4 : t4.size ≤ 1000000 := by rw [← ht4, ByteArray.size_extract]; omega
      rw [ht4] at hna
      have la := manifest_cursor_number.less hna
      have lb := manifest_cursor_number.less hnb
      have ln := manifest_cursor_number.less hnn
      have HZ := Aside0.mk (show qn.size ≤ 1000000 by omega)
      have HNA := fun b W h => manifest_cursor_number.calls b t4 false 2 a qa ba W h (by omega) hna
      have HNB := fun b' W h => manifest_cursor_number.calls b' qa ba 2 b qb bb W h (by omega) hnb
      have HNN := fun b W h => manifest_cursor_number.calls b qb bb 1 n qn bn W h (by omega) hnn
      have HL := Aside0.mk hL
      have HE := Aside0.mk h
      have HT4 := Aside0.mk ht4
      have HN1 := Aside0.mk hn1
      clear hna hnb hnn hL h hsz ht4 hz4 la lb ln hn1
      go_enter Try.func65, Try.ntmps65
      go_upto_region 5 with (first | (go_at_call 100; refine HO.out.mono ?_; rintro e w1 ⟨rfl, hb1⟩; have HX1 := Aside0.mk (below_step HX0.out hb1); have HR1 := Aside0.mk (blk_below HR0.out hb1); clear HO hb1 HR0) | (go_at_call 120; refine (HH.out _).mono ?_; rintro e w2 ⟨rfl, hd2⟩; have hb2 := hd2.below; clear hd2; have HX2 := Aside0.mk (below_step HX1.out hb2); have HR2 := Aside0.mk (blk_below HR1.out hb2); clear HH hb2 HR1))
      rw [HT4.out]
      have HLB := Aside0.mk (blk_lt HR2.out)
      obtain ⟨W3, hW3⟩ : ∃ W3, w2.alloc (.cells #[.string t4, .bool false] 144) = W3 := ⟨_, rfl⟩
      rw [hW3]
      obtain ⟨B, hB⟩ : ∃ B, w2.heap.size = B := ⟨_, rfl⟩
      have hbx : Below w2.heap.size w2 W3 := by rw [← hW3]; exact below_alloc (Below.refl _ _) _
      have HC3 := Aside0.mk (show W3.heap[B]? = some (.cells #[.string t4, .bool false] 144) by rw [← hW3, ← hB]; exact blk_new _ _)
      have HR3 := Aside0.mk (blk_below HR2.out hbx)
      have HX3 := Aside0.mk (below_step HX2.out hbx)
      rw [hB] at HLB ⊢
      clear hW3 hbx hB HR2 HX2 HT4
      go_wp2_with (first | (go_at_call 128; have hc := HNA B _ HC3.out; refine Calls.mono hc ?_; clear hc; rintro e w4 ⟨rfl, hc4, ht4⟩; have HC4 := Aside0.mk hc4; have HR4 := Aside0.mk (ht4.at HR3.out (Nat.ne_of_lt HLB.out)); have HX4 := Aside0.mk (HX3.out.trans (ht4.1.mono (Nat.le_of_lt HLB.out))); clear hc4 ht4 HC3 HR3 HX3 HNA) | (go_at_call 128; have hc := HNB B _ HC4.out; refine Calls.mono hc ?_; clear hc; rintro e w5 ⟨rfl, hc5, ht5⟩; have HM := Aside0.mk (blk_lt hc5); have HC5 := Aside0.mk (blk_alloc hc5 (.cells #[.int .i64 a, .int .i64 b, .slice none 0 0] 80)); have HR5 := Aside0.mk (blk_alloc (ht5.at HR4.out (Nat.ne_of_lt HLB.out)) (.cells #[.int .i64 a, .int .i64 b, .slice none 0 0] 80)); have HX5 := Aside0.mk (below_alloc (HX4.out.trans (ht5.1.mono (Nat.le_of_lt HLB.out))) (.cells #[.int .i64 a, .int .i64 b, .slice none 0 0] 80)); clear hc5 ht5 HC4 HR4 HX4 HNB) | (go_at_call 128; have hc := HNN B _ HC5.out; refine Calls.mono hc ?_; clear hc; rintro e w6 ⟨rfl, hc6, ht6⟩; have HA6 := Aside0.mk (show manifest_Get.At w B w5.heap.size a b qn bn [] w6 from ⟨hc6, ht6.at HR5.out (Nat.ne_of_lt HLB.out), ⟨none, 0, ht6.at (blk_new _ _) (Nat.ne_of_gt HM.out), Nat.le_refl _, Kd.R_nil _ _ _ _ _⟩, HX5.out.trans (ht6.1.mono (Nat.le_of_lt HLB.out))⟩); clear hc6 ht6 HC5 HR5 HX5 HNN))
      obtain ⟨M, hM⟩ : ∃ M, w5.heap.size = M := ⟨_, rfl⟩
      rw [hM] at HM HA6 ⊢
      clear hM
      go_loopw [8] (fun i wr => ∃ (v : Int) (q : ByteArray) (bad : Bool) (l : List S82), i = .int .i64 v ∧ v ≤ 1000 ∧ q.size ≤ 1000000 ∧ l.length + v.toNat ≤ 1000 ∧ Aside0 (manifest_Get.loop v.toNat q bad l = some L) ∧ Aside0 (manifest_Get.At w B M a b q bad l wr)) (fun i _ => (intOf i).toNat)
      case atStart => exact ⟨n, qn, bn, [], rfl, HN1.out, HZ.out, by have := HN1.out; show 0 + n.toNat ≤ 1000; omega, HL, HA6⟩
      case round =>
        obtain ⟨v, q, bad, l, rfl, hv, hq, hl, HLp, HA⟩ := hrel
        obtain ⟨hcB, hR0, ⟨A, c, hcM, hlc, hRl⟩, hXr⟩ := HA.out
        have HCB := Aside0.mk hcB
        have HR0 := Aside0.mk hR0
        have HCM := Aside0.mk hcM
        have HRL := Aside0.mk hRl
        have HXR := Aside0.mk hXr
        have HLC := Aside0.mk hlc
        clear hcB hR0 hcM hRl hXr HA hlc
        by_cases hv0 : 0 < v
        case neg =>
          have d1 : decide ((0 : Int) < v) = false := decide_eq_false hv0
          have hLe : L = (l, q, bad) := by
            have h1 := HLp.out
            rw [show v.toNat = 0 by omega] at h1
            exact (Option.some.inj h1).symm
          have hE := HE.out
          rw [hLe] at hE
          unfold manifest_Get.ends at hE
          dsimp only at hE
          clear hLe
          cases bad with
          | true =>
            have k1 : wr.cell? ⟨B, 1, none⟩ = some (.bool true) := (blk_cell HCB.out 1).trans rfl
            rw [if_pos (.inl rfl)] at hE
            obtain ⟨rfl, rfl, rfl, rfl⟩ : 0 = r1 ∧ 0 = r2 ∧ [] = r3 ∧ false = r4 := by simpa [manifest_Get.zero] using hE
            clear hE
            have q0 := blk_frozen HR0.out 0
            have q1 := blk_frozen HR0.out 1
            have q2 := blk_frozen HR0.out 2
            have z0 : wr.cell? ⟨w.heap.size, 0, none⟩ = some (.int .i64 0) := (blk_cell HR0.out 0).trans rfl
            have z1 : wr.cell? ⟨w.heap.size, 1, none⟩ = some (.int .i64 0) := (blk_cell HR0.out 1).trans rfl
            have z2 : wr.cell? ⟨w.heap.size, 2, none⟩ = some (.slice none 0 0) := (blk_cell HR0.out 2).trans rfl
            go_wp2
            refine bodyPost_ret (results_ct rfl _ _ w.heap.size 80 #[.int .i64 0, .int .i64 0, .slice none 0 0] (0, 0) _ rfl (by refine blk_put (cs := #[.int .i64 0, .int .i64 0, .slice none 0 0]) ?_ 2 _ rfl; refine blk_put (cs := #[.int .i64 0, .int .i64 0, .slice none 0 0]) ?_ 1 _ rfl; refine blk_put (cs := #[.int .i64 0, .int .i64 0, .slice none 0 0]) ?_ 0 _ rfl; exact HR0.out) hu80 rfl (by kernel_rfl)) rfl ?_
            exact ⟨_, rfl, manifest_Get.none_R _ _, below_set (below_set (below_set HXR.out (Nat.le_refl _)) (Nat.le_refl _)) (Nat.le_refl _)⟩
          | false =>
            have k1 : wr.cell? ⟨B, 1, none⟩ = some (.bool false) := (blk_cell HCB.out 1).trans rfl
            have k0 : wr.cell? ⟨B, 0, none⟩ = some (.string q) := (blk_cell HCB.out 0).trans rfl
            by_cases hq0 : q.toList = []
            case neg =>
              rw [if_pos (.inr hq0)] at hE
              obtain ⟨rfl, rfl, rfl, rfl⟩ : 0 = r1 ∧ 0 = r2 ∧ [] = r3 ∧ false = r4 := by simpa [manifest_Get.zero] using hE
              clear hE
              have q0 := blk_frozen HR0.out 0
              have q1 := blk_frozen HR0.out 1
              have q2 := blk_frozen HR0.out 2
              have z0 : wr.cell? ⟨w.heap.size, 0, none⟩ = some (.int .i64 0) := (blk_cell HR0.out 0).trans rfl
              have z1 : wr.cell? ⟨w.heap.size, 1, none⟩ = some (.int .i64 0) := (blk_cell HR0.out 1).trans rfl
              have z2 : wr.cell? ⟨w.heap.size, 2, none⟩ = some (.slice none 0 0) := (blk_cell HR0.out 2).trans rfl
              go_wp2
              refine bodyPost_ret (results_ct rfl _ _ w.heap.size 80 #[.int .i64 0, .int .i64 0, .slice none 0 0] (0, 0) _ rfl (by refine blk_put (cs := #[.int .i64 0, .int .i64 0, .slice none 0 0]) ?_ 2 _ rfl; refine blk_put (cs := #[.int .i64 0, .int .i64 0, .slice none 0 0]) ?_ 1 _ rfl; refine blk_put (cs := #[.int .i64 0, .int .i64 0, .slice none 0 0]) ?_ 0 _ rfl; exact HR0.out) hu80 rfl (by kernel_rfl)) rfl ?_
              exact ⟨_, rfl, manifest_Get.none_R _ _, below_set (below_set (below_set HXR.out (Nat.le_refl _)) (Nat.le_refl _)) (Nat.le_refl _)⟩
            rw [if_neg (fun h => h.elim (fun h => absurd h (by decide)) (fun h => h hq0))] at hE
            obtain ⟨okR, hokR, hE⟩ := Option.bind_eq_some_iff.mp hE
            have hRt := manifest_Right.calls a b A c l okR wr (Kd.R_reads' HRL.out).2.2 HLC.out hokR
            have m0 : wr.cell? ⟨M, 0, none⟩ = some (.int .i64 a) := (blk_cell HCM.out 0).trans rfl
            have m1 : wr.cell? ⟨M, 1, none⟩ = some (.int .i64 b) := (blk_cell HCM.out 1).trans rfl
            have m2 : wr.cell? ⟨M, 2, none⟩ = some (.slice A l.length c) := (blk_cell HCM.out 2).trans rfl
            cases okR with
            | false =>
              rw [if_neg (by decide)] at hE
              obtain ⟨rfl, rfl, rfl, rfl⟩ : 0 = r1 ∧ 0 = r2 ∧ [] = r3 ∧ false = r4 := by simpa [manifest_Get.zero] using hE
              clear hE
              go_wp2_with (first | (go_at_call 70; refine hRt.mono ?_; rintro e w9 ⟨rfl, hb9⟩; have HR9 := Aside0.mk (blk_below HR0.out hb9); have HX9 := Aside0.mk (below_step HXR.out hb9); clear hb9 m0 m1 m2 hRt; have q0 := blk_frozen HR9.out 0; have q1 := blk_frozen HR9.out 1; have q2 := blk_frozen HR9.out 2; have z0 : w9.cell? ⟨w.heap.size, 0, none⟩ = some (.int .i64 0) := (blk_cell HR9.out 0).trans rfl; have z1 : w9.cell? ⟨w.heap.size, 1, none⟩ = some (.int .i64 0) := (blk_cell HR9.out 1).trans rfl; have z2 : w9.cell? ⟨w.heap.size, 2, none⟩ = some (.slice none 0 0) := (blk_cell HR9.out 2).trans rfl))
              refine bodyPost_ret (results_ct rfl _ _ w.heap.size 80 #[.int .i64 0, .int .i64 0, .slice none 0 0] (0, 0) _ rfl (by refine blk_put (cs := #[.int .i64 0, .int .i64 0, .slice none 0 0]) ?_ 2 _ rfl; refine blk_put (cs := #[.int .i64 0, .int .i64 0, .slice none 0 0]) ?_ 1 _ rfl; refine blk_put (cs := #[.int .i64 0, .int .i64 0, .slice none 0 0]) ?_ 0 _ rfl; exact HR9.out) hu80 rfl (by kernel_rfl)) rfl ?_
              exact ⟨_, rfl, manifest_Get.none_R _ _, below_set (below_set (below_set HX9.out (Nat.le_refl _)) (Nat.le_refl _)) (Nat.le_refl _)⟩
            | true =>
              rw [if_pos rfl] at hE
              obtain ⟨rfl, rfl, rfl, rfl⟩ : a = r1 ∧ b = r2 ∧ l = r3 ∧ true = r4 := by simpa using hE
              clear hE
              go_wp2_with (first | (go_at_call 70; refine hRt.mono ?_; rintro e w9 ⟨rfl, hb9⟩; have HR9 := Aside0.mk (blk_below HR0.out hb9); have HX9 := Aside0.mk (below_step HXR.out hb9); have HRL9 := Aside0.mk (Kd.R_below HRL.out hb9); have hcm9 := blk_below HCM.out hb9; clear hb9 m0 m1 m2 hRt; have q0 := blk_frozen HR9.out 0; have q1 := blk_frozen HR9.out 1; have q2 := blk_frozen HR9.out 2; have z0 : w9.cell? ⟨w.heap.size, 0, none⟩ = some (.int .i64 0) := (blk_cell HR9.out 0).trans rfl; have z1 : w9.cell? ⟨w.heap.size, 1, none⟩ = some (.int .i64 0) := (blk_cell HR9.out 1).trans rfl; have z2 : w9.cell? ⟨w.heap.size, 2, none⟩ = some (.slice none 0 0) := (blk_cell HR9.out 2).trans rfl; have m0 : w9.cell? ⟨M, 0, none⟩ = some (.int .i64 a) := (blk_cell hcm9 0).trans rfl; have m1 : w9.cell? ⟨M, 1, none⟩ = some (.int .i64 b) := (blk_cell hcm9 1).trans rfl; have m2 : w9.cell? ⟨M, 2, none⟩ = some (.slice A l.length c) := (blk_cell hcm9 2).trans rfl))
              refine bodyPost_ret (results_ct rfl _ _ w.heap.size 80 #[.int .i64 a, .int .i64 b, .slice A l.length c] (0, 0) _ rfl (by refine blk_put (cs := #[.int .i64 a, .int .i64 b, .slice none 0 0]) ?_ 2 _ rfl; refine blk_put (cs := #[.int .i64 a, .int .i64 0, .slice none 0 0]) ?_ 1 _ rfl; refine blk_put (cs := #[.int .i64 0, .int .i64 0, .slice none 0 0]) ?_ 0 _ rfl; exact HR9.out) hu80 rfl (by kernel_rfl)) rfl ?_
              have hfar : ∀ k, M < k → k ≠ w.heap.size := fun k hk => by have h1 := HLB.out; have h2 := HM.out; omega
              exact ⟨_, rfl, Kd.R_mono (Kd.R_far (p := ⟨w.heap.size, 2, none⟩) (Kd.R_far (p := ⟨w.heap.size, 1, none⟩) (Kd.R_far (p := ⟨w.heap.size, 0, none⟩) HRL9.out hfar _) hfar _) hfar _) (fun _ _ => trivial), below_set (below_set (below_set HX9.out (Nat.le_refl _)) (Nat.le_refl _)) (Nat.le_refl _)⟩
        have d1 : decide ((0 : Int) < v) = true := decide_eq_true hv0
        obtain ⟨u, hu⟩ : ∃ u, v.toNat = u + 1 := ⟨v.toNat - 1, by omega⟩
        have hLp := HLp.out
        rw [hu, manifest_Get.loop] at hLp
        cases bad with
        | true =>
          rw [if_pos rfl] at hLp
          have hLe : L = (l, q, true) := (Option.some.inj hLp).symm
          clear hLp
          have hE := HE.out
          rw [hLe] at hE
          unfold manifest_Get.ends at hE
          dsimp only at hE
          clear hLe
          have k1 : wr.cell? ⟨B, 1, none⟩ = some (.bool true) := (blk_cell HCB.out 1).trans rfl
          rw [if_pos (.inl rfl)] at hE
          obtain ⟨rfl, rfl, rfl, rfl⟩ : 0 = r1 ∧ 0 = r2 ∧ [] = r3 ∧ false = r4 := by simpa [manifest_Get.zero] using hE
          clear hE
          have q0 := blk_frozen HR0.out 0
          have q1 := blk_frozen HR0.out 1
          have q2 := blk_frozen HR0.out 2
          have z0 : wr.cell? ⟨w.heap.size, 0, none⟩ = some (.int .i64 0) := (blk_cell HR0.out 0).trans rfl
          have z1 : wr.cell? ⟨w.heap.size, 1, none⟩ = some (.int .i64 0) := (blk_cell HR0.out 1).trans rfl
          have z2 : wr.cell? ⟨w.heap.size, 2, none⟩ = some (.slice none 0 0) := (blk_cell HR0.out 2).trans rfl
          go_wp2
          refine bodyPost_ret (results_ct rfl _ _ w.heap.size 80 #[.int .i64 0, .int .i64 0, .slice none 0 0] (0, 0) _ rfl (by refine blk_put (cs := #[.int .i64 0, .int .i64 0, .slice none 0 0]) ?_ 2 _ rfl; refine blk_put (cs := #[.int .i64 0, .int .i64 0, .slice none 0 0]) ?_ 1 _ rfl; refine blk_put (cs := #[.int .i64 0, .int .i64 0, .slice none 0 0]) ?_ 0 _ rfl; exact HR0.out) hu80 rfl (by kernel_rfl)) rfl ?_
          exact ⟨_, rfl, manifest_Get.none_R _ _, below_set (below_set (below_set HXR.out (Nat.le_refl _)) (Nat.le_refl _)) (Nat.le_refl _)⟩
        | false =>
          rw [if_neg (by decide)] at hLp
          obtain ⟨⟨x, q', bad'⟩, hx, hLp⟩ := Option.bind_eq_some_iff.mp hLp
          dsimp only at hLp
          have hq' := manifest_cursor_file.less hx
          have HF := fun W h => manifest_cursor_file.calls B q false x q' bad' W h (by omega) hx
          have HLq := Aside0.mk hLp
          have HQ' := Aside0.mk (show q'.size ≤ 1000000 by omega)
          have HUL := Aside0.mk (show l.length + 1 + u ≤ 1000 by omega)
          have HU := Aside0.mk hu
          have HV := Aside0.mk (show 0 < v ∧ v ≤ 1000 from ⟨hv0, hv⟩)
          have k1 : wr.cell? ⟨B, 1, none⟩ = some (.bool false) := (blk_cell HCB.out 1).trans rfl
          clear hLp hq' hq hx hl hu
          go_upto_region 9 with (fail)
          clear k1 d1
          refine start_ (ds := [7]) (n := 8) (S := fun W => W.heap[M]? = some (.cells #[.int .i64 a, .int .i64 b, .slice A l.length c] 80)) #[false, false, false, false, false, false, false, false] (by kernel_rfl) rfl (by rfl) (show wr.drew.heap[M]? = _ from HCM.out) (fun hHeld => ?_)
          refine pure_ (i := 0) (N := (some 45)) (v := ?_) (a' := ?_) #[true, false, false, false, false, false, false, false] rfl rfl (by kernel_rfl) (fun _ _ _ h => h) (Or.inl ⟨by rfl, ?_⟩) ?_ ?_
          rotate_left
          · intro w'
            go_simp
            first | done | with_reducible rfl | rfl
          rotate_left
          · simp only [Act.put, List.setIfInBounds_toArray, List.set_cons_zero, List.set_cons_succ, i64_w, i32_w]
            rfl
          refine take_ (i := 1) (N := (some 46)) (v := ?_) (a' := ?_) #[true, true, false, false, false, false, false, false] rfl rfl (by kernel_rfl) (fun _ _ _ h => h) (Or.inl ⟨by rfl, ?_⟩) hHeld ?_ ?_
          rotate_left
          · intro w' hw'
            have e2 : w'.cell? ⟨M, 2, none⟩ = some (.slice A l.length c) := (blk_cell hw' 2).trans rfl
            go_simp
            first | done | with_reducible rfl | rfl
          rotate_left
          · simp only [Act.put, List.setIfInBounds_toArray, List.set_cons_zero, List.set_cons_succ, i64_w, i32_w]
            rfl
          refine pure_ (i := 2) (N := (some 47)) (v := ?_) (a' := ?_) #[true, true, true, false, false, false, false, false] rfl rfl (by kernel_rfl) (fun _ _ _ h => h) (Or.inl ⟨by rfl, ?_⟩) ?_ ?_
          rotate_left
          · intro w'
            go_simp
            first | done | with_reducible rfl | rfl
          rotate_left
          · simp only [Act.put, List.setIfInBounds_toArray, List.set_cons_zero, List.set_cons_succ, i64_w, i32_w]
            rfl
          refine one_ (i := 3) (N := (some 48)) #[true, true, true, true, false, false, false, false] rfl rfl (by kernel_rfl) (by decide) (fun K hK => ?_)
          refine goes_ Try.func129 (by kernel_rfl) rfl #[.pointer (some ⟨B, 0, none⟩)] (by rfl) rfl rfl (by (try simp only [List.map_toArray, List.map_cons, List.map_nil]); first | done | rfl) ?_
          have hc : Calls Try.prog 129 #[.pointer (some ⟨B, 0, none⟩)] wr.drew fun e w' => e = .returned (.agg #[.string x.f0, .int .i64 x.f1, .int .i64 x.f2, .int .u32 x.f3]) ∧ w'.heap[B]? = some (.cells #[.string q', .bool bad'] 144) ∧ manifest_bytes_take.But B wr.drew w' := HF wr.drew HCB.out
          refine Calls.mono hc ?_
          rintro e w6 ⟨rfl, hc6, ht6⟩
          refine ⟨_, rfl, ?_⟩
          have hd6 := ht6.at hHeld (Nat.ne_of_gt HM.out)
          refine hK.out _ _ hd6 (fun hHeld => ?_)
          clear hK K hc
          refine norm_ (a' := ?_) ?_ ?_
          rotate_left
          · show Act.put _ (some 48) _ = _
            simp only [Act.put, List.setIfInBounds_toArray, List.set_cons_zero, List.set_cons_succ, i64_w, i32_w]
            rfl
          have HC6 := Aside0.mk hc6
          have HD6 := Aside0.mk hd6
          have HR6 := Aside0.mk (show w6.heap[w.heap.size]? = some (.cells #[.int .i64 0, .int .i64 0, .slice none 0 0] 80) from ht6.at (show wr.drew.heap[w.heap.size]? = _ from HR0.out) (Nat.ne_of_lt HLB.out))
          have HX6 := Aside0.mk (show Below w.heap.size w w6 from (below_drew HXR.out).trans (ht6.1.mono (Nat.le_of_lt HLB.out)))
          have HL6 := Aside0.mk (show Kd.R k82 82 w6 w.heap.size (fun k => M < k) (.slice A l.length c) l from Kd.R_step HRL.out (fun k (ho : M < k) hlt => ht6.2 k hlt (by have h1 := HM.out; omega)))
          clear hc6 hd6 ht6 HF
          refine one_ (i := 4) (N := (some 49)) #[true, true, true, true, true, false, false, false] rfl rfl (by kernel_rfl) (by decide) (fun K hK => ?_)
          refine value_ (w1 := ?_) (v := ?_) (by rfl) rfl ?_ ?_
          rotate_left 2
          · go_simp
            constructor
            · rfl
            · rfl
          refine hK.out _ _ (blk_alloc hHeld _) (fun hHeld => ?_)
          clear hK K
          refine norm_ (a' := ?_) ?_ ?_
          rotate_left
          · show Act.put _ (some 49) _ = _
            simp only [Act.put, List.setIfInBounds_toArray, List.set_cons_zero, List.set_cons_succ, i64_w, i32_w]
            rfl
          refine one_ (i := 5) (N := (some 50)) #[true, true, true, true, true, true, false, false] rfl rfl (by kernel_rfl) (by decide) (fun K hK => ?_)
          refine Kd.R_append_step k82 (w0 := w) w.heap.size (by rfl) (.tmp 46) (.tmp 49) 78 82 (.agg #[.string ⟨#[]⟩, .int .i64 0, .int .i64 0, .int .u32 0]) 40 rfl Try.underlying78 api_File_124.info rfl (by decide) (by omega) (.slice A l.length c) l x [.string x.f0, .int .i64 x.f1, .int .i64 x.f2, .int .u32 x.f3] (fun k => M < k) (fun _ => False) (by rfl) (by rfl) (k82_mkM _ _ _ _) (fun _ hk => hk.elim) (fun k hk => Nat.lt_of_lt_of_le (blk_lt HD6.out) hk) HL6.out HX6.out HX6.out.size (by have := HUL.out; omega) ?_
          intro v1 w7 ho hb hg hat
          have hm7 := blk_grown HD6.out hg (Kd.R_away HL6.out (fun k hk => Nat.ne_of_gt hk))
          have hc7 := blk_grown HC6.out hg (Kd.R_away HL6.out (fun k hk => by have h1 := HM.out; omega))
          have hr7 := blk_grown HR6.out hg (Kd.R_away HL6.out (fun k hk => by have h1 := HM.out; have h2 := HLB.out; omega))
          obtain ⟨A7, c7, e7, hcc, _⟩ := Kd.R_reads ho
          subst e7
          refine hK.out _ _ hm7 (fun hHeld => ?_)
          clear hK K
          refine norm_ (a' := ?_) ?_ ?_
          rotate_left
          · show Act.put _ (some 50) _ = _
            simp only [Act.put, List.setIfInBounds_toArray, List.set_cons_zero, List.set_cons_succ, i64_w, i32_w]
            rfl
          have HC7 := Aside0.mk hc7
          have HM7 := Aside0.mk hm7
          have HR7 := Aside0.mk hr7
          have HO7 := Aside0.mk ho
          have HX7 := Aside0.mk hb
          have HCC := Aside0.mk hcc
          clear hc7 hm7 hr7 ho hb hg hat hcc HC6 HD6 HR6 HX6 HL6
          refine pure_ (i := 6) (N := (some 51)) (v := ?_) (a' := ?_) #[true, true, true, true, true, true, true, false] rfl rfl (by kernel_rfl) (fun _ _ _ h => h) (Or.inl ⟨by rfl, ?_⟩) ?_ ?_
          rotate_left
          · intro w'
            go_simp
            first | done | with_reducible rfl | rfl
          rotate_left
          · simp only [Act.put, List.setIfInBounds_toArray, List.set_cons_zero, List.set_cons_succ, i64_w, i32_w]
            rfl
          refine last_ (i := 7) (N := none) #[true, true, true, true, true, true, true, true] rfl rfl (by kernel_rfl) (by decide) (fun K hK => ?_)
          have f2 := blk_frozen HM7.out 2
          have m2 : w7.cell? ⟨M, 2, none⟩ = some (.slice A l.length c) := (blk_cell HM7.out 2).trans rfl
          refine skip_ (w1 := ?_) (by rfl) rfl ?_ ?_
          rotate_left
          · go_simp
            rfl
          refine hK.out _ _ ?_
          clear hK K f2 m2
          refine done_ (by kernel_rfl) ?_
          have hlen : l.length + 1 = (l ++ [x]).length := by simp
          rw [hlen]
          have HA7 := Aside0.mk (show manifest_Get.At w B M a b q' bad' (l ++ [x]) (w7.setCell ⟨M, 2, none⟩ (.slice A7 (l ++ [x]).length c7)) from ⟨blk_far HC7.out (show B ≠ M from Nat.ne_of_lt HM.out) _, blk_far HR7.out (show w.heap.size ≠ M by have h1 := HM.out; have h2 := HLB.out; omega) _, ⟨A7, c7, blk_put HM7.out 2 _ rfl, HCC.out, Kd.R_far (p := ⟨M, 2, none⟩) HO7.out (fun k hk => Nat.ne_of_gt hk) _⟩, below_set HX7.out (by have h1 := HM.out; have h2 := HLB.out; omega)⟩)
          have HLEN := Aside0.mk hlen
          clear hHeld hlen HC7 HM7 HR7 HO7 HX7 HCC
          generalize w7.setCell ⟨M, 2, none⟩ (.slice A7 (l ++ [x]).length c7) = w8 at HA7 ⊢
          go_wp2
          go_roundw
          case rel => exact ⟨v - 1, q', bad', l ++ [x], by have := HV.out; first | rfl | (congr 1; unfold wrap64; omega) | (simp only [wrap64]; congr 1; omega), by have := HV.out; omega, HQ'.out, by have h1 := HUL.out; have h2 := HV.out; have h3 := HU.out; have h4 := HLEN.out; omega, ⟨by have h2 := HV.out; have h3 := HU.out; rw [show (v - 1).toNat = u by omega]; exact HLq.out⟩, HA7⟩
          case measure => have h2 := HV.out; simp [intOf]; omega


/-! ### chainmanref19_Same: function 66 -/
mutual
def chainmanref19_Same.j0 : Nat → Bool → Int → Int → List (S82) → Int → Int → List (S82) → Option (Bool)
  | 0, _, _, _, _, _, _, _ => none
  | k + 1, x26, x109000, x109001, x109002, x110000, x110001, x110002 => if x26 = true then (some false) else (chainmanref19_Same.l0 k 0 x109000 x109001 x109002 x110000 x110001 x110002)
def chainmanref19_Same.l0 : Nat → Int → Int → Int → List (S82) → Int → Int → List (S82) → Option (Bool)
  | 0, _, _, _, _, _, _, _ => none
  | k + 1, x5, x109000, x109001, x109002, x110000, x110001, x110002 => if x5 < (x109002.length : Int) then (if 0 ≤ x5 then (if x5 < (x110002.length : Int) then (if (!((((rd_T82 x109002 x5).f0).toList) == (((rd_T82 x110002 x5).f0).toList)) || (!(((rd_T82 x109002 x5).f1) == ((rd_T82 x110002 x5).f1)) || (!(((rd_T82 x109002 x5).f2) == ((rd_T82 x110002 x5).f2)) || (!(((rd_T82 x109002 x5).f3) == ((rd_T82 x110002 x5).f3)))))) = true then (some false) else (chainmanref19_Same.l0 k (wrap64 (x5 + 1)) x109000 x109001 x109002 x110000 x110001 x110002)) else (none)) else (none)) else (some true)
end
def chainmanref19_Same.f (k : Nat) (a0_0 : Int) (a0_1 : Int) (l0_2 : List (S82)) (a1_0 : Int) (a1_1 : Int) (l1_2 : List (S82)) : Option (Bool) := if a0_0 = a1_0 then (if a0_1 = a1_1 then (chainmanref19_Same.j0 k ((l0_2.length : Int) != (l1_2.length : Int)) a0_0 a0_1 l0_2 a1_0 a1_1 l1_2) else (chainmanref19_Same.j0 k true a0_0 a0_1 l0_2 a1_0 a1_1 l1_2)) else (chainmanref19_Same.j0 k true a0_0 a0_1 l0_2 a1_0 a1_1 l1_2)
theorem chainmanref19_Same.mono_l : ∀ k, (∀ y0 y1 y2 y3 y4 y5 y6, LeO (chainmanref19_Same.j0 k y0 y1 y2 y3 y4 y5 y6) (chainmanref19_Same.j0 (k + 1) y0 y1 y2 y3 y4 y5 y6)) ∧ (∀ y0 y1 y2 y3 y4 y5 y6, LeO (chainmanref19_Same.l0 k y0 y1 y2 y3 y4 y5 y6) (chainmanref19_Same.l0 (k + 1) y0 y1 y2 y3 y4 y5 y6))
  | 0 => ⟨fun _ _ _ _ _ _ _ r h => by simp [chainmanref19_Same.j0] at h, fun _ _ _ _ _ _ _ r h => by simp [chainmanref19_Same.l0] at h⟩
  | k + 1 => by
    obtain ⟨ih0, ih1⟩ := chainmanref19_Same.mono_l k
    refine ⟨?_, ?_⟩
    · intro y0 y1 y2 y3 y4 y5 y6
      unfold chainmanref19_Same.j0
      repeat' first
      | (with_reducible exact ih0 _ _ _ _ _ _ _)
      | (with_reducible exact ih1 _ _ _ _ _ _ _)
      | (with_reducible exact LeO.refl _)
      | (with_reducible exact LeO.none _)
      | (with_reducible refine LeO.ite ?_ ?_)
      | (with_reducible refine LeO.bind ?_ (fun _ => ?_))
      | exact ih0 _ _ _ _ _ _ _
      | exact ih1 _ _ _ _ _ _ _
      | exact LeO.none _
      | refine LeO.ite ?_ ?_
      | refine LeO.bind ?_ (fun _ => ?_)
    · intro y0 y1 y2 y3 y4 y5 y6
      unfold chainmanref19_Same.l0
      repeat' first
      | (with_reducible exact ih0 _ _ _ _ _ _ _)
      | (with_reducible exact ih1 _ _ _ _ _ _ _)
      | (with_reducible exact LeO.refl _)
      | (with_reducible exact LeO.none _)
      | (with_reducible refine LeO.ite ?_ ?_)
      | (with_reducible refine LeO.bind ?_ (fun _ => ?_))
      | exact ih0 _ _ _ _ _ _ _
      | exact ih1 _ _ _ _ _ _ _
      | exact LeO.none _
      | refine LeO.ite ?_ ?_
      | refine LeO.bind ?_ (fun _ => ?_)
theorem chainmanref19_Same.mono : ∀ a0 a1 a2 a3 a4 a5 k, LeO (chainmanref19_Same.f k a0 a1 a2 a3 a4 a5) (chainmanref19_Same.f (k + 1) a0 a1 a2 a3 a4 a5) := by
  intro a0 a1 a2 a3 a4 a5 k
  obtain ⟨ih0, ih1⟩ := chainmanref19_Same.mono_l k
  unfold chainmanref19_Same.f
  repeat' first
      | (with_reducible exact ih0 _ _ _ _ _ _ _)
      | (with_reducible exact ih1 _ _ _ _ _ _ _)
      | (with_reducible exact LeO.refl _)
      | (with_reducible exact LeO.none _)
      | (with_reducible refine LeO.ite ?_ ?_)
      | (with_reducible refine LeO.bind ?_ (fun _ => ?_))
      | exact ih0 _ _ _ _ _ _ _
      | exact ih1 _ _ _ _ _ _ _
      | exact LeO.none _
      | refine LeO.ite ?_ ?_
      | refine LeO.bind ?_ (fun _ => ?_)
set_option maxHeartbeats 8000000 in
set_option maxRecDepth 100000 in
theorem chainmanref19_Same.calls (k : Nat) (a0_0 : Int) (a0_1 : Int) (A0_2 : Option Addr) (c0_2 : Nat) (l0_2 : List (S82)) (a1_0 : Int) (a1_1 : Int) (A1_2 : Option Addr) (c1_2 : Nat) (l1_2 : List (S82)) (r : Bool) (w : World) (hr0_2 : Kd.C k82 w A0_2 l0_2.length l0_2) (hc0_2 : l0_2.length ≤ c0_2) (hr1_2 : Kd.C k82 w A1_2 l1_2.length l1_2) (hc1_2 : l1_2.length ≤ c1_2) (h : chainmanref19_Same.f k a0_0 a0_1 l0_2 a1_0 a1_1 l1_2 = some r) :
    Calls Try.prog 66 #[.agg #[.int .i64 a0_0, .int .i64 a0_1, .slice A0_2 l0_2.length c0_2], .agg #[.int .i64 a1_0, .int .i64 a1_1, .slice A1_2 l1_2.length c1_2]] w fun e w' => e = .returned (.bool r) ∧ Below w.heap.size w w' := by
  have hu80 := Try.underlying80
  have hu82 := Try.underlying82
  have HR0_2 := Aside0.mk hr0_2
  have HC0_2 := Aside0.mk hc0_2
  clear hr0_2 hc0_2
  have HR1_2 := Aside0.mk hr1_2
  have HC1_2 := Aside0.mk hc1_2
  clear hr1_2 hc1_2
  have HB := Aside0.mk (Below.refl w.heap.size w)
  have H : (if a0_0 = a1_0 then (if a0_1 = a1_1 then (chainmanref19_Same.j0 k ((l0_2.length : Int) != (l1_2.length : Int)) a0_0 a0_1 l0_2 a1_0 a1_1 l1_2) else (chainmanref19_Same.j0 k true a0_0 a0_1 l0_2 a1_0 a1_1 l1_2)) else (chainmanref19_Same.j0 k true a0_0 a0_1 l0_2 a1_0 a1_1 l1_2)) = some r := h
  clear h
  have HC3 := Aside0.mk H
  clear H
  go_enter Try.func66, Try.ntmps66
  go_upto_region 1 with (first | ((with_reducible refine gate_dst (N := 2) rfl ?_); (try (refine gate_guard (by rfl) ?_; dsimp only)); refine box_event ?hg (N := 2) ?hd (cs := #[.int .i64 a0_0, .int .i64 a0_1, .slice A0_2 l0_2.length c0_2]) (t := 80) ?hr ?_; (case hd => rfl); (case hg => rfl); (case hr => first | (go_simp; done) | (go_simp; rfl)); intro gb108 hg w4 hbox hb; have n0_ := Aside0.mk (below_step (by repeat (first | (with_reducible first | exact HB.out | apply below_alloc | apply pw_below_drewN | apply below_drew1) | exact HB.out)) hb); have n1_ := Aside0.mk (hbox); have n2_ := Aside0.mk ((by rw [hg]; exact (below_size (by repeat (first | (with_reducible first | exact HB.out | apply below_alloc | apply pw_below_drewN | apply below_drew1) | exact HB.out))) : w.heap.size ≤ gb108)); have n3_ := Aside0.mk ((by rw [hg]; exact (below_size (by repeat (first | (with_reducible first | exact HB.out | apply below_alloc | apply pw_below_drewN | apply below_drew1) | exact HB.out))) : w.heap.size ≤ gb108)); clear HB; have HB := n0_; have BK108 := n1_; have GW108 := n2_; have GE108 := n3_; clear n0_ n1_ n2_ n3_; clear hb hbox hg) | ((with_reducible refine gate_dst (N := 3) rfl ?_); (try (refine gate_guard (by rfl) ?_; dsimp only)); refine box_event ?hg (N := 3) ?hd (cs := #[.int .i64 a1_0, .int .i64 a1_1, .slice A1_2 l1_2.length c1_2]) (t := 80) ?hr ?_; (case hd => rfl); (case hg => rfl); (case hr => first | (go_simp; done) | (go_simp; rfl)); intro gb109 hg w5 hbox hb; have n0_ := Aside0.mk (blk_below (g := gb108) (o := .cells #[.int .i64 a0_0, .int .i64 a0_1, .slice A0_2 l0_2.length c0_2] 80 (0, 0)) (by (with_reducible repeat (first | refine blk_drewN ?_ _ | refine blk_drew ?_ | refine blk_alloc ?_ _)); exact BK108.out) hb); have n1_ := Aside0.mk (below_step (by repeat (first | (with_reducible first | exact HB.out | apply below_alloc | apply pw_below_drewN | apply below_drew1 | refine below_set ?_ GE108.out) | exact HB.out)) hb); have n2_ := Aside0.mk (hbox); have n3_ := Aside0.mk ((by rw [hg]; exact (below_size (by repeat (first | (with_reducible first | exact HB.out | apply below_alloc | apply pw_below_drewN | apply below_drew1 | refine below_set ?_ GE108.out) | exact HB.out))) : w.heap.size ≤ gb109)); have n4_ := Aside0.mk ((by rw [hg]; exact (below_size (by repeat (first | (with_reducible first | exact HB.out | apply below_alloc | apply pw_below_drewN | apply below_drew1 | refine below_set ?_ GE108.out) | exact HB.out))) : w.heap.size ≤ gb109)); have n5_ := Aside0.mk ((by rw [hg]; exact Nat.ne_of_lt (blk_lt (g := gb108) (o := .cells #[.int .i64 a0_0, .int .i64 a0_1, .slice A0_2 l0_2.length c0_2] 80 (0, 0)) (by (with_reducible repeat (first | refine blk_drewN ?_ _ | refine blk_drew ?_ | refine blk_alloc ?_ _)); exact BK108.out)) : gb108 ≠ gb109)); have n6_ := Aside0.mk ((by rw [hg]; exact Nat.ne_of_gt (blk_lt (g := gb108) (o := .cells #[.int .i64 a0_0, .int .i64 a0_1, .slice A0_2 l0_2.length c0_2] 80 (0, 0)) (by (with_reducible repeat (first | refine blk_drewN ?_ _ | refine blk_drew ?_ | refine blk_alloc ?_ _)); exact BK108.out)) : gb109 ≠ gb108)); clear BK108; clear HB; have BK108 := n0_; have HB := n1_; have BK109 := n2_; have GW109 := n3_; have GE109 := n4_; have NB108_109 := n5_; have NB109_108 := n6_; clear n0_ n1_ n2_ n3_ n4_ n5_ n6_; clear hb hbox hg))
  repeat (go_quiet (first | ((with_reducible refine gate_dst (N := 2) rfl ?_); (try (refine gate_guard (by rfl) ?_; dsimp only)); refine box_event ?hg (N := 2) ?hd (cs := #[.int .i64 a0_0, .int .i64 a0_1, .slice A0_2 l0_2.length c0_2]) (t := 80) ?hr ?_; (case hd => rfl); (case hg => rfl); (case hr => first | (go_simp; done) | (go_simp; rfl)); intro gb108 hg w4 hbox hb; have n0_ := Aside0.mk (below_step (by repeat (first | (with_reducible first | exact HB.out | apply below_alloc | apply pw_below_drewN | apply below_drew1) | exact HB.out)) hb); have n1_ := Aside0.mk (hbox); have n2_ := Aside0.mk ((by rw [hg]; exact (below_size (by repeat (first | (with_reducible first | exact HB.out | apply below_alloc | apply pw_below_drewN | apply below_drew1) | exact HB.out))) : w.heap.size ≤ gb108)); have n3_ := Aside0.mk ((by rw [hg]; exact (below_size (by repeat (first | (with_reducible first | exact HB.out | apply below_alloc | apply pw_below_drewN | apply below_drew1) | exact HB.out))) : w.heap.size ≤ gb108)); clear HB; have HB := n0_; have BK108 := n1_; have GW108 := n2_; have GE108 := n3_; clear n0_ n1_ n2_ n3_; clear hb hbox hg) | ((with_reducible refine gate_dst (N := 3) rfl ?_); (try (refine gate_guard (by rfl) ?_; dsimp only)); refine box_event ?hg (N := 3) ?hd (cs := #[.int .i64 a1_0, .int .i64 a1_1, .slice A1_2 l1_2.length c1_2]) (t := 80) ?hr ?_; (case hd => rfl); (case hg => rfl); (case hr => first | (go_simp; done) | (go_simp; rfl)); intro gb109 hg w5 hbox hb; have n0_ := Aside0.mk (blk_below (g := gb108) (o := .cells #[.int .i64 a0_0, .int .i64 a0_1, .slice A0_2 l0_2.length c0_2] 80 (0, 0)) (by (with_reducible repeat (first | refine blk_drewN ?_ _ | refine blk_drew ?_ | refine blk_alloc ?_ _)); exact BK108.out) hb); have n1_ := Aside0.mk (below_step (by repeat (first | (with_reducible first | exact HB.out | apply below_alloc | apply pw_below_drewN | apply below_drew1 | refine below_set ?_ GE108.out) | exact HB.out)) hb); have n2_ := Aside0.mk (hbox); have n3_ := Aside0.mk ((by rw [hg]; exact (below_size (by repeat (first | (with_reducible first | exact HB.out | apply below_alloc | apply pw_below_drewN | apply below_drew1 | refine below_set ?_ GE108.out) | exact HB.out))) : w.heap.size ≤ gb109)); have n4_ := Aside0.mk ((by rw [hg]; exact (below_size (by repeat (first | (with_reducible first | exact HB.out | apply below_alloc | apply pw_below_drewN | apply below_drew1 | refine below_set ?_ GE108.out) | exact HB.out))) : w.heap.size ≤ gb109)); have n5_ := Aside0.mk ((by rw [hg]; exact Nat.ne_of_lt (blk_lt (g := gb108) (o := .cells #[.int .i64 a0_0, .int .i64 a0_1, .slice A0_2 l0_2.length c0_2] 80 (0, 0)) (by (with_reducible repeat (first | refine blk_drewN ?_ _ | refine blk_drew ?_ | refine blk_alloc ?_ _)); exact BK108.out)) : gb108 ≠ gb109)); have n6_ := Aside0.mk ((by rw [hg]; exact Nat.ne_of_gt (blk_lt (g := gb108) (o := .cells #[.int .i64 a0_0, .int .i64 a0_1, .slice A0_2 l0_2.length c0_2] 80 (0, 0)) (by (with_reducible repeat (first | refine blk_drewN ?_ _ | refine blk_drew ?_ | refine blk_alloc ?_ _)); exact BK108.out)) : gb109 ≠ gb108)); clear BK108; clear HB; have BK108 := n0_; have HB := n1_; have BK109 := n2_; have GW109 := n3_; have GE109 := n4_; have NB108_109 := n5_; have NB109_108 := n6_; clear n0_ n1_ n2_ n3_ n4_ n5_ n6_; clear hb hbox hg)); go_upto_region 1 with (first | ((with_reducible refine gate_dst (N := 2) rfl ?_); (try (refine gate_guard (by rfl) ?_; dsimp only)); refine box_event ?hg (N := 2) ?hd (cs := #[.int .i64 a0_0, .int .i64 a0_1, .slice A0_2 l0_2.length c0_2]) (t := 80) ?hr ?_; (case hd => rfl); (case hg => rfl); (case hr => first | (go_simp; done) | (go_simp; rfl)); intro gb108 hg w4 hbox hb; have n0_ := Aside0.mk (below_step (by repeat (first | (with_reducible first | exact HB.out | apply below_alloc | apply pw_below_drewN | apply below_drew1) | exact HB.out)) hb); have n1_ := Aside0.mk (hbox); have n2_ := Aside0.mk ((by rw [hg]; exact (below_size (by repeat (first | (with_reducible first | exact HB.out | apply below_alloc | apply pw_below_drewN | apply below_drew1) | exact HB.out))) : w.heap.size ≤ gb108)); have n3_ := Aside0.mk ((by rw [hg]; exact (below_size (by repeat (first | (with_reducible first | exact HB.out | apply below_alloc | apply pw_below_drewN | apply below_drew1) | exact HB.out))) : w.heap.size ≤ gb108)); clear HB; have HB := n0_; have BK108 := n1_; have GW108 := n2_; have GE108 := n3_; clear n0_ n1_ n2_ n3_; clear hb hbox hg) | ((with_reducible refine gate_dst (N := 3) rfl ?_); (try (refine gate_guard (by rfl) ?_; dsimp only)); refine box_event ?hg (N := 3) ?hd (cs := #[.int .i64 a1_0, .int .i64 a1_1, .slice A1_2 l1_2.length c1_2]) (t := 80) ?hr ?_; (case hd => rfl); (case hg => rfl); (case hr => first | (go_simp; done) | (go_simp; rfl)); intro gb109 hg w5 hbox hb; have n0_ := Aside0.mk (blk_below (g := gb108) (o := .cells #[.int .i64 a0_0, .int .i64 a0_1, .slice A0_2 l0_2.length c0_2] 80 (0, 0)) (by (with_reducible repeat (first | refine blk_drewN ?_ _ | refine blk_drew ?_ | refine blk_alloc ?_ _)); exact BK108.out) hb); have n1_ := Aside0.mk (below_step (by repeat (first | (with_reducible first | exact HB.out | apply below_alloc | apply pw_below_drewN | apply below_drew1 | refine below_set ?_ GE108.out) | exact HB.out)) hb); have n2_ := Aside0.mk (hbox); have n3_ := Aside0.mk ((by rw [hg]; exact (below_size (by repeat (first | (with_reducible first | exact HB.out | apply below_alloc | apply pw_below_drewN | apply below_drew1 | refine below_set ?_ GE108.out) | exact HB.out))) : w.heap.size ≤ gb109)); have n4_ := Aside0.mk ((by rw [hg]; exact (below_size (by repeat (first | (with_reducible first | exact HB.out | apply below_alloc | apply pw_below_drewN | apply below_drew1 | refine below_set ?_ GE108.out) | exact HB.out))) : w.heap.size ≤ gb109)); have n5_ := Aside0.mk ((by rw [hg]; exact Nat.ne_of_lt (blk_lt (g := gb108) (o := .cells #[.int .i64 a0_0, .int .i64 a0_1, .slice A0_2 l0_2.length c0_2] 80 (0, 0)) (by (with_reducible repeat (first | refine blk_drewN ?_ _ | refine blk_drew ?_ | refine blk_alloc ?_ _)); exact BK108.out)) : gb108 ≠ gb109)); have n6_ := Aside0.mk ((by rw [hg]; exact Nat.ne_of_gt (blk_lt (g := gb108) (o := .cells #[.int .i64 a0_0, .int .i64 a0_1, .slice A0_2 l0_2.length c0_2] 80 (0, 0)) (by (with_reducible repeat (first | refine blk_drewN ?_ _ | refine blk_drew ?_ | refine blk_alloc ?_ _)); exact BK108.out)) : gb109 ≠ gb108)); clear BK108; clear HB; have BK108 := n0_; have HB := n1_; have BK109 := n2_; have GW109 := n3_; have GE109 := n4_; have NB108_109 := n5_; have NB109_108 := n6_; clear n0_ n1_ n2_ n3_ n4_ n5_ n6_; clear hb hbox hg)))
  (try simp only [Act.put, List.setIfInBounds_toArray, List.set_cons_zero, List.set_cons_succ])
  go_cut [26] (fun v26 wc => ∃ (kq : Nat) (x26_2 : Bool), v26 = .bool x26_2 ∧ Aside0 (chainmanref19_Same.j0 kq x26_2 a0_0 a0_1 l0_2 a1_0 a1_1 l1_2 = some r) ∧ Aside0 (kq ≤ k) ∧ Aside0 (wc.heap[gb108]? = some (.cells #[.int .i64 a0_0, .int .i64 a0_1, (.slice A0_2 l0_2.length c0_2)] 80 (0, 0))) ∧ Aside0 (wc.heap[gb109]? = some (.cells #[.int .i64 a1_0, .int .i64 a1_1, (.slice A1_2 l1_2.length c1_2)] 80 (0, 0))) ∧ Aside0 (Below w.heap.size w wc))
  case first =>
    have H := HC3.out
    clear HC3
    by_cases c6 : a0_0 = a1_0
    · rw [if_pos c6] at H
      have c6b0 : (a0_0 == a1_0) = true := beq_iff_eq.mpr c6
      have c6b1 : (a0_0 != a1_0) = false := bne_eq_false_iff_eq.mpr c6
      clear c6
      (first | rw [c6b0] | (simp only [i64_w, i32_w]; rw [c6b0]) | skip)
      by_cases c7 : a0_1 = a1_1
      · rw [if_pos c7] at H
        have c7b0 : (a0_1 == a1_1) = true := beq_iff_eq.mpr c7
        have c7b1 : (a0_1 != a1_1) = false := bne_eq_false_iff_eq.mpr c7
        clear c7
        have H' := Aside0.mk H
        clear H
        have hnb8 := NB108_109.out
        have hnc8 := NB109_108.out
        have hcz9_0 : w5.cell? ⟨gb108, 0, none⟩ = some (.int .i64 a0_0) := (blk_cell BK108.out 0).trans rfl
        have hcz9_1 : w5.cell? ⟨gb108, 1, none⟩ = some (.int .i64 a0_1) := (blk_cell BK108.out 1).trans rfl
        have hcz9_2 : w5.cell? ⟨gb108, 2, none⟩ = some (.slice A0_2 l0_2.length c0_2) := (blk_cell BK108.out 2).trans rfl
        have hfz9_0 := blk_frozen BK108.out 0
        have hfz9_1 := blk_frozen BK108.out 1
        have hfz9_2 := blk_frozen BK108.out 2
        have hcz10_0 : w5.cell? ⟨gb109, 0, none⟩ = some (.int .i64 a1_0) := (blk_cell BK109.out 0).trans rfl
        have hcz10_1 : w5.cell? ⟨gb109, 1, none⟩ = some (.int .i64 a1_1) := (blk_cell BK109.out 1).trans rfl
        have hcz10_2 : w5.cell? ⟨gb109, 2, none⟩ = some (.slice A1_2 l1_2.length c1_2) := (blk_cell BK109.out 2).trans rfl
        have hfz10_0 := blk_frozen BK109.out 0
        have hfz10_1 := blk_frozen BK109.out 1
        have hfz10_2 := blk_frozen BK109.out 2
        go_wp2
        repeat (go_quiet (fail); try go_wp2)
        go_meet
        case rel => exact ⟨_, (((l0_2.length : Int) != (l1_2.length : Int))), (by first | rfl | (simp; done) | (simp [*]; done)), H', ⟨by first | omega | exact Nat.le_refl _⟩, ⟨by (with_reducible repeat (first | refine blk_drewN ?_ _ | refine blk_drew ?_ | refine blk_alloc ?_ _)); exact BK108.out⟩, ⟨by (with_reducible repeat (first | refine blk_drewN ?_ _ | refine blk_drew ?_ | refine blk_alloc ?_ _)); exact BK109.out⟩, ⟨by repeat (first | (with_reducible first | exact HB.out | apply below_alloc | apply pw_below_drewN | apply below_drew1 | refine below_set ?_ GE108.out | refine below_set ?_ GE109.out) | exact HB.out)⟩⟩
      · rw [if_neg c7] at H
        have c7b0 : (a0_1 == a1_1) = false := beq_eq_false_iff_ne.mpr c7
        have c7b1 : (a0_1 != a1_1) = true := bne_iff_ne.mpr c7
        have H' := Aside0.mk H
        clear H
        have hnb11 := NB108_109.out
        have hnc11 := NB109_108.out
        have hcz12_0 : w5.cell? ⟨gb108, 0, none⟩ = some (.int .i64 a0_0) := (blk_cell BK108.out 0).trans rfl
        have hcz12_1 : w5.cell? ⟨gb108, 1, none⟩ = some (.int .i64 a0_1) := (blk_cell BK108.out 1).trans rfl
        have hcz12_2 : w5.cell? ⟨gb108, 2, none⟩ = some (.slice A0_2 l0_2.length c0_2) := (blk_cell BK108.out 2).trans rfl
        have hfz12_0 := blk_frozen BK108.out 0
        have hfz12_1 := blk_frozen BK108.out 1
        have hfz12_2 := blk_frozen BK108.out 2
        have hcz13_0 : w5.cell? ⟨gb109, 0, none⟩ = some (.int .i64 a1_0) := (blk_cell BK109.out 0).trans rfl
        have hcz13_1 : w5.cell? ⟨gb109, 1, none⟩ = some (.int .i64 a1_1) := (blk_cell BK109.out 1).trans rfl
        have hcz13_2 : w5.cell? ⟨gb109, 2, none⟩ = some (.slice A1_2 l1_2.length c1_2) := (blk_cell BK109.out 2).trans rfl
        have hfz13_0 := blk_frozen BK109.out 0
        have hfz13_1 := blk_frozen BK109.out 1
        have hfz13_2 := blk_frozen BK109.out 2
        go_wp2
        repeat (go_quiet (fail); try go_wp2)
        go_meet
        case rel => exact ⟨_, (true), (by first | rfl | (simp; done) | (simp [*]; done)), H', ⟨by first | omega | exact Nat.le_refl _⟩, ⟨by (with_reducible repeat (first | refine blk_drewN ?_ _ | refine blk_drew ?_ | refine blk_alloc ?_ _)); exact BK108.out⟩, ⟨by (with_reducible repeat (first | refine blk_drewN ?_ _ | refine blk_drew ?_ | refine blk_alloc ?_ _)); exact BK109.out⟩, ⟨by repeat (first | (with_reducible first | exact HB.out | apply below_alloc | apply pw_below_drewN | apply below_drew1 | refine below_set ?_ GE108.out | refine below_set ?_ GE109.out) | exact HB.out)⟩⟩
    · rw [if_neg c6] at H
      have c6b0 : (a0_0 == a1_0) = false := beq_eq_false_iff_ne.mpr c6
      have c6b1 : (a0_0 != a1_0) = true := bne_iff_ne.mpr c6
      (first | rw [c6b0] | (simp only [i64_w, i32_w]; rw [c6b0]) | skip)
      have H' := Aside0.mk H
      clear H
      have hnb14 := NB108_109.out
      have hnc14 := NB109_108.out
      have hcz15_0 : w5.cell? ⟨gb108, 0, none⟩ = some (.int .i64 a0_0) := (blk_cell BK108.out 0).trans rfl
      have hcz15_1 : w5.cell? ⟨gb108, 1, none⟩ = some (.int .i64 a0_1) := (blk_cell BK108.out 1).trans rfl
      have hcz15_2 : w5.cell? ⟨gb108, 2, none⟩ = some (.slice A0_2 l0_2.length c0_2) := (blk_cell BK108.out 2).trans rfl
      have hfz15_0 := blk_frozen BK108.out 0
      have hfz15_1 := blk_frozen BK108.out 1
      have hfz15_2 := blk_frozen BK108.out 2
      have hcz16_0 : w5.cell? ⟨gb109, 0, none⟩ = some (.int .i64 a1_0) := (blk_cell BK109.out 0).trans rfl
      have hcz16_1 : w5.cell? ⟨gb109, 1, none⟩ = some (.int .i64 a1_1) := (blk_cell BK109.out 1).trans rfl
      have hcz16_2 : w5.cell? ⟨gb109, 2, none⟩ = some (.slice A1_2 l1_2.length c1_2) := (blk_cell BK109.out 2).trans rfl
      have hfz16_0 := blk_frozen BK109.out 0
      have hfz16_1 := blk_frozen BK109.out 1
      have hfz16_2 := blk_frozen BK109.out 2
      go_wp2
      repeat (go_quiet (fail); try go_wp2)
      go_meet
      case rel => exact ⟨_, (true), (by first | rfl | (simp; done) | (simp [*]; done)), H', ⟨by first | omega | exact Nat.le_refl _⟩, ⟨by (with_reducible repeat (first | refine blk_drewN ?_ _ | refine blk_drew ?_ | refine blk_alloc ?_ _)); exact BK108.out⟩, ⟨by (with_reducible repeat (first | refine blk_drewN ?_ _ | refine blk_drew ?_ | refine blk_alloc ?_ _)); exact BK109.out⟩, ⟨by repeat (first | (with_reducible first | exact HB.out | apply below_alloc | apply pw_below_drewN | apply below_drew1 | refine below_set ?_ GE108.out | refine below_set ?_ GE109.out) | exact HB.out)⟩⟩
  case rest =>
    clear HC3
    try clear c1
    try clear p2
    try clear c6
    try clear c6b0
    try clear c6b1
    try clear c7
    try clear c7b0
    try clear c7b1
    try clear c8
    try clear c11
    try clear c14
    try clear hcz10_0
    try clear hcz10_1
    try clear hcz10_2
    try clear hcz12_0
    try clear hcz12_1
    try clear hcz12_2
    try clear hcz13_0
    try clear hcz13_1
    try clear hcz13_2
    try clear hcz15_0
    try clear hcz15_1
    try clear hcz15_2
    try clear hcz16_0
    try clear hcz16_1
    try clear hcz16_2
    try clear hcz9_0
    try clear hcz9_1
    try clear hcz9_2
    try clear hfz10_0
    try clear hfz10_1
    try clear hfz10_2
    try clear hfz12_0
    try clear hfz12_1
    try clear hfz12_2
    try clear hfz13_0
    try clear hfz13_1
    try clear hfz13_2
    try clear hfz15_0
    try clear hfz15_1
    try clear hfz15_2
    try clear hfz16_0
    try clear hfz16_1
    try clear hfz16_2
    try clear hfz9_0
    try clear hfz9_1
    try clear hfz9_2
    obtain ⟨kq, x26_2, rfl, HA, HJ2, BK108, BK109, HB⟩ := hcut
    cases kq with
    | zero => exact absurd HA.out (by simp [chainmanref19_Same.j0])
    | succ kj2 =>
      have H := HA.out
      clear HA
      simp only [chainmanref19_Same.j0] at H
      by_cases c17 : x26_2 = true
      · subst c17
        have H1 : (some false) = some r := by rw [if_pos rfl] at H; exact H
        clear H
        have H := H1
        clear H1
        obtain rfl := Option.some.inj H
        go_wp2
        repeat (go_quiet (fail); try go_wp2)
        go_ret
        exact ⟨by first | rfl | (simp [errW_none, errW_some] <;> rfl) | (simp [*, errW_none, errW_some] <;> rfl), by repeat (first | (with_reducible first | exact HB.out | apply below_alloc | apply pw_below_drewN | apply below_drew1 | refine below_set ?_ GE108.out | refine below_set ?_ GE109.out) | exact HB.out)⟩
      · replace c17 := Bool.eq_false_iff.mpr c17
        subst c17
        have H1 : (chainmanref19_Same.l0 kj2 0 a0_0 a0_1 l0_2 a1_0 a1_1 l1_2) = some r := by rw [if_neg (show ¬ (false = true) by decide)] at H; exact H
        clear H
        have H := H1
        clear H1
        have H' := Aside0.mk H
        clear H
        go_wp2
        repeat (go_quiet (fail); try go_wp2)
        go_loopg [5] kj2 (fun kq v5 w' => ∃ (x5_2 : Int), v5 = .int .i64 x5_2 ∧ Aside0 (chainmanref19_Same.l0 kq x5_2 a0_0 a0_1 l0_2 a1_0 a1_1 l1_2 = some r) ∧ Aside0 (kq ≤ kj2) ∧ Aside0 (w'.heap[gb108]? = some (.cells #[.int .i64 a0_0, .int .i64 a0_1, (.slice A0_2 l0_2.length c0_2)] 80 (0, 0))) ∧ Aside0 (w'.heap[gb109]? = some (.cells #[.int .i64 a1_0, .int .i64 a1_1, (.slice A1_2 l1_2.length c1_2)] 80 (0, 0))) ∧ Aside0 (Below w.heap.size w w'))
        case atStart => exact ⟨(0), (by first | rfl | (simp; done) | (simp [*]; done)), H', ⟨Nat.le_refl _⟩, ⟨by (with_reducible repeat (first | refine blk_drewN ?_ _ | refine blk_drew ?_ | refine blk_alloc ?_ _)); exact BK108.out⟩, ⟨by (with_reducible repeat (first | refine blk_drewN ?_ _ | refine blk_drew ?_ | refine blk_alloc ?_ _)); exact BK109.out⟩, ⟨by repeat (first | (with_reducible first | exact HB.out | apply below_alloc | apply pw_below_drewN | apply below_drew1 | refine below_set ?_ GE108.out | refine below_set ?_ GE109.out) | exact HB.out)⟩⟩
        case round =>
          clear H'
          try clear c1
          try clear p2
          try clear c6
          try clear c6b0
          try clear c6b1
          try clear c7
          try clear c7b0
          try clear c7b1
          try clear c8
          try clear c11
          try clear c14
          try clear c17
          try clear hcz10_0
          try clear hcz10_1
          try clear hcz10_2
          try clear hcz12_0
          try clear hcz12_1
          try clear hcz12_2
          try clear hcz13_0
          try clear hcz13_1
          try clear hcz13_2
          try clear hcz15_0
          try clear hcz15_1
          try clear hcz15_2
          try clear hcz16_0
          try clear hcz16_1
          try clear hcz16_2
          try clear hcz9_0
          try clear hcz9_1
          try clear hcz9_2
          try clear hfz10_0
          try clear hfz10_1
          try clear hfz10_2
          try clear hfz12_0
          try clear hfz12_1
          try clear hfz12_2
          try clear hfz13_0
          try clear hfz13_1
          try clear hfz13_2
          try clear hfz15_0
          try clear hfz15_1
          try clear hfz15_2
          try clear hfz16_0
          try clear hfz16_1
          try clear hfz16_2
          try clear hfz9_0
          try clear hfz9_1
          try clear hfz9_2
          try clear p2
          obtain ⟨x5_2, rfl, HA, HK2, BK108, BK109, HB⟩ := hrel
          cases gk with
          | zero => exact absurd HA.out (by simp [chainmanref19_Same.l0])
          | succ k2 =>
            have H := HA.out
            clear HA
            simp only [chainmanref19_Same.l0] at H
            by_cases c18 : x5_2 < (l0_2.length : Int)
            · rw [if_pos c18] at H
              have c18b0 : decide (x5_2 < (l0_2.length : Int)) = true := decide_eq_true c18
              clear c18
              by_cases c19 : 0 ≤ x5_2
              · rw [if_pos c19] at H
                have c19b0 : decide (0 ≤ x5_2) = true := decide_eq_true c19
                clear c19
                by_cases c20 : x5_2 < (l1_2.length : Int)
                · rw [if_pos c20] at H
                  have c20b0 : decide (x5_2 < (l1_2.length : Int)) = true := decide_eq_true c20
                  clear c20
                  by_cases c21 : (!((((rd_T82 l0_2 x5_2).f0).toList) == (((rd_T82 l1_2 x5_2).f0).toList)) || (!(((rd_T82 l0_2 x5_2).f1) == ((rd_T82 l1_2 x5_2).f1)) || (!(((rd_T82 l0_2 x5_2).f2) == ((rd_T82 l1_2 x5_2).f2)) || (!(((rd_T82 l0_2 x5_2).f3) == ((rd_T82 l1_2 x5_2).f3)))))) = true
                  · rw [if_pos c21] at H
                    have c21b0 : (!((((rd_T82 l0_2 x5_2).f0).toList) == (((rd_T82 l1_2 x5_2).f0).toList)) || (!(((rd_T82 l0_2 x5_2).f1) == ((rd_T82 l1_2 x5_2).f1)) || (!(((rd_T82 l0_2 x5_2).f2) == ((rd_T82 l1_2 x5_2).f2)) || (!(((rd_T82 l0_2 x5_2).f3) == ((rd_T82 l1_2 x5_2).f3)))))) = true := c21
                    clear c21
                    obtain rfl := Option.some.inj H
                    have hnb22 := NB108_109.out
                    have hnc22 := NB109_108.out
                    have hcz23_0 : wr.cell? ⟨gb108, 0, none⟩ = some (.int .i64 a0_0) := (blk_cell BK108.out 0).trans rfl
                    have hcz23_1 : wr.cell? ⟨gb108, 1, none⟩ = some (.int .i64 a0_1) := (blk_cell BK108.out 1).trans rfl
                    have hcz23_2 : wr.cell? ⟨gb108, 2, none⟩ = some (.slice A0_2 l0_2.length c0_2) := (blk_cell BK108.out 2).trans rfl
                    have hfz23_0 := blk_frozen BK108.out 0
                    have hfz23_1 := blk_frozen BK108.out 1
                    have hfz23_2 := blk_frozen BK108.out 2
                    have p110 : 0 ≤ (x5_2 : Int) := of_decide_eq_true (by first | (with_reducible assumption) | assumption)
                    have q110 : x5_2 < (l0_2.length : Int) := of_decide_eq_true (by first | (with_reducible assumption) | assumption)
                    obtain ⟨ad110, e110, hx110_0, hx110_1, hx110_2, hx110_3⟩ := at_T82 HR0_2.out x5_2 p110 q110
                    cases e110
                    replace hx110_0 := (HB.out.cell (World.block_lt_of_cell? w _ hx110_0)).trans hx110_0
                    replace hx110_1 := (HB.out.cell (World.block_lt_of_cell? w _ hx110_1)).trans hx110_1
                    replace hx110_2 := (HB.out.cell (World.block_lt_of_cell? w _ hx110_2)).trans hx110_2
                    replace hx110_3 := (HB.out.cell (World.block_lt_of_cell? w _ hx110_3)).trans hx110_3
                    replace p110 := eq_true p110
                    replace q110 := eq_true q110
                    have hcz24_0 : wr.cell? ⟨gb109, 0, none⟩ = some (.int .i64 a1_0) := (blk_cell BK109.out 0).trans rfl
                    have hcz24_1 : wr.cell? ⟨gb109, 1, none⟩ = some (.int .i64 a1_1) := (blk_cell BK109.out 1).trans rfl
                    have hcz24_2 : wr.cell? ⟨gb109, 2, none⟩ = some (.slice A1_2 l1_2.length c1_2) := (blk_cell BK109.out 2).trans rfl
                    have hfz24_0 := blk_frozen BK109.out 0
                    have hfz24_1 := blk_frozen BK109.out 1
                    have hfz24_2 := blk_frozen BK109.out 2
                    have p111 : 0 ≤ (x5_2 : Int) := of_decide_eq_true (by first | (with_reducible assumption) | assumption)
                    have q111 : x5_2 < (l1_2.length : Int) := of_decide_eq_true (by first | (with_reducible assumption) | assumption)
                    obtain ⟨ad111, e111, hx111_0, hx111_1, hx111_2, hx111_3⟩ := at_T82 HR1_2.out x5_2 p111 q111
                    cases e111
                    replace hx111_0 := (HB.out.cell (World.block_lt_of_cell? w _ hx111_0)).trans hx111_0
                    replace hx111_1 := (HB.out.cell (World.block_lt_of_cell? w _ hx111_1)).trans hx111_1
                    replace hx111_2 := (HB.out.cell (World.block_lt_of_cell? w _ hx111_2)).trans hx111_2
                    replace hx111_3 := (HB.out.cell (World.block_lt_of_cell? w _ hx111_3)).trans hx111_3
                    replace p111 := eq_true p111
                    replace q111 := eq_true q111
                    go_wp2
                    repeat (go_quiet (fail); try go_wp2)
                    go_ret
                    exact ⟨by first | rfl | (simp [errW_none, errW_some] <;> rfl) | (simp [*, errW_none, errW_some] <;> rfl), by repeat (first | (with_reducible first | exact HB.out | apply below_alloc | apply pw_below_drewN | apply below_drew1 | refine below_set ?_ GE108.out | refine below_set ?_ GE109.out) | exact HB.out)⟩
                  · rw [if_neg c21] at H
                    have c21b0 : (!((((rd_T82 l0_2 x5_2).f0).toList) == (((rd_T82 l1_2 x5_2).f0).toList)) || (!(((rd_T82 l0_2 x5_2).f1) == ((rd_T82 l1_2 x5_2).f1)) || (!(((rd_T82 l0_2 x5_2).f2) == ((rd_T82 l1_2 x5_2).f2)) || (!(((rd_T82 l0_2 x5_2).f3) == ((rd_T82 l1_2 x5_2).f3)))))) = false := by simpa using c21
                    clear c21
                    have H' := Aside0.mk H
                    clear H
                    have hnb25 := NB108_109.out
                    have hnc25 := NB109_108.out
                    have hcz26_0 : wr.cell? ⟨gb108, 0, none⟩ = some (.int .i64 a0_0) := (blk_cell BK108.out 0).trans rfl
                    have hcz26_1 : wr.cell? ⟨gb108, 1, none⟩ = some (.int .i64 a0_1) := (blk_cell BK108.out 1).trans rfl
                    have hcz26_2 : wr.cell? ⟨gb108, 2, none⟩ = some (.slice A0_2 l0_2.length c0_2) := (blk_cell BK108.out 2).trans rfl
                    have hfz26_0 := blk_frozen BK108.out 0
                    have hfz26_1 := blk_frozen BK108.out 1
                    have hfz26_2 := blk_frozen BK108.out 2
                    have p110 : 0 ≤ (x5_2 : Int) := of_decide_eq_true (by first | (with_reducible assumption) | assumption)
                    have q110 : x5_2 < (l0_2.length : Int) := of_decide_eq_true (by first | (with_reducible assumption) | assumption)
                    obtain ⟨ad110, e110, hx110_0, hx110_1, hx110_2, hx110_3⟩ := at_T82 HR0_2.out x5_2 p110 q110
                    cases e110
                    replace hx110_0 := (HB.out.cell (World.block_lt_of_cell? w _ hx110_0)).trans hx110_0
                    replace hx110_1 := (HB.out.cell (World.block_lt_of_cell? w _ hx110_1)).trans hx110_1
                    replace hx110_2 := (HB.out.cell (World.block_lt_of_cell? w _ hx110_2)).trans hx110_2
                    replace hx110_3 := (HB.out.cell (World.block_lt_of_cell? w _ hx110_3)).trans hx110_3
                    replace p110 := eq_true p110
                    replace q110 := eq_true q110
                    have hcz27_0 : wr.cell? ⟨gb109, 0, none⟩ = some (.int .i64 a1_0) := (blk_cell BK109.out 0).trans rfl
                    have hcz27_1 : wr.cell? ⟨gb109, 1, none⟩ = some (.int .i64 a1_1) := (blk_cell BK109.out 1).trans rfl
                    have hcz27_2 : wr.cell? ⟨gb109, 2, none⟩ = some (.slice A1_2 l1_2.length c1_2) := (blk_cell BK109.out 2).trans rfl
                    have hfz27_0 := blk_frozen BK109.out 0
                    have hfz27_1 := blk_frozen BK109.out 1
                    have hfz27_2 := blk_frozen BK109.out 2
                    have p111 : 0 ≤ (x5_2 : Int) := of_decide_eq_true (by first | (with_reducible assumption) | assumption)
                    have q111 : x5_2 < (l1_2.length : Int) := of_decide_eq_true (by first | (with_reducible assumption) | assumption)
                    obtain ⟨ad111, e111, hx111_0, hx111_1, hx111_2, hx111_3⟩ := at_T82 HR1_2.out x5_2 p111 q111
                    cases e111
                    replace hx111_0 := (HB.out.cell (World.block_lt_of_cell? w _ hx111_0)).trans hx111_0
                    replace hx111_1 := (HB.out.cell (World.block_lt_of_cell? w _ hx111_1)).trans hx111_1
                    replace hx111_2 := (HB.out.cell (World.block_lt_of_cell? w _ hx111_2)).trans hx111_2
                    replace hx111_3 := (HB.out.cell (World.block_lt_of_cell? w _ hx111_3)).trans hx111_3
                    replace p111 := eq_true p111
                    replace q111 := eq_true q111
                    go_wp2
                    repeat (go_quiet (fail); try go_wp2)
                    go_roundg k2
                    case measure => have := HJ2.out; have := HK2.out; omega
                    case rel => exact ⟨(wrap64 (x5_2 + 1)), (by first | rfl | (simp; done) | (simp [*]; done)), H', ⟨by have := HJ2.out; have := HK2.out; omega⟩, ⟨by (with_reducible repeat (first | refine blk_drewN ?_ _ | refine blk_drew ?_ | refine blk_alloc ?_ _)); exact BK108.out⟩, ⟨by (with_reducible repeat (first | refine blk_drewN ?_ _ | refine blk_drew ?_ | refine blk_alloc ?_ _)); exact BK109.out⟩, ⟨by repeat (first | (with_reducible first | exact HB.out | apply below_alloc | apply pw_below_drewN | apply below_drew1 | refine below_set ?_ GE108.out | refine below_set ?_ GE109.out) | exact HB.out)⟩⟩
                · rw [if_neg c20] at H
                  exact absurd H (by simp)
              · rw [if_neg c19] at H
                exact absurd H (by simp)
            · rw [if_neg c18] at H
              have c18b0 : decide (x5_2 < (l0_2.length : Int)) = false := decide_eq_false c18
              clear c18
              obtain rfl := Option.some.inj H
              have hnb28 := NB108_109.out
              have hnc28 := NB109_108.out
              have hcz29_0 : wr.cell? ⟨gb108, 0, none⟩ = some (.int .i64 a0_0) := (blk_cell BK108.out 0).trans rfl
              have hcz29_1 : wr.cell? ⟨gb108, 1, none⟩ = some (.int .i64 a0_1) := (blk_cell BK108.out 1).trans rfl
              have hcz29_2 : wr.cell? ⟨gb108, 2, none⟩ = some (.slice A0_2 l0_2.length c0_2) := (blk_cell BK108.out 2).trans rfl
              have hfz29_0 := blk_frozen BK108.out 0
              have hfz29_1 := blk_frozen BK108.out 1
              have hfz29_2 := blk_frozen BK108.out 2
              go_wp2
              repeat (go_quiet (fail); try go_wp2)
              go_ret
              exact ⟨by first | rfl | (simp [errW_none, errW_some] <;> rfl) | (simp [*, errW_none, errW_some] <;> rfl), by repeat (first | (with_reducible first | exact HB.out | apply below_alloc | apply pw_below_drewN | apply below_drew1 | refine below_set ?_ GE108.out | refine below_set ?_ GE109.out) | exact HB.out)⟩

/-! ### chainmanlaw19_awake: function 61 -/
def chainmanlaw19_awake.f (k : Nat)  : Option (Bool) := (manifest_Put.f 1 0 ([] : List (S82))).bind fun bt112 => ((manifest_Put.f 0 0 ([] : List (S82))).bind fun bt114 => ((manifest_Get.f bt112.1).bind fun bt116 => (if bt112.2 = true then (if (bt112.1.size : Int) = 13 then (if bt114.2 = true then (none) else (if bt116.2.2.2 = true then ((chainmanref19_Same.f k bt116.1 bt116.2.1 bt116.2.2.1 1 0 ([] : List (S82))).bind fun t123 => (if t123 = true then ((manifest_With.f bt116.1 bt116.2.1 bt116.2.2.1 (⟨#[97]⟩ : ByteArray) 0 0 0).bind fun bt124 => (some ((bt124.2.2.length : Int) == 1))) else (none))) else (none))) else (none)) else (none))))
theorem chainmanlaw19_awake.mono : ∀ k, LeO (chainmanlaw19_awake.f k ) (chainmanlaw19_awake.f (k + 1) ) := by
  intro  k
  unfold chainmanlaw19_awake.f
  repeat' first
      | (with_reducible exact chainmanref19_Same.mono _ _ _ _ _ _ _)
      | (with_reducible exact LeO.refl _)
      | (with_reducible exact LeO.none _)
      | (with_reducible refine LeO.ite ?_ ?_)
      | (with_reducible refine LeO.bind ?_ (fun _ => ?_))
      | exact chainmanref19_Same.mono _ _ _ _ _ _ _
      | exact LeO.none _
      | refine LeO.ite ?_ ?_
      | refine LeO.bind ?_ (fun _ => ?_)
set_option maxHeartbeats 8000000 in
set_option maxRecDepth 100000 in
theorem chainmanlaw19_awake.calls (k : Nat)  (r : Bool) (w : World) (h : chainmanlaw19_awake.f k  = some r) :
    Calls Try.prog 61 #[] w fun e w' => e = .returned (.bool r) ∧ Below w.heap.size w w' := by
  have hu80 := Try.underlying80
  have hu82 := Try.underlying82
  have hfd80_2 : ∀ (v0 v1 v2 : Value) (W : World), (Instr.field 80 (.agg #[v0, v1, v2]) 2).run Try.prog W = .ok v2 W := fun _ _ _ _ => by kernel_rfl
  have HB := Aside0.mk (Below.refl w.heap.size w)
  have H : ((manifest_Put.f 1 0 ([] : List (S82))).bind fun bt112 => ((manifest_Put.f 0 0 ([] : List (S82))).bind fun bt114 => ((manifest_Get.f bt112.1).bind fun bt116 => (if bt112.2 = true then (if (bt112.1.size : Int) = 13 then (if bt114.2 = true then (none) else (if bt116.2.2.2 = true then ((chainmanref19_Same.f k bt116.1 bt116.2.1 bt116.2.2.1 1 0 ([] : List (S82))).bind fun t123 => (if t123 = true then ((manifest_With.f bt116.1 bt116.2.1 bt116.2.2.1 (⟨#[97]⟩ : ByteArray) 0 0 0).bind fun bt124 => (some ((bt124.2.2.length : Int) == 1))) else (none))) else (none))) else (none)) else (none))))) = some r := h
  clear h
  replace H := Option.bind_eq_some_iff.mp H
  obtain ⟨⟨t112, t113⟩, A10, H⟩ := H
  replace H : ((manifest_Put.f 0 0 ([] : List (S82))).bind fun bt114 => ((manifest_Get.f t112).bind fun bt116 => (if t113 = true then (if (t112.size : Int) = 13 then (if bt114.2 = true then (none) else (if bt116.2.2.2 = true then ((chainmanref19_Same.f k bt116.1 bt116.2.1 bt116.2.2.1 1 0 ([] : List (S82))).bind fun t123 => (if t123 = true then ((manifest_With.f bt116.1 bt116.2.1 bt116.2.2.1 (⟨#[97]⟩ : ByteArray) 0 0 0).bind fun bt124 => (some ((bt124.2.2.length : Int) == 1))) else (none))) else (none))) else (none)) else (none)))) = some r := H
  have A1 := Aside0.mk A10
  clear A10
  replace H := Option.bind_eq_some_iff.mp H
  obtain ⟨⟨t114, t115⟩, A20, H⟩ := H
  replace H : ((manifest_Get.f t112).bind fun bt116 => (if t113 = true then (if (t112.size : Int) = 13 then (if t115 = true then (none) else (if bt116.2.2.2 = true then ((chainmanref19_Same.f k bt116.1 bt116.2.1 bt116.2.2.1 1 0 ([] : List (S82))).bind fun t123 => (if t123 = true then ((manifest_With.f bt116.1 bt116.2.1 bt116.2.2.1 (⟨#[97]⟩ : ByteArray) 0 0 0).bind fun bt124 => (some ((bt124.2.2.length : Int) == 1))) else (none))) else (none))) else (none)) else (none))) = some r := H
  have A2 := Aside0.mk A20
  clear A20
  replace H := Option.bind_eq_some_iff.mp H
  obtain ⟨⟨t116, t117, t118, t121⟩, A30, H⟩ := H
  replace H : (if t113 = true then (if (t112.size : Int) = 13 then (if t115 = true then (none) else (if t121 = true then ((chainmanref19_Same.f k t116 t117 t118 1 0 ([] : List (S82))).bind fun t123 => (if t123 = true then ((manifest_With.f t116 t117 t118 (⟨#[97]⟩ : ByteArray) 0 0 0).bind fun bt124 => (some ((bt124.2.2.length : Int) == 1))) else (none))) else (none))) else (none)) else (none)) = some r := H
  have A3 := Aside0.mk A30
  clear A30
  by_cases c4 : t113 = true
  · subst c4
    have H1 : (if (t112.size : Int) = 13 then (if t115 = true then (none) else (if t121 = true then ((chainmanref19_Same.f k t116 t117 t118 1 0 ([] : List (S82))).bind fun t123 => (if t123 = true then ((manifest_With.f t116 t117 t118 (⟨#[97]⟩ : ByteArray) 0 0 0).bind fun bt124 => (some ((bt124.2.2.length : Int) == 1))) else (none))) else (none))) else (none)) = some r := by rw [if_pos rfl] at H; exact H
    clear H
    have H := H1
    clear H1
    by_cases c5 : (t112.size : Int) = 13
    · rw [if_pos c5] at H
      have c5b0 : ((t112.size : Int) == 13) = true := beq_iff_eq.mpr c5
      have c5b1 : ((t112.size : Int) != 13) = false := bne_eq_false_iff_eq.mpr c5
      clear c5
      by_cases c6 : t115 = true
      · subst c6
        have H1 : (none) = some r := by rw [if_pos rfl] at H; exact H
        clear H
        have H := H1
        clear H1
        exact absurd H (by simp)
      · replace c6 := Bool.eq_false_iff.mpr c6
        subst c6
        have H1 : (if t121 = true then ((chainmanref19_Same.f k t116 t117 t118 1 0 ([] : List (S82))).bind fun t123 => (if t123 = true then ((manifest_With.f t116 t117 t118 (⟨#[97]⟩ : ByteArray) 0 0 0).bind fun bt124 => (some ((bt124.2.2.length : Int) == 1))) else (none))) else (none)) = some r := by rw [if_neg (show ¬ (false = true) by decide)] at H; exact H
        clear H
        have H := H1
        clear H1
        by_cases c7 : t121 = true
        · subst c7
          have H1 : ((chainmanref19_Same.f k t116 t117 t118 1 0 ([] : List (S82))).bind fun t123 => (if t123 = true then ((manifest_With.f t116 t117 t118 (⟨#[97]⟩ : ByteArray) 0 0 0).bind fun bt124 => (some ((bt124.2.2.length : Int) == 1))) else (none))) = some r := by rw [if_pos rfl] at H; exact H
          clear H
          have H := H1
          clear H1
          replace H := Option.bind_eq_some_iff.mp H
          obtain ⟨t123, A80, H⟩ := H
          replace H : (if t123 = true then ((manifest_With.f t116 t117 t118 (⟨#[97]⟩ : ByteArray) 0 0 0).bind fun bt124 => (some ((bt124.2.2.length : Int) == 1))) else (none)) = some r := H
          have A8 := Aside0.mk A80
          clear A80
          by_cases c9 : t123 = true
          · subst c9
            have H1 : ((manifest_With.f t116 t117 t118 (⟨#[97]⟩ : ByteArray) 0 0 0).bind fun bt124 => (some ((bt124.2.2.length : Int) == 1))) = some r := by rw [if_pos rfl] at H; exact H
            clear H
            have H := H1
            clear H1
            replace H := Option.bind_eq_some_iff.mp H
            obtain ⟨⟨t124, t125, t126⟩, A100, H⟩ := H
            replace H : (some ((t126.length : Int) == 1)) = some r := H
            have A10 := Aside0.mk A100
            clear A100
            obtain rfl := Option.some.inj H
            go_enter Try.func61, Try.ntmps61
            go_wp2_with (first | ((with_reducible refine gate_callee (f := 64) rfl ?_); refine goesL_ (some 9) rfl rfl Try.func64 (by kernel_rfl) rfl #[.agg #[.int .i64 1, .int .i64 0, .slice none 0 0]] rfl (by (try simp only [List.map_toArray, List.map_cons, List.map_nil]); first | done | rfl | (simp only [List.length_drop, List.length_take]; rfl)) ?_; (refine (manifest_Put.calls 1 0 _ _ ([] : List (S82)) t112 true _ ?side1 ?side2 A1.out).mono ?_); (case side1 => exact Kd.C_nil _ _); (case side2 => exact Nat.le_refl _); rintro e w11 ⟨rfl, hb⟩; refine ⟨_, rfl, ?_⟩; have n0_ := Aside0.mk (below_step (by repeat (first | (with_reducible first | exact HB.out | apply below_alloc | apply pw_below_drewN | apply below_drew1) | exact HB.out)) hb); clear HB; have HB := n0_; clear n0_; (try clear hb); (try clear hb2); (try clear hk); (try clear hi)) | ((with_reducible refine gate_callee (f := 64) rfl ?_); refine goesL_ (some 14) rfl rfl Try.func64 (by kernel_rfl) rfl #[.agg #[.int .i64 0, .int .i64 0, .slice none 0 0]] rfl (by (try simp only [List.map_toArray, List.map_cons, List.map_nil]); first | done | rfl | (simp only [List.length_drop, List.length_take]; rfl)) ?_; (refine (manifest_Put.calls 0 0 _ _ ([] : List (S82)) t114 false _ ?side1 ?side2 A2.out).mono ?_); (case side1 => exact Kd.C_nil _ _); (case side2 => exact Nat.le_refl _); rintro e w12 ⟨rfl, hb⟩; refine ⟨_, rfl, ?_⟩; have n0_ := Aside0.mk (below_step (by repeat (first | (with_reducible first | exact HB.out | apply below_alloc | apply pw_below_drewN | apply below_drew1) | exact HB.out)) hb); clear HB; have HB := n0_; clear n0_; (try clear hb); (try clear hb2); (try clear hk); (try clear hi)) | ((with_reducible refine gate_callee (f := 65) rfl ?_); refine goesL_ (some 19) rfl rfl Try.func65 (by kernel_rfl) rfl #[.string t112] rfl (by (try simp only [List.map_toArray, List.map_cons, List.map_nil]); first | done | rfl | (simp only [List.length_drop, List.length_take]; rfl)) ?_; (with_reducible refine (manifest_Get.calls t112 t116 t117 t118 true _ A3.out).mono ?_); rintro e w13 ⟨v119, rfl, ho0, hb⟩; refine ⟨_, rfl, ?_⟩; have n0_ := Aside0.mk (Kd.R_lower ho0 (below_size (by repeat (first | (with_reducible first | exact HB.out | apply below_alloc | apply pw_below_drewN | apply below_drew1) | exact HB.out)))); have n1_ := Aside0.mk (below_step (by repeat (first | (with_reducible first | exact HB.out | apply below_alloc | apply pw_below_drewN | apply below_drew1) | exact HB.out)) hb); clear HB; have HO120 := n0_; have HB := n1_; clear n0_ n1_; (try clear hb); (try clear hb2); (try clear hk); (try clear hi); (try clear ho0)) | ((with_reducible refine gate_dst (N := 5) rfl ?_); (try (refine gate_guard (by rfl) ?_; dsimp only)); refine box_event ?hg (N := 5) ?hd (cs := #[.int .i64 0, .int .i64 0, .slice none 0 0]) (t := 80) ?hr ?_; (case hd => rfl); (case hg => rfl); (case hr => first | (go_simp; done) | (go_simp; rfl)); intro gb122 hg w14 hbox hb; have n0_ := Aside0.mk (Kd.R_below (by (with_reducible repeat (first | apply Kd.R_alloc | apply Kd.R_drewN | apply Kd.R_drew)); exact HO120.out) hb); have n1_ := Aside0.mk (below_step (by repeat (first | (with_reducible first | exact HB.out | apply below_alloc | apply pw_below_drewN | apply below_drew1) | exact HB.out)) hb); have n2_ := Aside0.mk (hbox); have n3_ := Aside0.mk ((by rw [hg]; exact (below_size (by repeat (first | (with_reducible first | exact HB.out | apply below_alloc | apply pw_below_drewN | apply below_drew1) | exact HB.out))) : w.heap.size ≤ gb122)); have n4_ := Aside0.mk ((by rw [hg]; exact (below_size (by repeat (first | (with_reducible first | exact HB.out | apply below_alloc | apply pw_below_drewN | apply below_drew1) | exact HB.out))) : w.heap.size ≤ gb122)); clear HO120; clear HB; have HO120 := n0_; have HB := n1_; have BK122 := n2_; have GW122 := n3_; have GE122 := n4_; clear n0_ n1_ n2_ n3_ n4_; clear hb hbox hg; have hcz15_0 : w14.cell? ⟨gb122, 0, none⟩ = some (.int .i64 0) := (blk_cell BK122.out 0).trans rfl; have hcz15_1 : w14.cell? ⟨gb122, 1, none⟩ = some (.int .i64 0) := (blk_cell BK122.out 1).trans rfl; have hcz15_2 : w14.cell? ⟨gb122, 2, none⟩ = some (.slice none 0 0) := (blk_cell BK122.out 2).trans rfl; have hfz15_0 := blk_frozen BK122.out 0; have hfz15_1 := blk_frozen BK122.out 1; have hfz15_2 := blk_frozen BK122.out 2; obtain ⟨Ao16, co16, eo16⟩ := Kd.R_slice HO120.out; subst eo16) | (go_at_call 66; refine calls_of_args (args' := #[.agg #[.int .i64 t116, .int .i64 t117, .slice Ao16 t118.length co16], .agg #[.int .i64 1, .int .i64 0, .slice none ([] : List (S82)).length 0]]) (by rfl) ?_; (with_reducible refine (chainmanref19_Same.calls k t116 t117 _ _ t118 1 0 _ _ ([] : List (S82)) true _ ?side1 ?side2 ?side3 ?side4 A8.out).mono ?_); (case side1 => refine (Kd.R_reads' (e := 82) (base := w.heap.size) (ok := fun k_ => True) (n := t118.length) (c := co16) ?_).2.2; exact (by (with_reducible repeat (first | apply Kd.R_alloc | apply Kd.R_drewN | apply Kd.R_drew)); exact (Kd.R_mono (Kd.R_far (p := ⟨gb122, 2, none⟩) (Kd.R_far (p := ⟨gb122, 1, none⟩) (Kd.R_far (p := ⟨gb122, 0, none⟩) (Kd.R_types HO120.out BK122.out (by decide)) (fun _ hk => hk.2) (.int .i64 t116)) (fun _ hk => hk.2) (.int .i64 t117)) (fun _ hk => hk.2) (.slice Ao16 t118.length co16)) (fun _ h_ => h_.1)))); (case side2 => exact (Kd.R_reads' HO120.out).2.1); (case side3 => exact Kd.C_nil _ _); (case side4 => exact Nat.le_refl _); rintro e w17 ⟨rfl, hb⟩; have n0_ := Aside0.mk (Kd.R_below (by (with_reducible repeat (first | apply Kd.R_alloc | apply Kd.R_drewN | apply Kd.R_drew)); exact (Kd.R_mono (Kd.R_far (p := ⟨gb122, 2, none⟩) (Kd.R_far (p := ⟨gb122, 1, none⟩) (Kd.R_far (p := ⟨gb122, 0, none⟩) (Kd.R_types HO120.out BK122.out (by decide)) (fun _ hk => hk.2) (.int .i64 t116)) (fun _ hk => hk.2) (.int .i64 t117)) (fun _ hk => hk.2) (.slice Ao16 t118.length co16)) (fun _ h_ => h_.1))) hb); have n1_ := Aside0.mk (blk_below (g := gb122) (o := .cells #[.int .i64 t116, .int .i64 t117, .slice Ao16 t118.length co16] 80 (0, 0)) (by (with_reducible repeat (first | refine blk_drewN ?_ _ | refine blk_drew ?_ | refine blk_alloc ?_ _)); refine blk_put (cs := #[.int .i64 t116, .int .i64 t117, .slice none 0 0]) ?_ 2 _ rfl; (with_reducible repeat (first | refine blk_drewN ?_ _ | refine blk_drew ?_ | refine blk_alloc ?_ _)); refine blk_put (cs := #[.int .i64 t116, .int .i64 0, .slice none 0 0]) ?_ 1 _ rfl; (with_reducible repeat (first | refine blk_drewN ?_ _ | refine blk_drew ?_ | refine blk_alloc ?_ _)); refine blk_put (cs := #[.int .i64 0, .int .i64 0, .slice none 0 0]) ?_ 0 _ rfl; (with_reducible repeat (first | refine blk_drewN ?_ _ | refine blk_drew ?_ | refine blk_alloc ?_ _)); exact BK122.out) hb); have n2_ := Aside0.mk (below_step (by repeat (first | (with_reducible first | exact HB.out | apply below_alloc | apply pw_below_drewN | apply below_drew1 | refine below_set ?_ GE122.out) | exact HB.out)) hb); clear HO120; clear BK122; clear HB; have HO120 := n0_; have BK122 := n1_; have HB := n2_; clear n0_ n1_ n2_; (try clear hb); (try clear hb2); (try clear hk); (try clear hi); have hcz18_0 : w17.cell? ⟨gb122, 0, none⟩ = some (.int .i64 t116) := (blk_cell BK122.out 0).trans rfl; have hcz18_1 : w17.cell? ⟨gb122, 1, none⟩ = some (.int .i64 t117) := (blk_cell BK122.out 1).trans rfl; have hcz18_2 : w17.cell? ⟨gb122, 2, none⟩ = some (.slice Ao16 t118.length co16) := (blk_cell BK122.out 2).trans rfl; have hfz18_0 := blk_frozen BK122.out 0; have hfz18_1 := blk_frozen BK122.out 1; have hfz18_2 := blk_frozen BK122.out 2) | (go_at_call 63; (with_reducible refine (manifest_With.calls t116 t117 _ _ t118 (⟨#[97]⟩ : ByteArray) 0 0 0 t124 t125 t126 _ ?side1 ?side2 A10.out).mono ?_); (case side1 => repeat (first | exact (Kd.R_reads' HO120.out).2.2 | (with_reducible refine Kd.C_alloc ?_ _) | (with_reducible refine Kd.C_drewN ?_ _) | (with_reducible refine Kd.C_drew ?_))); (case side2 => exact (Kd.R_reads' HO120.out).2.1); rintro e w19 ⟨v127, rfl, ho0, hb⟩; have n0_ := Aside0.mk (Kd.R_elder' (by (with_reducible repeat (first | apply Kd.R_alloc | apply Kd.R_drewN | apply Kd.R_drew)); exact HO120.out) (Kd.R_base ho0) hb); have n1_ := Aside0.mk (Kd.R_lower (Kd.R_new' ho0 (Kd.R_lt (by (with_reducible repeat (first | apply Kd.R_alloc | apply Kd.R_drewN | apply Kd.R_drew)); exact HO120.out))) (below_size (by repeat (first | (with_reducible first | exact HB.out | apply below_alloc | apply pw_below_drewN | apply below_drew1 | refine below_set ?_ GE122.out) | exact HB.out)))); have n2_ := Aside0.mk (blk_below (g := gb122) (o := .cells #[.int .i64 t116, .int .i64 t117, .slice Ao16 t118.length co16] 80 (0, 0)) (by (with_reducible repeat (first | refine blk_drewN ?_ _ | refine blk_drew ?_ | refine blk_alloc ?_ _)); exact BK122.out) hb); have n3_ := Aside0.mk (below_step (by repeat (first | (with_reducible first | exact HB.out | apply below_alloc | apply pw_below_drewN | apply below_drew1 | refine below_set ?_ GE122.out) | exact HB.out)) hb); clear HO120; clear BK122; clear HB; have HO120 := n0_; have HO128 := n1_; have BK122 := n2_; have HB := n3_; clear n0_ n1_ n2_ n3_; (try clear hb); (try clear hb2); (try clear hk); (try clear hi); (try clear ho0); obtain ⟨Ao20, co20, eo20⟩ := Kd.R_slice HO128.out; subst eo20))
            go_ret
            exact ⟨by first | rfl | (simp [errW_none, errW_some] <;> rfl) | (simp [*, errW_none, errW_some] <;> rfl), by repeat (first | (with_reducible first | exact HB.out | apply below_alloc | apply pw_below_drewN | apply below_drew1 | refine below_set ?_ GE122.out) | exact HB.out)⟩
          · replace c9 := Bool.eq_false_iff.mpr c9
            subst c9
            have H1 : (none) = some r := by rw [if_neg (show ¬ (false = true) by decide)] at H; exact H
            clear H
            have H := H1
            clear H1
            exact absurd H (by simp)
        · replace c7 := Bool.eq_false_iff.mpr c7
          subst c7
          have H1 : (none) = some r := by rw [if_neg (show ¬ (false = true) by decide)] at H; exact H
          clear H
          have H := H1
          clear H1
          exact absurd H (by simp)
    · rw [if_neg c5] at H
      exact absurd H (by simp)
  · replace c4 := Bool.eq_false_iff.mpr c4
    subst c4
    have H1 : (none) = some r := by rw [if_neg (show ¬ (false = true) by decide)] at H; exact H
    clear H
    have H := H1
    clear H1
    exact absurd H (by simp)

end Go.Proofs.Ytmacpgkcokpgjaa.PManifestTells
