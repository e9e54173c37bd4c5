/- The pruned lists of any graph, and how many edges each id has, are the document's, and none has more than the degree (the law PruneLists). -/
import Derived.Test.YtpdgjegnbcillaaPPruneListsx4
namespace Go.Proofs.Ytpdgjegnbcillaa.Pure
open Go.RowKit Go.Proofs.Ytpdgjegnbcillaa.PPruneLists Go.Proofs.YtpdgjegnbcillaaW.PrintWords Go.Proofs.YtpdgjegnbcillaaW.PrintLast
set_option linter.unusedVariables false
set_option linter.unusedSimpArgs false

/-! ### the law PruneLists -/
theorem w64 (n : Int) (h : -9223372036854775808 ≤ n ∧ n ≤ 9223372036854775807) : wrap64 n = n := by unfold wrap64; omega
theorem wsucc (i : Nat) (h : i < 1000000000000000) : wrap64 ((i : Int) + 1) = ((i + 1 : Nat) : Int) := by rw [w64 _ (by omega)]; omega
theorem rdL {l : List (List S80)} {i : Nat} (h : i < l.length) : rd_L3 l (i : Int) = l[i] := by
  show l.getD (i : Int).toNat [] = _
  rw [Int.toNat_natCast, List.getD_eq_getElem?_getD, List.getElem?_eq_getElem h]; rfl
theorem rdI {l : List Int} {i : Nat} (h : i < l.length) : rd l (i : Int) = l[i] := by
  show l.getD (i : Int).toNat 0 = _
  rw [Int.toNat_natCast, List.getD_eq_getElem?_getD, List.getElem?_eq_getElem h]; rfl
def cut (d : Int) (l : List S80) : List S80 := l.take (mn d (l.length : Int)).toNat
theorem mn_ok (d : Int) (n : Nat) (hd : 1 ≤ d) : 0 ≤ mn d (n : Int) ∧ mn d (n : Int) ≤ n := by unfold mn; split <;> omega
theorem cut_len (d : Int) (l : List S80) (hd : 1 ≤ d) : ((cut d l).length : Int) = mn d (l.length : Int) := by
  have := mn_ok d l.length hd
  unfold cut
  rw [List.length_take]
  omega
theorem set_here {α : Type} (A B : List α) (x v : α) : (A ++ x :: B).set A.length v = A ++ [v] ++ B := by simp
theorem lists_loop (g : List (List S80)) (d : Int) (hd : 1 ≤ d) (hn : g.length ≤ 1000) : ∀ (q i : Nat), i + q = g.length → Ev (fun k => prune_Lists.l0 k d ((g.take i).map (cut d) ++ List.replicate q []) g (g.length : Int) (i : Int)) (g.map (cut d)) := by
  intro q
  induction q with
  | zero =>
    intro i hi
    refine Ev.step (f := fun _ => some (g.map (cut d))) (fun k => ?_) (Ev.now _)
    rw [prune_Lists.l0, if_neg (by omega), List.take_of_length_le (by omega)]
    simp
  | succ q ih =>
    intro i hi
    have hlt : i < g.length := by omega
    refine Ev.step (fun k => ?_) (ih (i + 1) (by omega))
    have hm := mn_ok d (g[i]).length hd
    have hlen : ((g.take i).map (cut d)).length = i := by simp; omega
    have hset : (((g.take i).map (cut d)) ++ List.replicate (q + 1) []).set i (cut d g[i]) = (g.take (i + 1)).map (cut d) ++ List.replicate q [] := by
      rw [List.replicate_succ]
      have := set_here ((g.take i).map (cut d)) (List.replicate q ([] : List S80)) [] (cut d g[i])
      rw [hlen] at this
      rw [this, List.take_succ_eq_append_getElem hlt, List.map_append]
      rfl
    rw [prune_Lists.l0, if_pos (by omega), if_pos (by omega), if_pos (by omega), rdL hlt, if_pos hm.1, if_pos hm.2, if_pos (by rw [List.length_append, hlen, List.length_replicate]; omega), wsucc i (by omega), Int.toNat_natCast]
    show prune_Lists.l0 k d ((((g.take i).map (cut d)) ++ List.replicate (q + 1) []).set i (cut d g[i])) g _ _ = _
    rw [hset]
def both (g : List (List S80)) (d : Int) : List (List S80) := if 1 ≤ d ∧ d ≤ 128 then g.map (cut d) else []
theorem lists_ev (g : List (List S80)) (d : Int) (hn : g.length ≤ 1000) : Ev (fun k => prune_Lists.f k g d) (both g d) := by
  have hmay : prune_may.f d = some (decide (1 ≤ d ∧ d ≤ 128)) := by
    unfold prune_may.f
    by_cases c : d ≥ 1
    · rw [if_pos c]; congr 1; exact decide_eq_decide.mpr (by omega)
    · rw [if_neg c, decide_eq_false (by omega)]
  unfold prune_Lists.f both
  simp only [hmay, Option.bind_some, decide_eq_true_eq]
  by_cases c : 1 ≤ d ∧ d ≤ 128
  · refine Ev.congr (fun k => ?_) (by rw [if_pos c]; exact lists_loop g d c.1 hn g.length 0 (by omega))
    rw [if_pos c, if_pos (by omega), if_pos (by omega), Int.toNat_natCast]
    simp
  · exact Ev.congr (f := fun _ => some []) (fun k => by rw [if_neg c]) (by rw [if_neg c]; exact Ev.now _)
theorem degrees_loop (g : List (List S80)) (hn : g.length ≤ 1000) : ∀ (q i : Nat), i + q = g.length → Ev (fun k => prune_Degrees.l0 k ((g.take i).map (fun (l : List S80) => (l.length : Int)) ++ List.replicate q 0) g (g.length : Int) (i : Int)) (g.map (fun (l : List S80) => (l.length : Int))) := by
  intro q
  induction q with
  | zero =>
    intro i hi
    refine Ev.step (f := fun _ => some (g.map (fun (l : List S80) => (l.length : Int)))) (fun k => ?_) (Ev.now _)
    rw [prune_Degrees.l0, if_neg (by omega), List.take_of_length_le (by omega)]
    simp
  | succ q ih =>
    intro i hi
    have hlt : i < g.length := by omega
    refine Ev.step (fun k => ?_) (ih (i + 1) (by omega))
    have hlen : ((g.take i).map (fun (l : List S80) => (l.length : Int))).length = i := by simp; omega
    have hset : (((g.take i).map (fun (l : List S80) => (l.length : Int))) ++ List.replicate (q + 1) 0).set i ((g[i]).length : Int) = (g.take (i + 1)).map (fun (l : List S80) => (l.length : Int)) ++ List.replicate q 0 := by
      rw [List.replicate_succ]
      have := set_here ((g.take i).map (fun (l : List S80) => (l.length : Int))) (List.replicate q (0 : Int)) 0 ((g[i]).length : Int)
      rw [hlen] at this
      rw [this, List.take_succ_eq_append_getElem hlt, List.map_append]
      rfl
    rw [prune_Degrees.l0, if_pos (by omega), if_pos (by omega), if_pos (by omega), if_pos (by rw [List.length_append, hlen, List.length_replicate]; omega), rdL hlt, wsucc i (by omega), Int.toNat_natCast, hset]
theorem degrees_ev (g : List (List S80)) (hn : g.length ≤ 1000) : Ev (fun k => prune_Degrees.f k g) (g.map (fun (l : List S80) => (l.length : Int))) := by
  unfold prune_Degrees.f
  refine Ev.congr (fun k => ?_) (degrees_loop g hn g.length 0 (by omega))
  rw [if_pos (by omega), if_pos (by omega), Int.toNat_natCast]
  simp
theorem ref_loop (g : List (List S80)) (d : Int) (hd : 1 ≤ d) (hn : g.length ≤ 1000) : ∀ (q i : Nat), i + q = g.length → Ev (fun k => chainmanref35_Lists.l0 k g d ((g.take i).map (cut d)) (i : Int)) (g.map (cut d)) := by
  intro q
  induction q with
  | zero =>
    intro i hi
    refine Ev.step (f := fun _ => some (g.map (cut d))) (fun k => ?_) (Ev.now _)
    rw [chainmanref35_Lists.l0, if_neg (by omega), List.take_of_length_le (by omega)]
  | succ q ih =>
    intro i hi
    have hlt : i < g.length := by omega
    refine Ev.step (fun k => ?_) (ih (i + 1) (by omega))
    have hm := mn_ok d (g[i]).length hd
    have hlen : ((g.take i).map (cut d)).length = i := by simp; omega
    rw [chainmanref35_Lists.l0, if_pos (by omega), if_pos (by omega), rdL hlt, if_pos hm.1, if_pos hm.2, if_pos (by omega), wsucc i (by omega), List.take_succ_eq_append_getElem hlt, List.map_append]
    rfl
theorem ref_ev (g : List (List S80)) (d : Int) (hn : g.length ≤ 1000) : Ev (fun k => chainmanref35_Lists.f k g d) (both g d) := by
  by_cases c : 1 ≤ d ∧ d ≤ 128
  · refine Ev.congr (f := fun k => chainmanref35_Lists.j0 k g d false) (fun k => ?_) (Ev.step (fun k => ?_) (by unfold both; rw [if_pos c]; exact ref_loop g d c.1 hn g.length 0 (by omega)))
    · unfold chainmanref35_Lists.f
      rw [if_neg (by omega), decide_eq_false (by omega)]
    · rw [chainmanref35_Lists.j0, if_neg (by decide)]
      simp
  · refine Ev.congr (f := fun k => chainmanref35_Lists.j0 k g d true) (fun k => ?_) (Ev.step (f := fun _ => some []) (fun k => ?_) (by unfold both; rw [if_neg c]; exact Ev.now _))
    · unfold chainmanref35_Lists.f
      by_cases c1 : d < 1
      · rw [if_pos c1]
      · rw [if_neg c1, decide_eq_true (by omega)]
    · rw [chainmanref35_Lists.j0, if_pos rfl]
theorem same_loop (l : List S80) (hn : l.length ≤ 1000) : ∀ (q i : Nat), i + q = l.length → Ev (fun k => chainmanref12_Same.l0 k l l (i : Int)) true := by
  intro q
  induction q with
  | zero =>
    intro i hi
    refine Ev.step (f := fun _ => some true) (fun k => ?_) (Ev.now _)
    rw [chainmanref12_Same.l0, if_neg (by omega)]
  | succ q ih =>
    intro i hi
    refine Ev.step (fun k => ?_) (ih (i + 1) (by omega))
    rw [chainmanref12_Same.l0, if_pos (by omega), if_pos (by omega), if_pos (by omega), if_neg (by simp), wsucc i (by omega)]
theorem same_ev (l : List S80) (hn : l.length ≤ 1000) : Ev (fun k => chainmanref12_Same.f k l l) true := by
  refine Ev.congr (fun k => ?_) (same_loop l hn l.length 0 (by omega))
  unfold chainmanref12_Same.f
  rw [if_pos rfl]; rfl
theorem all_loop (l : List (List S80)) (hn : l.length ≤ 1000) (hl : ∀ x ∈ l, x.length ≤ 1000) : ∀ (q i : Nat), i + q = l.length → Ev (fun k => chainmanref12_SameAll.l0 k l l (i : Int)) true := by
  intro q
  induction q with
  | zero =>
    intro i hi
    refine Ev.step (f := fun _ => some true) (fun k => ?_) (Ev.now _)
    rw [chainmanref12_SameAll.l0, if_neg (by omega)]
  | succ q ih =>
    intro i hi
    have hlt : i < l.length := by omega
    refine Ev.step (f := fun k => (chainmanref12_Same.f k l[i] l[i]).bind fun t121 => (if t121 = true then (chainmanref12_SameAll.l0 k l l ((i + 1 : Nat) : Int)) else (some false))) (fun k => ?_) (Ev.bind (same_ev l[i] (hl _ (List.getElem_mem hlt))) ?_)
    · rw [chainmanref12_SameAll.l0, if_pos (by omega), if_pos (by omega), if_pos (by omega), rdL hlt, wsucc i (by omega)]
    · simp only [if_true]
      exact ih (i + 1) (by omega)
theorem all_ev (l : List (List S80)) (hn : l.length ≤ 1000) (hl : ∀ x ∈ l, x.length ≤ 1000) : Ev (fun k => chainmanref12_SameAll.f k l l) true := by
  refine Ev.congr (fun k => ?_) (all_loop l hn hl l.length 0 (by omega))
  unfold chainmanref12_SameAll.f
  rw [if_pos rfl]; rfl
theorem awake_k : chainmanlaw35_awake.f 20 = some true := by decide +kernel
theorem awake_ev : Ev (fun k => (chainmanlaw35_awake.f k).bind fun t => some t) true := Ev.bind (Ev.of chainmanlaw35_awake.mono awake_k) (Ev.now _)
theorem both_len (g : List (List S80)) (d : Int) : (both g d).length ≤ g.length := by unfold both; split <;> simp
theorem tell_loop (g : List (List S80)) (d : Int) (hn : g.length ≤ 1000) : ∀ (q i : Nat), i + q = (both g d).length → Ev (fun k => chainmanlaw35_PruneLists.l1 k g d (both g d) ((both g d).map (fun (l : List S80) => (l.length : Int))) (i : Int)) true := by
  intro q
  have hb := both_len g d
  induction q with
  | zero =>
    intro i hi
    refine Ev.step (fun k => ?_) awake_ev
    rw [chainmanlaw35_PruneLists.l1, if_neg (by omega)]
  | succ q ih =>
    intro i hi
    have hlt : i < (both g d).length := by omega
    have hg : i < g.length := by omega
    have c : 1 ≤ d ∧ d ≤ 128 := by
      rcases Decidable.em (1 ≤ d ∧ d ≤ 128) with c | c
      · exact c
      · unfold both at hlt; rw [if_neg c] at hlt; simp at hlt
    have he : (both g d)[i] = cut d g[i] := by unfold both; simp [c]
    have h2 : i < ((both g d).map (fun (l : List S80) => (l.length : Int))).length := by simp; exact hlt
    have e2 : ((both g d).map (fun (l : List S80) => (l.length : Int)))[i] = ((both g d)[i].length : Int) := by simp
    have hl := cut_len d g[i] c.1
    have hc : ((cut d g[i]).length : Int) ≤ d ∧ (((g[i]).length : Int) ≤ d → ((cut d g[i]).length : Int) = ((g[i]).length : Int)) := by
      rw [hl]; unfold mn; split <;> omega
    refine Ev.step (fun k => ?_) (ih (i + 1) (by omega))
    rw [chainmanlaw35_PruneLists.l1, if_pos (by omega), if_pos (by omega), if_pos (by omega), rdI h2, e2, rdL hlt, if_pos rfl, he, if_neg (by omega), if_pos (by omega), rdL hg, wsucc i (by omega)]
    by_cases c2 : ((g[i]).length : Int) ≤ d
    · rw [if_pos c2, if_pos (hc.2 c2)]
    · rw [if_neg c2]
theorem main_ev (g : List (List S80)) (d : Int) (hn : g.length ≤ 12) (hl : ∀ x ∈ g, x.length ≤ 140) (i : Int) : Ev (fun k => chainmanlaw35_PruneLists.j1 k g d i false) true := by
  have hb := both_len g d
  have hx : ∀ x ∈ both g d, x.length ≤ 1000 := by
    intro x hx
    unfold both at hx
    split at hx
    · obtain ⟨y, hy, rfl⟩ := List.mem_map.1 hx
      have := hl y hy
      unfold cut
      rw [List.length_take]
      omega
    · simp at hx
  refine Ev.step (f := fun k => (prune_Lists.f k g d).bind fun t163 => ((prune_Degrees.f k t163).bind fun t166 => ((chainmanref35_Lists.f k g d).bind fun t169 => ((chainmanref12_SameAll.f k t163 t169).bind fun t172 => (if t172 = true then (chainmanlaw35_PruneLists.j2 k g d t163 t166 ((t166.length : Int) != (t163.length : Int))) else (chainmanlaw35_PruneLists.j2 k g d t163 t166 true)))))) (fun k => ?_) ?_
  · rw [chainmanlaw35_PruneLists.j1, if_neg (by decide), if_neg (by omega)]
  · refine Ev.bind (lists_ev g d (by omega)) (Ev.bind (degrees_ev _ (by omega)) (Ev.bind (ref_ev g d (by omega)) (Ev.bind (all_ev _ (by omega) hx) ?_)))
    simp only [if_true, List.length_map, bne_self_eq_false]
    refine Ev.step (fun k => ?_) (tell_loop g d (by omega) (both g d).length 0 (by omega))
    rw [chainmanlaw35_PruneLists.j2, if_neg (by decide)]; rfl
theorem top_loop (g : List (List S80)) (d : Int) : ∀ (q i : Nat), i + q = 12 → (∀ j (h : j < g.length), j < i → (g[j]).length ≤ 140) → Ev (fun k => chainmanlaw35_PruneLists.l0 k g d (i : Int)) true := by
  intro q
  induction q with
  | zero =>
    intro i hi hj
    have fin : Ev (fun k => chainmanlaw35_PruneLists.j1 k g d (i : Int) false) true := by
      by_cases c : g.length ≤ 12
      · exact main_ev g d c (fun x hx => by obtain ⟨j, h, rfl⟩ := List.getElem_of_mem hx; exact hj j h (by omega)) _
      · refine Ev.step (fun k => ?_) awake_ev
        rw [chainmanlaw35_PruneLists.j1, if_neg (by decide), if_pos (by omega)]
    refine Ev.step (fun k => ?_) fin
    rw [chainmanlaw35_PruneLists.l0]
    by_cases c : (i : Int) < (g.length : Int)
    · rw [if_pos c, decide_eq_false (by omega)]
    · rw [if_neg c]
  | succ q ih =>
    intro i hi hj
    by_cases c : i < g.length
    · by_cases c2 : (g[i]).length ≤ 140
      · refine Ev.step (f := fun k => chainmanlaw35_PruneLists.j1 k g d (i : Int) true) (fun k => ?_) (Ev.step (fun k => ?_) (ih (i + 1) (by omega) (fun j h h2 => ?_)))
        · rw [chainmanlaw35_PruneLists.l0, if_pos (by omega), decide_eq_true (by omega)]
        · rw [chainmanlaw35_PruneLists.j1, if_pos rfl, if_pos (by omega), if_pos (by omega), rdL c, if_neg (by omega), wsucc i (by omega)]
        · by_cases e : j = i
          · subst e; exact c2
          · exact hj j h (by omega)
      · refine Ev.step (f := fun k => chainmanlaw35_PruneLists.j1 k g d (i : Int) true) (fun k => ?_) (Ev.step (fun k => ?_) awake_ev)
        · rw [chainmanlaw35_PruneLists.l0, if_pos (by omega), decide_eq_true (by omega)]
        · rw [chainmanlaw35_PruneLists.j1, if_pos rfl, if_pos (by omega), if_pos (by omega), rdL c, if_pos (by omega)]
    · refine Ev.step (fun k => ?_) (main_ev g d (by omega) (fun x hx => by obtain ⟨j, h, rfl⟩ := List.getElem_of_mem hx; exact hj j h (by omega)) (i : Int))
      rw [chainmanlaw35_PruneLists.l0, if_neg (by omega)]
theorem PruneLists : chainmanlaw35_PruneLists.Pure := by
  intro g d _ _
  exact (top_loop g d 12 0 (by omega) (fun j _ h => absurd h (Nat.not_lt_zero _))).rounds

end Go.Proofs.Ytpdgjegnbcillaa.Pure
