/- The document's answers are the program's; copies and lent rows are what they were copied from: no condition beyond each theorem's own. -/
import Derived.Test.YtgolnkankkegdaaAp
import Derived.Test.YtgolnkankkegdaaHAuditMovedy5
import Derived.Test.YtgolnkankkegdaaHAuditMovedy6
namespace Go.Proofs.Ytgolnkankkegdaa.As
open Go.RowKit Go.Proofs.Ytgolnkankkegdaa.Ap Go.Proofs.Ytgolnkankkegdaa.HAuditMoved Go.Proofs.YtgolnkankkegdaaW.PrintWords Go.Proofs.YtgolnkankkegdaaW.PrintLast
set_option linter.unusedVariables false
set_option linter.unusedSimpArgs false
theorem ref_Depth_ev : ∀ (n c a : Nat), c = n → 1 ≤ c → c ≤ 1099511627776 → a ≤ 1099511627776 → Ev (fun k => ossuaryref1_Depth.f k (c : Int) (a : Int)) ((longS c a : Nat) : Int) := by
  intro n
  induction n using Nat.strongRecOn with
  | _ n ih =>
    intro c a hc h1 hb ha
    by_cases h : 2 ≤ c
    · have hr := halfS_range h
      refine Ev.step (f := fun k => (ossuaryref1_half.f k (c : Int)).bind fun t170 => (if (a : Int) < t170 then ((ossuaryref1_Depth.f k t170 (a : Int)).bind fun t171 => (some (wrap64 (t171 + 1)))) else ((ossuaryref1_Depth.f k (wrap64 ((c : Int) - t170)) (wrap64 ((a : Int) - t170))).bind fun t172 => (some (wrap64 (t172 + 1)))))) (fun k => ?_) ?_
      · simp only [ossuaryref1_Depth.f]; rw [if_neg (by omega)]
      · refine Ev.bind (ref_half_ev c (by omega) hb) ?_
        by_cases g : a < halfS c
        · refine ev_pos (by omega) (Ev.bind (ih (halfS c) (by omega) (halfS c) a rfl (by omega) (by omega) ha) ?_)
          have := longS_le (halfS c) (halfS c) a rfl
          rw [w64 (by omega) (by omega), longS_left h g, show (((longS (halfS c) a : Nat) : Int) + 1) = ((longS (halfS c) a + 1 : Nat) : Int) from by omega]
          exact Ev.now _
        · refine ev_neg (by omega) ?_
          rw [w64 (x := (c : Int) - (halfS c : Int)) (by omega) (by omega), w64 (x := (a : Int) - (halfS c : Int)) (by omega) (by omega), show (c : Int) - (halfS c : Int) = ((c - halfS c : Nat) : Int) from by omega, show (a : Int) - (halfS c : Int) = ((a - halfS c : Nat) : Int) from by omega]
          refine Ev.bind (ih (c - halfS c) (by omega) (c - halfS c) (a - halfS c) rfl (by omega) (by omega) (by omega)) ?_
          have := longS_le (c - halfS c) (c - halfS c) (a - halfS c) rfl
          rw [w64 (by omega) (by omega), longS_right h g, show (((longS (c - halfS c) (a - halfS c) : Nat) : Int) + 1) = ((longS (c - halfS c) (a - halfS c) + 1 : Nat) : Int) from by omega]
          exact Ev.now _
    · refine Ev.step (f := fun k => some 0) (fun k => ?_) ?_
      · simp only [ossuaryref1_Depth.f]; rw [if_pos (by omega)]
      · rw [longS_one a h]; exact Ev.now _
theorem ref_climb_ev : ∀ (n c a : Nat) (x : Int) (p : List Int), c = n → 1 ≤ c → c ≤ 1099511627776 → a < c → p.length = longS c a → Ev (fun k => ossuaryref1_climb.f k (c : Int) (a : Int) x p) (upS c a x p) := by
  intro n
  induction n using Nat.strongRecOn with
  | _ n ih =>
    intro c a x p hc h1 hb ha hp
    by_cases h : 2 ≤ c
    · have hr := halfS_range h
      have hle := longS_le c c a rfl
      have hp1 : 1 ≤ p.length := by
        rw [hp]
        by_cases g : a < halfS c
        · rw [longS_left h g]; omega
        · rw [longS_right h g]; omega
      have hw : wrap64 ((p.length : Int) - 1) = ((p.length - 1 : Nat) : Int) := by rw [w64 (by omega) (by omega)]; omega
      have ht : (p.take (p.length - 1)).length = p.length - 1 := by rw [List.length_take]; omega
      refine Ev.step (f := fun k => (ossuaryref1_half.f k (c : Int)).bind fun t173 => (if (a : Int) < t173 then (if 0 ≤ (wrap64 ((p.length : Int) - 1)) then (if (wrap64 ((p.length : Int) - 1)) ≤ (p.length : Int) then ((ossuaryref1_climb.f k t173 (a : Int) x (p.take ((wrap64 ((p.length : Int) - 1)) : Int).toNat)).bind fun t175 => (if (wrap64 ((p.length : Int) - 1)) < (p.length : Int) then ((ossuaryref1_Pair.f t175 (rd p (wrap64 ((p.length : Int) - 1)))).bind fun t177 => (some t177)) else (none))) else (none)) else (none)) else (if 0 ≤ (wrap64 ((p.length : Int) - 1)) then (if (wrap64 ((p.length : Int) - 1)) < (p.length : Int) then (if (wrap64 ((p.length : Int) - 1)) ≤ (p.length : Int) then ((ossuaryref1_climb.f k (wrap64 ((c : Int) - t173)) (wrap64 ((a : Int) - t173)) x (p.take ((wrap64 ((p.length : Int) - 1)) : Int).toNat)).bind fun t180 => ((ossuaryref1_Pair.f (rd p (wrap64 ((p.length : Int) - 1))) t180).bind fun t181 => (some t181))) else (none)) else (none)) else (none)))) (fun k => ?_) ?_
      · simp only [ossuaryref1_climb.f]; rw [if_neg (by omega)]
      · refine Ev.bind (ref_half_ev c (by omega) hb) ?_
        rw [hw, Int.toNat_natCast]
        by_cases g : a < halfS c
        · refine ev_pos (by omega) (ev_pos (by omega) (ev_pos (by omega) ?_))
          refine Ev.bind (ih (halfS c) (by omega) (halfS c) a x _ rfl (by omega) (by omega) g (by rw [ht, hp, longS_left h g]; omega)) (ev_pos (by omega) ?_)
          simp only [ref_Pair_eq, Option.bind_some]
          rw [upS_left x p h g]
          exact Ev.now _
        · refine ev_neg (by omega) (ev_pos (by omega) (ev_pos (by omega) (ev_pos (by omega) ?_)))
          rw [w64 (x := (c : Int) - (halfS c : Int)) (by omega) (by omega), w64 (x := (a : Int) - (halfS c : Int)) (by omega) (by omega), show (c : Int) - (halfS c : Int) = ((c - halfS c : Nat) : Int) from by omega, show (a : Int) - (halfS c : Int) = ((a - halfS c : Nat) : Int) from by omega]
          refine Ev.bind (ih (c - halfS c) (by omega) (c - halfS c) (a - halfS c) x _ rfl (by omega) (by omega) (by omega) (by rw [ht, hp, longS_right h g]; omega)) ?_
          simp only [ref_Pair_eq, Option.bind_some]
          rw [upS_right x p h g]
          exact Ev.now _
    · refine Ev.step (f := fun k => some x) (fun k => ?_) ?_
      · simp only [ossuaryref1_climb.f]; rw [if_pos (by omega)]
      · rw [upS_one a x p h]; exact Ev.now _
theorem ref_CheckPath_ev (r c a x : Int) (p : List Int) (hp : p.length ≤ 17592186044416) : Ev (fun k => ossuaryref1_CheckPath.f k r c a x p) (checkA r c a x p) := by
  unfold ossuaryref1_CheckPath.f
  by_cases h1 : c < 1
  · rw [checkA_no (by unfold LeadOk; omega)]; exact ev_pos h1 (Ev.now _)
  refine ev_neg h1 ?_
  by_cases h2 : c > 64
  · rw [checkA_no (by unfold LeadOk; omega)]; exact ev_pos h2 (Ev.now _)
  refine ev_neg h2 ?_
  by_cases h3 : a < 0
  · rw [checkA_no (by unfold LeadOk; omega)]; exact ev_pos h3 (Ev.now _)
  refine ev_neg h3 ?_
  by_cases h4 : a ≥ c
  · rw [checkA_no (by unfold LeadOk; omega)]; exact ev_pos h4 (Ev.now _)
  refine ev_neg h4 ?_
  simp only [ref_SealNum_eq, Option.bind_some]
  obtain ⟨c, rfl⟩ := Int.eq_ofNat_of_zero_le (show 0 ≤ c by omega)
  obtain ⟨a, rfl⟩ := Int.eq_ofNat_of_zero_le (show 0 ≤ a by omega)
  have hle := longS_le c c a rfl
  by_cases h5 : 0 ≤ x ∧ x < 2147483647
  · refine ev_pos (decide_eq_true h5) (Ev.bind (ref_SealNums_ev p 64 hp) ?_)
    by_cases h6 : allB p = true ∧ p.length ≤ 64
    · refine ev_pos (by rw [h6.1, decide_eq_true (by omega)]; rfl) ?_
      refine Ev.bind (ref_Depth_ev c c a rfl (by omega) (by omega) (by omega)) ?_
      by_cases h7 : p.length = longS c a
      · rw [checkA_yes (show LeadOk (c : Int) (a : Int) x p from ⟨by omega, by omega, by omega, by omega, h5.1, h5.2, (allB_iff p).mp h6.1, h7⟩)]
        exact ev_pos (by omega) (Ev.bind (ref_climb_ev c c a x p rfl (by omega) (by omega) (by omega) h7) (Ev.now _))
      · rw [checkA_no (by intro h; exact h7 h.2.2.2.2.2.2.2)]
        exact ev_neg (by omega) (Ev.now _)
    · rw [checkA_no (by intro h; exact h6 ⟨(allB_iff p).mpr h.2.2.2.2.2.2.1, by have e : p.length = longS c a := h.2.2.2.2.2.2.2; omega⟩)]
      refine ev_neg (fun h => h6 ?_) (Ev.now _)
      rw [Bool.and_eq_true, decide_eq_true_eq] at h
      exact ⟨h.1, by omega⟩
  · rw [checkA_no (by unfold LeadOk; omega)]
    exact ev_neg (by simpa using h5) (Ev.now _)

theorem same_loop (l : List Int) (hl : l.length ≤ 17592186044416) : ∀ (d i : Nat), i + d = l.length → Ev (fun k => ossuarylaw0_SameInts.l0 k l l (i : Int)) true := by
  intro d
  induction d with
  | zero =>
    intro i hi
    refine ev_succ ?_
    simp only [ossuarylaw0_SameInts.l0]
    exact ev_neg (by omega) (Ev.now _)
  | succ d ih =>
    intro i hi
    refine ev_succ ?_
    simp only [ossuarylaw0_SameInts.l0]
    refine ev_pos (by omega) (ev_pos (by omega) (ev_pos (by omega) (ev_pos trivial ?_)))
    rw [w64 (by omega) (by omega)]
    exact ih (i + 1) (by omega)
theorem same_ev (l : List Int) (hl : l.length ≤ 17592186044416) : Ev (fun k => ossuarylaw0_SameInts.f k l l) true := by
  unfold ossuarylaw0_SameInts.f
  exact ev_pos rfl (same_loop l hl l.length 0 (by omega))

theorem lend_eq (l : List Int) (h : l.length ≤ 17592186043904) : ossuarylaw0_LendInts.f l = some l := by
  unfold ossuarylaw0_LendInts.f ossuarylaw0_CopyInts.f
  simp only [Option.bind_some, List.nil_append, List.length_nil, List.length_cons]
  rw [if_pos (by omega), Option.bind_some, if_pos (by omega), if_pos (by omega), if_pos (by rw [List.length_append]; simp only [List.length_cons, List.length_nil]; omega)]
  simp
theorem kept_ev (l : List Int) (h : l.length ≤ 17592186044416) : Ev (fun k => ossuarylaw0_KeptInts.f k l l) true := same_ev l h
theorem spoil_loop : ∀ (d i : Nat) (l : List Int), l.length ≤ 17592186044416 → i + d = l.length → ∃ r, Ev (fun k => ossuarylaw0_SpoilInts.l0 k l (i : Int)) r := by
  intro d
  induction d with
  | zero =>
    intro i l hl hi
    refine ⟨l, ev_succ ?_⟩
    simp only [ossuarylaw0_SpoilInts.l0]
    exact ev_neg (by omega) (Ev.now _)
  | succ d ih =>
    intro i l hl hi
    obtain ⟨r, hr⟩ := ih (i + 1) (l.set (i : Int).toNat (wrap64 ((-9) - (rd l (i : Int))))) (by rw [List.length_set]; exact hl) (by rw [List.length_set]; omega)
    refine ⟨r, ev_succ ?_⟩
    simp only [ossuarylaw0_SpoilInts.l0]
    refine ev_pos (by omega) (ev_pos (by omega) ?_)
    rw [w64 (x := (i : Int) + 1) (by omega) (by omega)]
    exact hr
theorem spoil_ev (l : List Int) (h : l.length ≤ 17592186044416) : ∃ r, Ev (fun k => ossuarylaw0_SpoilInts.f k l) r := by
  obtain ⟨r, hr⟩ := spoil_loop l.length 0 l h (by omega)
  exact ⟨r, hr⟩

/-! the document's Respond and CheckAudit: as the program's -/
theorem ask_loop (n : Int) (l : List Int) (hl : l.length ≤ 64) : ∀ (d i : Nat), i + d = l.length → Ev (fun k => ossuaryref1_AskMay.l0 k (i : Int) n l) ((l.drop i).all fun b => decide (0 ≤ b ∧ b < 4)) := by
  intro d
  induction d with
  | zero =>
    intro i hi
    refine ev_succ ?_
    simp only [ossuaryref1_AskMay.l0]
    rw [List.drop_of_length_le (show l.length ≤ i by omega)]
    exact ev_neg (by omega) (Ev.now true)
  | succ d ih =>
    intro i hi
    have h1 : i < l.length := by omega
    refine ev_succ ?_
    simp only [ossuaryref1_AskMay.l0]
    refine ev_pos (by omega) (ev_pos (by omega) ?_)
    rw [rd_nat l i h1, List.drop_eq_getElem_cons h1, List.all_cons]
    by_cases c : l[i] < 0
    · rw [decide_eq_false (show ¬ (0 ≤ l[i] ∧ l[i] < 4) by omega), Bool.false_and]; exact ev_pos c (Ev.now _)
    refine ev_neg c ?_
    by_cases e : l[i] ≥ 4
    · rw [decide_eq_false (show ¬ (0 ≤ l[i] ∧ l[i] < 4) by omega), Bool.false_and]; exact ev_pos e (Ev.now _)
    refine ev_neg e ?_
    rw [decide_eq_true (show 0 ≤ l[i] ∧ l[i] < 4 by omega), Bool.true_and, w64 (x := (i : Int) + 1) (by omega) (by omega)]
    exact ih (i + 1) (by omega)
theorem ref_AskMay_ev (n : Int) (l : List Int) : Ev (fun k => ossuaryref1_AskMay.f k n l) (askL n l) := by
  unfold ossuaryref1_AskMay.f askL
  simp only [ref_SealNum_eq, Option.bind_some]
  have no : Ev (fun k => ossuaryref1_AskMay.j0 k true n l) false := by
    refine ev_succ ?_
    simp only [ossuaryref1_AskMay.j0, if_true]
    exact Ev.now _
  by_cases h : 0 ≤ n ∧ n < 2147483647
  · rw [decide_eq_true h, Bool.true_and]
    refine ev_pos rfl ?_
    by_cases h1 : (l.length : Int) < 1
    · rw [decide_eq_false (show ¬ (1 ≤ l.length ∧ l.length ≤ 64) by omega), Bool.false_and]; exact ev_pos h1 no
    refine ev_neg h1 ?_
    by_cases h2 : (l.length : Int) > 64
    · rw [decide_eq_false (show ¬ (1 ≤ l.length ∧ l.length ≤ 64) by omega), Bool.false_and, decide_eq_true h2]; exact no
    · rw [decide_eq_true (show 1 ≤ l.length ∧ l.length ≤ 64 by omega), Bool.true_and, decide_eq_false h2]
      refine ev_succ ?_
      simp only [ossuaryref1_AskMay.j0]
      refine ev_neg (by decide) ?_
      exact ask_loop n l (by omega) l.length 0 (by omega)
  · rw [decide_eq_false h, Bool.false_and, Bool.false_and]
    exact ev_neg (by decide) no
theorem ref_respond_loop (s : ByteArray) (p : List Int) (n : Int) (l : List Int) (hs : s.size = 32) (hp : p.length ≤ 3) (hl : l.length ≤ 64) (hb : ∀ b, b ∈ l → 0 ≤ b ∧ b < 4) :
    ∀ (d i : Nat), i + d = l.length → Ev (fun k => ossuaryref1_Respond.l0 k s p (leavesL s.data.toList) ((l.take i).map (ansOf s p n)) (i : Int) n l) (l.map (ansOf s p n), 0) := by
  intro d
  induction d with
  | zero =>
    intro i hi
    refine ev_succ ?_
    simp only [ossuaryref1_Respond.l0]
    rw [List.take_of_length_le (show l.length ≤ i by omega)]
    exact ev_neg (by omega) (Ev.now _)
  | succ d ih =>
    intro i hi
    have hlt : i < l.length := by omega
    have hbi := hb l[i] (List.getElem_mem hlt)
    have h4 := leaves4 hs
    refine ev_succ ?_
    simp only [ossuaryref1_Respond.l0]
    refine ev_pos (by omega) (ev_pos (by omega) ?_)
    have hih := ih (i + 1) (by omega)
    rw [← map_take_ans (ansOf s p n) l i hlt] at hih
    rw [rd_nat l i hlt]
    generalize l[i] = y at *
    obtain ⟨b, rfl⟩ := Int.eq_ofNat_of_zero_le hbi.1
    have hpl := pathS_length _ (leavesL s.data.toList) b rfl
    rw [h4, longS4 _ (by omega)] at hpl
    refine Ev.bind (ref_path_ev _ _ b h4 (by omega) (by omega) (by omega)) ?_
    refine ev_pos (by omega) ?_
    rw [w64 (x := 8 * (b : Int)) (by omega) (by omega), w64 (x := 8 * (b : Int) + 8) (by omega) (by omega)]
    refine ev_pos (by omega) (ev_pos (by omega) (ev_pos (by omega) (ev_pos (by omega) (ev_pos (by omega) ?_))))
    refine Ev.bind (ev_const (ref_Pair_eq _ _)) ?_
    refine ev_pos (by rw [List.length_map, List.length_take]; omega) ?_
    rw [w64 (x := (i : Int) + 1) (by omega) (by omega)]
    have e : (⟨s.extract (8 * (b : Int)).toNat (8 * (b : Int) + 8).toNat, pathS (leavesL s.data.toList) b ++ p, pairS n (rd (leavesL s.data.toList) (b : Int))⟩ : S49) = ansOf s p n (b : Int) := by
      unfold ansOf
      rw [block_leaf s hs b (by omega), rd_nat _ b (by omega)]
      unfold blockS
      rw [Int.toNat_natCast, show (8 * (b : Int)).toNat = 8 * b by omega, show (8 * (b : Int) + 8).toNat = 8 * b + 8 by omega]
    rw [e]
    exact hih
theorem ref_Respond_ev (s : ByteArray) (p : List Int) (n : Int) (l : List Int) (hp : p.length ≤ 17592186044416) : Ev (fun k => ossuaryref1_Respond.f k s p n l) (respA s p n l) := by
  unfold ossuaryref1_Respond.f respA
  have no : Ev (fun k => ossuaryref1_Respond.j0 k s p true n l) (([] : List S49), (1200 : Int)) := by
    refine ev_succ ?_
    simp only [ossuaryref1_Respond.j0, if_true]
    exact Ev.now _
  unfold hasL sharesB
  by_cases h1 : s.size = 32
  · refine ev_pos (by omega) ?_
    rw [decide_eq_true h1, Bool.true_and]
    refine Ev.bind (ref_SealNums_ev p 3 hp) ?_
    by_cases h2 : (allB p && decide ((p.length : Int) ≤ 3)) = true
    · rw [h2]
      refine ev_pos rfl ?_
      rw [Bool.and_eq_true, decide_eq_true_eq] at h2
      rw [h2.1, decide_eq_true (show p.length ≤ 3 by omega), Bool.true_and, Bool.true_and]
      refine Ev.bind (ref_AskMay_ev n l) ?_
      by_cases h3 : askL n l = true
      · rw [h3, if_pos rfl]
        refine ev_succ ?_
        simp only [ossuaryref1_Respond.j0]
        refine ev_neg (by decide) ?_
        refine Ev.bind (ref_Leaves_ev s (by omega)) ?_
        unfold askL at h3
        simp only [Bool.and_eq_true, decide_eq_true_eq, List.all_eq_true] at h3
        exact ref_respond_loop s p n l h1 (by omega) h3.1.2.2 h3.2 l.length 0 (by omega)
      · rw [if_neg h3, Bool.eq_false_iff.mpr h3]
        exact no
    · rw [if_neg (by
        intro h
        rw [Bool.and_eq_true, Bool.and_eq_true, decide_eq_true_eq] at h
        exact h2 (by rw [h.1.2, decide_eq_true (show (p.length : Int) ≤ 3 by omega)]; rfl)), Bool.eq_false_iff.mpr h2]
      exact ev_neg (by decide) no
  · rw [decide_eq_false h1, Bool.false_and, Bool.false_and]
    exact ev_neg (by omega) no
theorem fits_bad (R m t n : Int) (a : Nat) (ha : a < 4) (x : S49) (hm : m ≤ 6) (h : ¬ (allB x.f1 = true ∧ x.f1.length ≤ 64)) : fitsA R m t n (a : Int) x = false := by
  unfold fitsA
  rw [Int.toNat_natCast, longS4 a ha]
  by_cases h2 : 2 ≤ x.f1.length
  · have hcut : ¬ (Seals01 (x.f1.take 2) ∧ LeadOk m t (leadA 4 (a : Int) (ofL x.f0.data.toList) (x.f1.take 2)).1 (x.f1.drop 2)) := by
      rintro ⟨h3, h4⟩
      refine h ⟨(allB_iff _).mpr ?_, ?_⟩
      · intro y hy
        rw [← List.take_append_drop 2 x.f1] at hy
        rcases List.mem_append.mp hy with hy | hy
        · exact h3 y hy
        · exact h4.2.2.2.2.2.2.1 y hy
      · have e := h4.2.2.2.2.2.2.2
        have hle := longS_le m.toNat m.toNat t.toNat rfl
        rw [List.length_drop] at e
        omega
    by_cases h3 : Seals01 (x.f1.take 2)
    · rw [checkA_no (fun h4 => hcut ⟨h3, h4⟩), Bool.and_false, Bool.and_false]
    · have e : (leadA 4 (a : Int) (ofL x.f0.data.toList) (x.f1.take 2)).2 = false := by
        unfold leadA; rw [if_neg (fun h4 => h3 h4.2.2.2.2.2.2.1)]
      rw [e, Bool.false_and, Bool.and_false]
  · rw [decide_eq_false h2, Bool.and_false, Bool.false_and]
theorem ref_check_loop (R m t n : Int) (l : List Int) (zs : List S49) (hl : zs.length = l.length) (h64 : l.length ≤ 64) (hb : ∀ b, b ∈ l → 0 ≤ b ∧ b < 4) (ho : ∀ x, x ∈ zs → AnsOk x) (hm : m ≤ 6) :
    ∀ (d i : Nat), i + d = l.length → Ev (fun k => ossuaryref1_CheckAudit.l0 k R m t zs (i : Int) n l) (((l.drop i).zip (zs.drop i)).all fun q => fitsA R m t n q.1 q.2) := by
  intro d
  induction d with
  | zero =>
    intro i hi
    refine ev_succ ?_
    simp only [ossuaryref1_CheckAudit.l0]
    rw [List.drop_of_length_le (show l.length ≤ i by omega)]
    exact ev_neg (by omega) (Ev.now true)
  | succ d ih =>
    intro i hi
    have h1 : i < l.length := by omega
    have h2 : i < zs.length := by omega
    have hbi := hb l[i] (List.getElem_mem h1)
    have hx := ho zs[i] (List.getElem_mem h2)
    have hih := ih (i + 1) (by omega)
    refine ev_succ ?_
    simp only [ossuaryref1_CheckAudit.l0]
    refine ev_pos (by omega) (ev_pos (by omega) (ev_pos (by omega) ?_))
    have er := rd_nat l i h1
    rw [er, rd_ans zs i h2, List.drop_eq_getElem_cons h1, List.drop_eq_getElem_cons h2, List.zip_cons_cons, List.all_cons]
    generalize ((l.drop (i + 1)).zip (zs.drop (i + 1))).all (fun q => fitsA R m t n q.1 q.2) = rest at *
    generalize zs[i] = x at *
    generalize l[i] = y at *
    obtain ⟨a, rfl⟩ := Int.eq_ofNat_of_zero_le hbi.1
    have ha : a < 4 := by omega
    have no : ∀ (dd : Int), Ev (fun k => ossuaryref1_CheckAudit.j2 k R m t zs (i : Int) dd true n l x.f0 x.f1 x.f2) false := fun dd => by
      refine ev_succ ?_
      simp only [ossuaryref1_CheckAudit.j2, if_true]
      exact Ev.now _
    refine Ev.bind (ref_Depth_ev 4 4 a rfl (by omega) (by omega) (by omega)) ?_
    rw [longS4 a ha]
    by_cases c1 : x.f0.size = 8
    · refine ev_pos (by omega) (Ev.bind (ref_Of_ev x.f0 hx.1) (Ev.bind (ev_const (ref_Pair_eq _ _)) ?_))
      by_cases c2 : x.f2 = pairS n (ofL x.f0.data.toList)
      · refine ev_pos c2 ?_
        by_cases c3 : 2 ≤ x.f1.length
        · refine ev_neg (by omega) (Ev.bind (ref_SealNums_ev x.f1 64 hx.2) ?_)
          by_cases c4 : allB x.f1 = true ∧ x.f1.length ≤ 64
          · rw [c4.1, decide_eq_true (show (x.f1.length : Int) ≤ 64 by omega)]
            refine ev_succ ?_
            simp only [ossuaryref1_CheckAudit.j2]
            refine ev_neg (by decide) (ev_pos (by omega) (ev_pos (by omega) ?_))
            rw [er]
            refine Ev.bind (ref_Of_ev x.f0 hx.1) (ev_pos (by omega) (ev_pos (by omega) ?_))
            have hr := ofL_range x.f0.data.toList
            have ht : (x.f1.take ((2 : Nat) : Int).toNat).length = longS 4 a := by rw [List.length_take, longS4 a ha]; omega
            refine Ev.bind (ref_climb_ev 4 4 a _ _ rfl (by omega) (by omega) ha ht) ?_
            refine Ev.bind (ref_CheckPath_ev _ _ _ _ _ (by rw [List.length_drop]; have := hx.2; omega)) ?_
            have e : fitsA R m t n (a : Int) x = checkA R m t (upS 4 a (ofL x.f0.data.toList) (x.f1.take ((2 : Nat) : Int).toNat)) (x.f1.drop ((2 : Nat) : Int).toNat) := by
              unfold fitsA
              rw [decide_eq_true c1, decide_eq_true c2, Int.toNat_natCast, longS4 a ha, decide_eq_true c3, Bool.true_and, Bool.true_and, Bool.true_and]
              have hL : LeadOk (4 : Int) (a : Int) (ofL x.f0.data.toList) (x.f1.take 2) := leadOk (c := 4) (by omega) ha hr.1 hr.2 (Seals01.take ((allB_iff _).mp c4.1) 2) ht
              unfold leadA
              rw [if_pos hL, Bool.true_and]
              rfl
            rw [← e]
            cases fitsA R m t n (a : Int) x with
            | true =>
              rw [Bool.true_and, w64 (x := (i : Int) + 1) (by omega) (by omega)]
              exact ev_pos rfl hih
            | false => exact ev_neg (by decide) (Ev.now _)
          · rw [fits_bad R m t n a ha x hm c4, Bool.false_and]
            have e : (allB x.f1 && decide ((x.f1.length : Int) ≤ 64)) = false := by
              rw [Bool.eq_false_iff]
              intro h
              rw [Bool.and_eq_true, decide_eq_true_eq] at h
              exact c4 ⟨h.1, by omega⟩
            rw [e]
            exact no _
        · have e : fitsA R m t n (a : Int) x = false := by
            unfold fitsA
            rw [Int.toNat_natCast, longS4 a ha, decide_eq_false c3, Bool.and_false, Bool.false_and]
          rw [e, Bool.false_and]
          exact ev_pos (by omega) (no _)
      · rw [fits_keyed _ _ _ _ _ _ c2, Bool.false_and]
        exact ev_neg c2 (no _)
    · have e : fitsA R m t n (a : Int) x = false := by
        unfold fitsA
        rw [decide_eq_false c1, Bool.false_and, Bool.false_and, Bool.false_and]
      rw [e, Bool.false_and]
      exact ev_neg (by omega) (no _)
theorem ref_CheckAudit_ev (R m t n : Int) (l : List Int) (zs : List S49) (ho : ∀ x, x ∈ zs → AnsOk x) : Ev (fun k => ossuaryref1_CheckAudit.f k R m t n l zs) (auditA R m t n l zs) := by
  unfold ossuaryref1_CheckAudit.f auditA
  refine Ev.bind (ref_AskMay_ev n l) ?_
  have no : Ev (fun k => ossuaryref1_CheckAudit.j0 k R m t zs true n l) false := by
    refine ev_succ ?_
    simp only [ossuaryref1_CheckAudit.j0, if_true]
    exact Ev.now _
  by_cases c1 : askL n l = true
  · rw [c1, Bool.true_and]
    refine ev_pos rfl ?_
    by_cases c2 : zs.length = l.length
    · rw [decide_eq_true c2, Bool.true_and]
      refine ev_pos (by omega) ?_
      by_cases c3 : m < 1
      · rw [decide_eq_false (show ¬ (1 ≤ m ∧ m ≤ 6 ∧ 0 ≤ t ∧ t < m) by omega), Bool.false_and]
        exact ev_pos c3 no
      refine ev_neg c3 ?_
      by_cases c4 : m > 6
      · rw [decide_eq_false (show ¬ (1 ≤ m ∧ m ≤ 6 ∧ 0 ≤ t ∧ t < m) by omega), Bool.false_and]
        exact ev_pos c4 no
      refine ev_neg c4 ?_
      by_cases c5 : t < 0
      · rw [decide_eq_false (show ¬ (1 ≤ m ∧ m ≤ 6 ∧ 0 ≤ t ∧ t < m) by omega), Bool.false_and]
        exact ev_pos c5 no
      refine ev_neg c5 ?_
      by_cases c6 : t ≥ m
      · rw [decide_eq_false (show ¬ (1 ≤ m ∧ m ≤ 6 ∧ 0 ≤ t ∧ t < m) by omega), Bool.false_and, decide_eq_true c6]
        exact no
      · rw [decide_eq_true (show (1 ≤ m ∧ m ≤ 6 ∧ 0 ≤ t ∧ t < m) by omega), Bool.true_and, decide_eq_false c6]
        refine ev_succ ?_
        simp only [ossuaryref1_CheckAudit.j0]
        refine ev_neg (by decide) ?_
        have c1' := c1
        unfold askL at c1'
        simp only [Bool.and_eq_true, decide_eq_true_eq, List.all_eq_true] at c1'
        exact ref_check_loop R m t n l zs c2 c1'.1.2.2 c1'.2 ho (by omega) l.length 0 (by omega)
    · rw [decide_eq_false c2, Bool.false_and, Bool.false_and]
      exact ev_neg (by omega) no
  · rw [Bool.eq_false_iff.mpr c1, Bool.false_and, Bool.false_and, Bool.false_and]
    exact ev_neg (by decide) no
theorem sameans_loop (l : List S49) (hl : l.length ≤ 17592186044416) (ho : ∀ x, x ∈ l → x.f1.length ≤ 17592186044416) : ∀ (d i : Nat), i + d = l.length → Ev (fun k => ossuarylaw0_SameAnswers.l0 k l l (i : Int)) true := by
  intro d
  induction d with
  | zero =>
    intro i hi
    refine ev_succ ?_
    simp only [ossuarylaw0_SameAnswers.l0]
    exact ev_neg (by omega) (Ev.now _)
  | succ d ih =>
    intro i hi
    have h1 : i < l.length := by omega
    refine ev_succ ?_
    simp only [ossuarylaw0_SameAnswers.l0]
    refine ev_pos (by omega) (ev_pos (by omega) (ev_pos (by omega) (ev_pos trivial (ev_pos trivial ?_))))
    rw [rd_ans l i h1]
    refine Ev.bind (same_ev _ (ho _ (List.getElem_mem h1))) ?_
    rw [w64 (x := (i : Int) + 1) (by omega) (by omega)]
    exact ev_pos rfl (ih (i + 1) (by omega))
theorem sameans_ev (l : List S49) (hl : l.length ≤ 17592186044416) (ho : ∀ x, x ∈ l → x.f1.length ≤ 17592186044416) : Ev (fun k => ossuarylaw0_SameAnswers.f k l l) true := by
  unfold ossuarylaw0_SameAnswers.f
  exact ev_pos rfl (sameans_loop l hl ho l.length 0 (by omega))
theorem copyans_loop (l : List S49) (hl : l.length < 2932031007402) (ho : ∀ x, x ∈ l → x.f1.length < 17592186044416) : ∀ (d i : Nat), i + d = l.length → Ev (fun k => ossuarylaw0_CopyAnswers.l0 k l (l.take i) (i : Int)) l := by
  intro d
  induction d with
  | zero =>
    intro i hi
    refine ev_succ ?_
    simp only [ossuarylaw0_CopyAnswers.l0]
    rw [List.take_of_length_le (show l.length ≤ i by omega)]
    exact ev_neg (by omega) (Ev.now _)
  | succ d ih =>
    intro i hi
    have h1 : i < l.length := by omega
    have hx := ho l[i] (List.getElem_mem h1)
    refine ev_succ ?_
    simp only [ossuarylaw0_CopyAnswers.l0, Option.bind_some, List.nil_append, List.length_nil]
    rw [rd_ans l i h1, w64 (x := (i : Int) + 1) (by omega) (by omega)]
    refine ev_pos (by omega) (ev_pos (by omega) (ev_pos (by omega) (ev_pos (by rw [List.length_take]; omega) ?_)))
    have e : l.take i ++ [(⟨l[i].f0, l[i].f1, l[i].f2⟩ : S49)] = l.take (i + 1) := by
      rw [List.take_add_one, List.getElem?_eq_getElem h1]; rfl
    rw [e]
    exact ih (i + 1) (by omega)
theorem copyans_ev (l : List S49) (hl : l.length < 2932031007402) (ho : ∀ x, x ∈ l → x.f1.length < 17592186044416) : Ev (fun k => ossuarylaw0_CopyAnswers.f k l) l := by
  unfold ossuarylaw0_CopyAnswers.f
  exact copyans_loop l hl ho l.length 0 (by omega)

end Go.Proofs.Ytgolnkankkegdaa.As
