/- A region of open order whose operations make memory: each operation is shown once, out of what it waits for; no condition beyond each theorem's own. -/
import Derived.Test.YtoloonnoobnafaaInvW
import Derived.Test.YtoloonnoobnafaaWMore
namespace Go.Proofs.Ytoloonnoobnafaa.InvR
open Go.RowKit Go.Proofs.YtoloonnoobnafaaW.PrintWords Go.Proofs.YtoloonnoobnafaaW.PrintLast Go.Proofs.YtoloonnoobnafaaW.PrintMore
set_option linter.unusedVariables false
def upv (vs : Nat → Value) (i : Nat) (v : Value) : Nat → Value := fun j => if j = i then v else vs j
theorem upv_self (vs : Nat → Value) (i : Nat) (v : Value) : upv vs i v i = v := by simp [upv]
theorem upv_ne {vs : Nat → Value} {i j : Nat} {v : Value} (h : j ≠ i) : upv vs i v j = vs j := by simp [upv, h]
/-- What the operations O (number, slot) leave, by values vs. -/
def ent (O : List (Nat × Tmp)) (vs : Nat → Value) : List (Nat × Tmp × Value) := O.map fun e => (e.1, e.2, vs e.1)
theorem putSel_all {b : Nat → Bool} : ∀ {L : List (Nat × Tmp × Value)} {a : Act}, (∀ e, e ∈ L → b e.1 = true) → putSel a b L = putSel a (fun _ => true) L
  | [], _, _ => rfl
  | e :: r, a, h => by
    unfold putSel
    rw [if_pos (h e List.mem_cons_self), if_pos rfl]
    exact putSel_all (fun x hx => h x (List.mem_cons_of_mem _ hx))
section
variable {P : Program} {ops : Array Oper} {Q : Exit → Act → World → Prop} {md : Region.Mode} {T : Bool × List (List Nat × List Nat)} {B : List Nat}
def ids (O : List (Nat × Tmp)) : List Nat := O.map (·.1)
/-- One operation's step. -/
def StepR (P : Program) (ops : Array Oper) (Q : Exit → Act → World → Prop) (B : List Nat) (O : List (Nat × Tmp)) (FF : (Nat → Value) → World → Nat → Prop) (a : Act) (w : World) (e : Nat × Tmp) : Prop :=
  ∀ (vs : Nat → Value) (b : Nat → Bool) (w' : World), Below w.heap.size w w' → (∀ j, ((ids O).contains j && (B.getD e.1 0).testBit j) = true → b j = true ∧ FF vs w' j) →
    ∃ oi, ops[e.1]? = some oi ∧ oi.dst = some e.2 ∧ ∀ K : Act → World → Prop, (∀ v w1, Below w'.heap.size w' w1 → FF (upv vs e.1 v) w1 e.1 → K ((putSel a b (ent O vs)).put (some e.2) v) w1) →
      if Region.wanted oi (yielded ops (putSel a b (ent O vs)).tmps) = true then Oper.wp P oi (putSel a b (ent O vs)) w' K Q else K ((putSel a b (ent O vs)).put oi.dst undef) w'
theorem steps_none {O : List (Nat × Tmp)} {FF : (Nat → Value) → World → Nat → Prop} {a : Act} {w : World} : ∀ e, e ∈ ([] : List (Nat × Tmp)) → StepR P ops Q B O FF a w e := fun _ h => by cases h
theorem steps_more {O : List (Nat × Tmp)} {FF : (Nat → Value) → World → Nat → Prop} {a : Act} {w : World} {x : Nat × Tmp} {r : List (Nat × Tmp)} (h : StepR P ops Q B O FF a w x) (hr : ∀ e, e ∈ r → StepR P ops Q B O FF a w e) : ∀ e, e ∈ x :: r → StepR P ops Q B O FF a w e := fun e he => by
  rcases List.mem_cons.1 he with rfl | he
  · exact h
  · exact hr e he
theorem ent_set {O : List (Nat × Tmp)} {vs : Nat → Value} {i k : Nat} {t : Tmp} {v : Value} (hk : O[k]? = some (i, t)) (hn : (ids O).Nodup) : (ent O vs).set k (i, t, v) = ent O (upv vs i v) := by
  apply List.ext_getElem?
  intro m
  have hkl := (List.getElem?_eq_some_iff.1 hk).1
  by_cases hm : k = m
  · subst hm
    rw [List.getElem?_set_self (by simpa [ent] using hkl)]
    simp [ent, hk, upv_self]
  · rw [List.getElem?_set_ne hm]
    simp only [ent, List.getElem?_map]
    cases ho : O[m]? with
    | none => rfl
    | some x =>
      have hne : x.1 ≠ i := fun e => by
        apply hm
        have h1 : (ids O)[k]? = some i := by simp [ids, hk]
        have h2 : (ids O)[m]? = some i := by simp [ids, ho, e]
        exact (List.getElem?_inj (by simpa [ids] using hkl) hn).1 (h1.trans h2.symm)
      simp [upv_ne hne]
theorem inv_rows {l : Array Bool} {fuel : Nat} {a : Act} {w : World} (O : List (Nat × Tmp)) (D : Nat → List Nat) (FF : (Nat → Value) → World → Nat → Prop) (hT : rtab md ops = T) (hw : waitsOk T.2 B = true) (hk : baseOk T.2 (ids O) = true)
    (hl : (lof T.2.length (ids O) (fun _ => false) == l.toList && (ids O).length == fuel) = true) (ht : ((O.map (·.2)).Nodup))
    (hcongr : ∀ vs vs' w j, (∀ k, k ∈ D j → vs' k = vs k) → FF vs w j → FF vs' w j) (hmono : ∀ vs w w1 j, Below w.heap.size w w1 → FF vs w j → FF vs w1 j)
    (hdep : ((ids O).all fun j => (D j).all fun k => k == j || (B.getD j 0).testBit k) = true) (hFF : ∀ vs w j, (ids O).contains j = false → FF vs w j)
    (hs : ∀ e, e ∈ O → StepR P ops Q B O FF a w e)
    (hend : ∀ vs w', Below w.heap.size w w' → (∀ j, FF vs w' j) → Q .normal (putSel a (fun _ => true) (ent O vs)) w') :
    wpAnyLast P md ops Q (fun _ => True) [] fuel l a w := by
  have hnd := baseOk_nodup hk
  refine inv_ (ids O) (fun b a' w' => ∃ vs, a' = putSel a b (ent O vs) ∧ Below w.heap.size w w' ∧ ∀ j, b j = true → FF vs w' j) hT hw hk hl ?_ ?_ ?_
  · refine ⟨fun _ => undef, ?_, Below.refl _ _, fun j h => by cases h⟩
    have : ∀ (L : List (Nat × Tmp × Value)) (a : Act), a = putSel a (fun _ => false) L := fun L => by
      induction L with
      | nil => intro a; rfl
      | cons e r ih => intro a; unfold putSel; rw [if_neg (by decide)]; exact ih a
    exact this _ _
  · intro i hi b a' w' hI hbi hon hoff
    obtain ⟨vs, rfl, hb, hF⟩ := hI
    obtain ⟨⟨i', t⟩, he, hie⟩ := List.mem_map.1 hi
    obtain rfl : i' = i := hie
    obtain ⟨oi, ho, hd, hst⟩ := hs (i', t) he vs b w' hb (fun j hj => ⟨hon j hj, hF j (hon j hj)⟩)
    refine ⟨oi, ho, fun K hK => hst K (fun v w1 hb1 hFi => hK _ _ ⟨upv vs i' v, ?_, below_step hb hb1, ?_⟩)⟩
    · obtain ⟨k, hkl, hke⟩ := List.getElem_of_mem he
      have hk' : O[k]? = some (i', t) := by rw [List.getElem?_eq_getElem hkl, hke]
      refine putSel_upk (v0 := vs i') k hbi (by simp [ent, hk']) (ent_set hk' hnd) ?_
      rw [List.all_eq_true]
      intro x hx
      have key : ∀ m, m ≠ k → ∀ y, (ent O vs)[m]? = some y → (!(y.1 == i') && !(y.2.1 == t)) = true := by
        intro m hm y hy
        simp only [ent, List.getElem?_map, Option.map_eq_some_iff] at hy
        obtain ⟨z, hz, rfl⟩ := hy
        have hml := (List.getElem?_eq_some_iff.1 hz).1
        have n1 : z.1 ≠ i' := fun e => hm (by
          have h1 : (ids O)[k]? = some i' := by simp [ids, hk']
          have h2 : (ids O)[m]? = some i' := by simp [ids, hz, e]
          exact (List.getElem?_inj (by simpa [ids] using hml) hnd).1 (h2.trans h1.symm))
        have n2 : z.2 ≠ t := fun e => hm (by
          have h1 : (O.map (·.2))[k]? = some t := by simp [hk']
          have h2 : (O.map (·.2))[m]? = some t := by simp [hz, e]
          exact (List.getElem?_inj (by simpa using hml) ht).1 (h2.trans h1.symm))
        simp [n1, n2]
      rcases List.mem_append.1 hx with hx | hx
      · obtain ⟨m, hml, rfl⟩ := List.getElem_of_mem hx
        rw [List.length_take] at hml
        refine key m (by omega) _ ?_
        rw [← List.getElem?_eq_getElem, List.getElem?_take_of_lt (by omega)]
      · obtain ⟨m, hml, rfl⟩ := List.getElem_of_mem hx
        refine key (k + 1 + m) (by omega) _ ?_
        rw [← List.getElem?_eq_getElem, List.getElem?_drop]
    · intro j hj
      by_cases hji : j = i'
      · subst hji; exact hFi
      · rw [up_ne hji] at hj
        cases hc : (ids O).contains j with
        | false => exact hFF _ _ j hc
        | true =>
          refine hcongr vs _ w1 j ?_ (hmono vs w' w1 j hb1 (hF j hj))
          intro k hkD
          refine upv_ne (fun e => ?_)
          subst e
          have h1 := List.all_eq_true.1 hdep j (by simpa using hc)
          have h2 := List.all_eq_true.1 h1 k hkD
          have h3 : (B.getD j 0).testBit k = true := by
            rcases Bool.or_eq_true_iff.1 h2 with h | h
            · exact absurd (by simpa using h) (Ne.symm hji)
            · exact h
          have := hoff j (by rw [hc, h3]; rfl)
          rw [this] at hj; cases hj
  · intro b a' w' hall hI
    obtain ⟨vs, rfl, hb, hF⟩ := hI
    have e : putSel a b (ent O vs) = putSel a (fun _ => true) (ent O vs) := putSel_all (fun x hx => by
      obtain ⟨z, hz, rfl⟩ := List.mem_map.1 hx
      exact hall z.1 (by simpa [ids] using ⟨z.2, hz⟩))
    rw [e]
    refine hend vs w' hb (fun j => ?_)
    cases hc : (ids O).contains j with
    | true => exact hF j (hall j hc)
    | false => exact hFF vs w' j hc
/-- An operation that makes something: its number, its slot, on whose values its fact hangs, its fact. -/
structure Ent where
  i : Nat
  t : Tmp
  D : List Nat
  p : (Nat → Value) → World → Prop
def entO (F : List Ent) : List (Nat × Tmp) := F.map fun e => (e.i, e.t)
/-- One operation's step, told of a family. -/
def StepF (P : Program) (ops : Array Oper) (Q : Exit → Act → World → Prop) (B : List Nat) (F : List Ent) (a : Act) (w : World) (e : Ent) : Prop :=
  ∀ (vs : Nat → Value) (b : Nat → Bool) (w' : World), Below w.heap.size w w' → (∀ x, x ∈ F → (B.getD e.i 0).testBit x.i = true → b x.i = true ∧ x.p vs w') →
    ∃ oi, ops[e.i]? = some oi ∧ oi.dst = some e.t ∧ ∀ K : Act → World → Prop, (∀ v w1, Below w'.heap.size w' w1 → e.p (upv vs e.i v) w1 → K ((putSel a b (ent (entO F) vs)).put (some e.t) v) w1) →
      if Region.wanted oi (yielded ops (putSel a b (ent (entO F) vs)).tmps) = true then Oper.wp P oi (putSel a b (ent (entO F) vs)) w' K Q else K ((putSel a b (ent (entO F) vs)).put oi.dst undef) w'
theorem fam_all {p : Ent → Prop} {x : Ent} {r : List Ent} (h : p x) (hr : ∀ e, e ∈ r → p e) : ∀ e, e ∈ x :: r → p e := fun e he => by
  rcases List.mem_cons.1 he with rfl | he
  · exact h
  · exact hr e he
theorem fam_nil {p : Ent → Prop} : ∀ e, e ∈ ([] : List Ent) → p e := fun _ h => by cases h
theorem inv_fam {l : Array Bool} {fuel : Nat} {a : Act} {w : World} (F : List Ent) (hT : rtab md ops = T) (hw : waitsOk T.2 B = true) (hk : baseOk T.2 (ids (entO F)) = true)
    (hl : (lof T.2.length (ids (entO F)) (fun _ => false) == l.toList && (ids (entO F)).length == fuel) = true) (ht : ((entO F).map (·.2)).Nodup)
    (hcongr : ∀ e, e ∈ F → ∀ vs vs' w, (∀ k, k ∈ e.D → vs' k = vs k) → e.p vs w → e.p vs' w) (hmono : ∀ e, e ∈ F → ∀ vs w w1, Below w.heap.size w w1 → e.p vs w → e.p vs w1)
    (hdep : (F.all fun e => e.D.all fun k => k == e.i || (B.getD e.i 0).testBit k) = true)
    (hs : ∀ e, e ∈ F → StepF P ops Q B F a w e)
    (hend : ∀ vs w', Below w.heap.size w w' → (∀ e, e ∈ F → e.p vs w') → Q .normal (putSel a (fun _ => true) (ent (entO F) vs)) w') :
    wpAnyLast P md ops Q (fun _ => True) [] fuel l a w := by
  refine inv_rows (entO F) (fun j => (F.filter fun e => e.i == j).flatMap (·.D)) (fun vs w j => ∀ e, e ∈ F → e.i = j → e.p vs w) hT hw hk hl ht ?_ ?_ ?_ ?_ ?_ ?_
  · intro vs vs' w j hD h e he hj
    refine hcongr e he vs vs' w (fun k hk => hD k ?_) (h e he hj)
    exact List.mem_flatMap.2 ⟨e, List.mem_filter.2 ⟨he, by simp [hj]⟩, hk⟩
  · intro vs w w1 j hb h e he hj
    exact hmono e he vs w w1 hb (h e he hj)
  · rw [List.all_eq_true]
    intro j hj
    rw [List.all_eq_true]
    intro k hk
    obtain ⟨e, he, hke⟩ := List.mem_flatMap.1 hk
    obtain ⟨he1, he2⟩ := List.mem_filter.1 he
    obtain rfl : e.i = j := by simpa using he2
    exact List.all_eq_true.1 (List.all_eq_true.1 hdep e he1) k hke
  · intro vs w j hc e he hj
    exfalso
    subst hj
    have : e.i ∈ ids (entO F) := List.mem_map.2 ⟨(e.i, e.t), List.mem_map.2 ⟨e, he, rfl⟩, rfl⟩
    rw [List.contains_eq_mem, decide_eq_false_iff_not] at hc
    exact hc this
  · intro x hx
    obtain ⟨e, he, rfl⟩ := List.mem_map.1 hx
    intro vs b w' hb hdp
    obtain ⟨oi, h1, h2, h3⟩ := hs e he vs b w' hb (fun x hx hbit => by
      have hm : x.i ∈ ids (entO F) := List.mem_map.2 ⟨(x.i, x.t), List.mem_map.2 ⟨x, hx, rfl⟩, rfl⟩
      obtain ⟨q1, q2⟩ := hdp x.i (by rw [List.contains_eq_mem, decide_eq_true hm, Bool.true_and]; exact hbit)
      exact ⟨q1, q2 x hx rfl⟩)
    refine ⟨oi, h1, h2, fun K hK => h3 K (fun v w1 hb1 hp => hK v w1 hb1 ?_)⟩
    intro e' he' hi
    -- numbers are each once
    have hn := baseOk_nodup hk
    obtain rfl : e' = e := by
      obtain ⟨m, hm, rfl⟩ := List.getElem_of_mem he'
      obtain ⟨n, hn', rfl⟩ := List.getElem_of_mem he
      have a1 : (ids (entO F))[m]? = some F[m].i := by simp [ids, entO, List.getElem?_eq_getElem hm]
      have a2 : (ids (entO F))[n]? = some F[n].i := by simp [ids, entO, List.getElem?_eq_getElem hn']
      have := (List.getElem?_inj (by simpa [ids, entO] using hm) hn).1 (a1.trans (by rw [a2]; exact congrArg some hi))
      subst this; rfl
    exact hp
  · intro vs w' hb h
    exact hend vs w' hb (fun e he => h e.i e he rfl)
end
end Go.Proofs.Ytoloonnoobnafaa.InvR
