/- What a law's arguments read as: a type's reading, kind by kind, with what each part weighs: for the laws whose arguments are slices of structs, structs with slices and the like. -/
import Derived.Test.YtgolnkankkegdaaVAuditsWords
import Derived.ChangeArms
import Derived.ChangeShapes
import Derived.OpenShut
import Derived.SizedLaws
import Derived.ChangeSlices
namespace Go.Proofs.YtgolnkankkegdaaOpen
open Go Go.ChangeShapes Go.WideShapes Go.Proofs.YtgolnkankkegdaaW.PrintWords
set_option linter.unusedVariables false
/-- A type that reads as a kind: what is read is one of the kind, and good. -/
structure Opens {α : Type} (P : Program) (t : TypeId) (d : Kd α) (G : α → Prop) : Prop where
  cells : P.cellsOf t = d.sz
  read : ∀ {H : Type} {enc : TypeId × Value → H} {w : World} {base : Nat} {spare : Nat → Bool} {held : Bool} {fuel : Nat} {cs : List Value} {x : DataW H × List MemPlace}, DataW.trod enc P w base spare held fuel t cs = some x → (∀ n ∈ x.1.weights P t, n ≤ reachBytes) → ∃ v : α, d.K w v cs ∧ G v
/-- Fields in line, from a place on. -/
structure OpensF {α : Type} (P : Program) (fs : List Field) (off : Nat) (d : Kd α) (G : α → Prop) : Prop where
  read : ∀ {H : Type} {enc : TypeId × Value → H} {w : World} {base : Nat} {spare : Nat → Bool} {held : Bool} {n : Nat} {cs : List Value} {xs : List (DataW H × List MemPlace)}, xs.length = fs.length →
    (∀ (i : Nat) (f : Field), fs[i]? = some f → DataW.trod enc P w base spare held n f.type ((cs.drop f.offset).take (P.cellsOf f.type)) = xs[i]?) →
    (∀ m ∈ DataW.weightsEach P (fs.map (·.type)) (xs.map (·.1)), m ≤ reachBytes) → cs.length = off + d.sz → ∃ v : α, d.K w v (cs.drop off) ∧ G v
variable {P : Program}
theorem Opens.int {t : TypeId} {k : IntKind} (ht : P.underlying t = some (.int k)) (hc : P.cellsOf t = 1) : Opens P t (Kd.int k) (fun n => (Lit.int k n).wf = true) where
  cells := hc
  read := fun h _ => by
    obtain ⟨n, rfl, _, hw⟩ := DataW.trod_int ht h
    exact ⟨n, rfl, hw⟩
theorem Opens.bool {t : TypeId} (ht : P.underlying t = some .bool) (hc : P.cellsOf t = 1) : Opens P t Kd.bool (fun _ => True) where
  cells := hc
  read := fun h _ => by
    obtain ⟨n, rfl, _⟩ := DataW.trod_bool ht h
    exact ⟨n, rfl, trivial⟩
theorem Opens.string {t : TypeId} (ht : P.underlying t = some .string) (hc : P.cellsOf t = 1) : Opens P t Kd.string (fun s => s.size ≤ 140737488351232) where
  cells := hc
  read := fun h hw => by
    obtain ⟨s, rfl, rfl, _⟩ := DataW.trod_string ht h
    refine ⟨s, rfl, ?_⟩
    have := hw s.data.toList.length (by simp [DataW.weights])
    rw [Array.length_toList] at this
    exact this
theorem weightsAll_mem {H : Type} {e : TypeId} : ∀ {ds : List (DataW H)} {d : DataW H}, d ∈ ds → ∀ n ∈ d.weights P e, n ∈ DataW.weightsAll P e ds
  | d0 :: ds, d, hd, n, hn => by
    rw [DataW.weightsAll, List.mem_append]
    rcases List.mem_cons.1 hd with rfl | hd
    · exact .inl hn
    · exact .inr (weightsAll_mem hd n hn)
theorem Opens.slice {α : Type} {t e : TypeId} {d : Kd α} {G : α → Prop} (B : Nat) (ht : P.underlying t = some (.slice e)) (hc : P.cellsOf t = 1) (hB : P.bytesOf e = B) (he : Opens P e d G) :
    Opens P t (Kd.slice e d) (fun xs => xs.length ≤ 9223372036854775807 ∧ xs.length * B ≤ 140737488351232 ∧ ∀ x ∈ xs, G x) where
  cells := hc
  read := by
    intro H enc w base spare held fuel cs x h hw
    rcases DataW.trod_slice ht h with ⟨rfl, rfl⟩ | ⟨a, len, cap, elems, rest, n, _, rfl, rfl, hb, hl, hm, hlen, hel, _, _⟩
    · exact ⟨[], ⟨none, 0, rfl, Nat.le_refl _, rfl, Nat.zero_le _, fun h => by simp at h⟩, by simp, by simp, by simp⟩
    · have each : ∀ i : Fin len, ∃ v : α, (∃ c, c.length = d.sz ∧ d.K w v c ∧ ∀ j u, c[j]? = some u → w.cell? (a.add (i.1 * d.sz + j)) = some u) ∧ G v := by
        intro i
        have hi : i.1 < elems.length := by have := i.2; omega
        have h1 := hel i.1 i.2
        rw [List.getElem?_eq_getElem hi, Option.bind_eq_some_iff] at h1
        obtain ⟨c, hcs, hy⟩ := h1
        obtain ⟨v, hk, hg⟩ := he.read hy (fun m hm => hw m (by
          simp only [DataW.weights, ht, List.mem_cons, List.mem_append]
          exact .inr (.inl (weightsAll_mem (List.mem_map.2 ⟨_, List.getElem_mem hi, rfl⟩) m hm))))
        refine ⟨v, ⟨c, d.K_len hk, hk, fun j u hu => ?_⟩, hg⟩
        have hs := World.cells?_some hcs
        have hj : j < c.length := (List.getElem?_eq_some_iff.1 hu).1
        have h3 := hs.2.2 j (by have := hs.2.1; omega)
        rw [hu] at h3
        rw [← h3, ← he.cells]
        simp only [Addr.add]
        split <;> split <;> (try split) <;> simp_all [Nat.add_assoc]
      have hxl : (List.ofFn (fun i : Fin len => Classical.choose (each i))).length = len := List.length_ofFn
      have hget : ∀ j p, (List.ofFn (fun i : Fin len => Classical.choose (each i)))[j]? = some p → ∃ hj : j < len, p = Classical.choose (each ⟨j, hj⟩) := by
        intro j p hp
        have hj : j < len := by
          have := (List.getElem?_eq_some_iff.1 hp).1
          rwa [hxl] at this
        refine ⟨hj, ?_⟩
        have := (List.getElem?_eq_some_iff.1 hp).2
        rw [← this]; simp
      have hm2 : len ≤ 9223372036854775807 := by unfold maxLen at hm; omega
      refine ⟨List.ofFn (fun i : Fin len => Classical.choose (each i)), ⟨some a, cap, by rw [hxl], by rw [hxl]; exact hl, rfl, by rw [hxl]; exact hm2, fun _ => ⟨a, rfl, fun j p hp => ?_⟩⟩, by rw [hxl]; exact hm2, ?_, fun p hp => ?_⟩
      · obtain ⟨hj, rfl⟩ := hget j p hp
        exact (Classical.choose_spec (each ⟨j, hj⟩)).1
      · rw [hxl]
        have := hw ((elems.length + rest.length) * P.bytesOf e) (by simp [DataW.weights, ht])
        rw [hB, hlen] at this
        exact Nat.le_trans (Nat.mul_le_mul_right _ (by omega)) this
      · obtain ⟨j, hj⟩ := List.getElem?_of_mem hp
        obtain ⟨hj', rfl⟩ := hget j p hj
        exact (Classical.choose_spec (each ⟨j, hj'⟩)).2
theorem OpensF.one {α : Type} {f : Field} {off : Nat} {d : Kd α} {G : α → Prop} (ho : f.offset = off) (h : Opens P f.type d G) : OpensF P [f] off d G where
  read := by
    intro H enc w base spare held n cs xs hl hf hw hcs
    match xs, hl with
    | [y], _ =>
      have h1 := hf 0 f rfl
      rw [ho, h.cells, List.take_of_length_le (by rw [List.length_drop]; omega)] at h1
      exact h.read h1 (fun m hm => hw m (by simpa [DataW.weightsEach] using hm))
theorem OpensF.cons {α β : Type} {f : Field} {fs : List Field} {off : Nat} {da : Kd α} {db : Kd β} {Ga : α → Prop} {Gb : β → Prop} (ho : f.offset = off) (h : Opens P f.type da Ga) (hs : OpensF P fs (off + da.sz) db Gb) :
    OpensF P (f :: fs) off (Kd.pair da db) (fun v => Ga v.1 ∧ Gb v.2) where
  read := by
    intro H enc w base spare held n cs xs hl hf hw hcs
    have hcs' : cs.length = off + (da.sz + db.sz) := hcs
    match xs, hl with
    | y :: ys, hl =>
      have h1 := hf 0 f rfl
      rw [ho, h.cells] at h1
      obtain ⟨v0, k0, g0⟩ := h.read (show _ = some y from h1) (fun m hm => hw m (by simp only [List.map_cons, DataW.weightsEach, List.mem_append]; exact .inl hm))
      obtain ⟨v1, k1, g1⟩ := hs.read (xs := ys) (by simpa using hl) (fun i g hg => hf (i + 1) g hg) (fun m hm => hw m (by simp only [List.map_cons, DataW.weightsEach, List.mem_append]; exact .inr hm)) (by omega)
      refine ⟨(v0, v1), ⟨_, _, ?_, k0, k1⟩, g0, g1⟩
      rw [← List.drop_drop, List.take_append_drop]
theorem OpensF.iso {α β : Type} {fs : List Field} {off : Nat} {d : Kd α} {G : α → Prop} (f : β → α) (g : α → β) (hfg : ∀ v, f (g v) = v) (h : OpensF P fs off d G) : OpensF P fs off (Kd.iso d f) (fun x => G (f x)) where
  read := by
    intro H enc w base spare held n cs xs hl hf hw hcs
    obtain ⟨v, hk, hg⟩ := h.read hl hf hw hcs
    exact ⟨g v, by show d.K w (f (g v)) _; rw [hfg]; exact hk, by show G (f (g v)); rw [hfg]; exact hg⟩
theorem Opens.struct {α : Type} {t : TypeId} {fs : Array Field} {d : Kd α} {G : α → Prop} (ht : P.underlying t = some (.struct fs)) (hc : P.cellsOf t = d.sz) (h : OpensF P fs.toList 0 d G) : Opens P t d G where
  cells := hc
  read := by
    intro H enc w base spare held fuel cs x hx hw
    obtain ⟨xs, n, _, rfl, hl, hlen, hf⟩ := DataW.trod_struct ht hx
    have := h.read (xs := xs) (by rw [hlen, Array.length_toList]) (fun i f hif => hf i f (by rw [← hif, Array.getElem?_toList])) (fun m hm => hw m (by simpa only [DataW.weights, ht] using hm)) (by rw [hl, hc]; omega)
    rwa [List.drop_zero] at this
/-- What a parameter weighs is bounded. -/
theorem weigh {H : Type} {ts : List TypeId} {ds : List (DataW H)} {j : Nat} {t : TypeId} {d : DataW H} (h : (DataW.weightsEach P ts ds).all (· ≤ reachBytes) = true) (ht : ts[j]? = some t) (hd : ds[j]? = some d) : ∀ n ∈ d.weights P t, n ≤ reachBytes := by
  intro n hn
  simpa using List.all_eq_true.1 h _ (DataW.weights_mem_each ht hd n hn)
/-- A parameter that is a slice. -/
theorem open_param_slice {H : Type} {enc : TypeId × Value → H} {w : World} {base b0 : Nat} {spare : Nat → Bool} {held : Bool} {r : Reach} {α : Type} {t e : TypeId} {d : Kd α} {G : List α → Prop} {v : Value} {x : DataW H} {ps : List MemPlace} (ht : P.underlying t = some (.slice e)) (ho : Opens P t (Kd.slice e d) G) (hv : Value.okWide P w r b0 t v)
    (hd : DataW.Trod enc P w base spare held t v x ps) (hw : ∀ n ∈ x.weights P t, n ≤ reachBytes) : ∃ (A : Option Addr) (c : Nat) (xs : List α), v = .slice A xs.length c ∧ d.C w A xs.length xs ∧ xs.length ≤ c ∧ G xs := by
  obtain ⟨a, len, cap, rfl⟩ := okWide_slice ht hv
  obtain ⟨fuel, hf⟩ := hd
  obtain ⟨xs, ⟨A, c, he, hl, hr⟩, hg⟩ := ho.read hf hw
  simp [Value.cells] at he
  obtain ⟨rfl, rfl, rfl⟩ := he
  exact ⟨_, _, xs, rfl, hr, hl, hg⟩
/-- A parameter that is a struct. -/
theorem open_param_struct {H : Type} {enc : TypeId × Value → H} {w : World} {base b0 : Nat} {spare : Nat → Bool} {held : Bool} {r : Reach} {α : Type} {t : TypeId} {fs : Array Field} {d : Kd α} {G : α → Prop} {v : Value} {x : DataW H} {ps : List MemPlace} (ht : P.underlying t = some (.struct fs)) (ho : Opens P t d G) (hv : Value.okWide P w r b0 t v)
    (hd : DataW.Trod enc P w base spare held t v x ps) (hw : ∀ n ∈ x.weights P t, n ≤ reachBytes) : ∃ (cs : List Value) (y : α), v = .agg cs.toArray ∧ d.K w y cs ∧ G y := by
  obtain ⟨cs, rfl, _⟩ := okWide_struct ht hv
  obtain ⟨fuel, hf⟩ := hd
  obtain ⟨y, hk, hg⟩ := ho.read hf hw
  exact ⟨cs.toList, y, by simp, by simpa [Value.cells] using hk, hg⟩
end Go.Proofs.YtgolnkankkegdaaOpen
