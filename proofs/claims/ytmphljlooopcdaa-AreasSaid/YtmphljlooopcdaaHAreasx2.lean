/- Lean functions for the Go functions that the law reaches, and proofs that the calls come to them: written by a program of this session. -/
import Derived.Test.YtmphljlooopcdaaHAreasx0
namespace Go.Proofs.Ytmphljlooopcdaa.HAreas
open Go.RowKit Go.Proofs.YtmphljlooopcdaaW.PrintWords Go.Proofs.YtmphljlooopcdaaW.PrintLast Go.Proofs.YtmphljlooopcdaaW.PrintMore
attribute [local go_sem] max2_int min2_int max_two min_two max_three min_three max_four min_four   -- for this text's walks alone
set_option linter.unusedVariables false
set_option linter.unusedSimpArgs false

/-! ### ossuaryref13_bytes: function 19 -/
def ossuaryref13_bytes.l0 : Nat → Int → Int → List Int → Int → Option (ByteArray)
  | 0, _, _, _, _ => none
  | k + 1, x0, x1, x5, x6 => if x6 < x1 then (if 0 ≤ (wrap64 (8 * x6)) then (if x5.length < 140737488355328 then (ossuaryref13_bytes.l0 k x0 x1 (x5 ++ [(shr .i64 x0 (wrap64 (8 * x6))) % 256]) (wrap64 (x6 + 1))) else (none)) else (none)) else (some (strOfNums x5))
def ossuaryref13_bytes.f (k : Nat) (a0 : Int) (a1 : Int) : Option (ByteArray) := ossuaryref13_bytes.l0 k a0 a1 ([] : List Int) 0
theorem ossuaryref13_bytes.mono_l : ∀ k, (∀ y0 y1 y2 y3, LeO (ossuaryref13_bytes.l0 k y0 y1 y2 y3) (ossuaryref13_bytes.l0 (k + 1) y0 y1 y2 y3))
  | 0 => fun _ _ _ _ r h => by simp [ossuaryref13_bytes.l0] at h
  | k + 1 => by
    have ih0 := ossuaryref13_bytes.mono_l k
    · intro y0 y1 y2 y3
      unfold ossuaryref13_bytes.l0
      repeat' first
      | (with_reducible exact ih0 _ _ _ _)
      | (with_reducible exact LeO.refl _)
      | (with_reducible exact LeO.none _)
      | (with_reducible refine LeO.ite ?_ ?_)
      | (with_reducible refine LeO.bind ?_ (fun _ => ?_))
      | exact ih0 _ _ _ _
      | exact LeO.none _
      | refine LeO.ite ?_ ?_
      | refine LeO.bind ?_ (fun _ => ?_)
theorem ossuaryref13_bytes.mono : ∀ a0 a1 k, LeO (ossuaryref13_bytes.f k a0 a1) (ossuaryref13_bytes.f (k + 1) a0 a1) := by
  intro a0 a1 k
  have ih0 := ossuaryref13_bytes.mono_l k
  unfold ossuaryref13_bytes.f
  repeat' first
      | (with_reducible exact ih0 _ _ _ _)
      | (with_reducible exact LeO.refl _)
      | (with_reducible exact LeO.none _)
      | (with_reducible refine LeO.ite ?_ ?_)
      | (with_reducible refine LeO.bind ?_ (fun _ => ?_))
      | exact ih0 _ _ _ _
      | exact LeO.none _
      | refine LeO.ite ?_ ?_
      | refine LeO.bind ?_ (fun _ => ?_)
set_option maxHeartbeats 8000000 in
set_option maxRecDepth 100000 in
theorem ossuaryref13_bytes.calls (k : Nat) (a0 : Int) (a1 : Int) (r : ByteArray) (w : World) (h : ossuaryref13_bytes.f k a0 a1 = some r) :
    Calls Try.prog 19 #[.int .i64 a0, .int .i64 a1] w fun e w' => e = .returned (.string r) ∧ Below w.heap.size w w' := by
  have HB := Aside0.mk (Below.refl w.heap.size w)
  have H : (ossuaryref13_bytes.l0 k a0 a1 ([] : List Int) 0) = some r := h
  clear h
  have H' := Aside0.mk H
  clear H
  go_enter Try.func19, Try.ntmps19
  go_wp2
  go_loopg [5, 6] k (fun kq v5 v6 w' => ∃ (x5_1 : List Int) (x6_1 : Int), v6 = .int .i64 x6_1 ∧ Aside0 (ossuaryref13_bytes.l0 kq a0 a1 x5_1 x6_1 = some r) ∧ Aside0 (kq ≤ k) ∧ Aside0 (Kd.R (Kd.int .u8) 5 w' w.heap.size (fun _ => True) v5 x5_1) ∧ Aside0 (Below w.heap.size w w'))
  case atStart => exact ⟨(([] : List Int)), (0), (by first | rfl | (simp; done) | (simp [*]; done)), H', ⟨Nat.le_refl _⟩, ⟨by first | exact Kd.R_nil _ _ _ _ _ | exact Kd.N_nil _ _ _ _ _ | exact Kd.V_nil _ _ _ _ _ | exact Kd.Q_nil _ _ _ _ _ | exact Kd.S_nil _ _ _ _ _⟩, ⟨by repeat (first | (with_reducible first | exact HB.out | apply below_alloc | apply pw_below_drewN | apply below_drew1) | exact HB.out)⟩⟩
  case round =>
    clear H'
    try clear c1
    try clear p2
    obtain ⟨x5_1, x6_1, rfl, HA, HK1, HO_5, HB⟩ := hrel
    cases gk with
    | zero => exact absurd HA.out (by simp [ossuaryref13_bytes.l0])
    | succ k1 =>
      have H := HA.out
      clear HA
      simp only [ossuaryref13_bytes.l0] at H
      by_cases c3 : x6_1 < a1
      · rw [if_pos c3] at H
        have c3b0 : decide (x6_1 < a1) = true := decide_eq_true c3
        clear c3
        obtain ⟨ji4, hji4⟩ : ∃ j_ : Int, (wrap64 (8 * x6_1)) = j_ := ⟨_, rfl⟩
        replace H : (if 0 ≤ (ji4) then (if x5_1.length < 140737488355328 then (ossuaryref13_bytes.l0 k1 a0 a1 (x5_1 ++ [(shr .i64 a0 (ji4)) % 256]) (wrap64 (x6_1 + 1))) else (none)) else (none)) = some r := by first | (rw [hji4] at H; exact H) | (simp only [hji4] at H ⊢; exact H)
        have hji4w : (IntKind.i64.wrap (8 * x6_1)) = ji4 := (i64_w _).trans hji4
        by_cases c5 : 0 ≤ (ji4)
        · rw [if_pos c5] at H
          have c5b0 := eq_true c5
          have c5b1 : decide (0 ≤ (ji4)) = true := decide_eq_true c5
          clear c5
          obtain ⟨ji6, hji6⟩ : ∃ j_ : Int, (shr .i64 a0 (ji4)) = j_ := ⟨_, rfl⟩
          replace H : (if x5_1.length < 140737488355328 then (ossuaryref13_bytes.l0 k1 a0 a1 (x5_1 ++ [(ji6) % 256]) (wrap64 (x6_1 + 1))) else (none)) = some r := by first | (rw [hji6] at H; exact H) | (simp only [hji6] at H ⊢; exact H)
          have hji6_ : (a0 / 2 ^ min (ji4).toNat 64) = ji6 := hji6
          have hji6z : (ji4) ≤ 64 → (a0 / 2 ^ (ji4).toNat) = ji6 := shr_small hji6
          by_cases c7 : x5_1.length < 140737488355328
          · rw [if_pos c7] at H
            have LMc7 := Aside0.mk c7
            clear c7
            obtain ⟨y119, hy119⟩ : ∃ y_ : List Int, y_ = (x5_1 ++ [(ji6) % 256]) := ⟨_, rfl⟩
            replace H : (ossuaryref13_bytes.l0 k1 a0 a1 y119 (wrap64 (x6_1 + 1))) = some r := by first | (rw [hy119]; with_reducible exact H) | (have H2_ := (Option.bind_some _ _).symm.trans H; rw [hy119]; with_reducible exact H2_) | (have H2_ := (Option.bind_some _ _).symm.trans H; with_reducible exact H2_) | with_reducible exact H | (rw [hy119]; exact H) | exact H
            have Ny119 := Aside0.mk hy119
            clear hy119
            have H' := Aside0.mk H
            clear H
            go_wp2_with (first | ((with_reducible refine gate_builtin (b := .append) (xs := #[.tmp 12, .tmp 18]) rfl ?_); at_builtin; refine Kd.R_append (Kd.int .u8) (w0 := w) w.heap.size rfl (.tmp 12) (.tmp 18) 39 5 (.int .u8 0) 1 rfl Try.underlying39 info5 rfl (by decide) (by omega) u5 x5_1 ((ji6) % 256) [.int .u8 ((ji6) % 256)] (fun _ => True) (fun _ => False) rfl rfl ?aP (fun _ hk => hk.elim) ?aF ?aO ?aB ?aS ?aL ?_; (case aP => exact rfl); (case aB => exact (by repeat (first | (with_reducible first | exact HB.out | apply below_alloc | apply pw_below_drewN | apply below_drew1) | exact HB.out))); (case aF => exact (fun _ _ => trivial)); (case aO => exact (by (with_reducible repeat (first | apply Kd.R_alloc | apply Kd.R_drewN | apply Kd.R_drew)); exact HO_5.out)); (case aS => exact (below_size (by repeat (first | (with_reducible first | exact HB.out | apply below_alloc | apply pw_below_drewN | apply below_drew1) | exact HB.out)))); (case aL => have := LMc7.out; omega); intro v120 w8 ho hb hg hat; rw [← Ny119.out] at ho; have n0_ := Aside0.mk (hb); have n1_ := Aside0.mk (ho); clear HB; clear HO_5; have HB := n0_; have HO121 := n1_; clear n0_ n1_; clear ho hb hg hat))
            (first | go_roundg k1 | (simp only [← hji4, ← hji6]; go_roundg k1))
            case measure => have := HK1.out; omega
            case rel => exact ⟨(y119), (wrap64 (x6_1 + 1)), (by first | rfl | (simp; done) | (simp [*]; done)), (by first | exact H' | (have h_ := H'; simp only [← hji4, ← hji6] at h_ ⊢; exact h_) | (have h_ := H'; simp only [← hji4] at h_ ⊢; exact h_) | (have h_ := H'; simp only [← hji6] at h_ ⊢; exact h_)), ⟨by have := HK1.out; omega⟩, ⟨by (with_reducible repeat (first | apply Kd.R_alloc | apply Kd.R_drewN | apply Kd.R_drew)); exact HO121.out⟩, ⟨by repeat (first | (with_reducible first | exact HB.out | apply below_alloc | apply pw_below_drewN | apply below_drew1) | exact HB.out)⟩⟩
          · rw [if_neg c7] at H
            exact absurd H (by simp)
        · rw [if_neg c5] at H
          exact absurd H (by simp)
      · rw [if_neg c3] at H
        have c3b0 : decide (x6_1 < a1) = false := decide_eq_false c3
        clear c3
        obtain rfl := Option.some.inj H
        have hcv9 := own_string (P := Try.prog) Try.underlying39 Try.underlying5 Try.underlying9 (Kd.own_of_R HO_5.out)
        go_wp2
        go_ret
        exact ⟨by first | rfl | (simp [errW_none, errW_some] <;> rfl) | (simp [*, errW_none, errW_some] <;> rfl), by repeat (first | (with_reducible first | exact HB.out | apply below_alloc | apply pw_below_drewN | apply below_drew1) | exact HB.out)⟩

/-! ### ossuaryref13_zeros: function 20 -/
def ossuaryref13_zeros.f (a0 : Int) : Option (ByteArray) := if 0 ≤ a0 then (if (a0 : Int).toNat ≤ 281474976710656 then (some (strOfNums (List.replicate (a0 : Int).toNat 0))) else (none)) else (none)
set_option maxHeartbeats 8000000 in
set_option maxRecDepth 100000 in
theorem ossuaryref13_zeros.calls (a0 : Int) (r : ByteArray) (w : World) (h : ossuaryref13_zeros.f a0 = some r) :
    Calls Try.prog 20 #[.int .i64 a0] w fun e w' => e = .returned (.string r) ∧ Below w.heap.size w w' := by
  have HB := Aside0.mk (Below.refl w.heap.size w)
  have H : (if 0 ≤ a0 then (if (a0 : Int).toNat ≤ 281474976710656 then (some (strOfNums (List.replicate (a0 : Int).toNat 0))) else (none)) else (none)) = some r := h
  clear h
  by_cases c2 : 0 ≤ a0
  · rw [if_pos c2] at H
    have c2b0 := eq_true c2
    have c2b1 : decide (0 ≤ a0) = true := decide_eq_true c2
    clear c2
    by_cases c3 : (a0 : Int).toNat ≤ 281474976710656
    · rw [if_pos c3] at H
      have c3b0 := eq_true c3
      have c3b1 : decide ((a0 : Int).toNat ≤ 281474976710656) = true := decide_eq_true c3
      clear c3
      obtain ⟨y122, hy122⟩ : ∃ y_ : List Int, y_ = (List.replicate (a0 : Int).toNat 0) := ⟨_, rfl⟩
      replace H : (some (strOfNums y122)) = some r := by first | (rw [hy122]; with_reducible exact H) | (have H2_ := (Option.bind_some _ _).symm.trans H; rw [hy122]; with_reducible exact H2_) | (have H2_ := (Option.bind_some _ _).symm.trans H; with_reducible exact H2_) | with_reducible exact H | (rw [hy122]; exact H) | exact H
      have Ny122 := Aside0.mk hy122
      clear hy122
      obtain rfl := Option.some.inj H
      go_enter Try.func20, Try.ntmps20
      go_wp2_with (first | ((with_reducible refine gate_dst (N := 4) rfl ?_); refine Kd.R_make (Kd.int .u8) _ 5 rfl (N := 4) rfl 39 _ _ rfl a0 rfl rfl Try.underlying39 (.int .u8 0) 1 info5 rfl (by decide) (by omega) 0 (ok := fun _ => True) (okp := fun _ => True) rfl (fun _ hk => hk) trivial (of_decide_eq_true (by first | (with_reducible assumption) | assumption)) (Nat.le_trans (Nat.mul_le_mul_right _ (of_decide_eq_true (by first | (with_reducible assumption) | assumption) : a0.toNat ≤ 281474976710656)) (by omega)) (Below.refl _ _) (Nat.le_refl _) ?_; intro v123 w4 ho5 hb hg_ hnew_; clear hg_ hnew_; (first | rw [← Ny122.out] at ho5 | (simp only [Int.reduceToNat] at ho5; rw [← Ny122.out] at ho5)); have n0_ := Aside0.mk (Kd.R_lower ho5 (below_size (by repeat (first | (with_reducible first | exact HB.out | apply below_alloc | apply pw_below_drewN | apply below_drew1) | exact HB.out)))); have n1_ := Aside0.mk (below_step (by repeat (first | (with_reducible first | exact HB.out | apply below_alloc | apply pw_below_drewN | apply below_drew1) | exact HB.out)) hb); clear HB; have HO124 := n0_; have HB := n1_; clear n0_ n1_; clear hb ho5; have hcv6 := own_string (P := Try.prog) Try.underlying39 Try.underlying5 Try.underlying9 (Kd.own_of_R HO124.out)))
      go_ret
      exact ⟨by first | rfl | (simp [errW_none, errW_some] <;> rfl) | (simp [*, errW_none, errW_some] <;> rfl), by repeat (first | (with_reducible first | exact HB.out | apply below_alloc | apply pw_below_drewN | apply below_drew1) | exact HB.out)⟩
    · rw [if_neg c3] at H
      exact absurd H (by simp)
  · rw [if_neg c2] at H
    exact absurd H (by simp)

/-! ### ossuaryref1_Of: function 21 -/
def ossuaryref1_Of.l0 : Nat → ByteArray → Int → Int → Option (Int)
  | 0, _, _, _ => none
  | k + 1, x0, x3, x4 => if x4 ≥ 0 then (if 0 ≤ x4 then (if x4 < (x0.size : Int) then (ossuaryref1_Of.l0 k x0 (Int.tmod (wrap64 ((wrap64 ((wrap64 (x3 + (wrap64 (bt x0 x4)))) + 1)) * 65537)) 2147483647) (wrap64 (x4 - 1))) else (none)) else (none)) else (some x3)
def ossuaryref1_Of.f (k : Nat) (a0 : ByteArray) : Option (Int) := ossuaryref1_Of.l0 k a0 0 (wrap64 ((a0.size : Int) - 1))
theorem ossuaryref1_Of.mono_l : ∀ k, (∀ y0 y1 y2, LeO (ossuaryref1_Of.l0 k y0 y1 y2) (ossuaryref1_Of.l0 (k + 1) y0 y1 y2))
  | 0 => fun _ _ _ r h => by simp [ossuaryref1_Of.l0] at h
  | k + 1 => by
    have ih0 := ossuaryref1_Of.mono_l k
    · intro y0 y1 y2
      unfold ossuaryref1_Of.l0
      repeat' first
      | (with_reducible exact ih0 _ _ _)
      | (with_reducible exact LeO.refl _)
      | (with_reducible exact LeO.none _)
      | (with_reducible refine LeO.ite ?_ ?_)
      | (with_reducible refine LeO.bind ?_ (fun _ => ?_))
      | exact ih0 _ _ _
      | exact LeO.none _
      | refine LeO.ite ?_ ?_
      | refine LeO.bind ?_ (fun _ => ?_)
theorem ossuaryref1_Of.mono : ∀ a0 k, LeO (ossuaryref1_Of.f k a0) (ossuaryref1_Of.f (k + 1) a0) := by
  intro a0 k
  have ih0 := ossuaryref1_Of.mono_l k
  unfold ossuaryref1_Of.f
  repeat' first
      | (with_reducible exact ih0 _ _ _)
      | (with_reducible exact LeO.refl _)
      | (with_reducible exact LeO.none _)
      | (with_reducible refine LeO.ite ?_ ?_)
      | (with_reducible refine LeO.bind ?_ (fun _ => ?_))
      | exact ih0 _ _ _
      | exact LeO.none _
      | refine LeO.ite ?_ ?_
      | refine LeO.bind ?_ (fun _ => ?_)
set_option maxHeartbeats 8000000 in
set_option maxRecDepth 100000 in
theorem ossuaryref1_Of.calls (k : Nat) (a0 : ByteArray) (r : Int) (w : World) (h : ossuaryref1_Of.f k a0 = some r) :
    Calls Try.prog 21 #[.string a0] w fun e w' => e = .returned (.int .i64 r) ∧ Drawn0 w w' := by
  have H : (ossuaryref1_Of.l0 k a0 0 (wrap64 ((a0.size : Int) - 1))) = some r := h
  clear h
  have H' := Aside0.mk H
  clear H
  go_enter Try.func21, Try.ntmps21
  go_wp2
  go_loopg [3, 4] k (fun kq v3 v4 w' => ∃ (x3_1 : Int) (x4_1 : Int), v3 = .int .i64 x3_1 ∧ v4 = .int .i64 x4_1 ∧ Aside0 (ossuaryref1_Of.l0 kq a0 x3_1 x4_1 = some r) ∧ Aside0 (kq ≤ k) ∧ Drawn0 w w')
  case atStart => exact ⟨(0), (wrap64 ((a0.size : Int) - 1)), (by first | rfl | (simp; done) | (simp [*]; done)), (by first | rfl | (simp; done) | (simp [*]; done)), H', ⟨Nat.le_refl _⟩, by repeat (first | exact Drawn0.refl _ | apply Drawn0.step)⟩
  case round =>
    clear H'
    obtain ⟨x3_1, x4_1, rfl, rfl, HA, HK1, ⟨m1, rfl⟩⟩ := hrel
    cases gk with
    | zero => exact absurd HA.out (by simp [ossuaryref1_Of.l0])
    | succ k1 =>
      have H := HA.out
      clear HA
      simp only [ossuaryref1_Of.l0] at H
      by_cases c2 : x4_1 ≥ 0
      · rw [if_pos c2] at H
        have c2b0 : decide (0 ≤ x4_1) = true := decide_eq_true c2
        clear c2
        by_cases c3 : 0 ≤ x4_1
        · rw [if_pos c3] at H
          have c3b0 : decide (0 ≤ x4_1) = true := decide_eq_true c3
          clear c3
          by_cases c4 : x4_1 < (a0.size : Int)
          · rw [if_pos c4] at H
            have c4b0 : decide (x4_1 < (a0.size : Int)) = true := decide_eq_true c4
            clear c4
            have H' := Aside0.mk H
            clear H
            have p5 : 0 ≤ (x4_1 : Int) := of_decide_eq_true (by first | (with_reducible assumption) | assumption)
            have q5 : x4_1 < (a0.size : Int) := of_decide_eq_true (by first | (with_reducible assumption) | assumption)
            have hx5 := bt_at a0 x4_1
            replace p5 := eq_true p5
            replace q5 := eq_true q5
            go_wp2
            go_roundg k1
            case measure => have := HK1.out; omega
            case rel => exact ⟨(Int.tmod (wrap64 ((wrap64 ((wrap64 (x3_1 + (wrap64 (bt a0 x4_1)))) + 1)) * 65537)) 2147483647), (wrap64 (x4_1 - 1)), (by first | rfl | (simp; done) | (simp [*]; done)), (by first | rfl | (simp; done) | (simp [*]; done)), H', ⟨by have := HK1.out; omega⟩, by repeat (first | exact Drawn0.refl _ | apply Drawn0.step)⟩
          · rw [if_neg c4] at H
            exact absurd H (by simp)
        · rw [if_neg c3] at H
          exact absurd H (by simp)
      · rw [if_neg c2] at H
        have c2b0 : decide (0 ≤ x4_1) = false := decide_eq_false c2
        clear c2
        obtain rfl := Option.some.inj H
        go_wp2
        go_ret
        exact ⟨by first | rfl | (simp; done) | (simp [*]; done), by repeat (first | exact Drawn0.refl _ | apply Drawn0.step)⟩

/-! ### ossuaryref13_PutArea: function 8 -/
mutual
def ossuaryref13_PutArea.j0 : Nat → Int → ByteArray → Bool → Option (List ByteArray × Int)
  | 0, _, _, _ => none
  | k + 1, x0, x1, x21 => if x21 = true then (some (([] : List ByteArray), 1500)) else (ossuaryref13_PutArea.l0 k x0 x1 ([] : List ByteArray) 0)
def ossuaryref13_PutArea.l0 : Nat → Int → ByteArray → List ByteArray → Int → Option (List ByteArray × Int)
  | 0, _, _, _, _ => none
  | k + 1, x0, x1, x6, x7 => if x7 < 24 then ((ossuaryref13_bytes.f k x7 1).bind fun t125 => (if 1 + t125.size ≤ 9223372036854775807 then ((ossuaryref13_bytes.f k (x1.size : Int) 2).bind fun t126 => (if ((⟨#[77]⟩ : ByteArray) ++ t125).size + t126.size ≤ 9223372036854775807 then ((ossuaryref13_bytes.f k x0 4).bind fun t127 => (if (((⟨#[77]⟩ : ByteArray) ++ t125) ++ t126).size + t127.size ≤ 9223372036854775807 then (if 0 ≤ (mn (wrap64 (52 * x7)) (x1.size : Int)) then (if (mn (wrap64 (52 * x7)) (x1.size : Int)) ≤ (mn (wrap64 ((wrap64 (52 * x7)) + 52)) (x1.size : Int)) then (if (mn (wrap64 ((wrap64 (52 * x7)) + 52)) (x1.size : Int)) ≤ (x1.size : Int) then (if ((((⟨#[77]⟩ : ByteArray) ++ t125) ++ t126) ++ t127).size + (x1.extract ((mn (wrap64 (52 * x7)) (x1.size : Int)) : Int).toNat ((mn (wrap64 ((wrap64 (52 * x7)) + 52)) (x1.size : Int)) : Int).toNat).size ≤ 9223372036854775807 then ((ossuaryref13_zeros.f (wrap64 (60 - ((((((⟨#[77]⟩ : ByteArray) ++ t125) ++ t126) ++ t127) ++ (x1.extract ((mn (wrap64 (52 * x7)) (x1.size : Int)) : Int).toNat ((mn (wrap64 ((wrap64 (52 * x7)) + 52)) (x1.size : Int)) : Int).toNat)).size : Int)))).bind fun t128 => (if (((((⟨#[77]⟩ : ByteArray) ++ t125) ++ t126) ++ t127) ++ (x1.extract ((mn (wrap64 (52 * x7)) (x1.size : Int)) : Int).toNat ((mn (wrap64 ((wrap64 (52 * x7)) + 52)) (x1.size : Int)) : Int).toNat)).size + t128.size ≤ 9223372036854775807 then ((ossuaryref1_Of.f k ((((((⟨#[77]⟩ : ByteArray) ++ t125) ++ t126) ++ t127) ++ (x1.extract ((mn (wrap64 (52 * x7)) (x1.size : Int)) : Int).toNat ((mn (wrap64 ((wrap64 (52 * x7)) + 52)) (x1.size : Int)) : Int).toNat)) ++ t128)).bind fun t129 => ((ossuaryref13_bytes.f k t129 4).bind fun t130 => (if ((((((⟨#[77]⟩ : ByteArray) ++ t125) ++ t126) ++ t127) ++ (x1.extract ((mn (wrap64 (52 * x7)) (x1.size : Int)) : Int).toNat ((mn (wrap64 ((wrap64 (52 * x7)) + 52)) (x1.size : Int)) : Int).toNat)) ++ t128).size + t130.size ≤ 9223372036854775807 then (if x6.length < 8796093022208 then (ossuaryref13_PutArea.l0 k x0 x1 (x6 ++ [((((((⟨#[77]⟩ : ByteArray) ++ t125) ++ t126) ++ t127) ++ (x1.extract ((mn (wrap64 (52 * x7)) (x1.size : Int)) : Int).toNat ((mn (wrap64 ((wrap64 (52 * x7)) + 52)) (x1.size : Int)) : Int).toNat)) ++ t128) ++ t130]) (wrap64 (x7 + 1))) else (none)) else (none)))) else (none))) else (none)) else (none)) else (none)) else (none)) else (none))) else (none))) else (none))) else (some (x6, 0))
end
def ossuaryref13_PutArea.f (k : Nat) (a0 : Int) (a1 : ByteArray) : Option (List ByteArray × Int) := if a0 < 0 then (ossuaryref13_PutArea.j0 k a0 a1 true) else (if a0 > 1048576 then (ossuaryref13_PutArea.j0 k a0 a1 true) else (ossuaryref13_PutArea.j0 k a0 a1 (decide ((a1.size : Int) > 1248))))
theorem ossuaryref13_PutArea.mono_l : ∀ k, (∀ y0 y1 y2, LeO (ossuaryref13_PutArea.j0 k y0 y1 y2) (ossuaryref13_PutArea.j0 (k + 1) y0 y1 y2)) ∧ (∀ y0 y1 y2 y3, LeO (ossuaryref13_PutArea.l0 k y0 y1 y2 y3) (ossuaryref13_PutArea.l0 (k + 1) y0 y1 y2 y3))
  | 0 => ⟨fun _ _ _ r h => by simp [ossuaryref13_PutArea.j0] at h, fun _ _ _ _ r h => by simp [ossuaryref13_PutArea.l0] at h⟩
  | k + 1 => by
    obtain ⟨ih0, ih1⟩ := ossuaryref13_PutArea.mono_l k
    refine ⟨?_, ?_⟩
    · intro y0 y1 y2
      unfold ossuaryref13_PutArea.j0
      repeat' first
      | (with_reducible exact ih0 _ _ _)
      | (with_reducible exact ih1 _ _ _ _)
      | (with_reducible exact ossuaryref13_bytes.mono _ _ _)
      | (with_reducible exact ossuaryref1_Of.mono _ _)
      | (with_reducible exact LeO.refl _)
      | (with_reducible exact LeO.none _)
      | (with_reducible refine LeO.ite ?_ ?_)
      | (with_reducible refine LeO.bind ?_ (fun _ => ?_))
      | exact ih0 _ _ _
      | exact ih1 _ _ _ _
      | exact ossuaryref13_bytes.mono _ _ _
      | exact ossuaryref1_Of.mono _ _
      | exact LeO.none _
      | refine LeO.ite ?_ ?_
      | refine LeO.bind ?_ (fun _ => ?_)
    · intro y0 y1 y2 y3
      unfold ossuaryref13_PutArea.l0
      repeat' first
      | (with_reducible exact ih0 _ _ _)
      | (with_reducible exact ih1 _ _ _ _)
      | (with_reducible exact ossuaryref13_bytes.mono _ _ _)
      | (with_reducible exact ossuaryref1_Of.mono _ _)
      | (with_reducible exact LeO.refl _)
      | (with_reducible exact LeO.none _)
      | (with_reducible refine LeO.ite ?_ ?_)
      | (with_reducible refine LeO.bind ?_ (fun _ => ?_))
      | exact ih0 _ _ _
      | exact ih1 _ _ _ _
      | exact ossuaryref13_bytes.mono _ _ _
      | exact ossuaryref1_Of.mono _ _
      | exact LeO.none _
      | refine LeO.ite ?_ ?_
      | refine LeO.bind ?_ (fun _ => ?_)
theorem ossuaryref13_PutArea.mono : ∀ a0 a1 k, LeO (ossuaryref13_PutArea.f k a0 a1) (ossuaryref13_PutArea.f (k + 1) a0 a1) := by
  intro a0 a1 k
  obtain ⟨ih0, ih1⟩ := ossuaryref13_PutArea.mono_l k
  unfold ossuaryref13_PutArea.f
  repeat' first
      | (with_reducible exact ih0 _ _ _)
      | (with_reducible exact ih1 _ _ _ _)
      | (with_reducible exact ossuaryref13_bytes.mono _ _ _)
      | (with_reducible exact ossuaryref1_Of.mono _ _)
      | (with_reducible exact LeO.refl _)
      | (with_reducible exact LeO.none _)
      | (with_reducible refine LeO.ite ?_ ?_)
      | (with_reducible refine LeO.bind ?_ (fun _ => ?_))
      | exact ih0 _ _ _
      | exact ih1 _ _ _ _
      | exact ossuaryref13_bytes.mono _ _ _
      | exact ossuaryref1_Of.mono _ _
      | exact LeO.none _
      | refine LeO.ite ?_ ?_
      | refine LeO.bind ?_ (fun _ => ?_)
def ossuaryref13_PutArea.T8 : Bool × List (List Nat × List Nat) := (true, [([], []), ([0], [0]), ([1], [1]), ([], []), ([3], [3]), ([4, 1], [4]), ([2, 5], [2, 5]), ([], []), ([7, 5], [7]), ([6, 8], [6, 8]), ([], []), ([], []), ([], []), ([10, 11, 12], [10, 11, 12]), ([9, 13], [9, 13]), ([14, 8, 0, 1, 2, 3, 4, 5, 6, 7, 8, 9, 10, 11, 12, 13, 14], [14])])
def ossuaryref13_PutArea.B8 : List Nat := [0, 1, 3, 0, 8, 27, 63, 0, 187, 511, 0, 0, 0, 7168, 16383, 32767]
theorem ossuaryref13_PutArea.tab8 : rtab .any (opsOf Try.f8 8) = ossuaryref13_PutArea.T8 := by kernel_rfl
theorem ossuaryref13_PutArea.bits8 : waitsOk ossuaryref13_PutArea.T8.2 ossuaryref13_PutArea.B8 = true := by kernel_rfl
set_option maxHeartbeats 8000000 in
set_option maxRecDepth 100000 in
theorem ossuaryref13_PutArea.calls (k : Nat) (a0 : Int) (a1 : ByteArray) (r1 : List ByteArray) (r2 : Int) (w : World) (h : ossuaryref13_PutArea.f k a0 a1 = some (r1, r2)) :
    Calls Try.prog 8 #[.int .i64 a0, .string a1] w fun e w' => ∃ v0_ : Value, e = .returned (.tuple #[v0_, .int .i64 r2]) ∧ Kd.R Kd.string 9 w' w.heap.size (fun _ => True) v0_ r1 ∧ Below w.heap.size w w' := by
  have HB := Aside0.mk (Below.refl w.heap.size w)
  have H : (if a0 < 0 then (ossuaryref13_PutArea.j0 k a0 a1 true) else (if a0 > 1048576 then (ossuaryref13_PutArea.j0 k a0 a1 true) else (ossuaryref13_PutArea.j0 k a0 a1 (decide ((a1.size : Int) > 1248))))) = some (r1, r2) := h
  clear h
  have HC3 := Aside0.mk H
  clear H
  go_enter Try.func8, Try.ntmps8
  go_upto_region 1 with (fail)
  go_cut [21] (fun v21 wc => ∃ (kq : Nat) (x21_2 : Bool), v21 = .bool x21_2 ∧ Aside0 (ossuaryref13_PutArea.j0 kq a0 a1 x21_2 = some (r1, r2)) ∧ Aside0 (kq ≤ k) ∧ Aside0 (Below w.heap.size w wc))
  case first =>
    have H := HC3.out
    clear HC3
    by_cases c4 : a0 < 0
    · rw [if_pos c4] at H
      have c4b0 : decide (a0 < 0) = true := decide_eq_true c4
      clear c4
      (first | rw [c4b0] | (simp only [i64_w, i32_w]; rw [c4b0]) | skip)
      have H' := Aside0.mk H
      clear H
      go_wp2
      go_meet
      case rel => exact ⟨_, (true), (by first | rfl | (simp; done) | (simp [*]; done)), H', ⟨by first | omega | exact Nat.le_refl _⟩, ⟨by repeat (first | (with_reducible first | exact HB.out | apply below_alloc | apply pw_below_drewN | apply below_drew1) | exact HB.out)⟩⟩
    · rw [if_neg c4] at H
      have c4b0 : decide (a0 < 0) = false := decide_eq_false c4
      clear c4
      (first | rw [c4b0] | (simp only [i64_w, i32_w]; rw [c4b0]) | skip)
      by_cases c5 : a0 > 1048576
      · rw [if_pos c5] at H
        have c5b0 : decide (1048576 < a0) = true := decide_eq_true c5
        clear c5
        have H' := Aside0.mk H
        clear H
        go_wp2
        go_meet
        case rel => exact ⟨_, (true), (by first | rfl | (simp; done) | (simp [*]; done)), H', ⟨by first | omega | exact Nat.le_refl _⟩, ⟨by repeat (first | (with_reducible first | exact HB.out | apply below_alloc | apply pw_below_drewN | apply below_drew1) | exact HB.out)⟩⟩
      · rw [if_neg c5] at H
        have c5b0 : decide (1048576 < a0) = false := decide_eq_false c5
        clear c5
        have H' := Aside0.mk H
        clear H
        go_wp2
        go_meet
        case rel => exact ⟨_, (decide ((a1.size : Int) > 1248)), (by first | rfl | (simp; done) | (simp [*]; done)), H', ⟨by first | omega | exact Nat.le_refl _⟩, ⟨by repeat (first | (with_reducible first | exact HB.out | apply below_alloc | apply pw_below_drewN | apply below_drew1) | exact HB.out)⟩⟩
  case rest =>
    clear HC3
    try clear p2
    try clear c4
    try clear c4b0
    try clear c5
    try clear c5b0
    obtain ⟨kq, x21_2, rfl, HA, HJ2, HB⟩ := hcut
    cases kq with
    | zero => exact absurd HA.out (by simp [ossuaryref13_PutArea.j0])
    | succ kj2 =>
      have H := HA.out
      clear HA
      simp only [ossuaryref13_PutArea.j0] at H
      by_cases c6 : x21_2 = true
      · subst c6
        have H1 : (some (([] : List ByteArray), 1500)) = some (r1, r2) := by rw [if_pos rfl] at H; exact H
        clear H
        have H := H1
        clear H1
        simp only [Option.some.injEq, Prod.mk.injEq] at H
        obtain ⟨rfl, rfl⟩ := H
        go_wp2
        go_ret2
        exact ⟨_, by first | rfl | (simp [errW_none, errW_some] <;> rfl) | (simp [*, errW_none, errW_some] <;> rfl), by first | exact Kd.R_nil _ _ _ _ _ | exact Kd.N_nil _ _ _ _ _ | exact Kd.V_nil _ _ _ _ _ | exact Kd.Q_nil _ _ _ _ _ | exact Kd.S_nil _ _ _ _ _, by repeat (first | (with_reducible first | exact HB.out | apply below_alloc | apply pw_below_drewN | apply below_drew1) | exact HB.out)⟩
      · replace c6 := Bool.eq_false_iff.mpr c6
        subst c6
        have H1 : (ossuaryref13_PutArea.l0 kj2 a0 a1 ([] : List ByteArray) 0) = some (r1, r2) := by rw [if_neg (show ¬ (false = true) by decide)] at H; exact H
        clear H
        have H := H1
        clear H1
        have H' := Aside0.mk H
        clear H
        go_wp2
        go_loopg [6, 7] kj2 (fun kq v6 v7 w' => ∃ (x6_2 : List ByteArray) (x7_2 : Int), v7 = .int .i64 x7_2 ∧ Aside0 (ossuaryref13_PutArea.l0 kq a0 a1 x6_2 x7_2 = some (r1, r2)) ∧ Aside0 (kq ≤ kj2) ∧ Aside0 (Kd.R Kd.string 9 w' w.heap.size (fun _ => True) v6 x6_2) ∧ Aside0 (Below w.heap.size w w'))
        case atStart => exact ⟨(([] : List ByteArray)), (0), (by first | rfl | (simp; done) | (simp [*]; done)), H', ⟨Nat.le_refl _⟩, ⟨by first | exact Kd.R_nil _ _ _ _ _ | exact Kd.N_nil _ _ _ _ _ | exact Kd.V_nil _ _ _ _ _ | exact Kd.Q_nil _ _ _ _ _ | exact Kd.S_nil _ _ _ _ _⟩, ⟨by repeat (first | (with_reducible first | exact HB.out | apply below_alloc | apply pw_below_drewN | apply below_drew1) | exact HB.out)⟩⟩
        case round =>
          clear H'
          try clear p2
          try clear c4
          try clear c4b0
          try clear c5
          try clear c5b0
          try clear c6
          try clear p2
          obtain ⟨x6_2, x7_2, rfl, HA, HK2, HO_6, HB⟩ := hrel
          cases gk with
          | zero => exact absurd HA.out (by simp [ossuaryref13_PutArea.l0])
          | succ k2 =>
            have H := HA.out
            clear HA
            simp only [ossuaryref13_PutArea.l0] at H
            by_cases c7 : x7_2 < 24
            · rw [if_pos c7] at H
              have c7b0 : decide (x7_2 < 24) = true := decide_eq_true c7
              clear c7
              obtain ⟨ji8, hji8⟩ : ∃ j_ : Int, (mn (wrap64 (52 * x7_2)) (a1.size : Int)) = j_ := ⟨_, rfl⟩
              replace H : ((ossuaryref13_bytes.f k2 x7_2 1).bind fun t125 => (if 1 + t125.size ≤ 9223372036854775807 then ((ossuaryref13_bytes.f k2 (a1.size : Int) 2).bind fun t126 => (if ((⟨#[77]⟩ : ByteArray) ++ t125).size + t126.size ≤ 9223372036854775807 then ((ossuaryref13_bytes.f k2 a0 4).bind fun t127 => (if (((⟨#[77]⟩ : ByteArray) ++ t125) ++ t126).size + t127.size ≤ 9223372036854775807 then (if 0 ≤ (ji8) then (if (ji8) ≤ (mn (wrap64 ((wrap64 (52 * x7_2)) + 52)) (a1.size : Int)) then (if (mn (wrap64 ((wrap64 (52 * x7_2)) + 52)) (a1.size : Int)) ≤ (a1.size : Int) then (if ((((⟨#[77]⟩ : ByteArray) ++ t125) ++ t126) ++ t127).size + (a1.extract ((ji8) : Int).toNat ((mn (wrap64 ((wrap64 (52 * x7_2)) + 52)) (a1.size : Int)) : Int).toNat).size ≤ 9223372036854775807 then ((ossuaryref13_zeros.f (wrap64 (60 - ((((((⟨#[77]⟩ : ByteArray) ++ t125) ++ t126) ++ t127) ++ (a1.extract ((ji8) : Int).toNat ((mn (wrap64 ((wrap64 (52 * x7_2)) + 52)) (a1.size : Int)) : Int).toNat)).size : Int)))).bind fun t128 => (if (((((⟨#[77]⟩ : ByteArray) ++ t125) ++ t126) ++ t127) ++ (a1.extract ((ji8) : Int).toNat ((mn (wrap64 ((wrap64 (52 * x7_2)) + 52)) (a1.size : Int)) : Int).toNat)).size + t128.size ≤ 9223372036854775807 then ((ossuaryref1_Of.f k2 ((((((⟨#[77]⟩ : ByteArray) ++ t125) ++ t126) ++ t127) ++ (a1.extract ((ji8) : Int).toNat ((mn (wrap64 ((wrap64 (52 * x7_2)) + 52)) (a1.size : Int)) : Int).toNat)) ++ t128)).bind fun t129 => ((ossuaryref13_bytes.f k2 t129 4).bind fun t130 => (if ((((((⟨#[77]⟩ : ByteArray) ++ t125) ++ t126) ++ t127) ++ (a1.extract ((ji8) : Int).toNat ((mn (wrap64 ((wrap64 (52 * x7_2)) + 52)) (a1.size : Int)) : Int).toNat)) ++ t128).size + t130.size ≤ 9223372036854775807 then (if x6_2.length < 8796093022208 then (ossuaryref13_PutArea.l0 k2 a0 a1 (x6_2 ++ [((((((⟨#[77]⟩ : ByteArray) ++ t125) ++ t126) ++ t127) ++ (a1.extract ((ji8) : Int).toNat ((mn (wrap64 ((wrap64 (52 * x7_2)) + 52)) (a1.size : Int)) : Int).toNat)) ++ t128) ++ t130]) (wrap64 (x7_2 + 1))) else (none)) else (none)))) else (none))) else (none)) else (none)) else (none)) else (none)) else (none))) else (none))) else (none))) = some (r1, r2) := by first | (rw [hji8] at H; exact H) | (simp only [hji8] at H ⊢; exact H)
              have hji8_ : (if (a1.size : Int) < (wrap64 (52 * x7_2)) then (a1.size : Int) else (wrap64 (52 * x7_2))) = ji8 := hji8
              obtain ⟨ji9, hji9⟩ : ∃ j_ : Int, (mn (wrap64 ((wrap64 (52 * x7_2)) + 52)) (a1.size : Int)) = j_ := ⟨_, rfl⟩
              replace H : ((ossuaryref13_bytes.f k2 x7_2 1).bind fun t125 => (if 1 + t125.size ≤ 9223372036854775807 then ((ossuaryref13_bytes.f k2 (a1.size : Int) 2).bind fun t126 => (if ((⟨#[77]⟩ : ByteArray) ++ t125).size + t126.size ≤ 9223372036854775807 then ((ossuaryref13_bytes.f k2 a0 4).bind fun t127 => (if (((⟨#[77]⟩ : ByteArray) ++ t125) ++ t126).size + t127.size ≤ 9223372036854775807 then (if 0 ≤ (ji8) then (if (ji8) ≤ (ji9) then (if (ji9) ≤ (a1.size : Int) then (if ((((⟨#[77]⟩ : ByteArray) ++ t125) ++ t126) ++ t127).size + (a1.extract ((ji8) : Int).toNat ((ji9) : Int).toNat).size ≤ 9223372036854775807 then ((ossuaryref13_zeros.f (wrap64 (60 - ((((((⟨#[77]⟩ : ByteArray) ++ t125) ++ t126) ++ t127) ++ (a1.extract ((ji8) : Int).toNat ((ji9) : Int).toNat)).size : Int)))).bind fun t128 => (if (((((⟨#[77]⟩ : ByteArray) ++ t125) ++ t126) ++ t127) ++ (a1.extract ((ji8) : Int).toNat ((ji9) : Int).toNat)).size + t128.size ≤ 9223372036854775807 then ((ossuaryref1_Of.f k2 ((((((⟨#[77]⟩ : ByteArray) ++ t125) ++ t126) ++ t127) ++ (a1.extract ((ji8) : Int).toNat ((ji9) : Int).toNat)) ++ t128)).bind fun t129 => ((ossuaryref13_bytes.f k2 t129 4).bind fun t130 => (if ((((((⟨#[77]⟩ : ByteArray) ++ t125) ++ t126) ++ t127) ++ (a1.extract ((ji8) : Int).toNat ((ji9) : Int).toNat)) ++ t128).size + t130.size ≤ 9223372036854775807 then (if x6_2.length < 8796093022208 then (ossuaryref13_PutArea.l0 k2 a0 a1 (x6_2 ++ [((((((⟨#[77]⟩ : ByteArray) ++ t125) ++ t126) ++ t127) ++ (a1.extract ((ji8) : Int).toNat ((ji9) : Int).toNat)) ++ t128) ++ t130]) (wrap64 (x7_2 + 1))) else (none)) else (none)))) else (none))) else (none)) else (none)) else (none)) else (none)) else (none))) else (none))) else (none))) = some (r1, r2) := by first | (rw [hji9] at H; exact H) | (simp only [hji9] at H ⊢; exact H)
              have hji9_ : (if (a1.size : Int) < (wrap64 ((wrap64 (52 * x7_2)) + 52)) then (a1.size : Int) else (wrap64 ((wrap64 (52 * x7_2)) + 52))) = ji9 := hji9
              replace H := Option.bind_eq_some_iff.mp H
              obtain ⟨t125, A100, H⟩ := H
              replace H : (if 1 + t125.size ≤ 9223372036854775807 then ((ossuaryref13_bytes.f k2 (a1.size : Int) 2).bind fun t126 => (if ((⟨#[77]⟩ : ByteArray) ++ t125).size + t126.size ≤ 9223372036854775807 then ((ossuaryref13_bytes.f k2 a0 4).bind fun t127 => (if (((⟨#[77]⟩ : ByteArray) ++ t125) ++ t126).size + t127.size ≤ 9223372036854775807 then (if 0 ≤ (ji8) then (if (ji8) ≤ (ji9) then (if (ji9) ≤ (a1.size : Int) then (if ((((⟨#[77]⟩ : ByteArray) ++ t125) ++ t126) ++ t127).size + (a1.extract ((ji8) : Int).toNat ((ji9) : Int).toNat).size ≤ 9223372036854775807 then ((ossuaryref13_zeros.f (wrap64 (60 - ((((((⟨#[77]⟩ : ByteArray) ++ t125) ++ t126) ++ t127) ++ (a1.extract ((ji8) : Int).toNat ((ji9) : Int).toNat)).size : Int)))).bind fun t128 => (if (((((⟨#[77]⟩ : ByteArray) ++ t125) ++ t126) ++ t127) ++ (a1.extract ((ji8) : Int).toNat ((ji9) : Int).toNat)).size + t128.size ≤ 9223372036854775807 then ((ossuaryref1_Of.f k2 ((((((⟨#[77]⟩ : ByteArray) ++ t125) ++ t126) ++ t127) ++ (a1.extract ((ji8) : Int).toNat ((ji9) : Int).toNat)) ++ t128)).bind fun t129 => ((ossuaryref13_bytes.f k2 t129 4).bind fun t130 => (if ((((((⟨#[77]⟩ : ByteArray) ++ t125) ++ t126) ++ t127) ++ (a1.extract ((ji8) : Int).toNat ((ji9) : Int).toNat)) ++ t128).size + t130.size ≤ 9223372036854775807 then (if x6_2.length < 8796093022208 then (ossuaryref13_PutArea.l0 k2 a0 a1 (x6_2 ++ [((((((⟨#[77]⟩ : ByteArray) ++ t125) ++ t126) ++ t127) ++ (a1.extract ((ji8) : Int).toNat ((ji9) : Int).toNat)) ++ t128) ++ t130]) (wrap64 (x7_2 + 1))) else (none)) else (none)))) else (none))) else (none)) else (none)) else (none)) else (none)) else (none))) else (none))) else (none)) = some (r1, r2) := H
              have A10 := Aside0.mk A100
              clear A100
              by_cases c11 : 1 + t125.size ≤ 9223372036854775807
              · rw [if_pos c11] at H
                have c11b0 := eq_true c11
                have c11b1 : decide (1 + t125.size ≤ 9223372036854775807) = true := decide_eq_true c11
                try have c11b2 : (9223372036854775807 < 1 + t125.size) = False := eq_false (Nat.not_lt.2 c11)
                replace H := Option.bind_eq_some_iff.mp H
                obtain ⟨t126, A120, H⟩ := H
                replace H : (if ((⟨#[77]⟩ : ByteArray) ++ t125).size + t126.size ≤ 9223372036854775807 then ((ossuaryref13_bytes.f k2 a0 4).bind fun t127 => (if (((⟨#[77]⟩ : ByteArray) ++ t125) ++ t126).size + t127.size ≤ 9223372036854775807 then (if 0 ≤ (ji8) then (if (ji8) ≤ (ji9) then (if (ji9) ≤ (a1.size : Int) then (if ((((⟨#[77]⟩ : ByteArray) ++ t125) ++ t126) ++ t127).size + (a1.extract ((ji8) : Int).toNat ((ji9) : Int).toNat).size ≤ 9223372036854775807 then ((ossuaryref13_zeros.f (wrap64 (60 - ((((((⟨#[77]⟩ : ByteArray) ++ t125) ++ t126) ++ t127) ++ (a1.extract ((ji8) : Int).toNat ((ji9) : Int).toNat)).size : Int)))).bind fun t128 => (if (((((⟨#[77]⟩ : ByteArray) ++ t125) ++ t126) ++ t127) ++ (a1.extract ((ji8) : Int).toNat ((ji9) : Int).toNat)).size + t128.size ≤ 9223372036854775807 then ((ossuaryref1_Of.f k2 ((((((⟨#[77]⟩ : ByteArray) ++ t125) ++ t126) ++ t127) ++ (a1.extract ((ji8) : Int).toNat ((ji9) : Int).toNat)) ++ t128)).bind fun t129 => ((ossuaryref13_bytes.f k2 t129 4).bind fun t130 => (if ((((((⟨#[77]⟩ : ByteArray) ++ t125) ++ t126) ++ t127) ++ (a1.extract ((ji8) : Int).toNat ((ji9) : Int).toNat)) ++ t128).size + t130.size ≤ 9223372036854775807 then (if x6_2.length < 8796093022208 then (ossuaryref13_PutArea.l0 k2 a0 a1 (x6_2 ++ [((((((⟨#[77]⟩ : ByteArray) ++ t125) ++ t126) ++ t127) ++ (a1.extract ((ji8) : Int).toNat ((ji9) : Int).toNat)) ++ t128) ++ t130]) (wrap64 (x7_2 + 1))) else (none)) else (none)))) else (none))) else (none)) else (none)) else (none)) else (none)) else (none))) else (none)) = some (r1, r2) := H
                have A12 := Aside0.mk A120
                clear A120
                by_cases c13 : ((⟨#[77]⟩ : ByteArray) ++ t125).size + t126.size ≤ 9223372036854775807
                · rw [if_pos c13] at H
                  have c13b0 := eq_true c13
                  have c13b1 : decide (((⟨#[77]⟩ : ByteArray) ++ t125).size + t126.size ≤ 9223372036854775807) = true := decide_eq_true c13
                  try have c13b2 : (9223372036854775807 < ((⟨#[77]⟩ : ByteArray) ++ t125).size + t126.size) = False := eq_false (Nat.not_lt.2 c13)
                  (try (have c13s := c13; simp only [ByteArray.size_append, Int.toNat_natCast, ByteArray.size_extract, Nat.min_self, Nat.sub_zero, show (⟨#[77]⟩ : ByteArray).size = 1 from rfl] at c13s; have c13u := eq_false (Nat.not_lt.2 c13s); have c13t := eq_true c13s; clear c13s))
                  replace H := Option.bind_eq_some_iff.mp H
                  obtain ⟨t127, A140, H⟩ := H
                  replace H : (if (((⟨#[77]⟩ : ByteArray) ++ t125) ++ t126).size + t127.size ≤ 9223372036854775807 then (if 0 ≤ (ji8) then (if (ji8) ≤ (ji9) then (if (ji9) ≤ (a1.size : Int) then (if ((((⟨#[77]⟩ : ByteArray) ++ t125) ++ t126) ++ t127).size + (a1.extract ((ji8) : Int).toNat ((ji9) : Int).toNat).size ≤ 9223372036854775807 then ((ossuaryref13_zeros.f (wrap64 (60 - ((((((⟨#[77]⟩ : ByteArray) ++ t125) ++ t126) ++ t127) ++ (a1.extract ((ji8) : Int).toNat ((ji9) : Int).toNat)).size : Int)))).bind fun t128 => (if (((((⟨#[77]⟩ : ByteArray) ++ t125) ++ t126) ++ t127) ++ (a1.extract ((ji8) : Int).toNat ((ji9) : Int).toNat)).size + t128.size ≤ 9223372036854775807 then ((ossuaryref1_Of.f k2 ((((((⟨#[77]⟩ : ByteArray) ++ t125) ++ t126) ++ t127) ++ (a1.extract ((ji8) : Int).toNat ((ji9) : Int).toNat)) ++ t128)).bind fun t129 => ((ossuaryref13_bytes.f k2 t129 4).bind fun t130 => (if ((((((⟨#[77]⟩ : ByteArray) ++ t125) ++ t126) ++ t127) ++ (a1.extract ((ji8) : Int).toNat ((ji9) : Int).toNat)) ++ t128).size + t130.size ≤ 9223372036854775807 then (if x6_2.length < 8796093022208 then (ossuaryref13_PutArea.l0 k2 a0 a1 (x6_2 ++ [((((((⟨#[77]⟩ : ByteArray) ++ t125) ++ t126) ++ t127) ++ (a1.extract ((ji8) : Int).toNat ((ji9) : Int).toNat)) ++ t128) ++ t130]) (wrap64 (x7_2 + 1))) else (none)) else (none)))) else (none))) else (none)) else (none)) else (none)) else (none)) else (none)) = some (r1, r2) := H
                  have A14 := Aside0.mk A140
                  clear A140
                  by_cases c15 : (((⟨#[77]⟩ : ByteArray) ++ t125) ++ t126).size + t127.size ≤ 9223372036854775807
                  · rw [if_pos c15] at H
                    have c15b0 := eq_true c15
                    have c15b1 : decide ((((⟨#[77]⟩ : ByteArray) ++ t125) ++ t126).size + t127.size ≤ 9223372036854775807) = true := decide_eq_true c15
                    try have c15b2 : (9223372036854775807 < (((⟨#[77]⟩ : ByteArray) ++ t125) ++ t126).size + t127.size) = False := eq_false (Nat.not_lt.2 c15)
                    (try (have c15s := c15; simp only [ByteArray.size_append, Int.toNat_natCast, ByteArray.size_extract, Nat.min_self, Nat.sub_zero, show (⟨#[77]⟩ : ByteArray).size = 1 from rfl] at c15s; have c15u := eq_false (Nat.not_lt.2 c15s); have c15t := eq_true c15s; clear c15s))
                    by_cases c16 : 0 ≤ (ji8)
                    · rw [if_pos c16] at H
                      have c16b0 := eq_true c16
                      have c16b1 : decide (0 ≤ (ji8)) = true := decide_eq_true c16
                      clear c16
                      by_cases c17 : (ji8) ≤ (ji9)
                      · rw [if_pos c17] at H
                        have c17b0 := eq_true c17
                        have c17b1 : decide ((ji8) ≤ (ji9)) = true := decide_eq_true c17
                        clear c17
                        by_cases c18 : (ji9) ≤ (a1.size : Int)
                        · rw [if_pos c18] at H
                          have c18b0 := eq_true c18
                          have c18b1 : decide ((ji9) ≤ (a1.size : Int)) = true := decide_eq_true c18
                          clear c18
                          by_cases c19 : ((((⟨#[77]⟩ : ByteArray) ++ t125) ++ t126) ++ t127).size + (a1.extract ((ji8) : Int).toNat ((ji9) : Int).toNat).size ≤ 9223372036854775807
                          · rw [if_pos c19] at H
                            have c19b0 := eq_true c19
                            have c19b1 : decide (((((⟨#[77]⟩ : ByteArray) ++ t125) ++ t126) ++ t127).size + (a1.extract ((ji8) : Int).toNat ((ji9) : Int).toNat).size ≤ 9223372036854775807) = true := decide_eq_true c19
                            try have c19b2 : (9223372036854775807 < ((((⟨#[77]⟩ : ByteArray) ++ t125) ++ t126) ++ t127).size + (a1.extract ((ji8) : Int).toNat ((ji9) : Int).toNat).size) = False := eq_false (Nat.not_lt.2 c19)
                            (try (have c19s := c19; simp only [ByteArray.size_append, Int.toNat_natCast, ByteArray.size_extract, Nat.min_self, Nat.sub_zero, show min (ji9).toNat a1.size = (ji9).toNat from Nat.min_eq_left (by have h_ : (ji9 : Int) ≤ (a1.size : Int) := of_decide_eq_true (by assumption); omega), show (⟨#[77]⟩ : ByteArray).size = 1 from rfl] at c19s; have c19u := eq_false (Nat.not_lt.2 c19s); have c19t := eq_true c19s; clear c19s))
                            replace H := Option.bind_eq_some_iff.mp H
                            obtain ⟨t128, A200, H⟩ := H
                            replace H : (if (((((⟨#[77]⟩ : ByteArray) ++ t125) ++ t126) ++ t127) ++ (a1.extract ((ji8) : Int).toNat ((ji9) : Int).toNat)).size + t128.size ≤ 9223372036854775807 then ((ossuaryref1_Of.f k2 ((((((⟨#[77]⟩ : ByteArray) ++ t125) ++ t126) ++ t127) ++ (a1.extract ((ji8) : Int).toNat ((ji9) : Int).toNat)) ++ t128)).bind fun t129 => ((ossuaryref13_bytes.f k2 t129 4).bind fun t130 => (if ((((((⟨#[77]⟩ : ByteArray) ++ t125) ++ t126) ++ t127) ++ (a1.extract ((ji8) : Int).toNat ((ji9) : Int).toNat)) ++ t128).size + t130.size ≤ 9223372036854775807 then (if x6_2.length < 8796093022208 then (ossuaryref13_PutArea.l0 k2 a0 a1 (x6_2 ++ [((((((⟨#[77]⟩ : ByteArray) ++ t125) ++ t126) ++ t127) ++ (a1.extract ((ji8) : Int).toNat ((ji9) : Int).toNat)) ++ t128) ++ t130]) (wrap64 (x7_2 + 1))) else (none)) else (none)))) else (none)) = some (r1, r2) := H
                            have A20 := Aside0.mk A200
                            clear A200
                            by_cases c21 : (((((⟨#[77]⟩ : ByteArray) ++ t125) ++ t126) ++ t127) ++ (a1.extract ((ji8) : Int).toNat ((ji9) : Int).toNat)).size + t128.size ≤ 9223372036854775807
                            · rw [if_pos c21] at H
                              have c21b0 := eq_true c21
                              have c21b1 : decide ((((((⟨#[77]⟩ : ByteArray) ++ t125) ++ t126) ++ t127) ++ (a1.extract ((ji8) : Int).toNat ((ji9) : Int).toNat)).size + t128.size ≤ 9223372036854775807) = true := decide_eq_true c21
                              try have c21b2 : (9223372036854775807 < (((((⟨#[77]⟩ : ByteArray) ++ t125) ++ t126) ++ t127) ++ (a1.extract ((ji8) : Int).toNat ((ji9) : Int).toNat)).size + t128.size) = False := eq_false (Nat.not_lt.2 c21)
                              (try (have c21s := c21; simp only [ByteArray.size_append, Int.toNat_natCast, ByteArray.size_extract, Nat.min_self, Nat.sub_zero, show min (ji9).toNat a1.size = (ji9).toNat from Nat.min_eq_left (by have h_ : (ji9 : Int) ≤ (a1.size : Int) := of_decide_eq_true (by assumption); omega), show (⟨#[77]⟩ : ByteArray).size = 1 from rfl] at c21s; have c21u := eq_false (Nat.not_lt.2 c21s); have c21t := eq_true c21s; clear c21s))
                              replace H := Option.bind_eq_some_iff.mp H
                              obtain ⟨t129, A220, H⟩ := H
                              replace H : ((ossuaryref13_bytes.f k2 t129 4).bind fun t130 => (if ((((((⟨#[77]⟩ : ByteArray) ++ t125) ++ t126) ++ t127) ++ (a1.extract ((ji8) : Int).toNat ((ji9) : Int).toNat)) ++ t128).size + t130.size ≤ 9223372036854775807 then (if x6_2.length < 8796093022208 then (ossuaryref13_PutArea.l0 k2 a0 a1 (x6_2 ++ [((((((⟨#[77]⟩ : ByteArray) ++ t125) ++ t126) ++ t127) ++ (a1.extract ((ji8) : Int).toNat ((ji9) : Int).toNat)) ++ t128) ++ t130]) (wrap64 (x7_2 + 1))) else (none)) else (none))) = some (r1, r2) := H
                              have A22 := Aside0.mk A220
                              clear A220
                              replace H := Option.bind_eq_some_iff.mp H
                              obtain ⟨t130, A230, H⟩ := H
                              replace H : (if ((((((⟨#[77]⟩ : ByteArray) ++ t125) ++ t126) ++ t127) ++ (a1.extract ((ji8) : Int).toNat ((ji9) : Int).toNat)) ++ t128).size + t130.size ≤ 9223372036854775807 then (if x6_2.length < 8796093022208 then (ossuaryref13_PutArea.l0 k2 a0 a1 (x6_2 ++ [((((((⟨#[77]⟩ : ByteArray) ++ t125) ++ t126) ++ t127) ++ (a1.extract ((ji8) : Int).toNat ((ji9) : Int).toNat)) ++ t128) ++ t130]) (wrap64 (x7_2 + 1))) else (none)) else (none)) = some (r1, r2) := H
                              have A23 := Aside0.mk A230
                              clear A230
                              by_cases c24 : ((((((⟨#[77]⟩ : ByteArray) ++ t125) ++ t126) ++ t127) ++ (a1.extract ((ji8) : Int).toNat ((ji9) : Int).toNat)) ++ t128).size + t130.size ≤ 9223372036854775807
                              · rw [if_pos c24] at H
                                have c24b0 := eq_true c24
                                have c24b1 : decide (((((((⟨#[77]⟩ : ByteArray) ++ t125) ++ t126) ++ t127) ++ (a1.extract ((ji8) : Int).toNat ((ji9) : Int).toNat)) ++ t128).size + t130.size ≤ 9223372036854775807) = true := decide_eq_true c24
                                try have c24b2 : (9223372036854775807 < ((((((⟨#[77]⟩ : ByteArray) ++ t125) ++ t126) ++ t127) ++ (a1.extract ((ji8) : Int).toNat ((ji9) : Int).toNat)) ++ t128).size + t130.size) = False := eq_false (Nat.not_lt.2 c24)
                                (try (have c24s := c24; simp only [ByteArray.size_append, Int.toNat_natCast, ByteArray.size_extract, Nat.min_self, Nat.sub_zero, show min (ji9).toNat a1.size = (ji9).toNat from Nat.min_eq_left (by have h_ : (ji9 : Int) ≤ (a1.size : Int) := of_decide_eq_true (by assumption); omega), show (⟨#[77]⟩ : ByteArray).size = 1 from rfl] at c24s; have c24u := eq_false (Nat.not_lt.2 c24s); have c24t := eq_true c24s; clear c24s))
                                by_cases c25 : x6_2.length < 8796093022208
                                · rw [if_pos c25] at H
                                  have LMc25 := Aside0.mk c25
                                  clear c25
                                  obtain ⟨y131, hy131⟩ : ∃ y_ : List ByteArray, y_ = (x6_2 ++ [((((((⟨#[77]⟩ : ByteArray) ++ t125) ++ t126) ++ t127) ++ (a1.extract ((ji8) : Int).toNat ((ji9) : Int).toNat)) ++ t128) ++ t130]) := ⟨_, rfl⟩
                                  replace H : (ossuaryref13_PutArea.l0 k2 a0 a1 y131 (wrap64 (x7_2 + 1))) = some (r1, r2) := by first | (rw [hy131]; with_reducible exact H) | (have H2_ := (Option.bind_some _ _).symm.trans H; rw [hy131]; with_reducible exact H2_) | (have H2_ := (Option.bind_some _ _).symm.trans H; with_reducible exact H2_) | with_reducible exact H | (rw [hy131]; exact H) | exact H
                                  have Ny131 := Aside0.mk hy131
                                  clear hy131
                                  have H' := Aside0.mk H
                                  clear H
                                  try go_wp2
                                  have n0_ := Aside0.mk (Kd.R_drew HO_6.out)
                                  have n1_ := Aside0.mk (below_drew1 HB.out)
                                  clear HO_6
                                  clear HB
                                  have HO_6 := n0_
                                  have HB := n1_
                                  clear n0_ n1_
                                  refine start_ (n := 16) (S := fun w' => True) (ds := []) #[false, false, false, false, false, false, false, false, false, false, false, false, false, false, false, false] (by kernel_rfl) rfl rfl trivial (fun hHeld => ?_); refine with_tabW ossuaryref13_PutArea.tab8 ossuaryref13_PutArea.bits8 (fun HT_ HW_ => ?_)
                                  generalize wr.drew = w26 at HO_6 HB hHeld ⊢
                                  refine pure_ (i := 0) (N := some 37) (v := ?_) (a' := ?_) #[true, false, false, false, false, false, false, false, false, false, false, false, false, false, false, false] rfl rfl (any_of HT_.out (by kernel_rfl)) (fun _ _ _ h => h) (Or.inl ⟨by rfl, ?_⟩) ?_ ?_
                                  rotate_left
                                  · intro w'
                                    go_simp
                                    with_reducible rfl
                                  rotate_left
                                  · simp only [Act.put, List.setIfInBounds_toArray, List.set_cons_zero, List.set_cons_succ, i64_w, i32_w]
                                    rfl
                                  refine pure_ (i := 3) (N := some 40) (v := ?_) (a' := ?_) #[true, false, false, true, false, false, false, false, false, false, false, false, false, false, false, false] rfl rfl (any_of HT_.out (by kernel_rfl)) (fun _ _ _ h => h) (Or.inl ⟨by rfl, ?_⟩) ?_ ?_
                                  rotate_left
                                  · intro w'
                                    go_simp
                                    with_reducible rfl
                                  rotate_left
                                  · simp only [Act.put, List.setIfInBounds_toArray, List.set_cons_zero, List.set_cons_succ, i64_w, i32_w]
                                    rfl
                                  refine pure_ (i := 4) (N := some 41) (v := ?_) (a' := ?_) #[true, false, false, true, true, false, false, false, false, false, false, false, false, false, false, false] rfl rfl (any_of HT_.out (by kernel_rfl)) (fun _ _ _ h => h) (Or.inl ⟨by rfl, ?_⟩) ?_ ?_
                                  rotate_left
                                  · intro w'
                                    go_simp
                                    with_reducible rfl
                                  rotate_left
                                  · simp only [Act.put, List.setIfInBounds_toArray, List.set_cons_zero, List.set_cons_succ, i64_w, i32_w]
                                    rfl
                                  refine pure_ (i := 7) (N := some 44) (v := ?_) (a' := ?_) #[true, false, false, true, true, false, false, true, false, false, false, false, false, false, false, false] rfl rfl (any_of HT_.out (by kernel_rfl)) (fun _ _ _ h => h) (Or.inl ⟨by rfl, ?_⟩) ?_ ?_
                                  rotate_left
                                  · intro w'
                                    go_simp
                                    with_reducible rfl
                                  rotate_left
                                  · simp only [Act.put, List.setIfInBounds_toArray, List.set_cons_zero, List.set_cons_succ, i64_w, i32_w]
                                    rfl
                                  refine pure_ (i := 10) (N := some 47) (v := ?_) (a' := ?_) #[true, false, false, true, true, false, false, true, false, false, true, false, false, false, false, false] rfl rfl (any_of HT_.out (by kernel_rfl)) (fun _ _ _ h => h) (Or.inl ⟨by rfl, ?_⟩) ?_ ?_
                                  rotate_left
                                  · intro w'
                                    go_simp
                                    with_reducible rfl
                                  rotate_left
                                  · simp only [Act.put, List.setIfInBounds_toArray, List.set_cons_zero, List.set_cons_succ, i64_w, i32_w]
                                    rfl
                                  refine pure_ (i := 11) (N := some 48) (v := ?_) (a' := ?_) #[true, false, false, true, true, false, false, true, false, false, true, true, false, false, false, false] rfl rfl (any_of HT_.out (by kernel_rfl)) (fun _ _ _ h => h) (Or.inl ⟨by rfl, ?_⟩) ?_ ?_
                                  rotate_left
                                  · intro w'
                                    go_simp
                                    with_reducible rfl
                                  rotate_left
                                  · simp only [Act.put, List.setIfInBounds_toArray, List.set_cons_zero, List.set_cons_succ, i64_w, i32_w]
                                    rfl
                                  refine pure_ (i := 12) (N := some 49) (v := ?_) (a' := ?_) #[true, false, false, true, true, false, false, true, false, false, true, true, true, false, false, false] rfl rfl (any_of HT_.out (by kernel_rfl)) (fun _ _ _ h => h) (Or.inl ⟨by rfl, ?_⟩) ?_ ?_
                                  rotate_left
                                  · intro w'
                                    go_simp
                                    with_reducible rfl
                                  rotate_left
                                  · simp only [Act.put, List.setIfInBounds_toArray, List.set_cons_zero, List.set_cons_succ, i64_w, i32_w]
                                    rfl
                                  refine pure_ (i := 13) (N := some 50) (v := ?_) (a' := ?_) #[true, false, false, true, true, false, false, true, false, false, true, true, true, true, false, false] rfl rfl (any_of HT_.out (by kernel_rfl)) (fun _ _ _ h => h) (Or.inl ⟨by rfl, ?_⟩) ?_ ?_
                                  rotate_left
                                  · intro w'
                                    go_simp
                                    with_reducible rfl
                                  rotate_left
                                  · simp only [Act.put, List.setIfInBounds_toArray, List.set_cons_zero, List.set_cons_succ, i64_w, i32_w]
                                    rfl
                                  refine one_ (i := 1) (N := some 38) #[true, true, false, true, true, false, false, true, false, false, true, true, true, true, false, false] rfl rfl (one_of HT_.out (by kernel_rfl)) (by decide) (fun K hK => ?_)
                                  refine goes_ Try.func19 (by kernel_rfl) rfl #[.int .i64 x7_2, .int .i64 1] (by rfl) rfl rfl (by (try simp only [List.map_toArray, List.map_cons, List.map_nil]); first | done | rfl | (simp only [List.length_drop, List.length_take]; rfl)) ?_
                                  with_reducible refine (ossuaryref13_bytes.calls k2 x7_2 1 t125 _ A10.out).mono ?_
                                  rintro e w27 ⟨rfl, hb⟩
                                  refine ⟨_, rfl, ?_⟩
                                  have n0_ := Aside0.mk (Kd.R_below (by (with_reducible repeat (first | apply Kd.R_alloc | apply Kd.R_drewN | apply Kd.R_drew)); exact HO_6.out) hb)
                                  have n1_ := Aside0.mk (below_step (by repeat (first | (with_reducible first | exact HB.out | apply below_alloc | apply pw_below_drewN | apply below_drew1) | exact HB.out)) hb)
                                  clear HO_6
                                  clear HB
                                  have HO_6 := n0_
                                  have HB := n1_
                                  clear n0_ n1_
                                  (try clear hb)
                                  (try clear hb2)
                                  (try clear hk)
                                  (try clear hi)
                                  refine hK.out _ _ trivial (fun hHeld => ?_)
                                  clear hK K
                                  refine norm_ (a' := ?_) ?_ ?_
                                  rotate_left
                                  · show Act.put _ (some 38) _ = _
                                    simp only [Act.put, List.setIfInBounds_toArray, List.set_cons_zero, List.set_cons_succ, i64_w, i32_w]
                                    rfl
                                  refine pure_ (i := 2) (N := some 39) (v := ?_) (a' := ?_) #[true, true, true, true, true, false, false, true, false, false, true, true, true, true, false, false] rfl rfl (any_of HT_.out (by kernel_rfl)) (fun _ _ _ h => h) (Or.inl ⟨by rfl, ?_⟩) ?_ ?_
                                  rotate_left
                                  · intro w'
                                    go_simp
                                    with_reducible rfl
                                  rotate_left
                                  · simp only [Act.put, List.setIfInBounds_toArray, List.set_cons_zero, List.set_cons_succ, i64_w, i32_w]
                                    rfl
                                  refine one_ (i := 5) (N := some 42) #[true, true, true, true, true, true, false, true, false, false, true, true, true, true, false, false] rfl rfl (one_of HT_.out (by kernel_rfl)) (by decide) (fun K hK => ?_)
                                  refine goes_ Try.func19 (by kernel_rfl) rfl #[.int .i64 (a1.size : Int), .int .i64 2] (by rfl) rfl rfl (by (try simp only [List.map_toArray, List.map_cons, List.map_nil]); first | done | rfl | (simp only [List.length_drop, List.length_take]; rfl)) ?_
                                  with_reducible refine (ossuaryref13_bytes.calls k2 (a1.size : Int) 2 t126 _ A12.out).mono ?_
                                  rintro e w28 ⟨rfl, hb⟩
                                  refine ⟨_, rfl, ?_⟩
                                  have n0_ := Aside0.mk (Kd.R_below (by (with_reducible repeat (first | apply Kd.R_alloc | apply Kd.R_drewN | apply Kd.R_drew)); exact HO_6.out) hb)
                                  have n1_ := Aside0.mk (below_step (by repeat (first | (with_reducible first | exact HB.out | apply below_alloc | apply pw_below_drewN | apply below_drew1) | exact HB.out)) hb)
                                  clear HO_6
                                  clear HB
                                  have HO_6 := n0_
                                  have HB := n1_
                                  clear n0_ n1_
                                  (try clear hb)
                                  (try clear hb2)
                                  (try clear hk)
                                  (try clear hi)
                                  refine hK.out _ _ trivial (fun hHeld => ?_)
                                  clear hK K
                                  refine norm_ (a' := ?_) ?_ ?_
                                  rotate_left
                                  · show Act.put _ (some 42) _ = _
                                    simp only [Act.put, List.setIfInBounds_toArray, List.set_cons_zero, List.set_cons_succ, i64_w, i32_w]
                                    rfl
                                  refine pure_ (i := 6) (N := some 43) (v := ?_) (a' := ?_) #[true, true, true, true, true, true, true, true, false, false, true, true, true, true, false, false] rfl rfl (any_of HT_.out (by kernel_rfl)) (fun _ _ _ h => h) (Or.inl ⟨by rfl, ?_⟩) ?_ ?_
                                  rotate_left
                                  · intro w'
                                    go_simp
                                    with_reducible rfl
                                  rotate_left
                                  · simp only [Act.put, List.setIfInBounds_toArray, List.set_cons_zero, List.set_cons_succ, i64_w, i32_w]
                                    rfl
                                  refine one_ (i := 8) (N := some 45) #[true, true, true, true, true, true, true, true, true, false, true, true, true, true, false, false] rfl rfl (one_of HT_.out (by kernel_rfl)) (by decide) (fun K hK => ?_)
                                  refine goes_ Try.func19 (by kernel_rfl) rfl #[.int .i64 a0, .int .i64 4] (by rfl) rfl rfl (by (try simp only [List.map_toArray, List.map_cons, List.map_nil]); first | done | rfl | (simp only [List.length_drop, List.length_take]; rfl)) ?_
                                  with_reducible refine (ossuaryref13_bytes.calls k2 a0 4 t127 _ A14.out).mono ?_
                                  rintro e w29 ⟨rfl, hb⟩
                                  refine ⟨_, rfl, ?_⟩
                                  have n0_ := Aside0.mk (Kd.R_below (by (with_reducible repeat (first | apply Kd.R_alloc | apply Kd.R_drewN | apply Kd.R_drew)); exact HO_6.out) hb)
                                  have n1_ := Aside0.mk (below_step (by repeat (first | (with_reducible first | exact HB.out | apply below_alloc | apply pw_below_drewN | apply below_drew1) | exact HB.out)) hb)
                                  clear HO_6
                                  clear HB
                                  have HO_6 := n0_
                                  have HB := n1_
                                  clear n0_ n1_
                                  (try clear hb)
                                  (try clear hb2)
                                  (try clear hk)
                                  (try clear hi)
                                  refine hK.out _ _ trivial (fun hHeld => ?_)
                                  clear hK K
                                  refine norm_ (a' := ?_) ?_ ?_
                                  rotate_left
                                  · show Act.put _ (some 45) _ = _
                                    simp only [Act.put, List.setIfInBounds_toArray, List.set_cons_zero, List.set_cons_succ, i64_w, i32_w]
                                    rfl
                                  refine pure_ (i := 9) (N := some 46) (v := ?_) (a' := ?_) #[true, true, true, true, true, true, true, true, true, true, true, true, true, true, false, false] rfl rfl (any_of HT_.out (by kernel_rfl)) (fun _ _ _ h => h) (Or.inl ⟨by rfl, ?_⟩) ?_ ?_
                                  rotate_left
                                  · intro w'
                                    go_simp
                                    with_reducible rfl
                                  rotate_left
                                  · simp only [Act.put, List.setIfInBounds_toArray, List.set_cons_zero, List.set_cons_succ, i64_w, i32_w]
                                    rfl
                                  refine pure_ (i := 14) (N := some 51) (v := ?_) (a' := ?_) #[true, true, true, true, true, true, true, true, true, true, true, true, true, true, true, false] rfl rfl (any_of HT_.out (by kernel_rfl)) (fun _ _ _ h => h) (Or.inl ⟨by rfl, ?_⟩) ?_ ?_
                                  rotate_left
                                  · intro w'
                                    go_simp
                                    with_reducible rfl
                                  rotate_left
                                  · simp only [Act.put, List.setIfInBounds_toArray, List.set_cons_zero, List.set_cons_succ, i64_w, i32_w]
                                    rfl
                                  refine pure_ (i := 15) (N := some 10) (v := ?_) (a' := ?_) #[true, true, true, true, true, true, true, true, true, true, true, true, true, true, true, true] rfl rfl (any_of HT_.out (by kernel_rfl)) (fun _ _ _ h => h) (Or.inl ⟨by rfl, ?_⟩) ?_ ?_
                                  rotate_left
                                  · intro w'
                                    go_simp
                                    with_reducible rfl
                                  rotate_left
                                  · simp only [Act.put, List.setIfInBounds_toArray, List.set_cons_zero, List.set_cons_succ, i64_w, i32_w]
                                    rfl
                                  refine done_ (done_of HT_.out (by kernel_rfl)) ?_
                                  try go_wp2_with (first | ((with_reducible refine gate_callee (f := 20) rfl ?_); refine goesL_ (some 56) rfl rfl Try.func20 (by kernel_rfl) rfl #[.int .i64 (wrap64 (60 - ((((((⟨#[77]⟩ : ByteArray) ++ t125) ++ t126) ++ t127) ++ (a1.extract ((ji8) : Int).toNat ((ji9) : Int).toNat)).size : Int)))] rfl (by (try simp only [List.map_toArray, List.map_cons, List.map_nil]); first | done | (simp only [show ((((((⟨#[77]⟩ : ByteArray) ++ t125) ++ t126) ++ t127) ++ (a1.extract ((ji8) : Int).toNat ((ji9) : Int).toNat)).size : Int) = 1 + (t125.size : Int) + (t126.size : Int) + (t127.size : Int) + ((ji9.toNat - ji8.toNat : Nat) : Int) from by (simp only [ByteArray.size_append, ByteArray.size_extract, show (⟨#[77]⟩ : ByteArray).size = 1 from rfl]; have hq_ : ji9 ≤ (a1.size : Int) := of_decide_eq_true (by assumption); omega), hji8, hji9]; rfl) | (simp only [show ((((((⟨#[77]⟩ : ByteArray) ++ t125) ++ t126) ++ t127) ++ (a1.extract ((ji8) : Int).toNat ((ji9) : Int).toNat)).size : Int) = 1 + (t125.size : Int) + (t126.size : Int) + (t127.size : Int) + ((ji9.toNat - ji8.toNat : Nat) : Int) from by (simp only [ByteArray.size_append, ByteArray.size_extract, show (⟨#[77]⟩ : ByteArray).size = 1 from rfl]; have hq_ : ji9 ≤ (a1.size : Int) := of_decide_eq_true (by assumption); omega), hji8, hji9]; rfl) | (simp only [hji8, hji9]; rfl) | rfl | (simp only [List.length_drop, List.length_take]; rfl)) ?_; (with_reducible refine (ossuaryref13_zeros.calls (wrap64 (60 - ((((((⟨#[77]⟩ : ByteArray) ++ t125) ++ t126) ++ t127) ++ (a1.extract ((ji8) : Int).toNat ((ji9) : Int).toNat)).size : Int))) t128 _ A20.out).mono ?_); rintro e w30 ⟨rfl, hb⟩; refine ⟨_, rfl, ?_⟩; have n0_ := Aside0.mk (Kd.R_below (by (with_reducible repeat (first | apply Kd.R_alloc | apply Kd.R_drewN | apply Kd.R_drew)); exact HO_6.out) hb); have n1_ := Aside0.mk (below_step (by repeat (first | (with_reducible first | exact HB.out | apply below_alloc | apply pw_below_drewN | apply below_drew1) | exact HB.out)) hb); clear HO_6; clear HB; have HO_6 := n0_; have HB := n1_; clear n0_ n1_; (try clear hb); (try clear hb2); (try clear hk); (try clear hi)) | ((with_reducible refine gate_callee (f := 21) rfl ?_); refine goesL_ (some 60) rfl rfl Try.func21 (by kernel_rfl) rfl #[.string ((((((⟨#[77]⟩ : ByteArray) ++ t125) ++ t126) ++ t127) ++ (a1.extract ((ji8) : Int).toNat ((ji9) : Int).toNat)) ++ t128)] rfl (by (try simp only [List.map_toArray, List.map_cons, List.map_nil]); first | done | (simp only [hji8, hji9]; rfl) | rfl | (simp only [List.length_drop, List.length_take]; rfl)) ?_; (with_reducible refine (ossuaryref1_Of.calls k2 ((((((⟨#[77]⟩ : ByteArray) ++ t125) ++ t126) ++ t127) ++ (a1.extract ((ji8) : Int).toNat ((ji9) : Int).toNat)) ++ t128) t129 _ A22.out).mono ?_); rintro e w' ⟨rfl, ⟨nd, rfl⟩⟩; refine ⟨_, rfl, ?_⟩) | ((with_reducible refine gate_callee (f := 19) rfl ?_); refine goesL_ (some 61) rfl rfl Try.func19 (by kernel_rfl) rfl #[.int .i64 t129, .int .i64 4] rfl (by (try simp only [List.map_toArray, List.map_cons, List.map_nil]); first | done | rfl | (simp only [List.length_drop, List.length_take]; rfl)) ?_; (with_reducible refine (ossuaryref13_bytes.calls k2 t129 4 t130 _ A23.out).mono ?_); rintro e w31 ⟨rfl, hb⟩; refine ⟨_, rfl, ?_⟩; have n0_ := Aside0.mk (Kd.R_below (by (with_reducible repeat (first | apply Kd.R_alloc | apply Kd.R_drewN | apply Kd.R_drew)); exact HO_6.out) hb); have n1_ := Aside0.mk (below_step (by repeat (first | (with_reducible first | exact HB.out | apply below_alloc | apply pw_below_drewN | apply below_drew1) | exact HB.out)) hb); clear HO_6; clear HB; have HO_6 := n0_; have HB := n1_; clear n0_ n1_; (try clear hb); (try clear hb2); (try clear hk); (try clear hi)) | ((with_reducible refine gate_builtin (b := .append) (xs := #[.tmp 63, .tmp 65]) rfl ?_); (try (refine gate_guard (by rfl) ?_; dsimp only)); at_builtin; refine Kd.R_append Kd.string (w0 := w) w.heap.size rfl (.tmp 63) (.tmp 65) 22 9 (.string ⟨#[]⟩) 16 rfl Try.underlying22 info9 rfl (by decide) (by omega) u6 x6_2 (((((((⟨#[77]⟩ : ByteArray) ++ t125) ++ t126) ++ t127) ++ (a1.extract ((ji8) : Int).toNat ((ji9) : Int).toNat)) ++ t128) ++ t130) [.string (((((((⟨#[77]⟩ : ByteArray) ++ t125) ++ t126) ++ t127) ++ (a1.extract ((ji8) : Int).toNat ((ji9) : Int).toNat)) ++ t128) ++ t130)] (fun _ => True) (fun _ => False) rfl rfl ?aP (fun _ hk => hk.elim) ?aF ?aO ?aB ?aS ?aL ?_; (case aP => exact rfl); (case aB => exact (by repeat (first | (with_reducible first | exact HB.out | apply below_alloc | apply pw_below_drewN | apply below_drew1) | exact HB.out))); (case aF => exact (fun _ _ => trivial)); (case aO => exact (by (with_reducible repeat (first | apply Kd.R_alloc | apply Kd.R_drewN | apply Kd.R_drew)); exact HO_6.out)); (case aS => exact (below_size (by repeat (first | (with_reducible first | exact HB.out | apply below_alloc | apply pw_below_drewN | apply below_drew1) | exact HB.out)))); (case aL => have := LMc25.out; omega); intro v132 w32 ho hb hg hat; rw [← Ny131.out] at ho; have n0_ := Aside0.mk (hb); have n1_ := Aside0.mk (ho); clear HB; clear HO_6; have HB := n0_; have HO133 := n1_; clear n0_ n1_; clear ho hb hg hat))
                                  (first | go_roundg k2 | (simp only [← hji8, ← hji9]; go_roundg k2))
                                  case measure => have := HJ2.out; have := HK2.out; omega
                                  case rel => exact ⟨(y131), (wrap64 (x7_2 + 1)), (by first | rfl | (simp; done) | (simp [*]; done)), (by first | exact H' | (have h_ := H'; simp only [← hji8, ← hji9] at h_ ⊢; exact h_) | (have h_ := H'; simp only [← hji8] at h_ ⊢; exact h_) | (have h_ := H'; simp only [← hji9] at h_ ⊢; exact h_)), ⟨by have := HJ2.out; have := HK2.out; omega⟩, ⟨by (with_reducible repeat (first | apply Kd.R_alloc | apply Kd.R_drewN | apply Kd.R_drew)); exact HO133.out⟩, ⟨by repeat (first | (with_reducible first | exact HB.out | apply below_alloc | apply pw_below_drewN | apply below_drew1) | exact HB.out)⟩⟩
                                · rw [if_neg c25] at H
                                  exact absurd H (by simp)
                              · rw [if_neg c24] at H
                                exact absurd H (by simp)
                            · rw [if_neg c21] at H
                              exact absurd H (by simp)
                          · rw [if_neg c19] at H
                            exact absurd H (by simp)
                        · rw [if_neg c18] at H
                          exact absurd H (by simp)
                      · rw [if_neg c17] at H
                        exact absurd H (by simp)
                    · rw [if_neg c16] at H
                      exact absurd H (by simp)
                  · rw [if_neg c15] at H
                    exact absurd H (by simp)
                · rw [if_neg c13] at H
                  exact absurd H (by simp)
              · rw [if_neg c11] at H
                exact absurd H (by simp)
            · rw [if_neg c7] at H
              have c7b0 : decide (x7_2 < 24) = false := decide_eq_false c7
              clear c7
              simp only [Option.some.injEq, Prod.mk.injEq] at H
              obtain ⟨rfl, rfl⟩ := H
              go_wp2
              go_ret2
              exact ⟨_, by first | rfl | (simp [errW_none, errW_some] <;> rfl) | (simp [*, errW_none, errW_some] <;> rfl), by (with_reducible repeat (first | apply Kd.R_alloc | apply Kd.R_drewN | apply Kd.R_drew)); exact HO_6.out, by repeat (first | (with_reducible first | exact HB.out | apply below_alloc | apply pw_below_drewN | apply below_drew1) | exact HB.out)⟩

/-! ### frame_Number: function 22 -/
def frame_Number.l0 : Nat → ByteArray → Int → Int → Option (Int)
  | 0, _, _, _ => none
  | k + 1, x0, x3, x4 => if x4 ≥ 0 then (if 0 ≤ x4 then (if x4 < (x0.size : Int) then (frame_Number.l0 k x0 (Go.bits .or .i64 (wrap64 (x3 * 256)) (wrap64 (bt x0 x4))) (wrap64 (x4 - 1))) else (none)) else (none)) else (some x3)
def frame_Number.f (k : Nat) (a0 : ByteArray) : Option (Int) := frame_Number.l0 k a0 0 (wrap64 ((a0.size : Int) - 1))
theorem frame_Number.mono_l : ∀ k, (∀ y0 y1 y2, LeO (frame_Number.l0 k y0 y1 y2) (frame_Number.l0 (k + 1) y0 y1 y2))
  | 0 => fun _ _ _ r h => by simp [frame_Number.l0] at h
  | k + 1 => by
    have ih0 := frame_Number.mono_l k
    · intro y0 y1 y2
      unfold frame_Number.l0
      repeat' first
      | (with_reducible exact ih0 _ _ _)
      | (with_reducible exact LeO.refl _)
      | (with_reducible exact LeO.none _)
      | (with_reducible refine LeO.ite ?_ ?_)
      | (with_reducible refine LeO.bind ?_ (fun _ => ?_))
      | exact ih0 _ _ _
      | exact LeO.none _
      | refine LeO.ite ?_ ?_
      | refine LeO.bind ?_ (fun _ => ?_)
theorem frame_Number.mono : ∀ a0 k, LeO (frame_Number.f k a0) (frame_Number.f (k + 1) a0) := by
  intro a0 k
  have ih0 := frame_Number.mono_l k
  unfold frame_Number.f
  repeat' first
      | (with_reducible exact ih0 _ _ _)
      | (with_reducible exact LeO.refl _)
      | (with_reducible exact LeO.none _)
      | (with_reducible refine LeO.ite ?_ ?_)
      | (with_reducible refine LeO.bind ?_ (fun _ => ?_))
      | exact ih0 _ _ _
      | exact LeO.none _
      | refine LeO.ite ?_ ?_
      | refine LeO.bind ?_ (fun _ => ?_)
set_option maxHeartbeats 8000000 in
set_option maxRecDepth 100000 in
theorem frame_Number.calls (k : Nat) (a0 : ByteArray) (r : Int) (w : World) (h : frame_Number.f k a0 = some r) :
    Calls Try.prog 22 #[.string a0] w fun e w' => e = .returned (.int .i64 r) ∧ Drawn0 w w' := by
  have H : (frame_Number.l0 k a0 0 (wrap64 ((a0.size : Int) - 1))) = some r := h
  clear h
  have H' := Aside0.mk H
  clear H
  go_enter Try.func22, Try.ntmps22
  go_wp2
  go_loopg [3, 4] k (fun kq v3 v4 w' => ∃ (x3_1 : Int) (x4_1 : Int), v3 = .int .i64 x3_1 ∧ v4 = .int .i64 x4_1 ∧ Aside0 (frame_Number.l0 kq a0 x3_1 x4_1 = some r) ∧ Aside0 (kq ≤ k) ∧ Drawn0 w w')
  case atStart => exact ⟨(0), (wrap64 ((a0.size : Int) - 1)), (by first | rfl | (simp; done) | (simp [*]; done)), (by first | rfl | (simp; done) | (simp [*]; done)), H', ⟨Nat.le_refl _⟩, by repeat (first | exact Drawn0.refl _ | apply Drawn0.step)⟩
  case round =>
    clear H'
    obtain ⟨x3_1, x4_1, rfl, rfl, HA, HK1, ⟨m1, rfl⟩⟩ := hrel
    cases gk with
    | zero => exact absurd HA.out (by simp [frame_Number.l0])
    | succ k1 =>
      have H := HA.out
      clear HA
      simp only [frame_Number.l0] at H
      by_cases c2 : x4_1 ≥ 0
      · rw [if_pos c2] at H
        have c2b0 : decide (0 ≤ x4_1) = true := decide_eq_true c2
        clear c2
        by_cases c3 : 0 ≤ x4_1
        · rw [if_pos c3] at H
          have c3b0 : decide (0 ≤ x4_1) = true := decide_eq_true c3
          clear c3
          by_cases c4 : x4_1 < (a0.size : Int)
          · rw [if_pos c4] at H
            have c4b0 : decide (x4_1 < (a0.size : Int)) = true := decide_eq_true c4
            clear c4
            have H' := Aside0.mk H
            clear H
            have p5 : 0 ≤ (x4_1 : Int) := of_decide_eq_true (by first | (with_reducible assumption) | assumption)
            have q5 : x4_1 < (a0.size : Int) := of_decide_eq_true (by first | (with_reducible assumption) | assumption)
            have hx5 := bt_at a0 x4_1
            replace p5 := eq_true p5
            replace q5 := eq_true q5
            go_wp2
            go_roundg k1
            case measure => have := HK1.out; omega
            case rel => exact ⟨(Go.bits .or .i64 (wrap64 (x3_1 * 256)) (wrap64 (bt a0 x4_1))), (wrap64 (x4_1 - 1)), (by first | rfl | (simp; done) | (simp [*]; done)), (by first | rfl | (simp; done) | (simp [*]; done)), H', ⟨by have := HK1.out; omega⟩, by repeat (first | exact Drawn0.refl _ | apply Drawn0.step)⟩
          · rw [if_neg c4] at H
            exact absurd H (by simp)
        · rw [if_neg c3] at H
          exact absurd H (by simp)
      · rw [if_neg c2] at H
        have c2b0 : decide (0 ≤ x4_1) = false := decide_eq_false c2
        clear c2
        obtain rfl := Option.some.inj H
        go_wp2
        go_ret
        exact ⟨by first | rfl | (simp; done) | (simp [*]; done), by repeat (first | exact Drawn0.refl _ | apply Drawn0.step)⟩

end Go.Proofs.Ytmphljlooopcdaa.HAreas
