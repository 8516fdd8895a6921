/- Lean functions for the Go functions that the law reaches, and proofs that the calls come to them: written by a program of this session. -/
import Derived.Test.YtmphljlooopcdaaHAreasx0
import Derived.Test.YtmphljlooopcdaaHAreasx1
import Derived.Test.YtmphljlooopcdaaHAreasx2
import Derived.Test.YtmphljlooopcdaaHAreasx3
import Derived.Test.YtmphljlooopcdaaHAreasx4
namespace Go.Proofs.Ytmphljlooopcdaa.HAreas
open Go.RowKit Go.Proofs.YtmphljlooopcdaaW.PrintWords Go.Proofs.YtmphljlooopcdaaW.PrintLast Go.Proofs.YtmphljlooopcdaaW.PrintMore
attribute [local go_sem] max2_int min2_int max_two min_two max_three min_three max_four min_four   -- for this text's walks alone
set_option linter.unusedVariables false
set_option linter.unusedSimpArgs false

/-! ### ossuarylaw0_SpoilTexts: function 13 -/
def ossuarylaw0_SpoilTexts.l0 : Nat → List ByteArray → Int → Option (List ByteArray)
  | 0, _, _ => none
  | k + 1, x0, x2 => if x2 < (x0.length : Int) then (if 0 ≤ x2 then (if 1 + (rdOf ByteArray.empty x0 x2).size ≤ 9223372036854775807 then (ossuarylaw0_SpoilTexts.l0 k (x0.set (x2 : Int).toNat ((⟨#[126]⟩ : ByteArray) ++ (rdOf ByteArray.empty x0 x2))) (wrap64 (x2 + 1))) else (none)) else (none)) else (some x0)
def ossuarylaw0_SpoilTexts.f (k : Nat) (l0 : List ByteArray) : Option (List ByteArray) := ossuarylaw0_SpoilTexts.l0 k l0 0
theorem ossuarylaw0_SpoilTexts.mono_l : ∀ k, (∀ y0 y1, LeO (ossuarylaw0_SpoilTexts.l0 k y0 y1) (ossuarylaw0_SpoilTexts.l0 (k + 1) y0 y1))
  | 0 => fun _ _ r h => by simp [ossuarylaw0_SpoilTexts.l0] at h
  | k + 1 => by
    have ih0 := ossuarylaw0_SpoilTexts.mono_l k
    · intro y0 y1
      unfold ossuarylaw0_SpoilTexts.l0
      repeat' first
      | (with_reducible exact ih0 _ _)
      | (with_reducible exact LeO.refl _)
      | (with_reducible exact LeO.none _)
      | (with_reducible refine LeO.ite ?_ ?_)
      | (with_reducible refine LeO.bind ?_ (fun _ => ?_))
      | exact ih0 _ _
      | exact LeO.none _
      | refine LeO.ite ?_ ?_
      | refine LeO.bind ?_ (fun _ => ?_)
theorem ossuarylaw0_SpoilTexts.mono : ∀ a0 k, LeO (ossuarylaw0_SpoilTexts.f k a0) (ossuarylaw0_SpoilTexts.f (k + 1) a0) := by
  intro a0 k
  have ih0 := ossuarylaw0_SpoilTexts.mono_l k
  unfold ossuarylaw0_SpoilTexts.f
  repeat' first
      | (with_reducible exact ih0 _ _)
      | (with_reducible exact LeO.refl _)
      | (with_reducible exact LeO.none _)
      | (with_reducible refine LeO.ite ?_ ?_)
      | (with_reducible refine LeO.bind ?_ (fun _ => ?_))
      | exact ih0 _ _
      | exact LeO.none _
      | refine LeO.ite ?_ ?_
      | refine LeO.bind ?_ (fun _ => ?_)
set_option maxHeartbeats 8000000 in
set_option maxRecDepth 100000 in
theorem ossuarylaw0_SpoilTexts.calls (k : Nat) (P0_ : Nat → Prop) (u9000_ : Value) (l0 : List ByteArray) (r : List ByteArray) (w0 w : World) (hB : Below w0.heap.size w0 w) (ho0 : Kd.R Kd.string 9 w w0.heap.size P0_ u9000_ l0) (h : ossuarylaw0_SpoilTexts.f k l0 = some r) :
    Calls Try.prog 13 #[u9000_] w fun e w' => e = .returned (.tuple #[]) ∧ Kd.R Kd.string 9 w' w0.heap.size (fun k_ => (P0_ k_ ∨ w.heap.size ≤ k_)) u9000_ r ∧ Below w0.heap.size w0 w' ∧ Kept w w' (fun k_ => P0_ k_) := by
  have HO0 := Aside0.mk (show Kd.R Kd.string 9 w w0.heap.size (fun k_ => (P0_ k_ ∨ w.heap.size ≤ k_)) u9000_ l0 from Kd.R_mono ho0 (fun k_ hk => (.inl hk)))
  have HK := Aside0.mk (Kept.refl w (fun k_ => P0_ k_))
  have HW0 := Aside0.mk hB.size
  have HB := Aside0.mk hB
  clear hB
  have H : (ossuarylaw0_SpoilTexts.l0 k l0 0) = some r := h
  clear h
  have H' := Aside0.mk H
  clear H
  go_enter Try.func13, Try.ntmps13
  go_wp2
  go_loopg [2] k (fun kq v2 w' => ∃ (x0_1 : List ByteArray) (x2_1 : Int), v2 = .int .i64 x2_1 ∧ Aside0 (ossuarylaw0_SpoilTexts.l0 kq x0_1 x2_1 = some r) ∧ Aside0 (kq ≤ k) ∧ Aside0 (Kd.R Kd.string 9 w' w0.heap.size (fun k_ => (P0_ k_ ∨ w.heap.size ≤ k_)) u9000_ x0_1) ∧ Aside0 (Kept w w' (fun k_ => P0_ k_)) ∧ Aside0 (Below w0.heap.size w0 w'))
  case atStart => exact ⟨(l0), (0), (by first | rfl | (simp; done) | (simp [*]; done)), H', ⟨Nat.le_refl _⟩, ⟨by (with_reducible repeat (first | apply Kd.R_alloc | apply Kd.R_drewN | apply Kd.R_drew)); exact HO0.out⟩, ⟨by repeat (first | (with_reducible first | exact HK.out | apply Kept.alloc | apply Kept.drewN | apply Kept.drew) | exact HK.out)⟩, ⟨by repeat (first | (with_reducible first | exact HB.out | apply below_alloc | apply pw_below_drewN | apply below_drew1) | exact HB.out)⟩⟩
  case round =>
    clear H'
    try clear c1
    obtain ⟨x0_1, x2_1, rfl, HA, HK1, HO_0, HK, HB⟩ := hrel
    cases gk with
    | zero => exact absurd HA.out (by simp [ossuarylaw0_SpoilTexts.l0])
    | succ k1 =>
      have H := HA.out
      clear HA
      simp only [ossuarylaw0_SpoilTexts.l0] at H
      by_cases c2 : x2_1 < (x0_1.length : Int)
      · rw [if_pos c2] at H
        have c2b0 : decide (x2_1 < (x0_1.length : Int)) = true := decide_eq_true c2
        clear c2
        by_cases c3 : 0 ≤ x2_1
        · rw [if_pos c3] at H
          have c3b0 : decide (0 ≤ x2_1) = true := decide_eq_true c3
          clear c3
          by_cases c4 : 1 + (rdOf ByteArray.empty x0_1 x2_1).size ≤ 9223372036854775807
          · rw [if_pos c4] at H
            have c4b0 := eq_true c4
            have c4b1 : decide (1 + (rdOf ByteArray.empty x0_1 x2_1).size ≤ 9223372036854775807) = true := decide_eq_true c4
            try have c4b2 : (9223372036854775807 < 1 + (rdOf ByteArray.empty x0_1 x2_1).size) = False := eq_false (Nat.not_lt.2 c4)
            obtain ⟨y162, hy162⟩ : ∃ y_ : List ByteArray, y_ = (x0_1.set (x2_1 : Int).toNat ((⟨#[126]⟩ : ByteArray) ++ (rdOf ByteArray.empty x0_1 x2_1))) := ⟨_, rfl⟩
            replace H : (ossuarylaw0_SpoilTexts.l0 k1 y162 (wrap64 (x2_1 + 1))) = some r := by first | (rw [hy162]; with_reducible exact H) | (have H2_ := (Option.bind_some _ _).symm.trans H; rw [hy162]; with_reducible exact H2_) | (have H2_ := (Option.bind_some _ _).symm.trans H; with_reducible exact H2_) | with_reducible exact H | (rw [hy162]; exact H) | exact H
            have Ny162 := Aside0.mk hy162
            clear hy162
            have H' := Aside0.mk H
            clear H
            obtain ⟨Ao6, co6, eo6⟩ := Kd.R_slice HO_0.out
            subst eo6
            have p161 : 0 ≤ (x2_1 : Int) := of_decide_eq_true (by first | (with_reducible assumption) | assumption)
            have q161 : x2_1 < (x0_1.length : Int) := of_decide_eq_true (by first | (with_reducible assumption) | assumption)
            obtain ⟨ad161, e161, hx161_0⟩ := Kd.at_string (Kd.R_reads' HO_0.out).2.2 x2_1 p161 q161
            cases e161
            replace p161 := eq_true p161
            replace q161 := eq_true q161
            have p5 : 0 ≤ (x2_1 : Int) := of_decide_eq_true (by first | (with_reducible assumption) | assumption)
            have q5 : (x2_1 : Int) < ((x0_1.length : Int) : Int) := of_decide_eq_true (by first | (with_reducible assumption) | assumption)
            obtain ⟨go5, co5, eo5, gb5, gl5, cl5, HG5⟩ := Kd.R_form HO_0.out (by omega)
            (first | cases eo5 | (injection eo5 with ea_ en_ ec_; (first | subst ea_ | (injection ea_ with ea_; subst ea_)); subst ec_; clear en_))
            have GB5 := Aside0.mk gb5
            have GG5 := Aside0.mk HG5
            clear gb5 gl5 HG5
            have HMgo5 := Aside0.mk (show (P0_ go5 ∨ w.heap.size ≤ go5) from (HO_0.out.1 _ rfl))
            (first | simp only [add_plain] at hx161_0 | skip)
            obtain ⟨hx5_0, hf5_0⟩ := Kd.R_celln (⟨#[]⟩ : ByteArray) HO_0.out (x2_1 : Int) p5 q5
            replace p5 := eq_true p5
            replace q5 := eq_true q5
            have HP7 := Kd.R_putg HO_0.out (x2_1 : Int) ((⟨#[126]⟩ : ByteArray) ++ (rdOf ByteArray.empty x0_1 x2_1))
            go_wp2_with (first | ((with_reducible refine gate_store (t := 9) (p := 16) rfl ?_); refine store_event (t := 9) (p := 16) (v := ?vo_w8) (w1 := (wr.setCell ⟨go5, (x2_1 : Int).toNat, none⟩ (.string ((⟨#[126]⟩ : ByteArray) ++ (rdOf ByteArray.empty x0_1 x2_1))))) ?hg ?ho ?hn ?hr ?_; (case ho => rfl); (case hg => rfl); (case hn => rfl); (case hr => first | (go_simp; done) | (go_simp; rfl)); intro w8 hw; have hg : wr.grownBy w8 (some go5) := (by rw [hw]; exact HP7.2); have hp_ : Kd.R Kd.string 9 w8 w0.heap.size (fun k_ => (P0_ k_ ∨ w.heap.size ≤ k_)) (.slice (some ⟨go5, 0, none⟩) x0_1.length co6) y162 := (by rw [hw, Ny162.out]; exact HP7.1); clear HP7; have n0_ := Aside0.mk (hp_); have n1_ := Aside0.mk ((by rw [hw]; exact below_set (HB.out) GB5.out : Below w0.heap.size w0 w8)); have n2_ := Aside0.mk (Kept.of_grown (S := (fun k_ => P0_ k_)) hg (by repeat (first | (with_reducible first | exact HK.out | apply Kept.alloc | apply Kept.drewN | apply Kept.drew) | exact HK.out)) (fun k_ e_ => (HO_0.out.1 k_ e_))); clear HO_0; clear HB; clear HK; have HO_0 := n0_; have HB := n1_; have HK := n2_; clear n0_ n1_ n2_; clear hg hw hp_))
            go_roundg k1
            case measure => have := HK1.out; omega
            case rel => exact ⟨(y162), (wrap64 (x2_1 + 1)), (by first | rfl | (simp; done) | (simp [*]; done)), H', ⟨by have := HK1.out; omega⟩, ⟨by (with_reducible repeat (first | apply Kd.R_alloc | apply Kd.R_drewN | apply Kd.R_drew)); exact HO_0.out⟩, ⟨by repeat (first | (with_reducible first | exact HK.out | apply Kept.alloc | apply Kept.drewN | apply Kept.drew) | exact HK.out)⟩, ⟨by repeat (first | (with_reducible first | exact HB.out | apply below_alloc | apply pw_below_drewN | apply below_drew1) | exact HB.out)⟩⟩
          · rw [if_neg c4] at H
            exact absurd H (by simp)
        · rw [if_neg c3] at H
          exact absurd H (by simp)
      · rw [if_neg c2] at H
        have c2b0 : decide (x2_1 < (x0_1.length : Int)) = false := decide_eq_false c2
        clear c2
        obtain rfl := Option.some.inj H
        obtain ⟨Ao9, co9, eo9⟩ := Kd.R_slice HO_0.out
        subst eo9
        go_wp2
        first | go_end0 | ((try simp only [Exit.inBlock, Exit.then]); refine bodyPost_ret (results_none rfl _ _ _) rfl ?_)
        exact ⟨by first | rfl | (simp [errW_none, errW_some] <;> rfl) | (simp [*, errW_none, errW_some] <;> rfl), by (with_reducible repeat (first | apply Kd.R_alloc | apply Kd.R_drewN | apply Kd.R_drew)); exact HO_0.out, by repeat (first | (with_reducible first | exact HB.out | apply below_alloc | apply pw_below_drewN | apply below_drew1) | exact HB.out), by repeat (first | (with_reducible first | exact HK.out | apply Kept.alloc | apply Kept.drewN | apply Kept.drew) | exact HK.out)⟩

/-! ### ossuarylaw15_long: function 15 -/
def ossuarylaw15_long.l0 : Nat → Int → Int → List Int → Int → Option (ByteArray)
  | 0, _, _, _, _ => none
  | k + 1, x0, x1, x5, x6 => if x6 < x0 then (if 0 ≤ x6 then (if x6 < (x5.length : Int) then (ossuarylaw15_long.l0 k x0 x1 (x5.set (x6 : Int).toNat ((x1 + ((Int.tmod x6 7) % 256)) % 256)) (wrap64 (x6 + 1))) else (none)) else (none)) else (some (strOfNums x5))
def ossuarylaw15_long.f (k : Nat) (a0 : Int) (a1 : Int) : Option (ByteArray) := if 0 ≤ a0 then (if (a0 : Int).toNat ≤ 281474976710656 then (ossuarylaw15_long.l0 k a0 a1 (List.replicate (a0 : Int).toNat 0) 0) else (none)) else (none)
theorem ossuarylaw15_long.mono_l : ∀ k, (∀ y0 y1 y2 y3, LeO (ossuarylaw15_long.l0 k y0 y1 y2 y3) (ossuarylaw15_long.l0 (k + 1) y0 y1 y2 y3))
  | 0 => fun _ _ _ _ r h => by simp [ossuarylaw15_long.l0] at h
  | k + 1 => by
    have ih0 := ossuarylaw15_long.mono_l k
    · intro y0 y1 y2 y3
      unfold ossuarylaw15_long.l0
      repeat' first
      | (with_reducible exact ih0 _ _ _ _)
      | (with_reducible exact LeO.refl _)
      | (with_reducible exact LeO.none _)
      | (with_reducible refine LeO.ite ?_ ?_)
      | (with_reducible refine LeO.bind ?_ (fun _ => ?_))
      | exact ih0 _ _ _ _
      | exact LeO.none _
      | refine LeO.ite ?_ ?_
      | refine LeO.bind ?_ (fun _ => ?_)
theorem ossuarylaw15_long.mono : ∀ a0 a1 k, LeO (ossuarylaw15_long.f k a0 a1) (ossuarylaw15_long.f (k + 1) a0 a1) := by
  intro a0 a1 k
  have ih0 := ossuarylaw15_long.mono_l k
  unfold ossuarylaw15_long.f
  repeat' first
      | (with_reducible exact ih0 _ _ _ _)
      | (with_reducible exact LeO.refl _)
      | (with_reducible exact LeO.none _)
      | (with_reducible refine LeO.ite ?_ ?_)
      | (with_reducible refine LeO.bind ?_ (fun _ => ?_))
      | exact ih0 _ _ _ _
      | exact LeO.none _
      | refine LeO.ite ?_ ?_
      | refine LeO.bind ?_ (fun _ => ?_)
set_option maxHeartbeats 8000000 in
set_option maxRecDepth 100000 in
theorem ossuarylaw15_long.calls (k : Nat) (a0 : Int) (a1 : Int) (r : ByteArray) (w : World) (h : ossuarylaw15_long.f k a0 a1 = some r) :
    Calls Try.prog 15 #[.int .i64 a0, .int .u8 a1] w fun e w' => e = .returned (.string r) ∧ Below w.heap.size w w' := by
  have HB := Aside0.mk (Below.refl w.heap.size w)
  have H : (if 0 ≤ a0 then (if (a0 : Int).toNat ≤ 281474976710656 then (ossuarylaw15_long.l0 k a0 a1 (List.replicate (a0 : Int).toNat 0) 0) else (none)) else (none)) = some r := h
  clear h
  by_cases c3 : 0 ≤ a0
  · rw [if_pos c3] at H
    have c3b0 := eq_true c3
    have c3b1 : decide (0 ≤ a0) = true := decide_eq_true c3
    clear c3
    by_cases c4 : (a0 : Int).toNat ≤ 281474976710656
    · rw [if_pos c4] at H
      have c4b0 := eq_true c4
      have c4b1 : decide ((a0 : Int).toNat ≤ 281474976710656) = true := decide_eq_true c4
      clear c4
      obtain ⟨y163, hy163⟩ : ∃ y_ : List Int, y_ = (List.replicate (a0 : Int).toNat 0) := ⟨_, rfl⟩
      replace H : (ossuarylaw15_long.l0 k a0 a1 y163 0) = some r := by first | (rw [hy163]; with_reducible exact H) | (have H2_ := (Option.bind_some _ _).symm.trans H; rw [hy163]; with_reducible exact H2_) | (have H2_ := (Option.bind_some _ _).symm.trans H; with_reducible exact H2_) | with_reducible exact H | (rw [hy163]; exact H) | exact H
      have Ny163 := Aside0.mk hy163
      clear hy163
      have H' := Aside0.mk H
      clear H
      go_enter Try.func15, Try.ntmps15
      go_wp2_with (first | ((with_reducible refine gate_dst (N := 8) rfl ?_); refine Kd.R_make (Kd.int .u8) _ 5 rfl (N := 8) rfl 39 _ _ rfl a0 rfl rfl Try.underlying39 (.int .u8 0) 1 info5 rfl (by decide) (by omega) 0 (ok := fun _ => True) (okp := fun _ => True) rfl (fun _ hk => hk) trivial (of_decide_eq_true (by first | (with_reducible assumption) | assumption)) (Nat.le_trans (Nat.mul_le_mul_right _ (of_decide_eq_true (by first | (with_reducible assumption) | assumption) : a0.toNat ≤ 281474976710656)) (by omega)) (Below.refl _ _) (Nat.le_refl _) ?_; intro v164 w5 ho6 hb hg_ hnew_; clear hg_ hnew_; (first | rw [← Ny163.out] at ho6 | (simp only [Int.reduceToNat] at ho6; rw [← Ny163.out] at ho6)); have n0_ := Aside0.mk (Kd.R_lower ho6 (below_size (by repeat (first | (with_reducible first | exact HB.out | apply below_alloc | apply pw_below_drewN | apply below_drew1) | exact HB.out)))); have n1_ := Aside0.mk (below_step (by repeat (first | (with_reducible first | exact HB.out | apply below_alloc | apply pw_below_drewN | apply below_drew1) | exact HB.out)) hb); clear HB; have HO165 := n0_; have HB := n1_; clear n0_ n1_; clear hb ho6))
      go_loopg [6] k (fun kq v6 w' => ∃ (x5_1 : List Int) (x6_1 : Int), v6 = .int .i64 x6_1 ∧ Aside0 (ossuarylaw15_long.l0 kq a0 a1 x5_1 x6_1 = some r) ∧ Aside0 (kq ≤ k) ∧ Aside0 (Kd.R (Kd.int .u8) 5 w' w.heap.size (fun _ => True) v164 x5_1) ∧ Aside0 (Below w.heap.size w w'))
      case atStart => exact ⟨(y163), (0), (by first | rfl | (simp; done) | (simp [*]; done)), H', ⟨Nat.le_refl _⟩, ⟨by (with_reducible repeat (first | apply Kd.R_alloc | apply Kd.R_drewN | apply Kd.R_drew)); exact HO165.out⟩, ⟨by repeat (first | (with_reducible first | exact HB.out | apply below_alloc | apply pw_below_drewN | apply below_drew1) | exact HB.out)⟩⟩
      case round =>
        clear H'
        try clear c1
        try clear p2
        try clear c3
        try clear c3b0
        try clear c3b1
        try clear c4
        try clear c4b0
        try clear c4b1
        obtain ⟨x5_1, x6_1, rfl, HA, HK1, HO_5, HB⟩ := hrel
        cases gk with
        | zero => exact absurd HA.out (by simp [ossuarylaw15_long.l0])
        | succ k1 =>
          have H := HA.out
          clear HA
          simp only [ossuarylaw15_long.l0] at H
          by_cases c7 : x6_1 < a0
          · rw [if_pos c7] at H
            have c7b0 : decide (x6_1 < a0) = true := decide_eq_true c7
            clear c7
            by_cases c8 : 0 ≤ x6_1
            · rw [if_pos c8] at H
              have c8b0 : decide (0 ≤ x6_1) = true := decide_eq_true c8
              clear c8
              by_cases c9 : x6_1 < (x5_1.length : Int)
              · rw [if_pos c9] at H
                have c9b0 : decide (x6_1 < (x5_1.length : Int)) = true := decide_eq_true c9
                clear c9
                obtain ⟨y166, hy166⟩ : ∃ y_ : List Int, y_ = (x5_1.set (x6_1 : Int).toNat ((a1 + ((Int.tmod x6_1 7) % 256)) % 256)) := ⟨_, rfl⟩
                replace H : (ossuarylaw15_long.l0 k1 a0 a1 y166 (wrap64 (x6_1 + 1))) = some r := by first | (rw [hy166]; with_reducible exact H) | (have H2_ := (Option.bind_some _ _).symm.trans H; rw [hy166]; with_reducible exact H2_) | (have H2_ := (Option.bind_some _ _).symm.trans H; with_reducible exact H2_) | with_reducible exact H | (rw [hy166]; exact H) | exact H
                have Ny166 := Aside0.mk hy166
                clear hy166
                have H' := Aside0.mk H
                clear H
                have p10 : 0 ≤ (x6_1 : Int) := of_decide_eq_true (by first | (with_reducible assumption) | assumption)
                have q10 : (x6_1 : Int) < ((x5_1.length : Int) : Int) := of_decide_eq_true (by first | (with_reducible assumption) | assumption)
                obtain ⟨go10, co10, eo10, gb10, gl10, cl10, HG10⟩ := Kd.R_form HO_5.out (by omega)
                (first | cases eo10 | (injection eo10 with ea_ en_ ec_; (first | subst ea_ | (injection ea_ with ea_; subst ea_)); subst ec_; clear en_))
                have GB10 := Aside0.mk gb10
                have GG10 := Aside0.mk HG10
                clear gb10 gl10 HG10
                obtain ⟨hx10_0, hf10_0⟩ := Kd.R_celln 0 HO_5.out (x6_1 : Int) p10 q10
                replace p10 := eq_true p10
                replace q10 := eq_true q10
                have HP11 := Kd.R_putg HO_5.out (x6_1 : Int) ((a1 + ((Int.tmod x6_1 7) % 256)) % 256)
                go_wp2_with (first | ((with_reducible refine gate_store (t := 5) (p := 21) rfl ?_); refine store_event (t := 5) (p := 21) (v := ?vo_w12) (w1 := (wr.setCell ⟨go10, (x6_1 : Int).toNat, none⟩ (.int .u8 ((a1 + ((Int.tmod x6_1 7) % 256)) % 256)))) ?hg ?ho ?hn ?hr ?_; (case ho => rfl); (case hg => rfl); (case hn => rfl); (case hr => first | (go_simp; done) | (go_simp; rfl)); intro w12 hw; have hg : wr.grownBy w12 (some go10) := (by rw [hw]; exact HP11.2); have hp_ : Kd.R (Kd.int .u8) 5 w12 w.heap.size (fun _ => True) (.slice (some ⟨go10, 0, none⟩) x5_1.length co10) y166 := (by rw [hw, Ny166.out]; exact HP11.1); clear HP11; have n0_ := Aside0.mk (hp_); have n1_ := Aside0.mk ((by rw [hw]; exact below_set (HB.out) GB10.out : Below w.heap.size w w12)); clear HO_5; clear HB; have HO_5 := n0_; have HB := n1_; clear n0_ n1_; clear hg hw hp_))
                go_roundg k1
                case measure => have := HK1.out; omega
                case rel => exact ⟨(y166), (wrap64 (x6_1 + 1)), (by first | rfl | (simp; done) | (simp [*]; done)), H', ⟨by have := HK1.out; omega⟩, ⟨by (with_reducible repeat (first | apply Kd.R_alloc | apply Kd.R_drewN | apply Kd.R_drew)); exact HO_5.out⟩, ⟨by repeat (first | (with_reducible first | exact HB.out | apply below_alloc | apply pw_below_drewN | apply below_drew1) | exact HB.out)⟩⟩
              · rw [if_neg c9] at H
                exact absurd H (by simp)
            · rw [if_neg c8] at H
              exact absurd H (by simp)
          · rw [if_neg c7] at H
            have c7b0 : decide (x6_1 < a0) = false := decide_eq_false c7
            clear c7
            obtain rfl := Option.some.inj H
            have hcv13 := own_string (P := Try.prog) Try.underlying39 Try.underlying5 Try.underlying9 (Kd.own_of_R HO_5.out)
            go_wp2
            go_ret
            exact ⟨by first | rfl | (simp [errW_none, errW_some] <;> rfl) | (simp [*, errW_none, errW_some] <;> rfl), by repeat (first | (with_reducible first | exact HB.out | apply below_alloc | apply pw_below_drewN | apply below_drew1) | exact HB.out)⟩
    · rw [if_neg c4] at H
      exact absurd H (by simp)
  · rw [if_neg c3] at H
    exact absurd H (by simp)

/-! ### ossuarylaw15_awake: function 14 -/
def ossuarylaw15_awake.f (k : Nat)  : Option (Bool) := (area_Put.f k 7 (⟨#[97, 98, 99]⟩ : ByteArray)).bind fun bt167 => ((area_Get.f k bt167.1).bind fun bt171 => (if 0 ≤ (mn (bt167.1.length : Int) 3) then (if (mn (bt167.1.length : Int) 3) ≤ (bt167.1.length : Int) then ((area_Get.f k (bt167.1.take ((mn (bt167.1.length : Int) 3) : Int).toNat)).bind fun bt178 => ((ossuarylaw15_long.f k 1249 97).bind fun t181 => ((area_Put.f k 7 t181).bind fun bt182 => (if (bt167.1.length : Int) = 24 then ((ossuarylaw0_Num.f bt167.2).bind fun t186 => (if t186 = 0 then (if 0 < (bt167.1.length : Int) then (if ((rdOf ByteArray.empty bt167.1 0).size : Int) = 64 then (if 0 ≤ 8 then (if 8 ≤ ((rdOf ByteArray.empty bt167.1 0).size : Int) then (if ((rdOf ByteArray.empty bt167.1 0).extract 0 8).toList = ([77, 0, 3, 0, 7, 0, 0, 0] : List UInt8) then (if bt171.1 = 7 then (if bt171.2.1.toList = ([97, 98, 99] : List UInt8) then ((ossuarylaw0_Num.f bt171.2.2).bind fun t189 => (if t189 = 0 then ((ossuarylaw0_Num.f bt178.2.2).bind fun t190 => (if t190 = 1500 then ((ossuarylaw0_Num.f bt182.2).bind fun t191 => (some (t191 == 1500))) else (some false))) else (some false))) else (some false)) else (some false)) else (some false)) else (none)) else (none)) else (some false)) else (none)) else (some false))) else (some false))))) else (none)) else (none)))
theorem ossuarylaw15_awake.mono : ∀ k, LeO (ossuarylaw15_awake.f k ) (ossuarylaw15_awake.f (k + 1) ) := by
  intro  k
  unfold ossuarylaw15_awake.f
  repeat' first
      | (with_reducible exact area_Get.mono _ _)
      | (with_reducible exact area_Put.mono _ _ _)
      | (with_reducible exact ossuarylaw15_long.mono _ _ _)
      | (with_reducible exact LeO.refl _)
      | (with_reducible exact LeO.none _)
      | (with_reducible refine LeO.ite ?_ ?_)
      | (with_reducible refine LeO.bind ?_ (fun _ => ?_))
      | exact area_Get.mono _ _
      | exact area_Put.mono _ _ _
      | exact ossuarylaw15_long.mono _ _ _
      | exact LeO.none _
      | refine LeO.ite ?_ ?_
      | refine LeO.bind ?_ (fun _ => ?_)
set_option maxHeartbeats 8000000 in
set_option maxRecDepth 100000 in
theorem ossuarylaw15_awake.calls (k : Nat)  (r : Bool) (w : World) (h : ossuarylaw15_awake.f k  = some r) (hr_ : r = true := by rfl) :
    Calls Try.prog 14 #[] w fun e w' => e = .returned (.bool r) ∧ Below w.heap.size w w' := by
  have HRT := Aside0.mk hr_
  clear hr_
  have HB := Aside0.mk (Below.refl w.heap.size w)
  have H : ((area_Put.f k 7 (⟨#[97, 98, 99]⟩ : ByteArray)).bind fun bt167 => ((area_Get.f k bt167.1).bind fun bt171 => (if 0 ≤ (mn (bt167.1.length : Int) 3) then (if (mn (bt167.1.length : Int) 3) ≤ (bt167.1.length : Int) then ((area_Get.f k (bt167.1.take ((mn (bt167.1.length : Int) 3) : Int).toNat)).bind fun bt178 => ((ossuarylaw15_long.f k 1249 97).bind fun t181 => ((area_Put.f k 7 t181).bind fun bt182 => (if (bt167.1.length : Int) = 24 then ((ossuarylaw0_Num.f bt167.2).bind fun t186 => (if t186 = 0 then (if 0 < (bt167.1.length : Int) then (if ((rdOf ByteArray.empty bt167.1 0).size : Int) = 64 then (if 0 ≤ 8 then (if 8 ≤ ((rdOf ByteArray.empty bt167.1 0).size : Int) then (if ((rdOf ByteArray.empty bt167.1 0).extract 0 8).toList = ([77, 0, 3, 0, 7, 0, 0, 0] : List UInt8) then (if bt171.1 = 7 then (if bt171.2.1.toList = ([97, 98, 99] : List UInt8) then ((ossuarylaw0_Num.f bt171.2.2).bind fun t189 => (if t189 = 0 then ((ossuarylaw0_Num.f bt178.2.2).bind fun t190 => (if t190 = 1500 then ((ossuarylaw0_Num.f bt182.2).bind fun t191 => (some (t191 == 1500))) else (some false))) else (some false))) else (some false)) else (some false)) else (some false)) else (none)) else (none)) else (some false)) else (none)) else (some false))) else (some false))))) else (none)) else (none)))) = some r := h
  clear h
  replace H := Option.bind_eq_some_iff.mp H
  obtain ⟨⟨t167, t168⟩, A10, H⟩ := H
  replace H : ((area_Get.f k t167).bind fun bt171 => (if 0 ≤ (mn (t167.length : Int) 3) then (if (mn (t167.length : Int) 3) ≤ (t167.length : Int) then ((area_Get.f k (t167.take ((mn (t167.length : Int) 3) : Int).toNat)).bind fun bt178 => ((ossuarylaw15_long.f k 1249 97).bind fun t181 => ((area_Put.f k 7 t181).bind fun bt182 => (if (t167.length : Int) = 24 then ((ossuarylaw0_Num.f t168).bind fun t186 => (if t186 = 0 then (if 0 < (t167.length : Int) then (if ((rdOf ByteArray.empty t167 0).size : Int) = 64 then (if 0 ≤ 8 then (if 8 ≤ ((rdOf ByteArray.empty t167 0).size : Int) then (if ((rdOf ByteArray.empty t167 0).extract 0 8).toList = ([77, 0, 3, 0, 7, 0, 0, 0] : List UInt8) then (if bt171.1 = 7 then (if bt171.2.1.toList = ([97, 98, 99] : List UInt8) then ((ossuarylaw0_Num.f bt171.2.2).bind fun t189 => (if t189 = 0 then ((ossuarylaw0_Num.f bt178.2.2).bind fun t190 => (if t190 = 1500 then ((ossuarylaw0_Num.f bt182.2).bind fun t191 => (some (t191 == 1500))) else (some false))) else (some false))) else (some false)) else (some false)) else (some false)) else (none)) else (none)) else (some false)) else (none)) else (some false))) else (some false))))) else (none)) else (none))) = some r := H
  have A1 := Aside0.mk A10
  clear A10
  replace H := Option.bind_eq_some_iff.mp H
  obtain ⟨⟨t171, t172, t173⟩, A20, H⟩ := H
  replace H : (if 0 ≤ (mn (t167.length : Int) 3) then (if (mn (t167.length : Int) 3) ≤ (t167.length : Int) then ((area_Get.f k (t167.take ((mn (t167.length : Int) 3) : Int).toNat)).bind fun bt178 => ((ossuarylaw15_long.f k 1249 97).bind fun t181 => ((area_Put.f k 7 t181).bind fun bt182 => (if (t167.length : Int) = 24 then ((ossuarylaw0_Num.f t168).bind fun t186 => (if t186 = 0 then (if 0 < (t167.length : Int) then (if ((rdOf ByteArray.empty t167 0).size : Int) = 64 then (if 0 ≤ 8 then (if 8 ≤ ((rdOf ByteArray.empty t167 0).size : Int) then (if ((rdOf ByteArray.empty t167 0).extract 0 8).toList = ([77, 0, 3, 0, 7, 0, 0, 0] : List UInt8) then (if t171 = 7 then (if t172.toList = ([97, 98, 99] : List UInt8) then ((ossuarylaw0_Num.f t173).bind fun t189 => (if t189 = 0 then ((ossuarylaw0_Num.f bt178.2.2).bind fun t190 => (if t190 = 1500 then ((ossuarylaw0_Num.f bt182.2).bind fun t191 => (some (t191 == 1500))) else (some false))) else (some false))) else (some false)) else (some false)) else (some false)) else (none)) else (none)) else (some false)) else (none)) else (some false))) else (some false))))) else (none)) else (none)) = some r := H
  have A2 := Aside0.mk A20
  clear A20
  obtain ⟨ji3, hji3⟩ : ∃ j_ : Int, (mn (t167.length : Int) 3) = j_ := ⟨_, rfl⟩
  replace H : (if 0 ≤ (ji3) then (if (ji3) ≤ (t167.length : Int) then ((area_Get.f k (t167.take ((ji3) : Int).toNat)).bind fun bt178 => ((ossuarylaw15_long.f k 1249 97).bind fun t181 => ((area_Put.f k 7 t181).bind fun bt182 => (if (t167.length : Int) = 24 then ((ossuarylaw0_Num.f t168).bind fun t186 => (if t186 = 0 then (if 0 < (t167.length : Int) then (if ((rdOf ByteArray.empty t167 0).size : Int) = 64 then (if 0 ≤ 8 then (if 8 ≤ ((rdOf ByteArray.empty t167 0).size : Int) then (if ((rdOf ByteArray.empty t167 0).extract 0 8).toList = ([77, 0, 3, 0, 7, 0, 0, 0] : List UInt8) then (if t171 = 7 then (if t172.toList = ([97, 98, 99] : List UInt8) then ((ossuarylaw0_Num.f t173).bind fun t189 => (if t189 = 0 then ((ossuarylaw0_Num.f bt178.2.2).bind fun t190 => (if t190 = 1500 then ((ossuarylaw0_Num.f bt182.2).bind fun t191 => (some (t191 == 1500))) else (some false))) else (some false))) else (some false)) else (some false)) else (some false)) else (none)) else (none)) else (some false)) else (none)) else (some false))) else (some false))))) else (none)) else (none)) = some r := by first | (rw [hji3] at H; exact H) | (simp only [hji3] at H ⊢; exact H)
  (try rw [hji3] at A1)
  (try rw [hji3] at A2)
  (try (have hji3h : ji3 ≤ 3 := by (rw [← hji3]; unfold mn; (repeat' split) <;> omega)))
  (try (have hji3g : ji3 ≤ 64 := by omega))
  (try (have hji3l : 0 ≤ ji3 := by (rw [← hji3]; unfold mn; (repeat' split) <;> omega)))
  (try (have hji3m : 0 ≤ ji3 := by omega))
  have hji3_ : (if 3 < (t167.length : Int) then 3 else (t167.length : Int)) = ji3 := hji3
  by_cases c4 : 0 ≤ (ji3)
  · rw [if_pos c4] at H
    have c4b0 := eq_true c4
    have c4b1 : decide (0 ≤ (ji3)) = true := decide_eq_true c4
    clear c4
    by_cases c5 : (ji3) ≤ (t167.length : Int)
    · rw [if_pos c5] at H
      have c5b0 := eq_true c5
      have c5b1 : decide ((ji3) ≤ (t167.length : Int)) = true := decide_eq_true c5
      clear c5
      obtain ⟨y174, hy174⟩ : ∃ y_ : List ByteArray, y_ = (t167.take ((ji3) : Int).toNat) := ⟨_, rfl⟩
      replace H : ((area_Get.f k y174).bind fun bt178 => ((ossuarylaw15_long.f k 1249 97).bind fun t181 => ((area_Put.f k 7 t181).bind fun bt182 => (if (t167.length : Int) = 24 then ((ossuarylaw0_Num.f t168).bind fun t186 => (if t186 = 0 then (if 0 < (t167.length : Int) then (if ((rdOf ByteArray.empty t167 0).size : Int) = 64 then (if 0 ≤ 8 then (if 8 ≤ ((rdOf ByteArray.empty t167 0).size : Int) then (if ((rdOf ByteArray.empty t167 0).extract 0 8).toList = ([77, 0, 3, 0, 7, 0, 0, 0] : List UInt8) then (if t171 = 7 then (if t172.toList = ([97, 98, 99] : List UInt8) then ((ossuarylaw0_Num.f t173).bind fun t189 => (if t189 = 0 then ((ossuarylaw0_Num.f bt178.2.2).bind fun t190 => (if t190 = 1500 then ((ossuarylaw0_Num.f bt182.2).bind fun t191 => (some (t191 == 1500))) else (some false))) else (some false))) else (some false)) else (some false)) else (some false)) else (none)) else (none)) else (some false)) else (none)) else (some false))) else (some false))))) = some r := by first | (rw [hy174]; with_reducible exact H) | (have H2_ := (Option.bind_some _ _).symm.trans H; rw [hy174]; with_reducible exact H2_) | (have H2_ := (Option.bind_some _ _).symm.trans H; with_reducible exact H2_) | with_reducible exact H | (rw [hy174]; exact H) | exact H
      have Ny174 := Aside0.mk hy174
      clear hy174
      replace H := Option.bind_eq_some_iff.mp H
      obtain ⟨⟨t178, t179, t180⟩, A60, H⟩ := H
      replace H : ((ossuarylaw15_long.f k 1249 97).bind fun t181 => ((area_Put.f k 7 t181).bind fun bt182 => (if (t167.length : Int) = 24 then ((ossuarylaw0_Num.f t168).bind fun t186 => (if t186 = 0 then (if 0 < (t167.length : Int) then (if ((rdOf ByteArray.empty t167 0).size : Int) = 64 then (if 0 ≤ 8 then (if 8 ≤ ((rdOf ByteArray.empty t167 0).size : Int) then (if ((rdOf ByteArray.empty t167 0).extract 0 8).toList = ([77, 0, 3, 0, 7, 0, 0, 0] : List UInt8) then (if t171 = 7 then (if t172.toList = ([97, 98, 99] : List UInt8) then ((ossuarylaw0_Num.f t173).bind fun t189 => (if t189 = 0 then ((ossuarylaw0_Num.f t180).bind fun t190 => (if t190 = 1500 then ((ossuarylaw0_Num.f bt182.2).bind fun t191 => (some (t191 == 1500))) else (some false))) else (some false))) else (some false)) else (some false)) else (some false)) else (none)) else (none)) else (some false)) else (none)) else (some false))) else (some false)))) = some r := H
      have A6 := Aside0.mk A60
      clear A60
      replace H := Option.bind_eq_some_iff.mp H
      obtain ⟨t181, A70, H⟩ := H
      replace H : ((area_Put.f k 7 t181).bind fun bt182 => (if (t167.length : Int) = 24 then ((ossuarylaw0_Num.f t168).bind fun t186 => (if t186 = 0 then (if 0 < (t167.length : Int) then (if ((rdOf ByteArray.empty t167 0).size : Int) = 64 then (if 0 ≤ 8 then (if 8 ≤ ((rdOf ByteArray.empty t167 0).size : Int) then (if ((rdOf ByteArray.empty t167 0).extract 0 8).toList = ([77, 0, 3, 0, 7, 0, 0, 0] : List UInt8) then (if t171 = 7 then (if t172.toList = ([97, 98, 99] : List UInt8) then ((ossuarylaw0_Num.f t173).bind fun t189 => (if t189 = 0 then ((ossuarylaw0_Num.f t180).bind fun t190 => (if t190 = 1500 then ((ossuarylaw0_Num.f bt182.2).bind fun t191 => (some (t191 == 1500))) else (some false))) else (some false))) else (some false)) else (some false)) else (some false)) else (none)) else (none)) else (some false)) else (none)) else (some false))) else (some false))) = some r := H
      have A7 := Aside0.mk A70
      clear A70
      replace H := Option.bind_eq_some_iff.mp H
      obtain ⟨⟨t182, t183⟩, A80, H⟩ := H
      replace H : (if (t167.length : Int) = 24 then ((ossuarylaw0_Num.f t168).bind fun t186 => (if t186 = 0 then (if 0 < (t167.length : Int) then (if ((rdOf ByteArray.empty t167 0).size : Int) = 64 then (if 0 ≤ 8 then (if 8 ≤ ((rdOf ByteArray.empty t167 0).size : Int) then (if ((rdOf ByteArray.empty t167 0).extract 0 8).toList = ([77, 0, 3, 0, 7, 0, 0, 0] : List UInt8) then (if t171 = 7 then (if t172.toList = ([97, 98, 99] : List UInt8) then ((ossuarylaw0_Num.f t173).bind fun t189 => (if t189 = 0 then ((ossuarylaw0_Num.f t180).bind fun t190 => (if t190 = 1500 then ((ossuarylaw0_Num.f t183).bind fun t191 => (some (t191 == 1500))) else (some false))) else (some false))) else (some false)) else (some false)) else (some false)) else (none)) else (none)) else (some false)) else (none)) else (some false))) else (some false)) = some r := H
      have A8 := Aside0.mk A80
      clear A80
      by_cases c9 : (t167.length : Int) = 24
      · rw [if_pos c9] at H
        have c9b0 : ((t167.length : Int) == 24) = true := beq_iff_eq.mpr c9
        have c9b1 : ((t167.length : Int) != 24) = false := bne_eq_false_iff_eq.mpr c9
        clear c9
        replace H := Option.bind_eq_some_iff.mp H
        obtain ⟨t186, A100, H⟩ := H
        replace H : (if t186 = 0 then (if 0 < (t167.length : Int) then (if ((rdOf ByteArray.empty t167 0).size : Int) = 64 then (if 0 ≤ 8 then (if 8 ≤ ((rdOf ByteArray.empty t167 0).size : Int) then (if ((rdOf ByteArray.empty t167 0).extract 0 8).toList = ([77, 0, 3, 0, 7, 0, 0, 0] : List UInt8) then (if t171 = 7 then (if t172.toList = ([97, 98, 99] : List UInt8) then ((ossuarylaw0_Num.f t173).bind fun t189 => (if t189 = 0 then ((ossuarylaw0_Num.f t180).bind fun t190 => (if t190 = 1500 then ((ossuarylaw0_Num.f t183).bind fun t191 => (some (t191 == 1500))) else (some false))) else (some false))) else (some false)) else (some false)) else (some false)) else (none)) else (none)) else (some false)) else (none)) else (some false)) = some r := H
        have A10 := Aside0.mk A100
        clear A100
        by_cases c11 : t186 = 0
        · rw [if_pos c11] at H
          have c11b0 : (t186 == 0) = true := beq_iff_eq.mpr c11
          have c11b1 : (t186 != 0) = false := bne_eq_false_iff_eq.mpr c11
          clear c11
          by_cases c12 : 0 < (t167.length : Int)
          · rw [if_pos c12] at H
            have c12b0 : decide (0 < (t167.length : Int)) = true := decide_eq_true c12
            have c12b1 : decide (0 < t167.length) = true := decide_eq_true (by omega)
            clear c12
            by_cases c13 : ((rdOf ByteArray.empty t167 0).size : Int) = 64
            · rw [if_pos c13] at H
              have c13b0 : (((rdOf ByteArray.empty t167 0).size : Int) == 64) = true := beq_iff_eq.mpr c13
              have c13b1 : (((rdOf ByteArray.empty t167 0).size : Int) != 64) = false := bne_eq_false_iff_eq.mpr c13
              clear c13
              by_cases c14 : 0 ≤ 8
              · rw [if_pos c14] at H
                have c14b0 := eq_true c14
                have c14b1 : decide (0 ≤ 8) = true := decide_eq_true c14
                clear c14
                by_cases c15 : 8 ≤ ((rdOf ByteArray.empty t167 0).size : Int)
                · rw [if_pos c15] at H
                  have c15b0 := eq_true c15
                  have c15b1 : decide (8 ≤ ((rdOf ByteArray.empty t167 0).size : Int)) = true := decide_eq_true c15
                  clear c15
                  by_cases c16 : ((rdOf ByteArray.empty t167 0).extract 0 8).toList = ([77, 0, 3, 0, 7, 0, 0, 0] : List UInt8)
                  · rw [if_pos c16] at H
                    have c16b0 : (((rdOf ByteArray.empty t167 0).extract 0 8).toList == ([77, 0, 3, 0, 7, 0, 0, 0] : List UInt8)) = true := beq_iff_eq.mpr c16
                    have c16b1 : (((rdOf ByteArray.empty t167 0).extract 0 8).toList != ([77, 0, 3, 0, 7, 0, 0, 0] : List UInt8)) = false := bne_eq_false_iff_eq.mpr c16
                    clear c16
                    by_cases c17 : t171 = 7
                    · rw [if_pos c17] at H
                      have c17b0 : (t171 == 7) = true := beq_iff_eq.mpr c17
                      have c17b1 : (t171 != 7) = false := bne_eq_false_iff_eq.mpr c17
                      clear c17
                      by_cases c18 : t172.toList = ([97, 98, 99] : List UInt8)
                      · rw [if_pos c18] at H
                        have c18b0 : (t172.toList == ([97, 98, 99] : List UInt8)) = true := beq_iff_eq.mpr c18
                        have c18b1 : (t172.toList != ([97, 98, 99] : List UInt8)) = false := bne_eq_false_iff_eq.mpr c18
                        clear c18
                        replace H := Option.bind_eq_some_iff.mp H
                        obtain ⟨t189, A190, H⟩ := H
                        replace H : (if t189 = 0 then ((ossuarylaw0_Num.f t180).bind fun t190 => (if t190 = 1500 then ((ossuarylaw0_Num.f t183).bind fun t191 => (some (t191 == 1500))) else (some false))) else (some false)) = some r := H
                        have A19 := Aside0.mk A190
                        clear A190
                        by_cases c20 : t189 = 0
                        · rw [if_pos c20] at H
                          have c20b0 : (t189 == 0) = true := beq_iff_eq.mpr c20
                          have c20b1 : (t189 != 0) = false := bne_eq_false_iff_eq.mpr c20
                          clear c20
                          replace H := Option.bind_eq_some_iff.mp H
                          obtain ⟨t190, A210, H⟩ := H
                          replace H : (if t190 = 1500 then ((ossuarylaw0_Num.f t183).bind fun t191 => (some (t191 == 1500))) else (some false)) = some r := H
                          have A21 := Aside0.mk A210
                          clear A210
                          by_cases c22 : t190 = 1500
                          · rw [if_pos c22] at H
                            have c22b0 : (t190 == 1500) = true := beq_iff_eq.mpr c22
                            have c22b1 : (t190 != 1500) = false := bne_eq_false_iff_eq.mpr c22
                            clear c22
                            replace H := Option.bind_eq_some_iff.mp H
                            obtain ⟨t191, A230, H⟩ := H
                            replace H : (some (t191 == 1500)) = some r := H
                            have A23 := Aside0.mk A230
                            clear A230
                            obtain rfl := Option.some.inj H
                            go_enter Try.func14, Try.ntmps14
                            go_wp2_with (first | ((with_reducible refine gate_callee (f := 7) rfl ?_); refine goesL_ (some 12) rfl rfl Try.func7 (by kernel_rfl) rfl #[.int .i64 7, .string (⟨#[97, 98, 99]⟩ : ByteArray)] rfl (by (try simp only [List.map_toArray, List.map_cons, List.map_nil]); first | done | rfl | (simp only [List.length_drop, List.length_take]; rfl)) ?_; (with_reducible refine (area_Put.calls k 7 (⟨#[97, 98, 99]⟩ : ByteArray) t167 t168 _ A1.out).mono ?_); rintro e w24 ⟨v169, rfl, ho0, hb⟩; refine ⟨_, rfl, ?_⟩; have n0_ := Aside0.mk (Kd.R_lower ho0 (below_size (by repeat (first | (with_reducible first | exact HB.out | apply below_alloc | apply pw_below_drewN | apply below_drew1) | exact HB.out)))); have n1_ := Aside0.mk (below_step (by repeat (first | (with_reducible first | exact HB.out | apply below_alloc | apply pw_below_drewN | apply below_drew1) | exact HB.out)) hb); clear HB; have HO170 := n0_; have HB := n1_; clear n0_ n1_; (try clear hb); (try clear hb2); (try clear hk); (try clear hi); (try clear ho0); obtain ⟨Ao25, co25, eo25⟩ := Kd.R_slice HO170.out; subst eo25) | ((with_reducible refine gate_callee (f := 9) rfl ?_); refine goesL_ (some 17) rfl rfl Try.func9 (by kernel_rfl) rfl #[.slice Ao25 t167.length co25] rfl (by (try simp only [List.map_toArray, List.map_cons, List.map_nil]); first | done | rfl | (simp only [List.length_drop, List.length_take]; rfl)) ?_; (with_reducible refine (area_Get.calls k _ _ t167 t171 t172 t173 _ ?side1 ?side2 A2.out).mono ?_); (case side1 => repeat (first | exact (Kd.R_reads' HO170.out).2.2 | (with_reducible refine Kd.C_alloc ?_ _) | (with_reducible refine Kd.C_drewN ?_ _) | (with_reducible refine Kd.C_drew ?_))); (case side2 => exact (Kd.R_reads' HO170.out).2.1); rintro e w26 ⟨rfl, hb⟩; refine ⟨_, rfl, ?_⟩; have n0_ := Aside0.mk (Kd.R_below (by (with_reducible repeat (first | apply Kd.R_alloc | apply Kd.R_drewN | apply Kd.R_drew)); exact HO170.out) hb); have n1_ := Aside0.mk (below_step (by repeat (first | (with_reducible first | exact HB.out | apply below_alloc | apply pw_below_drewN | apply below_drew1) | exact HB.out)) hb); clear HO170; clear HB; have HO170 := n0_; have HB := n1_; clear n0_ n1_; (try clear hb); (try clear hb2); (try clear hk); (try clear hi); have q27 : ((ji3) : Int) ≤ ((t167.length : Int) : Int) := of_decide_eq_true (by first | (with_reducible assumption) | assumption); obtain ⟨i027, hi027, _, hsz27, _⟩ := info_parts info9; have hroom27 : t167.length ≤ co25 := (Kd.R_reads' HO170.out).2.1; have hC27 : Kd.C Kd.string _ Ao25 t167.length t167 := (Kd.R_reads' HO170.out).2.2; have hcut27 := cut_to (P := Try.prog) 22 9 .i64 Try.underlying22 hi027 Ao25 t167.length co25 (ji3) (of_decide_eq_true (by first | (with_reducible assumption) | assumption)) q27 hroom27; have hr27 := Kd.C_take (m := ((ji3) : Int).toNat) hC27 (by omega); have hy27 : y174.length = ((ji3) : Int).toNat := (by rw [Ny174.out, List.length_take]; omega); rw [← Ny174.out] at hr27; rw [← hy27] at hcut27; have HR177 := Aside0.mk hr27; have HC177 := Aside0.mk (show y174.length ≤ co25 from by omega); clear hr27 hC27 hroom27 hi027 hsz27; have KY27 := Aside0.mk hy27; clear hy27; have KL27 := Aside0.mk (show ((ji3) : Int).toNat ≤ t167.length from by omega); replace q27 := eq_true q27) | ((with_reducible refine gate_callee (f := 9) rfl ?_); refine goesL_ (some 27) rfl rfl Try.func9 (by kernel_rfl) rfl #[.slice Ao25 y174.length co25] rfl (by (try simp only [List.map_toArray, List.map_cons, List.map_nil]); first | done | rfl | (simp only [List.length_drop, List.length_take]; rfl)) ?_; (with_reducible refine (area_Get.calls k _ _ y174 t178 t179 t180 _ ?side1 ?side2 A6.out).mono ?_); (case side1 => repeat (first | exact (by repeat (first | (with_reducible exact HR177.out) | (with_reducible refine Kd.C_alloc ?_ _) | (with_reducible refine Kd.C_drewN ?_ _) | (with_reducible refine Kd.C_drew ?_) | exact HR177.out)) | (with_reducible refine Kd.C_alloc ?_ _) | (with_reducible refine Kd.C_drewN ?_ _) | (with_reducible refine Kd.C_drew ?_))); (case side2 => exact HC177.out); rintro e w28 ⟨rfl, hb⟩; refine ⟨_, rfl, ?_⟩; have n0_ := Aside0.mk (Kd.R_below (by (with_reducible repeat (first | apply Kd.R_alloc | apply Kd.R_drewN | apply Kd.R_drew)); exact HO170.out) hb); have n1_ := Aside0.mk (Kd.C_below (by repeat (first | (with_reducible exact HR177.out) | (with_reducible refine Kd.C_alloc ?_ _) | (with_reducible refine Kd.C_drewN ?_ _) | (with_reducible refine Kd.C_drew ?_) | exact HR177.out)) hb); have n2_ := Aside0.mk (below_step (by repeat (first | (with_reducible first | exact HB.out | apply below_alloc | apply pw_below_drewN | apply below_drew1) | exact HB.out)) hb); clear HO170; clear HR177; clear HB; have HO170 := n0_; have HR177 := n1_; have HB := n2_; clear n0_ n1_ n2_; (try clear hb); (try clear hb2); (try clear hk); (try clear hi)) | ((with_reducible refine gate_callee (f := 15) rfl ?_); refine goesL_ (some 32) rfl rfl Try.func15 (by kernel_rfl) rfl #[.int .i64 1249, .int .u8 97] rfl (by (try simp only [List.map_toArray, List.map_cons, List.map_nil]); first | done | rfl | (simp only [List.length_drop, List.length_take]; rfl)) ?_; (with_reducible refine (ossuarylaw15_long.calls k 1249 97 t181 _ A7.out).mono ?_); rintro e w29 ⟨rfl, hb⟩; refine ⟨_, rfl, ?_⟩; have n0_ := Aside0.mk (Kd.R_below (by (with_reducible repeat (first | apply Kd.R_alloc | apply Kd.R_drewN | apply Kd.R_drew)); exact HO170.out) hb); have n1_ := Aside0.mk (Kd.C_below (by repeat (first | (with_reducible exact HR177.out) | (with_reducible refine Kd.C_alloc ?_ _) | (with_reducible refine Kd.C_drewN ?_ _) | (with_reducible refine Kd.C_drew ?_) | exact HR177.out)) hb); have n2_ := Aside0.mk (below_step (by repeat (first | (with_reducible first | exact HB.out | apply below_alloc | apply pw_below_drewN | apply below_drew1) | exact HB.out)) hb); clear HO170; clear HR177; clear HB; have HO170 := n0_; have HR177 := n1_; have HB := n2_; clear n0_ n1_ n2_; (try clear hb); (try clear hb2); (try clear hk); (try clear hi)) | ((with_reducible refine gate_callee (f := 7) rfl ?_); refine goesL_ (some 33) rfl rfl Try.func7 (by kernel_rfl) rfl #[.int .i64 7, .string t181] rfl (by (try simp only [List.map_toArray, List.map_cons, List.map_nil]); first | done | rfl | (simp only [List.length_drop, List.length_take]; rfl)) ?_; (with_reducible refine (area_Put.calls k 7 t181 t182 t183 _ A8.out).mono ?_); rintro e w30 ⟨v184, rfl, ho0, hb⟩; refine ⟨_, rfl, ?_⟩; have n0_ := Aside0.mk (Kd.R_elder' (by (with_reducible repeat (first | apply Kd.R_alloc | apply Kd.R_drewN | apply Kd.R_drew)); exact HO170.out) (Kd.R_base ho0) hb); have n1_ := Aside0.mk (Kd.R_lower (Kd.R_new' ho0 (Kd.R_lt (by (with_reducible repeat (first | apply Kd.R_alloc | apply Kd.R_drewN | apply Kd.R_drew)); exact HO170.out))) (below_size (by repeat (first | (with_reducible first | exact HB.out | apply below_alloc | apply pw_below_drewN | apply below_drew1) | exact HB.out)))); have n2_ := Aside0.mk (Kd.C_below (by repeat (first | (with_reducible exact HR177.out) | (with_reducible refine Kd.C_alloc ?_ _) | (with_reducible refine Kd.C_drewN ?_ _) | (with_reducible refine Kd.C_drew ?_) | exact HR177.out)) hb); have n3_ := Aside0.mk (below_step (by repeat (first | (with_reducible first | exact HB.out | apply below_alloc | apply pw_below_drewN | apply below_drew1) | exact HB.out)) hb); clear HO170; clear HR177; clear HB; have HO170 := n0_; have HO185 := n1_; have HR177 := n2_; have HB := n3_; clear n0_ n1_ n2_ n3_; (try clear hb); (try clear hb2); (try clear hk); (try clear hi); (try clear ho0)) | (go_at_call 12; (with_reducible refine (ossuarylaw0_Num.calls t168 t186 _ A10.out).mono ?_); rintro e w' ⟨rfl, ⟨nd, rfl⟩⟩; have p187 : 0 ≤ (0 : Int) := (by omega); have q187 : 0 < (t167.length : Int) := of_decide_eq_true (by first | (with_reducible assumption) | assumption); obtain ⟨ad187, e187, hx187_0⟩ := Kd.at_string (Kd.R_reads' HO170.out).2.2 0 p187 q187; cases e187; have qi187 : (0 < t167.length) = True := eq_true (by omega); (try rw [show ((0 : Int)).toNat = 0 from rfl] at hx187_0); (try rw [Addr.add_zero'] at hx187_0); replace p187 := eq_true p187; replace q187 := eq_true q187; have p188 : 0 ≤ (0 : Int) := (by omega); have q188 : 0 < (t167.length : Int) := of_decide_eq_true (by first | (with_reducible assumption) | assumption); obtain ⟨ad188, e188, hx188_0⟩ := Kd.at_string (Kd.R_reads' HO170.out).2.2 0 p188 q188; obtain rfl : ad187 = ad188 := (by injection e188); have qi188 : (0 < t167.length) = True := eq_true (by omega); (try rw [show ((0 : Int)).toNat = 0 from rfl] at hx188_0); (try rw [Addr.add_zero'] at hx188_0); replace p188 := eq_true p188; replace q188 := eq_true q188) | (go_at_call 12; (with_reducible refine (ossuarylaw0_Num.calls t173 t189 _ A19.out).mono ?_); rintro e w' ⟨rfl, ⟨nd, rfl⟩⟩) | (go_at_call 12; (with_reducible refine (ossuarylaw0_Num.calls t180 t190 _ A21.out).mono ?_); rintro e w' ⟨rfl, ⟨nd, rfl⟩⟩) | (go_at_call 12; (with_reducible refine (ossuarylaw0_Num.calls t183 t191 _ A23.out).mono ?_); rintro e w' ⟨rfl, ⟨nd, rfl⟩⟩))
                            go_ret
                            exact ⟨by first | rfl | (simp [errW_none, errW_some] <;> rfl) | (simp only [← hji3]; first | rfl | (simp [errW_none, errW_some] <;> rfl)) | (simp [*, errW_none, errW_some] <;> rfl), by repeat (first | (with_reducible first | exact HB.out | apply below_alloc | apply pw_below_drewN | apply below_drew1) | exact HB.out)⟩
                          · rw [if_neg c22] at H
                            have c22b0 : (t190 == 1500) = false := beq_eq_false_iff_ne.mpr c22
                            have c22b1 : (t190 != 1500) = true := bne_iff_ne.mpr c22
                            exact absurd (Option.some.inj H) (by rw [HRT.out]; decide)
                        · rw [if_neg c20] at H
                          have c20b0 : (t189 == 0) = false := beq_eq_false_iff_ne.mpr c20
                          have c20b1 : (t189 != 0) = true := bne_iff_ne.mpr c20
                          exact absurd (Option.some.inj H) (by rw [HRT.out]; decide)
                      · rw [if_neg c18] at H
                        have c18b0 : (t172.toList == ([97, 98, 99] : List UInt8)) = false := beq_eq_false_iff_ne.mpr c18
                        have c18b1 : (t172.toList != ([97, 98, 99] : List UInt8)) = true := bne_iff_ne.mpr c18
                        exact absurd (Option.some.inj H) (by rw [HRT.out]; decide)
                    · rw [if_neg c17] at H
                      have c17b0 : (t171 == 7) = false := beq_eq_false_iff_ne.mpr c17
                      have c17b1 : (t171 != 7) = true := bne_iff_ne.mpr c17
                      exact absurd (Option.some.inj H) (by rw [HRT.out]; decide)
                  · rw [if_neg c16] at H
                    have c16b0 : (((rdOf ByteArray.empty t167 0).extract 0 8).toList == ([77, 0, 3, 0, 7, 0, 0, 0] : List UInt8)) = false := beq_eq_false_iff_ne.mpr c16
                    have c16b1 : (((rdOf ByteArray.empty t167 0).extract 0 8).toList != ([77, 0, 3, 0, 7, 0, 0, 0] : List UInt8)) = true := bne_iff_ne.mpr c16
                    exact absurd (Option.some.inj H) (by rw [HRT.out]; decide)
                · rw [if_neg c15] at H
                  exact absurd H (by simp)
              · rw [if_neg c14] at H
                exact absurd H (by simp)
            · rw [if_neg c13] at H
              have c13b0 : (((rdOf ByteArray.empty t167 0).size : Int) == 64) = false := beq_eq_false_iff_ne.mpr c13
              have c13b1 : (((rdOf ByteArray.empty t167 0).size : Int) != 64) = true := bne_iff_ne.mpr c13
              exact absurd (Option.some.inj H) (by rw [HRT.out]; decide)
          · rw [if_neg c12] at H
            exact absurd H (by simp)
        · rw [if_neg c11] at H
          have c11b0 : (t186 == 0) = false := beq_eq_false_iff_ne.mpr c11
          have c11b1 : (t186 != 0) = true := bne_iff_ne.mpr c11
          exact absurd (Option.some.inj H) (by rw [HRT.out]; decide)
      · rw [if_neg c9] at H
        have c9b0 : ((t167.length : Int) == 24) = false := beq_eq_false_iff_ne.mpr c9
        have c9b1 : ((t167.length : Int) != 24) = true := bne_iff_ne.mpr c9
        exact absurd (Option.some.inj H) (by rw [HRT.out]; decide)
    · rw [if_neg c5] at H
      exact absurd H (by simp)
  · rw [if_neg c4] at H
    exact absurd H (by simp)

/-! ### ossuarylaw15_Areas: function 3 -/
def ossuarylaw15_Areas.j0 : Nat → List ByteArray → List ByteArray → List ByteArray → Bool → Option (Bool)
  | 0, _, _, _, _ => none
  | k + 1, x2, x7, x11, x70 => if x70 = true then (some false) else ((ossuarylaw0_SpoilTexts.f k x7).bind fun t215 => ((ossuarylaw0_SameTexts.f k x11 x2).bind fun t216 => (if t216 = true then ((ossuarylaw15_awake.f k).bind fun t217 => (some t217)) else (some false))))
def ossuarylaw15_Areas.f (k : Nat) (a0 : Int) (a1 : ByteArray) (l2 : List ByteArray) : Option (Bool) := (area_Put.f k a0 a1).bind fun bt192 => ((ossuaryref13_PutArea.f k a0 a1).bind fun bt196 => ((some (([] : List ByteArray) : List ByteArray)).bind fun y200 => (if y200.length + l2.length < 8796093022208 then ((some (y200 ++ l2 : List ByteArray)).bind fun y203 => ((area_Get.f k y203).bind fun bt206 => ((ossuaryref13_GetArea.f k l2).bind fun bt209 => ((ossuarylaw0_SameTexts.f k bt192.1 bt196.1).bind fun t212 => (if t212 = true then ((ossuarylaw0_Num.f bt192.2).bind fun t213 => (if t213 = bt196.2 then (if bt206.1 = bt209.1 then (if bt206.2.1.toList = bt209.2.1.toList then ((ossuarylaw0_Num.f bt206.2.2).bind fun t214 => (ossuarylaw15_Areas.j0 k l2 bt192.1 y203 (t214 != bt209.2.2))) else (ossuarylaw15_Areas.j0 k l2 bt192.1 y203 true)) else (ossuarylaw15_Areas.j0 k l2 bt192.1 y203 true)) else (ossuarylaw15_Areas.j0 k l2 bt192.1 y203 true))) else (ossuarylaw15_Areas.j0 k l2 bt192.1 y203 true)))))) else (none))))
theorem ossuarylaw15_Areas.mono_l : ∀ k, (∀ y0 y1 y2 y3, LeO (ossuarylaw15_Areas.j0 k y0 y1 y2 y3) (ossuarylaw15_Areas.j0 (k + 1) y0 y1 y2 y3))
  | 0 => fun _ _ _ _ r h => by simp [ossuarylaw15_Areas.j0] at h
  | k + 1 => by
    have ih0 := ossuarylaw15_Areas.mono_l k
    · intro y0 y1 y2 y3
      unfold ossuarylaw15_Areas.j0
      repeat' first
      | (with_reducible exact ih0 _ _ _ _)
      | (with_reducible exact area_Get.mono _ _)
      | (with_reducible exact area_Put.mono _ _ _)
      | (with_reducible exact ossuarylaw0_SameTexts.mono _ _ _)
      | (with_reducible exact ossuarylaw0_SpoilTexts.mono _ _)
      | (with_reducible exact ossuarylaw15_awake.mono _)
      | (with_reducible exact ossuaryref13_GetArea.mono _ _)
      | (with_reducible exact ossuaryref13_PutArea.mono _ _ _)
      | (with_reducible exact LeO.refl _)
      | (with_reducible exact LeO.none _)
      | (with_reducible refine LeO.ite ?_ ?_)
      | (with_reducible refine LeO.bind ?_ (fun _ => ?_))
      | exact ih0 _ _ _ _
      | exact area_Get.mono _ _
      | exact area_Put.mono _ _ _
      | exact ossuarylaw0_SameTexts.mono _ _ _
      | exact ossuarylaw0_SpoilTexts.mono _ _
      | exact ossuarylaw15_awake.mono _
      | exact ossuaryref13_GetArea.mono _ _
      | exact ossuaryref13_PutArea.mono _ _ _
      | exact LeO.none _
      | refine LeO.ite ?_ ?_
      | refine LeO.bind ?_ (fun _ => ?_)
theorem ossuarylaw15_Areas.mono : ∀ a0 a1 a2 k, LeO (ossuarylaw15_Areas.f k a0 a1 a2) (ossuarylaw15_Areas.f (k + 1) a0 a1 a2) := by
  intro a0 a1 a2 k
  have ih0 := ossuarylaw15_Areas.mono_l k
  unfold ossuarylaw15_Areas.f
  repeat' first
      | (with_reducible exact ih0 _ _ _ _)
      | (with_reducible exact area_Get.mono _ _)
      | (with_reducible exact area_Put.mono _ _ _)
      | (with_reducible exact ossuarylaw0_SameTexts.mono _ _ _)
      | (with_reducible exact ossuarylaw0_SpoilTexts.mono _ _)
      | (with_reducible exact ossuarylaw15_awake.mono _)
      | (with_reducible exact ossuaryref13_GetArea.mono _ _)
      | (with_reducible exact ossuaryref13_PutArea.mono _ _ _)
      | (with_reducible exact LeO.refl _)
      | (with_reducible exact LeO.none _)
      | (with_reducible refine LeO.ite ?_ ?_)
      | (with_reducible refine LeO.bind ?_ (fun _ => ?_))
      | exact ih0 _ _ _ _
      | exact area_Get.mono _ _
      | exact area_Put.mono _ _ _
      | exact ossuarylaw0_SameTexts.mono _ _ _
      | exact ossuarylaw0_SpoilTexts.mono _ _
      | exact ossuarylaw15_awake.mono _
      | exact ossuaryref13_GetArea.mono _ _
      | exact ossuaryref13_PutArea.mono _ _ _
      | exact LeO.none _
      | refine LeO.ite ?_ ?_
      | refine LeO.bind ?_ (fun _ => ?_)
set_option maxHeartbeats 8000000 in
set_option maxRecDepth 100000 in
theorem ossuarylaw15_Areas.calls (k : Nat) (a0 : Int) (a1 : ByteArray) (A2 : Option Addr) (c2 : Nat) (l2 : List ByteArray) (r : Bool) (w : World) (hr2 : Kd.C Kd.string w A2 l2.length l2) (hc2 : l2.length ≤ c2) (h : ossuarylaw15_Areas.f k a0 a1 l2 = some r) (hr_ : r = true := by rfl) :
    Calls Try.prog 3 #[.int .i64 a0, .string a1, .slice A2 l2.length c2] w fun e w' => e = .returned (.bool r) ∧ Below w.heap.size w w' := by
  have HRT := Aside0.mk hr_
  clear hr_
  have HR2 := Aside0.mk hr2
  have HC2 := Aside0.mk hc2
  clear hr2 hc2
  have HB := Aside0.mk (Below.refl w.heap.size w)
  have H : ((area_Put.f k a0 a1).bind fun bt192 => ((ossuaryref13_PutArea.f k a0 a1).bind fun bt196 => ((some (([] : List ByteArray) : List ByteArray)).bind fun y200 => (if y200.length + l2.length < 8796093022208 then ((some (y200 ++ l2 : List ByteArray)).bind fun y203 => ((area_Get.f k y203).bind fun bt206 => ((ossuaryref13_GetArea.f k l2).bind fun bt209 => ((ossuarylaw0_SameTexts.f k bt192.1 bt196.1).bind fun t212 => (if t212 = true then ((ossuarylaw0_Num.f bt192.2).bind fun t213 => (if t213 = bt196.2 then (if bt206.1 = bt209.1 then (if bt206.2.1.toList = bt209.2.1.toList then ((ossuarylaw0_Num.f bt206.2.2).bind fun t214 => (ossuarylaw15_Areas.j0 k l2 bt192.1 y203 (t214 != bt209.2.2))) else (ossuarylaw15_Areas.j0 k l2 bt192.1 y203 true)) else (ossuarylaw15_Areas.j0 k l2 bt192.1 y203 true)) else (ossuarylaw15_Areas.j0 k l2 bt192.1 y203 true))) else (ossuarylaw15_Areas.j0 k l2 bt192.1 y203 true)))))) else (none))))) = some r := h
  clear h
  replace H := Option.bind_eq_some_iff.mp H
  obtain ⟨⟨t192, t193⟩, A40, H⟩ := H
  replace H : ((ossuaryref13_PutArea.f k a0 a1).bind fun bt196 => ((some (([] : List ByteArray) : List ByteArray)).bind fun y200 => (if y200.length + l2.length < 8796093022208 then ((some (y200 ++ l2 : List ByteArray)).bind fun y203 => ((area_Get.f k y203).bind fun bt206 => ((ossuaryref13_GetArea.f k l2).bind fun bt209 => ((ossuarylaw0_SameTexts.f k t192 bt196.1).bind fun t212 => (if t212 = true then ((ossuarylaw0_Num.f t193).bind fun t213 => (if t213 = bt196.2 then (if bt206.1 = bt209.1 then (if bt206.2.1.toList = bt209.2.1.toList then ((ossuarylaw0_Num.f bt206.2.2).bind fun t214 => (ossuarylaw15_Areas.j0 k l2 t192 y203 (t214 != bt209.2.2))) else (ossuarylaw15_Areas.j0 k l2 t192 y203 true)) else (ossuarylaw15_Areas.j0 k l2 t192 y203 true)) else (ossuarylaw15_Areas.j0 k l2 t192 y203 true))) else (ossuarylaw15_Areas.j0 k l2 t192 y203 true)))))) else (none)))) = some r := H
  have A4 := Aside0.mk A40
  clear A40
  replace H := Option.bind_eq_some_iff.mp H
  obtain ⟨⟨t196, t197⟩, A50, H⟩ := H
  replace H : ((some (([] : List ByteArray) : List ByteArray)).bind fun y200 => (if y200.length + l2.length < 8796093022208 then ((some (y200 ++ l2 : List ByteArray)).bind fun y203 => ((area_Get.f k y203).bind fun bt206 => ((ossuaryref13_GetArea.f k l2).bind fun bt209 => ((ossuarylaw0_SameTexts.f k t192 t196).bind fun t212 => (if t212 = true then ((ossuarylaw0_Num.f t193).bind fun t213 => (if t213 = t197 then (if bt206.1 = bt209.1 then (if bt206.2.1.toList = bt209.2.1.toList then ((ossuarylaw0_Num.f bt206.2.2).bind fun t214 => (ossuarylaw15_Areas.j0 k l2 t192 y203 (t214 != bt209.2.2))) else (ossuarylaw15_Areas.j0 k l2 t192 y203 true)) else (ossuarylaw15_Areas.j0 k l2 t192 y203 true)) else (ossuarylaw15_Areas.j0 k l2 t192 y203 true))) else (ossuarylaw15_Areas.j0 k l2 t192 y203 true)))))) else (none))) = some r := H
  have A5 := Aside0.mk A50
  clear A50
  obtain ⟨y200, hy200⟩ : ∃ y_ : List ByteArray, y_ = (([] : List ByteArray)) := ⟨_, rfl⟩
  replace H : (if y200.length + l2.length < 8796093022208 then ((some (y200 ++ l2 : List ByteArray)).bind fun y203 => ((area_Get.f k y203).bind fun bt206 => ((ossuaryref13_GetArea.f k l2).bind fun bt209 => ((ossuarylaw0_SameTexts.f k t192 t196).bind fun t212 => (if t212 = true then ((ossuarylaw0_Num.f t193).bind fun t213 => (if t213 = t197 then (if bt206.1 = bt209.1 then (if bt206.2.1.toList = bt209.2.1.toList then ((ossuarylaw0_Num.f bt206.2.2).bind fun t214 => (ossuarylaw15_Areas.j0 k l2 t192 y203 (t214 != bt209.2.2))) else (ossuarylaw15_Areas.j0 k l2 t192 y203 true)) else (ossuarylaw15_Areas.j0 k l2 t192 y203 true)) else (ossuarylaw15_Areas.j0 k l2 t192 y203 true))) else (ossuarylaw15_Areas.j0 k l2 t192 y203 true)))))) else (none)) = some r := by first | (rw [hy200]; with_reducible exact H) | (have H2_ := (Option.bind_some _ _).symm.trans H; rw [hy200]; with_reducible exact H2_) | (have H2_ := (Option.bind_some _ _).symm.trans H; with_reducible exact H2_) | with_reducible exact H | (rw [hy200]; exact H) | exact H
  have Ny200 := Aside0.mk hy200
  clear hy200
  by_cases c6 : y200.length + l2.length < 8796093022208
  · rw [if_pos c6] at H
    have LMc6 := Aside0.mk c6
    clear c6
    obtain ⟨y203, hy203⟩ : ∃ y_ : List ByteArray, y_ = (y200 ++ l2) := ⟨_, rfl⟩
    replace H : ((area_Get.f k y203).bind fun bt206 => ((ossuaryref13_GetArea.f k l2).bind fun bt209 => ((ossuarylaw0_SameTexts.f k t192 t196).bind fun t212 => (if t212 = true then ((ossuarylaw0_Num.f t193).bind fun t213 => (if t213 = t197 then (if bt206.1 = bt209.1 then (if bt206.2.1.toList = bt209.2.1.toList then ((ossuarylaw0_Num.f bt206.2.2).bind fun t214 => (ossuarylaw15_Areas.j0 k l2 t192 y203 (t214 != bt209.2.2))) else (ossuarylaw15_Areas.j0 k l2 t192 y203 true)) else (ossuarylaw15_Areas.j0 k l2 t192 y203 true)) else (ossuarylaw15_Areas.j0 k l2 t192 y203 true))) else (ossuarylaw15_Areas.j0 k l2 t192 y203 true))))) = some r := by first | (rw [hy203]; with_reducible exact H) | (have H2_ := (Option.bind_some _ _).symm.trans H; rw [hy203]; with_reducible exact H2_) | (have H2_ := (Option.bind_some _ _).symm.trans H; with_reducible exact H2_) | with_reducible exact H | (rw [hy203]; exact H) | exact H
    have Ny203 := Aside0.mk hy203
    clear hy203
    replace H := Option.bind_eq_some_iff.mp H
    obtain ⟨⟨t206, t207, t208⟩, A70, H⟩ := H
    replace H : ((ossuaryref13_GetArea.f k l2).bind fun bt209 => ((ossuarylaw0_SameTexts.f k t192 t196).bind fun t212 => (if t212 = true then ((ossuarylaw0_Num.f t193).bind fun t213 => (if t213 = t197 then (if t206 = bt209.1 then (if t207.toList = bt209.2.1.toList then ((ossuarylaw0_Num.f t208).bind fun t214 => (ossuarylaw15_Areas.j0 k l2 t192 y203 (t214 != bt209.2.2))) else (ossuarylaw15_Areas.j0 k l2 t192 y203 true)) else (ossuarylaw15_Areas.j0 k l2 t192 y203 true)) else (ossuarylaw15_Areas.j0 k l2 t192 y203 true))) else (ossuarylaw15_Areas.j0 k l2 t192 y203 true)))) = some r := H
    have A7 := Aside0.mk A70
    clear A70
    replace H := Option.bind_eq_some_iff.mp H
    obtain ⟨⟨t209, t210, t211⟩, A80, H⟩ := H
    replace H : ((ossuarylaw0_SameTexts.f k t192 t196).bind fun t212 => (if t212 = true then ((ossuarylaw0_Num.f t193).bind fun t213 => (if t213 = t197 then (if t206 = t209 then (if t207.toList = t210.toList then ((ossuarylaw0_Num.f t208).bind fun t214 => (ossuarylaw15_Areas.j0 k l2 t192 y203 (t214 != t211))) else (ossuarylaw15_Areas.j0 k l2 t192 y203 true)) else (ossuarylaw15_Areas.j0 k l2 t192 y203 true)) else (ossuarylaw15_Areas.j0 k l2 t192 y203 true))) else (ossuarylaw15_Areas.j0 k l2 t192 y203 true))) = some r := H
    have A8 := Aside0.mk A80
    clear A80
    have HC9 := Aside0.mk H
    clear H
    go_enter Try.func3, Try.ntmps3
    go_upto_region 6 with (first | ((with_reducible refine gate_callee (f := 7) rfl ?_); refine goesL_ (some 21) rfl rfl Try.func7 (by kernel_rfl) rfl #[.int .i64 a0, .string a1] rfl (by (try simp only [List.map_toArray, List.map_cons, List.map_nil]); first | done | rfl | (simp only [List.length_drop, List.length_take]; rfl)) ?_; (with_reducible refine (area_Put.calls k a0 a1 t192 t193 _ A4.out).mono ?_); rintro e w10 ⟨v194, rfl, ho0, hb⟩; refine ⟨_, rfl, ?_⟩; have n0_ := Aside0.mk (Kd.R_lower ho0 (below_size (by repeat (first | (with_reducible first | exact HB.out | apply below_alloc | apply pw_below_drewN | apply below_drew1) | exact HB.out)))); have n1_ := Aside0.mk (below_step (by repeat (first | (with_reducible first | exact HB.out | apply below_alloc | apply pw_below_drewN | apply below_drew1) | exact HB.out)) hb); clear HB; have HO195 := n0_; have HB := n1_; clear n0_ n1_; (try clear hb); (try clear hb2); (try clear hk); (try clear hi); (try clear ho0)) | ((with_reducible refine gate_callee (f := 8) rfl ?_); refine goesL_ (some 27) rfl rfl Try.func8 (by kernel_rfl) rfl #[.int .i64 a0, .string a1] rfl (by (try simp only [List.map_toArray, List.map_cons, List.map_nil]); first | done | rfl | (simp only [List.length_drop, List.length_take]; rfl)) ?_; (with_reducible refine (ossuaryref13_PutArea.calls k a0 a1 t196 t197 _ A5.out).mono ?_); rintro e w11 ⟨v198, rfl, ho0, hb⟩; refine ⟨_, rfl, ?_⟩; have n0_ := Aside0.mk (Kd.R_elder' (by (with_reducible repeat (first | apply Kd.R_alloc | apply Kd.R_drewN | apply Kd.R_drew)); exact HO195.out) (Kd.R_base ho0) hb); have n1_ := Aside0.mk (Kd.R_lower (Kd.R_new' ho0 (Kd.R_lt (by (with_reducible repeat (first | apply Kd.R_alloc | apply Kd.R_drewN | apply Kd.R_drew)); exact HO195.out))) (below_size (by repeat (first | (with_reducible first | exact HB.out | apply below_alloc | apply pw_below_drewN | apply below_drew1) | exact HB.out)))); have n2_ := Aside0.mk (below_step (by repeat (first | (with_reducible first | exact HB.out | apply below_alloc | apply pw_below_drewN | apply below_drew1) | exact HB.out)) hb); clear HO195; clear HB; have HO195 := n0_; have HO199 := n1_; have HB := n2_; clear n0_ n1_ n2_; (try clear hb); (try clear hb2); (try clear hk); (try clear hi); (try clear ho0)) | ((with_reducible refine gate_dst (N := 30) rfl ?_); refine Kd.R_lit Kd.string _ 9 ?hg (N := 30) ?hd (xs := ([] : List ByteArray)) (inner := []) (ok := fun _ => True) (okp := fun _ => True) ?hr ?hp (fun _ hk => hk) trivial (Below.refl _ _) (Nat.le_refl _) (by simp) ?_; (case hd => rfl); (case hg => rfl); (case hr => first | (go_simp; done) | (go_simp; rfl)); (case hp => exact (Reps.none _ _)); intro v201 w12 ho13 hb hg_ hnew_; clear hg_ hnew_; (first | rw [← Ny200.out] at ho13 | (simp only [Int.reduceToNat] at ho13; rw [← Ny200.out] at ho13)); have n0_ := Aside0.mk (Kd.R_elder' (by (with_reducible repeat (first | apply Kd.R_alloc | apply Kd.R_drewN | apply Kd.R_drew)); exact HO195.out) (Kd.R_base ho13) hb); have n1_ := Aside0.mk (Kd.R_elder' (by (with_reducible repeat (first | apply Kd.R_alloc | apply Kd.R_drewN | apply Kd.R_drew)); exact HO199.out) (Kd.R_base ho13) hb); have n2_ := Aside0.mk (Kd.R_lower (Kd.R_new' (Kd.R_new' ho13 (Kd.R_lt (by (with_reducible repeat (first | apply Kd.R_alloc | apply Kd.R_drewN | apply Kd.R_drew)); exact HO195.out))) (Kd.R_lt (by (with_reducible repeat (first | apply Kd.R_alloc | apply Kd.R_drewN | apply Kd.R_drew)); exact HO199.out))) (below_size (by repeat (first | (with_reducible first | exact HB.out | apply below_alloc | apply pw_below_drewN | apply below_drew1) | exact HB.out)))); have n3_ := Aside0.mk (below_step (by repeat (first | (with_reducible first | exact HB.out | apply below_alloc | apply pw_below_drewN | apply below_drew1) | exact HB.out)) hb); clear HO195; clear HO199; clear HB; have HO195 := n0_; have HO199 := n1_; have HO202 := n2_; have HB := n3_; clear n0_ n1_ n2_ n3_; clear hb ho13) | ((with_reducible refine gate_builtin (b := .append) (xs := #[.tmp 30, .tmp 31]) rfl ?_); at_builtin; refine Kd.R_append_rows Kd.string (w0 := w) w.heap.size rfl (.tmp 30) (.tmp 31) 22 9 (.string ⟨#[]⟩) 16 rfl Try.underlying22 info9 rfl (by decide) (by omega) v201 y200 l2 _ _ _ (fun k_ => some k_ ≠ (v194 : Value).ownBlock ∧ some k_ ≠ (v198 : Value).ownBlock) (fun _ => False) rfl rfl ?aO ?aR (fun _ _ h => h) (fun _ h => h.elim) ?aF ?aB ?aS ?aL ?_; (case aR => repeat (first | exact (Kd.C_below HR2.out HB.out) | (with_reducible refine Kd.C_alloc ?_ _) | (with_reducible refine Kd.C_drewN ?_ _) | (with_reducible refine Kd.C_drew ?_))); (case aB => exact (by repeat (first | (with_reducible first | exact HB.out | apply below_alloc | apply pw_below_drewN | apply below_drew1) | exact HB.out))); (case aF => exact (fun k_ hk => ⟨Kd.fresh' (Kd.R_lt (by (with_reducible repeat (first | apply Kd.R_alloc | apply Kd.R_drewN | apply Kd.R_drew)); exact HO195.out)) k_ hk, Kd.fresh' (Kd.R_lt (by (with_reducible repeat (first | apply Kd.R_alloc | apply Kd.R_drewN | apply Kd.R_drew)); exact HO199.out)) k_ hk⟩)); (case aO => exact (by (with_reducible repeat (first | apply Kd.R_alloc | apply Kd.R_drewN | apply Kd.R_drew)); exact Kd.R_mono HO202.out (fun _ hk => ⟨hk.1.2, hk.2⟩))); (case aS => exact (below_size (by repeat (first | (with_reducible first | exact HB.out | apply below_alloc | apply pw_below_drewN | apply below_drew1) | exact HB.out)))); (case aL => have := LMc6.out; omega); intro v204 w14 ho hb hg hat; rw [← Ny203.out] at ho; have n0_ := Aside0.mk (Kd.R_after (ok := (fun k_ => some k_ ≠ (v198 : Value).ownBlock)) (by (with_reducible repeat (first | apply Kd.R_alloc | apply Kd.R_drewN | apply Kd.R_drew)); exact Kd.R_mono HO195.out (fun _ hk => ⟨hk.1.2, hk.2⟩)) hg hat); have n1_ := Aside0.mk (Kd.R_after (ok := (fun k_ => some k_ ≠ (v194 : Value).ownBlock)) (by (with_reducible repeat (first | apply Kd.R_alloc | apply Kd.R_drewN | apply Kd.R_drew)); exact Kd.R_mono HO199.out (fun _ hk => ⟨hk.1.2, hk.2⟩)) hg hat); have n2_ := Aside0.mk (hb); have n3_ := Aside0.mk (ho); clear HO195; clear HO199; clear HB; clear HO202; have HO195 := n0_; have HO199 := n1_; have HB := n2_; have HO205 := n3_; clear n0_ n1_ n2_ n3_; clear ho hb hg hat; obtain ⟨Ao15, co15, eo15⟩ := Kd.R_slice HO205.out; subst eo15) | ((with_reducible refine gate_callee (f := 9) rfl ?_); refine goesL_ (some 35) rfl rfl Try.func9 (by kernel_rfl) rfl #[.slice Ao15 y203.length co15] rfl (by (try simp only [List.map_toArray, List.map_cons, List.map_nil]); first | done | rfl | (simp only [List.length_drop, List.length_take]; rfl)) ?_; (with_reducible refine (area_Get.calls k _ _ y203 t206 t207 t208 _ ?side1 ?side2 A7.out).mono ?_); (case side1 => repeat (first | exact (Kd.R_reads' HO205.out).2.2 | (with_reducible refine Kd.C_alloc ?_ _) | (with_reducible refine Kd.C_drewN ?_ _) | (with_reducible refine Kd.C_drew ?_))); (case side2 => exact (Kd.R_reads' HO205.out).2.1); rintro e w16 ⟨rfl, hb⟩; refine ⟨_, rfl, ?_⟩; have n0_ := Aside0.mk (Kd.R_below (by (with_reducible repeat (first | apply Kd.R_alloc | apply Kd.R_drewN | apply Kd.R_drew)); exact HO195.out) hb); have n1_ := Aside0.mk (Kd.R_below (by (with_reducible repeat (first | apply Kd.R_alloc | apply Kd.R_drewN | apply Kd.R_drew)); exact HO199.out) hb); have n2_ := Aside0.mk (Kd.R_below (by (with_reducible repeat (first | apply Kd.R_alloc | apply Kd.R_drewN | apply Kd.R_drew)); exact HO205.out) hb); have n3_ := Aside0.mk (below_step (by repeat (first | (with_reducible first | exact HB.out | apply below_alloc | apply pw_below_drewN | apply below_drew1) | exact HB.out)) hb); clear HO195; clear HO199; clear HO205; clear HB; have HO195 := n0_; have HO199 := n1_; have HO205 := n2_; have HB := n3_; clear n0_ n1_ n2_ n3_; (try clear hb); (try clear hb2); (try clear hk); (try clear hi)) | ((with_reducible refine gate_callee (f := 10) rfl ?_); refine goesL_ (some 41) rfl rfl Try.func10 (by kernel_rfl) rfl #[.slice A2 l2.length c2] rfl (by (try simp only [List.map_toArray, List.map_cons, List.map_nil]); first | done | rfl | (simp only [List.length_drop, List.length_take]; rfl)) ?_; (with_reducible refine (ossuaryref13_GetArea.calls k _ _ l2 t209 t210 t211 _ ?side1 ?side2 A8.out).mono ?_); (case side1 => repeat (first | exact (Kd.C_below HR2.out HB.out) | (with_reducible refine Kd.C_alloc ?_ _) | (with_reducible refine Kd.C_drewN ?_ _) | (with_reducible refine Kd.C_drew ?_))); (case side2 => exact HC2.out); rintro e w17 ⟨rfl, hb⟩; refine ⟨_, rfl, ?_⟩; have n0_ := Aside0.mk (Kd.R_below (by (with_reducible repeat (first | apply Kd.R_alloc | apply Kd.R_drewN | apply Kd.R_drew)); exact HO195.out) hb); have n1_ := Aside0.mk (Kd.R_below (by (with_reducible repeat (first | apply Kd.R_alloc | apply Kd.R_drewN | apply Kd.R_drew)); exact HO199.out) hb); have n2_ := Aside0.mk (Kd.R_below (by (with_reducible repeat (first | apply Kd.R_alloc | apply Kd.R_drewN | apply Kd.R_drew)); exact HO205.out) hb); have n3_ := Aside0.mk (below_step (by repeat (first | (with_reducible first | exact HB.out | apply below_alloc | apply pw_below_drewN | apply below_drew1) | exact HB.out)) hb); clear HO195; clear HO199; clear HO205; clear HB; have HO195 := n0_; have HO199 := n1_; have HO205 := n2_; have HB := n3_; clear n0_ n1_ n2_ n3_; (try clear hb); (try clear hb2); (try clear hk); (try clear hi)))
    (try simp only [Act.put, List.setIfInBounds_toArray, List.set_cons_zero, List.set_cons_succ])
    go_cut [70] (fun v70 wc => ∃ (kq : Nat) (x70_8 : Bool), v70 = .bool x70_8 ∧ Aside0 (ossuarylaw15_Areas.j0 kq l2 t192 y203 x70_8 = some r) ∧ Aside0 (kq ≤ k) ∧ Aside0 (Kd.R Kd.string 9 wc w.heap.size (fun k_ => some k_ ≠ ((.slice Ao15 y203.length co15) : Value).ownBlock) v194 t192) ∧ Aside0 (Kd.R Kd.string 9 wc w.heap.size (fun k_ => some k_ ≠ (v194 : Value).ownBlock) (.slice Ao15 y203.length co15) y203) ∧ Aside0 (Below w.heap.size w wc))
    case first =>
      have H := HC9.out
      clear HC9
      replace H := Option.bind_eq_some_iff.mp H
      obtain ⟨t212, A180, H⟩ := H
      replace H : (if t212 = true then ((ossuarylaw0_Num.f t193).bind fun t213 => (if t213 = t197 then (if t206 = t209 then (if t207.toList = t210.toList then ((ossuarylaw0_Num.f t208).bind fun t214 => (ossuarylaw15_Areas.j0 k l2 t192 y203 (t214 != t211))) else (ossuarylaw15_Areas.j0 k l2 t192 y203 true)) else (ossuarylaw15_Areas.j0 k l2 t192 y203 true)) else (ossuarylaw15_Areas.j0 k l2 t192 y203 true))) else (ossuarylaw15_Areas.j0 k l2 t192 y203 true)) = some r := H
      have A18 := Aside0.mk A180
      clear A180
      by_cases c19 : t212 = true
      · subst c19
        have H1 : ((ossuarylaw0_Num.f t193).bind fun t213 => (if t213 = t197 then (if t206 = t209 then (if t207.toList = t210.toList then ((ossuarylaw0_Num.f t208).bind fun t214 => (ossuarylaw15_Areas.j0 k l2 t192 y203 (t214 != t211))) else (ossuarylaw15_Areas.j0 k l2 t192 y203 true)) else (ossuarylaw15_Areas.j0 k l2 t192 y203 true)) else (ossuarylaw15_Areas.j0 k l2 t192 y203 true))) = some r := by rw [if_pos rfl] at H; exact H
        clear H
        have H := H1
        clear H1
        replace H := Option.bind_eq_some_iff.mp H
        obtain ⟨t213, A200, H⟩ := H
        replace H : (if t213 = t197 then (if t206 = t209 then (if t207.toList = t210.toList then ((ossuarylaw0_Num.f t208).bind fun t214 => (ossuarylaw15_Areas.j0 k l2 t192 y203 (t214 != t211))) else (ossuarylaw15_Areas.j0 k l2 t192 y203 true)) else (ossuarylaw15_Areas.j0 k l2 t192 y203 true)) else (ossuarylaw15_Areas.j0 k l2 t192 y203 true)) = some r := H
        have A20 := Aside0.mk A200
        clear A200
        by_cases c21 : t213 = t197
        · rw [if_pos c21] at H
          have c21b0 : (t213 == t197) = true := beq_iff_eq.mpr c21
          have c21b1 : (t213 != t197) = false := bne_eq_false_iff_eq.mpr c21
          clear c21
          (first | rw [c21b0] | (simp only [i64_w, i32_w]; rw [c21b0]) | skip)
          by_cases c22 : t206 = t209
          · rw [if_pos c22] at H
            have c22b0 : (t206 == t209) = true := beq_iff_eq.mpr c22
            have c22b1 : (t206 != t209) = false := bne_eq_false_iff_eq.mpr c22
            clear c22
            by_cases c23 : t207.toList = t210.toList
            · rw [if_pos c23] at H
              have c23b0 : (t207.toList == t210.toList) = true := beq_iff_eq.mpr c23
              have c23b1 : (t207.toList != t210.toList) = false := bne_eq_false_iff_eq.mpr c23
              clear c23
              replace H := Option.bind_eq_some_iff.mp H
              obtain ⟨t214, A240, H⟩ := H
              replace H : (ossuarylaw15_Areas.j0 k l2 t192 y203 (t214 != t211)) = some r := H
              have A24 := Aside0.mk A240
              clear A240
              have H' := Aside0.mk H
              clear H
              obtain ⟨Ao25, co25, eo25⟩ := Kd.R_slice HO195.out
              subst eo25
              obtain ⟨Ao26, co26, eo26⟩ := Kd.R_slice HO199.out
              subst eo26
              go_wp2_with (first | ((with_reducible refine gate_callee (f := 11) rfl ?_); refine goesL_ (some 47) rfl rfl Try.func11 (by kernel_rfl) rfl #[.slice Ao25 t192.length co25, .slice Ao26 t196.length co26] rfl (by (try simp only [List.map_toArray, List.map_cons, List.map_nil]); first | done | rfl | (simp only [List.length_drop, List.length_take]; rfl)) ?_; (with_reducible refine (ossuarylaw0_SameTexts.calls k _ _ t192 _ _ t196 true _ ?side1 ?side2 ?side3 ?side4 A18.out).mono ?_); (case side1 => repeat (first | exact (Kd.R_reads' HO195.out).2.2 | (with_reducible refine Kd.C_alloc ?_ _) | (with_reducible refine Kd.C_drewN ?_ _) | (with_reducible refine Kd.C_drew ?_))); (case side2 => exact (Kd.R_reads' HO195.out).2.1); (case side3 => repeat (first | exact (Kd.R_reads' HO199.out).2.2 | (with_reducible refine Kd.C_alloc ?_ _) | (with_reducible refine Kd.C_drewN ?_ _) | (with_reducible refine Kd.C_drew ?_))); (case side4 => exact (Kd.R_reads' HO199.out).2.1); rintro e w' ⟨rfl, ⟨nd, rfl⟩⟩; refine ⟨_, rfl, ?_⟩) | (go_at_call 12; (with_reducible refine (ossuarylaw0_Num.calls t193 t213 _ A20.out).mono ?_); rintro e w' ⟨rfl, ⟨nd, rfl⟩⟩) | (go_at_call 12; (with_reducible refine (ossuarylaw0_Num.calls t208 t214 _ A24.out).mono ?_); rintro e w' ⟨rfl, ⟨nd, rfl⟩⟩))
              go_meet
              case rel => exact ⟨_, ((t214 != t211)), (by first | rfl | (simp; done) | (simp [*]; done)), H', ⟨by first | omega | exact Nat.le_refl _⟩, ⟨by (with_reducible repeat (first | apply Kd.R_alloc | apply Kd.R_drewN | apply Kd.R_drew)); exact Kd.R_mono HO195.out (fun _ hk => hk.2)⟩, ⟨by (with_reducible repeat (first | apply Kd.R_alloc | apply Kd.R_drewN | apply Kd.R_drew)); exact Kd.R_mono HO205.out (fun _ hk => hk.1)⟩, ⟨by repeat (first | (with_reducible first | exact HB.out | apply below_alloc | apply pw_below_drewN | apply below_drew1) | exact HB.out)⟩⟩
            · rw [if_neg c23] at H
              have c23b0 : (t207.toList == t210.toList) = false := beq_eq_false_iff_ne.mpr c23
              have c23b1 : (t207.toList != t210.toList) = true := bne_iff_ne.mpr c23
              have H' := Aside0.mk H
              clear H
              obtain ⟨Ao27, co27, eo27⟩ := Kd.R_slice HO195.out
              subst eo27
              obtain ⟨Ao28, co28, eo28⟩ := Kd.R_slice HO199.out
              subst eo28
              go_wp2_with (first | ((with_reducible refine gate_callee (f := 11) rfl ?_); refine goesL_ (some 47) rfl rfl Try.func11 (by kernel_rfl) rfl #[.slice Ao27 t192.length co27, .slice Ao28 t196.length co28] rfl (by (try simp only [List.map_toArray, List.map_cons, List.map_nil]); first | done | rfl | (simp only [List.length_drop, List.length_take]; rfl)) ?_; (with_reducible refine (ossuarylaw0_SameTexts.calls k _ _ t192 _ _ t196 true _ ?side1 ?side2 ?side3 ?side4 A18.out).mono ?_); (case side1 => repeat (first | exact (Kd.R_reads' HO195.out).2.2 | (with_reducible refine Kd.C_alloc ?_ _) | (with_reducible refine Kd.C_drewN ?_ _) | (with_reducible refine Kd.C_drew ?_))); (case side2 => exact (Kd.R_reads' HO195.out).2.1); (case side3 => repeat (first | exact (Kd.R_reads' HO199.out).2.2 | (with_reducible refine Kd.C_alloc ?_ _) | (with_reducible refine Kd.C_drewN ?_ _) | (with_reducible refine Kd.C_drew ?_))); (case side4 => exact (Kd.R_reads' HO199.out).2.1); rintro e w' ⟨rfl, ⟨nd, rfl⟩⟩; refine ⟨_, rfl, ?_⟩) | (go_at_call 12; (with_reducible refine (ossuarylaw0_Num.calls t193 t213 _ A20.out).mono ?_); rintro e w' ⟨rfl, ⟨nd, rfl⟩⟩))
              go_meet
              case rel => exact ⟨_, (true), (by first | rfl | (simp; done) | (simp [*]; done)), H', ⟨by first | omega | exact Nat.le_refl _⟩, ⟨by (with_reducible repeat (first | apply Kd.R_alloc | apply Kd.R_drewN | apply Kd.R_drew)); exact Kd.R_mono HO195.out (fun _ hk => hk.2)⟩, ⟨by (with_reducible repeat (first | apply Kd.R_alloc | apply Kd.R_drewN | apply Kd.R_drew)); exact Kd.R_mono HO205.out (fun _ hk => hk.1)⟩, ⟨by repeat (first | (with_reducible first | exact HB.out | apply below_alloc | apply pw_below_drewN | apply below_drew1) | exact HB.out)⟩⟩
          · rw [if_neg c22] at H
            have c22b0 : (t206 == t209) = false := beq_eq_false_iff_ne.mpr c22
            have c22b1 : (t206 != t209) = true := bne_iff_ne.mpr c22
            have H' := Aside0.mk H
            clear H
            obtain ⟨Ao29, co29, eo29⟩ := Kd.R_slice HO195.out
            subst eo29
            obtain ⟨Ao30, co30, eo30⟩ := Kd.R_slice HO199.out
            subst eo30
            go_wp2_with (first | ((with_reducible refine gate_callee (f := 11) rfl ?_); refine goesL_ (some 47) rfl rfl Try.func11 (by kernel_rfl) rfl #[.slice Ao29 t192.length co29, .slice Ao30 t196.length co30] rfl (by (try simp only [List.map_toArray, List.map_cons, List.map_nil]); first | done | rfl | (simp only [List.length_drop, List.length_take]; rfl)) ?_; (with_reducible refine (ossuarylaw0_SameTexts.calls k _ _ t192 _ _ t196 true _ ?side1 ?side2 ?side3 ?side4 A18.out).mono ?_); (case side1 => repeat (first | exact (Kd.R_reads' HO195.out).2.2 | (with_reducible refine Kd.C_alloc ?_ _) | (with_reducible refine Kd.C_drewN ?_ _) | (with_reducible refine Kd.C_drew ?_))); (case side2 => exact (Kd.R_reads' HO195.out).2.1); (case side3 => repeat (first | exact (Kd.R_reads' HO199.out).2.2 | (with_reducible refine Kd.C_alloc ?_ _) | (with_reducible refine Kd.C_drewN ?_ _) | (with_reducible refine Kd.C_drew ?_))); (case side4 => exact (Kd.R_reads' HO199.out).2.1); rintro e w' ⟨rfl, ⟨nd, rfl⟩⟩; refine ⟨_, rfl, ?_⟩) | (go_at_call 12; (with_reducible refine (ossuarylaw0_Num.calls t193 t213 _ A20.out).mono ?_); rintro e w' ⟨rfl, ⟨nd, rfl⟩⟩))
            go_meet
            case rel => exact ⟨_, (true), (by first | rfl | (simp; done) | (simp [*]; done)), H', ⟨by first | omega | exact Nat.le_refl _⟩, ⟨by (with_reducible repeat (first | apply Kd.R_alloc | apply Kd.R_drewN | apply Kd.R_drew)); exact Kd.R_mono HO195.out (fun _ hk => hk.2)⟩, ⟨by (with_reducible repeat (first | apply Kd.R_alloc | apply Kd.R_drewN | apply Kd.R_drew)); exact Kd.R_mono HO205.out (fun _ hk => hk.1)⟩, ⟨by repeat (first | (with_reducible first | exact HB.out | apply below_alloc | apply pw_below_drewN | apply below_drew1) | exact HB.out)⟩⟩
        · rw [if_neg c21] at H
          have c21b0 : (t213 == t197) = false := beq_eq_false_iff_ne.mpr c21
          have c21b1 : (t213 != t197) = true := bne_iff_ne.mpr c21
          (first | rw [c21b0] | (simp only [i64_w, i32_w]; rw [c21b0]) | skip)
          have H' := Aside0.mk H
          clear H
          obtain ⟨Ao31, co31, eo31⟩ := Kd.R_slice HO195.out
          subst eo31
          obtain ⟨Ao32, co32, eo32⟩ := Kd.R_slice HO199.out
          subst eo32
          go_wp2_with (first | ((with_reducible refine gate_callee (f := 11) rfl ?_); refine goesL_ (some 47) rfl rfl Try.func11 (by kernel_rfl) rfl #[.slice Ao31 t192.length co31, .slice Ao32 t196.length co32] rfl (by (try simp only [List.map_toArray, List.map_cons, List.map_nil]); first | done | rfl | (simp only [List.length_drop, List.length_take]; rfl)) ?_; (with_reducible refine (ossuarylaw0_SameTexts.calls k _ _ t192 _ _ t196 true _ ?side1 ?side2 ?side3 ?side4 A18.out).mono ?_); (case side1 => repeat (first | exact (Kd.R_reads' HO195.out).2.2 | (with_reducible refine Kd.C_alloc ?_ _) | (with_reducible refine Kd.C_drewN ?_ _) | (with_reducible refine Kd.C_drew ?_))); (case side2 => exact (Kd.R_reads' HO195.out).2.1); (case side3 => repeat (first | exact (Kd.R_reads' HO199.out).2.2 | (with_reducible refine Kd.C_alloc ?_ _) | (with_reducible refine Kd.C_drewN ?_ _) | (with_reducible refine Kd.C_drew ?_))); (case side4 => exact (Kd.R_reads' HO199.out).2.1); rintro e w' ⟨rfl, ⟨nd, rfl⟩⟩; refine ⟨_, rfl, ?_⟩) | (go_at_call 12; (with_reducible refine (ossuarylaw0_Num.calls t193 t213 _ A20.out).mono ?_); rintro e w' ⟨rfl, ⟨nd, rfl⟩⟩))
          go_meet
          case rel => exact ⟨_, (true), (by first | rfl | (simp; done) | (simp [*]; done)), H', ⟨by first | omega | exact Nat.le_refl _⟩, ⟨by (with_reducible repeat (first | apply Kd.R_alloc | apply Kd.R_drewN | apply Kd.R_drew)); exact Kd.R_mono HO195.out (fun _ hk => hk.2)⟩, ⟨by (with_reducible repeat (first | apply Kd.R_alloc | apply Kd.R_drewN | apply Kd.R_drew)); exact Kd.R_mono HO205.out (fun _ hk => hk.1)⟩, ⟨by repeat (first | (with_reducible first | exact HB.out | apply below_alloc | apply pw_below_drewN | apply below_drew1) | exact HB.out)⟩⟩
      · replace c19 := Bool.eq_false_iff.mpr c19
        subst c19
        have H1 : (ossuarylaw15_Areas.j0 k l2 t192 y203 true) = some r := by rw [if_neg (show ¬ (false = true) by decide)] at H; exact H
        clear H
        have H := H1
        clear H1
        have H' := Aside0.mk H
        clear H
        obtain ⟨Ao33, co33, eo33⟩ := Kd.R_slice HO195.out
        subst eo33
        obtain ⟨Ao34, co34, eo34⟩ := Kd.R_slice HO199.out
        subst eo34
        go_wp2_with (first | ((with_reducible refine gate_callee (f := 11) rfl ?_); refine goesL_ (some 47) rfl rfl Try.func11 (by kernel_rfl) rfl #[.slice Ao33 t192.length co33, .slice Ao34 t196.length co34] rfl (by (try simp only [List.map_toArray, List.map_cons, List.map_nil]); first | done | rfl | (simp only [List.length_drop, List.length_take]; rfl)) ?_; (with_reducible refine (ossuarylaw0_SameTexts.calls k _ _ t192 _ _ t196 false _ ?side1 ?side2 ?side3 ?side4 A18.out).mono ?_); (case side1 => repeat (first | exact (Kd.R_reads' HO195.out).2.2 | (with_reducible refine Kd.C_alloc ?_ _) | (with_reducible refine Kd.C_drewN ?_ _) | (with_reducible refine Kd.C_drew ?_))); (case side2 => exact (Kd.R_reads' HO195.out).2.1); (case side3 => repeat (first | exact (Kd.R_reads' HO199.out).2.2 | (with_reducible refine Kd.C_alloc ?_ _) | (with_reducible refine Kd.C_drewN ?_ _) | (with_reducible refine Kd.C_drew ?_))); (case side4 => exact (Kd.R_reads' HO199.out).2.1); rintro e w' ⟨rfl, ⟨nd, rfl⟩⟩; refine ⟨_, rfl, ?_⟩))
        go_meet
        case rel => exact ⟨_, (true), (by first | rfl | (simp; done) | (simp [*]; done)), H', ⟨by first | omega | exact Nat.le_refl _⟩, ⟨by (with_reducible repeat (first | apply Kd.R_alloc | apply Kd.R_drewN | apply Kd.R_drew)); exact Kd.R_mono HO195.out (fun _ hk => hk.2)⟩, ⟨by (with_reducible repeat (first | apply Kd.R_alloc | apply Kd.R_drewN | apply Kd.R_drew)); exact Kd.R_mono HO205.out (fun _ hk => hk.1)⟩, ⟨by repeat (first | (with_reducible first | exact HB.out | apply below_alloc | apply pw_below_drewN | apply below_drew1) | exact HB.out)⟩⟩
    case rest =>
      clear HC9
      try clear c1
      try clear c2
      try clear p2
      try clear c3
      try clear c6
      try clear c7
      try clear c8
      try clear c9
      try clear c10
      try clear c11
      try clear c19
      try clear c21
      try clear c21b0
      try clear c21b1
      try clear c22
      try clear c22b0
      try clear c22b1
      try clear c23
      try clear c23b0
      try clear c23b1
      obtain ⟨kq, x70_8, rfl, HA, HJ8, HO_7, HO_11, HB⟩ := hcut
      cases kq with
      | zero => exact absurd HA.out (by simp [ossuarylaw15_Areas.j0])
      | succ kj8 =>
        have H := HA.out
        clear HA
        simp only [ossuarylaw15_Areas.j0] at H
        by_cases c35 : x70_8 = true
        · subst c35
          have H1 : (some false) = some r := by rw [if_pos rfl] at H; exact H
          clear H
          have H := H1
          clear H1
          exact absurd (Option.some.inj H) (by rw [HRT.out]; decide)
        · replace c35 := Bool.eq_false_iff.mpr c35
          subst c35
          have H1 : ((ossuarylaw0_SpoilTexts.f kj8 t192).bind fun t215 => ((ossuarylaw0_SameTexts.f kj8 y203 l2).bind fun t216 => (if t216 = true then ((ossuarylaw15_awake.f kj8).bind fun t217 => (some t217)) else (some false)))) = some r := by rw [if_neg (show ¬ (false = true) by decide)] at H; exact H
          clear H
          have H := H1
          clear H1
          replace H := Option.bind_eq_some_iff.mp H
          obtain ⟨t215, A360, H⟩ := H
          replace H : ((ossuarylaw0_SameTexts.f kj8 y203 l2).bind fun t216 => (if t216 = true then ((ossuarylaw15_awake.f kj8).bind fun t217 => (some t217)) else (some false))) = some r := H
          have A36 := Aside0.mk A360
          clear A360
          replace H := Option.bind_eq_some_iff.mp H
          obtain ⟨t216, A370, H⟩ := H
          replace H : (if t216 = true then ((ossuarylaw15_awake.f kj8).bind fun t217 => (some t217)) else (some false)) = some r := H
          have A37 := Aside0.mk A370
          clear A370
          by_cases c38 : t216 = true
          · subst c38
            have H1 : ((ossuarylaw15_awake.f kj8).bind fun t217 => (some t217)) = some r := by rw [if_pos rfl] at H; exact H
            clear H
            have H := H1
            clear H1
            replace H := Option.bind_eq_some_iff.mp H
            obtain ⟨t217, A390, H⟩ := H
            replace H : (some t217) = some r := H
            have A39 := Aside0.mk A390
            clear A390
            obtain rfl := Option.some.inj H
            obtain ⟨Ao40, co40, eo40⟩ := Kd.R_slice HO_7.out
            subst eo40
            go_wp2_with (first | ((with_reducible refine gate_callee (f := 13) rfl ?_); refine goesL_ (some 72) rfl rfl Try.func13 (by kernel_rfl) rfl #[.slice Ao40 t192.length co40] rfl (by (try simp only [List.map_toArray, List.map_cons, List.map_nil]); first | done | rfl | (simp only [List.length_drop, List.length_take]; rfl)) ?_; (with_reducible refine (ossuarylaw0_SpoilTexts.calls kj8 (fun k_ => some k_ = (.slice Ao40 t192.length co40 : Value).ownBlock) (.slice Ao40 t192.length co40) t192 t215 w _ ?side1 ?side2 A36.out).mono ?_); (case side1 => repeat (first | (with_reducible first | exact HB.out | apply below_alloc | apply pw_below_drewN | apply below_drew1) | exact HB.out)); (case side2 => exact Kd.R_tight rfl HO_7.out); rintro e w41 ⟨rfl, hy0, hb, hkp⟩; refine ⟨_, rfl, ?_⟩; have n0_ := Aside0.mk (Kd.R_reok rfl hy0 (fun k_ e_ => HO_7.out.1 k_ e_)); have n1_ := Aside0.mk (Kd.R_mono (ok' := fun k_ => some k_ ≠ (.slice Ao40 t192.length co40 : Value).ownBlock) (Kd.R_keptB (HO_11.out) hkp (fun k_ hk_ hs_ => (hk_) hs_)) (fun k_ hk_ => hk_.1)); have n2_ := Aside0.mk (hb); clear HO_7; clear HO_11; clear HB; have HO_7 := n0_; have HO_11 := n1_; have HB := n2_; clear n0_ n1_ n2_; (try clear hb); (try clear hkp); (try clear hy0)) | ((with_reducible refine gate_callee (f := 11) rfl ?_); refine goesL_ (some 75) rfl rfl Try.func11 (by kernel_rfl) rfl #[.slice Ao15 y203.length co15, .slice A2 l2.length c2] rfl (by (try simp only [List.map_toArray, List.map_cons, List.map_nil]); first | done | rfl | (simp only [List.length_drop, List.length_take]; rfl)) ?_; (with_reducible refine (ossuarylaw0_SameTexts.calls kj8 _ _ y203 _ _ l2 true _ ?side1 ?side2 ?side3 ?side4 A37.out).mono ?_); (case side1 => repeat (first | exact (Kd.R_reads' HO_11.out).2.2 | (with_reducible refine Kd.C_alloc ?_ _) | (with_reducible refine Kd.C_drewN ?_ _) | (with_reducible refine Kd.C_drew ?_))); (case side2 => exact (Kd.R_reads' HO_11.out).2.1); (case side3 => repeat (first | exact (Kd.C_below HR2.out HB.out) | (with_reducible refine Kd.C_alloc ?_ _) | (with_reducible refine Kd.C_drewN ?_ _) | (with_reducible refine Kd.C_drew ?_))); (case side4 => exact HC2.out); rintro e w' ⟨rfl, ⟨nd, rfl⟩⟩; refine ⟨_, rfl, ?_⟩) | (go_at_call 14; (with_reducible refine (ossuarylaw15_awake.calls kj8  t217 _ A39.out (hr_ := by first | rfl | exact HRT.out)).mono ?_); rintro e w42 ⟨rfl, hb⟩; have n0_ := Aside0.mk (Kd.R_below (by (with_reducible repeat (first | apply Kd.R_alloc | apply Kd.R_drewN | apply Kd.R_drew)); exact HO_7.out) hb); have n1_ := Aside0.mk (Kd.R_below (by (with_reducible repeat (first | apply Kd.R_alloc | apply Kd.R_drewN | apply Kd.R_drew)); exact HO_11.out) hb); have n2_ := Aside0.mk (below_step (by repeat (first | (with_reducible first | exact HB.out | apply below_alloc | apply pw_below_drewN | apply below_drew1) | exact HB.out)) hb); clear HO_7; clear HO_11; clear HB; have HO_7 := n0_; have HO_11 := n1_; have HB := n2_; clear n0_ n1_ n2_; (try clear hb); (try clear hb2); (try clear hk); (try clear hi)))
            go_ret
            exact ⟨by first | rfl | (simp [errW_none, errW_some] <;> rfl) | (simp [*, errW_none, errW_some] <;> rfl), by repeat (first | (with_reducible first | exact HB.out | apply below_alloc | apply pw_below_drewN | apply below_drew1) | exact HB.out)⟩
          · replace c38 := Bool.eq_false_iff.mpr c38
            subst c38
            have H1 : (some false) = some r := by rw [if_neg (show ¬ (false = true) by decide)] at H; exact H
            clear H
            have H := H1
            clear H1
            exact absurd (Option.some.inj H) (by rw [HRT.out]; decide)
  · rw [if_neg c6] at H
    exact absurd H (by simp)

end Go.Proofs.Ytmphljlooopcdaa.HAreas
