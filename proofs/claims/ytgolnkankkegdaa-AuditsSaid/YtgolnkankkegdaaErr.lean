/- The errors of package audit, walked: may a question be (27), errors.Join of two (25), errors.Is of what it gives (28). -/
import Derived.Test.YtgolnkankkegdaaProg
import Derived.Test.YtgolnkankkegdaaVAuditsWords
import Derived.Test.YtgolnkankkegdaaVAuditsLast
import Derived.Test.YtgolnkankkegdaaVAuditsMore
import Derived.Below
import Derived.WalkKit
import Derived.KernelRfl
import Derived.Lib.Hide
import Derived.Tactics
import Derived.RowKit3
import Derived.Deep.Draws
import Derived.BigQuiet
import Derived.OwnWalk
import Derived.Deep.Heap
import Derived.LaidEql
import Derived.Stop.Asserts
import Derived.Lib.IfaceEq
import Derived.RowKitTokens
namespace Go.Proofs.YtgolnkankkegdaaErr
open Go Go.RowKit Go.Extern.Stop Go.Stop Go.Extern Go.Proofs.YtgolnkankkegdaaW.PrintWords Go.Proofs.YtgolnkankkegdaaW.PrintLast Go.Proofs.YtgolnkankkegdaaW.PrintMore
set_option linter.unusedVariables false
set_option linter.unusedSimpArgs false
/-- Is a number none of a block? -/
def noneB (b : Int) : Bool := decide (b < 0) || decide (4 ≤ b)
theorem none_walk (b : Int) (w : World) : Calls Try.prog 44 #[.int .i64 b] w fun e w' => e = .returned (.bool (noneB b)) ∧ w = w' := by
  by_cases c1 : b < 0
  · have d1 : decide (b < 0) = true := decide_eq_true c1
    have e1 : noneB b = true := by unfold noneB; rw [d1]; rfl
    rw [e1]
    go_enter Try.func44, Try.ntmps44
    go_wp2
    go_ret
    exact ⟨rfl, rfl⟩
  · have d1 : decide (b < 0) = false := decide_eq_false c1
    cases d2 : decide (4 ≤ b)
    all_goals
      have e1 : noneB b = decide (4 ≤ b) := by unfold noneB; rw [d1]; rfl
      rw [d2] at e1
      rw [e1]
      go_enter Try.func44, Try.ntmps44
      go_wp2
      go_ret
      exact ⟨rfl, rfl⟩
/-- The least number of a place where something is so, or one less than 0. -/
def findP (p : Nat → Bool) : Nat → Nat → Int
  | 0, _ => -1
  | d + 1, i => if p i then (i : Int) else findP p d (i + 1)
theorem findP_ge (p : Nat → Bool) : ∀ (d i : Nat), decide (findP p d i ≥ 0) = (List.range d).any (fun j => p (i + j))
  | 0, _ => rfl
  | d + 1, i => by
    rw [findP, List.range_succ_eq_map, List.any_cons, List.any_map]
    by_cases h : p i = true
    · rw [if_pos h, show p (i + 0) = true from h, Bool.true_or, decide_eq_true (by omega)]
    · rw [if_neg h, show p (i + 0) = false from by simpa using h, Bool.false_or, findP_ge p d (i + 1)]
      congr 1
      funext j
      simp [Function.comp, Nat.add_assoc, Nat.add_comm 1 j]
/-- Up to here nothing was found. -/
def Sought (p : Nat → Bool) (n : Nat) (i : Value) : Prop := ∃ k : Nat, k ≤ n ∧ i = .int .i64 (k : Int) ∧ Hid (findP p n 0 = findP p (n - k) k)
theorem idx_walk (A : Option Addr) (n c : Nat) (f : Nat → Int) (w : World) (hn : n ≤ 9223372036854775807) (hc : ∀ j, j < n → ∃ ad, A = some ad ∧ w.cell? (ad.add j) = some (.int .i64 (f j))) :
    Calls Try.prog 59 #[.slice A n c, .func (.func 44) #[] #[]] w fun e w' => e = .returned (.int .i64 (findP (fun j => noneB (f j)) n 0)) ∧ w = w' := by
  have HC := Lib.hid hc
  clear hc
  go_enter Try.func59, Try.ntmps59
  go_wp2
  go_loop [8] (fun i => Sought (fun j => noneB (f j)) n i) (fun i => n - (intOf i).toNat)
  case atStart => exact ⟨0, Nat.zero_le _, rfl, Lib.hid rfl⟩
  case round =>
    obtain ⟨k, hk, rfl, hs⟩ := hrel
    by_cases hlt : k < n
    · obtain ⟨ad, rfl, hcell⟩ := HC.out k hlt
      cases hp : noneB (f k)
      all_goals
        have HP := Lib.hid hp
        go_wp2_with (go_at_call 44; refine (none_walk _ _).mono ?_; rintro e w' ⟨rfl, rfl⟩)
        first
          | (go_ret; refine ⟨congrArg (fun z => Ending.returned (.int .i64 z)) ?_, rfl⟩; rw [hs.out, show n - k = (n - k - 1) + 1 from by omega, findP, if_pos HP.out])
          | (go_round; (case rel => exact ⟨k + 1, by omega, by go_num, Lib.hid (by rw [hs.out, show n - k = (n - (k + 1)) + 1 from by omega, findP, if_neg (by rw [HP.out]; simp)])⟩); (case measure => simp [intOf]; omega))
    · obtain rfl : k = n := by omega
      go_wp2
      go_ret
      exact ⟨congrArg (fun z => Ending.returned (.int .i64 z)) (by rw [hs.out, Nat.sub_self]; rfl), rfl⟩
theorem any_walk (A : Option Addr) (n c : Nat) (f : Nat → Int) (w : World) (hn : n ≤ 9223372036854775807) (hc : ∀ j, j < n → ∃ ad, A = some ad ∧ w.cell? (ad.add j) = some (.int .i64 (f j))) :
    Calls Try.prog 46 #[.slice A n c, .func (.func 44) #[] #[]] w fun e w' => e = .returned (.bool ((List.range n).any fun j => noneB (f j))) ∧ w = w' := by
  have h1 := findP_ge (fun j => noneB (f j)) n 0
  simp only [Nat.zero_add] at h1
  have H1 := Lib.hid h1
  have HC := Lib.hid hc
  clear hc h1
  go_enter Try.func46, Try.ntmps46
  go_wp2_with (go_at_call 59; refine (idx_walk A n c f _ hn HC.out).mono ?_; rintro e w' ⟨rfl, rfl⟩)
  go_ret
  exact ⟨by rw [← H1.out]; rfl, rfl⟩
/-- Is a number a seal? -/
def sealB (x : Int) : Bool := decide (0 ≤ x) && decide (x < 2147483647)
theorem seal_walk (x : Int) (w : World) : Calls Try.prog 45 #[.int .i64 x] w fun e w' => e = .returned (.bool (sealB x)) ∧ w = w' := by
  by_cases c1 : x ≥ 0
  · have d1 : decide (x ≥ 0) = true := decide_eq_true c1
    have e1 : sealB x = decide (x < 2147483647) := by unfold sealB; rw [show decide (0 ≤ x) = true from d1]; rfl
    cases d2 : decide (x < 2147483647)
    all_goals
      rw [d2] at e1
      rw [e1]
      go_enter Try.func45, Try.ntmps45
      go_wp2
      go_ret
      exact ⟨rfl, rfl⟩
  · have d1 : decide (x ≥ 0) = false := decide_eq_false c1
    have e1 : sealB x = false := by unfold sealB; rw [show decide (0 ≤ x) = false from d1]; rfl
    rw [e1]
    go_enter Try.func45, Try.ntmps45
    go_wp2
    go_ret
    exact ⟨rfl, rfl⟩
/-- An error that is none, or the fault of this package. -/
def Fault (t : Bool) (v : Value) (w : World) : Prop := (t = false ∧ v = .nilIface) ∨ (t = true ∧ ∃ g s, v = .iface 81 (.pointer (some ⟨g, 0, none⟩)) ∧ w.heap[g]? = some (.cells #[.string s, .iface 28 (.int .i64 1200)] 83 (0, 0)))
theorem Fault.below {t : Bool} {v : Value} {w w' : World} (h : Fault t v w) (hb : Below w.heap.size w w') : Fault t v w' := by
  rcases h with h | ⟨ht, g, s, hv, hg⟩
  · exact Or.inl h
  · exact Or.inr ⟨ht, g, s, hv, blk_below hg hb⟩
/-- May a question be? -/
def askB (nonce : Int) (n : Nat) (f : Nat → Int) : Bool := sealB nonce && decide (1 ≤ n) && decide (n ≤ 64) && !((List.range n).any fun j => noneB (f j))
set_option maxRecDepth 100000 in
theorem may_walk (nonce : Int) (A : Option Addr) (n c : Nat) (f : Nat → Int) (w : World) (hn : n ≤ 9223372036854775807) (hc : ∀ j, j < n → ∃ ad, A = some ad ∧ w.cell? (ad.add j) = some (.int .i64 (f j))) :
    Calls Try.prog 27 #[.agg #[.int .i64 nonce, .slice A n c]] w fun e w' => ∃ v, e = .returned v ∧ Fault (!askB nonce n f) v w' ∧ Below w.heap.size w w' := by
  have HC := Lib.hid hc
  clear hc
  have hu24 := Try.underlying24
  have hu83 := Try.underlying83
  cases c1 : sealB nonce
  all_goals by_cases c2 : (n : Int) < 1
  all_goals by_cases c3 : (n : Int) > 64
  all_goals try (exfalso; omega)
  all_goals cases c4 : (List.range n).any fun j => noneB (f j)
  all_goals
    have e0 : askB nonce n f = (sealB nonce && decide (1 ≤ n) && decide (n ≤ 64) && !((List.range n).any fun j => noneB (f j))) := rfl
    rw [c1, c4] at e0
    first
      | have d2 : decide ((n : Int) < 1) = true := decide_eq_true c2
      | have d2 : decide ((n : Int) < 1) = false := decide_eq_false c2
    first
      | have d3 : decide ((n : Int) > 64) = true := decide_eq_true c3
      | have d3 : decide ((n : Int) > 64) = false := decide_eq_false c3
    first
      | rw [show decide (1 ≤ n) = false from decide_eq_false (by omega)] at e0
      | rw [show decide (1 ≤ n) = true from decide_eq_true (by omega)] at e0
    first
      | rw [show decide (n ≤ 64) = false from decide_eq_false (by omega)] at e0
      | rw [show decide (n ≤ 64) = true from decide_eq_true (by omega)] at e0
    have C1 := Lib.hid c1
    have C4 := Lib.hid c4
    simp only [Bool.and_true, Bool.true_and, Bool.and_false, Bool.false_and, Bool.not_true, Bool.not_false] at e0
    rw [e0]
    have hs := fun W => seal_walk nonce W
    rw [c1] at hs
    have ha := fun W (hb : Below w.heap.size w W) => any_walk A n c f W hn (fun j hj => by obtain ⟨ad, e, h⟩ := HC.out j hj; exact ⟨ad, e, pw_cell_below hb h⟩)
    rw [c4] at ha
    have HS := Lib.hid hs
    have HA := Lib.hid ha
    clear hs ha c1 c4 e0
    go_enter Try.func27, Try.ntmps27
    go_wp2_with (first
      | ((with_reducible refine gate_dst (N := 1) rfl ?_); refine box_event ?hg (N := 1) ?hd (cs := #[.int .i64 nonce, .slice A n c]) (t := 24) ?hr ?_; (case hd => rfl); (case hg => rfl); (case hr => first | (go_simp; done) | (go_simp; rfl)); intro gb hgb w2 hbox hb; have q1 : w2.cell? ⟨gb, 0, none⟩ = some (.int .i64 nonce) := (blk_cell hbox 0).trans rfl; have q2 : w2.cell? ⟨gb, 1, none⟩ = some (.slice A n c) := (blk_cell hbox 1).trans rfl; clear hbox hgb)
      | ((with_reducible refine gate_dst (N := 28) rfl ?_); refine box_event ?hg (N := 28) ?hd (cs := #[.string ⟨#[113, 117, 101, 115, 116, 105, 111, 110]⟩, .iface 28 (.int .i64 1200)]) (t := 83) ?hr ?_; (case hd => rfl); (case hg => rfl); (case hr => first | (go_simp; done) | (go_simp; rfl)); intro gf hgf w4 hbf hbf2; have HB4 := below_step hb hbf2; have HFX := Lib.hid hbf; clear hbf hgf)
      | (go_at_call 45; refine (HS.out _).mono ?_; rintro e w' ⟨rfl, rfl⟩)
      | (go_at_call 46; refine (HA.out _ hb).mono ?_; rintro e w' ⟨rfl, rfl⟩))
    go_ret
    first
      | exact ⟨_, rfl, Or.inl ⟨rfl, rfl⟩, hb⟩
      | exact ⟨_, rfl, Or.inr ⟨rfl, _, _, rfl, HFX.out⟩, HB4⟩
/-! ### errors.Is -/
theorem is_typeOf (v : Value) (w : World) : (Extern.ReflectliteType.typeOf #[.iface 28 v]).run Try.prog w = .ok (.iface 94 (.agg #[.pointer (some ⟨0, 28, none⟩)])) w := by kernel_rfl
theorem is_comparable (w : World) : ((Extern.ReflectliteType.method fun t => do Go.Extern.Rtype.noPackHeld "Comparable" t; (fun a => Value.bool a.comparable) <$> typeInfo t) #[.agg #[.pointer (some ⟨0, 28, none⟩)]]).run Try.prog w = .ok (.bool true) w := by kernel_rfl
theorem is_methodComparable (v : Value) (w : World) : (Go.method 236 94 v "Comparable").run Try.prog w = .ok (87, v) w := by kernel_rfl
theorem is_noIsF (v : Value) (xT : TypeId) (w : World) : (Instr.typeAssert (.iface 81 v) xT 96 true).run Try.prog w = .ok (.tuple #[.nilIface, .bool false]) w := run_typeAssert_lacksB Try.underlying96 (by kernel_rfl) (by kernel_rfl) v xT w
theorem is_noIsJ (v : Value) (xT : TypeId) (w : World) : (Instr.typeAssert (.iface 77 v) xT 96 true).run Try.prog w = .ok (.tuple #[.nilIface, .bool false]) w := run_typeAssert_lacksB Try.underlying96 (by kernel_rfl) (by kernel_rfl) v xT w
theorem is_unwrapF (v : Value) (xT : TypeId) (w : World) : (Instr.typeAssert (.iface 81 v) xT 99 true).run Try.prog w = .ok (.tuple #[.iface 81 v, .bool true]) w := run_typeAssert_hasB Try.underlying99 (by kernel_rfl) v xT w
theorem is_noUnwrapJ (v : Value) (xT : TypeId) (w : World) : (Instr.typeAssert (.iface 77 v) xT 99 true).run Try.prog w = .ok (.tuple #[.nilIface, .bool false]) w := run_typeAssert_lacksB Try.underlying99 (by kernel_rfl) (by kernel_rfl) v xT w
theorem is_unwrapsJ (v : Value) (xT : TypeId) (w : World) : (Instr.typeAssert (.iface 77 v) xT 101 true).run Try.prog w = .ok (.tuple #[.iface 77 v, .bool true]) w := run_typeAssert_hasB Try.underlying101 (by kernel_rfl) v xT w
theorem is_methodF (v : Value) (w : World) : (Go.method 236 81 v "Unwrap").run Try.prog w = .ok (83, v) w := by kernel_rfl
theorem is_methodJ (v : Value) (w : World) : (Go.method 236 77 v "Unwrap").run Try.prog w = .ok (81, v) w := by kernel_rfl
theorem is_compE : (Try.prog.info? 28).map (·.comparable) = some true := by kernel_rfl
set_option maxRecDepth 100000 in
/-- errors.is over a fault: one Unwrap, then equal. -/
theorem isF_walk (g : Nat) (s : ByteArray) (w : World) (hg : w.heap[g]? = some (.cells #[.string s, .iface 28 (.int .i64 1200)] 83 (0, 0))) :
    Calls Try.prog 48 #[.iface 81 (.pointer (some ⟨g, 0, none⟩)), .iface 28 (.int .i64 1200), .bool true] w fun e w' => e = .returned (.bool true) ∧ w = w' := by
  have q1 : w.cell? ⟨g, 1, none⟩ = some (.iface 28 (.int .i64 1200)) := (blk_cell hg 1).trans rfl
  clear hg
  have hu83 := Try.underlying83
  have nI := is_noIsF
  have uF := is_unwrapF
  have mF := is_methodF
  have heq := Go.Lib.run_eql_iface_int (P := Try.prog) w (k := .i64) 1200 1200 Try.underlying58 is_compE Try.underlying28
  have hty := run_eql_iface_types (P := Try.prog) 81 28 (.pointer (some ⟨g, 0, none⟩)) (.int .i64 1200) Try.underlying58 (by decide) w
  go_enter Try.func48, Try.ntmps48
  go_wp2
  refine wp_loop_rounds 2 ?_
  rw [rounds_succ]
  go_wp2
  rw [rounds_succ]
  go_wp2
  go_ret
  exact ⟨rfl, rfl⟩
/-- What errors.Join gives: none, or a first fault. -/
def Joined (t : Bool) (v : Value) (w : World) : Prop := (t = false ∧ v = .nilIface) ∨ (t = true ∧ ∃ gj gs m c gf s, v = .iface 77 (.pointer (some ⟨gj, 0, none⟩)) ∧ w.cell? ⟨gj, 0, none⟩ = some (.slice (some ⟨gs, 0, none⟩) (m + 1) c) ∧ w.cell? ⟨gs, 0, none⟩ = some (.iface 81 (.pointer (some ⟨gf, 0, none⟩))) ∧ w.heap[gf]? = some (.cells #[.string s, .iface 28 (.int .i64 1200)] 83 (0, 0)) ∧ m + 1 ≤ 2)
set_option maxRecDepth 100000 in
theorem isJ_walk (gj gs m c gf : Nat) (s : ByteArray) (w : World) (q0 : w.cell? ⟨gj, 0, none⟩ = some (.slice (some ⟨gs, 0, none⟩) (m + 1) c)) (q1 : w.cell? ⟨gs, 0, none⟩ = some (.iface 81 (.pointer (some ⟨gf, 0, none⟩)))) (hg : w.heap[gf]? = some (.cells #[.string s, .iface 28 (.int .i64 1200)] 83 (0, 0))) (hm : m + 1 ≤ 2) :
    Calls Try.prog 48 #[.iface 77 (.pointer (some ⟨gj, 0, none⟩)), .iface 28 (.int .i64 1200), .bool true] w fun e w' => e = .returned (.bool true) ∧ w = w' := by
  have HF := Lib.hid (isF_walk gf s w hg)
  clear hg
  have hu79 := Try.underlying79
  have nI := is_noIsJ
  have uJ := is_noUnwrapJ
  have vJ := is_unwrapsJ
  have mJ := is_methodJ
  have hty := run_eql_iface_types (P := Try.prog) 77 28 (.pointer (some ⟨gj, 0, none⟩)) (.int .i64 1200) Try.underlying58 (by decide) w
  have hlt : decide ((0 : Int) < ((m + 1 : Nat) : Int)) = true := decide_eq_true (by omega)
  go_enter Try.func48, Try.ntmps48
  go_wp2
  refine wp_loop_rounds 1 ?_
  rw [rounds_succ]
  go_wp2
  refine wp_loop_rounds 1 ?_
  rw [rounds_succ]
  go_wp2_with (go_at_call 48; refine HF.out.mono ?_; rintro e w' ⟨rfl, rfl⟩)
  go_ret
  exact ⟨rfl, rfl⟩
set_option maxRecDepth 100000 in
theorem is_walk (t : Bool) (v : Value) (w : World) (h : Joined t v w) :
    Calls Try.prog 28 #[v, .iface 28 (.int .i64 1200)] w fun e w' => e = .returned (.bool t) ∧ w = w' := by
  rcases h with ⟨rfl, rfl⟩ | ⟨rfl, gj, gs, m, c, gf, s, rfl, q0, q1, hg, hm⟩
  · have hn := run_eql_iface_nil_left (P := Try.prog) w 28 (.int .i64 1200) Try.underlying58
    go_enter Try.func28, Try.ntmps28
    go_wp2
    go_ret
    exact ⟨rfl, rfl⟩
  · have HJ := Lib.hid (isJ_walk gj gs m c gf s w q0 q1 hg hm)
    clear q0 q1 hg
    have h47 := @run_callFunc_extern Try.prog 47 _ Extern.ReflectliteType.typeOf Try.func47 (by kernel_rfl) (by kernel_rfl) (by kernel_rfl) (by kernel_rfl)
    have h87 := @run_callFunc_extern Try.prog 87 _ (Extern.ReflectliteType.method fun t => do Go.Extern.Rtype.noPackHeld "Comparable" t; pure (.bool (← typeInfo t).comparable)) Try.func87 (by kernel_rfl) (by kernel_rfl) (by kernel_rfl) (by kernel_rfl)
    have tT := is_typeOf
    have cT := is_comparable
    have mR := is_methodComparable
    go_enter Try.func28, Try.ntmps28
    go_wp2_with (go_at_call 48; refine HJ.out.mono ?_; rintro e w' ⟨rfl, rfl⟩)
    go_ret
    exact ⟨rfl, rfl⟩
/-! ### errors.Join -/
theorem info58 : (Try.prog.info? 58).map (fun i => (i.zero, i.size, i.bytes)) = some (some .nilIface, 1, 16) := by kernel_rfl
/-- The joined errors so far: their row at the first block, the joining one's block. -/
structure JS (w : World) (g gj n k : Nat) (xs : List Value) (W : World) : Prop where
  below : Below w.heap.size w W
  ge : w.heap.size ≤ gj
  ne : gj ≠ g
  own : W.ownsRow w.heap.size 58 1 (.slice (some ⟨g, 0, none⟩) k n) k xs
  box : W.heap[gj]? = some (.cells #[.slice (some ⟨g, 0, none⟩) k n] 79 (0, 0))
theorem owns_block {W W' : World} {base e size g n c : Nat} {xs : List Value} (h : W.ownsRow base e size (.slice (some ⟨g, 0, none⟩) n c) n xs) (hb : W'.heap[g]? = W.heap[g]?) : W'.ownsRow base e size (.slice (some ⟨g, 0, none⟩) n c) n xs := by
  obtain ⟨h1, h2⟩ := h
  rcases h2 with ⟨h2, _⟩ | ⟨g', cap, cur, hv, h3, h4, h5⟩
  · cases h2
  · injection hv with e1 e2 e3
    injection e1 with e1
    injection e1 with e1 _ _
    subst e1 e3
    exact ⟨h1, Or.inr ⟨g, c, cur, rfl, h3, hb.trans h4, h5⟩⟩
theorem owns_lt {W : World} {base e size g n c : Nat} {xs : List Value} (h : W.ownsRow base e size (.slice (some ⟨g, 0, none⟩) n c) n xs) : g < W.heap.size := by
  obtain ⟨h1, h2⟩ := h
  rcases h2 with ⟨h2, _⟩ | ⟨g', cap, cur, hv, h3, h4, h5⟩
  · cases h2
  · injection hv with e1 e2 e3
    injection e1 with e1
    injection e1 with e1 _ _
    subst e1
    exact (Array.getElem?_eq_some_iff.1 h4).1
theorem js_start {w w1 w2 : World} {g gj n : Nat} (hb1 : Below w.heap.size w w1) (ho : w1.ownsRow w.heap.size 58 1 (.slice (some ⟨g, 0, none⟩) 0 n) 0 []) (hgj : gj = w1.heap.size) (hbox : w2.heap[gj]? = some (.cells #[.slice (some ⟨g, 0, none⟩) 0 n] 79 (0, 0))) (hb2 : Below w1.heap.size w1 w2) : JS w g gj n 0 [] w2 := by
  have hlt := owns_lt ho
  exact ⟨below_step hb1 hb2, by rw [hgj]; exact hb1.size, by omega, owns_block ho (hb2.block g hlt), hbox⟩
theorem js_owns {w W : World} {g gj n k : Nat} {xs : List Value} (h : JS w g gj n k xs W) (o : Obj) : (W.alloc o).ownsRow w.heap.size 58 1 (.slice (some ⟨g, 0, none⟩) k n) k xs :=
  owns_block h.own (Go.Deep.blk_alloc_lt _ _ _ (owns_lt h.own))
theorem js_midb {w W w4 : World} {g gj n k : Nat} {xs : List Value} {o : Obj} (h : JS w g gj n k xs W) (hg : (W.alloc o).grownBy w4 (some g)) : w4.heap[gj]? = some (.cells #[.slice (some ⟨g, 0, none⟩) k n] 79 (0, 0)) :=
  blk_grown (blk_alloc h.box o) hg (fun e => h.ne (Option.some.inj e))
theorem js_mid {w W w4 : World} {g gj n k : Nat} {xs : List Value} {o : Obj} (h : JS w g gj n k xs W) (hg : (W.alloc o).grownBy w4 (some g)) : w4.cell? ⟨gj, 0, none⟩ = some (.slice (some ⟨g, 0, none⟩) k n) := (blk_cell (js_midb h hg) 0).trans rfl
theorem owns_ge {W : World} {base e size g n c : Nat} {xs : List Value} (h : W.ownsRow base e size (.slice (some ⟨g, 0, none⟩) n c) n xs) : base ≤ g := by
  obtain ⟨h1, h2⟩ := h
  rcases h2 with ⟨h2, _⟩ | ⟨g', cap, cur, hv, h3, h4, h5⟩
  · cases h2
  · injection hv with e1 e2 e3
    injection e1 with e1
    injection e1 with e1 _ _
    subst e1
    exact h3
theorem js_next {w W w4 : World} {g gj n k k' : Nat} {xs ys : List Value} {o : Obj} (h : JS w g gj n k xs W) (hg : (W.alloc o).grownBy w4 (some g)) (ho : w4.ownsRow w.heap.size 58 1 (.slice (some ⟨g, 0, none⟩) k' n) k' ys) : JS w g gj n k' ys (w4.setCell ⟨gj, 0, none⟩ (.slice (some ⟨g, 0, none⟩) k' n)) :=
  ⟨below_set (Below.grown (below_alloc h.below o) hg (below_size (below_alloc h.below o)) (fun k e => by rw [← Option.some.inj e]; exact owns_ge ho)) h.ge, h.ge, h.ne, owns_block ho (Go.Deep.blk_setCell_other _ _ _ _ (fun e => h.ne e.symm)), blk_put (js_midb h hg) 0 _ rfl⟩
theorem js_joined {w W : World} {g gj n k gf : Nat} {xs : List Value} {s : ByteArray} (h : JS w g gj n (k + 1) (.iface 81 (.pointer (some ⟨gf, 0, none⟩)) :: xs) W) (hf : w.heap[gf]? = some (.cells #[.string s, .iface 28 (.int .i64 1200)] 83 (0, 0))) (hk : k + 1 ≤ 2) : Joined true (.iface 77 (.pointer (some ⟨gj, 0, none⟩))) W :=
  Or.inr ⟨rfl, gj, g, k, n, gf, s, rfl, (blk_cell h.box 0).trans rfl, (World.ownsRow.cellAt h.own 0 (by omega)).trans rfl, blk_below hf h.below, hk⟩
set_option maxRecDepth 100000 in
theorem join00 (gs : Nat) (w : World) (q0 : w.cell? ⟨gs, 0, none⟩ = some .nilIface) (q1 : w.cell? ⟨gs, 1, none⟩ = some .nilIface) :
    Calls Try.prog 25 #[.slice (some ⟨gs, 0, none⟩) 2 2] w fun e w' => ∃ v, e = .returned v ∧ Joined false v w' ∧ Below w.heap.size w w' := by
  go_enter Try.func25, Try.ntmps25
  go_wp2
  refine wp_loop_rounds 3 ?_
  rw [rounds_succ]
  go_wp2
  rw [rounds_succ]
  go_wp2
  rw [rounds_succ]
  go_wp2
  go_ret
  exact ⟨_, rfl, Or.inl ⟨rfl, rfl⟩, Below.refl _ _⟩
set_option maxRecDepth 100000 in
theorem join10 (gs g1 : Nat) (s1 : ByteArray) (w : World) (q0 : w.cell? ⟨gs, 0, none⟩ = some (.iface 81 (.pointer (some ⟨g1, 0, none⟩)))) (q1 : w.cell? ⟨gs, 1, none⟩ = some (.nilIface)) (hg1 : w.heap[g1]? = some (.cells #[.string s1, .iface 28 (.int .i64 1200)] 83 (0, 0))) :
    Calls Try.prog 25 #[.slice (some ⟨gs, 0, none⟩) 2 2] w fun e w' => ∃ v, e = .returned v ∧ Joined true v w' ∧ Below w.heap.size w w' := by
  obtain ⟨i58, h58, h58z, h58s, h58b⟩ := info_parts info58
  have hu79 := Try.underlying79
  have HG := Lib.hid hg1
  clear hg1
  go_enter Try.func25, Try.ntmps25
  go_wp2
  refine wp_loop_rounds 3 ?_
  rw [rounds_succ]
  go_wp2
  rw [rounds_succ]
  go_wp2
  rw [rounds_succ]
  go_wp2_with (first
    | ((with_reducible refine gate_dst (N := 23) rfl ?_); refine wpList_make_own _ rfl (.const (.int .i64 0)) (.tmp 22) 76 rfl w.heap.size 58 i58 .nilIface 1 Try.underlying76 h58 h58z h58s .i64 .i64 (1 : Int) 1 rfl rfl rfl (by rw [h58b]; decide) (by decide) (Nat.le_refl _) ?_; intro w1 ho1 hg1; have hb1 := Below.grown (Below.refl w.heap.size w) hg1 (Nat.le_refl _) (fun k e => by cases e))
    | ((with_reducible refine gate_dst (N := 25) rfl ?_); refine box_event ?hg (N := 25) ?hd (cs := #[.slice (some ⟨w.heap.size, 0, none⟩) 0 1]) (t := 79) ?hr ?_; (case hd => rfl); (case hg => rfl); (case hr => first | (go_simp; done) | (go_simp; rfl)); intro gj hgj w2 hbox hb2; have J0 := js_start hb1 ho1 hgj hbox hb2; clear hgj hbox hb2 ho1 hg1 hb1; have p2 : w2.cell? ⟨gs, 0, none⟩ = some (.iface 81 (.pointer (some ⟨g1, 0, none⟩))) := pw_cell_below J0.below q0; have p3 : w2.cell? ⟨gs, 1, none⟩ = some (.nilIface) := pw_cell_below J0.below q1; have p4 : w2.cell? ⟨gj, 0, none⟩ = some (.slice (some ⟨w.heap.size, 0, none⟩) 0 1) := (blk_cell J0.box 0).trans rfl))
  refine wp_loop_rounds 3 ?_
  rw [rounds_succ]
  go_wp2_with (first
    | ((with_reducible refine gate_dst (N := 41) rfl ?_); refine wpList_append_fits _ rfl (.tmp 38) (.tmp 40) 76 rfl w.heap.size 58 i58 1 Try.underlying76 h58 h58s w.heap.size 0 1 [] rfl (js_owns J0 _) ⟨w2.heap.size, 0, none⟩ 1 1 [.iface 81 (.pointer (some ⟨g1, 0, none⟩))] rfl rfl (cell_one_new w2 (.iface 81 (.pointer (some ⟨g1, 0, none⟩))) 58) (by intro u hu; rw [List.mem_singleton.1 hu]; rfl) (by decide) ?_; intro w4 ho4 hg4; have q4 := js_mid J0 hg4; have hf4 := blk_frozen (js_midb J0 hg4) 0)
    | ((with_reducible refine gate_store (t := 76) (p := 43) rfl ?_); refine store_event (t := 76) (p := 43) (v := .tmp 41) (w1 := w4.setCell ⟨gj, 0, none⟩ (.slice (some ⟨w.heap.size, 0, none⟩) 1 1)) rfl rfl rfl ?hrr ?_; (case hrr => first | (go_simp; done) | (go_simp; rfl)); intro w5 hw5; have J1 := js_next J0 hg4 ho4; rw [← hw5] at J1; clear hw5 q4 hf4; have p5 : w5.cell? ⟨gs, 0, none⟩ = some (.iface 81 (.pointer (some ⟨g1, 0, none⟩))) := pw_cell_below J1.below q0; have p6 : w5.cell? ⟨gs, 1, none⟩ = some (.nilIface) := pw_cell_below J1.below q1; have p7 : w5.cell? ⟨gj, 0, none⟩ = some (.slice (some ⟨w.heap.size, 0, none⟩) 1 1) := (blk_cell J1.box 0).trans rfl))
  rw [rounds_succ]
  go_wp2_with (first
    | ((with_reducible refine gate_dst (N := 41) rfl ?_); refine wpList_append_fits _ rfl (.tmp 38) (.tmp 40) 76 rfl w.heap.size 58 i58 1 Try.underlying76 h58 h58s w.heap.size 0 1 [] rfl (js_owns J0 _) ⟨w2.heap.size, 0, none⟩ 1 1 [.iface 81 (.pointer (some ⟨g1, 0, none⟩))] rfl rfl (cell_one_new w2 (.iface 81 (.pointer (some ⟨g1, 0, none⟩))) 58) (by intro u hu; rw [List.mem_singleton.1 hu]; rfl) (by decide) ?_; intro w4 ho4 hg4; have q4 := js_mid J0 hg4; have hf4 := blk_frozen (js_midb J0 hg4) 0)
    | ((with_reducible refine gate_store (t := 76) (p := 43) rfl ?_); refine store_event (t := 76) (p := 43) (v := .tmp 41) (w1 := w4.setCell ⟨gj, 0, none⟩ (.slice (some ⟨w.heap.size, 0, none⟩) 1 1)) rfl rfl rfl ?hrr ?_; (case hrr => first | (go_simp; done) | (go_simp; rfl)); intro w5 hw5; have J1 := js_next J0 hg4 ho4; rw [← hw5] at J1; clear hw5 q4 hf4; have p5 : w5.cell? ⟨gs, 0, none⟩ = some (.iface 81 (.pointer (some ⟨g1, 0, none⟩))) := pw_cell_below J1.below q0; have p6 : w5.cell? ⟨gs, 1, none⟩ = some (.nilIface) := pw_cell_below J1.below q1; have p7 : w5.cell? ⟨gj, 0, none⟩ = some (.slice (some ⟨w.heap.size, 0, none⟩) 1 1) := (blk_cell J1.box 0).trans rfl))
  rw [rounds_succ]
  go_wp2
  go_ret
  exact ⟨_, rfl, js_joined J1 HG.out (by decide), J1.below⟩
set_option maxRecDepth 100000 in
theorem join01 (gs g1 : Nat) (s1 : ByteArray) (w : World) (q0 : w.cell? ⟨gs, 0, none⟩ = some (.nilIface)) (q1 : w.cell? ⟨gs, 1, none⟩ = some (.iface 81 (.pointer (some ⟨g1, 0, none⟩)))) (hg1 : w.heap[g1]? = some (.cells #[.string s1, .iface 28 (.int .i64 1200)] 83 (0, 0))) :
    Calls Try.prog 25 #[.slice (some ⟨gs, 0, none⟩) 2 2] w fun e w' => ∃ v, e = .returned v ∧ Joined true v w' ∧ Below w.heap.size w w' := by
  obtain ⟨i58, h58, h58z, h58s, h58b⟩ := info_parts info58
  have hu79 := Try.underlying79
  have HG := Lib.hid hg1
  clear hg1
  go_enter Try.func25, Try.ntmps25
  go_wp2
  refine wp_loop_rounds 3 ?_
  rw [rounds_succ]
  go_wp2
  rw [rounds_succ]
  go_wp2
  rw [rounds_succ]
  go_wp2_with (first
    | ((with_reducible refine gate_dst (N := 23) rfl ?_); refine wpList_make_own _ rfl (.const (.int .i64 0)) (.tmp 22) 76 rfl w.heap.size 58 i58 .nilIface 1 Try.underlying76 h58 h58z h58s .i64 .i64 (1 : Int) 1 rfl rfl rfl (by rw [h58b]; decide) (by decide) (Nat.le_refl _) ?_; intro w1 ho1 hg1; have hb1 := Below.grown (Below.refl w.heap.size w) hg1 (Nat.le_refl _) (fun k e => by cases e))
    | ((with_reducible refine gate_dst (N := 25) rfl ?_); refine box_event ?hg (N := 25) ?hd (cs := #[.slice (some ⟨w.heap.size, 0, none⟩) 0 1]) (t := 79) ?hr ?_; (case hd => rfl); (case hg => rfl); (case hr => first | (go_simp; done) | (go_simp; rfl)); intro gj hgj w2 hbox hb2; have J0 := js_start hb1 ho1 hgj hbox hb2; clear hgj hbox hb2 ho1 hg1 hb1; have p2 : w2.cell? ⟨gs, 0, none⟩ = some (.nilIface) := pw_cell_below J0.below q0; have p3 : w2.cell? ⟨gs, 1, none⟩ = some (.iface 81 (.pointer (some ⟨g1, 0, none⟩))) := pw_cell_below J0.below q1; have p4 : w2.cell? ⟨gj, 0, none⟩ = some (.slice (some ⟨w.heap.size, 0, none⟩) 0 1) := (blk_cell J0.box 0).trans rfl))
  refine wp_loop_rounds 3 ?_
  rw [rounds_succ]
  go_wp2_with (first
    | ((with_reducible refine gate_dst (N := 41) rfl ?_); refine wpList_append_fits _ rfl (.tmp 38) (.tmp 40) 76 rfl w.heap.size 58 i58 1 Try.underlying76 h58 h58s w.heap.size 0 1 [] rfl (js_owns J0 _) ⟨w2.heap.size, 0, none⟩ 1 1 [.iface 81 (.pointer (some ⟨g1, 0, none⟩))] rfl rfl (cell_one_new w2 (.iface 81 (.pointer (some ⟨g1, 0, none⟩))) 58) (by intro u hu; rw [List.mem_singleton.1 hu]; rfl) (by decide) ?_; intro w4 ho4 hg4; have q4 := js_mid J0 hg4; have hf4 := blk_frozen (js_midb J0 hg4) 0)
    | ((with_reducible refine gate_store (t := 76) (p := 43) rfl ?_); refine store_event (t := 76) (p := 43) (v := .tmp 41) (w1 := w4.setCell ⟨gj, 0, none⟩ (.slice (some ⟨w.heap.size, 0, none⟩) 1 1)) rfl rfl rfl ?hrr ?_; (case hrr => first | (go_simp; done) | (go_simp; rfl)); intro w5 hw5; have J1 := js_next J0 hg4 ho4; rw [← hw5] at J1; clear hw5 q4 hf4; have p5 : w5.cell? ⟨gs, 0, none⟩ = some (.nilIface) := pw_cell_below J1.below q0; have p6 : w5.cell? ⟨gs, 1, none⟩ = some (.iface 81 (.pointer (some ⟨g1, 0, none⟩))) := pw_cell_below J1.below q1; have p7 : w5.cell? ⟨gj, 0, none⟩ = some (.slice (some ⟨w.heap.size, 0, none⟩) 1 1) := (blk_cell J1.box 0).trans rfl))
  rw [rounds_succ]
  go_wp2_with (first
    | ((with_reducible refine gate_dst (N := 41) rfl ?_); refine wpList_append_fits _ rfl (.tmp 38) (.tmp 40) 76 rfl w.heap.size 58 i58 1 Try.underlying76 h58 h58s w.heap.size 0 1 [] rfl (js_owns J0 _) ⟨w2.heap.size, 0, none⟩ 1 1 [.iface 81 (.pointer (some ⟨g1, 0, none⟩))] rfl rfl (cell_one_new w2 (.iface 81 (.pointer (some ⟨g1, 0, none⟩))) 58) (by intro u hu; rw [List.mem_singleton.1 hu]; rfl) (by decide) ?_; intro w4 ho4 hg4; have q4 := js_mid J0 hg4; have hf4 := blk_frozen (js_midb J0 hg4) 0)
    | ((with_reducible refine gate_store (t := 76) (p := 43) rfl ?_); refine store_event (t := 76) (p := 43) (v := .tmp 41) (w1 := w4.setCell ⟨gj, 0, none⟩ (.slice (some ⟨w.heap.size, 0, none⟩) 1 1)) rfl rfl rfl ?hrr ?_; (case hrr => first | (go_simp; done) | (go_simp; rfl)); intro w5 hw5; have J1 := js_next J0 hg4 ho4; rw [← hw5] at J1; clear hw5 q4 hf4; have p5 : w5.cell? ⟨gs, 0, none⟩ = some (.nilIface) := pw_cell_below J1.below q0; have p6 : w5.cell? ⟨gs, 1, none⟩ = some (.iface 81 (.pointer (some ⟨g1, 0, none⟩))) := pw_cell_below J1.below q1; have p7 : w5.cell? ⟨gj, 0, none⟩ = some (.slice (some ⟨w.heap.size, 0, none⟩) 1 1) := (blk_cell J1.box 0).trans rfl))
  rw [rounds_succ]
  go_wp2
  go_ret
  exact ⟨_, rfl, js_joined J1 HG.out (by decide), J1.below⟩
set_option maxRecDepth 100000 in
theorem join11 (gs g1 g2 : Nat) (s1 : ByteArray) (w : World) (q0 : w.cell? ⟨gs, 0, none⟩ = some (.iface 81 (.pointer (some ⟨g1, 0, none⟩)))) (q1 : w.cell? ⟨gs, 1, none⟩ = some (.iface 81 (.pointer (some ⟨g2, 0, none⟩)))) (hg1 : w.heap[g1]? = some (.cells #[.string s1, .iface 28 (.int .i64 1200)] 83 (0, 0))) :
    Calls Try.prog 25 #[.slice (some ⟨gs, 0, none⟩) 2 2] w fun e w' => ∃ v, e = .returned v ∧ Joined true v w' ∧ Below w.heap.size w w' := by
  obtain ⟨i58, h58, h58z, h58s, h58b⟩ := info_parts info58
  have hu79 := Try.underlying79
  have HG := Lib.hid hg1
  clear hg1
  go_enter Try.func25, Try.ntmps25
  go_wp2
  refine wp_loop_rounds 3 ?_
  rw [rounds_succ]
  go_wp2
  rw [rounds_succ]
  go_wp2
  rw [rounds_succ]
  go_wp2_with (first
    | ((with_reducible refine gate_dst (N := 23) rfl ?_); refine wpList_make_own _ rfl (.const (.int .i64 0)) (.tmp 22) 76 rfl w.heap.size 58 i58 .nilIface 1 Try.underlying76 h58 h58z h58s .i64 .i64 (2 : Int) 2 rfl rfl rfl (by rw [h58b]; decide) (by decide) (Nat.le_refl _) ?_; intro w1 ho1 hg1; have hb1 := Below.grown (Below.refl w.heap.size w) hg1 (Nat.le_refl _) (fun k e => by cases e))
    | ((with_reducible refine gate_dst (N := 25) rfl ?_); refine box_event ?hg (N := 25) ?hd (cs := #[.slice (some ⟨w.heap.size, 0, none⟩) 0 2]) (t := 79) ?hr ?_; (case hd => rfl); (case hg => rfl); (case hr => first | (go_simp; done) | (go_simp; rfl)); intro gj hgj w2 hbox hb2; have J0 := js_start hb1 ho1 hgj hbox hb2; clear hgj hbox hb2 ho1 hg1 hb1; have p2 : w2.cell? ⟨gs, 0, none⟩ = some (.iface 81 (.pointer (some ⟨g1, 0, none⟩))) := pw_cell_below J0.below q0; have p3 : w2.cell? ⟨gs, 1, none⟩ = some (.iface 81 (.pointer (some ⟨g2, 0, none⟩))) := pw_cell_below J0.below q1; have p4 : w2.cell? ⟨gj, 0, none⟩ = some (.slice (some ⟨w.heap.size, 0, none⟩) 0 2) := (blk_cell J0.box 0).trans rfl))
  refine wp_loop_rounds 3 ?_
  rw [rounds_succ]
  go_wp2_with (first
    | ((with_reducible refine gate_dst (N := 41) rfl ?_); refine wpList_append_fits _ rfl (.tmp 38) (.tmp 40) 76 rfl w.heap.size 58 i58 1 Try.underlying76 h58 h58s w.heap.size 0 2 [] rfl (js_owns J0 _) ⟨w2.heap.size, 0, none⟩ 1 1 [.iface 81 (.pointer (some ⟨g1, 0, none⟩))] rfl rfl (cell_one_new w2 (.iface 81 (.pointer (some ⟨g1, 0, none⟩))) 58) (by intro u hu; rw [List.mem_singleton.1 hu]; rfl) (by decide) ?_; intro w4 ho4 hg4; have q4 := js_mid J0 hg4; have hf4 := blk_frozen (js_midb J0 hg4) 0)
    | ((with_reducible refine gate_store (t := 76) (p := 43) rfl ?_); refine store_event (t := 76) (p := 43) (v := .tmp 41) (w1 := w4.setCell ⟨gj, 0, none⟩ (.slice (some ⟨w.heap.size, 0, none⟩) 1 2)) rfl rfl rfl ?hrr ?_; (case hrr => first | (go_simp; done) | (go_simp; rfl)); intro w5 hw5; have J1 := js_next J0 hg4 ho4; rw [← hw5] at J1; clear hw5 q4 hf4; have p5 : w5.cell? ⟨gs, 0, none⟩ = some (.iface 81 (.pointer (some ⟨g1, 0, none⟩))) := pw_cell_below J1.below q0; have p6 : w5.cell? ⟨gs, 1, none⟩ = some (.iface 81 (.pointer (some ⟨g2, 0, none⟩))) := pw_cell_below J1.below q1; have p7 : w5.cell? ⟨gj, 0, none⟩ = some (.slice (some ⟨w.heap.size, 0, none⟩) 1 2) := (blk_cell J1.box 0).trans rfl))
  rw [rounds_succ]
  go_wp2_with (first
    | ((with_reducible refine gate_dst (N := 41) rfl ?_); refine wpList_append_fits _ rfl (.tmp 38) (.tmp 40) 76 rfl w.heap.size 58 i58 1 Try.underlying76 h58 h58s w.heap.size 1 2 [.iface 81 (.pointer (some ⟨g1, 0, none⟩))] rfl (js_owns J1 _) ⟨w5.heap.size, 0, none⟩ 1 1 [.iface 81 (.pointer (some ⟨g2, 0, none⟩))] rfl rfl (cell_one_new w5 (.iface 81 (.pointer (some ⟨g2, 0, none⟩))) 58) (by intro u hu; rw [List.mem_singleton.1 hu]; rfl) (by decide) ?_; intro w6 ho6 hg6; have q4 := js_mid J1 hg6; have hf4 := blk_frozen (js_midb J1 hg6) 0)
    | ((with_reducible refine gate_store (t := 76) (p := 43) rfl ?_); refine store_event (t := 76) (p := 43) (v := .tmp 41) (w1 := w6.setCell ⟨gj, 0, none⟩ (.slice (some ⟨w.heap.size, 0, none⟩) 2 2)) rfl rfl rfl ?hrr ?_; (case hrr => first | (go_simp; done) | (go_simp; rfl)); intro w7 hw5; have J2 := js_next J1 hg6 ho6; rw [← hw5] at J2; clear hw5 q4 hf4; have p5 : w7.cell? ⟨gs, 0, none⟩ = some (.iface 81 (.pointer (some ⟨g1, 0, none⟩))) := pw_cell_below J2.below q0; have p6 : w7.cell? ⟨gs, 1, none⟩ = some (.iface 81 (.pointer (some ⟨g2, 0, none⟩))) := pw_cell_below J2.below q1; have p7 : w7.cell? ⟨gj, 0, none⟩ = some (.slice (some ⟨w.heap.size, 0, none⟩) 2 2) := (blk_cell J2.box 0).trans rfl))
  rw [rounds_succ]
  go_wp2
  go_ret
  exact ⟨_, rfl, js_joined J2 HG.out (by decide), J2.below⟩
theorem join_walk (t1 t2 : Bool) (v1 v2 : Value) (gs : Nat) (w : World) (h1 : Fault t1 v1 w) (h2 : Fault t2 v2 w) (q0 : w.cell? ⟨gs, 0, none⟩ = some v1) (q1 : w.cell? ⟨gs, 1, none⟩ = some v2) :
    Calls Try.prog 25 #[.slice (some ⟨gs, 0, none⟩) 2 2] w fun e w' => ∃ v, e = .returned v ∧ Joined (t1 || t2) v w' ∧ Below w.heap.size w w' := by
  rcases h1 with ⟨rfl, rfl⟩ | ⟨rfl, g1, s1, rfl, hg1⟩
  · rcases h2 with ⟨rfl, rfl⟩ | ⟨rfl, g2, s2, rfl, hg2⟩
    · exact join00 gs w q0 q1
    · exact join01 gs g2 s2 w q0 q1 hg2
  · rcases h2 with ⟨rfl, rfl⟩ | ⟨rfl, g2, s2, rfl, hg2⟩
    · exact join10 gs g1 s1 w q0 q1 hg1
    · exact join11 gs g1 g2 s1 w q0 q1 hg1
theorem fault_yes {v : Value} {w : World} (h : Fault true v w) : ∃ g : Nat, v = .iface 81 (.pointer (some ⟨g, 0, none⟩)) := by
  rcases h with ⟨h, _⟩ | ⟨_, g, s, hv, _⟩
  · cases h
  · exact ⟨g, hv⟩
theorem fault_no {v : Value} {w : World} (h : Fault false v w) : v = .nilIface := by
  rcases h with ⟨_, h⟩ | ⟨h, _⟩
  · exact h
  · cases h
/-- An answer's three cells, wherever they stand. -/
def Cl (w : World) (pb po : Nat) (a b c : Value) : Prop := w.cell? ⟨pb, po, none⟩ = some a ∧ w.cell? ⟨pb, po + 1, none⟩ = some b ∧ w.cell? ⟨pb, po + 2, none⟩ = some c
theorem cl_below {w w' : World} {pb po : Nat} {a b c : Value} (h : Cl w pb po a b c) (hb : Below w.heap.size w w') : Cl w' pb po a b c := ⟨pw_cell_below hb h.1, pw_cell_below hb h.2.1, pw_cell_below hb h.2.2⟩
theorem cl_drew {w : World} {pb po : Nat} {a b c : Value} (h : Cl w pb po a b c) : Cl w.drew pb po a b c := h
theorem cl_drewN {w : World} {pb po : Nat} {a b c : Value} (h : Cl w pb po a b c) (n : Nat) : Cl (w.drewN n) pb po a b c := cl_below h (pw_below_drewN (Below.refl _ _) n)
theorem cl_alloc {w : World} {pb po : Nat} {a b c : Value} (h : Cl w pb po a b c) (o : Obj) : Cl (w.alloc o) pb po a b c := cl_below h (below_alloc (Below.refl _ _) o)
theorem plain_ad {w : World} {a : Addr} {v : Value} (h : w.cell? a = some v) : a = ⟨a.block, a.off, none⟩ := by
  obtain ⟨bk, o, sp⟩ := a
  cases sp with
  | none => rfl
  | some s =>
    unfold World.cell? at h
    split at h
    · simp at h
    · cases h
theorem fault_form {t : Bool} {v : Value} {w : World} (h : Fault t v w) : v = .nilIface ∨ ∃ g : Nat, v = .iface 81 (.pointer (some ⟨g, 0, none⟩)) := by
  rcases h with ⟨_, h⟩ | ⟨_, g, s, hv, _⟩
  · exact Or.inl h
  · exact Or.inr ⟨g, hv⟩
end Go.Proofs.YtgolnkankkegdaaErr
