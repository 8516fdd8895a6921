/- What the calls of AuditTrue answer: contracts in plain words; no condition beyond each theorem's own. -/
import Derived.Test.YtgolnkankkegdaaAp
namespace Go.Proofs.Ytgolnkankkegdaa.Ac
open Go.RowKit Go.Proofs.YtgolnkankkegdaaW.PrintWords Go.Proofs.YtgolnkankkegdaaW.PrintLast Go.Proofs.YtgolnkankkegdaaW.PrintMore
open Go.Proofs.Ytgolnkankkegdaa.HAuditMoved Go.Proofs.Ytgolnkankkegdaa.Ap
set_option linter.unusedVariables false
theorem Awake_k (w : World) : Calls Try.prog 17 #[] w fun e w' => e = .returned (.bool true) ∧ Below w.heap.size w w' := by
  obtain ⟨k, hk⟩ := ex_of_ev awake12
  exact ossuarylaw12_awake.calls k true w hk
theorem Text_k (b : Int) (h0 : 0 ≤ b) (h1 : b < 256) (w : World) : Calls Try.prog 18 #[.int .u8 b] w fun e w' => e = .returned (.string (textS b)) ∧ Below w.heap.size w w' := by
  obtain ⟨k, hk⟩ := ex_of_ev (text_ev b h0 h1)
  exact ossuarylaw12_text.calls k b _ w hk
theorem Leaves_k (s : ByteArray) (hs : s.size ≤ 140737488351232) (w : World) : Calls Try.prog 20 #[.string s] w fun e w' => ∃ v, e = .returned v ∧ (Kd.R (Kd.int .i64) 3 w' w.heap.size (fun _ => True) v (leavesL s.data.toList)) ∧ Below w.heap.size w w' := by
  obtain ⟨k, hk⟩ := ex_of_ev (ref_Leaves_ev s hs)
  exact ossuaryref1_Leaves.calls k s _ w hk
theorem Root_k {w : World} {v : Value} {l : List Int} {base : Nat} (hv : (Kd.R (Kd.int .i64) 3 w base (fun _ => True) v l)) (hl : l.length ≤ 17592186044416) : Calls Try.prog 19 #[v] w fun e w' => e = .returned (.tuple #[.int .i64 (rootA l).1, .int .i64 (rootA l).2]) ∧ Below w.heap.size w w' := by
  obtain ⟨k, hk⟩ := ex_of_ev (ref_Root_ev l hl)
  obtain ⟨A, c, rfl, h1, h2⟩ := Kd.R_reads hv
  exact ossuaryref1_Root.calls k A c l _ _ w h2 h1 hk
theorem Path_k {w : World} {v : Value} {l : List Int} {base : Nat} (hv : (Kd.R (Kd.int .i64) 3 w base (fun _ => True) v l)) (hl : l.length ≤ 17592186044416) (a : Int) : Calls Try.prog 21 #[v, .int .i64 a] w fun e w' => ∃ v1, e = .returned (.tuple #[v1, .int .i64 (pathA l a).2]) ∧ (Kd.R (Kd.int .i64) 3 w' w.heap.size (fun _ => True) v1 (pathA l a).1) ∧ Below w.heap.size w w' := by
  obtain ⟨k, hk⟩ := ex_of_ev (ref_Path_ev l a hl)
  obtain ⟨A, c, rfl, h1, h2⟩ := Kd.R_reads hv
  exact ossuaryref1_Path.calls k A c l a _ _ w h2 h1 hk
theorem Pair_k (a b : Int) (w : World) : Calls Try.prog 22 #[.int .i64 a, .int .i64 b] w fun e w' => e = .returned (.int .i64 (pairS a b)) ∧ Drawn0 w w' := ossuaryref1_Pair.calls a b _ w (ref_Pair_eq a b)
theorem Of_k (s : ByteArray) (hs : s.size ≤ 140737488351232) (w : World) : Calls Try.prog 23 #[.string s] w fun e w' => e = .returned (.int .i64 (ofL s.data.toList)) ∧ Drawn0 w w' := by
  obtain ⟨k, hk⟩ := ex_of_ev (ref_Of_ev s hs)
  exact ossuaryref1_Of.calls k s _ w hk
/-- who has the shard answers -/
theorem Respond_k {w : World} {v u : Value} {p l : List Int} {b1 b2 : Nat} (hv : (Kd.R (Kd.int .i64) 3 w b1 (fun _ => True) v p)) (hu : (Kd.R (Kd.int .i64) 3 w b2 (fun _ => True) u l)) (s : ByteArray) (n : Int) (hs : s.size = 32) (hp : p.length ≤ 3) (hq : Seals01 p) (n0 : 0 ≤ n) (n1 : n < 2147483647) (l1 : 1 ≤ l.length) (l2 : l.length ≤ 64) (hb : ∀ b, b ∈ l → 0 ≤ b ∧ b < 4) :
    Calls Try.prog 9 #[.string s, v, .agg #[.int .i64 n, u]] w fun e w' => ∃ v1, e = .returned (.tuple #[v1, .int .i64 0]) ∧ Kd.S k49 49 w' w.heap.size (fun _ => True) v1 (l.map (ansOf s p n)) ∧ Below w.heap.size w w' := by
  have e := (respA_ok hs hp hq n0 n1 l1 l2 hb).2.2
  obtain ⟨k, hk⟩ := ex_of_ev (respond_ev s p n l (by omega) (by omega))
  rw [e] at hk
  obtain ⟨A, c, rfl, h1, h2⟩ := Kd.R_reads hv
  obtain ⟨B, d, rfl, h3, h4⟩ := Kd.R_reads hu
  exact audit_Respond.calls k s A c p n B d l _ _ w h2 h1 h4 h3 hk
/-- a check, whatever it is given -/
theorem Check_k {w : World} {u : Value} {l : List Int} {b2 : Nat} (hu : (Kd.R (Kd.int .i64) 3 w b2 (fun _ => True) u l)) {A : Option Addr} {c : Nat} {zs : List S49} (hz : Kd.C k49 w A zs.length zs) (hc : zs.length ≤ c) (ho : ∀ x, x ∈ zs → AnsOk x) (hl : l.length ≤ 9223372036854775807) (R m t n : Int) (r : Bool) (hr : auditA R m t n l zs = r) :
    Calls Try.prog 13 #[.int .i64 R, .int .i64 m, .int .i64 t, .agg #[.int .i64 n, u], .slice A zs.length c] w fun e w' => e = .returned (.bool r) ∧ Below w.heap.size w w' := by
  subst hr
  obtain ⟨k, hk⟩ := ex_of_ev (check_ev R m t n l zs hl ho)
  obtain ⟨B, d, rfl, h3, h4⟩ := Kd.R_reads hu
  exact audit_Check.calls k R m t n B d l A c zs _ w h4 h3 hz hc hk
end Go.Proofs.Ytgolnkankkegdaa.Ac
