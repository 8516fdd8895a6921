/- What SpoilAnswers does, and the other calls of Audits, in plain words: no condition beyond each theorem's own. -/
import Derived.Test.YtgolnkankkegdaaAs
import Derived.Test.YtgolnkankkegdaaAb
import Derived.IntWalk
namespace Go.Proofs.Ytgolnkankkegdaa.Au
open Go.RowKit Go.Proofs.YtgolnkankkegdaaW.PrintWords Go.Proofs.YtgolnkankkegdaaW.PrintLast Go.Proofs.YtgolnkankkegdaaW.PrintMore
open Go.Proofs.Ytgolnkankkegdaa.HAuditMoved Go.Proofs.Ytgolnkankkegdaa.Ap Go.Proofs.Ytgolnkankkegdaa.As Go.Proofs.Ytgolnkankkegdaa.Ac Go.Proofs.Ytgolnkankkegdaa.Ab
set_option linter.unusedVariables false
set_option linter.unusedSimpArgs false
set_option maxHeartbeats 4000000 in
set_option maxRecDepth 100000 in
theorem Spoil_k {w0 w : World} {A : Option Addr} {c : Nat} {zs : List S49} (hB : Below w0.heap.size w0 w) (hS : Kd.S k49 49 w w0.heap.size (fun _ => True) (.slice A zs.length c) zs) (ho : ∀ x, x ∈ zs → x.f1.length ≤ 17592186044416) (hz : zs.length ≤ 9223372036854775000) :
    Calls Try.prog 15 #[.slice A zs.length c] w fun e w' => e = .returned (.tuple #[]) ∧ Below w0.heap.size w0 w' := by
  obtain ⟨n, hn⟩ : ∃ n, n = zs.length := ⟨_, rfl⟩
  rw [← hn] at hS hz ⊢
  have HS := Aside0.mk hS; have HB := Aside0.mk hB; have HO := Aside0.mk ho; have HL := Aside0.mk hn.symm
  clear hS hB ho hn
  go_enter Try.func15, Try.ntmps15
  go_wp2_with fail
  go_loopw [2] (fun i wr => ∃ j : Nat, j ≤ n ∧ i = .int .i64 j ∧ ∃ zr : List S49, Aside0 (zr.length = n) ∧ Aside0 (∀ x, x ∈ zr → x.f1.length ≤ 17592186044416) ∧ Aside0 (Kd.S k49 49 wr w0.heap.size (fun _ => True) (.slice A n c) zr) ∧ Aside0 (Below w0.heap.size w0 wr)) (fun i _ => n - (intOf i).toNat)
  case atStart => exact ⟨0, by omega, rfl, zs, HL, HO, HS, HB⟩
  case round =>
    clear HS HB HO HL
    obtain ⟨j, hj, rfl, zr, HL, HO, HS, HB⟩ := hrel
    by_cases q1 : j < n
    · obtain ⟨g, c', he, hg, _⟩ := Kd.S_form HS.out (by rw [HL.out]; omega)
      injection he with he hln he2
      clear hln
      subst he; subst he2
      obtain ⟨oki, cs, hcl, hM, hcc, hoki, hH⟩ := Kd.S_lend HS.out z49 (j : Int) (by omega) (by omega)
      have HXE := Aside0.mk (show zr.getD (j : Int).toNat z49 ∈ zr by
        rw [Int.toNat_natCast, List.getD_eq_getElem?_getD, List.getElem?_eq_getElem (by rw [HL.out]; exact q1)]; exact List.getElem_mem _)
      generalize zr.getD (j : Int).toNat z49 = X at hM HXE
      obtain ⟨u, rfl, hu⟩ := k49_openM hM
      obtain ⟨A1, c1, rfl, _⟩ := Kd.R_reads hu
      obtain ⟨r, hr⟩ := spoil_ev X.f1 (HO.out X HXE.out)
      obtain ⟨kk, hkk⟩ := ex_of_ev hr
      have e1 : wr.cell? ⟨g, j * 3 + 1, none⟩ = some (.slice A1 X.f1.length c1) := by have := hcc 1 _ rfl; rwa [Int.toNat_natCast] at this
      have HH := Aside0.mk hH; have HU := Aside0.mk hu
      have HC := Aside0.mk (Kd.S_reads' HS.out).2.1
      clear hH hu hM hcc hcl hr HS hoki
      go_wp2_with (first
        | (go_at_call 40; (refine (ossuarylaw0_SpoilInts.calls kk oki _ X.f1 r w0 wr HB.out HU.out hkk).mono ?_; rintro e w2 ⟨rfl, hr2, hb2, hk2⟩; have HR := Aside0.mk hr2; have n1 := Aside0.mk (Kd.H_kept (Kd.H_widen HH.out) hk2 (fun k _ hn h => hn (Or.inl h))); clear HB HH HU e1 hr2 hk2; have HB := Aside0.mk hb2; have HH := n1; clear n1 hb2; have e2 : w2.cell? ⟨g, j * 3 + 2, none⟩ = some (.int .i64 X.f2) := (by have := (Kd.H_at HH.out (by omega) (by omega)).1 2 _ rfl; rwa [Int.toNat_natCast] at this)))
        | ((with_reducible refine gate_store (t := 3) (p := 24) rfl ?_); (refine Kd.H_store k49 (w0 := w0) w0.heap.size rfl rfl 3 (.tmp 24) (.tmp 22) rfl 49 (o' := j * 3 + 2) (j : Int) 2 zr ⟨X.f0, r, Go.bits .xor .i64 X.f2 90⟩ (.int .i64 (Go.bits .xor .i64 X.f2 90)) [.int .i64 (Go.bits .xor .i64 X.f2 90)] [.string X.f0, .slice A1 X.f1.length c1, .int .i64 X.f2] (fun _ => True) (fun k => oki k ∨ True ∧ wr.heap.size ≤ k) (fun k => oki k ∨ True ∧ wr.heap.size ≤ k) ?ad ?of ?hx rfl (by kernel_rfl) ?on HH.out (by omega) (by omega) ?hj ?hM (fun k hk => hk) HB.out ?_; (case ad => first | (go_simp; done) | (go_simp; rfl)); (case of => rw [Int.toNat_natCast]; rfl); (case hx => first | rfl | (go_simp; done) | (go_simp; rfl)); (case on => intro q hq; rw [List.mem_singleton.1 hq]; rfl); (case hj => show 2 + 1 ≤ 3; omega); (case hM => exact k49_mkM w2 _ _ ⟨X.f0, r, Go.bits .xor .i64 X.f2 90⟩ (Kd.R_mono HR.out (fun k hk => hk.imp id (fun h => ⟨trivial, h⟩)))); intro w3 hS3 hB3 hg3)))
      rw [Int.toNat_natCast] at hS3
      have hrl := (Kd.R_reads' HR.out).1
      refine ⟨⟨j + 1, by omega, by go_num, zr.set j ⟨X.f0, r, Go.bits .xor .i64 X.f2 90⟩, ⟨by rw [List.length_set]; exact HL.out⟩, ⟨fun x hx => ?_⟩, ⟨hS3⟩, ⟨hB3⟩⟩, by simp [intOf]; omega⟩
      rcases List.mem_or_eq_of_mem_set hx with h | rfl
      · exact HO.out x h
      · have := HO.out X HXE.out
        show r.length ≤ _
        omega
    · go_wp2_with fail
      first | go_end0 | ((try simp only [Exit.inBlock, Exit.then]); refine bodyPost_ret (results_none rfl _ _ _) rfl ?_)
      exact ⟨rfl, HB.out⟩
theorem CL.cap {w : World} {A : Option Addr} {c : Nat} {l : List Int} (h : CL w A c l) : l.length ≤ c := by have := h.2; rw [marks_len] at this; omega
theorem Lend_k {w : World} {A : Option Addr} {c : Nat} {l : List Int} (hr : (Kd.C (Kd.int .i64) w A l.length l)) (hc : l.length ≤ c) (hl : l.length ≤ 17592186043904) : Calls Try.prog 7 #[.slice A l.length c] w fun e w' => ∃ B d, e = .returned (.slice B l.length d) ∧ CL w' B d l ∧ Below w.heap.size w w' :=
  (ossuarylaw0_LendInts.calls A c l l w hr hc (lend_eq l hl)).mono fun e w' ⟨v, h1, h2, h3⟩ => by
    obtain ⟨B, d, rfl⟩ := RL.slice h2
    exact ⟨B, d, h1, RL.room h2, h3⟩
theorem Copy_k {w : World} {A : Option Addr} {c : Nat} {l : List S49} (hr : (Kd.C k49 w A l.length l)) (hc : l.length ≤ c) (hl : l.length < 2932031007402) (ho : ∀ x, x ∈ l → x.f1.length < 17592186044416) : Calls Try.prog 8 #[.slice A l.length c] w fun e w' => ∃ B d, e = .returned (.slice B l.length d) ∧ (Kd.C k49 w' B l.length l) ∧ l.length ≤ d ∧ Below w.heap.size w w' := by
  obtain ⟨k, hk⟩ := ex_of_ev (copyans_ev l hl ho)
  refine (ossuarylaw0_CopyAnswers.calls k A c l l w hr hc hk).mono fun e w' ⟨v, h1, h2, h3⟩ => ?_
  obtain ⟨B, d, rfl, h4, h5⟩ := Kd.S_reads h2
  exact ⟨B, d, h1, h5, h4, h3⟩
theorem Resp_k {w : World} {A B : Option Addr} {c d : Nat} {p l : List Int} (hp : (Kd.C (Kd.int .i64) w A p.length p)) (hc : p.length ≤ c) (hl : (Kd.C (Kd.int .i64) w B l.length l)) (hd : l.length ≤ d) (s : ByteArray) (n : Int) {z : List S49} {cd : Int} (hz : respA s p n l = (z, cd)) (hp2 : p.length ≤ 17592186044416) (hl2 : l.length ≤ 9223372036854775807) :
    Calls Try.prog 9 #[.string s, .slice A p.length c, .agg #[.int .i64 n, .slice B l.length d]] w fun e w' => ∃ V f, e = .returned (.tuple #[.slice V z.length f, .int .i64 cd]) ∧ Kd.S k49 49 w' w.heap.size (fun _ => True) (.slice V z.length f) z ∧ Below w.heap.size w w' := by
  obtain ⟨k, hk⟩ := ex_of_ev (respond_ev s p n l hp2 hl2)
  rw [hz] at hk
  refine (audit_Respond.calls k s A c p n B d l _ _ w hp hc hl hd hk).mono fun e w' ⟨v, h1, h2, h3⟩ => ?_
  obtain ⟨V, f, rfl, h4, h5⟩ := Kd.S_reads h2
  exact ⟨V, f, h1, h2, h3⟩
theorem RefR_k {w : World} {A B : Option Addr} {c d : Nat} {p l : List Int} (hp : (Kd.C (Kd.int .i64) w A p.length p)) (hc : p.length ≤ c) (hl : (Kd.C (Kd.int .i64) w B l.length l)) (hd : l.length ≤ d) (s : ByteArray) (n : Int) {z : List S49} {cd : Int} (hz : respA s p n l = (z, cd)) (hp2 : p.length ≤ 17592186044416) :
    Calls Try.prog 10 #[.string s, .slice A p.length c, .agg #[.int .i64 n, .slice B l.length d]] w fun e w' => ∃ V f, e = .returned (.tuple #[.slice V z.length f, .int .i64 cd]) ∧ (Kd.C k49 w' V z.length z) ∧ z.length ≤ f ∧ Below w.heap.size w w' := by
  obtain ⟨k, hk⟩ := ex_of_ev (ref_Respond_ev s p n l hp2)
  rw [hz] at hk
  refine (ossuaryref1_Respond.calls k s A c p n B d l _ _ w hp hc hl hd hk).mono fun e w' ⟨v, h1, h2, h3⟩ => ?_
  obtain ⟨V, f, rfl, h4, h5⟩ := Kd.S_reads h2
  exact ⟨V, f, h1, h5, h4, h3⟩
theorem SameA_k {w : World} {A B : Option Addr} {c d : Nat} {l : List S49} (h1 : (Kd.C k49 w A l.length l)) (h2 : l.length ≤ c) (h3 : (Kd.C k49 w B l.length l)) (h4 : l.length ≤ d) (hl : l.length ≤ 17592186044416) (ho : ∀ x, x ∈ l → x.f1.length ≤ 17592186044416) : Calls Try.prog 11 #[.slice A l.length c, .slice B l.length d] w fun e w' => e = .returned (.bool true) ∧ Below w.heap.size w w' := by
  obtain ⟨k, hk⟩ := ex_of_ev (sameans_ev l hl ho)
  exact ossuarylaw0_SameAnswers.calls k A c l B d l true w h1 h2 h3 h4 hk
theorem Num_k (x : Int) (w : World) : Calls Try.prog 12 #[.int .i64 x] w fun e w' => e = .returned (.int .i64 x) ∧ Below w.heap.size w w' :=
  (ossuarylaw0_Num.calls x x w rfl).mono fun _ _ ⟨h, ⟨n, e⟩⟩ => ⟨h, by rw [e]; exact pw_below_drewN (Below.refl _ _) n⟩
theorem Chk_k {w : World} {A B : Option Addr} {c d : Nat} {l : List Int} {zs : List S49} (hl : (Kd.C (Kd.int .i64) w B l.length l)) (hd : l.length ≤ d) (hz : (Kd.C k49 w A zs.length zs)) (hc : zs.length ≤ c) (ho : ∀ x, x ∈ zs → AnsOk x) (hl2 : l.length ≤ 9223372036854775807) (R m t n : Int) {r : Bool} (hr : auditA R m t n l zs = r) :
    Calls Try.prog 13 #[.int .i64 R, .int .i64 m, .int .i64 t, .agg #[.int .i64 n, .slice B l.length d], .slice A zs.length c] w fun e w' => e = .returned (.bool r) ∧ Below w.heap.size w w' := by
  subst hr
  obtain ⟨k, hk⟩ := ex_of_ev (check_ev R m t n l zs hl2 ho)
  exact audit_Check.calls k R m t n B d l A c zs _ w hl hd hz hc hk
theorem RefC_k {w : World} {A B : Option Addr} {c d : Nat} {l : List Int} {zs : List S49} (hl : (Kd.C (Kd.int .i64) w B l.length l)) (hd : l.length ≤ d) (hz : (Kd.C k49 w A zs.length zs)) (hc : zs.length ≤ c) (ho : ∀ x, x ∈ zs → AnsOk x) (R m t n : Int) {r : Bool} (hr : auditA R m t n l zs = r) :
    Calls Try.prog 14 #[.int .i64 R, .int .i64 m, .int .i64 t, .agg #[.int .i64 n, .slice B l.length d], .slice A zs.length c] w fun e w' => e = .returned (.bool r) ∧ Below w.heap.size w w' := by
  subst hr
  obtain ⟨k, hk⟩ := ex_of_ev (ref_CheckAudit_ev R m t n l zs ho)
  exact ossuaryref1_CheckAudit.calls k R m t n B d l A c zs _ w hl hd hz hc hk
theorem Kept_k {w : World} {A B : Option Addr} {c d : Nat} {l : List Int} (h1 : CL w A c l) (h3 : (Kd.C (Kd.int .i64) w B l.length l)) (h4 : l.length ≤ d) (hl : l.length ≤ 17592186044416) : Calls Try.prog 16 #[.slice A l.length c, .slice B l.length d] w fun e w' => e = .returned (.bool true) ∧ Below w.heap.size w w' := by
  obtain ⟨k, hk⟩ := ex_of_ev (kept_ev l hl)
  exact (ossuarylaw0_KeptInts.calls k A c l B d l true w h1 (CL.cap h1) h3 h4 hk).mono fun _ _ ⟨h, ⟨n, e⟩⟩ => ⟨h, by rw [e]; exact pw_below_drewN (Below.refl _ _) n⟩
theorem resp_small {s : ByteArray} {p : List Int} {n : Int} {l : List Int} {z : List S49} {cd : Int} (h : respA s p n l = (z, cd)) : z.length ≤ 64 ∧ ∀ x, x ∈ z → x.f1.length ≤ 17592186044416 := by
  unfold respA at h
  split at h
  · rename_i hh
    obtain ⟨h1, h2⟩ := Bool.and_eq_true_iff.mp hh
    unfold hasL sharesB at h1
    unfold askL at h2
    simp only [Bool.and_eq_true, decide_eq_true_eq, List.all_eq_true] at h1 h2
    injection h with hz _
    subst hz
    refine ⟨by rw [List.length_map]; exact h2.1.2.2, fun x hx => ?_⟩
    obtain ⟨b, hb, rfl⟩ := List.mem_map.mp hx
    have hb4 := h2.2 b hb
    obtain ⟨q, rfl⟩ := Int.eq_ofNat_of_zero_le hb4.1
    exact (ans_ok s h1.1 p h1.2.1 n q (by omega)).2
  · injection h with hz _
    subst hz
    exact ⟨by simp, fun x hx => by cases hx⟩
end Go.Proofs.Ytgolnkankkegdaa.Au
