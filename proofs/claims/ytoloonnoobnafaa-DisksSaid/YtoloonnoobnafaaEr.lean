/- The program's and the reference's calls over disks answer alike: contracts for both; no condition beyond each theorem's own. -/
import Derived.Test.YtoloonnoobnafaaEd
import Derived.Test.YtoloonnoobnafaaEp
namespace Go.Proofs.Ytoloonnoobnafaa.Dr
open Go.RowKit Go.Proofs.YtoloonnoobnafaaW.PrintWords Go.Proofs.YtoloonnoobnafaaW.PrintLast Go.Proofs.YtoloonnoobnafaaW.PrintMore
open Go.Proofs.Ytoloonnoobnafaa.HDisks Go.Proofs.Ytoloonnoobnafaa.Dk Go.Proofs.Ytoloonnoobnafaa.Dd Go.Proofs.Ytoloonnoobnafaa.Dp
set_option linter.unusedVariables false
set_option linter.unusedSimpArgs false
/-- So long that each call can still be made. -/
def Bd (d : DS) : Prop := d.ss.length ≤ 8796093021952 ∧ d.cs.length ≤ 5864062014634
/-- What a call leaves. -/
def Okd (d : DS) : Prop := d.ss.length ≤ 72 ∧ d.cs.length ≤ 257 ∧ ∀ s, s ∈ d.ss → s.size ≤ 64
theorem Okd.bd {d : DS} (h : Okd d) : Bd d := ⟨by have := h.1; omega, by have := h.2.1; omega⟩
theorem Okd.nil (b : Bool) : Okd ⟨b, [], []⟩ := ⟨by simp, by simp, by simp⟩
theorem okd_of {s : List ByteArray} {c : List S62} (h : Valid s c) (b : Bool) : Okd ⟨b, s, c⟩ := ⟨h.2.1, by have := h.2.2.1; show c.length ≤ _; omega, fun x hx => by have := h.2.2.2.1 x hx; omega⟩
theorem st_no {d : DS} (hb : Bd d) (h : mayV d.lost d.ss d.cs = false) : Ev (fun k => ossuaryref13_state.f k d.lost d.ss d.cs) 1300 := by
  have := refState_ev d.lost d.ss d.cs (by have := hb.1; omega) (by have := hb.2; omega)
  rwa [h, if_neg (by decide)] at this
theorem st_lost : Ev (fun k => ossuaryref13_state.f k true [] []) 1301 := refState_ev true [] [] (by simp) (by simp)
theorem st_ok {s : List ByteArray} {c : List S62} (h : Valid s c) : Ev (fun k => ossuaryref13_state.f k false s c) 0 := by
  have := refState_ev false s c (by have := h.2.1; omega) (by have := h.2.2.1; omega)
  rwa [valid_may h, if_pos rfl, if_neg (by decide)] at this
theorem cases3 (d : DS) (hb : Bd d) : (mayV d.lost d.ss d.cs = false ∧ disk_May.f d.lost d.ss d.cs = some false) ∨ d = ⟨true, [], []⟩ ∨ ∃ s c, d = ⟨false, s, c⟩ ∧ Valid s c := by
  cases h : mayV d.lost d.ss d.cs with
  | false => exact .inl ⟨rfl, by rw [may_some _ _ _ (by have := hb.1; omega) (by have := hb.2; omega), h]⟩
  | true =>
    obtain ⟨l, s, c⟩ := d
    cases l with
    | true => obtain ⟨h1, h2⟩ := lost_of h; dsimp only at h1 h2; subst h1; subst h2; exact .inr (.inl rfl)
    | false => exact .inr (.inr ⟨s, c, rfl, valid_of h⟩)
theorem at_some {α : Type} {g : Nat → Option α} {r : α} (h : Ev g r) : ∃ k, g k = some r := ex_of_ev h
theorem jMay (d : DS) (hb : Bd d) : ∃ r, disk_May.f d.lost d.ss d.cs = some r ∧ ∃ k, ossuaryref13_DiskMay.f k d.lost d.ss d.cs = some r :=
  ⟨_, may_some _ _ _ (by have := hb.1; omega) (by have := hb.2; omega), at_some (refMay_ev _ _ _ (by have := hb.1; omega) (by have := hb.2; omega))⟩
theorem jRead (d : DS) (hb : Bd d) (x : Int) : ∃ t e, disk_Read.f d.lost d.ss d.cs x = some (t, e) ∧ ∃ k, ossuaryref13_Read.f k d.lost d.ss d.cs x = some (t, e) := by
  unfold ossuaryref13_Read.f
  rcases cases3 d hb with ⟨h, h'⟩ | rfl | ⟨s, c, rfl, h⟩
  · exact ⟨_, _, read_no h' x, at_some (Ev.bind (st_no hb h) (ev_neg (by decide) (Ev.now _)))⟩
  · exact ⟨_, _, read_lost x, at_some (Ev.bind st_lost (ev_neg (by decide) (Ev.now _)))⟩
  · by_cases c1 : x < 0
    · exact ⟨_, _, read_out h x (.inl c1), at_some (Ev.bind (st_ok h) (ev_pos rfl (ev_pos c1 (Ev.now _))))⟩
    by_cases c2 : x ≥ (s.length : Int)
    · exact ⟨_, _, read_out h x (.inr c2), at_some (Ev.bind (st_ok h) (ev_pos rfl (ev_neg c1 (ev_pos c2 (Ev.now _)))))⟩
    exact ⟨_, _, read_eq h x (by omega) (by omega), at_some (Ev.bind (st_ok h) (ev_pos rfl (ev_neg c1 (ev_neg c2 (Ev.bind (refPeek_ev false s c x (by omega) (by omega) h.2.2.1) (Ev.now _))))))⟩
theorem jWrite (d : DS) (hb : Bd d) (x : Int) (t : ByteArray) : ∃ (d2 : DS) (e : Int), disk_Write.f d.lost d.ss d.cs x t = some (d2.lost, d2.ss, d2.cs, e) ∧ (∃ k, ossuaryref13_Write.f k d.lost d.ss d.cs x t = some (d2.lost, d2.ss, d2.cs, e)) ∧ Okd d2 := by
  unfold ossuaryref13_Write.f
  rcases cases3 d hb with ⟨h, h'⟩ | rfl | ⟨s, c, rfl, h⟩
  · exact ⟨⟨false, [], []⟩, 1300, write_no h' x t, at_some (Ev.bind (st_no hb h) (ev_neg (by decide) (Ev.now _))), Okd.nil _⟩
  · exact ⟨⟨false, [], []⟩, 1301, write_lost x t, at_some (Ev.bind st_lost (ev_neg (by decide) (Ev.now _))), Okd.nil _⟩
  · by_cases c1 : x < 0
    · exact ⟨⟨false, [], []⟩, 1300, write_out h x t (.inl c1), at_some (Ev.bind (st_ok h) (ev_pos rfl (ev_pos c1 (Ev.now _)))), Okd.nil _⟩
    by_cases c2 : x ≥ (s.length : Int)
    · exact ⟨⟨false, [], []⟩, 1300, write_out h x t (.inr (.inl c2)), at_some (Ev.bind (st_ok h) (ev_pos rfl (ev_neg c1 (ev_pos c2 (Ev.now _))))), Okd.nil _⟩
    by_cases c3 : (t.size : Int) = 64
    · by_cases c4 : (c.length : Int) ≥ 256
      · refine ⟨⟨false, [], []⟩, 1300, ?_, at_some (Ev.bind (st_ok h) (ev_pos rfl (ev_neg c1 (ev_neg c2 (ev_pos c3 (ev_pos c4 (Ev.now _))))))), Okd.nil _⟩
        show disk_Write.f false s c x t = _
        unfold disk_Write.f
        rw [there_valid h, Option.bind_some, if_pos rfl, if_neg c1, if_neg c2, if_pos c3, if_pos c4]
      · refine ⟨⟨false, s, c ++ [⟨x, t⟩]⟩, 0, write_eq h x t (by omega) (by omega) (by omega) (by omega), at_some (Ev.bind (st_ok h) (ev_pos rfl (ev_neg c1 (ev_neg c2 (ev_pos c3 (ev_neg c4 ?_)))))), okd_of (write_valid h x t (by omega) (by omega) (by omega) (by omega)) false⟩
        dsimp only
        rw [refCopy_eq false s c h.2.1 h.2.2.1]
        simp only [Option.bind_some]
        exact ev_pos (by omega) (Ev.now _)
    · exact ⟨⟨false, [], []⟩, 1300, write_out h x t (.inr (.inr (by omega))), at_some (Ev.bind (st_ok h) (ev_pos rfl (ev_neg c1 (ev_neg c2 (ev_neg c3 (Ev.now _)))))), Okd.nil _⟩
theorem jFlush (d : DS) (hb : Bd d) : ∃ (d2 : DS) (e : Int), (∃ k, disk_Flush.f k d.lost d.ss d.cs = some (d2.lost, d2.ss, d2.cs, e)) ∧ (∃ k, ossuaryref13_Flush.f k d.lost d.ss d.cs = some (d2.lost, d2.ss, d2.cs, e)) ∧ Okd d2 := by
  unfold ossuaryref13_Flush.f
  rcases cases3 d hb with ⟨h, h'⟩ | rfl | ⟨s, c, rfl, h⟩
  · exact ⟨⟨false, [], []⟩, 1300, ⟨0, flush_no h' 0⟩, at_some (Ev.bind (st_no hb h) (ev_neg (by decide) (Ev.now _))), Okd.nil _⟩
  · exact ⟨⟨false, [], []⟩, 1301, at_some flush_lost, at_some (Ev.bind st_lost (ev_neg (by decide) (Ev.now _))), Okd.nil _⟩
  · exact ⟨⟨false, settleS (fun _ => true) 0 c s, []⟩, 0, at_some (flush_eq h), at_some (Ev.bind (st_ok h) (ev_pos rfl (Ev.bind (refLasts_ev h (-1) (fun _ => true) lasts_min1) (Ev.now _)))), okd_of (settle_valid h _) false⟩
theorem jCrash (d : DS) (hb : Bd d) (x : Int) : ∃ (d2 : DS) (e : Int), (∃ k, disk_Crash.f k d.lost d.ss d.cs x = some (d2.lost, d2.ss, d2.cs, e)) ∧ (∃ k, ossuaryref13_Crash.f k d.lost d.ss d.cs x = some (d2.lost, d2.ss, d2.cs, e)) ∧ Okd d2 := by
  unfold ossuaryref13_Crash.f
  rcases cases3 d hb with ⟨h, h'⟩ | rfl | ⟨s, c, rfl, h⟩
  · exact ⟨⟨false, [], []⟩, 1300, ⟨0, crash_no h' 0 x⟩, at_some (Ev.bind (st_no hb h) (ev_neg (by decide) (Ev.now _))), Okd.nil _⟩
  · exact ⟨⟨false, [], []⟩, 1301, at_some (crash_lost x), at_some (Ev.bind st_lost (ev_neg (by decide) (Ev.now _))), Okd.nil _⟩
  · exact ⟨⟨false, settleS (lastsB x) 0 c s, []⟩, 0, at_some (crash_eq h x), at_some (Ev.bind (st_ok h) (ev_pos rfl (Ev.bind (refLasts_ev h x (lastsB x) (lasts_ref x)) (Ev.now _)))), okd_of (settle_valid h _) false⟩
theorem jRot (d : DS) (hb : Bd d) (x y z : Int) : ∃ (d2 : DS) (e : Int), disk_Rot.f d.lost d.ss d.cs x y z = some (d2.lost, d2.ss, d2.cs, e) ∧ (∃ k, ossuaryref13_Rot.f k d.lost d.ss d.cs x y z = some (d2.lost, d2.ss, d2.cs, e)) ∧ Okd d2 := by
  unfold ossuaryref13_Rot.f
  rcases cases3 d hb with ⟨h, h'⟩ | rfl | ⟨s, c, rfl, h⟩
  · exact ⟨⟨false, [], []⟩, 1300, rot_no h' x y z, at_some (Ev.bind (st_no hb h) (ev_neg (by decide) (Ev.now _))), Okd.nil _⟩
  · exact ⟨⟨false, [], []⟩, 1301, rot_lost x y z, at_some (Ev.bind st_lost (ev_neg (by decide) (Ev.now _))), Okd.nil _⟩
  · by_cases c1 : x < 0
    · exact ⟨⟨false, [], []⟩, 1300, rot_out h x y z (.inl c1), at_some (Ev.bind (st_ok h) (ev_pos rfl (ev_pos c1 (Ev.now _)))), Okd.nil _⟩
    by_cases c2 : x ≥ (s.length : Int)
    · exact ⟨⟨false, [], []⟩, 1300, rot_out h x y z (.inr (.inl c2)), at_some (Ev.bind (st_ok h) (ev_pos rfl (ev_neg c1 (ev_pos c2 (Ev.now _))))), Okd.nil _⟩
    by_cases c3 : y < 0
    · exact ⟨⟨false, [], []⟩, 1300, rot_out h x y z (.inr (.inr (.inl c3))), at_some (Ev.bind (st_ok h) (ev_pos rfl (ev_neg c1 (ev_neg c2 (ev_pos c3 (Ev.now _)))))), Okd.nil _⟩
    by_cases c4 : y ≥ 64
    · exact ⟨⟨false, [], []⟩, 1300, rot_out h x y z (.inr (.inr (.inr (.inl c4)))), at_some (Ev.bind (st_ok h) (ev_pos rfl (ev_neg c1 (ev_neg c2 (ev_neg c3 (ev_pos c4 (Ev.now _))))))), Okd.nil _⟩
    by_cases c5 : z < 1
    · exact ⟨⟨false, [], []⟩, 1300, rot_out h x y z (.inr (.inr (.inr (.inr (.inl c5))))), at_some (Ev.bind (st_ok h) (ev_pos rfl (ev_neg c1 (ev_neg c2 (ev_neg c3 (ev_neg c4 (ev_pos c5 (Ev.now _)))))))), Okd.nil _⟩
    by_cases c6 : z > 255
    · exact ⟨⟨false, [], []⟩, 1300, rot_out h x y z (.inr (.inr (.inr (.inr (.inr c6))))), at_some (Ev.bind (st_ok h) (ev_pos rfl (ev_neg c1 (ev_neg c2 (ev_neg c3 (ev_neg c4 (ev_neg c5 (ev_pos c6 (Ev.now _))))))))), Okd.nil _⟩
    refine ⟨⟨false, s.set x.toNat (rotS (rdOf ByteArray.empty s x) y z), c⟩, 0, rot_eq h x y z (by omega) (by omega) (by omega) (by omega) (by omega) (by omega), at_some (Ev.bind (st_ok h) (ev_pos rfl (ev_neg c1 (ev_neg c2 (ev_neg c3 (ev_neg c4 (ev_neg c5 (ev_neg c6 ?_)))))))), okd_of (rot_valid h x y z) false⟩
    have hs : (rdOf ByteArray.empty s x).size = 64 := by
      unfold rdOf
      exact h.2.2.2.1 _ (mem_getD s _ x.toNat (by omega))
    dsimp only
    rw [refCopy_eq false s c h.2.1 h.2.2.1]
    simp only [Option.bind_some]
    refine ev_pos (by omega) (ev_pos (by omega) (ev_pos (by rw [hs]; decide) (ev_pos (by omega) (ev_pos (by rw [bytesOf_length, hs]; omega) ?_))))
    exact Ev.now _
theorem jLose (d : DS) (hb : Bd d) : ∃ (d2 : DS) (e : Int), disk_Lose.f d.lost d.ss d.cs = some (d2.lost, d2.ss, d2.cs, e) ∧ (∃ k, ossuaryref13_Lose.f k d.lost d.ss d.cs = some (d2.lost, d2.ss, d2.cs, e)) ∧ Okd d2 := by
  unfold ossuaryref13_Lose.f
  have hm := refMay_ev d.lost d.ss d.cs (by have := hb.1; omega) (by have := hb.2; omega)
  rcases cases3 d hb with ⟨h, h'⟩ | rfl | ⟨s, c, rfl, h⟩
  · rw [h] at hm
    exact ⟨⟨false, [], []⟩, 1300, lose_no h', at_some (Ev.bind hm (ev_neg (by decide) (Ev.now _))), Okd.nil _⟩
  · exact ⟨⟨true, [], []⟩, 0, lose_lost, at_some (Ev.bind (show Ev (fun k => ossuaryref13_DiskMay.f k true [] []) true from hm) (ev_pos rfl (Ev.now _))), Okd.nil _⟩
  · rw [show mayV (DS.mk false s c).lost (DS.mk false s c).ss (DS.mk false s c).cs = true from valid_may h] at hm
    exact ⟨⟨true, [], []⟩, 0, lose_valid h, at_some (Ev.bind hm (ev_pos rfl (Ev.now _))), Okd.nil _⟩
theorem jNew (n : Int) : ∃ (d2 : DS) (e : Int), (∃ k, disk_New.f k n = some (d2.lost, d2.ss, d2.cs, e)) ∧ (∃ k, ossuaryref13_NewDisk.f k n = some (d2.lost, d2.ss, d2.cs, e)) ∧ Okd d2 := by
  by_cases h : n < 1 ∨ 72 < n
  · exact ⟨⟨false, [], []⟩, 1300, at_some (new_no n h), at_some (refNew_no n h), Okd.nil _⟩
  · obtain ⟨m, rfl⟩ := Int.eq_ofNat_of_zero_le (show 0 ≤ n by omega)
    exact ⟨⟨false, List.replicate m blankS, []⟩, 0, at_some (new_ev m (by omega) (by omega)), at_some (refNew_ev m (by omega) (by omega)), okd_of (new_valid m (by omega) (by omega)) false⟩
end Go.Proofs.Ytoloonnoobnafaa.Dr
