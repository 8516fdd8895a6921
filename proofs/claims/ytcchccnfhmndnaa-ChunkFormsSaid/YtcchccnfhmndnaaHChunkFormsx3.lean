/- Lean functions for the Go functions that the law reaches, and proofs that the calls come to them: written by a program of this session. -/
import Derived.Test.YtcchccnfhmndnaaHChunkFormsx0
import Derived.Test.YtcchccnfhmndnaaHChunkFormsx1
import Derived.Test.YtcchccnfhmndnaaHChunkFormsx2
namespace Go.Proofs.Ytcchccnfhmndnaa.HChunkForms
open Go.RowKit Go.Proofs.YtcchccnfhmndnaaW.PrintWords Go.Proofs.YtcchccnfhmndnaaW.PrintLast Go.Proofs.YtcchccnfhmndnaaW.PrintMore
attribute [local go_sem] max2_int min2_int max_two min_two max_three min_three max_four min_four   -- for this text's walks alone
set_option linter.unusedVariables false
set_option linter.unusedSimpArgs false

/-! ### ossuarylaw17_ChunkForms: function 5 -/
def ossuarylaw17_ChunkForms.f (k : Nat) (a0 : Int) (a1 : Int) : Option (Bool) := (ossuarylaw17_awake.f k).bind fun t143 => (if t143 = true then (if 32 ≤ 281474976710656 then ((some (List.replicate 32 0 : List Int)).bind fun y145 => (if 0 ≤ (wrap64 (192 + (wrap64 (1 + (Go.bits .and .i64 a1 1023))))) then (if (wrap64 (192 + (wrap64 (1 + (Go.bits .and .i64 a1 1023)))) : Int).toNat ≤ 281474976710656 then ((chunk_Cut.f k 1 0 (strOfNums (List.replicate (wrap64 (192 + (wrap64 (1 + (Go.bits .and .i64 a1 1023)))) : Int).toNat 0))).bind fun bt151 => ((chunk_Cut.f k (wrap64 (-(wrap64 (1 + (Go.bits .and .i64 a1 1023))))) 0 (⟨#[]⟩ : ByteArray)).bind fun bt155 => (if 0 ≤ 31 then (if 31 ≤ ((strOfNums y145).size : Int) then (if 0 ≤ (wrap64 (6 + (wrap64 (1 + (Go.bits .and .i64 a1 1023))))) then (if (wrap64 (6 + (wrap64 (1 + (Go.bits .and .i64 a1 1023)))) : Int).toNat ≤ 17592186044416 then ((some (([[], (([strOfNums y145] : List ByteArray)), (([strOfNums y145] : List ByteArray)), (([strOfNums y145, strOfNums y145] : List ByteArray)), (([(strOfNums y145).extract 0 31] : List ByteArray)), (List.replicate (wrap64 (6 + (wrap64 (1 + (Go.bits .and .i64 a1 1023)))) : Int).toNat (⟨#[]⟩ : ByteArray)), (([strOfNums y145] : List ByteArray))] : List (List ByteArray)) : List (List ByteArray))).bind fun y177 => ((some (([wrap64 (1 + (Go.bits .and .i64 a1 1023)), 0, wrap64 (32 + (wrap64 (1 + (Go.bits .and .i64 a1 1023)))), 32, 5, 5, wrap64 (-(wrap64 (1 + (Go.bits .and .i64 a1 1023))))] : List Int) : List Int)).bind fun y180 => (if 0 ≤ (wrap64 (Int.tmod (IntKind.u64.wrap (a0)) 7)) then (if (wrap64 (Int.tmod (IntKind.u64.wrap (a0)) 7)) < (y177.length : Int) then (if (wrap64 (Int.tmod (IntKind.u64.wrap (a0)) 7)) < (y180.length : Int) then ((chunk_Join.f k 1 0 (rd_L1 y177 (wrap64 (Int.tmod (IntKind.u64.wrap (a0)) 7))) (rd y180 (wrap64 (Int.tmod (IntKind.u64.wrap (a0)) 7)))).bind fun bt185 => ((chunk_Join.f k 1 0 (([strOfNums y145, strOfNums y145] : List ByteArray)) 33).bind fun bt190 => ((ossuarylaw0_Num.f bt151.2).bind fun t192 => (if t192 = 1700 then ((ossuarylaw0_Num.f bt155.2).bind fun t193 => (if t193 = 1700 then (if bt185.1.toList = ([] : List UInt8) then ((ossuarylaw0_Num.f bt185.2).bind fun t194 => (if t194 = 1700 then (if (bt190.1.size : Int) = 33 then ((ossuarylaw0_Num.f bt190.2).bind fun t195 => (some (t195 == 0))) else (some false)) else (some false))) else (some false)) else (some false))) else (some false))))) else (none)) else (none)) else (none)))) else (none)) else (none)) else (none)) else (none)))) else (none)) else (none))) else (none)) else (some false))
theorem ossuarylaw17_ChunkForms.mono : ∀ a0 a1 k, LeO (ossuarylaw17_ChunkForms.f k a0 a1) (ossuarylaw17_ChunkForms.f (k + 1) a0 a1) := by
  intro a0 a1 k
  unfold ossuarylaw17_ChunkForms.f
  repeat' first
      | (with_reducible exact chunk_Cut.mono _ _ _ _)
      | (with_reducible exact chunk_Join.mono _ _ _ _ _)
      | (with_reducible exact ossuarylaw17_awake.mono _)
      | (with_reducible exact LeO.refl _)
      | (with_reducible exact LeO.none _)
      | (with_reducible refine LeO.ite ?_ ?_)
      | (with_reducible refine LeO.bind ?_ (fun _ => ?_))
      | exact chunk_Cut.mono _ _ _ _
      | exact chunk_Join.mono _ _ _ _ _
      | exact ossuarylaw17_awake.mono _
      | exact LeO.none _
      | refine LeO.ite ?_ ?_
      | refine LeO.bind ?_ (fun _ => ?_)
def ossuarylaw17_ChunkForms.T6 : Bool × List (List Nat × List Nat) := (true, [([], []), ([], []), ([1], [1]), ([2, 2], [2]), ([3], [3]), ([0, 4], [0, 4]), ([5], [5]), ([6], [6]), ([6], [6]), ([7, 5, 0, 1, 2, 3, 4, 5, 6, 7], [7]), ([8, 9, 0, 1, 2, 3, 4, 5, 6, 7, 8, 9], [8])])
def ossuarylaw17_ChunkForms.B6 : List Nat := [0, 0, 2, 6, 14, 31, 63, 127, 127, 255, 1023]
theorem ossuarylaw17_ChunkForms.tab6 : rtab .any (opsOf Try.f5 6) = ossuarylaw17_ChunkForms.T6 := by kernel_rfl
theorem ossuarylaw17_ChunkForms.bits6 : waitsOk ossuarylaw17_ChunkForms.T6.2 ossuarylaw17_ChunkForms.B6 = true := by kernel_rfl
def ossuarylaw17_ChunkForms.T8 : Bool × List (List Nat × List Nat) := (true, [([], []), ([0], [0]), ([], []), ([2], [2]), ([], []), ([], []), ([4, 5], [4, 5]), ([], []), ([7], [7]), ([8], [8]), ([], []), ([10], [10]), ([11, 11], [11]), ([], []), ([13], [13]), ([1, 3, 6, 9, 12, 14], [1, 3, 6, 9, 12, 14]), ([15, 0, 1, 2, 3, 4, 5, 6, 7, 8, 9, 10, 11, 12, 13, 14, 15], [15])])
def ossuarylaw17_ChunkForms.B8 : List Nat := [0, 1, 0, 4, 0, 0, 48, 0, 128, 384, 0, 1024, 3072, 0, 8192, 32767, 65535]
theorem ossuarylaw17_ChunkForms.tab8 : rtab .any (opsOf Try.f5 8) = ossuarylaw17_ChunkForms.T8 := by kernel_rfl
theorem ossuarylaw17_ChunkForms.bits8 : waitsOk ossuarylaw17_ChunkForms.T8.2 ossuarylaw17_ChunkForms.B8 = true := by kernel_rfl
def ossuarylaw17_ChunkForms.T11 : Bool × List (List Nat × List Nat) := (true, [([], []), ([], []), ([], []), ([1, 2], [1, 2]), ([3], [3]), ([], []), ([], []), ([5, 6], [5, 6]), ([7], [7]), ([0, 4, 8], [0, 4, 8]), ([9], [9]), ([10], [10]), ([10], [10]), ([11, 9, 0, 1, 2, 3, 4, 5, 6, 7, 8, 9, 10, 11], [11]), ([12, 13, 0, 1, 2, 3, 4, 5, 6, 7, 8, 9, 10, 11, 12, 13], [12])])
def ossuarylaw17_ChunkForms.B11 : List Nat := [0, 0, 0, 6, 14, 0, 0, 96, 224, 511, 1023, 2047, 2047, 4095, 16383]
theorem ossuarylaw17_ChunkForms.tab11 : rtab .any (opsOf Try.f5 11) = ossuarylaw17_ChunkForms.T11 := by kernel_rfl
theorem ossuarylaw17_ChunkForms.bits11 : waitsOk ossuarylaw17_ChunkForms.T11.2 ossuarylaw17_ChunkForms.B11 = true := by kernel_rfl
set_option maxHeartbeats 8000000 in
set_option maxRecDepth 100000 in
theorem ossuarylaw17_ChunkForms.calls (k : Nat) (a0 : Int) (a1 : Int) (r : Bool) (w : World) (h : ossuarylaw17_ChunkForms.f k a0 a1 = some r) (hr_ : r = true := by rfl) :
    Calls Try.prog 5 #[.int .i64 a0, .int .i64 a1] w fun e w' => e = .returned (.bool r) ∧ Below w.heap.size w w' := by
  have HRT := Aside0.mk hr_
  clear hr_
  have hu23 := Try.underlying23
  have HB := Aside0.mk (Below.refl w.heap.size w)
  have H : ((ossuarylaw17_awake.f k).bind fun t143 => (if t143 = true then (if 32 ≤ 281474976710656 then ((some (List.replicate 32 0 : List Int)).bind fun y145 => (if 0 ≤ (wrap64 (192 + (wrap64 (1 + (Go.bits .and .i64 a1 1023))))) then (if (wrap64 (192 + (wrap64 (1 + (Go.bits .and .i64 a1 1023)))) : Int).toNat ≤ 281474976710656 then ((chunk_Cut.f k 1 0 (strOfNums (List.replicate (wrap64 (192 + (wrap64 (1 + (Go.bits .and .i64 a1 1023)))) : Int).toNat 0))).bind fun bt151 => ((chunk_Cut.f k (wrap64 (-(wrap64 (1 + (Go.bits .and .i64 a1 1023))))) 0 (⟨#[]⟩ : ByteArray)).bind fun bt155 => (if 0 ≤ 31 then (if 31 ≤ ((strOfNums y145).size : Int) then (if 0 ≤ (wrap64 (6 + (wrap64 (1 + (Go.bits .and .i64 a1 1023))))) then (if (wrap64 (6 + (wrap64 (1 + (Go.bits .and .i64 a1 1023)))) : Int).toNat ≤ 17592186044416 then ((some (([[], (([strOfNums y145] : List ByteArray)), (([strOfNums y145] : List ByteArray)), (([strOfNums y145, strOfNums y145] : List ByteArray)), (([(strOfNums y145).extract 0 31] : List ByteArray)), (List.replicate (wrap64 (6 + (wrap64 (1 + (Go.bits .and .i64 a1 1023)))) : Int).toNat (⟨#[]⟩ : ByteArray)), (([strOfNums y145] : List ByteArray))] : List (List ByteArray)) : List (List ByteArray))).bind fun y177 => ((some (([wrap64 (1 + (Go.bits .and .i64 a1 1023)), 0, wrap64 (32 + (wrap64 (1 + (Go.bits .and .i64 a1 1023)))), 32, 5, 5, wrap64 (-(wrap64 (1 + (Go.bits .and .i64 a1 1023))))] : List Int) : List Int)).bind fun y180 => (if 0 ≤ (wrap64 (Int.tmod (IntKind.u64.wrap (a0)) 7)) then (if (wrap64 (Int.tmod (IntKind.u64.wrap (a0)) 7)) < (y177.length : Int) then (if (wrap64 (Int.tmod (IntKind.u64.wrap (a0)) 7)) < (y180.length : Int) then ((chunk_Join.f k 1 0 (rd_L1 y177 (wrap64 (Int.tmod (IntKind.u64.wrap (a0)) 7))) (rd y180 (wrap64 (Int.tmod (IntKind.u64.wrap (a0)) 7)))).bind fun bt185 => ((chunk_Join.f k 1 0 (([strOfNums y145, strOfNums y145] : List ByteArray)) 33).bind fun bt190 => ((ossuarylaw0_Num.f bt151.2).bind fun t192 => (if t192 = 1700 then ((ossuarylaw0_Num.f bt155.2).bind fun t193 => (if t193 = 1700 then (if bt185.1.toList = ([] : List UInt8) then ((ossuarylaw0_Num.f bt185.2).bind fun t194 => (if t194 = 1700 then (if (bt190.1.size : Int) = 33 then ((ossuarylaw0_Num.f bt190.2).bind fun t195 => (some (t195 == 0))) else (some false)) else (some false))) else (some false)) else (some false))) else (some false))))) else (none)) else (none)) else (none)))) else (none)) else (none)) else (none)) else (none)))) else (none)) else (none))) else (none)) else (some false))) = some r := h
  clear h
  replace H := Option.bind_eq_some_iff.mp H
  obtain ⟨t143, A30, H⟩ := H
  replace H : (if t143 = true then (if 32 ≤ 281474976710656 then ((some (List.replicate 32 0 : List Int)).bind fun y145 => (if 0 ≤ (wrap64 (192 + (wrap64 (1 + (Go.bits .and .i64 a1 1023))))) then (if (wrap64 (192 + (wrap64 (1 + (Go.bits .and .i64 a1 1023)))) : Int).toNat ≤ 281474976710656 then ((chunk_Cut.f k 1 0 (strOfNums (List.replicate (wrap64 (192 + (wrap64 (1 + (Go.bits .and .i64 a1 1023)))) : Int).toNat 0))).bind fun bt151 => ((chunk_Cut.f k (wrap64 (-(wrap64 (1 + (Go.bits .and .i64 a1 1023))))) 0 (⟨#[]⟩ : ByteArray)).bind fun bt155 => (if 0 ≤ 31 then (if 31 ≤ ((strOfNums y145).size : Int) then (if 0 ≤ (wrap64 (6 + (wrap64 (1 + (Go.bits .and .i64 a1 1023))))) then (if (wrap64 (6 + (wrap64 (1 + (Go.bits .and .i64 a1 1023)))) : Int).toNat ≤ 17592186044416 then ((some (([[], (([strOfNums y145] : List ByteArray)), (([strOfNums y145] : List ByteArray)), (([strOfNums y145, strOfNums y145] : List ByteArray)), (([(strOfNums y145).extract 0 31] : List ByteArray)), (List.replicate (wrap64 (6 + (wrap64 (1 + (Go.bits .and .i64 a1 1023)))) : Int).toNat (⟨#[]⟩ : ByteArray)), (([strOfNums y145] : List ByteArray))] : List (List ByteArray)) : List (List ByteArray))).bind fun y177 => ((some (([wrap64 (1 + (Go.bits .and .i64 a1 1023)), 0, wrap64 (32 + (wrap64 (1 + (Go.bits .and .i64 a1 1023)))), 32, 5, 5, wrap64 (-(wrap64 (1 + (Go.bits .and .i64 a1 1023))))] : List Int) : List Int)).bind fun y180 => (if 0 ≤ (wrap64 (Int.tmod (IntKind.u64.wrap (a0)) 7)) then (if (wrap64 (Int.tmod (IntKind.u64.wrap (a0)) 7)) < (y177.length : Int) then (if (wrap64 (Int.tmod (IntKind.u64.wrap (a0)) 7)) < (y180.length : Int) then ((chunk_Join.f k 1 0 (rd_L1 y177 (wrap64 (Int.tmod (IntKind.u64.wrap (a0)) 7))) (rd y180 (wrap64 (Int.tmod (IntKind.u64.wrap (a0)) 7)))).bind fun bt185 => ((chunk_Join.f k 1 0 (([strOfNums y145, strOfNums y145] : List ByteArray)) 33).bind fun bt190 => ((ossuarylaw0_Num.f bt151.2).bind fun t192 => (if t192 = 1700 then ((ossuarylaw0_Num.f bt155.2).bind fun t193 => (if t193 = 1700 then (if bt185.1.toList = ([] : List UInt8) then ((ossuarylaw0_Num.f bt185.2).bind fun t194 => (if t194 = 1700 then (if (bt190.1.size : Int) = 33 then ((ossuarylaw0_Num.f bt190.2).bind fun t195 => (some (t195 == 0))) else (some false)) else (some false))) else (some false)) else (some false))) else (some false))))) else (none)) else (none)) else (none)))) else (none)) else (none)) else (none)) else (none)))) else (none)) else (none))) else (none)) else (some false)) = some r := H
  have A3 := Aside0.mk A30
  clear A30
  by_cases c4 : t143 = true
  · subst c4
    have H1 : (if 32 ≤ 281474976710656 then ((some (List.replicate 32 0 : List Int)).bind fun y145 => (if 0 ≤ (wrap64 (192 + (wrap64 (1 + (Go.bits .and .i64 a1 1023))))) then (if (wrap64 (192 + (wrap64 (1 + (Go.bits .and .i64 a1 1023)))) : Int).toNat ≤ 281474976710656 then ((chunk_Cut.f k 1 0 (strOfNums (List.replicate (wrap64 (192 + (wrap64 (1 + (Go.bits .and .i64 a1 1023)))) : Int).toNat 0))).bind fun bt151 => ((chunk_Cut.f k (wrap64 (-(wrap64 (1 + (Go.bits .and .i64 a1 1023))))) 0 (⟨#[]⟩ : ByteArray)).bind fun bt155 => (if 0 ≤ 31 then (if 31 ≤ ((strOfNums y145).size : Int) then (if 0 ≤ (wrap64 (6 + (wrap64 (1 + (Go.bits .and .i64 a1 1023))))) then (if (wrap64 (6 + (wrap64 (1 + (Go.bits .and .i64 a1 1023)))) : Int).toNat ≤ 17592186044416 then ((some (([[], (([strOfNums y145] : List ByteArray)), (([strOfNums y145] : List ByteArray)), (([strOfNums y145, strOfNums y145] : List ByteArray)), (([(strOfNums y145).extract 0 31] : List ByteArray)), (List.replicate (wrap64 (6 + (wrap64 (1 + (Go.bits .and .i64 a1 1023)))) : Int).toNat (⟨#[]⟩ : ByteArray)), (([strOfNums y145] : List ByteArray))] : List (List ByteArray)) : List (List ByteArray))).bind fun y177 => ((some (([wrap64 (1 + (Go.bits .and .i64 a1 1023)), 0, wrap64 (32 + (wrap64 (1 + (Go.bits .and .i64 a1 1023)))), 32, 5, 5, wrap64 (-(wrap64 (1 + (Go.bits .and .i64 a1 1023))))] : List Int) : List Int)).bind fun y180 => (if 0 ≤ (wrap64 (Int.tmod (IntKind.u64.wrap (a0)) 7)) then (if (wrap64 (Int.tmod (IntKind.u64.wrap (a0)) 7)) < (y177.length : Int) then (if (wrap64 (Int.tmod (IntKind.u64.wrap (a0)) 7)) < (y180.length : Int) then ((chunk_Join.f k 1 0 (rd_L1 y177 (wrap64 (Int.tmod (IntKind.u64.wrap (a0)) 7))) (rd y180 (wrap64 (Int.tmod (IntKind.u64.wrap (a0)) 7)))).bind fun bt185 => ((chunk_Join.f k 1 0 (([strOfNums y145, strOfNums y145] : List ByteArray)) 33).bind fun bt190 => ((ossuarylaw0_Num.f bt151.2).bind fun t192 => (if t192 = 1700 then ((ossuarylaw0_Num.f bt155.2).bind fun t193 => (if t193 = 1700 then (if bt185.1.toList = ([] : List UInt8) then ((ossuarylaw0_Num.f bt185.2).bind fun t194 => (if t194 = 1700 then (if (bt190.1.size : Int) = 33 then ((ossuarylaw0_Num.f bt190.2).bind fun t195 => (some (t195 == 0))) else (some false)) else (some false))) else (some false)) else (some false))) else (some false))))) else (none)) else (none)) else (none)))) else (none)) else (none)) else (none)) else (none)))) else (none)) else (none))) else (none)) = some r := by rw [if_pos rfl] at H; exact H
    clear H
    have H := H1
    clear H1
    by_cases c5 : 32 ≤ 281474976710656
    · rw [if_pos c5] at H
      have c5b0 := eq_true c5
      have c5b1 : decide (32 ≤ 281474976710656) = true := decide_eq_true c5
      clear c5
      obtain ⟨y145, hy145⟩ : ∃ y_ : List Int, y_ = (List.replicate 32 0) := ⟨_, rfl⟩
      replace H : (if 0 ≤ (wrap64 (192 + (wrap64 (1 + (Go.bits .and .i64 a1 1023))))) then (if (wrap64 (192 + (wrap64 (1 + (Go.bits .and .i64 a1 1023)))) : Int).toNat ≤ 281474976710656 then ((chunk_Cut.f k 1 0 (strOfNums (List.replicate (wrap64 (192 + (wrap64 (1 + (Go.bits .and .i64 a1 1023)))) : Int).toNat 0))).bind fun bt151 => ((chunk_Cut.f k (wrap64 (-(wrap64 (1 + (Go.bits .and .i64 a1 1023))))) 0 (⟨#[]⟩ : ByteArray)).bind fun bt155 => (if 0 ≤ 31 then (if 31 ≤ ((strOfNums y145).size : Int) then (if 0 ≤ (wrap64 (6 + (wrap64 (1 + (Go.bits .and .i64 a1 1023))))) then (if (wrap64 (6 + (wrap64 (1 + (Go.bits .and .i64 a1 1023)))) : Int).toNat ≤ 17592186044416 then ((some (([[], (([strOfNums y145] : List ByteArray)), (([strOfNums y145] : List ByteArray)), (([strOfNums y145, strOfNums y145] : List ByteArray)), (([(strOfNums y145).extract 0 31] : List ByteArray)), (List.replicate (wrap64 (6 + (wrap64 (1 + (Go.bits .and .i64 a1 1023)))) : Int).toNat (⟨#[]⟩ : ByteArray)), (([strOfNums y145] : List ByteArray))] : List (List ByteArray)) : List (List ByteArray))).bind fun y177 => ((some (([wrap64 (1 + (Go.bits .and .i64 a1 1023)), 0, wrap64 (32 + (wrap64 (1 + (Go.bits .and .i64 a1 1023)))), 32, 5, 5, wrap64 (-(wrap64 (1 + (Go.bits .and .i64 a1 1023))))] : List Int) : List Int)).bind fun y180 => (if 0 ≤ (wrap64 (Int.tmod (IntKind.u64.wrap (a0)) 7)) then (if (wrap64 (Int.tmod (IntKind.u64.wrap (a0)) 7)) < (y177.length : Int) then (if (wrap64 (Int.tmod (IntKind.u64.wrap (a0)) 7)) < (y180.length : Int) then ((chunk_Join.f k 1 0 (rd_L1 y177 (wrap64 (Int.tmod (IntKind.u64.wrap (a0)) 7))) (rd y180 (wrap64 (Int.tmod (IntKind.u64.wrap (a0)) 7)))).bind fun bt185 => ((chunk_Join.f k 1 0 (([strOfNums y145, strOfNums y145] : List ByteArray)) 33).bind fun bt190 => ((ossuarylaw0_Num.f bt151.2).bind fun t192 => (if t192 = 1700 then ((ossuarylaw0_Num.f bt155.2).bind fun t193 => (if t193 = 1700 then (if bt185.1.toList = ([] : List UInt8) then ((ossuarylaw0_Num.f bt185.2).bind fun t194 => (if t194 = 1700 then (if (bt190.1.size : Int) = 33 then ((ossuarylaw0_Num.f bt190.2).bind fun t195 => (some (t195 == 0))) else (some false)) else (some false))) else (some false)) else (some false))) else (some false))))) else (none)) else (none)) else (none)))) else (none)) else (none)) else (none)) else (none)))) else (none)) else (none)) = some r := by first | (rw [hy145]; with_reducible exact H) | (have H2_ := (Option.bind_some _ _).symm.trans H; rw [hy145]; with_reducible exact H2_) | (have H2_ := (Option.bind_some _ _).symm.trans H; with_reducible exact H2_) | with_reducible exact H | (rw [hy145]; exact H) | exact H
      have Ny145 := Aside0.mk hy145
      clear hy145
      obtain ⟨ji6, hji6⟩ : ∃ j_ : Int, (wrap64 (192 + (wrap64 (1 + (Go.bits .and .i64 a1 1023))))) = j_ := ⟨_, rfl⟩
      replace H : (if 0 ≤ (ji6) then (if (ji6 : Int).toNat ≤ 281474976710656 then ((chunk_Cut.f k 1 0 (strOfNums (List.replicate (ji6 : Int).toNat 0))).bind fun bt151 => ((chunk_Cut.f k (wrap64 (-(wrap64 (1 + (Go.bits .and .i64 a1 1023))))) 0 (⟨#[]⟩ : ByteArray)).bind fun bt155 => (if 0 ≤ 31 then (if 31 ≤ ((strOfNums y145).size : Int) then (if 0 ≤ (wrap64 (6 + (wrap64 (1 + (Go.bits .and .i64 a1 1023))))) then (if (wrap64 (6 + (wrap64 (1 + (Go.bits .and .i64 a1 1023)))) : Int).toNat ≤ 17592186044416 then ((some (([[], (([strOfNums y145] : List ByteArray)), (([strOfNums y145] : List ByteArray)), (([strOfNums y145, strOfNums y145] : List ByteArray)), (([(strOfNums y145).extract 0 31] : List ByteArray)), (List.replicate (wrap64 (6 + (wrap64 (1 + (Go.bits .and .i64 a1 1023)))) : Int).toNat (⟨#[]⟩ : ByteArray)), (([strOfNums y145] : List ByteArray))] : List (List ByteArray)) : List (List ByteArray))).bind fun y177 => ((some (([wrap64 (1 + (Go.bits .and .i64 a1 1023)), 0, wrap64 (32 + (wrap64 (1 + (Go.bits .and .i64 a1 1023)))), 32, 5, 5, wrap64 (-(wrap64 (1 + (Go.bits .and .i64 a1 1023))))] : List Int) : List Int)).bind fun y180 => (if 0 ≤ (wrap64 (Int.tmod (IntKind.u64.wrap (a0)) 7)) then (if (wrap64 (Int.tmod (IntKind.u64.wrap (a0)) 7)) < (y177.length : Int) then (if (wrap64 (Int.tmod (IntKind.u64.wrap (a0)) 7)) < (y180.length : Int) then ((chunk_Join.f k 1 0 (rd_L1 y177 (wrap64 (Int.tmod (IntKind.u64.wrap (a0)) 7))) (rd y180 (wrap64 (Int.tmod (IntKind.u64.wrap (a0)) 7)))).bind fun bt185 => ((chunk_Join.f k 1 0 (([strOfNums y145, strOfNums y145] : List ByteArray)) 33).bind fun bt190 => ((ossuarylaw0_Num.f bt151.2).bind fun t192 => (if t192 = 1700 then ((ossuarylaw0_Num.f bt155.2).bind fun t193 => (if t193 = 1700 then (if bt185.1.toList = ([] : List UInt8) then ((ossuarylaw0_Num.f bt185.2).bind fun t194 => (if t194 = 1700 then (if (bt190.1.size : Int) = 33 then ((ossuarylaw0_Num.f bt190.2).bind fun t195 => (some (t195 == 0))) else (some false)) else (some false))) else (some false)) else (some false))) else (some false))))) else (none)) else (none)) else (none)))) else (none)) else (none)) else (none)) else (none)))) else (none)) else (none)) = some r := by first | (rw [hji6] at H; exact H) | (simp only [hji6] at H ⊢; exact H)
      (try rw [hji6] at A3)
      have hji6w : (IntKind.i64.wrap (192 + (wrap64 (1 + (Go.bits .and .i64 a1 1023))))) = ji6 := (i64_w _).trans hji6
      by_cases c7 : 0 ≤ (ji6)
      · rw [if_pos c7] at H
        have c7b0 := eq_true c7
        have c7b1 : decide (0 ≤ (ji6)) = true := decide_eq_true c7
        clear c7
        by_cases c8 : (ji6 : Int).toNat ≤ 281474976710656
        · rw [if_pos c8] at H
          have c8b0 := eq_true c8
          have c8b1 : decide ((ji6 : Int).toNat ≤ 281474976710656) = true := decide_eq_true c8
          clear c8
          obtain ⟨y148, hy148⟩ : ∃ y_ : List Int, y_ = (List.replicate (ji6 : Int).toNat 0) := ⟨_, rfl⟩
          replace H : ((chunk_Cut.f k 1 0 (strOfNums y148)).bind fun bt151 => ((chunk_Cut.f k (wrap64 (-(wrap64 (1 + (Go.bits .and .i64 a1 1023))))) 0 (⟨#[]⟩ : ByteArray)).bind fun bt155 => (if 0 ≤ 31 then (if 31 ≤ ((strOfNums y145).size : Int) then (if 0 ≤ (wrap64 (6 + (wrap64 (1 + (Go.bits .and .i64 a1 1023))))) then (if (wrap64 (6 + (wrap64 (1 + (Go.bits .and .i64 a1 1023)))) : Int).toNat ≤ 17592186044416 then ((some (([[], (([strOfNums y145] : List ByteArray)), (([strOfNums y145] : List ByteArray)), (([strOfNums y145, strOfNums y145] : List ByteArray)), (([(strOfNums y145).extract 0 31] : List ByteArray)), (List.replicate (wrap64 (6 + (wrap64 (1 + (Go.bits .and .i64 a1 1023)))) : Int).toNat (⟨#[]⟩ : ByteArray)), (([strOfNums y145] : List ByteArray))] : List (List ByteArray)) : List (List ByteArray))).bind fun y177 => ((some (([wrap64 (1 + (Go.bits .and .i64 a1 1023)), 0, wrap64 (32 + (wrap64 (1 + (Go.bits .and .i64 a1 1023)))), 32, 5, 5, wrap64 (-(wrap64 (1 + (Go.bits .and .i64 a1 1023))))] : List Int) : List Int)).bind fun y180 => (if 0 ≤ (wrap64 (Int.tmod (IntKind.u64.wrap (a0)) 7)) then (if (wrap64 (Int.tmod (IntKind.u64.wrap (a0)) 7)) < (y177.length : Int) then (if (wrap64 (Int.tmod (IntKind.u64.wrap (a0)) 7)) < (y180.length : Int) then ((chunk_Join.f k 1 0 (rd_L1 y177 (wrap64 (Int.tmod (IntKind.u64.wrap (a0)) 7))) (rd y180 (wrap64 (Int.tmod (IntKind.u64.wrap (a0)) 7)))).bind fun bt185 => ((chunk_Join.f k 1 0 (([strOfNums y145, strOfNums y145] : List ByteArray)) 33).bind fun bt190 => ((ossuarylaw0_Num.f bt151.2).bind fun t192 => (if t192 = 1700 then ((ossuarylaw0_Num.f bt155.2).bind fun t193 => (if t193 = 1700 then (if bt185.1.toList = ([] : List UInt8) then ((ossuarylaw0_Num.f bt185.2).bind fun t194 => (if t194 = 1700 then (if (bt190.1.size : Int) = 33 then ((ossuarylaw0_Num.f bt190.2).bind fun t195 => (some (t195 == 0))) else (some false)) else (some false))) else (some false)) else (some false))) else (some false))))) else (none)) else (none)) else (none)))) else (none)) else (none)) else (none)) else (none)))) = some r := by first | (rw [hy148]; with_reducible exact H) | (have H2_ := (Option.bind_some _ _).symm.trans H; rw [hy148]; with_reducible exact H2_) | (have H2_ := (Option.bind_some _ _).symm.trans H; with_reducible exact H2_) | with_reducible exact H | (rw [hy148]; exact H) | exact H
          have Ny148 := Aside0.mk hy148
          clear hy148
          replace H := Option.bind_eq_some_iff.mp H
          obtain ⟨⟨t151, t154⟩, A90, H⟩ := H
          replace H : ((chunk_Cut.f k (wrap64 (-(wrap64 (1 + (Go.bits .and .i64 a1 1023))))) 0 (⟨#[]⟩ : ByteArray)).bind fun bt155 => (if 0 ≤ 31 then (if 31 ≤ ((strOfNums y145).size : Int) then (if 0 ≤ (wrap64 (6 + (wrap64 (1 + (Go.bits .and .i64 a1 1023))))) then (if (wrap64 (6 + (wrap64 (1 + (Go.bits .and .i64 a1 1023)))) : Int).toNat ≤ 17592186044416 then ((some (([[], (([strOfNums y145] : List ByteArray)), (([strOfNums y145] : List ByteArray)), (([strOfNums y145, strOfNums y145] : List ByteArray)), (([(strOfNums y145).extract 0 31] : List ByteArray)), (List.replicate (wrap64 (6 + (wrap64 (1 + (Go.bits .and .i64 a1 1023)))) : Int).toNat (⟨#[]⟩ : ByteArray)), (([strOfNums y145] : List ByteArray))] : List (List ByteArray)) : List (List ByteArray))).bind fun y177 => ((some (([wrap64 (1 + (Go.bits .and .i64 a1 1023)), 0, wrap64 (32 + (wrap64 (1 + (Go.bits .and .i64 a1 1023)))), 32, 5, 5, wrap64 (-(wrap64 (1 + (Go.bits .and .i64 a1 1023))))] : List Int) : List Int)).bind fun y180 => (if 0 ≤ (wrap64 (Int.tmod (IntKind.u64.wrap (a0)) 7)) then (if (wrap64 (Int.tmod (IntKind.u64.wrap (a0)) 7)) < (y177.length : Int) then (if (wrap64 (Int.tmod (IntKind.u64.wrap (a0)) 7)) < (y180.length : Int) then ((chunk_Join.f k 1 0 (rd_L1 y177 (wrap64 (Int.tmod (IntKind.u64.wrap (a0)) 7))) (rd y180 (wrap64 (Int.tmod (IntKind.u64.wrap (a0)) 7)))).bind fun bt185 => ((chunk_Join.f k 1 0 (([strOfNums y145, strOfNums y145] : List ByteArray)) 33).bind fun bt190 => ((ossuarylaw0_Num.f t154).bind fun t192 => (if t192 = 1700 then ((ossuarylaw0_Num.f bt155.2).bind fun t193 => (if t193 = 1700 then (if bt185.1.toList = ([] : List UInt8) then ((ossuarylaw0_Num.f bt185.2).bind fun t194 => (if t194 = 1700 then (if (bt190.1.size : Int) = 33 then ((ossuarylaw0_Num.f bt190.2).bind fun t195 => (some (t195 == 0))) else (some false)) else (some false))) else (some false)) else (some false))) else (some false))))) else (none)) else (none)) else (none)))) else (none)) else (none)) else (none)) else (none))) = some r := H
          have A9 := Aside0.mk A90
          clear A90
          replace H := Option.bind_eq_some_iff.mp H
          obtain ⟨⟨t155, t158⟩, A100, H⟩ := H
          replace H : (if 0 ≤ 31 then (if 31 ≤ ((strOfNums y145).size : Int) then (if 0 ≤ (wrap64 (6 + (wrap64 (1 + (Go.bits .and .i64 a1 1023))))) then (if (wrap64 (6 + (wrap64 (1 + (Go.bits .and .i64 a1 1023)))) : Int).toNat ≤ 17592186044416 then ((some (([[], (([strOfNums y145] : List ByteArray)), (([strOfNums y145] : List ByteArray)), (([strOfNums y145, strOfNums y145] : List ByteArray)), (([(strOfNums y145).extract 0 31] : List ByteArray)), (List.replicate (wrap64 (6 + (wrap64 (1 + (Go.bits .and .i64 a1 1023)))) : Int).toNat (⟨#[]⟩ : ByteArray)), (([strOfNums y145] : List ByteArray))] : List (List ByteArray)) : List (List ByteArray))).bind fun y177 => ((some (([wrap64 (1 + (Go.bits .and .i64 a1 1023)), 0, wrap64 (32 + (wrap64 (1 + (Go.bits .and .i64 a1 1023)))), 32, 5, 5, wrap64 (-(wrap64 (1 + (Go.bits .and .i64 a1 1023))))] : List Int) : List Int)).bind fun y180 => (if 0 ≤ (wrap64 (Int.tmod (IntKind.u64.wrap (a0)) 7)) then (if (wrap64 (Int.tmod (IntKind.u64.wrap (a0)) 7)) < (y177.length : Int) then (if (wrap64 (Int.tmod (IntKind.u64.wrap (a0)) 7)) < (y180.length : Int) then ((chunk_Join.f k 1 0 (rd_L1 y177 (wrap64 (Int.tmod (IntKind.u64.wrap (a0)) 7))) (rd y180 (wrap64 (Int.tmod (IntKind.u64.wrap (a0)) 7)))).bind fun bt185 => ((chunk_Join.f k 1 0 (([strOfNums y145, strOfNums y145] : List ByteArray)) 33).bind fun bt190 => ((ossuarylaw0_Num.f t154).bind fun t192 => (if t192 = 1700 then ((ossuarylaw0_Num.f t158).bind fun t193 => (if t193 = 1700 then (if bt185.1.toList = ([] : List UInt8) then ((ossuarylaw0_Num.f bt185.2).bind fun t194 => (if t194 = 1700 then (if (bt190.1.size : Int) = 33 then ((ossuarylaw0_Num.f bt190.2).bind fun t195 => (some (t195 == 0))) else (some false)) else (some false))) else (some false)) else (some false))) else (some false))))) else (none)) else (none)) else (none)))) else (none)) else (none)) else (none)) else (none)) = some r := H
          have A10 := Aside0.mk A100
          clear A100
          obtain ⟨y159, hy159⟩ : ∃ y_ : List ByteArray, y_ = (([strOfNums y145] : List ByteArray)) := ⟨_, rfl⟩
          replace H : (if 0 ≤ 31 then (if 31 ≤ ((strOfNums y145).size : Int) then (if 0 ≤ (wrap64 (6 + (wrap64 (1 + (Go.bits .and .i64 a1 1023))))) then (if (wrap64 (6 + (wrap64 (1 + (Go.bits .and .i64 a1 1023)))) : Int).toNat ≤ 17592186044416 then ((some (([[], y159, (([strOfNums y145] : List ByteArray)), (([strOfNums y145, strOfNums y145] : List ByteArray)), (([(strOfNums y145).extract 0 31] : List ByteArray)), (List.replicate (wrap64 (6 + (wrap64 (1 + (Go.bits .and .i64 a1 1023)))) : Int).toNat (⟨#[]⟩ : ByteArray)), (([strOfNums y145] : List ByteArray))] : List (List ByteArray)) : List (List ByteArray))).bind fun y177 => ((some (([wrap64 (1 + (Go.bits .and .i64 a1 1023)), 0, wrap64 (32 + (wrap64 (1 + (Go.bits .and .i64 a1 1023)))), 32, 5, 5, wrap64 (-(wrap64 (1 + (Go.bits .and .i64 a1 1023))))] : List Int) : List Int)).bind fun y180 => (if 0 ≤ (wrap64 (Int.tmod (IntKind.u64.wrap (a0)) 7)) then (if (wrap64 (Int.tmod (IntKind.u64.wrap (a0)) 7)) < (y177.length : Int) then (if (wrap64 (Int.tmod (IntKind.u64.wrap (a0)) 7)) < (y180.length : Int) then ((chunk_Join.f k 1 0 (rd_L1 y177 (wrap64 (Int.tmod (IntKind.u64.wrap (a0)) 7))) (rd y180 (wrap64 (Int.tmod (IntKind.u64.wrap (a0)) 7)))).bind fun bt185 => ((chunk_Join.f k 1 0 (([strOfNums y145, strOfNums y145] : List ByteArray)) 33).bind fun bt190 => ((ossuarylaw0_Num.f t154).bind fun t192 => (if t192 = 1700 then ((ossuarylaw0_Num.f t158).bind fun t193 => (if t193 = 1700 then (if bt185.1.toList = ([] : List UInt8) then ((ossuarylaw0_Num.f bt185.2).bind fun t194 => (if t194 = 1700 then (if (bt190.1.size : Int) = 33 then ((ossuarylaw0_Num.f bt190.2).bind fun t195 => (some (t195 == 0))) else (some false)) else (some false))) else (some false)) else (some false))) else (some false))))) else (none)) else (none)) else (none)))) else (none)) else (none)) else (none)) else (none)) = some r := by first | (rw [hy159]; with_reducible exact H) | (have H2_ := (Option.bind_some _ _).symm.trans H; rw [hy159]; with_reducible exact H2_) | (have H2_ := (Option.bind_some _ _).symm.trans H; with_reducible exact H2_) | with_reducible exact H | (rw [hy159]; exact H) | exact H
          have Ny159 := Aside0.mk hy159
          clear hy159
          obtain ⟨y162, hy162⟩ : ∃ y_ : List ByteArray, y_ = (([strOfNums y145] : List ByteArray)) := ⟨_, rfl⟩
          replace H : (if 0 ≤ 31 then (if 31 ≤ ((strOfNums y145).size : Int) then (if 0 ≤ (wrap64 (6 + (wrap64 (1 + (Go.bits .and .i64 a1 1023))))) then (if (wrap64 (6 + (wrap64 (1 + (Go.bits .and .i64 a1 1023)))) : Int).toNat ≤ 17592186044416 then ((some (([[], y159, y162, (([strOfNums y145, strOfNums y145] : List ByteArray)), (([(strOfNums y145).extract 0 31] : List ByteArray)), (List.replicate (wrap64 (6 + (wrap64 (1 + (Go.bits .and .i64 a1 1023)))) : Int).toNat (⟨#[]⟩ : ByteArray)), (([strOfNums y145] : List ByteArray))] : List (List ByteArray)) : List (List ByteArray))).bind fun y177 => ((some (([wrap64 (1 + (Go.bits .and .i64 a1 1023)), 0, wrap64 (32 + (wrap64 (1 + (Go.bits .and .i64 a1 1023)))), 32, 5, 5, wrap64 (-(wrap64 (1 + (Go.bits .and .i64 a1 1023))))] : List Int) : List Int)).bind fun y180 => (if 0 ≤ (wrap64 (Int.tmod (IntKind.u64.wrap (a0)) 7)) then (if (wrap64 (Int.tmod (IntKind.u64.wrap (a0)) 7)) < (y177.length : Int) then (if (wrap64 (Int.tmod (IntKind.u64.wrap (a0)) 7)) < (y180.length : Int) then ((chunk_Join.f k 1 0 (rd_L1 y177 (wrap64 (Int.tmod (IntKind.u64.wrap (a0)) 7))) (rd y180 (wrap64 (Int.tmod (IntKind.u64.wrap (a0)) 7)))).bind fun bt185 => ((chunk_Join.f k 1 0 (([strOfNums y145, strOfNums y145] : List ByteArray)) 33).bind fun bt190 => ((ossuarylaw0_Num.f t154).bind fun t192 => (if t192 = 1700 then ((ossuarylaw0_Num.f t158).bind fun t193 => (if t193 = 1700 then (if bt185.1.toList = ([] : List UInt8) then ((ossuarylaw0_Num.f bt185.2).bind fun t194 => (if t194 = 1700 then (if (bt190.1.size : Int) = 33 then ((ossuarylaw0_Num.f bt190.2).bind fun t195 => (some (t195 == 0))) else (some false)) else (some false))) else (some false)) else (some false))) else (some false))))) else (none)) else (none)) else (none)))) else (none)) else (none)) else (none)) else (none)) = some r := by first | (rw [hy162]; with_reducible exact H) | (have H2_ := (Option.bind_some _ _).symm.trans H; rw [hy162]; with_reducible exact H2_) | (have H2_ := (Option.bind_some _ _).symm.trans H; with_reducible exact H2_) | with_reducible exact H | (rw [hy162]; exact H) | exact H
          have Ny162 := Aside0.mk hy162
          clear hy162
          obtain ⟨y165, hy165⟩ : ∃ y_ : List ByteArray, y_ = (([strOfNums y145, strOfNums y145] : List ByteArray)) := ⟨_, rfl⟩
          replace H : (if 0 ≤ 31 then (if 31 ≤ ((strOfNums y145).size : Int) then (if 0 ≤ (wrap64 (6 + (wrap64 (1 + (Go.bits .and .i64 a1 1023))))) then (if (wrap64 (6 + (wrap64 (1 + (Go.bits .and .i64 a1 1023)))) : Int).toNat ≤ 17592186044416 then ((some (([[], y159, y162, y165, (([(strOfNums y145).extract 0 31] : List ByteArray)), (List.replicate (wrap64 (6 + (wrap64 (1 + (Go.bits .and .i64 a1 1023)))) : Int).toNat (⟨#[]⟩ : ByteArray)), (([strOfNums y145] : List ByteArray))] : List (List ByteArray)) : List (List ByteArray))).bind fun y177 => ((some (([wrap64 (1 + (Go.bits .and .i64 a1 1023)), 0, wrap64 (32 + (wrap64 (1 + (Go.bits .and .i64 a1 1023)))), 32, 5, 5, wrap64 (-(wrap64 (1 + (Go.bits .and .i64 a1 1023))))] : List Int) : List Int)).bind fun y180 => (if 0 ≤ (wrap64 (Int.tmod (IntKind.u64.wrap (a0)) 7)) then (if (wrap64 (Int.tmod (IntKind.u64.wrap (a0)) 7)) < (y177.length : Int) then (if (wrap64 (Int.tmod (IntKind.u64.wrap (a0)) 7)) < (y180.length : Int) then ((chunk_Join.f k 1 0 (rd_L1 y177 (wrap64 (Int.tmod (IntKind.u64.wrap (a0)) 7))) (rd y180 (wrap64 (Int.tmod (IntKind.u64.wrap (a0)) 7)))).bind fun bt185 => ((chunk_Join.f k 1 0 (([strOfNums y145, strOfNums y145] : List ByteArray)) 33).bind fun bt190 => ((ossuarylaw0_Num.f t154).bind fun t192 => (if t192 = 1700 then ((ossuarylaw0_Num.f t158).bind fun t193 => (if t193 = 1700 then (if bt185.1.toList = ([] : List UInt8) then ((ossuarylaw0_Num.f bt185.2).bind fun t194 => (if t194 = 1700 then (if (bt190.1.size : Int) = 33 then ((ossuarylaw0_Num.f bt190.2).bind fun t195 => (some (t195 == 0))) else (some false)) else (some false))) else (some false)) else (some false))) else (some false))))) else (none)) else (none)) else (none)))) else (none)) else (none)) else (none)) else (none)) = some r := by first | (rw [hy165]; with_reducible exact H) | (have H2_ := (Option.bind_some _ _).symm.trans H; rw [hy165]; with_reducible exact H2_) | (have H2_ := (Option.bind_some _ _).symm.trans H; with_reducible exact H2_) | with_reducible exact H | (rw [hy165]; exact H) | exact H
          have Ny165 := Aside0.mk hy165
          clear hy165
          by_cases c11 : 0 ≤ 31
          · rw [if_pos c11] at H
            have c11b0 := eq_true c11
            have c11b1 : decide (0 ≤ 31) = true := decide_eq_true c11
            clear c11
            by_cases c12 : 31 ≤ ((strOfNums y145).size : Int)
            · rw [if_pos c12] at H
              have c12b0 := eq_true c12
              have c12b1 : decide (31 ≤ ((strOfNums y145).size : Int)) = true := decide_eq_true c12
              clear c12
              obtain ⟨y168, hy168⟩ : ∃ y_ : List ByteArray, y_ = (([(strOfNums y145).extract 0 31] : List ByteArray)) := ⟨_, rfl⟩
              replace H : (if 0 ≤ (wrap64 (6 + (wrap64 (1 + (Go.bits .and .i64 a1 1023))))) then (if (wrap64 (6 + (wrap64 (1 + (Go.bits .and .i64 a1 1023)))) : Int).toNat ≤ 17592186044416 then ((some (([[], y159, y162, y165, y168, (List.replicate (wrap64 (6 + (wrap64 (1 + (Go.bits .and .i64 a1 1023)))) : Int).toNat (⟨#[]⟩ : ByteArray)), (([strOfNums y145] : List ByteArray))] : List (List ByteArray)) : List (List ByteArray))).bind fun y177 => ((some (([wrap64 (1 + (Go.bits .and .i64 a1 1023)), 0, wrap64 (32 + (wrap64 (1 + (Go.bits .and .i64 a1 1023)))), 32, 5, 5, wrap64 (-(wrap64 (1 + (Go.bits .and .i64 a1 1023))))] : List Int) : List Int)).bind fun y180 => (if 0 ≤ (wrap64 (Int.tmod (IntKind.u64.wrap (a0)) 7)) then (if (wrap64 (Int.tmod (IntKind.u64.wrap (a0)) 7)) < (y177.length : Int) then (if (wrap64 (Int.tmod (IntKind.u64.wrap (a0)) 7)) < (y180.length : Int) then ((chunk_Join.f k 1 0 (rd_L1 y177 (wrap64 (Int.tmod (IntKind.u64.wrap (a0)) 7))) (rd y180 (wrap64 (Int.tmod (IntKind.u64.wrap (a0)) 7)))).bind fun bt185 => ((chunk_Join.f k 1 0 (([strOfNums y145, strOfNums y145] : List ByteArray)) 33).bind fun bt190 => ((ossuarylaw0_Num.f t154).bind fun t192 => (if t192 = 1700 then ((ossuarylaw0_Num.f t158).bind fun t193 => (if t193 = 1700 then (if bt185.1.toList = ([] : List UInt8) then ((ossuarylaw0_Num.f bt185.2).bind fun t194 => (if t194 = 1700 then (if (bt190.1.size : Int) = 33 then ((ossuarylaw0_Num.f bt190.2).bind fun t195 => (some (t195 == 0))) else (some false)) else (some false))) else (some false)) else (some false))) else (some false))))) else (none)) else (none)) else (none)))) else (none)) else (none)) = some r := by first | (rw [hy168]; with_reducible exact H) | (have H2_ := (Option.bind_some _ _).symm.trans H; rw [hy168]; with_reducible exact H2_) | (have H2_ := (Option.bind_some _ _).symm.trans H; with_reducible exact H2_) | with_reducible exact H | (rw [hy168]; exact H) | exact H
              have Ny168 := Aside0.mk hy168
              clear hy168
              obtain ⟨ji13, hji13⟩ : ∃ j_ : Int, (wrap64 (6 + (wrap64 (1 + (Go.bits .and .i64 a1 1023))))) = j_ := ⟨_, rfl⟩
              replace H : (if 0 ≤ (ji13) then (if (ji13 : Int).toNat ≤ 17592186044416 then ((some (([[], y159, y162, y165, y168, (List.replicate (ji13 : Int).toNat (⟨#[]⟩ : ByteArray)), (([strOfNums y145] : List ByteArray))] : List (List ByteArray)) : List (List ByteArray))).bind fun y177 => ((some (([wrap64 (1 + (Go.bits .and .i64 a1 1023)), 0, wrap64 (32 + (wrap64 (1 + (Go.bits .and .i64 a1 1023)))), 32, 5, 5, wrap64 (-(wrap64 (1 + (Go.bits .and .i64 a1 1023))))] : List Int) : List Int)).bind fun y180 => (if 0 ≤ (wrap64 (Int.tmod (IntKind.u64.wrap (a0)) 7)) then (if (wrap64 (Int.tmod (IntKind.u64.wrap (a0)) 7)) < (y177.length : Int) then (if (wrap64 (Int.tmod (IntKind.u64.wrap (a0)) 7)) < (y180.length : Int) then ((chunk_Join.f k 1 0 (rd_L1 y177 (wrap64 (Int.tmod (IntKind.u64.wrap (a0)) 7))) (rd y180 (wrap64 (Int.tmod (IntKind.u64.wrap (a0)) 7)))).bind fun bt185 => ((chunk_Join.f k 1 0 (([strOfNums y145, strOfNums y145] : List ByteArray)) 33).bind fun bt190 => ((ossuarylaw0_Num.f t154).bind fun t192 => (if t192 = 1700 then ((ossuarylaw0_Num.f t158).bind fun t193 => (if t193 = 1700 then (if bt185.1.toList = ([] : List UInt8) then ((ossuarylaw0_Num.f bt185.2).bind fun t194 => (if t194 = 1700 then (if (bt190.1.size : Int) = 33 then ((ossuarylaw0_Num.f bt190.2).bind fun t195 => (some (t195 == 0))) else (some false)) else (some false))) else (some false)) else (some false))) else (some false))))) else (none)) else (none)) else (none)))) else (none)) else (none)) = some r := by first | (rw [hji13] at H; exact H) | (simp only [hji13] at H ⊢; exact H)
              (try rw [hji13] at A3)
              (try rw [hji13] at A9)
              (try rw [hji13] at A10)
              have hji13w : (IntKind.i64.wrap (6 + (wrap64 (1 + (Go.bits .and .i64 a1 1023))))) = ji13 := (i64_w _).trans hji13
              by_cases c14 : 0 ≤ (ji13)
              · rw [if_pos c14] at H
                have c14b0 := eq_true c14
                have c14b1 : decide (0 ≤ (ji13)) = true := decide_eq_true c14
                clear c14
                by_cases c15 : (ji13 : Int).toNat ≤ 17592186044416
                · rw [if_pos c15] at H
                  have c15b0 := eq_true c15
                  have c15b1 : decide ((ji13 : Int).toNat ≤ 17592186044416) = true := decide_eq_true c15
                  clear c15
                  obtain ⟨y171, hy171⟩ : ∃ y_ : List ByteArray, y_ = (List.replicate (ji13 : Int).toNat (⟨#[]⟩ : ByteArray)) := ⟨_, rfl⟩
                  replace H : ((some (([[], y159, y162, y165, y168, y171, (([strOfNums y145] : List ByteArray))] : List (List ByteArray)) : List (List ByteArray))).bind fun y177 => ((some (([wrap64 (1 + (Go.bits .and .i64 a1 1023)), 0, wrap64 (32 + (wrap64 (1 + (Go.bits .and .i64 a1 1023)))), 32, 5, 5, wrap64 (-(wrap64 (1 + (Go.bits .and .i64 a1 1023))))] : List Int) : List Int)).bind fun y180 => (if 0 ≤ (wrap64 (Int.tmod (IntKind.u64.wrap (a0)) 7)) then (if (wrap64 (Int.tmod (IntKind.u64.wrap (a0)) 7)) < (y177.length : Int) then (if (wrap64 (Int.tmod (IntKind.u64.wrap (a0)) 7)) < (y180.length : Int) then ((chunk_Join.f k 1 0 (rd_L1 y177 (wrap64 (Int.tmod (IntKind.u64.wrap (a0)) 7))) (rd y180 (wrap64 (Int.tmod (IntKind.u64.wrap (a0)) 7)))).bind fun bt185 => ((chunk_Join.f k 1 0 (([strOfNums y145, strOfNums y145] : List ByteArray)) 33).bind fun bt190 => ((ossuarylaw0_Num.f t154).bind fun t192 => (if t192 = 1700 then ((ossuarylaw0_Num.f t158).bind fun t193 => (if t193 = 1700 then (if bt185.1.toList = ([] : List UInt8) then ((ossuarylaw0_Num.f bt185.2).bind fun t194 => (if t194 = 1700 then (if (bt190.1.size : Int) = 33 then ((ossuarylaw0_Num.f bt190.2).bind fun t195 => (some (t195 == 0))) else (some false)) else (some false))) else (some false)) else (some false))) else (some false))))) else (none)) else (none)) else (none)))) = some r := by first | (rw [hy171]; with_reducible exact H) | (have H2_ := (Option.bind_some _ _).symm.trans H; rw [hy171]; with_reducible exact H2_) | (have H2_ := (Option.bind_some _ _).symm.trans H; with_reducible exact H2_) | with_reducible exact H | (rw [hy171]; exact H) | exact H
                  have Ny171 := Aside0.mk hy171
                  clear hy171
                  obtain ⟨y174, hy174⟩ : ∃ y_ : List ByteArray, y_ = (([strOfNums y145] : List ByteArray)) := ⟨_, rfl⟩
                  replace H : ((some (([[], y159, y162, y165, y168, y171, y174] : List (List ByteArray)) : List (List ByteArray))).bind fun y177 => ((some (([wrap64 (1 + (Go.bits .and .i64 a1 1023)), 0, wrap64 (32 + (wrap64 (1 + (Go.bits .and .i64 a1 1023)))), 32, 5, 5, wrap64 (-(wrap64 (1 + (Go.bits .and .i64 a1 1023))))] : List Int) : List Int)).bind fun y180 => (if 0 ≤ (wrap64 (Int.tmod (IntKind.u64.wrap (a0)) 7)) then (if (wrap64 (Int.tmod (IntKind.u64.wrap (a0)) 7)) < (y177.length : Int) then (if (wrap64 (Int.tmod (IntKind.u64.wrap (a0)) 7)) < (y180.length : Int) then ((chunk_Join.f k 1 0 (rd_L1 y177 (wrap64 (Int.tmod (IntKind.u64.wrap (a0)) 7))) (rd y180 (wrap64 (Int.tmod (IntKind.u64.wrap (a0)) 7)))).bind fun bt185 => ((chunk_Join.f k 1 0 (([strOfNums y145, strOfNums y145] : List ByteArray)) 33).bind fun bt190 => ((ossuarylaw0_Num.f t154).bind fun t192 => (if t192 = 1700 then ((ossuarylaw0_Num.f t158).bind fun t193 => (if t193 = 1700 then (if bt185.1.toList = ([] : List UInt8) then ((ossuarylaw0_Num.f bt185.2).bind fun t194 => (if t194 = 1700 then (if (bt190.1.size : Int) = 33 then ((ossuarylaw0_Num.f bt190.2).bind fun t195 => (some (t195 == 0))) else (some false)) else (some false))) else (some false)) else (some false))) else (some false))))) else (none)) else (none)) else (none)))) = some r := by first | (rw [hy174]; with_reducible exact H) | (have H2_ := (Option.bind_some _ _).symm.trans H; rw [hy174]; with_reducible exact H2_) | (have H2_ := (Option.bind_some _ _).symm.trans H; with_reducible exact H2_) | with_reducible exact H | (rw [hy174]; exact H) | exact H
                  have Ny174 := Aside0.mk hy174
                  clear hy174
                  obtain ⟨y177, hy177⟩ : ∃ y_ : List (List ByteArray), y_ = (([[], y159, y162, y165, y168, y171, y174] : List (List ByteArray))) := ⟨_, rfl⟩
                  replace H : ((some (([wrap64 (1 + (Go.bits .and .i64 a1 1023)), 0, wrap64 (32 + (wrap64 (1 + (Go.bits .and .i64 a1 1023)))), 32, 5, 5, wrap64 (-(wrap64 (1 + (Go.bits .and .i64 a1 1023))))] : List Int) : List Int)).bind fun y180 => (if 0 ≤ (wrap64 (Int.tmod (IntKind.u64.wrap (a0)) 7)) then (if (wrap64 (Int.tmod (IntKind.u64.wrap (a0)) 7)) < (y177.length : Int) then (if (wrap64 (Int.tmod (IntKind.u64.wrap (a0)) 7)) < (y180.length : Int) then ((chunk_Join.f k 1 0 (rd_L1 y177 (wrap64 (Int.tmod (IntKind.u64.wrap (a0)) 7))) (rd y180 (wrap64 (Int.tmod (IntKind.u64.wrap (a0)) 7)))).bind fun bt185 => ((chunk_Join.f k 1 0 (([strOfNums y145, strOfNums y145] : List ByteArray)) 33).bind fun bt190 => ((ossuarylaw0_Num.f t154).bind fun t192 => (if t192 = 1700 then ((ossuarylaw0_Num.f t158).bind fun t193 => (if t193 = 1700 then (if bt185.1.toList = ([] : List UInt8) then ((ossuarylaw0_Num.f bt185.2).bind fun t194 => (if t194 = 1700 then (if (bt190.1.size : Int) = 33 then ((ossuarylaw0_Num.f bt190.2).bind fun t195 => (some (t195 == 0))) else (some false)) else (some false))) else (some false)) else (some false))) else (some false))))) else (none)) else (none)) else (none))) = some r := by first | (rw [hy177]; with_reducible exact H) | (have H2_ := (Option.bind_some _ _).symm.trans H; rw [hy177]; with_reducible exact H2_) | (have H2_ := (Option.bind_some _ _).symm.trans H; with_reducible exact H2_) | with_reducible exact H | (rw [hy177]; exact H) | exact H
                  have Ny177 := Aside0.mk hy177
                  clear hy177
                  obtain ⟨y180, hy180⟩ : ∃ y_ : List Int, y_ = (([wrap64 (1 + (Go.bits .and .i64 a1 1023)), 0, wrap64 (32 + (wrap64 (1 + (Go.bits .and .i64 a1 1023)))), 32, 5, 5, wrap64 (-(wrap64 (1 + (Go.bits .and .i64 a1 1023))))] : List Int)) := ⟨_, rfl⟩
                  replace H : (if 0 ≤ (wrap64 (Int.tmod (IntKind.u64.wrap (a0)) 7)) then (if (wrap64 (Int.tmod (IntKind.u64.wrap (a0)) 7)) < (y177.length : Int) then (if (wrap64 (Int.tmod (IntKind.u64.wrap (a0)) 7)) < (y180.length : Int) then ((chunk_Join.f k 1 0 (rd_L1 y177 (wrap64 (Int.tmod (IntKind.u64.wrap (a0)) 7))) (rd y180 (wrap64 (Int.tmod (IntKind.u64.wrap (a0)) 7)))).bind fun bt185 => ((chunk_Join.f k 1 0 (([strOfNums y145, strOfNums y145] : List ByteArray)) 33).bind fun bt190 => ((ossuarylaw0_Num.f t154).bind fun t192 => (if t192 = 1700 then ((ossuarylaw0_Num.f t158).bind fun t193 => (if t193 = 1700 then (if bt185.1.toList = ([] : List UInt8) then ((ossuarylaw0_Num.f bt185.2).bind fun t194 => (if t194 = 1700 then (if (bt190.1.size : Int) = 33 then ((ossuarylaw0_Num.f bt190.2).bind fun t195 => (some (t195 == 0))) else (some false)) else (some false))) else (some false)) else (some false))) else (some false))))) else (none)) else (none)) else (none)) = some r := by first | (rw [hy180]; with_reducible exact H) | (have H2_ := (Option.bind_some _ _).symm.trans H; rw [hy180]; with_reducible exact H2_) | (have H2_ := (Option.bind_some _ _).symm.trans H; with_reducible exact H2_) | with_reducible exact H | (rw [hy180]; exact H) | exact H
                  have Ny180 := Aside0.mk hy180
                  clear hy180
                  obtain ⟨ji16, hji16⟩ : ∃ j_ : Int, (wrap64 (Int.tmod (IntKind.u64.wrap (a0)) 7)) = j_ := ⟨_, rfl⟩
                  replace H : (if 0 ≤ (ji16) then (if (ji16) < (y177.length : Int) then (if (ji16) < (y180.length : Int) then ((chunk_Join.f k 1 0 (rd_L1 y177 (ji16)) (rd y180 (ji16))).bind fun bt185 => ((chunk_Join.f k 1 0 (([strOfNums y145, strOfNums y145] : List ByteArray)) 33).bind fun bt190 => ((ossuarylaw0_Num.f t154).bind fun t192 => (if t192 = 1700 then ((ossuarylaw0_Num.f t158).bind fun t193 => (if t193 = 1700 then (if bt185.1.toList = ([] : List UInt8) then ((ossuarylaw0_Num.f bt185.2).bind fun t194 => (if t194 = 1700 then (if (bt190.1.size : Int) = 33 then ((ossuarylaw0_Num.f bt190.2).bind fun t195 => (some (t195 == 0))) else (some false)) else (some false))) else (some false)) else (some false))) else (some false))))) else (none)) else (none)) else (none)) = some r := by first | (rw [hji16] at H; exact H) | (simp only [hji16] at H ⊢; exact H)
                  (try rw [hji16] at A3)
                  (try rw [hji16] at A9)
                  (try rw [hji16] at A10)
                  have hji16w : (IntKind.i64.wrap (Int.tmod (IntKind.u64.wrap (a0)) 7)) = ji16 := (i64_w _).trans hji16
                  by_cases c17 : 0 ≤ (ji16)
                  · rw [if_pos c17] at H
                    have c17b0 : decide (0 ≤ (ji16)) = true := decide_eq_true c17
                    clear c17
                    by_cases c18 : (ji16) < (y177.length : Int)
                    · rw [if_pos c18] at H
                      have c18b0 : decide ((ji16) < (y177.length : Int)) = true := decide_eq_true c18
                      clear c18
                      by_cases c19 : (ji16) < (y180.length : Int)
                      · rw [if_pos c19] at H
                        have c19b0 : decide ((ji16) < (y180.length : Int)) = true := decide_eq_true c19
                        clear c19
                        replace H := Option.bind_eq_some_iff.mp H
                        obtain ⟨⟨t185, t186⟩, A200, H⟩ := H
                        replace H : ((chunk_Join.f k 1 0 (([strOfNums y145, strOfNums y145] : List ByteArray)) 33).bind fun bt190 => ((ossuarylaw0_Num.f t154).bind fun t192 => (if t192 = 1700 then ((ossuarylaw0_Num.f t158).bind fun t193 => (if t193 = 1700 then (if t185.toList = ([] : List UInt8) then ((ossuarylaw0_Num.f t186).bind fun t194 => (if t194 = 1700 then (if (bt190.1.size : Int) = 33 then ((ossuarylaw0_Num.f bt190.2).bind fun t195 => (some (t195 == 0))) else (some false)) else (some false))) else (some false)) else (some false))) else (some false)))) = some r := H
                        have A20 := Aside0.mk A200
                        clear A200
                        obtain ⟨y187, hy187⟩ : ∃ y_ : List ByteArray, y_ = (([strOfNums y145, strOfNums y145] : List ByteArray)) := ⟨_, rfl⟩
                        replace H : ((chunk_Join.f k 1 0 y187 33).bind fun bt190 => ((ossuarylaw0_Num.f t154).bind fun t192 => (if t192 = 1700 then ((ossuarylaw0_Num.f t158).bind fun t193 => (if t193 = 1700 then (if t185.toList = ([] : List UInt8) then ((ossuarylaw0_Num.f t186).bind fun t194 => (if t194 = 1700 then (if (bt190.1.size : Int) = 33 then ((ossuarylaw0_Num.f bt190.2).bind fun t195 => (some (t195 == 0))) else (some false)) else (some false))) else (some false)) else (some false))) else (some false)))) = some r := by first | (rw [hy187]; with_reducible exact H) | (have H2_ := (Option.bind_some _ _).symm.trans H; rw [hy187]; with_reducible exact H2_) | (have H2_ := (Option.bind_some _ _).symm.trans H; with_reducible exact H2_) | with_reducible exact H | (rw [hy187]; exact H) | exact H
                        have Ny187 := Aside0.mk hy187
                        clear hy187
                        replace H := Option.bind_eq_some_iff.mp H
                        obtain ⟨⟨t190, t191⟩, A210, H⟩ := H
                        replace H : ((ossuarylaw0_Num.f t154).bind fun t192 => (if t192 = 1700 then ((ossuarylaw0_Num.f t158).bind fun t193 => (if t193 = 1700 then (if t185.toList = ([] : List UInt8) then ((ossuarylaw0_Num.f t186).bind fun t194 => (if t194 = 1700 then (if (t190.size : Int) = 33 then ((ossuarylaw0_Num.f t191).bind fun t195 => (some (t195 == 0))) else (some false)) else (some false))) else (some false)) else (some false))) else (some false))) = some r := H
                        have A21 := Aside0.mk A210
                        clear A210
                        replace H := Option.bind_eq_some_iff.mp H
                        obtain ⟨t192, A220, H⟩ := H
                        replace H : (if t192 = 1700 then ((ossuarylaw0_Num.f t158).bind fun t193 => (if t193 = 1700 then (if t185.toList = ([] : List UInt8) then ((ossuarylaw0_Num.f t186).bind fun t194 => (if t194 = 1700 then (if (t190.size : Int) = 33 then ((ossuarylaw0_Num.f t191).bind fun t195 => (some (t195 == 0))) else (some false)) else (some false))) else (some false)) else (some false))) else (some false)) = some r := H
                        have A22 := Aside0.mk A220
                        clear A220
                        by_cases c23 : t192 = 1700
                        · rw [if_pos c23] at H
                          have c23b0 : (t192 == 1700) = true := beq_iff_eq.mpr c23
                          have c23b1 : (t192 != 1700) = false := bne_eq_false_iff_eq.mpr c23
                          clear c23
                          replace H := Option.bind_eq_some_iff.mp H
                          obtain ⟨t193, A240, H⟩ := H
                          replace H : (if t193 = 1700 then (if t185.toList = ([] : List UInt8) then ((ossuarylaw0_Num.f t186).bind fun t194 => (if t194 = 1700 then (if (t190.size : Int) = 33 then ((ossuarylaw0_Num.f t191).bind fun t195 => (some (t195 == 0))) else (some false)) else (some false))) else (some false)) else (some false)) = some r := H
                          have A24 := Aside0.mk A240
                          clear A240
                          by_cases c25 : t193 = 1700
                          · rw [if_pos c25] at H
                            have c25b0 : (t193 == 1700) = true := beq_iff_eq.mpr c25
                            have c25b1 : (t193 != 1700) = false := bne_eq_false_iff_eq.mpr c25
                            clear c25
                            by_cases c26 : t185.toList = ([] : List UInt8)
                            · rw [if_pos c26] at H
                              have c26b0 : (t185.toList == ([] : List UInt8)) = true := beq_iff_eq.mpr c26
                              have c26b1 : (t185.toList != ([] : List UInt8)) = false := bne_eq_false_iff_eq.mpr c26
                              clear c26
                              replace H := Option.bind_eq_some_iff.mp H
                              obtain ⟨t194, A270, H⟩ := H
                              replace H : (if t194 = 1700 then (if (t190.size : Int) = 33 then ((ossuarylaw0_Num.f t191).bind fun t195 => (some (t195 == 0))) else (some false)) else (some false)) = some r := H
                              have A27 := Aside0.mk A270
                              clear A270
                              by_cases c28 : t194 = 1700
                              · rw [if_pos c28] at H
                                have c28b0 : (t194 == 1700) = true := beq_iff_eq.mpr c28
                                have c28b1 : (t194 != 1700) = false := bne_eq_false_iff_eq.mpr c28
                                clear c28
                                by_cases c29 : (t190.size : Int) = 33
                                · rw [if_pos c29] at H
                                  have c29b0 : ((t190.size : Int) == 33) = true := beq_iff_eq.mpr c29
                                  have c29b1 : ((t190.size : Int) != 33) = false := bne_eq_false_iff_eq.mpr c29
                                  clear c29
                                  replace H := Option.bind_eq_some_iff.mp H
                                  obtain ⟨t195, A300, H⟩ := H
                                  replace H : (some (t195 == 0)) = some r := H
                                  have A30 := Aside0.mk A300
                                  clear A300
                                  obtain rfl := Option.some.inj H
                                  go_enter Try.func5, Try.ntmps5
                                  try go_wp2_with (first | ((with_reducible refine gate_callee (f := 14) rfl ?_); refine goesL_ (some 19) rfl rfl Try.func14 (by kernel_rfl) rfl #[] rfl (by (try simp only [List.map_toArray, List.map_cons, List.map_nil]); first | done | rfl | (simp only [List.length_drop, List.length_take]; rfl)) ?_; (with_reducible refine (ossuarylaw17_awake.calls k  true _ A3.out).mono ?_); rintro e w31 ⟨rfl, hb⟩; refine ⟨_, rfl, ?_⟩; have n0_ := Aside0.mk (below_step (by repeat (first | (with_reducible first | exact HB.out | apply below_alloc | apply pw_below_drewN | apply below_drew1) | exact HB.out)) hb); clear HB; have HB := n0_; clear n0_; (try clear hb); (try clear hb2); (try clear hk); (try clear hi)) | ((with_reducible refine gate_dst (N := 6) rfl ?_); (try (refine gate_guard (by rfl) ?_; dsimp only)); refine box_event ?hg (N := 6) ?hd (cs := #[.int .i64 0, .int .i64 0]) (t := 23) ?hr ?_; (case hd => rfl); (case hg => rfl); (case hr => first | (go_simp; done) | (go_simp; rfl)); intro gb144 hg w32 hbox hb; have n0_ := Aside0.mk (below_step (by repeat (first | (with_reducible first | exact HB.out | apply below_alloc | apply pw_below_drewN | apply below_drew1) | exact HB.out)) hb); have n1_ := Aside0.mk (hbox); have n2_ := Aside0.mk ((by rw [hg]; exact (below_size (by repeat (first | (with_reducible first | exact HB.out | apply below_alloc | apply pw_below_drewN | apply below_drew1) | exact HB.out))) : w.heap.size ≤ gb144)); have n3_ := Aside0.mk ((by rw [hg]; exact (below_size (by repeat (first | (with_reducible first | exact HB.out | apply below_alloc | apply pw_below_drewN | apply below_drew1) | exact HB.out))) : w.heap.size ≤ gb144)); clear HB; have HB := n0_; have BK144 := n1_; have GW144 := n2_; have GE144 := n3_; clear n0_ n1_ n2_ n3_; clear hb hbox hg; have hcz33_0 : w32.cell? ⟨gb144, 0, none⟩ = some (.int .i64 0) := (blk_cell BK144.out 0).trans rfl; have hcz33_1 : w32.cell? ⟨gb144, 1, none⟩ = some (.int .i64 0) := (blk_cell BK144.out 1).trans rfl; have hfz33_0 := blk_frozen BK144.out 0; have hfz33_1 := blk_frozen BK144.out 1) | ((with_reducible refine gate_dst (N := 25) rfl ?_); (try (refine gate_guard (by rfl) ?_; dsimp only)); refine Kd.R_make (Kd.int .u8) _ 5 rfl (N := 25) rfl 41 _ _ rfl 32 rfl rfl Try.underlying41 (.int .u8 0) 1 info5 rfl (by decide) (by omega) 0 (ok := fun _ => True) (okp := fun _ => True) rfl (fun _ hk => hk) trivial (by omega) (by omega) (Below.refl _ _) (Nat.le_refl _) ?_; intro v146 w34 ho35 hb hg_ hnew_; clear hg_ hnew_; (first | rw [← Ny145.out] at ho35 | (simp only [Int.reduceToNat] at ho35; rw [← Ny145.out] at ho35)); have n0_ := Aside0.mk (Kd.R_lower ho35 (below_size (by repeat (first | (with_reducible first | exact HB.out | apply below_alloc | apply pw_below_drewN | apply below_drew1 | refine below_set ?_ GE144.out) | exact HB.out)))); have n1_ := Aside0.mk (blk_below (g := gb144) (o := .cells #[.int .i64 1, .int .i64 0] 23 (0, 0)) (by (with_reducible repeat (first | refine blk_drewN ?_ _ | refine blk_drew ?_ | refine blk_alloc ?_ _)); refine blk_put (cs := #[.int .i64 1, .int .i64 0]) ?_ 1 _ rfl; (with_reducible repeat (first | refine blk_drewN ?_ _ | refine blk_drew ?_ | refine blk_alloc ?_ _)); refine blk_put (cs := #[.int .i64 0, .int .i64 0]) ?_ 0 _ rfl; (with_reducible repeat (first | refine blk_drewN ?_ _ | refine blk_drew ?_ | refine blk_alloc ?_ _)); exact BK144.out) hb); have n2_ := Aside0.mk (below_step (by repeat (first | (with_reducible first | exact HB.out | apply below_alloc | apply pw_below_drewN | apply below_drew1 | refine below_set ?_ GE144.out) | exact HB.out)) hb); clear BK144; clear HB; have HO147 := n0_; have BK144 := n1_; have HB := n2_; clear n0_ n1_ n2_; clear hb ho35; have hcv36 := own_string (P := Try.prog) Try.underlying41 Try.underlying5 Try.underlying9 (Kd.own_of_R HO147.out)))
                                  have n0_ := Aside0.mk (Kd.R_drew HO147.out)
                                  have n1_ := Aside0.mk (blk_drew BK144.out)
                                  have n2_ := Aside0.mk (below_drew1 HB.out)
                                  clear HO147
                                  clear BK144
                                  clear HB
                                  have HO147 := n0_
                                  have BK144 := n1_
                                  have HB := n2_
                                  clear n0_ n1_ n2_
                                  refine start_ (n := 11) (S := fun w' => w'.cell? ⟨gb144, 0, none⟩ = some (.int .i64 1) ∧ w'.cell? ⟨gb144, 1, none⟩ = some (.int .i64 0)) (ds := []) #[false, false, false, false, false, false, false, false, false, false, false] (by kernel_rfl) rfl rfl ⟨(blk_cell BK144.out 0).trans rfl, (blk_cell BK144.out 1).trans rfl⟩ (fun hHeld => ?_); refine with_tabW ossuarylaw17_ChunkForms.tab6 ossuarylaw17_ChunkForms.bits6 (fun HT_ HW_ => ?_)
                                  generalize w34.drew = w37 at HO147 BK144 HB hHeld ⊢
                                  refine pure_ (i := 1) (N := some 29) (v := ?_) (a' := ?_) #[false, true, false, false, false, false, false, false, false, false, false] rfl rfl (any_of HT_.out (by kernel_rfl)) (fun _ _ _ h => h) (Or.inl ⟨by rfl, ?_⟩) ?_ ?_
                                  rotate_left
                                  · intro w'
                                    go_simp
                                    with_reducible rfl
                                  rotate_left
                                  · simp only [Act.put, List.setIfInBounds_toArray, List.set_cons_zero, List.set_cons_succ, i64_w, i32_w]
                                    rfl
                                  refine pure_ (i := 2) (N := some 30) (v := ?_) (a' := ?_) #[false, true, true, false, false, false, false, false, false, false, false] rfl rfl (any_of HT_.out (by kernel_rfl)) (fun _ _ _ h => h) (Or.inl ⟨by rfl, ?_⟩) ?_ ?_
                                  rotate_left
                                  · intro w'
                                    go_simp
                                    with_reducible rfl
                                  rotate_left
                                  · simp only [Act.put, List.setIfInBounds_toArray, List.set_cons_zero, List.set_cons_succ, i64_w, i32_w]
                                    rfl
                                  refine take_ (i := 0) (N := some 28) (v := ?_) (a' := ?_) #[true, true, true, false, false, false, false, false, false, false, false] rfl rfl (take_ofW HT_.out HW_.out (by kernel_rfl)) (fun _ _ _ h => h) (Or.inl ⟨by rfl, ?_⟩) hHeld ?_ ?_
                                  rotate_left
                                  · rintro w' ⟨s0, s1⟩
                                    go_simp
                                    with_reducible rfl
                                  rotate_left
                                  · simp only [Act.put, List.setIfInBounds_toArray, List.set_cons_zero, List.set_cons_succ, i64_w, i32_w]
                                    rfl
                                  refine one_ (i := 3) (N := some 31) #[true, true, true, true, false, false, false, false, false, false, false] rfl rfl (one_of HT_.out (by kernel_rfl)) (by decide) (fun K hK => ?_)
                                  refine Kd.R_make_step (Kd.int .u8) _ 5 (by rfl) (N := 31) rfl 41 _ _ rfl ji6 (by first | rfl | exact congrArg (Value.int .i64) hji6 | exact eval_of (by assumption)) (by first | rfl | exact congrArg (Value.int .i64) hji6 | exact eval_of (by assumption)) Try.underlying41 (.int .u8 0) 1 info5 rfl (by decide) (by omega) 0 (ok := fun _ => True) (okp := fun _ => True) rfl (fun _ hk => hk) trivial (of_decide_eq_true (by first | (with_reducible assumption) | assumption)) (Nat.le_trans (Nat.mul_le_mul_right _ (of_decide_eq_true (by first | (with_reducible assumption) | assumption) : ji6.toNat ≤ 281474976710656)) (by omega)) (Below.refl _ _) (Nat.le_refl _) ?_
                                  intro v149 w38 ho39 hb hg_ hnew_
                                  clear hg_ hnew_
                                  (first | rw [← Ny148.out] at ho39 | (simp only [Int.reduceToNat] at ho39; rw [← Ny148.out] at ho39))
                                  have n0_ := Aside0.mk (Kd.R_elder' (by (with_reducible repeat (first | apply Kd.R_alloc | apply Kd.R_drewN | apply Kd.R_drew)); exact HO147.out) (Kd.R_base ho39) hb)
                                  have n1_ := Aside0.mk (Kd.R_lower (Kd.R_new' ho39 (Kd.R_lt (by (with_reducible repeat (first | apply Kd.R_alloc | apply Kd.R_drewN | apply Kd.R_drew)); exact HO147.out))) (below_size (by repeat (first | (with_reducible first | exact HB.out | apply below_alloc | apply pw_below_drewN | apply below_drew1 | refine below_set ?_ GE144.out) | exact HB.out))))
                                  have n2_ := Aside0.mk (blk_below (g := gb144) (o := .cells #[.int .i64 1, .int .i64 0] 23 (0, 0)) (by (with_reducible repeat (first | refine blk_drewN ?_ _ | refine blk_drew ?_ | refine blk_alloc ?_ _)); exact BK144.out) hb)
                                  have n3_ := Aside0.mk (below_step (by repeat (first | (with_reducible first | exact HB.out | apply below_alloc | apply pw_below_drewN | apply below_drew1 | refine below_set ?_ GE144.out) | exact HB.out)) hb)
                                  clear HO147
                                  clear BK144
                                  clear HB
                                  have HO147 := n0_
                                  have HO150 := n1_
                                  have BK144 := n2_
                                  have HB := n3_
                                  clear n0_ n1_ n2_ n3_
                                  clear hb ho39
                                  refine hK.out _ _ ⟨(blk_cell BK144.out 0).trans rfl, (blk_cell BK144.out 1).trans rfl⟩ (fun hHeld => ?_)
                                  clear hK K
                                  refine norm_ (a' := ?_) ?_ ?_
                                  rotate_left
                                  · show Act.put _ (some 31) _ = _
                                    simp only [Act.put, List.setIfInBounds_toArray, List.set_cons_zero, List.set_cons_succ, i64_w, i32_w]
                                    rfl
                                  refine one_ (i := 4) (N := some 32) #[true, true, true, true, true, false, false, false, false, false, false] rfl rfl (one_of HT_.out (by kernel_rfl)) (by decide) (fun K hK => ?_)
                                  have hcv40 := own_string (P := Try.prog) Try.underlying41 Try.underlying5 Try.underlying9 (Kd.own_of_R HO150.out)
                                  refine value_ (w1 := ?_) (v := ?_) (by rfl) rfl ?_ ?_
                                  rotate_left 2
                                  · go_simp
                                    constructor
                                    · rfl
                                    · rfl
                                  clear hcv40
                                  refine hK.out _ _ ⟨(blk_cell BK144.out 0).trans rfl, (blk_cell BK144.out 1).trans rfl⟩ (fun hHeld => ?_)
                                  clear hK K
                                  refine norm_ (a' := ?_) ?_ ?_
                                  rotate_left
                                  · show Act.put _ (some 32) _ = _
                                    simp only [Act.put, List.setIfInBounds_toArray, List.set_cons_zero, List.set_cons_succ, i64_w, i32_w]
                                    rfl
                                  refine one_ (i := 5) (N := some 33) #[true, true, true, true, true, true, false, false, false, false, false] rfl rfl (one_of HT_.out (by kernel_rfl)) (by decide) (fun K hK => ?_)
                                  refine goes_ Try.func7 (by kernel_rfl) rfl #[.agg #[.int .i64 1, .int .i64 0], .string (strOfNums y148)] (by rfl) rfl rfl (by (try simp only [List.map_toArray, List.map_cons, List.map_nil]); first | done | rfl | (simp only [List.length_drop, List.length_take]; rfl)) ?_
                                  with_reducible refine (chunk_Cut.calls k 1 0 (strOfNums y148) t151 t154 _ A9.out).mono ?_
                                  rintro e w41 ⟨v152, rfl, ho0, hb⟩
                                  refine ⟨_, rfl, ?_⟩
                                  have n0_ := Aside0.mk (Kd.R_below (by (with_reducible repeat (first | apply Kd.R_alloc | apply Kd.R_drewN | apply Kd.R_drew)); exact HO147.out) hb)
                                  have n1_ := Aside0.mk (Kd.R_below (by (with_reducible repeat (first | apply Kd.R_alloc | apply Kd.R_drewN | apply Kd.R_drew)); exact HO150.out) hb)
                                  have n2_ := Aside0.mk (Kd.R_lower ho0 (below_size (by repeat (first | (with_reducible first | exact HB.out | apply below_alloc | apply pw_below_drewN | apply below_drew1 | refine below_set ?_ GE144.out) | exact HB.out))))
                                  have n3_ := Aside0.mk (blk_below (g := gb144) (o := .cells #[.int .i64 1, .int .i64 0] 23 (0, 0)) (by (with_reducible repeat (first | refine blk_drewN ?_ _ | refine blk_drew ?_ | refine blk_alloc ?_ _)); exact BK144.out) hb)
                                  have n4_ := Aside0.mk (below_step (by repeat (first | (with_reducible first | exact HB.out | apply below_alloc | apply pw_below_drewN | apply below_drew1 | refine below_set ?_ GE144.out) | exact HB.out)) hb)
                                  clear HO147
                                  clear HO150
                                  clear BK144
                                  clear HB
                                  have HO147 := n0_
                                  have HO150 := n1_
                                  have HO153 := n2_
                                  have BK144 := n3_
                                  have HB := n4_
                                  clear n0_ n1_ n2_ n3_ n4_
                                  (try clear hb)
                                  (try clear hb2)
                                  (try clear hk)
                                  (try clear hi)
                                  (try clear ho0)
                                  refine hK.out _ _ ⟨(blk_cell BK144.out 0).trans rfl, (blk_cell BK144.out 1).trans rfl⟩ (fun hHeld => ?_)
                                  clear hK K
                                  refine norm_ (a' := ?_) ?_ ?_
                                  rotate_left
                                  · show Act.put _ (some 33) _ = _
                                    simp only [Act.put, List.setIfInBounds_toArray, List.set_cons_zero, List.set_cons_succ, i64_w, i32_w]
                                    rfl
                                  refine pure_ (i := 6) (N := some 27) (v := ?_) (a' := ?_) #[true, true, true, true, true, true, true, false, false, false, false] rfl rfl (any_of HT_.out (by kernel_rfl)) (fun _ _ _ h => h) (Or.inl ⟨by rfl, ?_⟩) ?_ ?_
                                  rotate_left
                                  · intro w'
                                    go_simp
                                    with_reducible rfl
                                  rotate_left
                                  · simp only [Act.put, List.setIfInBounds_toArray, List.set_cons_zero, List.set_cons_succ, i64_w, i32_w]
                                    rfl
                                  refine pure_ (i := 7) (N := some 34) (v := ?_) (a' := ?_) #[true, true, true, true, true, true, true, true, false, false, false] rfl rfl (any_of HT_.out (by kernel_rfl)) (fun _ _ _ h => h) (Or.inl ⟨by rfl, ?_⟩) ?_ ?_
                                  rotate_left
                                  · intro w'
                                    go_simp
                                    with_reducible rfl
                                  rotate_left
                                  · simp only [Act.put, List.setIfInBounds_toArray, List.set_cons_zero, List.set_cons_succ, i64_w, i32_w]
                                    rfl
                                  refine pure_ (i := 8) (N := some 35) (v := ?_) (a' := ?_) #[true, true, true, true, true, true, true, true, true, false, false] rfl rfl (any_of HT_.out (by kernel_rfl)) (fun _ _ _ h => h) (Or.inl ⟨by rfl, ?_⟩) ?_ ?_
                                  rotate_left
                                  · intro w'
                                    go_simp
                                    with_reducible rfl
                                  rotate_left
                                  · simp only [Act.put, List.setIfInBounds_toArray, List.set_cons_zero, List.set_cons_succ, i64_w, i32_w]
                                    rfl
                                  refine pure_ (i := 9) (N := some 8) (v := ?_) (a' := ?_) #[true, true, true, true, true, true, true, true, true, true, false] rfl rfl (any_of HT_.out (by kernel_rfl)) (fun _ _ _ h => h) (Or.inl ⟨by rfl, ?_⟩) ?_ ?_
                                  rotate_left
                                  · intro w'
                                    go_simp
                                    with_reducible rfl
                                  rotate_left
                                  · simp only [Act.put, List.setIfInBounds_toArray, List.set_cons_zero, List.set_cons_succ, i64_w, i32_w]
                                    rfl
                                  refine pure_ (i := 10) (N := some 9) (v := ?_) (a' := ?_) #[true, true, true, true, true, true, true, true, true, true, true] rfl rfl (any_of HT_.out (by kernel_rfl)) (fun _ _ _ h => h) (Or.inl ⟨by rfl, ?_⟩) ?_ ?_
                                  rotate_left
                                  · intro w'
                                    go_simp
                                    with_reducible rfl
                                  rotate_left
                                  · simp only [Act.put, List.setIfInBounds_toArray, List.set_cons_zero, List.set_cons_succ, i64_w, i32_w]
                                    rfl
                                  refine done_ (done_of HT_.out (by kernel_rfl)) ?_
                                  try go_wp2_with (first | ((with_reducible refine gate_callee (f := 7) rfl ?_); refine goesL_ (some 40) rfl rfl Try.func7 (by kernel_rfl) rfl #[.agg #[.int .i64 (wrap64 (-(wrap64 (1 + (Go.bits .and .i64 a1 1023))))), .int .i64 0], .string (⟨#[]⟩ : ByteArray)] rfl (by (try simp only [List.map_toArray, List.map_cons, List.map_nil]); first | done | rfl | (simp only [List.length_drop, List.length_take]; rfl)) ?_; (with_reducible refine (chunk_Cut.calls k (wrap64 (-(wrap64 (1 + (Go.bits .and .i64 a1 1023))))) 0 (⟨#[]⟩ : ByteArray) t155 t158 _ A10.out).mono ?_); rintro e w42 ⟨v156, rfl, ho0, hb⟩; refine ⟨_, rfl, ?_⟩; have n0_ := Aside0.mk (Kd.R_below (by (with_reducible repeat (first | apply Kd.R_alloc | apply Kd.R_drewN | apply Kd.R_drew)); exact HO147.out) hb); have n1_ := Aside0.mk (Kd.R_below (by (with_reducible repeat (first | apply Kd.R_alloc | apply Kd.R_drewN | apply Kd.R_drew)); exact HO150.out) hb); have n2_ := Aside0.mk (Kd.R_elder' (by (with_reducible repeat (first | apply Kd.R_alloc | apply Kd.R_drewN | apply Kd.R_drew)); exact HO153.out) (Kd.R_base ho0) hb); have n3_ := Aside0.mk (Kd.R_lower (Kd.R_new' ho0 (Kd.R_lt (by (with_reducible repeat (first | apply Kd.R_alloc | apply Kd.R_drewN | apply Kd.R_drew)); exact HO153.out))) (below_size (by repeat (first | (with_reducible first | exact HB.out | apply below_alloc | apply pw_below_drewN | apply below_drew1 | refine below_set ?_ GE144.out) | exact HB.out)))); have n4_ := Aside0.mk (blk_below (g := gb144) (o := .cells #[.int .i64 1, .int .i64 0] 23 (0, 0)) (by (with_reducible repeat (first | refine blk_drewN ?_ _ | refine blk_drew ?_ | refine blk_alloc ?_ _)); exact BK144.out) hb); have n5_ := Aside0.mk (below_step (by repeat (first | (with_reducible first | exact HB.out | apply below_alloc | apply pw_below_drewN | apply below_drew1 | refine below_set ?_ GE144.out) | exact HB.out)) hb); clear HO147; clear HO150; clear HO153; clear BK144; clear HB; have HO147 := n0_; have HO150 := n1_; have HO153 := n2_; have HO157 := n3_; have BK144 := n4_; have HB := n5_; clear n0_ n1_ n2_ n3_ n4_ n5_; (try clear hb); (try clear hb2); (try clear hk); (try clear hi); (try clear ho0)))
                                  have n0_ := Aside0.mk (Kd.R_drew HO147.out)
                                  have n1_ := Aside0.mk (Kd.R_drew HO150.out)
                                  have n2_ := Aside0.mk (Kd.R_drew HO153.out)
                                  have n3_ := Aside0.mk (Kd.R_drew HO157.out)
                                  have n4_ := Aside0.mk (blk_drew BK144.out)
                                  have n5_ := Aside0.mk (below_drew1 HB.out)
                                  clear HO147
                                  clear HO150
                                  clear HO153
                                  clear HO157
                                  clear BK144
                                  clear HB
                                  have HO147 := n0_
                                  have HO150 := n1_
                                  have HO153 := n2_
                                  have HO157 := n3_
                                  have BK144 := n4_
                                  have HB := n5_
                                  clear n0_ n1_ n2_ n3_ n4_ n5_
                                  refine start_ (n := 17) (S := fun w' => True) (ds := []) #[false, false, false, false, false, false, false, false, false, false, false, false, false, false, false, false, false] (by kernel_rfl) rfl rfl trivial (fun hHeld => ?_); refine with_tabW ossuarylaw17_ChunkForms.tab8 ossuarylaw17_ChunkForms.bits8 (fun HT_ HW_ => ?_)
                                  generalize w42.drew = w43 at HO147 HO150 HO153 HO157 BK144 HB hHeld ⊢
                                  refine pure_ (i := 0) (N := some 43) (v := ?_) (a' := ?_) #[true, false, false, false, false, false, false, false, false, false, false, false, false, false, false, false, false] rfl rfl (any_of HT_.out (by kernel_rfl)) (fun _ _ _ h => h) (Or.inl ⟨by rfl, ?_⟩) ?_ ?_
                                  rotate_left
                                  · intro w'
                                    go_simp
                                    with_reducible rfl
                                  rotate_left
                                  · simp only [Act.put, List.setIfInBounds_toArray, List.set_cons_zero, List.set_cons_succ, i64_w, i32_w]
                                    rfl
                                  refine pure_ (i := 2) (N := some 45) (v := ?_) (a' := ?_) #[true, false, true, false, false, false, false, false, false, false, false, false, false, false, false, false, false] rfl rfl (any_of HT_.out (by kernel_rfl)) (fun _ _ _ h => h) (Or.inl ⟨by rfl, ?_⟩) ?_ ?_
                                  rotate_left
                                  · intro w'
                                    go_simp
                                    with_reducible rfl
                                  rotate_left
                                  · simp only [Act.put, List.setIfInBounds_toArray, List.set_cons_zero, List.set_cons_succ, i64_w, i32_w]
                                    rfl
                                  refine pure_ (i := 4) (N := some 47) (v := ?_) (a' := ?_) #[true, false, true, false, true, false, false, false, false, false, false, false, false, false, false, false, false] rfl rfl (any_of HT_.out (by kernel_rfl)) (fun _ _ _ h => h) (Or.inl ⟨by rfl, ?_⟩) ?_ ?_
                                  rotate_left
                                  · intro w'
                                    go_simp
                                    with_reducible rfl
                                  rotate_left
                                  · simp only [Act.put, List.setIfInBounds_toArray, List.set_cons_zero, List.set_cons_succ, i64_w, i32_w]
                                    rfl
                                  refine pure_ (i := 5) (N := some 48) (v := ?_) (a' := ?_) #[true, false, true, false, true, true, false, false, false, false, false, false, false, false, false, false, false] rfl rfl (any_of HT_.out (by kernel_rfl)) (fun _ _ _ h => h) (Or.inl ⟨by rfl, ?_⟩) ?_ ?_
                                  rotate_left
                                  · intro w'
                                    go_simp
                                    with_reducible rfl
                                  rotate_left
                                  · simp only [Act.put, List.setIfInBounds_toArray, List.set_cons_zero, List.set_cons_succ, i64_w, i32_w]
                                    rfl
                                  refine pure_ (i := 7) (N := some 50) (v := ?_) (a' := ?_) #[true, false, true, false, true, true, false, true, false, false, false, false, false, false, false, false, false] rfl rfl (any_of HT_.out (by kernel_rfl)) (fun _ _ _ h => h) (Or.inl ⟨by rfl, ?_⟩) ?_ ?_
                                  rotate_left
                                  · intro w'
                                    go_simp
                                    with_reducible rfl
                                  rotate_left
                                  · simp only [Act.put, List.setIfInBounds_toArray, List.set_cons_zero, List.set_cons_succ, i64_w, i32_w]
                                    rfl
                                  refine pure_ (i := 10) (N := some 53) (v := ?_) (a' := ?_) #[true, false, true, false, true, true, false, true, false, false, true, false, false, false, false, false, false] rfl rfl (any_of HT_.out (by kernel_rfl)) (fun _ _ _ h => h) (Or.inl ⟨by rfl, ?_⟩) ?_ ?_
                                  rotate_left
                                  · intro w'
                                    go_simp
                                    with_reducible rfl
                                  rotate_left
                                  · simp only [Act.put, List.setIfInBounds_toArray, List.set_cons_zero, List.set_cons_succ, i64_w, i32_w]
                                    rfl
                                  refine pure_ (i := 13) (N := some 56) (v := ?_) (a' := ?_) #[true, false, true, false, true, true, false, true, false, false, true, false, false, true, false, false, false] rfl rfl (any_of HT_.out (by kernel_rfl)) (fun _ _ _ h => h) (Or.inl ⟨by rfl, ?_⟩) ?_ ?_
                                  rotate_left
                                  · intro w'
                                    go_simp
                                    with_reducible rfl
                                  rotate_left
                                  · simp only [Act.put, List.setIfInBounds_toArray, List.set_cons_zero, List.set_cons_succ, i64_w, i32_w]
                                    rfl
                                  refine inv_at [1, 3, 6, 8, 9, 11, 12, 14, 15, 16] (fun a0_ b a w' => ∃ (v160 : Value) (v163 : Value) (v166 : Value) (v169 : Value) (v172 : Value) (v175 : Value) (v178 : Value) (m16_ : Value), a = putSel a0_ b [(1, 44, v160), (3, 46, v163), (6, 49, v166), (8, 51, .string ((strOfNums y145).extract 0 31)), (9, 52, v169), (11, 54, .int .i64 ji13), (12, 55, v172), (14, 57, v175), (15, 58, v178), (16, 12, m16_)] ∧ (Kd.R (Kd.int .u8) 5 w' w.heap.size (fun k_ => some k_ ≠ (v149 : Value).ownBlock) v146 y145) ∧ (Kd.R (Kd.int .u8) 5 w' w.heap.size (fun k_ => some k_ ≠ (v146 : Value).ownBlock) v149 y148) ∧ (Kd.R Kd.string 9 w' w.heap.size (fun k_ => some k_ ≠ (v156 : Value).ownBlock) v152 t151) ∧ (Kd.R Kd.string 9 w' w.heap.size (fun k_ => some k_ ≠ (v152 : Value).ownBlock) v156 t155) ∧ (w'.heap[gb144]? = some (.cells #[.int .i64 1, .int .i64 0] 23 (0, 0))) ∧ (Below w.heap.size w w') ∧ (b 1 = true → b 15 = false → Kd.R Kd.string 9 w' w.heap.size (fun k_ => some k_ ≠ (v152 : Value).ownBlock ∧ some k_ ≠ (v156 : Value).ownBlock) v160 y159) ∧ (b 3 = true → b 15 = false → Kd.R Kd.string 9 w' w.heap.size (fun k_ => some k_ ≠ (v152 : Value).ownBlock ∧ some k_ ≠ (v156 : Value).ownBlock) v163 y162) ∧ (b 6 = true → b 15 = false → Kd.R Kd.string 9 w' w.heap.size (fun k_ => some k_ ≠ (v152 : Value).ownBlock ∧ some k_ ≠ (v156 : Value).ownBlock) v166 y165) ∧ (b 9 = true → b 15 = false → Kd.R Kd.string 9 w' w.heap.size (fun k_ => some k_ ≠ (v152 : Value).ownBlock ∧ some k_ ≠ (v156 : Value).ownBlock) v169 y168) ∧ (b 12 = true → b 15 = false → Kd.R Kd.string 9 w' w.heap.size (fun k_ => some k_ ≠ (v152 : Value).ownBlock ∧ some k_ ≠ (v156 : Value).ownBlock) v172 y171) ∧ (b 14 = true → b 15 = false → Kd.R Kd.string 9 w' w.heap.size (fun k_ => some k_ ≠ (v152 : Value).ownBlock ∧ some k_ ≠ (v156 : Value).ownBlock) v175 y174) ∧ (b 15 = true → Kd.N (Kd.slice 9 Kd.string) 24 w' w.heap.size (fun k_ => some k_ ≠ (v146 : Value).ownBlock ∧ some k_ ≠ (v149 : Value).ownBlock ∧ some k_ ≠ (v152 : Value).ownBlock ∧ some k_ ≠ (v156 : Value).ownBlock ∧ k_ ≠ gb144) v178 y177) ∧ (b 16 = true → (m16_ : Value) = v178)) HT_.out HW_.out (by kernel_rfl) (by kernel_rfl) ?_ ?_ ?_
                                  · exact ⟨.bool false, .bool false, .bool false, .bool false, .bool false, .bool false, .bool false, .bool false, by simp only [putSel, Bool.false_eq_true, if_false], (by first | exact HO147.out | exact Kd.R_mono HO147.out (fun _ hk => by first | exact hk | exact hk.1 | exact hk.2 | exact ⟨hk.1.2, hk.2⟩ | simp_all)), (by first | exact HO150.out | exact Kd.R_mono HO150.out (fun _ hk => by first | exact hk | exact hk.1 | exact hk.2 | exact ⟨hk.1.2, hk.2⟩ | simp_all)), (by first | exact HO153.out | exact Kd.R_mono HO153.out (fun _ hk => by first | exact hk | exact hk.1 | exact hk.2 | exact ⟨hk.1.2, hk.2⟩ | simp_all)), (by first | exact HO157.out | exact Kd.R_mono HO157.out (fun _ hk => by first | exact hk | exact hk.1 | exact hk.2 | exact ⟨hk.1.2, hk.2⟩ | simp_all)), BK144.out, HB.out, fun h_ => absurd h_ (by decide), fun h_ => absurd h_ (by decide), fun h_ => absurd h_ (by decide), fun h_ => absurd h_ (by decide), fun h_ => absurd h_ (by decide), fun h_ => absurd h_ (by decide), fun h_ => absurd h_ (by decide), fun h_ => absurd h_ (by decide)⟩
                                  · skip
                                    clear BK144 HB HO147 HO150 HO153 HO157
                                    refine steps_cons ?_ ?_
                                    · rintro b a w' ⟨v160, v163, v166, v169, v172, v175, v178, m16_, ha, Q_HO147, Q_HO150, Q_HO153, Q_HO157, Q_BK144, Q_HB, Q_HO161, Q_HO164, Q_HO167, Q_HO170, Q_HO173, Q_HO176, Q_HO179, Q_X16_⟩ hb_ hon hoff
                                      refine ⟨_, rfl, fun K hK => ?_⟩
                                      have e43 : a.tmps[43]? = some (.string (strOfNums y145)) := by rw [ha]; exact (putSel_off rfl).trans rfl
                                      replace ha := Aside0.mk ha
                                      have HO147 := Aside0.mk Q_HO147
                                      have HO150 := Aside0.mk Q_HO150
                                      have HO153 := Aside0.mk Q_HO153
                                      have HO157 := Aside0.mk Q_HO157
                                      have BK144 := Aside0.mk Q_BK144
                                      have HB := Aside0.mk Q_HB
                                      refine Kd.R_lit_step Kd.string _ 9 ?hg (N := 44) ?hd (xs := ([strOfNums y145] : List ByteArray)) (inner := [.string (strOfNums y145)]) (ok := fun _ => True) (okp := fun _ => True) ?hr ?hp (fun _ hk => hk) trivial (Below.refl _ _) (Nat.le_refl _) (by simp) ?_; (case hd => rfl); (case hg => rfl); (case hr => first | (go_simp; done) | (go_simp; rfl)); (case hp => exact (Reps.one (show Kd.M Kd.string _ _ _ (strOfNums y145) [.string (strOfNums y145)] from rfl) (Reps.none _ _)))
                                      intro v160 w44 ho45 hb hg_ hnew_
                                      clear hg_ hnew_
                                      (first | rw [← Ny159.out] at ho45 | (simp only [Int.reduceToNat] at ho45; rw [← Ny159.out] at ho45))
                                      have n0_ := Aside0.mk (Kd.R_below (by (with_reducible repeat (first | apply Kd.R_alloc | apply Kd.R_drewN | apply Kd.R_drew)); exact HO147.out) hb)
                                      have n1_ := Aside0.mk (Kd.R_below (by (with_reducible repeat (first | apply Kd.R_alloc | apply Kd.R_drewN | apply Kd.R_drew)); exact HO150.out) hb)
                                      have n2_ := Aside0.mk (Kd.R_elder' (by (with_reducible repeat (first | apply Kd.R_alloc | apply Kd.R_drewN | apply Kd.R_drew)); exact HO153.out) (Kd.R_base ho45) hb)
                                      have n3_ := Aside0.mk (Kd.R_elder' (by (with_reducible repeat (first | apply Kd.R_alloc | apply Kd.R_drewN | apply Kd.R_drew)); exact HO157.out) (Kd.R_base ho45) hb)
                                      have n4_ := Aside0.mk (Kd.R_lower (Kd.R_new' (Kd.R_new' ho45 (Kd.R_lt (by (with_reducible repeat (first | apply Kd.R_alloc | apply Kd.R_drewN | apply Kd.R_drew)); exact HO153.out))) (Kd.R_lt (by (with_reducible repeat (first | apply Kd.R_alloc | apply Kd.R_drewN | apply Kd.R_drew)); exact HO157.out))) (below_size (by repeat (first | (with_reducible first | exact HB.out | apply below_alloc | apply pw_below_drewN | apply below_drew1 | refine below_set ?_ GE144.out) | exact HB.out))))
                                      have n5_ := Aside0.mk (blk_below (g := gb144) (o := .cells #[.int .i64 1, .int .i64 0] 23 (0, 0)) (by (with_reducible repeat (first | refine blk_drewN ?_ _ | refine blk_drew ?_ | refine blk_alloc ?_ _)); exact BK144.out) hb)
                                      have n6_ := Aside0.mk (below_step (by repeat (first | (with_reducible first | exact HB.out | apply below_alloc | apply pw_below_drewN | apply below_drew1 | refine below_set ?_ GE144.out) | exact HB.out)) hb)
                                      have z_HO164 := fun (h0_ : b 3 = true) (h1_ : b 15 = false) => (show Kd.R Kd.string 9 w44 w.heap.size (fun k_ => some k_ ≠ (v152 : Value).ownBlock ∧ some k_ ≠ (v156 : Value).ownBlock) v163 y162 from by first | exact (Kd.R_elder' (by (with_reducible repeat (first | apply Kd.R_alloc | apply Kd.R_drewN | apply Kd.R_drew)); exact (Q_HO164 h0_ h1_)) (Kd.R_base ho45) hb) | exact Kd.R_mono (Kd.R_elder' (by (with_reducible repeat (first | apply Kd.R_alloc | apply Kd.R_drewN | apply Kd.R_drew)); exact (Q_HO164 h0_ h1_)) (Kd.R_base ho45) hb) (fun _ h_ => by first | trivial | exact h_ | exact h_.1))
                                      have z_HO167 := fun (h0_ : b 6 = true) (h1_ : b 15 = false) => (show Kd.R Kd.string 9 w44 w.heap.size (fun k_ => some k_ ≠ (v152 : Value).ownBlock ∧ some k_ ≠ (v156 : Value).ownBlock) v166 y165 from by first | exact (Kd.R_elder' (by (with_reducible repeat (first | apply Kd.R_alloc | apply Kd.R_drewN | apply Kd.R_drew)); exact (Q_HO167 h0_ h1_)) (Kd.R_base ho45) hb) | exact Kd.R_mono (Kd.R_elder' (by (with_reducible repeat (first | apply Kd.R_alloc | apply Kd.R_drewN | apply Kd.R_drew)); exact (Q_HO167 h0_ h1_)) (Kd.R_base ho45) hb) (fun _ h_ => by first | trivial | exact h_ | exact h_.1))
                                      have z_HO170 := fun (h0_ : b 9 = true) (h1_ : b 15 = false) => (show Kd.R Kd.string 9 w44 w.heap.size (fun k_ => some k_ ≠ (v152 : Value).ownBlock ∧ some k_ ≠ (v156 : Value).ownBlock) v169 y168 from by first | exact (Kd.R_elder' (by (with_reducible repeat (first | apply Kd.R_alloc | apply Kd.R_drewN | apply Kd.R_drew)); exact (Q_HO170 h0_ h1_)) (Kd.R_base ho45) hb) | exact Kd.R_mono (Kd.R_elder' (by (with_reducible repeat (first | apply Kd.R_alloc | apply Kd.R_drewN | apply Kd.R_drew)); exact (Q_HO170 h0_ h1_)) (Kd.R_base ho45) hb) (fun _ h_ => by first | trivial | exact h_ | exact h_.1))
                                      have z_HO173 := fun (h0_ : b 12 = true) (h1_ : b 15 = false) => (show Kd.R Kd.string 9 w44 w.heap.size (fun k_ => some k_ ≠ (v152 : Value).ownBlock ∧ some k_ ≠ (v156 : Value).ownBlock) v172 y171 from by first | exact (Kd.R_elder' (by (with_reducible repeat (first | apply Kd.R_alloc | apply Kd.R_drewN | apply Kd.R_drew)); exact (Q_HO173 h0_ h1_)) (Kd.R_base ho45) hb) | exact Kd.R_mono (Kd.R_elder' (by (with_reducible repeat (first | apply Kd.R_alloc | apply Kd.R_drewN | apply Kd.R_drew)); exact (Q_HO173 h0_ h1_)) (Kd.R_base ho45) hb) (fun _ h_ => by first | trivial | exact h_ | exact h_.1))
                                      have z_HO176 := fun (h0_ : b 14 = true) (h1_ : b 15 = false) => (show Kd.R Kd.string 9 w44 w.heap.size (fun k_ => some k_ ≠ (v152 : Value).ownBlock ∧ some k_ ≠ (v156 : Value).ownBlock) v175 y174 from by first | exact (Kd.R_elder' (by (with_reducible repeat (first | apply Kd.R_alloc | apply Kd.R_drewN | apply Kd.R_drew)); exact (Q_HO176 h0_ h1_)) (Kd.R_base ho45) hb) | exact Kd.R_mono (Kd.R_elder' (by (with_reducible repeat (first | apply Kd.R_alloc | apply Kd.R_drewN | apply Kd.R_drew)); exact (Q_HO176 h0_ h1_)) (Kd.R_base ho45) hb) (fun _ h_ => by first | trivial | exact h_ | exact h_.1))
                                      clear HO147
                                      clear HO150
                                      clear HO153
                                      clear HO157
                                      clear BK144
                                      clear HB
                                      have HO147 := n0_
                                      have HO150 := n1_
                                      have HO153 := n2_
                                      have HO157 := n3_
                                      have HO161 := n4_
                                      have BK144 := n5_
                                      have HB := n6_
                                      clear n0_ n1_ n2_ n3_ n4_ n5_ n6_
                                      clear hb ho45
                                      refine hK.out _ _ ⟨v160, v163, v166, v169, v172, v175, v178, m16_, (by rw [ha.out]; exact putSel_upk 0 hb_ rfl rfl rfl), (by (with_reducible repeat (first | apply Kd.R_alloc | apply Kd.R_drewN | apply Kd.R_drew)); exact Kd.R_mono HO147.out (fun _ hk => by first | exact hk.2 | exact hk | exact hk.1 | exact hk.2 | simp_all)), (by (with_reducible repeat (first | apply Kd.R_alloc | apply Kd.R_drewN | apply Kd.R_drew)); exact Kd.R_mono HO150.out (fun _ hk => by first | exact hk.2 | exact hk | exact hk.1 | exact hk.2 | simp_all)), (by (with_reducible repeat (first | apply Kd.R_alloc | apply Kd.R_drewN | apply Kd.R_drew)); exact Kd.R_mono HO153.out (fun _ hk => by first | exact ⟨hk.1.2, hk.2⟩ | exact hk | exact hk.1 | exact hk.2 | simp_all)), (by (with_reducible repeat (first | apply Kd.R_alloc | apply Kd.R_drewN | apply Kd.R_drew)); exact Kd.R_mono HO157.out (fun _ hk => by first | exact ⟨hk.1.2, hk.2⟩ | exact hk | exact hk.1 | exact hk.2 | simp_all)), (by (with_reducible repeat (first | refine blk_drewN ?_ _ | refine blk_drew ?_ | refine blk_alloc ?_ _)); exact BK144.out), (by repeat (first | (with_reducible first | exact HB.out | apply below_alloc | apply pw_below_drewN | apply below_drew1 | refine below_set ?_ GE144.out) | exact HB.out)), fun _ _ => (by (with_reducible repeat (first | apply Kd.R_alloc | apply Kd.R_drewN | apply Kd.R_drew)); exact Kd.R_mono HO161.out (fun _ hk => by first | exact ⟨hk.1.2, hk.2⟩ | exact hk | exact hk.1 | exact hk.2 | simp_all)), z_HO164, z_HO167, z_HO170, z_HO173, z_HO176, fun h0_ => absurd ((hoff 15 (by kernel_rfl)).symm.trans h0_) (by decide), fun h0_ => absurd ((hoff 16 (by kernel_rfl)).symm.trans h0_) (by decide)⟩
                                    refine steps_cons ?_ ?_
                                    · rintro b a w' ⟨v160, v163, v166, v169, v172, v175, v178, m16_, ha, Q_HO147, Q_HO150, Q_HO153, Q_HO157, Q_BK144, Q_HB, Q_HO161, Q_HO164, Q_HO167, Q_HO170, Q_HO173, Q_HO176, Q_HO179, Q_X16_⟩ hb_ hon hoff
                                      refine ⟨_, rfl, fun K hK => ?_⟩
                                      have e45 : a.tmps[45]? = some (.string (strOfNums y145)) := by rw [ha]; exact (putSel_off rfl).trans rfl
                                      replace ha := Aside0.mk ha
                                      have HO147 := Aside0.mk Q_HO147
                                      have HO150 := Aside0.mk Q_HO150
                                      have HO153 := Aside0.mk Q_HO153
                                      have HO157 := Aside0.mk Q_HO157
                                      have BK144 := Aside0.mk Q_BK144
                                      have HB := Aside0.mk Q_HB
                                      refine Kd.R_lit_step Kd.string _ 9 ?hg (N := 46) ?hd (xs := ([strOfNums y145] : List ByteArray)) (inner := [.string (strOfNums y145)]) (ok := fun _ => True) (okp := fun _ => True) ?hr ?hp (fun _ hk => hk) trivial (Below.refl _ _) (Nat.le_refl _) (by simp) ?_; (case hd => rfl); (case hg => rfl); (case hr => first | (go_simp; done) | (go_simp; rfl)); (case hp => exact (Reps.one (show Kd.M Kd.string _ _ _ (strOfNums y145) [.string (strOfNums y145)] from rfl) (Reps.none _ _)))
                                      intro v163 w44 ho45 hb hg_ hnew_
                                      clear hg_ hnew_
                                      (first | rw [← Ny162.out] at ho45 | (simp only [Int.reduceToNat] at ho45; rw [← Ny162.out] at ho45))
                                      have n0_ := Aside0.mk (Kd.R_below (by (with_reducible repeat (first | apply Kd.R_alloc | apply Kd.R_drewN | apply Kd.R_drew)); exact HO147.out) hb)
                                      have n1_ := Aside0.mk (Kd.R_below (by (with_reducible repeat (first | apply Kd.R_alloc | apply Kd.R_drewN | apply Kd.R_drew)); exact HO150.out) hb)
                                      have n2_ := Aside0.mk (Kd.R_elder' (by (with_reducible repeat (first | apply Kd.R_alloc | apply Kd.R_drewN | apply Kd.R_drew)); exact HO153.out) (Kd.R_base ho45) hb)
                                      have n3_ := Aside0.mk (Kd.R_elder' (by (with_reducible repeat (first | apply Kd.R_alloc | apply Kd.R_drewN | apply Kd.R_drew)); exact HO157.out) (Kd.R_base ho45) hb)
                                      have n4_ := Aside0.mk (Kd.R_lower (Kd.R_new' (Kd.R_new' ho45 (Kd.R_lt (by (with_reducible repeat (first | apply Kd.R_alloc | apply Kd.R_drewN | apply Kd.R_drew)); exact HO153.out))) (Kd.R_lt (by (with_reducible repeat (first | apply Kd.R_alloc | apply Kd.R_drewN | apply Kd.R_drew)); exact HO157.out))) (below_size (by repeat (first | (with_reducible first | exact HB.out | apply below_alloc | apply pw_below_drewN | apply below_drew1 | refine below_set ?_ GE144.out) | exact HB.out))))
                                      have n5_ := Aside0.mk (blk_below (g := gb144) (o := .cells #[.int .i64 1, .int .i64 0] 23 (0, 0)) (by (with_reducible repeat (first | refine blk_drewN ?_ _ | refine blk_drew ?_ | refine blk_alloc ?_ _)); exact BK144.out) hb)
                                      have n6_ := Aside0.mk (below_step (by repeat (first | (with_reducible first | exact HB.out | apply below_alloc | apply pw_below_drewN | apply below_drew1 | refine below_set ?_ GE144.out) | exact HB.out)) hb)
                                      have z_HO161 := fun (h0_ : b 1 = true) (h1_ : b 15 = false) => (show Kd.R Kd.string 9 w44 w.heap.size (fun k_ => some k_ ≠ (v152 : Value).ownBlock ∧ some k_ ≠ (v156 : Value).ownBlock) v160 y159 from by first | exact (Kd.R_elder' (by (with_reducible repeat (first | apply Kd.R_alloc | apply Kd.R_drewN | apply Kd.R_drew)); exact (Q_HO161 h0_ h1_)) (Kd.R_base ho45) hb) | exact Kd.R_mono (Kd.R_elder' (by (with_reducible repeat (first | apply Kd.R_alloc | apply Kd.R_drewN | apply Kd.R_drew)); exact (Q_HO161 h0_ h1_)) (Kd.R_base ho45) hb) (fun _ h_ => by first | trivial | exact h_ | exact h_.1))
                                      have z_HO167 := fun (h0_ : b 6 = true) (h1_ : b 15 = false) => (show Kd.R Kd.string 9 w44 w.heap.size (fun k_ => some k_ ≠ (v152 : Value).ownBlock ∧ some k_ ≠ (v156 : Value).ownBlock) v166 y165 from by first | exact (Kd.R_elder' (by (with_reducible repeat (first | apply Kd.R_alloc | apply Kd.R_drewN | apply Kd.R_drew)); exact (Q_HO167 h0_ h1_)) (Kd.R_base ho45) hb) | exact Kd.R_mono (Kd.R_elder' (by (with_reducible repeat (first | apply Kd.R_alloc | apply Kd.R_drewN | apply Kd.R_drew)); exact (Q_HO167 h0_ h1_)) (Kd.R_base ho45) hb) (fun _ h_ => by first | trivial | exact h_ | exact h_.1))
                                      have z_HO170 := fun (h0_ : b 9 = true) (h1_ : b 15 = false) => (show Kd.R Kd.string 9 w44 w.heap.size (fun k_ => some k_ ≠ (v152 : Value).ownBlock ∧ some k_ ≠ (v156 : Value).ownBlock) v169 y168 from by first | exact (Kd.R_elder' (by (with_reducible repeat (first | apply Kd.R_alloc | apply Kd.R_drewN | apply Kd.R_drew)); exact (Q_HO170 h0_ h1_)) (Kd.R_base ho45) hb) | exact Kd.R_mono (Kd.R_elder' (by (with_reducible repeat (first | apply Kd.R_alloc | apply Kd.R_drewN | apply Kd.R_drew)); exact (Q_HO170 h0_ h1_)) (Kd.R_base ho45) hb) (fun _ h_ => by first | trivial | exact h_ | exact h_.1))
                                      have z_HO173 := fun (h0_ : b 12 = true) (h1_ : b 15 = false) => (show Kd.R Kd.string 9 w44 w.heap.size (fun k_ => some k_ ≠ (v152 : Value).ownBlock ∧ some k_ ≠ (v156 : Value).ownBlock) v172 y171 from by first | exact (Kd.R_elder' (by (with_reducible repeat (first | apply Kd.R_alloc | apply Kd.R_drewN | apply Kd.R_drew)); exact (Q_HO173 h0_ h1_)) (Kd.R_base ho45) hb) | exact Kd.R_mono (Kd.R_elder' (by (with_reducible repeat (first | apply Kd.R_alloc | apply Kd.R_drewN | apply Kd.R_drew)); exact (Q_HO173 h0_ h1_)) (Kd.R_base ho45) hb) (fun _ h_ => by first | trivial | exact h_ | exact h_.1))
                                      have z_HO176 := fun (h0_ : b 14 = true) (h1_ : b 15 = false) => (show Kd.R Kd.string 9 w44 w.heap.size (fun k_ => some k_ ≠ (v152 : Value).ownBlock ∧ some k_ ≠ (v156 : Value).ownBlock) v175 y174 from by first | exact (Kd.R_elder' (by (with_reducible repeat (first | apply Kd.R_alloc | apply Kd.R_drewN | apply Kd.R_drew)); exact (Q_HO176 h0_ h1_)) (Kd.R_base ho45) hb) | exact Kd.R_mono (Kd.R_elder' (by (with_reducible repeat (first | apply Kd.R_alloc | apply Kd.R_drewN | apply Kd.R_drew)); exact (Q_HO176 h0_ h1_)) (Kd.R_base ho45) hb) (fun _ h_ => by first | trivial | exact h_ | exact h_.1))
                                      clear HO147
                                      clear HO150
                                      clear HO153
                                      clear HO157
                                      clear BK144
                                      clear HB
                                      have HO147 := n0_
                                      have HO150 := n1_
                                      have HO153 := n2_
                                      have HO157 := n3_
                                      have HO164 := n4_
                                      have BK144 := n5_
                                      have HB := n6_
                                      clear n0_ n1_ n2_ n3_ n4_ n5_ n6_
                                      clear hb ho45
                                      refine hK.out _ _ ⟨v160, v163, v166, v169, v172, v175, v178, m16_, (by rw [ha.out]; exact putSel_upk 1 hb_ rfl rfl rfl), (by (with_reducible repeat (first | apply Kd.R_alloc | apply Kd.R_drewN | apply Kd.R_drew)); exact Kd.R_mono HO147.out (fun _ hk => by first | exact hk.2 | exact hk | exact hk.1 | exact hk.2 | simp_all)), (by (with_reducible repeat (first | apply Kd.R_alloc | apply Kd.R_drewN | apply Kd.R_drew)); exact Kd.R_mono HO150.out (fun _ hk => by first | exact hk.2 | exact hk | exact hk.1 | exact hk.2 | simp_all)), (by (with_reducible repeat (first | apply Kd.R_alloc | apply Kd.R_drewN | apply Kd.R_drew)); exact Kd.R_mono HO153.out (fun _ hk => by first | exact ⟨hk.1.2, hk.2⟩ | exact hk | exact hk.1 | exact hk.2 | simp_all)), (by (with_reducible repeat (first | apply Kd.R_alloc | apply Kd.R_drewN | apply Kd.R_drew)); exact Kd.R_mono HO157.out (fun _ hk => by first | exact ⟨hk.1.2, hk.2⟩ | exact hk | exact hk.1 | exact hk.2 | simp_all)), (by (with_reducible repeat (first | refine blk_drewN ?_ _ | refine blk_drew ?_ | refine blk_alloc ?_ _)); exact BK144.out), (by repeat (first | (with_reducible first | exact HB.out | apply below_alloc | apply pw_below_drewN | apply below_drew1 | refine below_set ?_ GE144.out) | exact HB.out)), z_HO161, fun _ _ => (by (with_reducible repeat (first | apply Kd.R_alloc | apply Kd.R_drewN | apply Kd.R_drew)); exact Kd.R_mono HO164.out (fun _ hk => by first | exact ⟨hk.1.2, hk.2⟩ | exact hk | exact hk.1 | exact hk.2 | simp_all)), z_HO167, z_HO170, z_HO173, z_HO176, fun h0_ => absurd ((hoff 15 (by kernel_rfl)).symm.trans h0_) (by decide), fun h0_ => absurd ((hoff 16 (by kernel_rfl)).symm.trans h0_) (by decide)⟩
                                    refine steps_cons ?_ ?_
                                    · rintro b a w' ⟨v160, v163, v166, v169, v172, v175, v178, m16_, ha, Q_HO147, Q_HO150, Q_HO153, Q_HO157, Q_BK144, Q_HB, Q_HO161, Q_HO164, Q_HO167, Q_HO170, Q_HO173, Q_HO176, Q_HO179, Q_X16_⟩ hb_ hon hoff
                                      refine ⟨_, rfl, fun K hK => ?_⟩
                                      have e47 : a.tmps[47]? = some (.string (strOfNums y145)) := by rw [ha]; exact (putSel_off rfl).trans rfl
                                      have e48 : a.tmps[48]? = some (.string (strOfNums y145)) := by rw [ha]; exact (putSel_off rfl).trans rfl
                                      replace ha := Aside0.mk ha
                                      have HO147 := Aside0.mk Q_HO147
                                      have HO150 := Aside0.mk Q_HO150
                                      have HO153 := Aside0.mk Q_HO153
                                      have HO157 := Aside0.mk Q_HO157
                                      have BK144 := Aside0.mk Q_BK144
                                      have HB := Aside0.mk Q_HB
                                      refine Kd.R_lit_step Kd.string _ 9 ?hg (N := 49) ?hd (xs := ([strOfNums y145, strOfNums y145] : List ByteArray)) (inner := [.string (strOfNums y145), .string (strOfNums y145)]) (ok := fun _ => True) (okp := fun _ => True) ?hr ?hp (fun _ hk => hk) trivial (Below.refl _ _) (Nat.le_refl _) (by simp) ?_; (case hd => rfl); (case hg => rfl); (case hr => first | (go_simp; done) | (go_simp; rfl)); (case hp => exact (Reps.one (show Kd.M Kd.string _ _ _ (strOfNums y145) [.string (strOfNums y145)] from rfl) (Reps.one (show Kd.M Kd.string _ _ _ (strOfNums y145) [.string (strOfNums y145)] from rfl) (Reps.none _ _))))
                                      intro v166 w44 ho45 hb hg_ hnew_
                                      clear hg_ hnew_
                                      (first | rw [← Ny165.out] at ho45 | (simp only [Int.reduceToNat] at ho45; rw [← Ny165.out] at ho45))
                                      have n0_ := Aside0.mk (Kd.R_below (by (with_reducible repeat (first | apply Kd.R_alloc | apply Kd.R_drewN | apply Kd.R_drew)); exact HO147.out) hb)
                                      have n1_ := Aside0.mk (Kd.R_below (by (with_reducible repeat (first | apply Kd.R_alloc | apply Kd.R_drewN | apply Kd.R_drew)); exact HO150.out) hb)
                                      have n2_ := Aside0.mk (Kd.R_elder' (by (with_reducible repeat (first | apply Kd.R_alloc | apply Kd.R_drewN | apply Kd.R_drew)); exact HO153.out) (Kd.R_base ho45) hb)
                                      have n3_ := Aside0.mk (Kd.R_elder' (by (with_reducible repeat (first | apply Kd.R_alloc | apply Kd.R_drewN | apply Kd.R_drew)); exact HO157.out) (Kd.R_base ho45) hb)
                                      have n4_ := Aside0.mk (Kd.R_lower (Kd.R_new' (Kd.R_new' ho45 (Kd.R_lt (by (with_reducible repeat (first | apply Kd.R_alloc | apply Kd.R_drewN | apply Kd.R_drew)); exact HO153.out))) (Kd.R_lt (by (with_reducible repeat (first | apply Kd.R_alloc | apply Kd.R_drewN | apply Kd.R_drew)); exact HO157.out))) (below_size (by repeat (first | (with_reducible first | exact HB.out | apply below_alloc | apply pw_below_drewN | apply below_drew1 | refine below_set ?_ GE144.out) | exact HB.out))))
                                      have n5_ := Aside0.mk (blk_below (g := gb144) (o := .cells #[.int .i64 1, .int .i64 0] 23 (0, 0)) (by (with_reducible repeat (first | refine blk_drewN ?_ _ | refine blk_drew ?_ | refine blk_alloc ?_ _)); exact BK144.out) hb)
                                      have n6_ := Aside0.mk (below_step (by repeat (first | (with_reducible first | exact HB.out | apply below_alloc | apply pw_below_drewN | apply below_drew1 | refine below_set ?_ GE144.out) | exact HB.out)) hb)
                                      have z_HO161 := fun (h0_ : b 1 = true) (h1_ : b 15 = false) => (show Kd.R Kd.string 9 w44 w.heap.size (fun k_ => some k_ ≠ (v152 : Value).ownBlock ∧ some k_ ≠ (v156 : Value).ownBlock) v160 y159 from by first | exact (Kd.R_elder' (by (with_reducible repeat (first | apply Kd.R_alloc | apply Kd.R_drewN | apply Kd.R_drew)); exact (Q_HO161 h0_ h1_)) (Kd.R_base ho45) hb) | exact Kd.R_mono (Kd.R_elder' (by (with_reducible repeat (first | apply Kd.R_alloc | apply Kd.R_drewN | apply Kd.R_drew)); exact (Q_HO161 h0_ h1_)) (Kd.R_base ho45) hb) (fun _ h_ => by first | trivial | exact h_ | exact h_.1))
                                      have z_HO164 := fun (h0_ : b 3 = true) (h1_ : b 15 = false) => (show Kd.R Kd.string 9 w44 w.heap.size (fun k_ => some k_ ≠ (v152 : Value).ownBlock ∧ some k_ ≠ (v156 : Value).ownBlock) v163 y162 from by first | exact (Kd.R_elder' (by (with_reducible repeat (first | apply Kd.R_alloc | apply Kd.R_drewN | apply Kd.R_drew)); exact (Q_HO164 h0_ h1_)) (Kd.R_base ho45) hb) | exact Kd.R_mono (Kd.R_elder' (by (with_reducible repeat (first | apply Kd.R_alloc | apply Kd.R_drewN | apply Kd.R_drew)); exact (Q_HO164 h0_ h1_)) (Kd.R_base ho45) hb) (fun _ h_ => by first | trivial | exact h_ | exact h_.1))
                                      have z_HO170 := fun (h0_ : b 9 = true) (h1_ : b 15 = false) => (show Kd.R Kd.string 9 w44 w.heap.size (fun k_ => some k_ ≠ (v152 : Value).ownBlock ∧ some k_ ≠ (v156 : Value).ownBlock) v169 y168 from by first | exact (Kd.R_elder' (by (with_reducible repeat (first | apply Kd.R_alloc | apply Kd.R_drewN | apply Kd.R_drew)); exact (Q_HO170 h0_ h1_)) (Kd.R_base ho45) hb) | exact Kd.R_mono (Kd.R_elder' (by (with_reducible repeat (first | apply Kd.R_alloc | apply Kd.R_drewN | apply Kd.R_drew)); exact (Q_HO170 h0_ h1_)) (Kd.R_base ho45) hb) (fun _ h_ => by first | trivial | exact h_ | exact h_.1))
                                      have z_HO173 := fun (h0_ : b 12 = true) (h1_ : b 15 = false) => (show Kd.R Kd.string 9 w44 w.heap.size (fun k_ => some k_ ≠ (v152 : Value).ownBlock ∧ some k_ ≠ (v156 : Value).ownBlock) v172 y171 from by first | exact (Kd.R_elder' (by (with_reducible repeat (first | apply Kd.R_alloc | apply Kd.R_drewN | apply Kd.R_drew)); exact (Q_HO173 h0_ h1_)) (Kd.R_base ho45) hb) | exact Kd.R_mono (Kd.R_elder' (by (with_reducible repeat (first | apply Kd.R_alloc | apply Kd.R_drewN | apply Kd.R_drew)); exact (Q_HO173 h0_ h1_)) (Kd.R_base ho45) hb) (fun _ h_ => by first | trivial | exact h_ | exact h_.1))
                                      have z_HO176 := fun (h0_ : b 14 = true) (h1_ : b 15 = false) => (show Kd.R Kd.string 9 w44 w.heap.size (fun k_ => some k_ ≠ (v152 : Value).ownBlock ∧ some k_ ≠ (v156 : Value).ownBlock) v175 y174 from by first | exact (Kd.R_elder' (by (with_reducible repeat (first | apply Kd.R_alloc | apply Kd.R_drewN | apply Kd.R_drew)); exact (Q_HO176 h0_ h1_)) (Kd.R_base ho45) hb) | exact Kd.R_mono (Kd.R_elder' (by (with_reducible repeat (first | apply Kd.R_alloc | apply Kd.R_drewN | apply Kd.R_drew)); exact (Q_HO176 h0_ h1_)) (Kd.R_base ho45) hb) (fun _ h_ => by first | trivial | exact h_ | exact h_.1))
                                      clear HO147
                                      clear HO150
                                      clear HO153
                                      clear HO157
                                      clear BK144
                                      clear HB
                                      have HO147 := n0_
                                      have HO150 := n1_
                                      have HO153 := n2_
                                      have HO157 := n3_
                                      have HO167 := n4_
                                      have BK144 := n5_
                                      have HB := n6_
                                      clear n0_ n1_ n2_ n3_ n4_ n5_ n6_
                                      clear hb ho45
                                      refine hK.out _ _ ⟨v160, v163, v166, v169, v172, v175, v178, m16_, (by rw [ha.out]; exact putSel_upk 2 hb_ rfl rfl rfl), (by (with_reducible repeat (first | apply Kd.R_alloc | apply Kd.R_drewN | apply Kd.R_drew)); exact Kd.R_mono HO147.out (fun _ hk => by first | exact hk.2 | exact hk | exact hk.1 | exact hk.2 | simp_all)), (by (with_reducible repeat (first | apply Kd.R_alloc | apply Kd.R_drewN | apply Kd.R_drew)); exact Kd.R_mono HO150.out (fun _ hk => by first | exact hk.2 | exact hk | exact hk.1 | exact hk.2 | simp_all)), (by (with_reducible repeat (first | apply Kd.R_alloc | apply Kd.R_drewN | apply Kd.R_drew)); exact Kd.R_mono HO153.out (fun _ hk => by first | exact ⟨hk.1.2, hk.2⟩ | exact hk | exact hk.1 | exact hk.2 | simp_all)), (by (with_reducible repeat (first | apply Kd.R_alloc | apply Kd.R_drewN | apply Kd.R_drew)); exact Kd.R_mono HO157.out (fun _ hk => by first | exact ⟨hk.1.2, hk.2⟩ | exact hk | exact hk.1 | exact hk.2 | simp_all)), (by (with_reducible repeat (first | refine blk_drewN ?_ _ | refine blk_drew ?_ | refine blk_alloc ?_ _)); exact BK144.out), (by repeat (first | (with_reducible first | exact HB.out | apply below_alloc | apply pw_below_drewN | apply below_drew1 | refine below_set ?_ GE144.out) | exact HB.out)), z_HO161, z_HO164, fun _ _ => (by (with_reducible repeat (first | apply Kd.R_alloc | apply Kd.R_drewN | apply Kd.R_drew)); exact Kd.R_mono HO167.out (fun _ hk => by first | exact ⟨hk.1.2, hk.2⟩ | exact hk | exact hk.1 | exact hk.2 | simp_all)), z_HO170, z_HO173, z_HO176, fun h0_ => absurd ((hoff 15 (by kernel_rfl)).symm.trans h0_) (by decide), fun h0_ => absurd ((hoff 16 (by kernel_rfl)).symm.trans h0_) (by decide)⟩
                                    refine steps_cons ?_ ?_
                                    · rintro b a w' ⟨v160, v163, v166, v169, v172, v175, v178, m16_, ha, Q_HO147, Q_HO150, Q_HO153, Q_HO157, Q_BK144, Q_HB, Q_HO161, Q_HO164, Q_HO167, Q_HO170, Q_HO173, Q_HO176, Q_HO179, Q_X16_⟩ hb_ hon hoff
                                      refine ⟨_, rfl, fun K hK => ?_⟩
                                      have e50 : a.tmps[50]? = some (.string (strOfNums y145)) := by rw [ha]; exact (putSel_off rfl).trans rfl
                                      replace ha := Aside0.mk ha
                                      have HO147 := Aside0.mk Q_HO147
                                      have HO150 := Aside0.mk Q_HO150
                                      have HO153 := Aside0.mk Q_HO153
                                      have HO157 := Aside0.mk Q_HO157
                                      have BK144 := Aside0.mk Q_BK144
                                      have HB := Aside0.mk Q_HB
                                      refine value_ (w1 := w') (v := .string ((strOfNums y145).extract 0 31)) (by rfl) rfl ?_ ?_
                                      · go_simp
                                        (try simp only [i64_w])
                                        try rfl
                                      refine hK.out _ _ ⟨v160, v163, v166, v169, v172, v175, v178, m16_, (by rw [ha.out]; exact putSel_upk 3 hb_ rfl rfl rfl), Q_HO147, Q_HO150, Q_HO153, Q_HO157, Q_BK144, Q_HB, Q_HO161, Q_HO164, Q_HO167, fun h0_ _ => absurd ((hoff 9 (by kernel_rfl)).symm.trans h0_) (by decide), Q_HO173, Q_HO176, fun h0_ => absurd ((hoff 15 (by kernel_rfl)).symm.trans h0_) (by decide), fun h0_ => absurd ((hoff 16 (by kernel_rfl)).symm.trans h0_) (by decide)⟩
                                    refine steps_cons ?_ ?_
                                    · rintro b a w' ⟨v160, v163, v166, v169, v172, v175, v178, m16_, ha, Q_HO147, Q_HO150, Q_HO153, Q_HO157, Q_BK144, Q_HB, Q_HO161, Q_HO164, Q_HO167, Q_HO170, Q_HO173, Q_HO176, Q_HO179, Q_X16_⟩ hb_ hon hoff
                                      refine ⟨_, rfl, fun K hK => ?_⟩
                                      have e51 : a.tmps[51]? = some (.string ((strOfNums y145).extract 0 31)) := by rw [ha]; exact putSel_on (e := (8, 51, .string ((strOfNums y145).extract 0 31))) 3 rfl rfl (hon 8 (by kernel_rfl)) rfl
                                      replace ha := Aside0.mk ha
                                      have HO147 := Aside0.mk Q_HO147
                                      have HO150 := Aside0.mk Q_HO150
                                      have HO153 := Aside0.mk Q_HO153
                                      have HO157 := Aside0.mk Q_HO157
                                      have BK144 := Aside0.mk Q_BK144
                                      have HB := Aside0.mk Q_HB
                                      refine Kd.R_lit_step Kd.string _ 9 ?hg (N := 52) ?hd (xs := ([(strOfNums y145).extract 0 31] : List ByteArray)) (inner := [.string ((strOfNums y145).extract 0 31)]) (ok := fun _ => True) (okp := fun _ => True) ?hr ?hp (fun _ hk => hk) trivial (Below.refl _ _) (Nat.le_refl _) (by simp) ?_; (case hd => rfl); (case hg => rfl); (case hr => first | (go_simp; done) | (go_simp; rfl)); (case hp => exact (Reps.one (show Kd.M Kd.string _ _ _ ((strOfNums y145).extract 0 31) [.string ((strOfNums y145).extract 0 31)] from rfl) (Reps.none _ _)))
                                      intro v169 w44 ho45 hb hg_ hnew_
                                      clear hg_ hnew_
                                      (first | rw [← Ny168.out] at ho45 | (simp only [Int.reduceToNat] at ho45; rw [← Ny168.out] at ho45))
                                      have n0_ := Aside0.mk (Kd.R_below (by (with_reducible repeat (first | apply Kd.R_alloc | apply Kd.R_drewN | apply Kd.R_drew)); exact HO147.out) hb)
                                      have n1_ := Aside0.mk (Kd.R_below (by (with_reducible repeat (first | apply Kd.R_alloc | apply Kd.R_drewN | apply Kd.R_drew)); exact HO150.out) hb)
                                      have n2_ := Aside0.mk (Kd.R_elder' (by (with_reducible repeat (first | apply Kd.R_alloc | apply Kd.R_drewN | apply Kd.R_drew)); exact HO153.out) (Kd.R_base ho45) hb)
                                      have n3_ := Aside0.mk (Kd.R_elder' (by (with_reducible repeat (first | apply Kd.R_alloc | apply Kd.R_drewN | apply Kd.R_drew)); exact HO157.out) (Kd.R_base ho45) hb)
                                      have n4_ := Aside0.mk (Kd.R_lower (Kd.R_new' (Kd.R_new' ho45 (Kd.R_lt (by (with_reducible repeat (first | apply Kd.R_alloc | apply Kd.R_drewN | apply Kd.R_drew)); exact HO153.out))) (Kd.R_lt (by (with_reducible repeat (first | apply Kd.R_alloc | apply Kd.R_drewN | apply Kd.R_drew)); exact HO157.out))) (below_size (by repeat (first | (with_reducible first | exact HB.out | apply below_alloc | apply pw_below_drewN | apply below_drew1 | refine below_set ?_ GE144.out) | exact HB.out))))
                                      have n5_ := Aside0.mk (blk_below (g := gb144) (o := .cells #[.int .i64 1, .int .i64 0] 23 (0, 0)) (by (with_reducible repeat (first | refine blk_drewN ?_ _ | refine blk_drew ?_ | refine blk_alloc ?_ _)); exact BK144.out) hb)
                                      have n6_ := Aside0.mk (below_step (by repeat (first | (with_reducible first | exact HB.out | apply below_alloc | apply pw_below_drewN | apply below_drew1 | refine below_set ?_ GE144.out) | exact HB.out)) hb)
                                      have z_HO161 := fun (h0_ : b 1 = true) (h1_ : b 15 = false) => (show Kd.R Kd.string 9 w44 w.heap.size (fun k_ => some k_ ≠ (v152 : Value).ownBlock ∧ some k_ ≠ (v156 : Value).ownBlock) v160 y159 from by first | exact (Kd.R_elder' (by (with_reducible repeat (first | apply Kd.R_alloc | apply Kd.R_drewN | apply Kd.R_drew)); exact (Q_HO161 h0_ h1_)) (Kd.R_base ho45) hb) | exact Kd.R_mono (Kd.R_elder' (by (with_reducible repeat (first | apply Kd.R_alloc | apply Kd.R_drewN | apply Kd.R_drew)); exact (Q_HO161 h0_ h1_)) (Kd.R_base ho45) hb) (fun _ h_ => by first | trivial | exact h_ | exact h_.1))
                                      have z_HO164 := fun (h0_ : b 3 = true) (h1_ : b 15 = false) => (show Kd.R Kd.string 9 w44 w.heap.size (fun k_ => some k_ ≠ (v152 : Value).ownBlock ∧ some k_ ≠ (v156 : Value).ownBlock) v163 y162 from by first | exact (Kd.R_elder' (by (with_reducible repeat (first | apply Kd.R_alloc | apply Kd.R_drewN | apply Kd.R_drew)); exact (Q_HO164 h0_ h1_)) (Kd.R_base ho45) hb) | exact Kd.R_mono (Kd.R_elder' (by (with_reducible repeat (first | apply Kd.R_alloc | apply Kd.R_drewN | apply Kd.R_drew)); exact (Q_HO164 h0_ h1_)) (Kd.R_base ho45) hb) (fun _ h_ => by first | trivial | exact h_ | exact h_.1))
                                      have z_HO167 := fun (h0_ : b 6 = true) (h1_ : b 15 = false) => (show Kd.R Kd.string 9 w44 w.heap.size (fun k_ => some k_ ≠ (v152 : Value).ownBlock ∧ some k_ ≠ (v156 : Value).ownBlock) v166 y165 from by first | exact (Kd.R_elder' (by (with_reducible repeat (first | apply Kd.R_alloc | apply Kd.R_drewN | apply Kd.R_drew)); exact (Q_HO167 h0_ h1_)) (Kd.R_base ho45) hb) | exact Kd.R_mono (Kd.R_elder' (by (with_reducible repeat (first | apply Kd.R_alloc | apply Kd.R_drewN | apply Kd.R_drew)); exact (Q_HO167 h0_ h1_)) (Kd.R_base ho45) hb) (fun _ h_ => by first | trivial | exact h_ | exact h_.1))
                                      have z_HO173 := fun (h0_ : b 12 = true) (h1_ : b 15 = false) => (show Kd.R Kd.string 9 w44 w.heap.size (fun k_ => some k_ ≠ (v152 : Value).ownBlock ∧ some k_ ≠ (v156 : Value).ownBlock) v172 y171 from by first | exact (Kd.R_elder' (by (with_reducible repeat (first | apply Kd.R_alloc | apply Kd.R_drewN | apply Kd.R_drew)); exact (Q_HO173 h0_ h1_)) (Kd.R_base ho45) hb) | exact Kd.R_mono (Kd.R_elder' (by (with_reducible repeat (first | apply Kd.R_alloc | apply Kd.R_drewN | apply Kd.R_drew)); exact (Q_HO173 h0_ h1_)) (Kd.R_base ho45) hb) (fun _ h_ => by first | trivial | exact h_ | exact h_.1))
                                      have z_HO176 := fun (h0_ : b 14 = true) (h1_ : b 15 = false) => (show Kd.R Kd.string 9 w44 w.heap.size (fun k_ => some k_ ≠ (v152 : Value).ownBlock ∧ some k_ ≠ (v156 : Value).ownBlock) v175 y174 from by first | exact (Kd.R_elder' (by (with_reducible repeat (first | apply Kd.R_alloc | apply Kd.R_drewN | apply Kd.R_drew)); exact (Q_HO176 h0_ h1_)) (Kd.R_base ho45) hb) | exact Kd.R_mono (Kd.R_elder' (by (with_reducible repeat (first | apply Kd.R_alloc | apply Kd.R_drewN | apply Kd.R_drew)); exact (Q_HO176 h0_ h1_)) (Kd.R_base ho45) hb) (fun _ h_ => by first | trivial | exact h_ | exact h_.1))
                                      clear HO147
                                      clear HO150
                                      clear HO153
                                      clear HO157
                                      clear BK144
                                      clear HB
                                      have HO147 := n0_
                                      have HO150 := n1_
                                      have HO153 := n2_
                                      have HO157 := n3_
                                      have HO170 := n4_
                                      have BK144 := n5_
                                      have HB := n6_
                                      clear n0_ n1_ n2_ n3_ n4_ n5_ n6_
                                      clear hb ho45
                                      refine hK.out _ _ ⟨v160, v163, v166, v169, v172, v175, v178, m16_, (by rw [ha.out]; exact putSel_upk 4 hb_ rfl rfl rfl), (by (with_reducible repeat (first | apply Kd.R_alloc | apply Kd.R_drewN | apply Kd.R_drew)); exact Kd.R_mono HO147.out (fun _ hk => by first | exact hk.2 | exact hk | exact hk.1 | exact hk.2 | simp_all)), (by (with_reducible repeat (first | apply Kd.R_alloc | apply Kd.R_drewN | apply Kd.R_drew)); exact Kd.R_mono HO150.out (fun _ hk => by first | exact hk.2 | exact hk | exact hk.1 | exact hk.2 | simp_all)), (by (with_reducible repeat (first | apply Kd.R_alloc | apply Kd.R_drewN | apply Kd.R_drew)); exact Kd.R_mono HO153.out (fun _ hk => by first | exact ⟨hk.1.2, hk.2⟩ | exact hk | exact hk.1 | exact hk.2 | simp_all)), (by (with_reducible repeat (first | apply Kd.R_alloc | apply Kd.R_drewN | apply Kd.R_drew)); exact Kd.R_mono HO157.out (fun _ hk => by first | exact ⟨hk.1.2, hk.2⟩ | exact hk | exact hk.1 | exact hk.2 | simp_all)), (by (with_reducible repeat (first | refine blk_drewN ?_ _ | refine blk_drew ?_ | refine blk_alloc ?_ _)); exact BK144.out), (by repeat (first | (with_reducible first | exact HB.out | apply below_alloc | apply pw_below_drewN | apply below_drew1 | refine below_set ?_ GE144.out) | exact HB.out)), z_HO161, z_HO164, z_HO167, fun _ _ => (by (with_reducible repeat (first | apply Kd.R_alloc | apply Kd.R_drewN | apply Kd.R_drew)); exact Kd.R_mono HO170.out (fun _ hk => by first | exact ⟨hk.1.2, hk.2⟩ | exact hk | exact hk.1 | exact hk.2 | simp_all)), z_HO173, z_HO176, fun h0_ => absurd ((hoff 15 (by kernel_rfl)).symm.trans h0_) (by decide), fun h0_ => absurd ((hoff 16 (by kernel_rfl)).symm.trans h0_) (by decide)⟩
                                    refine steps_cons ?_ ?_
                                    · rintro b a w' ⟨v160, v163, v166, v169, v172, v175, v178, m16_, ha, Q_HO147, Q_HO150, Q_HO153, Q_HO157, Q_BK144, Q_HB, Q_HO161, Q_HO164, Q_HO167, Q_HO170, Q_HO173, Q_HO176, Q_HO179, Q_X16_⟩ hb_ hon hoff
                                      refine ⟨_, rfl, fun K hK => ?_⟩
                                      have e53 : a.tmps[53]? = some (.int .i64 (wrap64 (1 + (Go.bits .and .i64 a1 1023)))) := by rw [ha]; exact (putSel_off rfl).trans rfl
                                      replace ha := Aside0.mk ha
                                      have HO147 := Aside0.mk Q_HO147
                                      have HO150 := Aside0.mk Q_HO150
                                      have HO153 := Aside0.mk Q_HO153
                                      have HO157 := Aside0.mk Q_HO157
                                      have BK144 := Aside0.mk Q_BK144
                                      have HB := Aside0.mk Q_HB
                                      refine value_ (w1 := w') (v := .int .i64 ji13) (by rfl) rfl ?_ ?_
                                      · go_simp
                                        (try simp only [i64_w])
                                        try rfl
                                      refine hK.out _ _ ⟨v160, v163, v166, v169, v172, v175, v178, m16_, (by rw [ha.out]; exact putSel_upk 5 hb_ rfl rfl rfl), Q_HO147, Q_HO150, Q_HO153, Q_HO157, Q_BK144, Q_HB, Q_HO161, Q_HO164, Q_HO167, Q_HO170, fun h0_ _ => absurd ((hoff 12 (by kernel_rfl)).symm.trans h0_) (by decide), Q_HO176, fun h0_ => absurd ((hoff 15 (by kernel_rfl)).symm.trans h0_) (by decide), fun h0_ => absurd ((hoff 16 (by kernel_rfl)).symm.trans h0_) (by decide)⟩
                                    refine steps_cons ?_ ?_
                                    · rintro b a w' ⟨v160, v163, v166, v169, v172, v175, v178, m16_, ha, Q_HO147, Q_HO150, Q_HO153, Q_HO157, Q_BK144, Q_HB, Q_HO161, Q_HO164, Q_HO167, Q_HO170, Q_HO173, Q_HO176, Q_HO179, Q_X16_⟩ hb_ hon hoff
                                      refine ⟨_, rfl, fun K hK => ?_⟩
                                      have e54 : a.tmps[54]? = some (.int .i64 ji13) := by rw [ha]; exact putSel_on (e := (11, 54, .int .i64 ji13)) 5 rfl rfl (hon 11 (by kernel_rfl)) rfl
                                      replace ha := Aside0.mk ha
                                      have HO147 := Aside0.mk Q_HO147
                                      have HO150 := Aside0.mk Q_HO150
                                      have HO153 := Aside0.mk Q_HO153
                                      have HO157 := Aside0.mk Q_HO157
                                      have BK144 := Aside0.mk Q_BK144
                                      have HB := Aside0.mk Q_HB
                                      refine Kd.R_make_step Kd.string _ 9 (by rfl) (N := 55) rfl 24 _ _ rfl ji13 (by first | rfl | exact congrArg (Value.int .i64) hji13 | exact eval_of (by assumption)) (by first | rfl | exact congrArg (Value.int .i64) hji13 | exact eval_of (by assumption)) Try.underlying24 (.string ⟨#[]⟩) 16 info9 rfl (by decide) (by omega) (⟨#[]⟩ : ByteArray) (ok := fun _ => True) (okp := fun _ => True) rfl (fun _ hk => hk) trivial (of_decide_eq_true (by first | (with_reducible assumption) | assumption)) (Nat.le_trans (Nat.mul_le_mul_right _ (of_decide_eq_true (by first | (with_reducible assumption) | assumption) : ji13.toNat ≤ 17592186044416)) (by omega)) (Below.refl _ _) (Nat.le_refl _) ?_
                                      intro v172 w44 ho45 hb hg_ hnew_
                                      clear hg_ hnew_
                                      (first | rw [← Ny171.out] at ho45 | (simp only [Int.reduceToNat] at ho45; rw [← Ny171.out] at ho45))
                                      have n0_ := Aside0.mk (Kd.R_below (by (with_reducible repeat (first | apply Kd.R_alloc | apply Kd.R_drewN | apply Kd.R_drew)); exact HO147.out) hb)
                                      have n1_ := Aside0.mk (Kd.R_below (by (with_reducible repeat (first | apply Kd.R_alloc | apply Kd.R_drewN | apply Kd.R_drew)); exact HO150.out) hb)
                                      have n2_ := Aside0.mk (Kd.R_elder' (by (with_reducible repeat (first | apply Kd.R_alloc | apply Kd.R_drewN | apply Kd.R_drew)); exact HO153.out) (Kd.R_base ho45) hb)
                                      have n3_ := Aside0.mk (Kd.R_elder' (by (with_reducible repeat (first | apply Kd.R_alloc | apply Kd.R_drewN | apply Kd.R_drew)); exact HO157.out) (Kd.R_base ho45) hb)
                                      have n4_ := Aside0.mk (Kd.R_lower (Kd.R_new' (Kd.R_new' ho45 (Kd.R_lt (by (with_reducible repeat (first | apply Kd.R_alloc | apply Kd.R_drewN | apply Kd.R_drew)); exact HO153.out))) (Kd.R_lt (by (with_reducible repeat (first | apply Kd.R_alloc | apply Kd.R_drewN | apply Kd.R_drew)); exact HO157.out))) (below_size (by repeat (first | (with_reducible first | exact HB.out | apply below_alloc | apply pw_below_drewN | apply below_drew1 | refine below_set ?_ GE144.out) | exact HB.out))))
                                      have n5_ := Aside0.mk (blk_below (g := gb144) (o := .cells #[.int .i64 1, .int .i64 0] 23 (0, 0)) (by (with_reducible repeat (first | refine blk_drewN ?_ _ | refine blk_drew ?_ | refine blk_alloc ?_ _)); exact BK144.out) hb)
                                      have n6_ := Aside0.mk (below_step (by repeat (first | (with_reducible first | exact HB.out | apply below_alloc | apply pw_below_drewN | apply below_drew1 | refine below_set ?_ GE144.out) | exact HB.out)) hb)
                                      have z_HO161 := fun (h0_ : b 1 = true) (h1_ : b 15 = false) => (show Kd.R Kd.string 9 w44 w.heap.size (fun k_ => some k_ ≠ (v152 : Value).ownBlock ∧ some k_ ≠ (v156 : Value).ownBlock) v160 y159 from by first | exact (Kd.R_elder' (by (with_reducible repeat (first | apply Kd.R_alloc | apply Kd.R_drewN | apply Kd.R_drew)); exact (Q_HO161 h0_ h1_)) (Kd.R_base ho45) hb) | exact Kd.R_mono (Kd.R_elder' (by (with_reducible repeat (first | apply Kd.R_alloc | apply Kd.R_drewN | apply Kd.R_drew)); exact (Q_HO161 h0_ h1_)) (Kd.R_base ho45) hb) (fun _ h_ => by first | trivial | exact h_ | exact h_.1))
                                      have z_HO164 := fun (h0_ : b 3 = true) (h1_ : b 15 = false) => (show Kd.R Kd.string 9 w44 w.heap.size (fun k_ => some k_ ≠ (v152 : Value).ownBlock ∧ some k_ ≠ (v156 : Value).ownBlock) v163 y162 from by first | exact (Kd.R_elder' (by (with_reducible repeat (first | apply Kd.R_alloc | apply Kd.R_drewN | apply Kd.R_drew)); exact (Q_HO164 h0_ h1_)) (Kd.R_base ho45) hb) | exact Kd.R_mono (Kd.R_elder' (by (with_reducible repeat (first | apply Kd.R_alloc | apply Kd.R_drewN | apply Kd.R_drew)); exact (Q_HO164 h0_ h1_)) (Kd.R_base ho45) hb) (fun _ h_ => by first | trivial | exact h_ | exact h_.1))
                                      have z_HO167 := fun (h0_ : b 6 = true) (h1_ : b 15 = false) => (show Kd.R Kd.string 9 w44 w.heap.size (fun k_ => some k_ ≠ (v152 : Value).ownBlock ∧ some k_ ≠ (v156 : Value).ownBlock) v166 y165 from by first | exact (Kd.R_elder' (by (with_reducible repeat (first | apply Kd.R_alloc | apply Kd.R_drewN | apply Kd.R_drew)); exact (Q_HO167 h0_ h1_)) (Kd.R_base ho45) hb) | exact Kd.R_mono (Kd.R_elder' (by (with_reducible repeat (first | apply Kd.R_alloc | apply Kd.R_drewN | apply Kd.R_drew)); exact (Q_HO167 h0_ h1_)) (Kd.R_base ho45) hb) (fun _ h_ => by first | trivial | exact h_ | exact h_.1))
                                      have z_HO170 := fun (h0_ : b 9 = true) (h1_ : b 15 = false) => (show Kd.R Kd.string 9 w44 w.heap.size (fun k_ => some k_ ≠ (v152 : Value).ownBlock ∧ some k_ ≠ (v156 : Value).ownBlock) v169 y168 from by first | exact (Kd.R_elder' (by (with_reducible repeat (first | apply Kd.R_alloc | apply Kd.R_drewN | apply Kd.R_drew)); exact (Q_HO170 h0_ h1_)) (Kd.R_base ho45) hb) | exact Kd.R_mono (Kd.R_elder' (by (with_reducible repeat (first | apply Kd.R_alloc | apply Kd.R_drewN | apply Kd.R_drew)); exact (Q_HO170 h0_ h1_)) (Kd.R_base ho45) hb) (fun _ h_ => by first | trivial | exact h_ | exact h_.1))
                                      have z_HO176 := fun (h0_ : b 14 = true) (h1_ : b 15 = false) => (show Kd.R Kd.string 9 w44 w.heap.size (fun k_ => some k_ ≠ (v152 : Value).ownBlock ∧ some k_ ≠ (v156 : Value).ownBlock) v175 y174 from by first | exact (Kd.R_elder' (by (with_reducible repeat (first | apply Kd.R_alloc | apply Kd.R_drewN | apply Kd.R_drew)); exact (Q_HO176 h0_ h1_)) (Kd.R_base ho45) hb) | exact Kd.R_mono (Kd.R_elder' (by (with_reducible repeat (first | apply Kd.R_alloc | apply Kd.R_drewN | apply Kd.R_drew)); exact (Q_HO176 h0_ h1_)) (Kd.R_base ho45) hb) (fun _ h_ => by first | trivial | exact h_ | exact h_.1))
                                      clear HO147
                                      clear HO150
                                      clear HO153
                                      clear HO157
                                      clear BK144
                                      clear HB
                                      have HO147 := n0_
                                      have HO150 := n1_
                                      have HO153 := n2_
                                      have HO157 := n3_
                                      have HO173 := n4_
                                      have BK144 := n5_
                                      have HB := n6_
                                      clear n0_ n1_ n2_ n3_ n4_ n5_ n6_
                                      clear hb ho45
                                      refine hK.out _ _ ⟨v160, v163, v166, v169, v172, v175, v178, m16_, (by rw [ha.out]; exact putSel_upk 6 hb_ rfl rfl rfl), (by (with_reducible repeat (first | apply Kd.R_alloc | apply Kd.R_drewN | apply Kd.R_drew)); exact Kd.R_mono HO147.out (fun _ hk => by first | exact hk.2 | exact hk | exact hk.1 | exact hk.2 | simp_all)), (by (with_reducible repeat (first | apply Kd.R_alloc | apply Kd.R_drewN | apply Kd.R_drew)); exact Kd.R_mono HO150.out (fun _ hk => by first | exact hk.2 | exact hk | exact hk.1 | exact hk.2 | simp_all)), (by (with_reducible repeat (first | apply Kd.R_alloc | apply Kd.R_drewN | apply Kd.R_drew)); exact Kd.R_mono HO153.out (fun _ hk => by first | exact ⟨hk.1.2, hk.2⟩ | exact hk | exact hk.1 | exact hk.2 | simp_all)), (by (with_reducible repeat (first | apply Kd.R_alloc | apply Kd.R_drewN | apply Kd.R_drew)); exact Kd.R_mono HO157.out (fun _ hk => by first | exact ⟨hk.1.2, hk.2⟩ | exact hk | exact hk.1 | exact hk.2 | simp_all)), (by (with_reducible repeat (first | refine blk_drewN ?_ _ | refine blk_drew ?_ | refine blk_alloc ?_ _)); exact BK144.out), (by repeat (first | (with_reducible first | exact HB.out | apply below_alloc | apply pw_below_drewN | apply below_drew1 | refine below_set ?_ GE144.out) | exact HB.out)), z_HO161, z_HO164, z_HO167, z_HO170, fun _ _ => (by (with_reducible repeat (first | apply Kd.R_alloc | apply Kd.R_drewN | apply Kd.R_drew)); exact Kd.R_mono HO173.out (fun _ hk => by first | exact ⟨hk.1.2, hk.2⟩ | exact hk | exact hk.1 | exact hk.2 | simp_all)), z_HO176, fun h0_ => absurd ((hoff 15 (by kernel_rfl)).symm.trans h0_) (by decide), fun h0_ => absurd ((hoff 16 (by kernel_rfl)).symm.trans h0_) (by decide)⟩
                                    refine steps_cons ?_ ?_
                                    · rintro b a w' ⟨v160, v163, v166, v169, v172, v175, v178, m16_, ha, Q_HO147, Q_HO150, Q_HO153, Q_HO157, Q_BK144, Q_HB, Q_HO161, Q_HO164, Q_HO167, Q_HO170, Q_HO173, Q_HO176, Q_HO179, Q_X16_⟩ hb_ hon hoff
                                      refine ⟨_, rfl, fun K hK => ?_⟩
                                      have e56 : a.tmps[56]? = some (.string (strOfNums y145)) := by rw [ha]; exact (putSel_off rfl).trans rfl
                                      replace ha := Aside0.mk ha
                                      have HO147 := Aside0.mk Q_HO147
                                      have HO150 := Aside0.mk Q_HO150
                                      have HO153 := Aside0.mk Q_HO153
                                      have HO157 := Aside0.mk Q_HO157
                                      have BK144 := Aside0.mk Q_BK144
                                      have HB := Aside0.mk Q_HB
                                      refine Kd.R_lit_step Kd.string _ 9 ?hg (N := 57) ?hd (xs := ([strOfNums y145] : List ByteArray)) (inner := [.string (strOfNums y145)]) (ok := fun _ => True) (okp := fun _ => True) ?hr ?hp (fun _ hk => hk) trivial (Below.refl _ _) (Nat.le_refl _) (by simp) ?_; (case hd => rfl); (case hg => rfl); (case hr => first | (go_simp; done) | (go_simp; rfl)); (case hp => exact (Reps.one (show Kd.M Kd.string _ _ _ (strOfNums y145) [.string (strOfNums y145)] from rfl) (Reps.none _ _)))
                                      intro v175 w44 ho45 hb hg_ hnew_
                                      clear hg_ hnew_
                                      (first | rw [← Ny174.out] at ho45 | (simp only [Int.reduceToNat] at ho45; rw [← Ny174.out] at ho45))
                                      have n0_ := Aside0.mk (Kd.R_below (by (with_reducible repeat (first | apply Kd.R_alloc | apply Kd.R_drewN | apply Kd.R_drew)); exact HO147.out) hb)
                                      have n1_ := Aside0.mk (Kd.R_below (by (with_reducible repeat (first | apply Kd.R_alloc | apply Kd.R_drewN | apply Kd.R_drew)); exact HO150.out) hb)
                                      have n2_ := Aside0.mk (Kd.R_elder' (by (with_reducible repeat (first | apply Kd.R_alloc | apply Kd.R_drewN | apply Kd.R_drew)); exact HO153.out) (Kd.R_base ho45) hb)
                                      have n3_ := Aside0.mk (Kd.R_elder' (by (with_reducible repeat (first | apply Kd.R_alloc | apply Kd.R_drewN | apply Kd.R_drew)); exact HO157.out) (Kd.R_base ho45) hb)
                                      have n4_ := Aside0.mk (Kd.R_lower (Kd.R_new' (Kd.R_new' ho45 (Kd.R_lt (by (with_reducible repeat (first | apply Kd.R_alloc | apply Kd.R_drewN | apply Kd.R_drew)); exact HO153.out))) (Kd.R_lt (by (with_reducible repeat (first | apply Kd.R_alloc | apply Kd.R_drewN | apply Kd.R_drew)); exact HO157.out))) (below_size (by repeat (first | (with_reducible first | exact HB.out | apply below_alloc | apply pw_below_drewN | apply below_drew1 | refine below_set ?_ GE144.out) | exact HB.out))))
                                      have n5_ := Aside0.mk (blk_below (g := gb144) (o := .cells #[.int .i64 1, .int .i64 0] 23 (0, 0)) (by (with_reducible repeat (first | refine blk_drewN ?_ _ | refine blk_drew ?_ | refine blk_alloc ?_ _)); exact BK144.out) hb)
                                      have n6_ := Aside0.mk (below_step (by repeat (first | (with_reducible first | exact HB.out | apply below_alloc | apply pw_below_drewN | apply below_drew1 | refine below_set ?_ GE144.out) | exact HB.out)) hb)
                                      have z_HO161 := fun (h0_ : b 1 = true) (h1_ : b 15 = false) => (show Kd.R Kd.string 9 w44 w.heap.size (fun k_ => some k_ ≠ (v152 : Value).ownBlock ∧ some k_ ≠ (v156 : Value).ownBlock) v160 y159 from by first | exact (Kd.R_elder' (by (with_reducible repeat (first | apply Kd.R_alloc | apply Kd.R_drewN | apply Kd.R_drew)); exact (Q_HO161 h0_ h1_)) (Kd.R_base ho45) hb) | exact Kd.R_mono (Kd.R_elder' (by (with_reducible repeat (first | apply Kd.R_alloc | apply Kd.R_drewN | apply Kd.R_drew)); exact (Q_HO161 h0_ h1_)) (Kd.R_base ho45) hb) (fun _ h_ => by first | trivial | exact h_ | exact h_.1))
                                      have z_HO164 := fun (h0_ : b 3 = true) (h1_ : b 15 = false) => (show Kd.R Kd.string 9 w44 w.heap.size (fun k_ => some k_ ≠ (v152 : Value).ownBlock ∧ some k_ ≠ (v156 : Value).ownBlock) v163 y162 from by first | exact (Kd.R_elder' (by (with_reducible repeat (first | apply Kd.R_alloc | apply Kd.R_drewN | apply Kd.R_drew)); exact (Q_HO164 h0_ h1_)) (Kd.R_base ho45) hb) | exact Kd.R_mono (Kd.R_elder' (by (with_reducible repeat (first | apply Kd.R_alloc | apply Kd.R_drewN | apply Kd.R_drew)); exact (Q_HO164 h0_ h1_)) (Kd.R_base ho45) hb) (fun _ h_ => by first | trivial | exact h_ | exact h_.1))
                                      have z_HO167 := fun (h0_ : b 6 = true) (h1_ : b 15 = false) => (show Kd.R Kd.string 9 w44 w.heap.size (fun k_ => some k_ ≠ (v152 : Value).ownBlock ∧ some k_ ≠ (v156 : Value).ownBlock) v166 y165 from by first | exact (Kd.R_elder' (by (with_reducible repeat (first | apply Kd.R_alloc | apply Kd.R_drewN | apply Kd.R_drew)); exact (Q_HO167 h0_ h1_)) (Kd.R_base ho45) hb) | exact Kd.R_mono (Kd.R_elder' (by (with_reducible repeat (first | apply Kd.R_alloc | apply Kd.R_drewN | apply Kd.R_drew)); exact (Q_HO167 h0_ h1_)) (Kd.R_base ho45) hb) (fun _ h_ => by first | trivial | exact h_ | exact h_.1))
                                      have z_HO170 := fun (h0_ : b 9 = true) (h1_ : b 15 = false) => (show Kd.R Kd.string 9 w44 w.heap.size (fun k_ => some k_ ≠ (v152 : Value).ownBlock ∧ some k_ ≠ (v156 : Value).ownBlock) v169 y168 from by first | exact (Kd.R_elder' (by (with_reducible repeat (first | apply Kd.R_alloc | apply Kd.R_drewN | apply Kd.R_drew)); exact (Q_HO170 h0_ h1_)) (Kd.R_base ho45) hb) | exact Kd.R_mono (Kd.R_elder' (by (with_reducible repeat (first | apply Kd.R_alloc | apply Kd.R_drewN | apply Kd.R_drew)); exact (Q_HO170 h0_ h1_)) (Kd.R_base ho45) hb) (fun _ h_ => by first | trivial | exact h_ | exact h_.1))
                                      have z_HO173 := fun (h0_ : b 12 = true) (h1_ : b 15 = false) => (show Kd.R Kd.string 9 w44 w.heap.size (fun k_ => some k_ ≠ (v152 : Value).ownBlock ∧ some k_ ≠ (v156 : Value).ownBlock) v172 y171 from by first | exact (Kd.R_elder' (by (with_reducible repeat (first | apply Kd.R_alloc | apply Kd.R_drewN | apply Kd.R_drew)); exact (Q_HO173 h0_ h1_)) (Kd.R_base ho45) hb) | exact Kd.R_mono (Kd.R_elder' (by (with_reducible repeat (first | apply Kd.R_alloc | apply Kd.R_drewN | apply Kd.R_drew)); exact (Q_HO173 h0_ h1_)) (Kd.R_base ho45) hb) (fun _ h_ => by first | trivial | exact h_ | exact h_.1))
                                      clear HO147
                                      clear HO150
                                      clear HO153
                                      clear HO157
                                      clear BK144
                                      clear HB
                                      have HO147 := n0_
                                      have HO150 := n1_
                                      have HO153 := n2_
                                      have HO157 := n3_
                                      have HO176 := n4_
                                      have BK144 := n5_
                                      have HB := n6_
                                      clear n0_ n1_ n2_ n3_ n4_ n5_ n6_
                                      clear hb ho45
                                      refine hK.out _ _ ⟨v160, v163, v166, v169, v172, v175, v178, m16_, (by rw [ha.out]; exact putSel_upk 7 hb_ rfl rfl rfl), (by (with_reducible repeat (first | apply Kd.R_alloc | apply Kd.R_drewN | apply Kd.R_drew)); exact Kd.R_mono HO147.out (fun _ hk => by first | exact hk.2 | exact hk | exact hk.1 | exact hk.2 | simp_all)), (by (with_reducible repeat (first | apply Kd.R_alloc | apply Kd.R_drewN | apply Kd.R_drew)); exact Kd.R_mono HO150.out (fun _ hk => by first | exact hk.2 | exact hk | exact hk.1 | exact hk.2 | simp_all)), (by (with_reducible repeat (first | apply Kd.R_alloc | apply Kd.R_drewN | apply Kd.R_drew)); exact Kd.R_mono HO153.out (fun _ hk => by first | exact ⟨hk.1.2, hk.2⟩ | exact hk | exact hk.1 | exact hk.2 | simp_all)), (by (with_reducible repeat (first | apply Kd.R_alloc | apply Kd.R_drewN | apply Kd.R_drew)); exact Kd.R_mono HO157.out (fun _ hk => by first | exact ⟨hk.1.2, hk.2⟩ | exact hk | exact hk.1 | exact hk.2 | simp_all)), (by (with_reducible repeat (first | refine blk_drewN ?_ _ | refine blk_drew ?_ | refine blk_alloc ?_ _)); exact BK144.out), (by repeat (first | (with_reducible first | exact HB.out | apply below_alloc | apply pw_below_drewN | apply below_drew1 | refine below_set ?_ GE144.out) | exact HB.out)), z_HO161, z_HO164, z_HO167, z_HO170, z_HO173, fun _ _ => (by (with_reducible repeat (first | apply Kd.R_alloc | apply Kd.R_drewN | apply Kd.R_drew)); exact Kd.R_mono HO176.out (fun _ hk => by first | exact ⟨hk.1.2, hk.2⟩ | exact hk | exact hk.1 | exact hk.2 | simp_all)), fun h0_ => absurd ((hoff 15 (by kernel_rfl)).symm.trans h0_) (by decide), fun h0_ => absurd ((hoff 16 (by kernel_rfl)).symm.trans h0_) (by decide)⟩
                                    refine steps_cons ?_ ?_
                                    · rintro b a w' ⟨v160, v163, v166, v169, v172, v175, v178, m16_, ha, Q_HO147, Q_HO150, Q_HO153, Q_HO157, Q_BK144, Q_HB, Q_HO161, Q_HO164, Q_HO167, Q_HO170, Q_HO173, Q_HO176, Q_HO179, Q_X16_⟩ hb_ hon hoff
                                      refine ⟨_, rfl, fun K hK => ?_⟩
                                      have e44 : a.tmps[44]? = some (v160) := by rw [ha]; exact putSel_on (e := (1, 44, v160)) 0 rfl rfl (hon 1 (by kernel_rfl)) rfl
                                      have e46 : a.tmps[46]? = some (v163) := by rw [ha]; exact putSel_on (e := (3, 46, v163)) 1 rfl rfl (hon 3 (by kernel_rfl)) rfl
                                      have e49 : a.tmps[49]? = some (v166) := by rw [ha]; exact putSel_on (e := (6, 49, v166)) 2 rfl rfl (hon 6 (by kernel_rfl)) rfl
                                      have e52 : a.tmps[52]? = some (v169) := by rw [ha]; exact putSel_on (e := (9, 52, v169)) 4 rfl rfl (hon 9 (by kernel_rfl)) rfl
                                      have e55 : a.tmps[55]? = some (v172) := by rw [ha]; exact putSel_on (e := (12, 55, v172)) 6 rfl rfl (hon 12 (by kernel_rfl)) rfl
                                      have e57 : a.tmps[57]? = some (v175) := by rw [ha]; exact putSel_on (e := (14, 57, v175)) 7 rfl rfl (hon 14 (by kernel_rfl)) rfl
                                      replace ha := Aside0.mk ha
                                      have HO147 := Aside0.mk Q_HO147
                                      have HO150 := Aside0.mk Q_HO150
                                      have HO153 := Aside0.mk Q_HO153
                                      have HO157 := Aside0.mk Q_HO157
                                      have BK144 := Aside0.mk Q_BK144
                                      have HB := Aside0.mk Q_HB
                                      have HO161 := Aside0.mk (Q_HO161 (hon 1 (by kernel_rfl)) hb_)
                                      have HO164 := Aside0.mk (Q_HO164 (hon 3 (by kernel_rfl)) hb_)
                                      have HO167 := Aside0.mk (Q_HO167 (hon 6 (by kernel_rfl)) hb_)
                                      have HO170 := Aside0.mk (Q_HO170 (hon 9 (by kernel_rfl)) hb_)
                                      have HO173 := Aside0.mk (Q_HO173 (hon 12 (by kernel_rfl)) hb_)
                                      have HO176 := Aside0.mk (Q_HO176 (hon 14 (by kernel_rfl)) hb_)
                                      obtain ⟨Ao57, co57, eo57⟩ := Kd.R_slice HO161.out
                                      (first | subst eo57 | (injection eo57 with f1_ f2_ f3_; have f4_ := f1_.symm; have f5_ := f3_.symm; clear f1_ f2_ f3_; subst f4_; subst f5_))
                                      obtain ⟨Ao58, co58, eo58⟩ := Kd.R_slice HO164.out
                                      (first | subst eo58 | (injection eo58 with f1_ f2_ f3_; have f4_ := f1_.symm; have f5_ := f3_.symm; clear f1_ f2_ f3_; subst f4_; subst f5_))
                                      obtain ⟨Ao59, co59, eo59⟩ := Kd.R_slice HO167.out
                                      (first | subst eo59 | (injection eo59 with f1_ f2_ f3_; have f4_ := f1_.symm; have f5_ := f3_.symm; clear f1_ f2_ f3_; subst f4_; subst f5_))
                                      obtain ⟨Ao60, co60, eo60⟩ := Kd.R_slice HO170.out
                                      (first | subst eo60 | (injection eo60 with f1_ f2_ f3_; have f4_ := f1_.symm; have f5_ := f3_.symm; clear f1_ f2_ f3_; subst f4_; subst f5_))
                                      obtain ⟨Ao61, co61, eo61⟩ := Kd.R_slice HO173.out
                                      (first | subst eo61 | (injection eo61 with f1_ f2_ f3_; have f4_ := f1_.symm; have f5_ := f3_.symm; clear f1_ f2_ f3_; subst f4_; subst f5_))
                                      obtain ⟨Ao62, co62, eo62⟩ := Kd.R_slice HO176.out
                                      (first | subst eo62 | (injection eo62 with f1_ f2_ f3_; have f4_ := f1_.symm; have f5_ := f3_.symm; clear f1_ f2_ f3_; subst f4_; subst f5_))
                                      refine Kd.N_lit_step (Kd.slice 9 Kd.string) _ 24 ?hg (N' := 58) ?hd (xs := ([[], y159, y162, y165, y168, y171, y174] : List (List ByteArray))) (inner := [.slice none 0 0, .slice Ao57 y159.length co57, .slice Ao58 y162.length co58, .slice Ao59 y165.length co59, .slice Ao60 y168.length co60, .slice Ao61 y171.length co61, .slice Ao62 y174.length co62]) (ok := (fun k_ => some k_ ≠ (v146 : Value).ownBlock ∧ some k_ ≠ (v149 : Value).ownBlock ∧ some k_ ≠ (v152 : Value).ownBlock ∧ some k_ ≠ (v156 : Value).ownBlock ∧ k_ ≠ gb144)) (okp := (fun k_ => some k_ ≠ (v146 : Value).ownBlock ∧ some k_ ≠ (v149 : Value).ownBlock ∧ some k_ ≠ (v152 : Value).ownBlock ∧ some k_ ≠ (v156 : Value).ownBlock ∧ k_ ≠ gb144)) ?hr ?hp (fun _ hk => hk) ((show ∀ k_, w'.heap.size ≤ k_ → (fun k_ => some k_ ≠ (v146 : Value).ownBlock ∧ some k_ ≠ (v149 : Value).ownBlock ∧ some k_ ≠ (v152 : Value).ownBlock ∧ some k_ ≠ (v156 : Value).ownBlock ∧ k_ ≠ gb144) k_ from fun k_ hk => ⟨Kd.fresh' (Kd.R_lt (by (with_reducible repeat (first | apply Kd.R_alloc | apply Kd.R_drewN | apply Kd.R_drew)); exact HO147.out)) k_ hk, Kd.fresh' (Kd.R_lt (by (with_reducible repeat (first | apply Kd.R_alloc | apply Kd.R_drewN | apply Kd.R_drew)); exact HO150.out)) k_ hk, Kd.fresh' (Kd.R_lt (by (with_reducible repeat (first | apply Kd.R_alloc | apply Kd.R_drewN | apply Kd.R_drew)); exact HO153.out)) k_ hk, Kd.fresh' (Kd.R_lt (by (with_reducible repeat (first | apply Kd.R_alloc | apply Kd.R_drewN | apply Kd.R_drew)); exact HO157.out)) k_ hk, Kd.freshB (g := gb144) (o := .cells #[.int .i64 1, .int .i64 0] 23 (0, 0)) (by (with_reducible repeat (first | refine blk_drewN ?_ _ | refine blk_drew ?_ | refine blk_alloc ?_ _)); exact BK144.out) k_ hk⟩) _ (Nat.le_refl _)) (Below.refl _ _) (Nat.le_refl _) (by simp) ?_; (case hd => rfl); (case hg => rfl); (case hr => first | (go_simp; done) | (go_simp; rfl)); (case hp => exact (Reps.one (show Kd.FK (Kd.slice 9 Kd.string) _ _ [] [.slice none 0 0] from (Kd.FK_slice_mk (Nat.le_refl _) (Kd.F_nil _ _ _))) (Reps.one (show Kd.FK (Kd.slice 9 Kd.string) _ _ y159 [.slice Ao57 y159.length co57] from (Kd.FK_slice_mk (Kd.R_reads' (Kd.R_mono (ok' := (fun k_ => some k_ ≠ (v146 : Value).ownBlock ∧ some k_ ≠ (v149 : Value).ownBlock ∧ some k_ ≠ (v152 : Value).ownBlock ∧ some k_ ≠ (v156 : Value).ownBlock ∧ k_ ≠ gb144)) (Kd.R_types (Kd.R_apart' (Kd.R_apart' (HO161.out) (Kd.R_typed HO147.out) (by decide)) (Kd.R_typed HO150.out) (by decide)) BK144.out (by decide)) (fun k_ hk => by first | exact ⟨hk.1.1.2, ⟨hk.1.2, ⟨hk.1.1.1.1, ⟨hk.1.1.1.2.1, hk.2⟩⟩⟩⟩ | simp_all))).2.1 (Kd.R_F (Kd.R_mono (ok' := (fun k_ => some k_ ≠ (v146 : Value).ownBlock ∧ some k_ ≠ (v149 : Value).ownBlock ∧ some k_ ≠ (v152 : Value).ownBlock ∧ some k_ ≠ (v156 : Value).ownBlock ∧ k_ ≠ gb144)) (Kd.R_types (Kd.R_apart' (Kd.R_apart' (HO161.out) (Kd.R_typed HO147.out) (by decide)) (Kd.R_typed HO150.out) (by decide)) BK144.out (by decide)) (fun k_ hk => by first | exact ⟨hk.1.1.2, ⟨hk.1.2, ⟨hk.1.1.1.1, ⟨hk.1.1.1.2.1, hk.2⟩⟩⟩⟩ | simp_all))))) (Reps.one (show Kd.FK (Kd.slice 9 Kd.string) _ _ y162 [.slice Ao58 y162.length co58] from (Kd.FK_slice_mk (Kd.R_reads' (Kd.R_mono (ok' := (fun k_ => some k_ ≠ (v146 : Value).ownBlock ∧ some k_ ≠ (v149 : Value).ownBlock ∧ some k_ ≠ (v152 : Value).ownBlock ∧ some k_ ≠ (v156 : Value).ownBlock ∧ k_ ≠ gb144)) (Kd.R_types (Kd.R_apart' (Kd.R_apart' (HO164.out) (Kd.R_typed HO147.out) (by decide)) (Kd.R_typed HO150.out) (by decide)) BK144.out (by decide)) (fun k_ hk => by first | exact ⟨hk.1.1.2, ⟨hk.1.2, ⟨hk.1.1.1.1, ⟨hk.1.1.1.2.1, hk.2⟩⟩⟩⟩ | simp_all))).2.1 (Kd.R_F (Kd.R_mono (ok' := (fun k_ => some k_ ≠ (v146 : Value).ownBlock ∧ some k_ ≠ (v149 : Value).ownBlock ∧ some k_ ≠ (v152 : Value).ownBlock ∧ some k_ ≠ (v156 : Value).ownBlock ∧ k_ ≠ gb144)) (Kd.R_types (Kd.R_apart' (Kd.R_apart' (HO164.out) (Kd.R_typed HO147.out) (by decide)) (Kd.R_typed HO150.out) (by decide)) BK144.out (by decide)) (fun k_ hk => by first | exact ⟨hk.1.1.2, ⟨hk.1.2, ⟨hk.1.1.1.1, ⟨hk.1.1.1.2.1, hk.2⟩⟩⟩⟩ | simp_all))))) (Reps.one (show Kd.FK (Kd.slice 9 Kd.string) _ _ y165 [.slice Ao59 y165.length co59] from (Kd.FK_slice_mk (Kd.R_reads' (Kd.R_mono (ok' := (fun k_ => some k_ ≠ (v146 : Value).ownBlock ∧ some k_ ≠ (v149 : Value).ownBlock ∧ some k_ ≠ (v152 : Value).ownBlock ∧ some k_ ≠ (v156 : Value).ownBlock ∧ k_ ≠ gb144)) (Kd.R_types (Kd.R_apart' (Kd.R_apart' (HO167.out) (Kd.R_typed HO147.out) (by decide)) (Kd.R_typed HO150.out) (by decide)) BK144.out (by decide)) (fun k_ hk => by first | exact ⟨hk.1.1.2, ⟨hk.1.2, ⟨hk.1.1.1.1, ⟨hk.1.1.1.2.1, hk.2⟩⟩⟩⟩ | simp_all))).2.1 (Kd.R_F (Kd.R_mono (ok' := (fun k_ => some k_ ≠ (v146 : Value).ownBlock ∧ some k_ ≠ (v149 : Value).ownBlock ∧ some k_ ≠ (v152 : Value).ownBlock ∧ some k_ ≠ (v156 : Value).ownBlock ∧ k_ ≠ gb144)) (Kd.R_types (Kd.R_apart' (Kd.R_apart' (HO167.out) (Kd.R_typed HO147.out) (by decide)) (Kd.R_typed HO150.out) (by decide)) BK144.out (by decide)) (fun k_ hk => by first | exact ⟨hk.1.1.2, ⟨hk.1.2, ⟨hk.1.1.1.1, ⟨hk.1.1.1.2.1, hk.2⟩⟩⟩⟩ | simp_all))))) (Reps.one (show Kd.FK (Kd.slice 9 Kd.string) _ _ y168 [.slice Ao60 y168.length co60] from (Kd.FK_slice_mk (Kd.R_reads' (Kd.R_mono (ok' := (fun k_ => some k_ ≠ (v146 : Value).ownBlock ∧ some k_ ≠ (v149 : Value).ownBlock ∧ some k_ ≠ (v152 : Value).ownBlock ∧ some k_ ≠ (v156 : Value).ownBlock ∧ k_ ≠ gb144)) (Kd.R_types (Kd.R_apart' (Kd.R_apart' (HO170.out) (Kd.R_typed HO147.out) (by decide)) (Kd.R_typed HO150.out) (by decide)) BK144.out (by decide)) (fun k_ hk => by first | exact ⟨hk.1.1.2, ⟨hk.1.2, ⟨hk.1.1.1.1, ⟨hk.1.1.1.2.1, hk.2⟩⟩⟩⟩ | simp_all))).2.1 (Kd.R_F (Kd.R_mono (ok' := (fun k_ => some k_ ≠ (v146 : Value).ownBlock ∧ some k_ ≠ (v149 : Value).ownBlock ∧ some k_ ≠ (v152 : Value).ownBlock ∧ some k_ ≠ (v156 : Value).ownBlock ∧ k_ ≠ gb144)) (Kd.R_types (Kd.R_apart' (Kd.R_apart' (HO170.out) (Kd.R_typed HO147.out) (by decide)) (Kd.R_typed HO150.out) (by decide)) BK144.out (by decide)) (fun k_ hk => by first | exact ⟨hk.1.1.2, ⟨hk.1.2, ⟨hk.1.1.1.1, ⟨hk.1.1.1.2.1, hk.2⟩⟩⟩⟩ | simp_all))))) (Reps.one (show Kd.FK (Kd.slice 9 Kd.string) _ _ y171 [.slice Ao61 y171.length co61] from (Kd.FK_slice_mk (Kd.R_reads' (Kd.R_mono (ok' := (fun k_ => some k_ ≠ (v146 : Value).ownBlock ∧ some k_ ≠ (v149 : Value).ownBlock ∧ some k_ ≠ (v152 : Value).ownBlock ∧ some k_ ≠ (v156 : Value).ownBlock ∧ k_ ≠ gb144)) (Kd.R_types (Kd.R_apart' (Kd.R_apart' (HO173.out) (Kd.R_typed HO147.out) (by decide)) (Kd.R_typed HO150.out) (by decide)) BK144.out (by decide)) (fun k_ hk => by first | exact ⟨hk.1.1.2, ⟨hk.1.2, ⟨hk.1.1.1.1, ⟨hk.1.1.1.2.1, hk.2⟩⟩⟩⟩ | simp_all))).2.1 (Kd.R_F (Kd.R_mono (ok' := (fun k_ => some k_ ≠ (v146 : Value).ownBlock ∧ some k_ ≠ (v149 : Value).ownBlock ∧ some k_ ≠ (v152 : Value).ownBlock ∧ some k_ ≠ (v156 : Value).ownBlock ∧ k_ ≠ gb144)) (Kd.R_types (Kd.R_apart' (Kd.R_apart' (HO173.out) (Kd.R_typed HO147.out) (by decide)) (Kd.R_typed HO150.out) (by decide)) BK144.out (by decide)) (fun k_ hk => by first | exact ⟨hk.1.1.2, ⟨hk.1.2, ⟨hk.1.1.1.1, ⟨hk.1.1.1.2.1, hk.2⟩⟩⟩⟩ | simp_all))))) (Reps.one (show Kd.FK (Kd.slice 9 Kd.string) _ _ y174 [.slice Ao62 y174.length co62] from (Kd.FK_slice_mk (Kd.R_reads' (Kd.R_mono (ok' := (fun k_ => some k_ ≠ (v146 : Value).ownBlock ∧ some k_ ≠ (v149 : Value).ownBlock ∧ some k_ ≠ (v152 : Value).ownBlock ∧ some k_ ≠ (v156 : Value).ownBlock ∧ k_ ≠ gb144)) (Kd.R_types (Kd.R_apart' (Kd.R_apart' (HO176.out) (Kd.R_typed HO147.out) (by decide)) (Kd.R_typed HO150.out) (by decide)) BK144.out (by decide)) (fun k_ hk => by first | exact ⟨hk.1.1.2, ⟨hk.1.2, ⟨hk.1.1.1.1, ⟨hk.1.1.1.2.1, hk.2⟩⟩⟩⟩ | simp_all))).2.1 (Kd.R_F (Kd.R_mono (ok' := (fun k_ => some k_ ≠ (v146 : Value).ownBlock ∧ some k_ ≠ (v149 : Value).ownBlock ∧ some k_ ≠ (v152 : Value).ownBlock ∧ some k_ ≠ (v156 : Value).ownBlock ∧ k_ ≠ gb144)) (Kd.R_types (Kd.R_apart' (Kd.R_apart' (HO176.out) (Kd.R_typed HO147.out) (by decide)) (Kd.R_typed HO150.out) (by decide)) BK144.out (by decide)) (fun k_ hk => by first | exact ⟨hk.1.1.2, ⟨hk.1.2, ⟨hk.1.1.1.1, ⟨hk.1.1.1.2.1, hk.2⟩⟩⟩⟩ | simp_all))))) (Reps.none _ _)))))))))
                                      intro v178 w63 ho64 hb hg_ hnew_
                                      clear hg_ hnew_
                                      (first | rw [← Ny177.out] at ho64 | (simp only [Int.reduceToNat] at ho64; rw [← Ny177.out] at ho64))
                                      have n0_ := Aside0.mk (Kd.R_below (by (with_reducible repeat (first | apply Kd.R_alloc | apply Kd.R_drewN | apply Kd.R_drew)); exact HO147.out) hb)
                                      have n1_ := Aside0.mk (Kd.R_below (by (with_reducible repeat (first | apply Kd.R_alloc | apply Kd.R_drewN | apply Kd.R_drew)); exact HO150.out) hb)
                                      have n2_ := Aside0.mk (Kd.R_below (by (with_reducible repeat (first | apply Kd.R_alloc | apply Kd.R_drewN | apply Kd.R_drew)); exact HO153.out) hb)
                                      have n3_ := Aside0.mk (Kd.R_below (by (with_reducible repeat (first | apply Kd.R_alloc | apply Kd.R_drewN | apply Kd.R_drew)); exact HO157.out) hb)
                                      have n4_ := Aside0.mk (Kd.N_lower ho64 (below_size (by repeat (first | (with_reducible first | exact HB.out | apply below_alloc | apply pw_below_drewN | apply below_drew1 | refine below_set ?_ GE144.out) | exact HB.out))))
                                      have n5_ := Aside0.mk (blk_below (g := gb144) (o := .cells #[.int .i64 1, .int .i64 0] 23 (0, 0)) (by (with_reducible repeat (first | refine blk_drewN ?_ _ | refine blk_drew ?_ | refine blk_alloc ?_ _)); exact BK144.out) hb)
                                      have n6_ := Aside0.mk (below_step (by repeat (first | (with_reducible first | exact HB.out | apply below_alloc | apply pw_below_drewN | apply below_drew1 | refine below_set ?_ GE144.out) | exact HB.out)) hb)
                                      clear HO147
                                      clear HO150
                                      clear HO153
                                      clear HO157
                                      clear BK144
                                      clear HB
                                      clear HO161
                                      clear HO164
                                      clear HO167
                                      clear HO170
                                      clear HO173
                                      clear HO176
                                      have HO147 := n0_
                                      have HO150 := n1_
                                      have HO153 := n2_
                                      have HO157 := n3_
                                      have HO179 := n4_
                                      have BK144 := n5_
                                      have HB := n6_
                                      clear n0_ n1_ n2_ n3_ n4_ n5_ n6_
                                      clear hb ho64
                                      refine hK.out _ _ ⟨.slice Ao57 y159.length co57, .slice Ao58 y162.length co58, .slice Ao59 y165.length co59, .slice Ao60 y168.length co60, .slice Ao61 y171.length co61, .slice Ao62 y174.length co62, v178, m16_, (by rw [ha.out]; exact putSel_upk 8 hb_ rfl rfl rfl), (by (with_reducible repeat (first | apply Kd.R_alloc | apply Kd.R_drewN | apply Kd.R_drew)); exact HO147.out), (by (with_reducible repeat (first | apply Kd.R_alloc | apply Kd.R_drewN | apply Kd.R_drew)); exact HO150.out), (by (with_reducible repeat (first | apply Kd.R_alloc | apply Kd.R_drewN | apply Kd.R_drew)); exact Kd.R_mono HO153.out (fun _ hk => by first | exact hk.1 | exact hk | exact hk.1 | exact hk.2 | simp_all)), (by (with_reducible repeat (first | apply Kd.R_alloc | apply Kd.R_drewN | apply Kd.R_drew)); exact Kd.R_mono HO157.out (fun _ hk => by first | exact hk.1 | exact hk | exact hk.1 | exact hk.2 | simp_all)), (by (with_reducible repeat (first | refine blk_drewN ?_ _ | refine blk_drew ?_ | refine blk_alloc ?_ _)); exact BK144.out), (by repeat (first | (with_reducible first | exact HB.out | apply below_alloc | apply pw_below_drewN | apply below_drew1 | refine below_set ?_ GE144.out) | exact HB.out)), fun _ h1_ => absurd ((up_self b 15).symm.trans h1_) (by decide), fun _ h1_ => absurd ((up_self b 15).symm.trans h1_) (by decide), fun _ h1_ => absurd ((up_self b 15).symm.trans h1_) (by decide), fun _ h1_ => absurd ((up_self b 15).symm.trans h1_) (by decide), fun _ h1_ => absurd ((up_self b 15).symm.trans h1_) (by decide), fun _ h1_ => absurd ((up_self b 15).symm.trans h1_) (by decide), fun _ => (by (with_reducible repeat (first | apply Kd.N_alloc | apply Kd.N_drewN | apply Kd.N_drew)); exact HO179.out), fun h0_ => absurd ((hoff 16 (by kernel_rfl)).symm.trans h0_) (by decide)⟩
                                    refine steps_cons ?_ ?_
                                    · rintro b a w' ⟨v160, v163, v166, v169, v172, v175, v178, m16_, ha, Q_HO147, Q_HO150, Q_HO153, Q_HO157, Q_BK144, Q_HB, Q_HO161, Q_HO164, Q_HO167, Q_HO170, Q_HO173, Q_HO176, Q_HO179, Q_X16_⟩ hb_ hon hoff
                                      refine ⟨_, rfl, fun K hK => ?_⟩
                                      have e58 : a.tmps[58]? = some (v178) := by rw [ha]; exact putSel_on (e := (15, 58, v178)) 8 rfl rfl (hon 15 (by kernel_rfl)) rfl
                                      replace ha := Aside0.mk ha
                                      have HO147 := Aside0.mk Q_HO147
                                      have HO150 := Aside0.mk Q_HO150
                                      have HO153 := Aside0.mk Q_HO153
                                      have HO157 := Aside0.mk Q_HO157
                                      have BK144 := Aside0.mk Q_BK144
                                      have HB := Aside0.mk Q_HB
                                      have HO179 := Aside0.mk (Q_HO179 (hon 15 (by kernel_rfl)))
                                      refine value_ (w1 := w') (v := v178) (by rfl) rfl ?_ ?_
                                      · go_simp
                                        (try simp only [i64_w])
                                        try rfl
                                      refine hK.out _ _ ⟨v160, v163, v166, v169, v172, v175, v178, (v178), (by rw [ha.out]; exact putSel_upk 9 hb_ rfl rfl rfl), Q_HO147, Q_HO150, Q_HO153, Q_HO157, Q_BK144, Q_HB, fun _ h1_ => absurd ((hon 15 (by kernel_rfl)).symm.trans h1_) (by decide), fun _ h1_ => absurd ((hon 15 (by kernel_rfl)).symm.trans h1_) (by decide), fun _ h1_ => absurd ((hon 15 (by kernel_rfl)).symm.trans h1_) (by decide), fun _ h1_ => absurd ((hon 15 (by kernel_rfl)).symm.trans h1_) (by decide), fun _ h1_ => absurd ((hon 15 (by kernel_rfl)).symm.trans h1_) (by decide), fun _ h1_ => absurd ((hon 15 (by kernel_rfl)).symm.trans h1_) (by decide), Q_HO179, fun _ => rfl⟩
                                    exact steps_nil
                                  rintro b a w64 hall ⟨v160, v163, v166, v169, v172, v175, v178, m16_, ha, Q_HO147, Q_HO150, Q_HO153, Q_HO157, Q_BK144, Q_HB, Q_HO161, Q_HO164, Q_HO167, Q_HO170, Q_HO173, Q_HO176, Q_HO179, Q_X16_⟩
                                  clear BK144 HB HO147 HO150 HO153 HO157
                                  have hb1_ := hall 1 (by kernel_rfl)
                                  have hb3_ := hall 3 (by kernel_rfl)
                                  have hb6_ := hall 6 (by kernel_rfl)
                                  have hb8_ := hall 8 (by kernel_rfl)
                                  have hb9_ := hall 9 (by kernel_rfl)
                                  have hb11_ := hall 11 (by kernel_rfl)
                                  have hb12_ := hall 12 (by kernel_rfl)
                                  have hb14_ := hall 14 (by kernel_rfl)
                                  have hb15_ := hall 15 (by kernel_rfl)
                                  have hb16_ := hall 16 (by kernel_rfl)
                                  subst ha
                                  obtain rfl := Q_X16_ hb16_
                                  simp only [putSel, hb1_, hb3_, hb6_, hb8_, hb9_, hb11_, hb12_, hb14_, hb15_, hb16_, if_true, Act.put, List.setIfInBounds_toArray, List.set_cons_zero, List.set_cons_succ]
                                  have HO147 := Aside0.mk Q_HO147
                                  clear Q_HO147
                                  have HO150 := Aside0.mk Q_HO150
                                  clear Q_HO150
                                  have HO153 := Aside0.mk Q_HO153
                                  clear Q_HO153
                                  have HO157 := Aside0.mk Q_HO157
                                  clear Q_HO157
                                  have BK144 := Aside0.mk Q_BK144
                                  clear Q_BK144
                                  have HB := Aside0.mk Q_HB
                                  clear Q_HB
                                  clear Q_HO161
                                  clear Q_HO164
                                  clear Q_HO167
                                  clear Q_HO170
                                  clear Q_HO173
                                  clear Q_HO176
                                  have HO179 := Aside0.mk (Q_HO179 hb15_)
                                  clear Q_HO179
                                  clear hall hb1_ hb3_ hb6_ hb8_ hb9_ hb11_ hb12_ hb14_ hb15_ hb16_
                                  try go_wp2_with (first | ((with_reducible refine gate_dst (N := 64) rfl ?_); (try (refine gate_guard (by rfl) ?_; dsimp only)); refine Kd.R_lit (Kd.int .i64) _ 3 ?hg (N := 64) ?hd (xs := ([wrap64 (1 + (Go.bits .and .i64 a1 1023)), 0, wrap64 (32 + (wrap64 (1 + (Go.bits .and .i64 a1 1023)))), 32, 5, 5, wrap64 (-(wrap64 (1 + (Go.bits .and .i64 a1 1023))))] : List Int)) (inner := [.int .i64 (wrap64 (1 + (Go.bits .and .i64 a1 1023))), .int .i64 0, .int .i64 (wrap64 (32 + (wrap64 (1 + (Go.bits .and .i64 a1 1023))))), .int .i64 32, .int .i64 5, .int .i64 5, .int .i64 (wrap64 (-(wrap64 (1 + (Go.bits .and .i64 a1 1023)))))]) (ok := fun _ => True) (okp := fun _ => True) ?hr ?hp (fun _ hk => hk) trivial (Below.refl _ _) (Nat.le_refl _) (by simp) ?_; (case hd => rfl); (case hg => rfl); (case hr => first | (go_simp; done) | (go_simp; rfl)); (case hp => exact (Reps.one (show Kd.M (Kd.int .i64) _ _ _ (wrap64 (1 + (Go.bits .and .i64 a1 1023))) [.int .i64 (wrap64 (1 + (Go.bits .and .i64 a1 1023)))] from rfl) (Reps.one (show Kd.M (Kd.int .i64) _ _ _ 0 [.int .i64 0] from rfl) (Reps.one (show Kd.M (Kd.int .i64) _ _ _ (wrap64 (32 + (wrap64 (1 + (Go.bits .and .i64 a1 1023))))) [.int .i64 (wrap64 (32 + (wrap64 (1 + (Go.bits .and .i64 a1 1023)))))] from rfl) (Reps.one (show Kd.M (Kd.int .i64) _ _ _ 32 [.int .i64 32] from rfl) (Reps.one (show Kd.M (Kd.int .i64) _ _ _ 5 [.int .i64 5] from rfl) (Reps.one (show Kd.M (Kd.int .i64) _ _ _ 5 [.int .i64 5] from rfl) (Reps.one (show Kd.M (Kd.int .i64) _ _ _ (wrap64 (-(wrap64 (1 + (Go.bits .and .i64 a1 1023))))) [.int .i64 (wrap64 (-(wrap64 (1 + (Go.bits .and .i64 a1 1023)))))] from rfl) (Reps.none _ _))))))))); intro v181 w65 ho66 hb hg_ hnew_; clear hg_ hnew_; (first | rw [← Ny180.out] at ho66 | (simp only [Int.reduceToNat] at ho66; rw [← Ny180.out] at ho66)); have n0_ := Aside0.mk (Kd.R_below (by (with_reducible repeat (first | apply Kd.R_alloc | apply Kd.R_drewN | apply Kd.R_drew)); exact HO147.out) hb); have n1_ := Aside0.mk (Kd.R_below (by (with_reducible repeat (first | apply Kd.R_alloc | apply Kd.R_drewN | apply Kd.R_drew)); exact HO150.out) hb); have n2_ := Aside0.mk (Kd.R_below (by (with_reducible repeat (first | apply Kd.R_alloc | apply Kd.R_drewN | apply Kd.R_drew)); exact HO153.out) hb); have n3_ := Aside0.mk (Kd.R_below (by (with_reducible repeat (first | apply Kd.R_alloc | apply Kd.R_drewN | apply Kd.R_drew)); exact HO157.out) hb); have n4_ := Aside0.mk (Kd.N_elder' (by (with_reducible repeat (first | apply Kd.N_alloc | apply Kd.N_drewN | apply Kd.N_drew)); exact HO179.out) (Kd.R_base ho66) hb); have n5_ := Aside0.mk (Kd.R_lower ho66 (below_size (by repeat (first | (with_reducible first | exact HB.out | apply below_alloc | apply pw_below_drewN | apply below_drew1 | refine below_set ?_ GE144.out) | exact HB.out)))); have n6_ := Aside0.mk (blk_below (g := gb144) (o := .cells #[.int .i64 1, .int .i64 0] 23 (0, 0)) (by (with_reducible repeat (first | refine blk_drewN ?_ _ | refine blk_drew ?_ | refine blk_alloc ?_ _)); exact BK144.out) hb); have n7_ := Aside0.mk (below_step (by repeat (first | (with_reducible first | exact HB.out | apply below_alloc | apply pw_below_drewN | apply below_drew1 | refine below_set ?_ GE144.out) | exact HB.out)) hb); clear HO147; clear HO150; clear HO153; clear HO157; clear HO179; clear BK144; clear HB; have HO147 := n0_; have HO150 := n1_; have HO153 := n2_; have HO157 := n3_; have HO179 := n4_; have HO182 := n5_; have BK144 := n6_; have HB := n7_; clear n0_ n1_ n2_ n3_ n4_ n5_ n6_ n7_; clear hb ho66))
                                  have n0_ := Aside0.mk (Kd.R_drew HO147.out)
                                  have n1_ := Aside0.mk (Kd.R_drew HO150.out)
                                  have n2_ := Aside0.mk (Kd.R_drew HO153.out)
                                  have n3_ := Aside0.mk (Kd.R_drew HO157.out)
                                  have n4_ := Aside0.mk (Kd.N_drew HO179.out)
                                  have n5_ := Aside0.mk (Kd.R_drew HO182.out)
                                  have n6_ := Aside0.mk (blk_drew BK144.out)
                                  have n7_ := Aside0.mk (below_drew1 HB.out)
                                  clear HO147
                                  clear HO150
                                  clear HO153
                                  clear HO157
                                  clear HO179
                                  clear HO182
                                  clear BK144
                                  clear HB
                                  have HO147 := n0_
                                  have HO150 := n1_
                                  have HO153 := n2_
                                  have HO157 := n3_
                                  have HO179 := n4_
                                  have HO182 := n5_
                                  have BK144 := n6_
                                  have HB := n7_
                                  clear n0_ n1_ n2_ n3_ n4_ n5_ n6_ n7_
                                  obtain ⟨Ao68, co68, eo68⟩ := Kd.N_slice HO179.out
                                  (first | subst eo68 | (injection eo68 with f1_ f2_ f3_; have f4_ := f1_.symm; have f5_ := f3_.symm; clear f1_ f2_ f3_; subst f4_; subst f5_))
                                  have p183 : 0 ≤ ((ji16) : Int) := of_decide_eq_true (by first | (with_reducible assumption) | assumption)
                                  have q183 : (ji16) < (y177.length : Int) := of_decide_eq_true (by first | (with_reducible assumption) | assumption)
                                  obtain ⟨ad183, A183_0, c183_0, e183, hx183_0, hl183_0, hi183_0⟩ := at_L1 (Kd.N_reads' HO179.out).2.2 (ji16) p183 q183
                                  cases e183
                                  obtain ⟨ce183, hce183, hMe183, hcc183⟩ := Kd.N_get HO179.out [] (ji16) p183 (by first | exact q183 | exact of_decide_eq_true (by first | (with_reducible assumption) | assumption) | (have e_ := (Kd.N_reads' HO179.out).1; omega))
                                  obtain ⟨ua183_0, uc183_0, rfl, ul183_0, ge183_0⟩ := Kd.FK_slice_open hMe183
                                  have hv183_0 := hcc183 0 _ rfl
                                  rw [Nat.add_zero, show ((Kd.slice 9 Kd.string)).sz = 1 from rfl, Nat.mul_one] at hv183_0
                                  replace hv183_0 := Option.some.inj (hv183_0.symm.trans hx183_0)
                                  injection hv183_0 with hva_ hvn_ hvc_
                                  rw [hva_] at ge183_0
                                  rw [hvc_] at ul183_0
                                  have HL183_0 := Aside0.mk (show Kd.V Kd.string 9 _ w.heap.size _ _ (rd_L1 y177 (ji16)) from Kd.V_mk ul183_0 ge183_0)
                                  clear hva_ hvn_ hvc_ ge183_0 ul183_0
                                  clear hcc183 hce183
                                  have HR183_0 := Aside0.mk hi183_0
                                  have HC183_0 := Aside0.mk hl183_0
                                  clear hi183_0 hl183_0
                                  replace p183 := eq_true p183
                                  replace q183 := eq_true q183
                                  obtain ⟨Ao69, co69, eo69⟩ := Kd.R_slice HO182.out
                                  (first | subst eo69 | (injection eo69 with f1_ f2_ f3_; have f4_ := f1_.symm; have f5_ := f3_.symm; clear f1_ f2_ f3_; subst f4_; subst f5_))
                                  have p184 : 0 ≤ ((ji16) : Int) := of_decide_eq_true (by first | (with_reducible assumption) | assumption)
                                  have q184 : (ji16) < (y180.length : Int) := of_decide_eq_true (by first | (with_reducible assumption) | assumption)
                                  obtain ⟨ad184, e184, hx184_0⟩ := Kd.at_int (Kd.R_reads' HO182.out).2.2 (ji16) p184 q184
                                  cases e184
                                  replace p184 := eq_true p184
                                  replace q184 := eq_true q184
                                  refine start_ (n := 15) (S := fun w' => w'.cell? ⟨gb144, 0, none⟩ = some (.int .i64 1) ∧ w'.cell? ⟨gb144, 1, none⟩ = some (.int .i64 0) ∧ w'.cell? (ad183.add ((ji16)).toNat) = some (.slice A183_0 (rd_L1 y177 (ji16)).length c183_0) ∧ w'.cell? (ad184.add ((ji16)).toNat) = some (.int .i64 (rd y180 (ji16)))) (ds := []) #[false, false, false, false, false, false, false, false, false, false, false, false, false, false, false] (by kernel_rfl) rfl rfl ⟨(blk_cell BK144.out 0).trans rfl, (blk_cell BK144.out 1).trans rfl, hx183_0, hx184_0⟩ (fun hHeld => ?_); refine with_tabW ossuarylaw17_ChunkForms.tab11 ossuarylaw17_ChunkForms.bits11 (fun HT_ HW_ => ?_)
                                  generalize w65.drew = w67 at HO147 HO150 HO153 HO157 HO179 HO182 BK144 HB HL183_0 HR183_0 hx183_0 hx184_0 hHeld ⊢
                                  refine pure_ (i := 1) (N := some 71) (v := ?_) (a' := ?_) #[false, true, false, false, false, false, false, false, false, false, false, false, false, false, false] rfl rfl (any_of HT_.out (by kernel_rfl)) (fun _ _ _ h => h) (Or.inl ⟨by rfl, ?_⟩) ?_ ?_
                                  rotate_left
                                  · intro w'
                                    go_simp
                                    with_reducible rfl
                                  rotate_left
                                  · simp only [Act.put, List.setIfInBounds_toArray, List.set_cons_zero, List.set_cons_succ, i64_w, i32_w]
                                    rfl
                                  refine pure_ (i := 2) (N := some 72) (v := ?_) (a' := ?_) #[false, true, true, false, false, false, false, false, false, false, false, false, false, false, false] rfl rfl (any_of HT_.out (by kernel_rfl)) (fun _ _ _ h => h) (Or.inl ⟨by rfl, ?_⟩) ?_ ?_
                                  rotate_left
                                  · intro w'
                                    go_simp
                                    with_reducible rfl
                                  rotate_left
                                  · simp only [Act.put, List.setIfInBounds_toArray, List.set_cons_zero, List.set_cons_succ, i64_w, i32_w]
                                    rfl
                                  refine pure_ (i := 3) (N := some 73) (v := ?_) (a' := ?_) #[false, true, true, true, false, false, false, false, false, false, false, false, false, false, false] rfl rfl (any_of HT_.out (by kernel_rfl)) (fun _ _ _ h => h) (Or.inl ⟨by rfl, ?_⟩) ?_ ?_
                                  rotate_left
                                  · intro w'
                                    go_simp
                                    with_reducible rfl
                                  rotate_left
                                  · simp only [Act.put, List.setIfInBounds_toArray, List.set_cons_zero, List.set_cons_succ, i64_w, i32_w]
                                    rfl
                                  refine pure_ (i := 5) (N := some 75) (v := ?_) (a' := ?_) #[false, true, true, true, false, true, false, false, false, false, false, false, false, false, false] rfl rfl (any_of HT_.out (by kernel_rfl)) (fun _ _ _ h => h) (Or.inl ⟨by rfl, ?_⟩) ?_ ?_
                                  rotate_left
                                  · intro w'
                                    go_simp
                                    with_reducible rfl
                                  rotate_left
                                  · simp only [Act.put, List.setIfInBounds_toArray, List.set_cons_zero, List.set_cons_succ, i64_w, i32_w]
                                    rfl
                                  refine pure_ (i := 6) (N := some 76) (v := ?_) (a' := ?_) #[false, true, true, true, false, true, true, false, false, false, false, false, false, false, false] rfl rfl (any_of HT_.out (by kernel_rfl)) (fun _ _ _ h => h) (Or.inl ⟨by rfl, ?_⟩) ?_ ?_
                                  rotate_left
                                  · intro w'
                                    go_simp
                                    with_reducible rfl
                                  rotate_left
                                  · simp only [Act.put, List.setIfInBounds_toArray, List.set_cons_zero, List.set_cons_succ, i64_w, i32_w]
                                    rfl
                                  refine pure_ (i := 7) (N := some 77) (v := ?_) (a' := ?_) #[false, true, true, true, false, true, true, true, false, false, false, false, false, false, false] rfl rfl (any_of HT_.out (by kernel_rfl)) (fun _ _ _ h => h) (Or.inl ⟨by rfl, ?_⟩) ?_ ?_
                                  rotate_left
                                  · intro w'
                                    go_simp
                                    with_reducible rfl
                                  rotate_left
                                  · simp only [Act.put, List.setIfInBounds_toArray, List.set_cons_zero, List.set_cons_succ, i64_w, i32_w]
                                    rfl
                                  refine take_ (i := 0) (N := some 70) (v := ?_) (a' := ?_) #[true, true, true, true, false, true, true, true, false, false, false, false, false, false, false] rfl rfl (take_ofW HT_.out HW_.out (by kernel_rfl)) (fun _ _ _ h => h) (Or.inl ⟨by rfl, ?_⟩) hHeld ?_ ?_
                                  rotate_left
                                  · rintro w' ⟨s0, s1, s2, s3⟩
                                    go_simp
                                    with_reducible rfl
                                  rotate_left
                                  · simp only [Act.put, List.setIfInBounds_toArray, List.set_cons_zero, List.set_cons_succ, i64_w, i32_w]
                                    rfl
                                  refine take_ (i := 4) (N := some 74) (v := ?_) (a' := ?_) #[true, true, true, true, true, true, true, true, false, false, false, false, false, false, false] rfl rfl (take_ofW HT_.out HW_.out (by kernel_rfl)) (fun _ _ _ h => h) (Or.inl ⟨by rfl, ?_⟩) hHeld ?_ ?_
                                  rotate_left
                                  · rintro w' ⟨s0, s1, s2, s3⟩
                                    go_simp
                                    with_reducible rfl
                                  rotate_left
                                  · simp only [Act.put, List.setIfInBounds_toArray, List.set_cons_zero, List.set_cons_succ, i64_w, i32_w]
                                    rfl
                                  refine take_ (i := 8) (N := some 78) (v := ?_) (a' := ?_) #[true, true, true, true, true, true, true, true, true, false, false, false, false, false, false] rfl rfl (take_ofW HT_.out HW_.out (by kernel_rfl)) (fun _ _ _ h => h) (Or.inl ⟨by rfl, ?_⟩) hHeld ?_ ?_
                                  rotate_left
                                  · rintro w' ⟨s0, s1, s2, s3⟩
                                    go_simp
                                    with_reducible rfl
                                  rotate_left
                                  · simp only [Act.put, List.setIfInBounds_toArray, List.set_cons_zero, List.set_cons_succ, i64_w, i32_w]
                                    rfl
                                  refine one_ (i := 9) (N := some 79) #[true, true, true, true, true, true, true, true, true, true, false, false, false, false, false] rfl rfl (one_of HT_.out (by kernel_rfl)) (by decide) (fun K hK => ?_)
                                  refine goes_ Try.func9 (by kernel_rfl) rfl #[.agg #[.int .i64 1, .int .i64 0], .slice A183_0 (rd_L1 y177 (ji16)).length c183_0, .int .i64 (rd y180 (ji16))] (by rfl) rfl rfl (by (try simp only [List.map_toArray, List.map_cons, List.map_nil]); first | done | (simp only [hji16]; rfl) | rfl | (simp only [List.length_drop, List.length_take]; rfl)) ?_
                                  with_reducible refine (chunk_Join.calls k 1 0 _ _ (rd_L1 y177 (ji16)) (rd y180 (ji16)) t185 t186 _ ?side1 ?side2 A20.out).mono ?_
                                  (case side1 => repeat (first | exact (by repeat (first | (with_reducible exact HR183_0.out) | (with_reducible refine Kd.C_alloc ?_ _) | (with_reducible refine Kd.C_drewN ?_ _) | (with_reducible refine Kd.C_drew ?_) | exact HR183_0.out)) | (with_reducible refine Kd.C_alloc ?_ _) | (with_reducible refine Kd.C_drewN ?_ _) | (with_reducible refine Kd.C_drew ?_)))
                                  (case side2 => exact HC183_0.out)
                                  rintro e w70 ⟨rfl, hb⟩
                                  have HS2_ := (hb.cell (World.block_lt_of_cell? _ _ (hHeld.2.2.1))).trans (hHeld.2.2.1)
                                  have HS3_ := (hb.cell (World.block_lt_of_cell? _ _ (hHeld.2.2.2))).trans (hHeld.2.2.2)
                                  refine ⟨_, rfl, ?_⟩
                                  have n0_ := Aside0.mk (Kd.R_below (by (with_reducible repeat (first | apply Kd.R_alloc | apply Kd.R_drewN | apply Kd.R_drew)); exact HO147.out) hb)
                                  have n1_ := Aside0.mk (Kd.R_below (by (with_reducible repeat (first | apply Kd.R_alloc | apply Kd.R_drewN | apply Kd.R_drew)); exact HO150.out) hb)
                                  have n2_ := Aside0.mk (Kd.R_below (by (with_reducible repeat (first | apply Kd.R_alloc | apply Kd.R_drewN | apply Kd.R_drew)); exact HO153.out) hb)
                                  have n3_ := Aside0.mk (Kd.R_below (by (with_reducible repeat (first | apply Kd.R_alloc | apply Kd.R_drewN | apply Kd.R_drew)); exact HO157.out) hb)
                                  have n4_ := Aside0.mk (Kd.N_below (by (with_reducible repeat (first | apply Kd.N_alloc | apply Kd.N_drewN | apply Kd.N_drew)); exact HO179.out) hb)
                                  have n5_ := Aside0.mk (Kd.R_below (by (with_reducible repeat (first | apply Kd.R_alloc | apply Kd.R_drewN | apply Kd.R_drew)); exact HO182.out) hb)
                                  have n6_ := Aside0.mk (Kd.V_below (by (with_reducible repeat (first | apply Kd.V_alloc | apply Kd.V_drewN | apply Kd.V_drew)); exact HL183_0.out) hb)
                                  have n7_ := Aside0.mk (blk_below (g := gb144) (o := .cells #[.int .i64 1, .int .i64 0] 23 (0, 0)) (by (with_reducible repeat (first | refine blk_drewN ?_ _ | refine blk_drew ?_ | refine blk_alloc ?_ _)); exact BK144.out) hb)
                                  have n8_ := Aside0.mk (Kd.C_below (by repeat (first | (with_reducible exact HR183_0.out) | (with_reducible refine Kd.C_alloc ?_ _) | (with_reducible refine Kd.C_drewN ?_ _) | (with_reducible refine Kd.C_drew ?_) | exact HR183_0.out)) hb)
                                  have n9_ := Aside0.mk (below_step (by repeat (first | (with_reducible first | exact HB.out | apply below_alloc | apply pw_below_drewN | apply below_drew1 | refine below_set ?_ GE144.out) | exact HB.out)) hb)
                                  clear HO147
                                  clear HO150
                                  clear HO153
                                  clear HO157
                                  clear HO179
                                  clear HO182
                                  clear HL183_0
                                  clear BK144
                                  clear HR183_0
                                  clear HB
                                  have HO147 := n0_
                                  have HO150 := n1_
                                  have HO153 := n2_
                                  have HO157 := n3_
                                  have HO179 := n4_
                                  have HO182 := n5_
                                  have HL183_0 := n6_
                                  have BK144 := n7_
                                  have HR183_0 := n8_
                                  have HB := n9_
                                  clear n0_ n1_ n2_ n3_ n4_ n5_ n6_ n7_ n8_ n9_
                                  (try clear hb)
                                  (try clear hb2)
                                  (try clear hk)
                                  (try clear hi)
                                  refine hK.out _ _ ⟨(blk_cell BK144.out 0).trans rfl, (blk_cell BK144.out 1).trans rfl, HS2_, HS3_⟩ (fun hHeld => ?_)
                                  clear hK K
                                  refine norm_ (a' := ?_) ?_ ?_
                                  rotate_left
                                  · show Act.put _ (some 79) _ = _
                                    simp only [Act.put, List.setIfInBounds_toArray, List.set_cons_zero, List.set_cons_succ, i64_w, i32_w]
                                    rfl
                                  refine pure_ (i := 10) (N := some 69) (v := ?_) (a' := ?_) #[true, true, true, true, true, true, true, true, true, true, true, false, false, false, false] rfl rfl (any_of HT_.out (by kernel_rfl)) (fun _ _ _ h => h) (Or.inl ⟨by rfl, ?_⟩) ?_ ?_
                                  rotate_left
                                  · intro w'
                                    go_simp
                                    with_reducible rfl
                                  rotate_left
                                  · simp only [Act.put, List.setIfInBounds_toArray, List.set_cons_zero, List.set_cons_succ, i64_w, i32_w]
                                    rfl
                                  refine pure_ (i := 11) (N := some 80) (v := ?_) (a' := ?_) #[true, true, true, true, true, true, true, true, true, true, true, true, false, false, false] rfl rfl (any_of HT_.out (by kernel_rfl)) (fun _ _ _ h => h) (Or.inl ⟨by rfl, ?_⟩) ?_ ?_
                                  rotate_left
                                  · intro w'
                                    go_simp
                                    with_reducible rfl
                                  rotate_left
                                  · simp only [Act.put, List.setIfInBounds_toArray, List.set_cons_zero, List.set_cons_succ, i64_w, i32_w]
                                    rfl
                                  refine pure_ (i := 12) (N := some 81) (v := ?_) (a' := ?_) #[true, true, true, true, true, true, true, true, true, true, true, true, true, false, false] rfl rfl (any_of HT_.out (by kernel_rfl)) (fun _ _ _ h => h) (Or.inl ⟨by rfl, ?_⟩) ?_ ?_
                                  rotate_left
                                  · intro w'
                                    go_simp
                                    with_reducible rfl
                                  rotate_left
                                  · simp only [Act.put, List.setIfInBounds_toArray, List.set_cons_zero, List.set_cons_succ, i64_w, i32_w]
                                    rfl
                                  refine pure_ (i := 13) (N := some 15) (v := ?_) (a' := ?_) #[true, true, true, true, true, true, true, true, true, true, true, true, true, true, false] rfl rfl (any_of HT_.out (by kernel_rfl)) (fun _ _ _ h => h) (Or.inl ⟨by rfl, ?_⟩) ?_ ?_
                                  rotate_left
                                  · intro w'
                                    go_simp
                                    with_reducible rfl
                                  rotate_left
                                  · simp only [Act.put, List.setIfInBounds_toArray, List.set_cons_zero, List.set_cons_succ, i64_w, i32_w]
                                    rfl
                                  refine pure_ (i := 14) (N := some 16) (v := ?_) (a' := ?_) #[true, true, true, true, true, true, true, true, true, true, true, true, true, true, true] rfl rfl (any_of HT_.out (by kernel_rfl)) (fun _ _ _ h => h) (Or.inl ⟨by rfl, ?_⟩) ?_ ?_
                                  rotate_left
                                  · intro w'
                                    go_simp
                                    with_reducible rfl
                                  rotate_left
                                  · simp only [Act.put, List.setIfInBounds_toArray, List.set_cons_zero, List.set_cons_succ, i64_w, i32_w]
                                    rfl
                                  refine done_ (done_of HT_.out (by kernel_rfl)) ?_
                                  have hcz71_0 : w70.cell? ⟨gb144, 0, none⟩ = some (.int .i64 1) := (blk_cell BK144.out 0).trans rfl
                                  have hcz71_1 : w70.cell? ⟨gb144, 1, none⟩ = some (.int .i64 0) := (blk_cell BK144.out 1).trans rfl
                                  have hfz71_0 := blk_frozen BK144.out 0
                                  have hfz71_1 := blk_frozen BK144.out 1
                                  try go_wp2_with (first | ((with_reducible refine gate_dst (N := 86) rfl ?_); (try (refine gate_guard (by rfl) ?_; dsimp only)); refine Kd.R_lit Kd.string _ 9 ?hg (N := 86) ?hd (xs := ([strOfNums y145, strOfNums y145] : List ByteArray)) (inner := [.string (strOfNums y145), .string (strOfNums y145)]) (ok := fun _ => True) (okp := fun _ => True) ?hr ?hp (fun _ hk => hk) trivial (Below.refl _ _) (Nat.le_refl _) (by simp) ?_; (case hd => rfl); (case hg => rfl); (case hr => first | (go_simp; done) | (go_simp; rfl)); (case hp => exact (Reps.one (show Kd.M Kd.string _ _ _ (strOfNums y145) [.string (strOfNums y145)] from rfl) (Reps.one (show Kd.M Kd.string _ _ _ (strOfNums y145) [.string (strOfNums y145)] from rfl) (Reps.none _ _)))); intro v188 w72 ho73 hb hg_ hnew_; clear hg_ hnew_; (first | rw [← Ny187.out] at ho73 | (simp only [Int.reduceToNat] at ho73; rw [← Ny187.out] at ho73)); have n0_ := Aside0.mk (Kd.R_below (by (with_reducible repeat (first | apply Kd.R_alloc | apply Kd.R_drewN | apply Kd.R_drew)); exact HO147.out) hb); have n1_ := Aside0.mk (Kd.R_below (by (with_reducible repeat (first | apply Kd.R_alloc | apply Kd.R_drewN | apply Kd.R_drew)); exact HO150.out) hb); have n2_ := Aside0.mk (Kd.R_elder' (by (with_reducible repeat (first | apply Kd.R_alloc | apply Kd.R_drewN | apply Kd.R_drew)); exact HO153.out) (Kd.R_base ho73) hb); have n3_ := Aside0.mk (Kd.R_elder' (by (with_reducible repeat (first | apply Kd.R_alloc | apply Kd.R_drewN | apply Kd.R_drew)); exact HO157.out) (Kd.R_base ho73) hb); have n4_ := Aside0.mk (Kd.N_elder' (by (with_reducible repeat (first | apply Kd.N_alloc | apply Kd.N_drewN | apply Kd.N_drew)); exact HO179.out) (Kd.R_base ho73) hb); have n5_ := Aside0.mk (Kd.R_below (by (with_reducible repeat (first | apply Kd.R_alloc | apply Kd.R_drewN | apply Kd.R_drew)); exact HO182.out) hb); have n6_ := Aside0.mk (Kd.V_elder' (by (with_reducible repeat (first | apply Kd.V_alloc | apply Kd.V_drewN | apply Kd.V_drew)); exact HL183_0.out) (Kd.R_base ho73) hb); have n7_ := Aside0.mk (Kd.R_lower (Kd.R_new' (Kd.R_new' ho73 (Kd.R_lt (by (with_reducible repeat (first | apply Kd.R_alloc | apply Kd.R_drewN | apply Kd.R_drew)); exact HO153.out))) (Kd.R_lt (by (with_reducible repeat (first | apply Kd.R_alloc | apply Kd.R_drewN | apply Kd.R_drew)); exact HO157.out))) (below_size (by repeat (first | (with_reducible first | exact HB.out | apply below_alloc | apply pw_below_drewN | apply below_drew1 | refine below_set ?_ GE144.out) | exact HB.out)))); have n8_ := Aside0.mk (blk_below (g := gb144) (o := .cells #[.int .i64 1, .int .i64 0] 23 (0, 0)) (by (with_reducible repeat (first | refine blk_drewN ?_ _ | refine blk_drew ?_ | refine blk_alloc ?_ _)); exact BK144.out) hb); have n9_ := Aside0.mk (Kd.C_below (by repeat (first | (with_reducible exact HR183_0.out) | (with_reducible refine Kd.C_alloc ?_ _) | (with_reducible refine Kd.C_drewN ?_ _) | (with_reducible refine Kd.C_drew ?_) | exact HR183_0.out)) hb); have n10_ := Aside0.mk (below_step (by repeat (first | (with_reducible first | exact HB.out | apply below_alloc | apply pw_below_drewN | apply below_drew1 | refine below_set ?_ GE144.out) | exact HB.out)) hb); clear HO147; clear HO150; clear HO153; clear HO157; clear HO179; clear HO182; clear HL183_0; clear BK144; clear HR183_0; clear HB; have HO147 := n0_; have HO150 := n1_; have HO153 := n2_; have HO157 := n3_; have HO179 := n4_; have HO182 := n5_; have HL183_0 := n6_; have HO189 := n7_; have BK144 := n8_; have HR183_0 := n9_; have HB := n10_; clear n0_ n1_ n2_ n3_ n4_ n5_ n6_ n7_ n8_ n9_ n10_; clear hb ho73; obtain ⟨Ao74, co74, eo74⟩ := Kd.R_slice HO189.out; subst eo74) | ((with_reducible refine gate_callee (f := 9) rfl ?_); refine goesL_ (some 87) rfl rfl Try.func9 (by kernel_rfl) rfl #[.agg #[.int .i64 1, .int .i64 0], .slice Ao74 y187.length co74, .int .i64 33] rfl (by (try simp only [List.map_toArray, List.map_cons, List.map_nil]); first | done | rfl | (simp only [List.length_drop, List.length_take]; rfl)) ?_; (with_reducible refine (chunk_Join.calls k 1 0 _ _ y187 33 t190 t191 _ ?side1 ?side2 A21.out).mono ?_); (case side1 => repeat (first | exact (Kd.R_reads' HO189.out).2.2 | (with_reducible refine Kd.C_alloc ?_ _) | (with_reducible refine Kd.C_drewN ?_ _) | (with_reducible refine Kd.C_drew ?_))); (case side2 => exact (Kd.R_reads' HO189.out).2.1); rintro e w75 ⟨rfl, hb⟩; refine ⟨_, rfl, ?_⟩; have n0_ := Aside0.mk (Kd.R_below (by (with_reducible repeat (first | apply Kd.R_alloc | apply Kd.R_drewN | apply Kd.R_drew)); exact HO147.out) hb); have n1_ := Aside0.mk (Kd.R_below (by (with_reducible repeat (first | apply Kd.R_alloc | apply Kd.R_drewN | apply Kd.R_drew)); exact HO150.out) hb); have n2_ := Aside0.mk (Kd.R_below (by (with_reducible repeat (first | apply Kd.R_alloc | apply Kd.R_drewN | apply Kd.R_drew)); exact HO153.out) hb); have n3_ := Aside0.mk (Kd.R_below (by (with_reducible repeat (first | apply Kd.R_alloc | apply Kd.R_drewN | apply Kd.R_drew)); exact HO157.out) hb); have n4_ := Aside0.mk (Kd.N_below (by (with_reducible repeat (first | apply Kd.N_alloc | apply Kd.N_drewN | apply Kd.N_drew)); exact HO179.out) hb); have n5_ := Aside0.mk (Kd.R_below (by (with_reducible repeat (first | apply Kd.R_alloc | apply Kd.R_drewN | apply Kd.R_drew)); exact HO182.out) hb); have n6_ := Aside0.mk (Kd.V_below (by (with_reducible repeat (first | apply Kd.V_alloc | apply Kd.V_drewN | apply Kd.V_drew)); exact HL183_0.out) hb); have n7_ := Aside0.mk (Kd.R_below (by (with_reducible repeat (first | apply Kd.R_alloc | apply Kd.R_drewN | apply Kd.R_drew)); exact HO189.out) hb); have n8_ := Aside0.mk (blk_below (g := gb144) (o := .cells #[.int .i64 1, .int .i64 0] 23 (0, 0)) (by (with_reducible repeat (first | refine blk_drewN ?_ _ | refine blk_drew ?_ | refine blk_alloc ?_ _)); exact BK144.out) hb); have n9_ := Aside0.mk (Kd.C_below (by repeat (first | (with_reducible exact HR183_0.out) | (with_reducible refine Kd.C_alloc ?_ _) | (with_reducible refine Kd.C_drewN ?_ _) | (with_reducible refine Kd.C_drew ?_) | exact HR183_0.out)) hb); have n10_ := Aside0.mk (below_step (by repeat (first | (with_reducible first | exact HB.out | apply below_alloc | apply pw_below_drewN | apply below_drew1 | refine below_set ?_ GE144.out) | exact HB.out)) hb); clear HO147; clear HO150; clear HO153; clear HO157; clear HO179; clear HO182; clear HL183_0; clear HO189; clear BK144; clear HR183_0; clear HB; have HO147 := n0_; have HO150 := n1_; have HO153 := n2_; have HO157 := n3_; have HO179 := n4_; have HO182 := n5_; have HL183_0 := n6_; have HO189 := n7_; have BK144 := n8_; have HR183_0 := n9_; have HB := n10_; clear n0_ n1_ n2_ n3_ n4_ n5_ n6_ n7_ n8_ n9_ n10_; (try clear hb); (try clear hb2); (try clear hk); (try clear hi)) | ((with_reducible refine gate_callee (f := 12) rfl ?_); refine goesL_ (some 91) rfl rfl Try.func12 (by kernel_rfl) rfl #[.int .i64 t154] rfl (by (try simp only [List.map_toArray, List.map_cons, List.map_nil]); first | done | rfl | (simp only [List.length_drop, List.length_take]; rfl)) ?_; (with_reducible refine (ossuarylaw0_Num.calls t154 t192 _ A22.out).mono ?_); rintro e w' ⟨rfl, ⟨nd, rfl⟩⟩; refine ⟨_, rfl, ?_⟩) | (go_at_call 12; (with_reducible refine (ossuarylaw0_Num.calls t158 t193 _ A24.out).mono ?_); rintro e w' ⟨rfl, ⟨nd, rfl⟩⟩) | (go_at_call 12; (with_reducible refine (ossuarylaw0_Num.calls t186 t194 _ A27.out).mono ?_); rintro e w' ⟨rfl, ⟨nd, rfl⟩⟩) | (go_at_call 12; (with_reducible refine (ossuarylaw0_Num.calls t191 t195 _ A30.out).mono ?_); rintro e w' ⟨rfl, ⟨nd, rfl⟩⟩))
                                  go_ret
                                  exact ⟨by first | rfl | (simp [errW_none, errW_some] <;> rfl) | (simp only [← hji6, ← hji13, ← hji16]; first | rfl | (simp [errW_none, errW_some] <;> rfl)) | (simp [*, errW_none, errW_some] <;> rfl), by repeat (first | (with_reducible first | exact HB.out | apply below_alloc | apply pw_below_drewN | apply below_drew1 | refine below_set ?_ GE144.out) | exact HB.out)⟩
                                · rw [if_neg c29] at H
                                  have c29b0 : ((t190.size : Int) == 33) = false := beq_eq_false_iff_ne.mpr c29
                                  have c29b1 : ((t190.size : Int) != 33) = true := bne_iff_ne.mpr c29
                                  exact absurd (Option.some.inj H) (by rw [HRT.out]; decide)
                              · rw [if_neg c28] at H
                                have c28b0 : (t194 == 1700) = false := beq_eq_false_iff_ne.mpr c28
                                have c28b1 : (t194 != 1700) = true := bne_iff_ne.mpr c28
                                exact absurd (Option.some.inj H) (by rw [HRT.out]; decide)
                            · rw [if_neg c26] at H
                              have c26b0 : (t185.toList == ([] : List UInt8)) = false := beq_eq_false_iff_ne.mpr c26
                              have c26b1 : (t185.toList != ([] : List UInt8)) = true := bne_iff_ne.mpr c26
                              exact absurd (Option.some.inj H) (by rw [HRT.out]; decide)
                          · rw [if_neg c25] at H
                            have c25b0 : (t193 == 1700) = false := beq_eq_false_iff_ne.mpr c25
                            have c25b1 : (t193 != 1700) = true := bne_iff_ne.mpr c25
                            exact absurd (Option.some.inj H) (by rw [HRT.out]; decide)
                        · rw [if_neg c23] at H
                          have c23b0 : (t192 == 1700) = false := beq_eq_false_iff_ne.mpr c23
                          have c23b1 : (t192 != 1700) = true := bne_iff_ne.mpr c23
                          exact absurd (Option.some.inj H) (by rw [HRT.out]; decide)
                      · rw [if_neg c19] at H
                        exact absurd H (by simp)
                    · rw [if_neg c18] at H
                      exact absurd H (by simp)
                  · rw [if_neg c17] at H
                    exact absurd H (by simp)
                · rw [if_neg c15] at H
                  exact absurd H (by simp)
              · rw [if_neg c14] at H
                exact absurd H (by simp)
            · rw [if_neg c12] at H
              exact absurd H (by simp)
          · rw [if_neg c11] at H
            exact absurd H (by simp)
        · rw [if_neg c8] at H
          exact absurd H (by simp)
      · rw [if_neg c7] at H
        exact absurd H (by simp)
    · rw [if_neg c5] at H
      exact absurd H (by simp)
  · replace c4 := Bool.eq_false_iff.mpr c4
    subst c4
    have H1 : (some false) = some r := by rw [if_neg (show ¬ (false = true) by decide)] at H; exact H
    clear H
    have H := H1
    clear H1
    exact absurd (Option.some.inj H) (by rw [HRT.out]; decide)

/-- THE ONE PURE STATEMENT of ossuarylaw17_ChunkForms: yours. -/
def ossuarylaw17_ChunkForms.Pure : Prop := ∀ (a0 : Int) (a1 : Int), (Lit.int .i64 a0).wf = true → (Lit.int .i64 a1).wf = true → ∃ k, ossuarylaw17_ChunkForms.f k a0 a1 = some true
theorem ossuarylaw17_ChunkForms.walk (P : ossuarylaw17_ChunkForms.Pure) (a0 : Int) (a1 : Int) (w : World) (w0 : (Lit.int .i64 a0).wf = true) (w1 : (Lit.int .i64 a1).wf = true) :
    Calls Try.prog 5 #[.int .i64 a0, .int .i64 a1] w fun e w' => e = .returned (.bool true) ∧ Below w.heap.size w w' := by
  obtain ⟨k, h⟩ := P a0 a1 w0 w1
  refine (ossuarylaw17_ChunkForms.calls k a0 a1 true w h).mono ?_
  rintro e w' ⟨rfl, hd⟩
  exact ⟨rfl, hd⟩

end Go.Proofs.Ytcchccnfhmndnaa.HChunkForms
