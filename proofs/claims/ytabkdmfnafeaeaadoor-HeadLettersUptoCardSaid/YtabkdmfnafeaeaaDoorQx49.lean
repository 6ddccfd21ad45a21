-- Laid by lay.py, a program of this session's, out of the translation (the kit's printer with additions of ours). Lean checks it.
import Derived.Test.YtabkdmfnafeaeaaDoorQx0
import Derived.Test.YtabkdmfnafeaeaaDoorQx6
namespace Go.Proofs.YtabkdmfnafeaeaaDoor.Q
open Go.RowKit Go.Proofs.YtabkdmfnafeaeaaDoorW.PrintWords Go.Proofs.YtabkdmfnafeaeaaDoorW.PrintLast Go.Proofs.YtabkdmfnafeaeaaDoorW.PrintMore
attribute [local go_sem] max2_int min2_int max_two min_two max_three min_three max_four min_four   -- for this text's walks alone
attribute [local go_sem] fbin_eql fbin_neq fbin_lss fbin_leq fbin_gtr fbin_geq frun_add frun_sub frun_mul frun_quo frun_store fun_neg fcv_int fcv_same fb92 fb116
set_option linter.unusedVariables false
set_option linter.unusedSimpArgs false

/-! ### tollgatelaw09_large: function 25 -/
def upB (t : Bool) (b : UInt8) : UInt8 := if (97 ≤ b.toNat ∧ b.toNat ≤ 122) ∧ t = true then b - 32 else b
def bitS (s : Int) (i : Nat) : Bool := Go.bits .and .u32 (s / 2 ^ (i % 32)) 1 == 1
def mixU (s : Int) (l : List UInt8) (i : Nat) : List UInt8 := (l.take i).mapIdx (fun j b => upB (bitS s j) b) ++ l.drop i
theorem mixU_length (s : Int) (l : List UInt8) (i : Nat) : (mixU s l i).length = l.length := by simp [mixU]; omega
theorem mixU_get (s : Int) (l : List UInt8) (i : Nat) (hi : i < l.length) (h : i < (mixU s l i).length) : (mixU s l i)[i] = l[i] := by
  simp only [mixU]
  rw [List.getElem_append_right (by simp; omega)]
  simp
  congr 1
  omega
theorem mixU_set (s : Int) (l : List UInt8) (i : Nat) (hi : i < l.length) : (mixU s l i).set i (upB (bitS s i) l[i]) = mixU s l (i + 1) := by
  have hlen : (List.mapIdx (fun j b => upB (bitS s j) b) (List.take i l)).length = i := by simp; omega
  have hlt : (l.take i).length = i := by simp; omega
  simp only [mixU]
  rw [List.drop_eq_getElem_cons hi, List.set_append_right _ _ (by omega), hlen, Nat.sub_self, List.set_cons_zero, List.take_succ_eq_append_getElem hi, List.mapIdx_concat, hlt, List.append_assoc]
  rfl
theorem mixU_same (s : Int) (l : List UInt8) (i : Nat) (hi : i < l.length) (h : upB (bitS s i) l[i] = l[i]) : mixU s l i = mixU s l (i + 1) := by
  rw [← mixU_set s l i hi, h]
  have h2 := mixU_get s l i hi (by rw [mixU_length]; exact hi)
  rw [← h2]
  exact (List.set_getElem_self _).symm
theorem upB_up {t : Bool} {b : UInt8} (h : (97 ≤ b.toNat ∧ b.toNat ≤ 122) ∧ t = true) : ((upB t b).toNat : Int) = (b.toNat : Int) - 32 := by
  unfold upB
  rw [if_pos h, UInt8.toNat_sub_of_le _ _ (by rw [UInt8.le_iff_toNat_le]; have : (32 : UInt8).toNat = 32 := rfl; omega)]
  have : (32 : UInt8).toNat = 32 := rfl
  omega
def tollgatelaw09_large.f (a0 : ByteArray) (a1 : Int) : Option ByteArray := if a0.size ≤ 9223372036854775807 then some ⟨(a0.data.toList.mapIdx (fun j b => upB (bitS a1 j) b)).toArray⟩ else none
set_option maxHeartbeats 2000000 in
theorem tollgatelaw09_large.calls (a0 : ByteArray) (a1 : Int) (r : ByteArray) (w : World) (h : tollgatelaw09_large.f a0 a1 = some r) :
    Calls Tryd.prog 25 #[.string a0, .int .u32 a1] w fun e w' => e = .returned (.string r) ∧ Below w.heap.size w w' := by
  unfold tollgatelaw09_large.f at h
  split at h
  · rename_i hsz
    obtain rfl := Option.some.inj h
    clear h
    have hlen : a0.data.toList.length = a0.size := by simp
    have kcv := Lib.run_convert_string_bytes (P := Tryd.prog) w 9 22 5 a0 Tryd.underlying9 Tryd.underlying22 Tryd.underlying5
    have hb0 := bytes_below w 5 a0
    have hm0 := MRow.new w 5 a0
    generalize Lib.bytesWorld w 5 a0 = w1 at kcv hb0 hm0
    generalize grownCap w a0.size 0 5 = cp at kcv
    generalize hb : w.heap.size = bk at *
    have HM0 := Aside0.mk hm0
    have HB0 := Aside0.mk hb0
    have HSZ := Aside0.mk hsz
    have HLEN := Aside0.mk hlen
    clear hm0 hb0 hlen
    have hab : ∀ i : Nat, (Addr.add ⟨bk, 0, none⟩ i) = ⟨bk, i, none⟩ := fun i => by rw [add_plain]
    go_enter Tryd.func25, Tryd.ntmps25
    go_wp2
    go_loopg [6] (a0.size + 1) (fun n v6 wr => ∃ i : Nat, v6 = .int .i64 (i : Int) ∧ Aside0 (i + n = a0.size + 1 ∧ i ≤ a0.size) ∧ Aside0 (MRow wr bk 5 (mixU a1 a0.data.toList i)) ∧ Aside0 (Below bk w wr))
    case atStart => exact ⟨0, rfl, ⟨by omega, by omega⟩, ⟨by simpa [mixU] using HM0.out⟩, ⟨HB0.out⟩⟩
    case round =>
      clear kcv
      obtain ⟨i, rfl, HN, HM, HB⟩ := hrel
      have hl := mixU_length a1 a0.data.toList i
      rcases Nat.lt_or_ge i a0.size with hi | hi
      · have hi' : i < a0.data.toList.length := by rw [HLEN.out]; exact hi
        have c1 : decide ((i : Int) < (a0.size : Int)) = true := decide_eq_true (by omega)
        have hcell := HM.out.cell i (by omega)
        rw [mixU_get _ _ i hi'] at hcell
        have hfz := HM.out.frozen i (by omega)
        have hset := HM.out.set i (by omega) (upB (bitS a1 i) a0.data.toList[i])
        rw [mixU_set _ _ i hi'] at hset
        have HS := Aside0.mk hset
        clear hset hl
        by_cases hbt : bitS a1 i = true
        · have hb2 : (Go.bits .and .u32 (a1 / 2 ^ (i % 32)) 1 == 1) = true := hbt
          by_cases hu : 97 ≤ (a0.data.toList[i]).toNat ∧ (a0.data.toList[i]).toNat ≤ 122
          · have hv := upB_up (t := bitS a1 i) ⟨hu, hbt⟩
            generalize hx : ((a0.data.toList[i]).toNat : Int) = x at *
            have hx1 : 97 ≤ x := by omega
            have hx2 : x ≤ 122 := by omega
            rw [hv] at HS
            clear hv hu hx hbt
            go_wp2
            go_roundg (a0.size - i)
            case measure => have := HN.out; omega
            case rel => exact ⟨i + 1, by simp, ⟨by have := HN.out; omega⟩, ⟨HS.out⟩, ⟨below_setB HB.out (Nat.le_refl _)⟩⟩
          · have hs := mixU_same a1 a0.data.toList i hi' (by unfold upB; rw [if_neg (fun h => hu h.1)])
            have HS2 := Aside0.mk (hs ▸ HM.out)
            clear hs HS hbt
            generalize hx : ((a0.data.toList[i]).toNat : Int) = x at *
            rcases Int.lt_or_le x 97 with hx1 | hx1
            · clear hx hu
              go_wp2
              go_roundg (a0.size - i)
              case measure => have := HN.out; omega
              case rel => exact ⟨i + 1, by simp, ⟨by have := HN.out; omega⟩, ⟨HS2.out⟩, ⟨HB.out⟩⟩
            · have hx2 : 122 < x := by omega
              clear hx hu
              go_wp2
              go_roundg (a0.size - i)
              case measure => have := HN.out; omega
              case rel => exact ⟨i + 1, by simp, ⟨by have := HN.out; omega⟩, ⟨HS2.out⟩, ⟨HB.out⟩⟩
        · have hb2 : (Go.bits .and .u32 (a1 / 2 ^ (i % 32)) 1 == 1) = false := Bool.eq_false_iff.2 hbt
          have hs := mixU_same a1 a0.data.toList i hi' (by unfold upB; rw [if_neg (fun h => hbt h.2)])
          have HS2 := Aside0.mk (hs ▸ HM.out)
          clear hs HS hbt
          generalize hx : ((a0.data.toList[i]).toNat : Int) = x at *
          rcases Int.lt_or_le x 97 with hx1 | hx1
          · clear hx
            go_wp2
            go_roundg (a0.size - i)
            case measure => have := HN.out; omega
            case rel => exact ⟨i + 1, by simp, ⟨by have := HN.out; omega⟩, ⟨HS2.out⟩, ⟨HB.out⟩⟩
          · rcases Int.lt_or_le 122 x with hx2 | hx2
            · clear hx
              go_wp2
              go_roundg (a0.size - i)
              case measure => have := HN.out; omega
              case rel => exact ⟨i + 1, by simp, ⟨by have := HN.out; omega⟩, ⟨HS2.out⟩, ⟨HB.out⟩⟩
            · clear hx
              go_wp2
              go_roundg (a0.size - i)
              case measure => have := HN.out; omega
              case rel => exact ⟨i + 1, by simp, ⟨by have := HN.out; omega⟩, ⟨HS2.out⟩, ⟨HB.out⟩⟩
      · have c1 : decide ((i : Int) < (a0.size : Int)) = false := decide_eq_false (by omega)
        have hi2 : i = a0.size := by have := HN.out; omega
        have hmx : mixU a1 a0.data.toList i = a0.data.toList.mapIdx (fun j b => upB (bitS a1 j) b) := by rw [hi2, ← HLEN.out]; simp only [mixU, List.take_length, List.drop_length, List.append_nil]
        have hst := HM.out.string (P := Tryd.prog) Tryd.underlying22 Tryd.underlying5 Tryd.underlying9 (by rw [hl, HLEN.out]; exact HSZ.out)
        rw [hmx, List.length_mapIdx, HLEN.out] at hst
        go_wp2
        go_ret
        exact ⟨rfl, HB.out⟩
  · cases h


end Go.Proofs.YtabkdmfnafeaeaaDoor.Q
