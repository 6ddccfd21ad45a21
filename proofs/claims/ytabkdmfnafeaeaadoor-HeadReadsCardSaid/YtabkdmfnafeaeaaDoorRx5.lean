-- Laid by lay.py, a program of this session's, out of the translation (the kit's printer with additions of ours). Lean checks it.
import Derived.Test.YtabkdmfnafeaeaaDoorRx0
namespace Go.Proofs.YtabkdmfnafeaeaaDoor.R
open Go.RowKit Go.Proofs.YtabkdmfnafeaeaaDoorW.PrintWords Go.Proofs.YtabkdmfnafeaeaaDoorW.PrintLast Go.Proofs.YtabkdmfnafeaeaaDoorW.PrintMore
attribute [local go_sem] max2_int min2_int max_two min_two max_three min_three max_four min_four   -- for this text's walks alone
attribute [local go_sem] fbin_eql fbin_neq fbin_lss fbin_leq fbin_gtr fbin_geq frun_add frun_sub frun_mul frun_quo frun_store fun_neg fcv_int fcv_same fb92 fb116
set_option linter.unusedVariables false
set_option linter.unusedSimpArgs false

-- NOT PRINTED: function 98 (stringslite_Index)

-- NOT PRINTED: function 97 (strings_Index)

-- NOT PRINTED: function 109 (bytealg_CountString)

-- NOT PRINTED: function 96 (strings_Count)

-- NOT PRINTED: function 66 (strings_genSplit)

/-! ### strings_Split: function 35 -/
def strings_Split.f (a0 a1 : ByteArray) : Option (List ByteArray) := if a0.size < 4294967281 ∧ 1 ≤ a1.size then some (Lib.splitB a1 0 (Lib.countB a0 a1) a0) else none
theorem strings_Split.calls (a0 a1 : ByteArray) (r : List ByteArray) (w : World) (hml : ML w) (h : strings_Split.f a0 a1 = some r) :
    Calls Tryd.prog 35 #[.string a0, .string a1] w fun e w' => ∃ v0_ : Value, e = .returned (v0_) ∧ Kd.R Kd.string 9 w' w.heap.size (fun _ => True) v0_ r ∧ Below w.heap.size w w' := by
  obtain ⟨m, hm⟩ := hml
  unfold strings_Split.f at h
  split at h
  · rename_i hs
    obtain rfl := Option.some.inj h
    refine (Tryd.strings_Split a0 a1 m w hs.1 hm hs.2).mono ?_
    rintro e w' ⟨rfl, rfl⟩
    have hlen := Lib.splitB_all a1 hs.2 0 _ a0 rfl
    have hle := Lib.countB_le a1 hs.2 a0.size a0 (Nat.le_refl _)
    refine ⟨_, rfl, ?_, (Below.refl _ _).alloc (Nat.le_refl _) _⟩
    rw [← hlen]
    refine Kd.R_of_own (enc := Value.string) ?_ (fun _ _ => trivial)
    have h2 := World.ownsRow_lit (base := w.heap.size) (e := 9) (size := 1) w ((Lib.splitB a1 0 (Lib.countB a0 a1) a0).map Value.string).toArray (Lib.splitB a1 0 (Lib.countB a0 a1) a0).length (Nat.le_refl _) (by simp [maxLen]; omega) (by simp)
    simpa [encs] using h2
  · cases h


-- NOT PRINTED: function 67 (stringslite_Cut)

/-! ### strings_Cut: function 36 -/
def strings_Cut.f (a0 a1 : ByteArray) : Option (ByteArray × ByteArray × Bool) := if a0.size < 4294967281 then some (⟨(Lib.cut a0.data.toList a1.data.toList).1.toArray⟩, ⟨(Lib.cut a0.data.toList a1.data.toList).2.1.toArray⟩, (Lib.cut a0.data.toList a1.data.toList).2.2) else none
theorem strings_Cut.calls (a0 a1 : ByteArray) (r1 r2 : ByteArray) (r3 : Bool) (w : World) (hml : ML w) (h : strings_Cut.f a0 a1 = some (r1, r2, r3)) :
    Calls Tryd.prog 36 #[.string a0, .string a1] w fun e w' => e = .returned (.tuple #[.string r1, .string r2, .bool r3]) ∧ Drawn0 w w' := by
  obtain ⟨m, hm⟩ := hml
  unfold strings_Cut.f at h
  split at h
  · rename_i hs
    simp only [Option.some.injEq, Prod.mk.injEq] at h
    obtain ⟨rfl, rfl, rfl⟩ := h
    exact (Tryd.strings_Cut a0 a1 m w hs hm).mono fun e w' ⟨h1, n, h2⟩ => ⟨h1, n, h2⟩
  · cases h


/-! ### head_lower: function 41 -/
def lowB (b : UInt8) : UInt8 := if 65 ≤ b.toNat ∧ b.toNat ≤ 90 then b + 32 else b
def head_lower.f (a0 : ByteArray) : Option ByteArray := if a0.size ≤ 9223372036854775807 then some ⟨(a0.data.toList.map lowB).toArray⟩ else none
def mixL (l : List UInt8) (i : Nat) : List UInt8 := (l.take i).map lowB ++ l.drop i
theorem mixL_length (l : List UInt8) (i : Nat) : (mixL l i).length = l.length := by simp [mixL]; omega
theorem mixL_get (l : List UInt8) (i : Nat) (hi : i < l.length) (h : i < (mixL l i).length) : (mixL l i)[i] = l[i] := by
  simp only [mixL]
  rw [List.getElem_append_right (by simp; omega)]
  simp
  congr 1
  omega
theorem mixL_set (l : List UInt8) (i : Nat) (hi : i < l.length) : (mixL l i).set i (lowB l[i]) = mixL l (i + 1) := by
  have hlen : (List.map lowB (List.take i l)).length = i := by simp; omega
  simp only [mixL]
  rw [List.drop_eq_getElem_cons hi, List.set_append_right _ _ (by omega), hlen, Nat.sub_self, List.set_cons_zero, List.take_add_one, List.getElem?_eq_getElem hi, List.map_append, List.append_assoc]
  rfl
theorem mixL_same (l : List UInt8) (i : Nat) (hi : i < l.length) (h : lowB l[i] = l[i]) : mixL l i = mixL l (i + 1) := by
  rw [← mixL_set l i hi, h]
  have h2 := mixL_get l i hi (by rw [mixL_length]; exact hi)
  rw [← h2]
  exact (List.set_getElem_self _).symm
theorem lowB_up {b : UInt8} (h : 65 ≤ b.toNat ∧ b.toNat ≤ 90) : ((lowB b).toNat : Int) = (b.toNat : Int) + 32 := by
  unfold lowB
  rw [if_pos h, UInt8.toNat_add]
  have : (32 : UInt8).toNat = 32 := rfl
  rw [this, Nat.mod_eq_of_lt (by omega)]
  omega
theorem below_setB {bk : Nat} {w W : World} (h : Below bk w W) {g j : Nat} {v : Value} (hg : bk ≤ g) : Below bk w (W.setCell ⟨g, j, none⟩ v) := h.setCell hg _
set_option maxHeartbeats 2000000 in
theorem head_lower.calls (a0 r : ByteArray) (w : World) (h : head_lower.f a0 = some r) :
    Calls Tryd.prog 41 #[.string a0] w fun e w' => e = .returned (.string r) ∧ Below w.heap.size w w' := by
  unfold head_lower.f at h
  split at h
  · rename_i hsz
    obtain rfl := Option.some.inj h
    clear h
    have hlen : a0.data.toList.length = a0.size := by simp
    have kcv := Lib.run_convert_string_bytes (P := Tryd.prog) w 9 22 5 a0 Tryd.underlying9 Tryd.underlying22 Tryd.underlying5
    have hb0 := bytes_below w 5 a0
    have hm0 := MRow.new w 5 a0
    generalize Lib.bytesWorld w 5 a0 = w1 at kcv hb0 hm0
    generalize grownCap w a0.size 0 5 = cp at kcv
    generalize hb : w.heap.size = bk at *
    have HM0 := Aside0.mk hm0
    have HB0 := Aside0.mk hb0
    have HSZ := Aside0.mk hsz
    have HLEN := Aside0.mk hlen
    clear hm0 hb0 hlen
    have hab : ∀ i : Nat, (Addr.add ⟨bk, 0, none⟩ i) = ⟨bk, i, none⟩ := fun i => by rw [add_plain]
    go_enter Tryd.func41, Tryd.ntmps41
    go_wp2
    go_loopg [10] (a0.size + 1) (fun n v10 wr => ∃ i : Nat, v10 = .int .i64 (i : Int) ∧ Aside0 (i + n = a0.size + 1 ∧ i ≤ a0.size) ∧ Aside0 (MRow wr bk 5 (mixL a0.data.toList i)) ∧ Aside0 (Below bk w wr))
    case atStart => exact ⟨0, rfl, ⟨by omega, by omega⟩, ⟨by simpa [mixL] using HM0.out⟩, ⟨HB0.out⟩⟩
    case round =>
      clear kcv
      obtain ⟨i, rfl, HN, HM, HB⟩ := hrel
      have hl := mixL_length a0.data.toList i
      rcases Nat.lt_or_ge i a0.size with hi | hi
      · have hi' : i < a0.data.toList.length := by rw [HLEN.out]; exact hi
        have c1 : decide ((i : Int) < (a0.size : Int)) = true := decide_eq_true (by omega)
        have hcell := HM.out.cell i (by omega)
        rw [mixL_get _ i hi'] at hcell
        have hfz := HM.out.frozen i (by omega)
        have hset := HM.out.set i (by omega) (lowB a0.data.toList[i])
        rw [mixL_set _ i hi'] at hset
        have HS := Aside0.mk hset
        clear hset hl
        by_cases hu : 65 ≤ (a0.data.toList[i]).toNat ∧ (a0.data.toList[i]).toNat ≤ 90
        · have hv := lowB_up hu
          generalize hx : ((a0.data.toList[i]).toNat : Int) = x at *
          have hx1 : 65 ≤ x := by omega
          have hx2 : x ≤ 90 := by omega
          rw [hv] at HS
          clear hv hu hx
          go_wp2
          go_roundg (a0.size - i)
          case measure => have := HN.out; omega
          case rel => exact ⟨i + 1, by simp, ⟨by have := HN.out; omega⟩, ⟨HS.out⟩, ⟨below_setB HB.out (Nat.le_refl _)⟩⟩
        · have hs := mixL_same a0.data.toList i hi' (by unfold lowB; rw [if_neg hu])
          have HS2 := Aside0.mk (hs ▸ HM.out)
          clear hs HS
          generalize hx : ((a0.data.toList[i]).toNat : Int) = x at *
          rcases Int.lt_or_le x 65 with hx1 | hx1
          · clear hx hu
            go_wp2
            go_roundg (a0.size - i)
            case measure => have := HN.out; omega
            case rel => exact ⟨i + 1, by simp, ⟨by have := HN.out; omega⟩, ⟨HS2.out⟩, ⟨HB.out⟩⟩
          · have hx2 : 90 < x := by omega
            clear hx hu
            go_wp2
            go_roundg (a0.size - i)
            case measure => have := HN.out; omega
            case rel => exact ⟨i + 1, by simp, ⟨by have := HN.out; omega⟩, ⟨HS2.out⟩, ⟨HB.out⟩⟩
      · have c1 : decide ((i : Int) < (a0.size : Int)) = false := decide_eq_false (by omega)
        have hi2 : i = a0.size := by have := HN.out; omega
        have hmx : mixL a0.data.toList i = a0.data.toList.map lowB := by rw [hi2, ← HLEN.out]; simp only [mixL, List.take_length, List.drop_length, List.append_nil]
        have hst := HM.out.string (P := Tryd.prog) Tryd.underlying22 Tryd.underlying5 Tryd.underlying9 (by rw [hl, HLEN.out]; exact HSZ.out)
        rw [hmx, List.length_map, HLEN.out] at hst
        go_wp2
        go_ret
        exact ⟨rfl, HB.out⟩
  · cases h


end Go.Proofs.YtabkdmfnafeaeaaDoor.R
