/- HeadFields: MaxFields fields may be, one more is ErrLimit; each is told in its place. No condition. -/
import Derived.Test.YtabkdmfnafeaeaaDoorQx40
import Derived.Test.YtabkdmfnafeaeaaDoorHPb
import Derived.Test.YtabkdmfnafeaeaaDoorQx17
import Derived.Test.YtabkdmfnafeaeaaDoorQx24
import Derived.Test.YtabkdmfnafeaeaaDoorQx37
import Derived.Test.YtabkdmfnafeaeaaDoorQx8
namespace Go.Proofs.YtabkdmfnafeaeaaDoor.Pure
open Go.RowKit Go.Proofs.YtabkdmfnafeaeaaDoor.Q Go.Proofs.YtabkdmfnafeaeaaDoor.HP Go.Proofs.YtabkdmfnafeaeaaDoorW.PrintWords Go.Proofs.YtabkdmfnafeaeaaDoorW.PrintLast Go.Proofs.YtabkdmfnafeaeaaDoorW.PrintMore
def cb (i : Nat) : UInt8 := UInt8.ofNat (65 + i % 26)
def fl (i : Nat) : List UInt8 × List UInt8 := ([120], [32, cb i])
def hostF : List UInt8 × List UInt8 := (hostL, [32, 97])
def F (n : Nat) : List (List UInt8 × List UInt8) := hostF :: (List.range n).map fl
def preT : List UInt8 := [71, 69, 84, 32, 47, 32, 72, 84, 84, 80, 47, 49, 46, 49, 13, 10, 104, 111, 115, 116, 58, 32, 97, 13, 10]
def txt (i : Nat) : List UInt8 := preT ++ (List.range i).flatMap (fun j => [120, 58, 32, cb j, 13, 10])
theorem txt_succ (i : Nat) : txt (i + 1) = txt i ++ [120, 58, 32, cb i, 13, 10] := by simp [txt, List.range_succ]
theorem txt_length (i : Nat) : (txt i).length = 25 + 6 * i := by
  induction i with
  | zero => rfl
  | succ i ih => rw [txt_succ, List.length_append, ih]; simp; omega
theorem txt_head (n : Nat) : txt n ++ [13, 10] = headL [71, 69, 84] [47] (F n) := by
  rw [head_flat]
  congr 1
  unfold txt linesL F
  rw [List.map_cons, List.flatMap_cons, List.flatMap_cons, ← List.append_assoc, List.map_map, List.flatMap_map]
  rfl
theorem cb_all : ∀ m : Fin 26, valOk [UInt8.ofNat (65 + m.val)] = true ∧ Lib.trimS [32, UInt8.ofNat (65 + m.val)] [9, 32] = [UInt8.ofNat (65 + m.val)] ∧ (13 : UInt8) ∉ [32, UInt8.ofNat (65 + m.val)] := by decide
theorem fl_tv (i : Nat) : tv (fl i) = [cb i] := (cb_all ⟨i % 26, Nat.mod_lt _ (by decide)⟩).2.1
theorem fl_good (i : Nat) : good (fl i) := ⟨by simp [lineOf, fl], (show tokOk [120] = true by decide), by rw [fl_tv]; exact (cb_all ⟨i % 26, Nat.mod_lt _ (by decide)⟩).1, (cb_all ⟨i % 26, Nat.mod_lt _ (by decide)⟩).2.2⟩
theorem fl_low (i : Nat) : low (fl i) ≠ hostL := by
  show ([120] : List UInt8).map lowB ≠ hostL
  decide
theorem F_hosts (n : Nat) : hosts (F n) = 1 := by
  have h0 : hosts ((List.range n).map fl) = 0 := by
    unfold hosts
    rw [List.countP_eq_zero]
    intro f hf
    obtain ⟨i, _, rfl⟩ := List.mem_map.1 hf
    simpa using fl_low i
  have h1 : hosts (F n) = hosts ((List.range n).map fl) + 1 := by
    unfold hosts F
    rw [List.countP_cons_of_pos (by decide)]
  rw [h1, h0]
theorem F_host (hx : List UInt8 → ByteArray) (h : ByteArray) (l : List Nat) : hostOf hx h (l.map fl) = h := by
  induction l with
  | nil => rfl
  | cons i l ih => rw [List.map_cons, hostOf, if_neg (fl_low i), ih]
theorem target_slash : Ev (fun k => head_target.f k (B [47])) (B [47], B [], B [], true) := Ev.of (head_target.mono (B [47])) (k := 20) (by decide +kernel)
theorem host_a : Ev (fun k => head_Host.f k (B [97])) (B [97], true) := Ev.of (head_Host.mono (B [97])) (k := 20) (by decide +kernel)
theorem live_is : Ev (fun k => tollgatelaw09_live.f k) true := Ev.of (fun k => tollgatelaw09_live.mono k) (k := 60) (by decide +kernel)
def res (n : Nat) : List S38 := ⟨B hostL, B [97]⟩ :: (List.range n).map (fun i => ⟨B [120], B [cb i]⟩)
theorem F_res (n : Nat) : (F n).map fld = res n := by
  unfold F res
  rw [List.map_cons, List.map_map]
  congr 1
  apply List.map_congr_left
  intro i _
  show (⟨B (low (fl i)), B (tv (fl i))⟩ : S38) = _
  rw [fl_tv]
  rfl
theorem parse_fields (n : Nat) (hn : n ≤ 39) : Ev (fun k => head_Parse.f k (bytesOf (B (txt n ++ [13, 10])))) (if 32 < n + 1 then errR 6 else (B [71, 69, 84], B [47], B [], B [97], res n, ((27 + 6 * n : Nat) : Int), 0)) := by
  have hl : (headL [71, 69, 84] [47] (F n)).length = 27 + 6 * n := by
    rw [← txt_head, List.length_append, txt_length]
    simp
    omega
  have hj : (joinL (linesL [71, 69, 84] [47] (F n))).length = 23 + 6 * n := by
    simp [headL] at hl
    omega
  have h := parse_is [71, 69, 84] [47] (B [47]) (B []) (B []) (F n) (fun _ => B [97]) [] (by decide) (by decide) (by decide) (by decide) target_slash
    (by
      intro f hf
      rcases List.mem_cons.1 hf with rfl | hf
      · exact ⟨by decide, by decide, by decide, by decide⟩
      · obtain ⟨i, _, rfl⟩ := List.mem_map.1 hf
        exact fl_good i)
    (by
      intro f hf hlow
      rcases List.mem_cons.1 hf with rfl | hf
      · exact host_a
      · obtain ⟨i, _, rfl⟩ := List.mem_map.1 hf
        exact absurd hlow (fl_low i))
    (by omega) (by simp [F]; omega)
  rw [List.append_nil, ← txt_head, F_hosts, F_res, hj] at h
  have hho : hostOf (fun _ => B [97]) (B []) (F n) = B [97] := by
    unfold F
    rw [hostOf, if_pos (by decide), F_host]
  rw [hho] at h
  unfold fin at h
  rw [if_pos rfl] at h
  have hrl : (res n).length = n + 1 := by simp [res]
  rw [hrl] at h
  split
  · rename_i hc
    rw [if_pos hc] at h
    exact h
  · rename_i hc
    rw [if_neg hc, if_pos (B_toList [])] at h
    rw [show ((27 + 6 * n : Nat) : Int) = ((23 + 6 * n : Nat) : Int) + 4 by omega]
    exact h
theorem letter (i : Nat) : strOfNums [wrap64 (65 + Int.tmod (i : Int) 26) % 256] = B [cb i] := by
  have h : wrap64 (65 + Int.tmod (i : Int) 26) % 256 = ((65 + i % 26 : Nat) : Int) := by
    rw [Int.tmod_eq_emod_of_nonneg (by omega)]
    unfold wrap64
    omega
  rw [h]
  rfl
theorem check_loop (n : Nat) (hn : n ≤ 31) (m p q hh : ByteArray) : ∀ (d i : Nat), i + d = n → Ev (fun k => tollgatelaw09_HeadFields.l1 k (n : Int) (i : Int) m p q hh (res n)) true := by
  intro d
  induction d with
  | zero =>
    intro i hi
    exact Ev.step (fun k => by simp only [tollgatelaw09_HeadFields.l1]; rfl) (Ev.neg (by omega) (Ev.bind live_is (Ev.ret rfl)))
  | succ d ih =>
    intro i hi
    have hw : wrap64 ((i : Int) + 1) = ((i + 1 : Nat) : Int) := by unfold wrap64; omega
    have hrl : (res n).length = n + 1 := by simp [res]
    have hrd : rd_T38 (res n) ((i + 1 : Nat) : Int) = ⟨B [120], B [cb i]⟩ := by
      have hi' : i < n := by omega
      simp [rd_T38, res, hi']
    refine Ev.step (fun k => by simp only [tollgatelaw09_HeadFields.l1]; rfl) ?_
    rw [hw, hrl, hrd, letter]
    exact Ev.pos (by omega) (Ev.pos (by omega) (Ev.pos (by omega) (Ev.pos (B_toList _) (Ev.pos rfl (ih (i + 1) (by omega))))))
theorem fill_loop (n : Nat) (hn : n ≤ 39) : ∀ (d i : Nat), i + d = n → Ev (fun k => tollgatelaw09_HeadFields.l0 k (n : Int) (B (txt i)) (i : Int)) true := by
  intro d
  induction d with
  | zero =>
    intro i hi
    obtain rfl : i = n := by omega
    have hw : wrap64 ((i : Int) + 1) = ((i + 1 : Nat) : Int) := by unfold wrap64; omega
    have hs : (B (txt i)).size = 25 + 6 * i := by rw [B_size, txt_length]
    have hc : B (txt i) ++ (⟨#[13, 10]⟩ : ByteArray) = B (txt i ++ [13, 10]) := B_append (txt i) [13, 10]
    have hs2 : (B (txt i ++ [13, 10])).size = 27 + 6 * i := by rw [B_size, List.length_append, txt_length]; simp; omega
    have hw2 : wrap64 (((25 + 6 * i : Nat) : Int) + 2) = ((27 + 6 * i : Nat) : Int) := by unfold wrap64; omega
    refine Ev.step (fun k => by simp only [tollgatelaw09_HeadFields.l0]; rfl) (Ev.neg (by omega) ?_)
    rw [hc, hs, hs2, hw, hw2]
    refine Ev.pos (by omega) (Ev.pos (by omega) (Ev.bind (parse_fields i hn) ?_))
    by_cases h32 : 32 < i + 1
    · rw [if_pos h32]
      exact Ev.pos (by omega) (Ev.bind live_is (Ev.pos rfl (Ev.pos rfl (Ev.ret rfl))))
    · rw [if_neg h32]
      have hrl : (res i).length = i + 1 := by simp [res]
      refine Ev.neg (by omega) (Ev.pos rfl (Ev.pos (by rw [hrl]) ?_))
      refine Ev.step (fun k => by simp only [tollgatelaw09_HeadFields.j1]; rfl) (Ev.neg (by simp) ?_)
      exact check_loop i (by omega) _ _ _ _ i 0 (by omega)
  | succ d ih =>
    intro i hi
    have hw : wrap64 ((i : Int) + 1) = ((i + 1 : Nat) : Int) := by unfold wrap64; omega
    have hc : B (txt i) ++ (((⟨#[120, 58, 32]⟩ : ByteArray) ++ B [cb i]) ++ (⟨#[13, 10]⟩ : ByteArray)) = B (txt (i + 1)) := by
      show B (txt i) ++ ((B [120, 58, 32] ++ B [cb i]) ++ B [13, 10]) = _
      rw [B_append, B_append, B_append, txt_succ]
      rfl
    have hs : (B (txt i)).size = 25 + 6 * i := by rw [B_size, txt_length]
    have hs1 : (B [cb i]).size = 1 := rfl
    have hs2 : ((⟨#[120, 58, 32]⟩ : ByteArray) ++ B [cb i]).size = 4 := by
      show (B [120, 58, 32] ++ B [cb i]).size = 4
      rw [B_append]
      rfl
    have hs3 : (((⟨#[120, 58, 32]⟩ : ByteArray) ++ B [cb i]) ++ (⟨#[13, 10]⟩ : ByteArray)).size = 6 := by
      show ((B [120, 58, 32] ++ B [cb i]) ++ B [13, 10]).size = 6
      rw [B_append, B_append]
      rfl
    refine Ev.step (fun k => by simp only [tollgatelaw09_HeadFields.l0]; rfl) (Ev.pos (by omega) (Ev.put ?_))
    rw [letter, hs1, hs2, hs3, hs, hc, hw]
    exact Ev.pos (by omega) (Ev.pos (by omega) (Ev.pos (by omega) (ih (i + 1) (by omega))))
theorem HeadFields : tollgatelaw09_HeadFields.Pure := by
  intro a ha
  have hr : 0 ≤ a ∧ a ≤ 255 := by
    simp [Lit.wf, IntKind.min, IntKind.max, IntKind.signed, IntKind.bits] at ha
    omega
  refine Ev.rounds (r := true) ?_
  unfold tollgatelaw09_HeadFields.f
  have hm : Int.tmod (wrap64 a) 40 = ((a.toNat % 40 : Nat) : Int) := by
    have hw : wrap64 a = a := by unfold wrap64; omega
    rw [hw, Int.tmod_eq_emod_of_nonneg hr.1]
    omega
  rw [hm]
  exact fill_loop (a.toNat % 40) (by omega) (a.toNat % 40) 0 (by omega)
end Go.Proofs.YtabkdmfnafeaeaaDoor.Pure
