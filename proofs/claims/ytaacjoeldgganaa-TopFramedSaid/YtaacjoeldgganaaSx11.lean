-- Laid by lay.py, a program of this session's, out of the translation (the kit's printer with additions of ours). Lean checks it.
import Derived.Test.YtaacjoeldgganaaSx0
import Derived.Test.YtaacjoeldgganaaSx6
import Derived.Test.YtaacjoeldgganaaSx7
import Derived.Test.YtaacjoeldgganaaSx9
import Derived.Test.YtaacjoeldgganaaSx10
import Derived.Test.YtaacjoeldgganaaSx13
namespace Go.Proofs.Ytaacjoeldgganaa.S
open Go.RowKit Go.Proofs.YtaacjoeldgganaaW.PrintWords Go.Proofs.YtaacjoeldgganaaW.PrintLast Go.Proofs.YtaacjoeldgganaaW.PrintMore
attribute [local go_sem] max2_int min2_int max_two min_two max_three min_three max_four min_four   -- for this text's walks alone
set_option linter.unusedVariables false
set_option linter.unusedSimpArgs false

/-! ### frame_Next: function 17 -/
/-- what stands at a place -/
def nextOf (l : List Int) (at_ : Int) : List Int × Int × Int :=
  if at_ < 0 ∨ at_ > (l.length : Int) then ([], 0, 2) else
  if (l.drop at_.toNat).length < 8 then ([], 0, 3) else
  if get4 (l.drop at_.toNat) > 65536 then ([], 0, 6) else
  if ((l.drop at_.toNat).length : Int) - 8 < get4 (l.drop at_.toNat) then ([], 0, 3) else
  if fextend (fextend 0 ((l.drop at_.toNat).take 4)) (((l.drop at_.toNat).drop 8).take (get4 (l.drop at_.toNat)).toNat) ≠ get4 ((l.drop at_.toNat).drop 4) then ([], 0, 5) else
  (((l.drop at_.toNat).drop 8).take (get4 (l.drop at_.toNat)).toNat, at_ + 8 + get4 (l.drop at_.toNat), 0)
def frame_Next.f (l0 : List Int) (a1 : Int) : Option (List Int × Int × Int) := if okB l0 = true then some (nextOf l0 a1) else none
theorem get4_range {l : List Int} (h : B8 l) : 0 ≤ get4 l ∧ get4 l < 4294967296 := by
  have h0 := getD_B8 h 0
  have h1 := getD_B8 h 1
  have h2 := getD_B8 h 2
  have h3 := getD_B8 h 3
  unfold get4
  omega
theorem slice_at {P : Program} (t e : TypeId) {i : TypeInfo} (ht : P.underlying t = some (.slice e)) (hi : P.info? e = some i) (hsz : i.size = 1) (A : Option Addr) (N cap k : Nat) (kI : Int) (hk : kI = (k : Int)) (hN : k ≤ N) :
    ∀ W : World, (Instr.slice t (.slice A N cap) (some (.int .i64 kI)) none none).run P W = .ok (.slice (if cap = k then A else A.map (·.add k)) (N - k) (cap - k)) W := by
  intro W
  have hel : P.elem t = e := by simp [Program.elem, ht]
  have hu : P.underlying t = some (.slice (P.elem t)) := by rw [hel]; exact ht
  subst hk
  rw [run_slice_l W t A N cap hu .i64 (k : Int) (Int.natCast_nonneg _) (by omega), hel]
  simp [sizeOf, typeInfo, hi, hsz, sliced, Result.andThen]
set_option maxHeartbeats 2000000 in
theorem Next_neg (A0 : Option Addr) (c0 : Nat) (l0 : List Int) (a1 : Int) (w : World) (hr0 : Kd.C (Kd.int .u8) w A0 l0.length l0) (hc0 : l0.length ≤ c0) (h1 : a1 < 0) :
    Calls Try.prog 17 #[.slice A0 l0.length c0, .int .i64 a1] w fun e w' => ∃ v0_ : Value, e = .returned (.tuple #[v0_, .int .i64 0, .int .i64 2]) ∧ Kd.R (Kd.int .u8) 5 w' w.heap.size (fun _ => True) v0_ [] ∧ Below w.heap.size w w' := by
  have c1 : decide (a1 < 0) = true := decide_eq_true h1
  clear hr0
  go_enter Try.func17, Try.ntmps17
  go_wp2
  go_ret3
  exact ⟨_, rfl, Kd.R_nil _ _ _ _ _, Below.refl _ _⟩
set_option maxHeartbeats 2000000 in
theorem Next_far (A0 : Option Addr) (c0 : Nat) (l0 : List Int) (a1 : Int) (w : World) (hr0 : Kd.C (Kd.int .u8) w A0 l0.length l0) (hc0 : l0.length ≤ c0) (h0 : 0 ≤ a1) (h1 : (l0.length : Int) < a1) :
    Calls Try.prog 17 #[.slice A0 l0.length c0, .int .i64 a1] w fun e w' => ∃ v0_ : Value, e = .returned (.tuple #[v0_, .int .i64 0, .int .i64 2]) ∧ Kd.R (Kd.int .u8) 5 w' w.heap.size (fun _ => True) v0_ [] ∧ Below w.heap.size w w' := by
  have c1 : decide (a1 < 0) = false := decide_eq_false (by omega)
  have c2 : decide ((l0.length : Int) < a1) = true := decide_eq_true h1
  clear hr0
  go_enter Try.func17, Try.ntmps17
  go_wp2
  go_ret3
  exact ⟨_, rfl, Kd.R_nil _ _ _ _ _, Below.refl _ _⟩
set_option maxHeartbeats 2000000 in
theorem Next_short (A0 : Option Addr) (c0 : Nat) (l0 : List Int) (a1 : Int) (w : World) (hr0 : Kd.C (Kd.int .u8) w A0 l0.length l0) (hc0 : l0.length ≤ c0) (h0 : 0 ≤ a1) (h1 : a1 ≤ (l0.length : Int)) (h2 : (l0.drop a1.toNat).length < 8) :
    Calls Try.prog 17 #[.slice A0 l0.length c0, .int .i64 a1] w fun e w' => ∃ v0_ : Value, e = .returned (.tuple #[v0_, .int .i64 0, .int .i64 3]) ∧ Kd.R (Kd.int .u8) 5 w' w.heap.size (fun _ => True) v0_ [] ∧ Below w.heap.size w w' := by
  have HR0 := Aside0.mk hr0
  have HC0 := Aside0.mk hc0
  have c1 : decide (a1 < 0) = false := decide_eq_false (by omega)
  have c2 : decide ((l0.length : Int) < a1) = false := decide_eq_false (by omega)
  obtain ⟨i5, hi5, _, hsz5, _⟩ := info_parts info5
  obtain ⟨A1, sl1, hA1, hC1⟩ := print_drop_of (P := Try.prog) (Value.int .u8) 0 24 5 .i64 Try.underlying24 hi5 hsz5 A0 c0 l0 a1 h0 h1 hc0
  have HR1 := Aside0.mk (Kd.C_of_reads (h1 := fun _ => rfl) (hA1 _ (Kd.reads_of_C hr0)))
  have HC1 := Aside0.mk hC1
  have hmax := Kd.C_max hr0
  have hlen : a1 + ((l0.drop a1.toNat).length : Int) = l0.length := by rw [List.length_drop]; omega
  clear hA1 hC1 hr0 hc0
  generalize hD : l0.drop a1.toNat = D at *
  clear hD
  generalize c0 - a1.toNat = cD at *
  have c3 : decide ((D.length : Int) < 8) = true := decide_eq_true (by omega)
  have c3' : decide (D.length < 8) = true := decide_eq_true h2
  clear hi5 hsz5
  go_enter Try.func17, Try.ntmps17
  go_wp2
  go_ret3
  exact ⟨_, rfl, Kd.R_nil _ _ _ _ _, Below.refl _ _⟩
set_option maxHeartbeats 2000000 in
theorem Next_limit (A0 : Option Addr) (c0 : Nat) (l0 : List Int) (a1 : Int) (w : World) (hr0 : Kd.C (Kd.int .u8) w A0 l0.length l0) (hc0 : l0.length ≤ c0) (h0 : 0 ≤ a1) (h1 : a1 ≤ (l0.length : Int)) (h2 : 8 ≤ (l0.drop a1.toNat).length) (hb : B8 (l0.drop a1.toNat)) (h3 : 65536 < get4 (l0.drop a1.toNat)) :
    Calls Try.prog 17 #[.slice A0 l0.length c0, .int .i64 a1] w fun e w' => ∃ v0_ : Value, e = .returned (.tuple #[v0_, .int .i64 0, .int .i64 6]) ∧ Kd.R (Kd.int .u8) 5 w' w.heap.size (fun _ => True) v0_ [] ∧ Below w.heap.size w w' := by
  have HR0 := Aside0.mk hr0
  have HC0 := Aside0.mk hc0
  have c1 : decide (a1 < 0) = false := decide_eq_false (by omega)
  have c2 : decide ((l0.length : Int) < a1) = false := decide_eq_false (by omega)
  obtain ⟨i5, hi5, _, hsz5, _⟩ := info_parts info5
  obtain ⟨A1, sl1, hA1, hC1⟩ := print_drop_of (P := Try.prog) (Value.int .u8) 0 24 5 .i64 Try.underlying24 hi5 hsz5 A0 c0 l0 a1 h0 h1 hc0
  have HR1 := Aside0.mk (Kd.C_of_reads (h1 := fun _ => rfl) (hA1 _ (Kd.reads_of_C hr0)))
  have HC1 := Aside0.mk hC1
  have hmax := Kd.C_max hr0
  have hlen : a1 + ((l0.drop a1.toNat).length : Int) = l0.length := by rw [List.length_drop]; omega
  clear hA1 hC1 hr0 hc0
  generalize hD : l0.drop a1.toNat = D at *
  clear hD
  generalize c0 - a1.toNat = cD at *
  have c3 : decide ((D.length : Int) < 8) = false := decide_eq_false (by omega)
  have c3' : decide (D.length < 8) = false := decide_eq_false (by omega)
  have hG := fun W hW => get_any A1 cD D W hW HC1.out (by omega) hb
  have hn0 := get4_range hb
  generalize get4 D = n at *
  obtain ⟨hn0, hn1⟩ := hn0
  have HG := Aside0.mk hG
  have HB := Aside0.mk hb
  clear hG hb
  have c4 : decide (65536 < n) = true := decide_eq_true h3
  clear hi5 hsz5
  go_enter Try.func17, Try.ntmps17
  go_wp2_with fail
  refine (HG.out _ HR1.out).mono ?_
  rintro e w1 ⟨rfl, hd1⟩
  have HB1 := Aside0.mk hd1.below
  have HR2 := Aside0.mk (Kd.C_below HR1.out hd1.below)
  have HR02 := Aside0.mk (Kd.C_below HR0.out hd1.below)
  clear hd1 HR1 HR0
  go_wp2
  go_ret3
  exact ⟨_, rfl, Kd.R_nil _ _ _ _ _, HB1.out⟩
set_option maxHeartbeats 2000000 in
theorem Next_less (A0 : Option Addr) (c0 : Nat) (l0 : List Int) (a1 : Int) (w : World) (hr0 : Kd.C (Kd.int .u8) w A0 l0.length l0) (hc0 : l0.length ≤ c0) (h0 : 0 ≤ a1) (h1 : a1 ≤ (l0.length : Int)) (h2 : 8 ≤ (l0.drop a1.toNat).length) (hb : B8 (l0.drop a1.toNat)) (h3 : get4 (l0.drop a1.toNat) ≤ 65536) (h4 : ((l0.drop a1.toNat).length : Int) - 8 < get4 (l0.drop a1.toNat)) :
    Calls Try.prog 17 #[.slice A0 l0.length c0, .int .i64 a1] w fun e w' => ∃ v0_ : Value, e = .returned (.tuple #[v0_, .int .i64 0, .int .i64 3]) ∧ Kd.R (Kd.int .u8) 5 w' w.heap.size (fun _ => True) v0_ [] ∧ Below w.heap.size w w' := by
  have HR0 := Aside0.mk hr0
  have HC0 := Aside0.mk hc0
  have c1 : decide (a1 < 0) = false := decide_eq_false (by omega)
  have c2 : decide ((l0.length : Int) < a1) = false := decide_eq_false (by omega)
  obtain ⟨i5, hi5, _, hsz5, _⟩ := info_parts info5
  obtain ⟨A1, sl1, hA1, hC1⟩ := print_drop_of (P := Try.prog) (Value.int .u8) 0 24 5 .i64 Try.underlying24 hi5 hsz5 A0 c0 l0 a1 h0 h1 hc0
  have HR1 := Aside0.mk (Kd.C_of_reads (h1 := fun _ => rfl) (hA1 _ (Kd.reads_of_C hr0)))
  have HC1 := Aside0.mk hC1
  have hmax := Kd.C_max hr0
  have hlen : a1 + ((l0.drop a1.toNat).length : Int) = l0.length := by rw [List.length_drop]; omega
  clear hA1 hC1 hr0 hc0
  generalize hD : l0.drop a1.toNat = D at *
  clear hD
  generalize c0 - a1.toNat = cD at *
  have c3 : decide ((D.length : Int) < 8) = false := decide_eq_false (by omega)
  have c3' : decide (D.length < 8) = false := decide_eq_false (by omega)
  have hG := fun W hW => get_any A1 cD D W hW HC1.out (by omega) hb
  have hn0 := get4_range hb
  generalize get4 D = n at *
  obtain ⟨hn0, hn1⟩ := hn0
  have HG := Aside0.mk hG
  have HB := Aside0.mk hb
  clear hG hb
  have c4 : decide (65536 < n) = false := decide_eq_false (by omega)
  have c5 : decide ((D.length : Int) - 8 < n) = true := decide_eq_true h4
  clear hi5 hsz5
  go_enter Try.func17, Try.ntmps17
  go_wp2_with fail
  refine (HG.out _ HR1.out).mono ?_
  rintro e w1 ⟨rfl, hd1⟩
  have HB1 := Aside0.mk hd1.below
  have HR2 := Aside0.mk (Kd.C_below HR1.out hd1.below)
  have HR02 := Aside0.mk (Kd.C_below HR0.out hd1.below)
  clear hd1 HR1 HR0
  go_wp2
  go_ret3
  exact ⟨_, rfl, Kd.R_nil _ _ _ _ _, HB1.out⟩
set_option maxHeartbeats 2000000 in
theorem Next_sum (A0 : Option Addr) (c0 : Nat) (l0 : List Int) (a1 : Int) (w : World) (hr0 : Kd.C (Kd.int .u8) w A0 l0.length l0) (hc0 : l0.length ≤ c0) (h0 : 0 ≤ a1) (h1 : a1 ≤ (l0.length : Int)) (h2 : 8 ≤ (l0.drop a1.toNat).length) (hb : B8 (l0.drop a1.toNat)) (h3 : get4 (l0.drop a1.toNat) ≤ 65536) (h4 : get4 (l0.drop a1.toNat) ≤ ((l0.drop a1.toNat).length : Int) - 8) (ks : Nat) (s1 s2 : Int) (hs1 : frame_Sum.f ks ((l0.drop a1.toNat).take 4) = some s1) (hs2 : frame_Extend.f ks s1 (((l0.drop a1.toNat).take (8 + get4 (l0.drop a1.toNat)).toNat).drop 8) = some s2) (h5 : s2 ≠ get4 ((l0.drop a1.toNat).drop 4)) :
    Calls Try.prog 17 #[.slice A0 l0.length c0, .int .i64 a1] w fun e w' => ∃ v0_ : Value, e = .returned (.tuple #[v0_, .int .i64 0, .int .i64 5]) ∧ Kd.R (Kd.int .u8) 5 w' w.heap.size (fun _ => True) v0_ [] ∧ Below w.heap.size w w' := by
  have HR0 := Aside0.mk hr0
  have HC0 := Aside0.mk hc0
  have c1 : decide (a1 < 0) = false := decide_eq_false (by omega)
  have c2 : decide ((l0.length : Int) < a1) = false := decide_eq_false (by omega)
  obtain ⟨i5, hi5, _, hsz5, _⟩ := info_parts info5
  obtain ⟨A1, sl1, hA1, hC1⟩ := print_drop_of (P := Try.prog) (Value.int .u8) 0 24 5 .i64 Try.underlying24 hi5 hsz5 A0 c0 l0 a1 h0 h1 hc0
  have HR1 := Aside0.mk (Kd.C_of_reads (h1 := fun _ => rfl) (hA1 _ (Kd.reads_of_C hr0)))
  have HC1 := Aside0.mk hC1
  have hmax := Kd.C_max hr0
  have hlen : a1 + ((l0.drop a1.toNat).length : Int) = l0.length := by rw [List.length_drop]; omega
  clear hA1 hC1 hr0 hc0
  have HS1 := Aside0.mk hs1
  have HS2 := Aside0.mk hs2
  clear hs1 hs2
  generalize hD : l0.drop a1.toNat = D at *
  clear hD
  generalize c0 - a1.toNat = cD at *
  have c3 : decide ((D.length : Int) < 8) = false := decide_eq_false (by omega)
  have c3' : decide (D.length < 8) = false := decide_eq_false (by omega)
  have hG := fun W hW => get_any A1 cD D W hW HC1.out (by omega) hb
  have hn0 := get4_range hb
  have hb4 : B8 (D.drop 4) := fun x hx => hb x (List.mem_of_mem_drop hx)
  have hn4 := get4_range hb4
  generalize hD4 : D.drop 4 = D4 at *
  generalize get4 D = n at *
  obtain ⟨hn0, hn1⟩ := hn0
  have HG := Aside0.mk hG
  have HB := Aside0.mk hb
  clear hG hb
  have c4 : decide (65536 < n) = false := decide_eq_false (by omega)
  have c5 : decide ((D.length : Int) - 8 < n) = false := decide_eq_false (by omega)
  have hcD := HC1.out
  obtain ⟨A4, sl4_, hA4_, hC4_⟩ := print_drop_of (P := Try.prog) (Value.int .u8) 0 24 5 .i64 Try.underlying24 hi5 hsz5 A1 cD D 4 (by omega) (by omega) HC1.out
  have sl4 : ∀ W : World, (Instr.slice 24 (.slice A1 D.length cD) (some (.int .i64 4)) none none).run Try.prog W = .ok (.slice A4 D4.length (cD - 4)) W := by rw [← hD4]; exact sl4_
  have HA4 := Aside0.mk (show ∀ w : World, ReadsOf (Value.int .u8) 0 w A1 D.length D → ReadsOf (Value.int .u8) 0 w A4 D4.length D4 by rw [← hD4]; exact hA4_)
  have HG2 := Aside0.mk (fun W hW => get_any A4 (cD - 4) D4 W hW (by rw [← hD4]; exact hC4_) (by rw [← hD4, List.length_drop]; omega) hb4)
  clear sl4_ hA4_ hC4_ hb4
  obtain ⟨A2, sl2, hA2, hC2⟩ := print_mid_of (P := Try.prog) (Value.int .u8) 0 24 5 .i64 .i64 Try.underlying24 hi5 hsz5 A1 cD D 8 (8 + n) (by omega) (by omega) (by omega) HC1.out
  have HA2 := Aside0.mk hA2
  have HC2 := Aside0.mk hC2
  have slu := slice_upto (P := Try.prog) 24 5 Try.underlying24 hi5 hsz5 A1 D.length cD 4 4 rfl (by omega) HC1.out
  generalize get4 D4 = g4 at *
  obtain ⟨hm0, hm1⟩ := hn4
  clear hD4
  have hlin : ((D.take (8 + n).toNat).drop 8).length = n.toNat := by rw [List.length_drop, List.length_take]; omega
  have HL := Aside0.mk hlin
  have HT4 := Aside0.mk (show (D.take 4).length = 4 by rw [List.length_take]; omega)
  generalize hIN : (D.take (8 + n).toNat).drop 8 = IN at *
  have HIN := Aside0.mk hIN
  rw [show (8 : Int).toNat = 8 from rfl, hIN] at HA2 HC2
  rw [show (8 : Int).toNat = 8 from rfl, hIN] at sl2
  clear hA2 hC2 hi5 hsz5 hlin hIN hcD
  go_enter Try.func17, Try.ntmps17
  go_wp2_with fail
  refine (HG.out _ HR1.out).mono ?_
  rintro e w1 ⟨rfl, hd1⟩
  have HB1 := Aside0.mk hd1.below
  have HR2 := Aside0.mk (Kd.C_below HR1.out hd1.below)
  have HR02 := Aside0.mk (Kd.C_below HR0.out hd1.below)
  clear hd1 HR1 HR0
  have HR3 := Aside0.mk (Kd.C_of_reads (h1 := fun _ => rfl) (HA2.out _ (Kd.reads_of_C HR2.out)))
  have HRt := Aside0.mk (Kd.C_take HR2.out (m := 4) (by omega))
  have HRd := Aside0.mk (Kd.C_of_reads (h1 := fun _ => rfl) (HA4.out _ (Kd.reads_of_C HR2.out)))
  clear HA2 HA4
  go_wp2_with fail
  refine start_ (n := 9) (S := fun _ => True) (ds := []) #[false, false, false, false, false, false, false, false, false] (by kernel_rfl) rfl rfl trivial (fun hHeld => ?_)
  have HB2 := Aside0.mk (below_drew1 HB1.out)
  have hdr : Below w1.heap.size w1 w1.drew := below_drew (Below.refl _ _)
  have HR4 := Aside0.mk (Kd.C_below HR3.out hdr)
  have HRt1 := Aside0.mk (Kd.C_below HRt.out hdr)
  have HRd1 := Aside0.mk (Kd.C_below HRd.out hdr)
  clear HB1 HR3 HRt HRd hdr HR2 HR02
  generalize w1.drew = w4 at HB2 HR4 HRt1 HRd1 hHeld ⊢
  refine pure_ (i := 0) (N := some 42) (v := ?_) (a' := ?_) #[true, false, false, false, false, false, false, false, false] rfl rfl (by kernel_rfl) (fun _ _ _ h => h) (Or.inl ⟨by rfl, ?_⟩) ?_ ?_
  rotate_left
  · intro w'
    go_simp
    with_reducible rfl
  rotate_left
  · simp only [Act.put, List.setIfInBounds_toArray, List.set_cons_zero, List.set_cons_succ, i64_w, i32_w]
    rfl
  refine pure_ (i := 1) (N := some 43) (v := ?_) (a' := ?_) #[true, true, false, false, false, false, false, false, false] rfl rfl (by kernel_rfl) (fun _ _ _ h => h) (Or.inl ⟨by rfl, ?_⟩) ?_ ?_
  rotate_left
  · intro w'
    go_simp
    with_reducible rfl
  rotate_left
  · simp only [Act.put, List.setIfInBounds_toArray, List.set_cons_zero, List.set_cons_succ, i64_w, i32_w]
    rfl
  refine pure_ (i := 3) (N := some 45) (v := ?_) (a' := ?_) #[true, true, false, true, false, false, false, false, false] rfl rfl (by kernel_rfl) (fun _ _ _ h => h) (Or.inl ⟨by rfl, ?_⟩) ?_ ?_
  rotate_left
  · intro w'
    go_simp
    with_reducible rfl
  rotate_left
  · simp only [Act.put, List.setIfInBounds_toArray, List.set_cons_zero, List.set_cons_succ, i64_w, i32_w]
    rfl
  refine pure_ (i := 5) (N := some 47) (v := ?_) (a' := ?_) #[true, true, false, true, false, true, false, false, false] rfl rfl (by kernel_rfl) (fun _ _ _ h => h) (Or.inl ⟨by rfl, ?_⟩) ?_ ?_
  rotate_left
  · intro w'
    go_simp
    with_reducible rfl
  rotate_left
  · simp only [Act.put, List.setIfInBounds_toArray, List.set_cons_zero, List.set_cons_succ, i64_w, i32_w]
    rfl
  refine pure_ (i := 6) (N := some 48) (v := ?_) (a' := ?_) #[true, true, false, true, false, true, true, false, false] rfl rfl (by kernel_rfl) (fun _ _ _ h => h) (Or.inl ⟨by rfl, ?_⟩) ?_ ?_
  rotate_left
  · intro w'
    go_simp
    with_reducible rfl
  rotate_left
  · simp only [Act.put, List.setIfInBounds_toArray, List.set_cons_zero, List.set_cons_succ, i64_w, i32_w]
    rfl
  refine one_ (i := 2) (N := some 44) #[true, true, true, true, false, true, true, false, false] rfl rfl (by kernel_rfl) (by decide) (fun K hK => ?_)
  refine goes_ Try.func9 (by kernel_rfl) rfl #[.slice A1 4 cD] (by rfl) rfl rfl (by (try simp only [List.map_toArray, List.map_cons, List.map_nil]); first | done | rfl) ?_
  have hS5 := frame_Sum.calls ks A1 cD (D.take 4) s1 w4 HRt1.out (by have := HC1.out; rw [List.length_take]; omega) HS1.out
  rw [HT4.out] at hS5
  refine hS5.mono ?_
  clear hS5
  rintro e w5 ⟨rfl, hd5⟩
  refine ⟨_, rfl, ?_⟩
  refine hK.out _ _ trivial (fun hHeld => ?_)
  clear hK K
  refine norm_ (a' := ?_) ?_ ?_
  rotate_left
  · show Act.put _ (some 44) _ = _
    simp only [Act.put, List.setIfInBounds_toArray, List.set_cons_zero, List.set_cons_succ, i64_w, i32_w]
    rfl
  have HB5 := Aside0.mk (below_step HB2.out hd5.below)
  have HR5 := Aside0.mk (Kd.C_below HR4.out hd5.below)
  have HRd5 := Aside0.mk (Kd.C_below HRd1.out hd5.below)
  clear HB2 HR4 HRd1 hd5 HRt1
  refine one_ (i := 4) (N := some 46) #[true, true, true, true, true, true, true, false, false] rfl rfl (by kernel_rfl) (by decide) (fun K hK => ?_)
  refine goes_ Try.func16 (by kernel_rfl) rfl #[.int .u32 s1, .slice A2 IN.length (cD - 8)] (by rfl) rfl rfl (by (try simp only [List.map_toArray, List.map_cons, List.map_nil]); first | done | rfl) ?_
  refine (frame_Extend.calls ks s1 A2 (cD - 8) IN s2 w5 HR5.out HC2.out HS2.out).mono ?_
  rintro e w6 ⟨rfl, hd6⟩
  refine ⟨_, rfl, ?_⟩
  refine hK.out _ _ trivial (fun hHeld => ?_)
  clear hK K
  refine norm_ (a' := ?_) ?_ ?_
  rotate_left
  · show Act.put _ (some 46) _ = _
    simp only [Act.put, List.setIfInBounds_toArray, List.set_cons_zero, List.set_cons_succ, i64_w, i32_w]
    rfl
  have HB6 := Aside0.mk (below_step HB5.out hd6.below)
  have HR6 := Aside0.mk (Kd.C_below HR5.out hd6.below)
  have HRd6 := Aside0.mk (Kd.C_below HRd5.out hd6.below)
  clear HB5 HR5 HRd5 hd6
  refine one_ (i := 7) (N := some 49) #[true, true, true, true, true, true, true, true, false] rfl rfl (by kernel_rfl) (by decide) (fun K hK => ?_)
  refine goes_ Try.func25 (by kernel_rfl) rfl #[.slice A4 D4.length (cD - 4)] (by rfl) rfl rfl (by (try simp only [List.map_toArray, List.map_cons, List.map_nil]); first | done | rfl) ?_
  refine (HG2.out w6 HRd6.out).mono ?_
  rintro e w7 ⟨rfl, hd7⟩
  refine ⟨_, rfl, ?_⟩
  refine hK.out _ _ trivial (fun hHeld => ?_)
  clear hK K
  refine norm_ (a' := ?_) ?_ ?_
  rotate_left
  · show Act.put _ (some 49) _ = _
    simp only [Act.put, List.setIfInBounds_toArray, List.set_cons_zero, List.set_cons_succ, i64_w, i32_w]
    rfl
  have HB7 := Aside0.mk (below_step HB6.out hd7.below)
  have HR7 := Aside0.mk (Kd.C_below HR6.out hd7.below)
  clear HB6 HR6 hd7 HRd6
  refine pure_ (i := 8) (N := some 50) (v := ?_) (a' := ?_) #[true, true, true, true, true, true, true, true, true] rfl rfl (by kernel_rfl) (fun _ _ _ h => h) (Or.inl ⟨by rfl, ?_⟩) ?_ ?_
  rotate_left
  · intro w'
    go_simp
    with_reducible rfl
  rotate_left
  · simp only [Act.put, List.setIfInBounds_toArray, List.set_cons_zero, List.set_cons_succ, i64_w, i32_w]
    rfl
  refine done_ (by kernel_rfl) ?_
  have c6 : (s2 != g4) = true := by simpa using h5
  go_wp2
  go_ret3
  exact ⟨_, rfl, Kd.R_nil _ _ _ _ _, HB7.out⟩
set_option maxHeartbeats 2000000 in
theorem Next_ok (A0 : Option Addr) (c0 : Nat) (l0 : List Int) (a1 : Int) (w : World) (hr0 : Kd.C (Kd.int .u8) w A0 l0.length l0) (hc0 : l0.length ≤ c0) (h0 : 0 ≤ a1) (h1 : a1 ≤ (l0.length : Int)) (h2 : 8 ≤ (l0.drop a1.toNat).length) (hb : B8 (l0.drop a1.toNat)) (h3 : get4 (l0.drop a1.toNat) ≤ 65536) (h4 : get4 (l0.drop a1.toNat) ≤ ((l0.drop a1.toNat).length : Int) - 8) (ks : Nat) (s1 s2 : Int) (hs1 : frame_Sum.f ks ((l0.drop a1.toNat).take 4) = some s1) (hs2 : frame_Extend.f ks s1 (((l0.drop a1.toNat).take (8 + get4 (l0.drop a1.toNat)).toNat).drop 8) = some s2) (h5 : s2 = get4 ((l0.drop a1.toNat).drop 4)) :
    Calls Try.prog 17 #[.slice A0 l0.length c0, .int .i64 a1] w fun e w' => ∃ v0_ : Value, e = .returned (.tuple #[v0_, .int .i64 (a1 + 8 + get4 (l0.drop a1.toNat)), .int .i64 0]) ∧ Kd.R (Kd.int .u8) 5 w' w.heap.size (fun _ => True) v0_ (((l0.drop a1.toNat).take (8 + get4 (l0.drop a1.toNat)).toNat).drop 8) ∧ Below w.heap.size w w' := by
  have HR0 := Aside0.mk hr0
  have HC0 := Aside0.mk hc0
  have c1 : decide (a1 < 0) = false := decide_eq_false (by omega)
  have c2 : decide ((l0.length : Int) < a1) = false := decide_eq_false (by omega)
  obtain ⟨i5, hi5, _, hsz5, _⟩ := info_parts info5
  obtain ⟨A1, sl1, hA1, hC1⟩ := print_drop_of (P := Try.prog) (Value.int .u8) 0 24 5 .i64 Try.underlying24 hi5 hsz5 A0 c0 l0 a1 h0 h1 hc0
  have HR1 := Aside0.mk (Kd.C_of_reads (h1 := fun _ => rfl) (hA1 _ (Kd.reads_of_C hr0)))
  have HC1 := Aside0.mk hC1
  have hmax := Kd.C_max hr0
  have hlen : a1 + ((l0.drop a1.toNat).length : Int) = l0.length := by rw [List.length_drop]; omega
  clear hA1 hC1 hr0 hc0
  have HS1 := Aside0.mk hs1
  have HS2 := Aside0.mk hs2
  clear hs1 hs2
  generalize hD : l0.drop a1.toNat = D at *
  clear hD
  generalize c0 - a1.toNat = cD at *
  have c3 : decide ((D.length : Int) < 8) = false := decide_eq_false (by omega)
  have c3' : decide (D.length < 8) = false := decide_eq_false (by omega)
  have hG := fun W hW => get_any A1 cD D W hW HC1.out (by omega) hb
  have hn0 := get4_range hb
  have hb4 : B8 (D.drop 4) := fun x hx => hb x (List.mem_of_mem_drop hx)
  have hn4 := get4_range hb4
  generalize hD4 : D.drop 4 = D4 at *
  generalize get4 D = n at *
  obtain ⟨hn0, hn1⟩ := hn0
  have HG := Aside0.mk hG
  have HB := Aside0.mk hb
  clear hG hb
  have c4 : decide (65536 < n) = false := decide_eq_false (by omega)
  have c5 : decide ((D.length : Int) - 8 < n) = false := decide_eq_false (by omega)
  have hcD := HC1.out
  obtain ⟨A4, sl4_, hA4_, hC4_⟩ := print_drop_of (P := Try.prog) (Value.int .u8) 0 24 5 .i64 Try.underlying24 hi5 hsz5 A1 cD D 4 (by omega) (by omega) HC1.out
  have sl4 : ∀ W : World, (Instr.slice 24 (.slice A1 D.length cD) (some (.int .i64 4)) none none).run Try.prog W = .ok (.slice A4 D4.length (cD - 4)) W := by rw [← hD4]; exact sl4_
  have HA4 := Aside0.mk (show ∀ w : World, ReadsOf (Value.int .u8) 0 w A1 D.length D → ReadsOf (Value.int .u8) 0 w A4 D4.length D4 by rw [← hD4]; exact hA4_)
  have HG2 := Aside0.mk (fun W hW => get_any A4 (cD - 4) D4 W hW (by rw [← hD4]; exact hC4_) (by rw [← hD4, List.length_drop]; omega) hb4)
  clear sl4_ hA4_ hC4_ hb4
  obtain ⟨A2, sl2, hA2, hC2⟩ := print_mid_of (P := Try.prog) (Value.int .u8) 0 24 5 .i64 .i64 Try.underlying24 hi5 hsz5 A1 cD D 8 (8 + n) (by omega) (by omega) (by omega) HC1.out
  have HA2 := Aside0.mk hA2
  have HC2 := Aside0.mk hC2
  have slu := slice_upto (P := Try.prog) 24 5 Try.underlying24 hi5 hsz5 A1 D.length cD 4 4 rfl (by omega) HC1.out
  generalize get4 D4 = g4 at *
  obtain ⟨hm0, hm1⟩ := hn4
  clear hD4
  have hlin : ((D.take (8 + n).toNat).drop 8).length = n.toNat := by rw [List.length_drop, List.length_take]; omega
  have HL := Aside0.mk hlin
  have HT4 := Aside0.mk (show (D.take 4).length = 4 by rw [List.length_take]; omega)
  generalize hIN : (D.take (8 + n).toNat).drop 8 = IN at *
  have HIN := Aside0.mk hIN
  rw [show (8 : Int).toNat = 8 from rfl, hIN] at HA2 HC2
  rw [show (8 : Int).toNat = 8 from rfl, hIN] at sl2
  clear hA2 hC2 hi5 hsz5 hlin hIN hcD
  go_enter Try.func17, Try.ntmps17
  go_wp2_with fail
  refine (HG.out _ HR1.out).mono ?_
  rintro e w1 ⟨rfl, hd1⟩
  have HB1 := Aside0.mk hd1.below
  have HR2 := Aside0.mk (Kd.C_below HR1.out hd1.below)
  have HR02 := Aside0.mk (Kd.C_below HR0.out hd1.below)
  clear hd1 HR1 HR0
  have HR3 := Aside0.mk (Kd.C_of_reads (h1 := fun _ => rfl) (HA2.out _ (Kd.reads_of_C HR2.out)))
  have HRt := Aside0.mk (Kd.C_take HR2.out (m := 4) (by omega))
  have HRd := Aside0.mk (Kd.C_of_reads (h1 := fun _ => rfl) (HA4.out _ (Kd.reads_of_C HR2.out)))
  clear HA2 HA4
  go_wp2_with fail
  refine start_ (n := 9) (S := fun _ => True) (ds := []) #[false, false, false, false, false, false, false, false, false] (by kernel_rfl) rfl rfl trivial (fun hHeld => ?_)
  have HB2 := Aside0.mk (below_drew1 HB1.out)
  have hdr : Below w1.heap.size w1 w1.drew := below_drew (Below.refl _ _)
  have HR4 := Aside0.mk (Kd.C_below HR3.out hdr)
  have HRt1 := Aside0.mk (Kd.C_below HRt.out hdr)
  have HRd1 := Aside0.mk (Kd.C_below HRd.out hdr)
  clear HB1 HR3 HRt HRd hdr HR2 HR02
  generalize w1.drew = w4 at HB2 HR4 HRt1 HRd1 hHeld ⊢
  refine pure_ (i := 0) (N := some 42) (v := ?_) (a' := ?_) #[true, false, false, false, false, false, false, false, false] rfl rfl (by kernel_rfl) (fun _ _ _ h => h) (Or.inl ⟨by rfl, ?_⟩) ?_ ?_
  rotate_left
  · intro w'
    go_simp
    with_reducible rfl
  rotate_left
  · simp only [Act.put, List.setIfInBounds_toArray, List.set_cons_zero, List.set_cons_succ, i64_w, i32_w]
    rfl
  refine pure_ (i := 1) (N := some 43) (v := ?_) (a' := ?_) #[true, true, false, false, false, false, false, false, false] rfl rfl (by kernel_rfl) (fun _ _ _ h => h) (Or.inl ⟨by rfl, ?_⟩) ?_ ?_
  rotate_left
  · intro w'
    go_simp
    with_reducible rfl
  rotate_left
  · simp only [Act.put, List.setIfInBounds_toArray, List.set_cons_zero, List.set_cons_succ, i64_w, i32_w]
    rfl
  refine pure_ (i := 3) (N := some 45) (v := ?_) (a' := ?_) #[true, true, false, true, false, false, false, false, false] rfl rfl (by kernel_rfl) (fun _ _ _ h => h) (Or.inl ⟨by rfl, ?_⟩) ?_ ?_
  rotate_left
  · intro w'
    go_simp
    with_reducible rfl
  rotate_left
  · simp only [Act.put, List.setIfInBounds_toArray, List.set_cons_zero, List.set_cons_succ, i64_w, i32_w]
    rfl
  refine pure_ (i := 5) (N := some 47) (v := ?_) (a' := ?_) #[true, true, false, true, false, true, false, false, false] rfl rfl (by kernel_rfl) (fun _ _ _ h => h) (Or.inl ⟨by rfl, ?_⟩) ?_ ?_
  rotate_left
  · intro w'
    go_simp
    with_reducible rfl
  rotate_left
  · simp only [Act.put, List.setIfInBounds_toArray, List.set_cons_zero, List.set_cons_succ, i64_w, i32_w]
    rfl
  refine pure_ (i := 6) (N := some 48) (v := ?_) (a' := ?_) #[true, true, false, true, false, true, true, false, false] rfl rfl (by kernel_rfl) (fun _ _ _ h => h) (Or.inl ⟨by rfl, ?_⟩) ?_ ?_
  rotate_left
  · intro w'
    go_simp
    with_reducible rfl
  rotate_left
  · simp only [Act.put, List.setIfInBounds_toArray, List.set_cons_zero, List.set_cons_succ, i64_w, i32_w]
    rfl
  refine one_ (i := 2) (N := some 44) #[true, true, true, true, false, true, true, false, false] rfl rfl (by kernel_rfl) (by decide) (fun K hK => ?_)
  refine goes_ Try.func9 (by kernel_rfl) rfl #[.slice A1 4 cD] (by rfl) rfl rfl (by (try simp only [List.map_toArray, List.map_cons, List.map_nil]); first | done | rfl) ?_
  have hS5 := frame_Sum.calls ks A1 cD (D.take 4) s1 w4 HRt1.out (by have := HC1.out; rw [List.length_take]; omega) HS1.out
  rw [HT4.out] at hS5
  refine hS5.mono ?_
  clear hS5
  rintro e w5 ⟨rfl, hd5⟩
  refine ⟨_, rfl, ?_⟩
  refine hK.out _ _ trivial (fun hHeld => ?_)
  clear hK K
  refine norm_ (a' := ?_) ?_ ?_
  rotate_left
  · show Act.put _ (some 44) _ = _
    simp only [Act.put, List.setIfInBounds_toArray, List.set_cons_zero, List.set_cons_succ, i64_w, i32_w]
    rfl
  have HB5 := Aside0.mk (below_step HB2.out hd5.below)
  have HR5 := Aside0.mk (Kd.C_below HR4.out hd5.below)
  have HRd5 := Aside0.mk (Kd.C_below HRd1.out hd5.below)
  clear HB2 HR4 HRd1 hd5 HRt1
  refine one_ (i := 4) (N := some 46) #[true, true, true, true, true, true, true, false, false] rfl rfl (by kernel_rfl) (by decide) (fun K hK => ?_)
  refine goes_ Try.func16 (by kernel_rfl) rfl #[.int .u32 s1, .slice A2 IN.length (cD - 8)] (by rfl) rfl rfl (by (try simp only [List.map_toArray, List.map_cons, List.map_nil]); first | done | rfl) ?_
  refine (frame_Extend.calls ks s1 A2 (cD - 8) IN s2 w5 HR5.out HC2.out HS2.out).mono ?_
  rintro e w6 ⟨rfl, hd6⟩
  refine ⟨_, rfl, ?_⟩
  refine hK.out _ _ trivial (fun hHeld => ?_)
  clear hK K
  refine norm_ (a' := ?_) ?_ ?_
  rotate_left
  · show Act.put _ (some 46) _ = _
    simp only [Act.put, List.setIfInBounds_toArray, List.set_cons_zero, List.set_cons_succ, i64_w, i32_w]
    rfl
  have HB6 := Aside0.mk (below_step HB5.out hd6.below)
  have HR6 := Aside0.mk (Kd.C_below HR5.out hd6.below)
  have HRd6 := Aside0.mk (Kd.C_below HRd5.out hd6.below)
  clear HB5 HR5 HRd5 hd6
  refine one_ (i := 7) (N := some 49) #[true, true, true, true, true, true, true, true, false] rfl rfl (by kernel_rfl) (by decide) (fun K hK => ?_)
  refine goes_ Try.func25 (by kernel_rfl) rfl #[.slice A4 D4.length (cD - 4)] (by rfl) rfl rfl (by (try simp only [List.map_toArray, List.map_cons, List.map_nil]); first | done | rfl) ?_
  refine (HG2.out w6 HRd6.out).mono ?_
  rintro e w7 ⟨rfl, hd7⟩
  refine ⟨_, rfl, ?_⟩
  refine hK.out _ _ trivial (fun hHeld => ?_)
  clear hK K
  refine norm_ (a' := ?_) ?_ ?_
  rotate_left
  · show Act.put _ (some 49) _ = _
    simp only [Act.put, List.setIfInBounds_toArray, List.set_cons_zero, List.set_cons_succ, i64_w, i32_w]
    rfl
  have HB7 := Aside0.mk (below_step HB6.out hd7.below)
  have HR7 := Aside0.mk (Kd.C_below HR6.out hd7.below)
  clear HB6 HR6 hd7 HRd6
  refine pure_ (i := 8) (N := some 50) (v := ?_) (a' := ?_) #[true, true, true, true, true, true, true, true, true] rfl rfl (by kernel_rfl) (fun _ _ _ h => h) (Or.inl ⟨by rfl, ?_⟩) ?_ ?_
  rotate_left
  · intro w'
    go_simp
    with_reducible rfl
  rotate_left
  · simp only [Act.put, List.setIfInBounds_toArray, List.set_cons_zero, List.set_cons_succ, i64_w, i32_w]
    rfl
  refine done_ (by kernel_rfl) ?_
  have c6 : (s2 != g4) = false := by simpa using h5
  have hlN : IN.length ≤ 65536 := by have := HL.out; omega
  have hlb : a1 + 8 + n ≤ 9223372036854775807 := by omega
  go_wp2_with (first
    | ((with_reducible refine gate_dst (N := 53) rfl ?_); refine Kd.R_make (Kd.int .u8) _ 5 rfl (N := 53) rfl 24 _ _ rfl (IN.length : Int) rfl rfl Try.underlying24 (.int .u8 0) 1 info5 rfl (by decide) (by omega) 0 (ok := fun _ => True) (okp := fun _ => True) rfl (fun _ hk => hk) trivial (by omega) (by omega) (Below.refl _ _) (Nat.le_refl _) ?_;
       intro v w8 ho hb8 hg8 hn8; have HO := Aside0.mk (Kd.R_lower ho (HB7.out).size); have HB8 := Aside0.mk (below_step HB7.out hb8); have HR8 := Aside0.mk (Kd.C_below HR7.out hb8); clear ho hb8 hg8 hn8 HB7 HR7)
    | ((with_reducible refine gate_builtin (b := .copy) (xs := #[.tmp 54, .tmp 55]) rfl ?_); refine Kd.R_copy (enc := Value.int .u8) (0 : Int) (w0 := w) w.heap.size rfl (.tmp 54) (.tmp 55) 24 24 5 rfl Try.underlying24 (by kernel_rfl) _ _ IN A2 IN.length (cD - 8) (fun _ => True) rfl rfl HO.out HR8.out HB8.out (HB8.out).size ?_;
       intro w9 ho9 hb9 hg9; have HO9 := Aside0.mk ho9; have HB9 := Aside0.mk hb9; clear ho9 hb9 hg9 HO HB8 HR8)
    | fail)
  go_ret3
  exact ⟨_, rfl, by have h := HO9.out; simp at h; exact h, HB9.out⟩
theorem frame_Next.calls (A0 : Option Addr) (c0 : Nat) (l0 : List Int) (a1 : Int) (r1 : List Int) (r2 : Int) (r3 : Int) (w : World) (hr0 : Kd.C (Kd.int .u8) w A0 l0.length l0) (hc0 : l0.length ≤ c0) (h : frame_Next.f l0 a1 = some (r1, r2, r3)) :
    Calls Try.prog 17 #[.slice A0 l0.length c0, .int .i64 a1] w fun e w' => ∃ v0_ : Value, e = .returned (.tuple #[v0_, .int .i64 r2, .int .i64 r3]) ∧ Kd.R (Kd.int .u8) 5 w' w.heap.size (fun _ => True) v0_ r1 ∧ Below w.heap.size w w' := by
  unfold frame_Next.f at h
  split at h
  · rename_i hb
    have hB := (okB_iff _).1 hb
    have h := Option.some.inj h
    unfold nextOf at h
    split at h
    · rename_i hr
      obtain ⟨rfl, rfl, rfl⟩ : [] = r1 ∧ 0 = r2 ∧ 2 = r3 := by simpa using h
      rcases Int.lt_or_le a1 0 with hn | hn
      · exact Next_neg A0 c0 l0 a1 w hr0 hc0 hn
      · exact Next_far A0 c0 l0 a1 w hr0 hc0 hn (by omega)
    rename_i hr
    have h0 : 0 ≤ a1 := by omega
    have h1 : a1 ≤ (l0.length : Int) := by omega
    split at h
    · rename_i h2
      obtain ⟨rfl, rfl, rfl⟩ : [] = r1 ∧ 0 = r2 ∧ 3 = r3 := by simpa using h
      exact Next_short A0 c0 l0 a1 w hr0 hc0 h0 h1 h2
    rename_i h2
    have h2 : 8 ≤ (l0.drop a1.toNat).length := by omega
    have hBd := B8_drop hB a1.toNat
    have hBd4 := B8_drop hBd 4
    split at h
    · rename_i h3
      obtain ⟨rfl, rfl, rfl⟩ : [] = r1 ∧ 0 = r2 ∧ 6 = r3 := by simpa using h
      exact Next_limit A0 c0 l0 a1 w hr0 hc0 h0 h1 h2 hBd h3
    rename_i h3
    split at h
    · rename_i h4
      obtain ⟨rfl, rfl, rfl⟩ : [] = r1 ∧ 0 = r2 ∧ 3 = r3 := by simpa using h
      exact Next_less A0 c0 l0 a1 w hr0 hc0 h0 h1 h2 hBd (by omega) h4
    rename_i h4
    have hg := get4_range hBd
    have hin : ((l0.drop a1.toNat).take (8 + get4 (l0.drop a1.toNat)).toNat).drop 8 = ((l0.drop a1.toNat).drop 8).take (get4 (l0.drop a1.toNat)).toNat := by
      rw [List.drop_take]
      congr 1
      omega
    have hBin := B8_drop (B8_take hBd (8 + get4 (l0.drop a1.toNat)).toNat) 8
    have hlin : (((l0.drop a1.toNat).take (8 + get4 (l0.drop a1.toNat)).toNat).drop 8).length ≤ 140737488355328 := by
      rw [List.length_drop, List.length_take]
      omega
    obtain ⟨K1, e1⟩ := Sum_is ((l0.drop a1.toNat).take 4) (by rw [List.length_take]; omega) (B8_take hBd 4)
    obtain ⟨K2, e2⟩ := Extend_is (fextend 0 ((l0.drop a1.toNat).take 4)) _ (fextend_range _ _).1 (fextend_range _ _).2 hlin hBin
    split at h
    · rename_i h5
      obtain ⟨rfl, rfl, rfl⟩ : [] = r1 ∧ 0 = r2 ∧ 5 = r3 := by simpa using h
      exact Next_sum A0 c0 l0 a1 w hr0 hc0 h0 h1 h2 hBd (by omega) (by omega) (max K1 K2) _ _ (e1 _ (Nat.le_max_left _ _)) (e2 _ (Nat.le_max_right _ _)) (by rw [hin]; exact h5)
    · rename_i h5
      obtain ⟨rfl, rfl, rfl⟩ : _ = r1 ∧ _ = r2 ∧ 0 = r3 := by simpa only [Prod.mk.injEq] using h
      rw [← hin]
      exact Next_ok A0 c0 l0 a1 w hr0 hc0 h0 h1 h2 hBd (by omega) (by omega) (max K1 K2) _ _ (e1 _ (Nat.le_max_left _ _)) (e2 _ (Nat.le_max_right _ _)) (by rw [hin]; exact Classical.not_not.1 h5)
  · cases h


end Go.Proofs.Ytaacjoeldgganaa.S
