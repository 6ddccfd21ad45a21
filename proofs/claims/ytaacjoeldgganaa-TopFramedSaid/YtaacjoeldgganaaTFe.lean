import Derived.Test.YtaacjoeldgganaaTFd
/-! The reader's data. -/
namespace Go.Proofs.Ytaacjoeldgganaa.S
open Go.RowKit Go.Proofs.YtaacjoeldgganaaW.PrintWords Go.Proofs.YtaacjoeldgganaaW.PrintLast Go.Proofs.YtaacjoeldgganaaW.PrintMore
set_option linter.unusedVariables false
set_option linter.unusedSimpArgs false
theorem slice_mid {P : Program} (t e : TypeId) {i : TypeInfo} (ht : P.underlying t = some (.slice e)) (hi : P.info? e = some i) (hsz : i.size = 1) (A : Option Addr) (N cap p m : Nat) (pI qI : Int) (hp : pI = (p : Int)) (hq : qI = ((p + m : Nat) : Int)) (hN : p + m ≤ cap) :
    ∀ W : World, (Instr.slice t (.slice A N cap) (some (.int .i64 pI)) (some (.int .i64 qI)) none).run P W = .ok (.slice (if cap = p then A else A.map (·.add p)) m (cap - p)) W := by
  intro W
  have hel : P.elem t = e := by simp [Program.elem, ht]
  have hu : P.underlying t = some (.slice (P.elem t)) := by rw [hel]; exact ht
  subst hp hq
  rw [run_slice_lh W t A N cap hu .i64 .i64 (p : Int) ((p + m : Nat) : Int) (Int.natCast_nonneg _) (by omega) (by omega), hel]
  simp [sizeOf, typeInfo, hi, hsz, sliced, Result.andThen, Nat.add_sub_cancel_left]
  omega
noncomputable def data_T6 : Bool × List (List Nat × List Nat) := rtab .any (opsOf Try.f22 6)
theorem data_tab6 : rtab .any (opsOf Try.f22 6) = data_T6 := rfl
theorem C_mid {w : World} {A : Option Addr} {l d post : List Int} {c p : Nat} (hr : Kd.C (Kd.int .u8) w A l.length l) (hc : l.length ≤ c) (hp : p ≤ l.length) (hl : l.drop p = d ++ post) : Kd.C (Kd.int .u8) w (if c = p then A else A.map (·.add p)) d.length d := by
  have h1 := Kd.C_drop hr hp hc
  rw [show (Kd.int .u8 : Kd Int).sz = 1 from rfl, Nat.mul_one, hl] at h1
  have h2 := Kd.C_take (m := d.length) h1 (by simp)
  rw [List.take_left] at h2
  exact h2
set_option maxHeartbeats 4000000 in
set_option maxRecDepth 100000 in
theorem rd_data {w0 w : World} (hB : Below w0.heap.size w0 w) {g : Nat} (hg : w0.heap.size ≤ g) {A : Option Addr} {c : Nat} {l d post : List Int} (hr : Kd.C (Kd.int .u8) w0 A l.length l) (hc : l.length ≤ c) {p : Nat} (hA : RdAt w g A l.length c p) (most : Int) (hd : (d.length : Int) ≤ most) (hm : most ≤ 1048576) (hl : l.drop p = enc d.length ++ (d ++ post)) (hp : p ≤ l.length) (hlen : l.length < 1152921504606846976) :
    Calls Try.prog 22 #[.pointer (some ⟨g, 0, none⟩), .int .i64 most] w fun e w' => ∃ v, e = .returned v ∧ Kd.R (Kd.int .u8) 5 w' w.heap.size (fun _ => True) v d ∧ RdAt w' g A l.length c ((p + (enc d.length).length + d.length : Nat) : Int) ∧ Below w0.heap.size w0 w' ∧ KeepBut w w' g none := by
  have HG := Aside0.mk hg
  have HR := Aside0.mk hr
  obtain ⟨q, hq⟩ : ∃ q : Nat, q = p + (enc d.length).length := ⟨_, rfl⟩
  obtain ⟨z, hz⟩ : ∃ z : Nat, z = q + d.length := ⟨_, rfl⟩
  have hl2 : l.drop q = d ++ post := by rw [hq, ← List.drop_drop, hl, List.drop_left]
  have hll : (l.drop p).length = (enc d.length).length + (d.length + post.length) := by rw [hl]; simp
  rw [List.length_drop] at hll
  have hzl : z ≤ l.length := by omega
  rw [← hq, ← hz]
  have HCm := Aside0.mk (C_mid hr hc (by omega : q ≤ l.length) hl2)
  have HN := Aside0.mk ((rd_number hB hg hr hA (n := d.length) 0 (by omega) (by omega) (by omega) hl hp hlen))
  rw [← hq] at HN
  obtain ⟨i5, hi5, hz5⟩ := Option.map_eq_some_iff.1 info5
  simp only [Prod.mk.injEq] at hz5
  have hS := slice_mid (P := Try.prog) 24 5 Try.underlying24 hi5 hz5.2.1 A l.length c q d.length q z rfl (by rw [hz]) (by omega)
  generalize (if c = q then A else A.map (·.add q)) = B at HCm hS
  have c1 : decide (most < (d.length : Int)) = false := decide_eq_false (by omega)
  have c2 : decide ((l.length : Int) - (q : Int) < (d.length : Int)) = false := decide_eq_false (by omega)
  have f1 : wrap64 ((l.length : Int) - (q : Int)) = (l.length : Int) - (q : Int) := wr _ (by omega) (by omega)
  have f2 : wrap64 ((q : Int) + (d.length : Int)) = (z : Int) := (wr _ (by clear f1; omega) (by clear f1; omega)).trans (by clear f1; omega)
  have HLE := Aside0.mk (show d.length ≤ 1048576 by clear f1 f2; omega)
  clear hB hg hr hc hA hd hm hl hp hlen hl2 hll hzl hq hz hi5 hz5
  go_enter Try.func22, Try.ntmps22
  go_upto_region 6 with (go_at_call 20; refine HN.out.mono ?_; rintro e w2 ⟨rfl, hA2, hB2, hK2⟩; have HA := Aside0.mk hA2; have HB := Aside0.mk hB2; have HK := Aside0.mk hK2; clear HN hA2 hB2 hK2; have k0 : w2.cell? ⟨g, 0, none⟩ = some (.slice A l.length c) := (blk_cell HA.out 0).trans rfl; have k1 : w2.cell? ⟨g, 1, none⟩ = some (.int .i64 q) := (blk_cell HA.out 1).trans rfl)
  repeat (go_quiet (fail); try go_upto_region 6 with (fail))
  have n0_ := Aside0.mk (RdAt.drewN HA.out nq)
  have n1_ := Aside0.mk (pw_below_drewN HB.out nq)
  have n2_ := Aside0.mk (keep_drewN HK.out nq)
  clear HA HB HK k0 k1
  have HA := n0_
  have HB := n1_
  have HK := n2_
  clear n0_ n1_ n2_
  generalize w2.drewN nq = w3 at HA HB HK ⊢
  refine start_ (n := 17) (S := fun w' => w'.cell? ⟨g, 0, none⟩ = some (.slice A l.length c) ∧ w'.cell? ⟨g, 1, none⟩ = some (.int .i64 q)) (ds := []) #[false, false, false, false, false, false, false, false, false, false, false, false, false, false, false, false, false] (by kernel_rfl) rfl rfl ⟨(blk_cell HA.out 0).trans rfl, (blk_cell HA.out 1).trans rfl⟩ (fun hHeld => ?_)
  refine with_tab (T := data_T6) data_tab6 (fun HT_ => ?_)
  have n0_ := Aside0.mk (RdAt.drew HA.out)
  have n1_ := Aside0.mk (below_drew1 HB.out)
  have n2_ := Aside0.mk (keep_drew HK.out)
  clear HA HB HK
  have HA := n0_
  have HB := n1_
  have HK := n2_
  clear n0_ n1_ n2_
  generalize w3.drew = w4 at HA HB HK hHeld ⊢
  refine pure_ (i := 0) (N := some 26) (v := ?_) (a' := ?_) #[true, false, false, false, false, false, false, false, false, false, false, false, false, false, false, false, false] rfl rfl (any_of HT_.out (by kernel_rfl)) (fun _ _ _ h => h) (Or.inl ⟨by rfl, ?_⟩) ?_ ?_
  rotate_left
  · intro w'
    go_simp
    with_reducible rfl
  rotate_left
  · simp only [Act.put, List.setIfInBounds_toArray, List.set_cons_zero, List.set_cons_succ, i64_w, i32_w]
    rfl
  refine pure_ (i := 1) (N := some 27) (v := ?_) (a' := ?_) #[true, true, false, false, false, false, false, false, false, false, false, false, false, false, false, false, false] rfl rfl (any_of HT_.out (by kernel_rfl)) (fun _ _ _ h => h) (Or.inl ⟨by rfl, ?_⟩) ?_ ?_
  rotate_left
  · intro w'
    go_simp
    with_reducible rfl
  rotate_left
  · simp only [Act.put, List.setIfInBounds_toArray, List.set_cons_zero, List.set_cons_succ, i64_w, i32_w]
    rfl
  refine pure_ (i := 2) (N := some 28) (v := ?_) (a' := ?_) #[true, true, true, false, false, false, false, false, false, false, false, false, false, false, false, false, false] rfl rfl (any_of HT_.out (by kernel_rfl)) (fun _ _ _ h => h) (Or.inl ⟨by rfl, ?_⟩) ?_ ?_
  rotate_left
  · intro w'
    go_simp
    with_reducible rfl
  rotate_left
  · simp only [Act.put, List.setIfInBounds_toArray, List.set_cons_zero, List.set_cons_succ, i64_w, i32_w]
    rfl
  refine take_ (i := 3) (N := some 29) (v := ?_) (a' := ?_) #[true, true, true, true, false, false, false, false, false, false, false, false, false, false, false, false, false] rfl rfl (take_of HT_.out (by kernel_rfl)) (fun _ _ _ h => h) (Or.inl ⟨by rfl, ?_⟩) hHeld ?_ ?_
  rotate_left
  · rintro w' ⟨s0, s1⟩
    go_simp
    with_reducible rfl
  rotate_left
  · simp only [Act.put, List.setIfInBounds_toArray, List.set_cons_zero, List.set_cons_succ, i64_w, i32_w]
    rfl
  refine pure_ (i := 4) (N := some 30) (v := ?_) (a' := ?_) #[true, true, true, true, true, false, false, false, false, false, false, false, false, false, false, false, false] rfl rfl (any_of HT_.out (by kernel_rfl)) (fun _ _ _ h => h) (Or.inl ⟨by rfl, ?_⟩) ?_ ?_
  rotate_left
  · intro w'
    go_simp
    with_reducible rfl
  rotate_left
  · simp only [Act.put, List.setIfInBounds_toArray, List.set_cons_zero, List.set_cons_succ, i64_w, i32_w]
    rfl
  refine pure_ (i := 5) (N := some 31) (v := ?_) (a' := ?_) #[true, true, true, true, true, true, false, false, false, false, false, false, false, false, false, false, false] rfl rfl (any_of HT_.out (by kernel_rfl)) (fun _ _ _ h => h) (Or.inl ⟨by rfl, ?_⟩) ?_ ?_
  rotate_left
  · intro w'
    go_simp
    with_reducible rfl
  rotate_left
  · simp only [Act.put, List.setIfInBounds_toArray, List.set_cons_zero, List.set_cons_succ, i64_w, i32_w]
    rfl
  refine pure_ (i := 6) (N := some 32) (v := ?_) (a' := ?_) #[true, true, true, true, true, true, true, false, false, false, false, false, false, false, false, false, false] rfl rfl (any_of HT_.out (by kernel_rfl)) (fun _ _ _ h => h) (Or.inl ⟨by rfl, ?_⟩) ?_ ?_
  rotate_left
  · intro w'
    go_simp
    with_reducible rfl
  rotate_left
  · simp only [Act.put, List.setIfInBounds_toArray, List.set_cons_zero, List.set_cons_succ, i64_w, i32_w]
    rfl
  refine take_ (i := 7) (N := some 33) (v := ?_) (a' := ?_) #[true, true, true, true, true, true, true, true, false, false, false, false, false, false, false, false, false] rfl rfl (take_of HT_.out (by kernel_rfl)) (fun _ _ _ h => h) (Or.inl ⟨by rfl, ?_⟩) hHeld ?_ ?_
  rotate_left
  · rintro w' ⟨s0, s1⟩
    go_simp
    with_reducible rfl
  rotate_left
  · simp only [Act.put, List.setIfInBounds_toArray, List.set_cons_zero, List.set_cons_succ, i64_w, i32_w]
    rfl
  refine pure_ (i := 8) (N := some 34) (v := ?_) (a' := ?_) #[true, true, true, true, true, true, true, true, true, false, false, false, false, false, false, false, false] rfl rfl (any_of HT_.out (by kernel_rfl)) (fun _ _ _ h => h) (Or.inl ⟨by rfl, ?_⟩) ?_ ?_
  rotate_left
  · intro w'
    go_simp
    with_reducible rfl
  rotate_left
  · simp only [Act.put, List.setIfInBounds_toArray, List.set_cons_zero, List.set_cons_succ, i64_w, i32_w]
    rfl
  refine pure_ (i := 9) (N := some 35) (v := ?_) (a' := ?_) #[true, true, true, true, true, true, true, true, true, true, false, false, false, false, false, false, false] rfl rfl (any_of HT_.out (by kernel_rfl)) (fun _ _ _ h => h) (Or.inl ⟨by rfl, ?_⟩) ?_ ?_
  rotate_left
  · intro w'
    go_simp
    with_reducible rfl
  rotate_left
  · simp only [Act.put, List.setIfInBounds_toArray, List.set_cons_zero, List.set_cons_succ, i64_w, i32_w]
    rfl
  refine pure_ (i := 10) (N := some 36) (v := ?_) (a' := ?_) #[true, true, true, true, true, true, true, true, true, true, true, false, false, false, false, false, false] rfl rfl (any_of HT_.out (by kernel_rfl)) (fun _ _ _ h => h) (Or.inl ⟨by rfl, ?_⟩) ?_ ?_
  rotate_left
  · intro w'
    go_simp
    with_reducible rfl
  rotate_left
  · simp only [Act.put, List.setIfInBounds_toArray, List.set_cons_zero, List.set_cons_succ, i64_w, i32_w]
    rfl
  refine take_ (i := 11) (N := some 37) (v := ?_) (a' := ?_) #[true, true, true, true, true, true, true, true, true, true, true, true, false, false, false, false, false] rfl rfl (take_of HT_.out (by kernel_rfl)) (fun _ _ _ h => h) (Or.inl ⟨by rfl, ?_⟩) hHeld ?_ ?_
  rotate_left
  · rintro w' ⟨s0, s1⟩
    go_simp
    with_reducible rfl
  rotate_left
  · simp only [Act.put, List.setIfInBounds_toArray, List.set_cons_zero, List.set_cons_succ, i64_w, i32_w]
    rfl
  refine pure_ (i := 12) (N := some 38) (v := ?_) (a' := ?_) #[true, true, true, true, true, true, true, true, true, true, true, true, true, false, false, false, false] rfl rfl (any_of HT_.out (by kernel_rfl)) (fun _ _ _ h => h) (Or.inl ⟨by rfl, ?_⟩) ?_ ?_
  rotate_left
  · intro w'
    go_simp
    with_reducible rfl
  rotate_left
  · simp only [Act.put, List.setIfInBounds_toArray, List.set_cons_zero, List.set_cons_succ, i64_w, i32_w]
    rfl
  refine pure_ (i := 13) (N := some 39) (v := ?_) (a' := ?_) #[true, true, true, true, true, true, true, true, true, true, true, true, true, true, false, false, false] rfl rfl (any_of HT_.out (by kernel_rfl)) (fun _ _ _ h => h) (Or.inl ⟨by rfl, ?_⟩) ?_ ?_
  rotate_left
  · intro w'
    go_simp
    with_reducible rfl
  rotate_left
  · simp only [Act.put, List.setIfInBounds_toArray, List.set_cons_zero, List.set_cons_succ, i64_w, i32_w]
    rfl
  refine pure_ (i := 14) (N := some 40) (v := ?_) (a' := ?_) #[true, true, true, true, true, true, true, true, true, true, true, true, true, true, true, false, false] rfl rfl (any_of HT_.out (by kernel_rfl)) (fun _ _ _ h => h) (Or.inl ⟨by rfl, ?_⟩) ?_ ?_
  rotate_left
  · intro w'
    go_simp
    with_reducible rfl
  rotate_left
  · simp only [Act.put, List.setIfInBounds_toArray, List.set_cons_zero, List.set_cons_succ, i64_w, i32_w]
    rfl
  refine one_ (i := 15) (N := some 41) #[true, true, true, true, true, true, true, true, true, true, true, true, true, true, true, true, false] rfl rfl (one_of HT_.out (by kernel_rfl)) (by decide) (fun K hK => ?_)
  refine Kd.R_append_rows_step (Kd.int .u8) (w0 := w4) w4.heap.size (by rfl) (.const (.slice none 0 0)) (.tmp 40) 24 5 (.int .u8 0) 1 rfl Try.underlying24 info5 rfl (by decide) (by omega) (.slice none 0 0) [] d _ _ _ (fun _ => True) (fun _ => False) rfl rfl (Kd.R_nil _ _ _ _ _) (Kd.C_below HCm.out HB.out) (fun _ _ h => h) (fun _ h => h.elim) (fun _ _ => trivial) (Below.refl _ _) (Nat.le_refl _) ?aL ?_
  case aL => have := HLE.out; simp only [List.length_nil]; omega
  intro v1 w5 ho hb hgr hat
  have HO := Aside0.mk (Kd.R_lower ho HK.out.1 : Kd.R (Kd.int .u8) 5 w5 w.heap.size (fun _ => True) v1 d)
  have n0_ := Aside0.mk (blk_below HA.out hb : RdAt w5 g A l.length c q)
  have n1_ := Aside0.mk (below_then HB.out HB.out.size hb)
  have n2_ := Aside0.mk (KeepBut.trans HK.out (KeepBut.of_below hb g none) (.inl rfl))
  clear HA HB HK ho hb hgr hat
  have HA := n0_
  have HB := n1_
  have HK := n2_
  clear n0_ n1_ n2_
  refine hK.out _ _ ⟨(blk_cell HA.out 0).trans rfl, (blk_cell HA.out 1).trans rfl⟩ (fun hHeld => ?_)
  clear hK K
  refine norm_ (a' := ?_) ?_ ?_
  rotate_left
  · show Act.put _ (some 41) _ = _
    simp only [Act.put, List.setIfInBounds_toArray, List.set_cons_zero, List.set_cons_succ, i64_w, i32_w]
    rfl
  refine pure_ (i := 16) (N := some 6) (v := ?_) (a' := ?_) #[true, true, true, true, true, true, true, true, true, true, true, true, true, true, true, true, true] rfl rfl (any_of HT_.out (by kernel_rfl)) (fun _ _ _ h => h) (Or.inl ⟨by rfl, ?_⟩) ?_ ?_
  rotate_left
  · intro w'
    go_simp
    with_reducible rfl
  rotate_left
  · simp only [Act.put, List.setIfInBounds_toArray, List.set_cons_zero, List.set_cons_succ, i64_w, i32_w]
    rfl
  refine done_ (done_of HT_.out (by kernel_rfl)) ?_
  clear hHeld
  have k0 : w5.cell? ⟨g, 0, none⟩ = some (.slice A l.length c) := (blk_cell HA.out 0).trans rfl
  have k1 : w5.cell? ⟨g, 1, none⟩ = some (.int .i64 q) := (blk_cell HA.out 1).trans rfl
  have kf := blk_frozen HA.out 1
  go_wp2
  go_ret
  exact ⟨_, rfl, Kd.R_set HO.out HA.out (by decide) 1 _, RdAt.set HA.out z, below_set HB.out HG.out, KeepBut.set_ HK.out 1 _⟩
end Go.Proofs.Ytaacjoeldgganaa.S
