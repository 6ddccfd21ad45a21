import Derived.Test.YtaacjoeldgganaaSx1
import Derived.Test.YtaacjoeldgganaaSx12
import Derived.Test.YtaacjoeldgganaaSx16
import Derived.Test.YtaacjoeldgganaaSx7
import Derived.Test.YtaacjoeldgganaaSx9
import Derived.Test.YtaacjoeldgganaaTFr
import Derived.Lib.SlBytesConst
/-! The law TopFramed. -/
namespace Go.Proofs.Ytaacjoeldgganaa.S
open Go.RowKit Go.Proofs.YtaacjoeldgganaaW.PrintWords Go.Proofs.YtaacjoeldgganaaW.PrintLast Go.Proofs.YtaacjoeldgganaaW.PrintMore
set_option linter.unusedVariables false
set_option linter.unusedSimpArgs false
theorem infoI_ : (Try.prog.info? 3).map (fun i => (i.zero, i.size, i.bytes)) = some (some (.int .i64 0), 1, 8) := by kernel_rfl
theorem infoM_ : (Try.prog.info? 32).map (fun i => (i.zero, i.size, i.bytes)) = some (some (.agg #[.int .i64 0, .int .i64 0, .int .i64 0, .int .i64 0, .int .i64 0, .int .i64 0, .int .i64 0, .int .i64 0, .int .i64 0, .bool false, .slice none 0 0, .slice none 0 0]), 12, 128) := by kernel_rfl
noncomputable def framed_T26 : Bool × List (List Nat × List Nat) := rtab .any (opsOf Try.f3 26)
theorem framed_T26_is : rtab .any (opsOf Try.f3 26) = framed_T26 := rfl
set_option maxHeartbeats 16000000 in
set_option maxRecDepth 100000 in
theorem tollgatetop_TopFramed.hand (A0 : Option Addr) (c0 : Nat) (l : List S32) (torn : Int) (w : World) (hr0 : Kd.C k32 w A0 l.length l) (hc0 : l.length ≤ c0) (hok : ∀ m ∈ l, FP.okM m) (ht : 0 ≤ torn ∧ torn ≤ 65535) :
    Calls Try.prog 3 #[.slice A0 l.length c0, .int .u16 torn] w fun e w' => e = .returned (.bool true) ∧ Below w.heap.size w w' := by
  have HR0 := Aside0.mk hr0
  have HC0 := Aside0.mk hc0
  have HOK := Aside0.mk hok
  have HT := Aside0.mk ht
  clear hr0 hc0 hok ht
  have HB := Aside0.mk (Below.refl w.heap.size w)
  have hu := Try.underlying32
  go_enter Try.func3, Try.ntmps3
  go_wp2
  go_loopg [5, 6, 7, 8] 20 (fun n v5 v6 v7 v8 W => ∃ (i : Nat) (ms : List S32) (rs : List (List Value)) (A5 A6 A7 : Option Addr) (n5 n6 n7 c5 c6 c7 : Nat), v5 = .slice A5 n5 c5 ∧ v6 = .slice A6 n6 c6 ∧ v7 = .slice A7 n7 c7 ∧ v8 = .int .i64 (i : Int) ∧ Aside0 (n + i = 20 ∧ ms.length ≤ i) ∧ Aside0 (okMs ms) ∧ Aside0 (RawsAt w ms rs) ∧ Aside0 (n5 = (bys ms).length ∧ n6 = (ens ms).length ∧ n7 = rs.length) ∧ Aside0 (Kd.R (Kd.int .u8) 5 W w.heap.size (fun _ => True) (.slice A5 n5 c5) (bys ms)) ∧ Aside0 (Kd.R (Kd.int .i64) 3 W w.heap.size (fun _ => True) (.slice A6 n6 c6) (ens ms)) ∧ Aside0 (Kd.R (Kd.raw 12) 32 W w.heap.size (fun _ => True) (.slice A7 n7 c7) rs) ∧ Aside0 (Below w.heap.size w W))
  case atStart => exact ⟨0, [], [], none, none, none, 0, 0, 0, 0, 0, 0, rfl, rfl, rfl, rfl, ⟨⟨rfl, Nat.le_refl _⟩⟩, ⟨fun m hm => by cases hm⟩, ⟨RawsAt.nil w⟩, ⟨⟨rfl, rfl, rfl⟩⟩, ⟨Kd.R_nil _ _ _ _ _⟩, ⟨Kd.R_nil _ _ _ _ _⟩, ⟨Kd.R_nil _ _ _ _ _⟩, ⟨(by repeat (first | (with_reducible first | exact HB.out | apply below_alloc | apply pw_below_drewN | apply below_drew1) | exact HB.out))⟩⟩
  case round =>
    clear HB
    obtain ⟨i, ms, rs, A5, A6, A7, n5, n6, n7, c5, c6, c7, rfl, rfl, rfl, rfl, HN, HMS, HRW, HL, HO5, HO6, HO7, HB⟩ := hrel
    by_cases hi : i < l.length ∧ i < 20
    · obtain ⟨hi, hi20⟩ := hi
      have a1 : decide ((i : Int) < (l.length : Int)) = true := decide_eq_true (by omega)
      have a1n : decide (i < l.length) = true := decide_eq_true hi
      have a2 : decide ((i : Int) < 20) = true := decide_eq_true (by omega)
      have a2n : decide (i < 20) = true := decide_eq_true hi20
      obtain ⟨ad, c, e, _, hK, hcc⟩ := Kd.C_get HR0.out z32 (i : Int) (by omega) (by omega)
      cases e
      have hm_ : l.getD ((i : Int)).toNat z32 ∈ l := by rw [Int.toNat_natCast, List.getD_eq_getElem?_getD, List.getElem?_eq_getElem hi]; exact List.getElem_mem hi
      generalize l.getD ((i : Int)).toNat z32 = m at hK hm_
      obtain ⟨A10, c10, A11, c11, rfl, hc10, hr10, hc11, hr11⟩ := k32_open hK
      have HM := Aside0.mk (HOK.out m hm_)
      have HR10 := Aside0.mk hr10
      have HC10 := Aside0.mk hc10
      have HR11 := Aside0.mk hr11
      have HC11 := Aside0.mk hc11
      rw [Int.toNat_natCast] at hcc
      have HCC := Aside0.mk (show ∀ (j : Nat) (u : Value), ([.int .i64 m.f0, .int .i64 m.f1, .int .i64 m.f2, .int .i64 m.f3, .int .i64 m.f4, .int .i64 m.f5, .int .i64 m.f6, .int .i64 m.f7, .int .i64 m.f8, .bool m.f9, .slice A10 m.f10.length c10, .slice A11 m.f11.length c11] : List Value)[j]? = some u → w.cell? (ad.add (i * 12 + j)) = some u from hcc)
      have p1 := eq_true (show (0 : Int) ≤ (i : Int) by omega)
      have q1 := eq_true (show (i : Int) < (l.length : Int) by omega)
      have q1n := eq_true (show i < l.length by omega)
      have HI := Aside0.mk (⟨hi, hi20⟩ : i < l.length ∧ i < 20)
      clear hK hm_ hr10 hc10 hr11 hc11 hcc hi hi20
      go_upto_region 8 with (first | ((with_reducible refine gate_dst (N := 36) rfl ?_); (refine wpList_load_any rfl 32 (.tmp 35) rfl (ad.add (i * 12)) rfl [.int .i64 m.f0, .int .i64 m.f1, .int .i64 m.f2, .int .i64 m.f3, .int .i64 m.f4, .int .i64 m.f5, .int .i64 m.f6, .int .i64 m.f7, .int .i64 m.f8, .bool m.f9, .slice A10 m.f10.length c10, .slice A11 m.f11.length c11] _ (fun j v hv => by rw [add_add]; exact (HB.out.cell (World.block_lt_of_cell? w _ (HCC.out j v hv))).trans (HCC.out j v hv)) hu rfl (by kernel_rfl) ?_; simp only [Act.put, List.setIfInBounds_toArray, List.set_cons_zero, List.set_cons_succ])) | (go_at_call 4; (refine (put_msg1 m (Kd.C_below HR10.out HB.out) HC10.out (Kd.C_below HR11.out HB.out) HC11.out).mono ?_; rintro e w1 ⟨A9, n9, c9, er, xs, rfl, hn9, hR, hE, hb⟩; have N9 := Aside0.mk hn9; have HE := Aside0.mk hE; have HO9 := Aside0.mk (Kd.R_lower hR HB.out.size); have n0_ := Aside0.mk (Kd.R_below HO5.out hb); have n1_ := Aside0.mk (Kd.R_below HO6.out hb); have n2_ := Aside0.mk (Kd.R_below HO7.out hb); have n3_ := Aside0.mk (below_step HB.out hb); clear HO5 HO6 HO7 HB; have HO5 := n0_; have HO6 := n1_; have HO7 := n2_; have HB := n3_; clear n0_ n1_ n2_ n3_; clear hn9 hR hE hb)))
      obtain ⟨i', hi'⟩ : ∃ i' : Nat, i' = i + 1 := ⟨_, rfl⟩
      have hw : wrap64 ((i : Int) + 1) = (i' : Int) := by have := HI.out; subst hi'; unfold wrap64; omega
      have HI' := Aside0.mk hi'
      clear hi'
      by_cases her : er = 0
      · have e0 : (er == 0) = true := beq_iff_eq.mpr her
        have e1 : (er != 0) = false := bne_eq_false_iff_eq.mpr her
        obtain ⟨hwf, rfl⟩ := HE.out her
        clear HE her
        by_cases h5 : n9 ≤ 5000
        · have b0 : decide (5000 < (n9 : Int)) = false := decide_eq_false (by omega)
          have b1 : decide (5000 < n9) = false := decide_eq_false (by omega)
          have HMM := Aside0.mk (⟨hwf, HM.out, by have := N9.out; omega⟩ : wfM m ∧ FP.okM m ∧ (encM m).length ≤ 5000)
          have HMS2 := Aside0.mk (HMS.out.snoc HMM.out)
          clear hwf h5
          obtain rfl := N9.out
          clear N9
          go_upto_region 12 with ((go_at_call 5; (refine (frame_Frame.calls A9 c9 (encM m) (frameBytes (encM m)) 0 _ (Kd.R_reads' HO9.out).2.2 (Kd.R_reads' HO9.out).2.1 (frame_is HMM.out)).mono ?_; rintro e w2 ⟨v11, rfl, hR, hb⟩; obtain ⟨A11_, c11_, rfl⟩ := Kd.R_slice hR; have HF := Aside0.mk (Kd.R_lower hR HB.out.size); have n0_ := Aside0.mk (Kd.R_below HO5.out hb); have n1_ := Aside0.mk (Kd.R_below HO6.out hb); have n2_ := Aside0.mk (Kd.R_below HO7.out hb); have n3_ := Aside0.mk (below_step HB.out hb); clear HO5 HO6 HO7 HB; have HO5 := n0_; have HO6 := n1_; have HO7 := n2_; have HB := n3_; clear n0_ n1_ n2_ n3_; clear hR hb)))
          go_upto_region 13 with (((with_reducible refine gate_builtin (b := .append) (xs := #[.tmp 54, .tmp 55]) rfl ?_); at_builtin; (refine Kd.R_append_rows (Kd.int .u8) (w0 := w) w.heap.size rfl (.tmp 54) (.tmp 55) 24 5 (.int .u8 0) 1 rfl Try.underlying24 info5 rfl (by decide) (by omega) (.slice A5 n5 c5) (bys ms) (frameBytes (encM m)) _ _ _ (fun _ => True) (fun _ => False) rfl rfl HO5.out (Kd.R_reads' HF.out).2.2 (fun _ _ h => h) (fun _ h => h.elim) (fun _ _ => trivial) HB.out HB.out.size ?aL ?_; (case aL => have a_ := bys_length HMS.out; have b_ := HMM.out.2.2; have c_ := HN.out; have d_ := HI.out; have e_ := FP.frameBytes_length (encM m); omega); intro v5 w3 ho hb hg hat; rw [← bys_snoc] at ho; have n0_ := Aside0.mk (Kd.R_over' HO6.out (Kd.R_typed HO5.out) (by decide) hg); have n1_ := Aside0.mk (Kd.R_over' HO7.out (Kd.R_typed HO5.out) (by decide) hg); have n2_ := Aside0.mk (ho); have n3_ := Aside0.mk (hb); clear HO6 HO7 HO5 HB; have HO6 := n0_; have HO7 := n1_; have HO5 := n2_; have HB := n3_; clear n0_ n1_ n2_ n3_; clear HO9 HF; (try clear ho hb hg hat); obtain ⟨B5, d5, rfl⟩ := Kd.R_slice HO5.out)))
          go_upto_region 14 with (((with_reducible refine gate_builtin (b := .append) (xs := #[.tmp 57, .tmp 60]) rfl ?_); at_builtin; (refine Kd.R_append (Kd.int .i64) (w0 := w) w.heap.size rfl (.tmp 57) (.tmp 60) 25 3 (.int .i64 0) 8 rfl Try.underlying25 infoI_ rfl (by decide) (by omega) (.slice A6 n6 c6) (ens ms) ((bys (ms ++ [m])).length : Int) [.int .i64 ((bys (ms ++ [m])).length : Int)] (fun _ => True) (fun _ => False) rfl rfl ?aP (fun _ hk => hk.elim) (fun _ _ => trivial) HO6.out HB.out HB.out.size ?aL ?_; (case aP => exact rfl); (case aL => have a_ := ens_length ms; have c_ := HN.out; have d_ := HI.out; omega); intro v6 w4 ho hb hg hat; rw [← ens_snoc] at ho; have n0_ := Aside0.mk (Kd.R_over' HO5.out (Kd.R_typed HO6.out) (by decide) hg); have n1_ := Aside0.mk (Kd.R_over' HO7.out (Kd.R_typed HO6.out) (by decide) hg); have n2_ := Aside0.mk (ho); have n3_ := Aside0.mk (hb); clear HO5 HO7 HO6 HB; have HO5 := n0_; have HO7 := n1_; have HO6 := n2_; have HB := n3_; clear n0_ n1_ n2_ n3_; (try clear ho hb hg hat); obtain ⟨B6, d6, rfl⟩ := Kd.R_slice HO6.out)))
          obtain ⟨rs', hrs'⟩ : ∃ rs', rs' = rs ++ [rawM m A10 c10 A11 c11] := ⟨_, rfl⟩
          have HRS := Aside0.mk hrs'
          have HRW2 := Aside0.mk (show RawsAt w (ms ++ [m]) rs' from by rw [hrs']; exact HRW.out.snoc ⟨A10, c10, A11, c11, rfl, HC10.out, HR10.out, HC11.out, HR11.out⟩)
          clear hrs'
          go_wp2_with (first | ((with_reducible refine gate_dst (N := 66) rfl ?_); (refine wpList_load_any rfl 32 (.tmp 65) rfl (ad.add (i * 12)) rfl [.int .i64 m.f0, .int .i64 m.f1, .int .i64 m.f2, .int .i64 m.f3, .int .i64 m.f4, .int .i64 m.f5, .int .i64 m.f6, .int .i64 m.f7, .int .i64 m.f8, .bool m.f9, .slice A10 m.f10.length c10, .slice A11 m.f11.length c11] _ (fun j v hv => by rw [add_add]; exact (HB.out.cell (World.block_lt_of_cell? w _ (HCC.out j v hv))).trans (HCC.out j v hv)) hu rfl (by kernel_rfl) ?_; simp only [Act.put, List.setIfInBounds_toArray, List.set_cons_zero, List.set_cons_succ])) | ((with_reducible refine gate_builtin (b := .append) (xs := #[.tmp 62, .tmp 67]) rfl ?_); at_builtin; (refine Kd.R_append (Kd.raw 12) (w0 := w) w.heap.size rfl (.tmp 62) (.tmp 67) 22 32 (.agg #[.int .i64 0, .int .i64 0, .int .i64 0, .int .i64 0, .int .i64 0, .int .i64 0, .int .i64 0, .int .i64 0, .int .i64 0, .bool false, .slice none 0 0, .slice none 0 0]) 128 rfl Try.underlying22 infoM_ rfl (by decide) (by omega) (.slice A7 n7 c7) rs (rawM m A10 c10 A11 c11) [.int .i64 m.f0, .int .i64 m.f1, .int .i64 m.f2, .int .i64 m.f3, .int .i64 m.f4, .int .i64 m.f5, .int .i64 m.f6, .int .i64 m.f7, .int .i64 m.f8, .bool m.f9, .slice A10 m.f10.length c10, .slice A11 m.f11.length c11] (fun _ => True) (fun _ => False) rfl rfl ?aP (fun _ hk => hk.elim) (fun _ _ => trivial) HO7.out HB.out HB.out.size ?aL ?_; (case aP => exact raw_row m A10 c10 A11 c11); (case aL => have a_ := HRW.out.1; have c_ := HN.out; have d_ := HI.out; omega); intro v7 w5 ho hb hg hat; rw [← HRS.out] at ho; have n0_ := Aside0.mk (Kd.R_over' HO5.out (Kd.R_typed HO7.out) (by decide) hg); have n1_ := Aside0.mk (Kd.R_over' HO6.out (Kd.R_typed HO7.out) (by decide) hg); have n2_ := Aside0.mk (ho); have n3_ := Aside0.mk (hb); clear HO5 HO6 HO7 HB; have HO5 := n0_; have HO6 := n1_; have HO7 := n2_; have HB := n3_; clear n0_ n1_ n2_ n3_; (try clear ho hb hg hat); obtain ⟨B7, d7, rfl⟩ := Kd.R_slice HO7.out)))
          go_roundg (20 - i')
          case measure => have := HN.out; have := HI.out; have := HI'.out; omega
          case rel => exact ⟨i', ms ++ [m], rs', B5, B6, B7, _, _, _, d5, d6, d7, rfl, rfl, rfl, (by first | rfl | (simp; done) | (simp [*]; done)), ⟨by have := HN.out; have := HI.out; have := HI'.out; rw [List.length_append, List.length_singleton]; omega⟩, HMS2, HRW2, ⟨⟨rfl, rfl, rfl⟩⟩, HO5, HO6, HO7, HB⟩
        · have b0 : decide (5000 < (n9 : Int)) = true := decide_eq_true (by omega)
          have b1 : decide (5000 < n9) = true := decide_eq_true (by omega)
          clear h5
          go_wp2
          go_roundg (20 - i')
          case measure => have := HN.out; have := HI.out; have := HI'.out; omega
          case rel => exact ⟨i', ms, rs, A5, A6, A7, n5, n6, n7, c5, c6, c7, rfl, rfl, rfl, (by first | rfl | (simp; done) | (simp [*]; done)), ⟨by have := HN.out; have := HI.out; have := HI'.out; omega⟩, HMS, HRW, HL, ⟨(by (with_reducible repeat (first | apply Kd.R_alloc | apply Kd.R_drewN | apply Kd.R_drew)); exact HO5.out)⟩, ⟨(by (with_reducible repeat (first | apply Kd.R_alloc | apply Kd.R_drewN | apply Kd.R_drew)); exact HO6.out)⟩, ⟨(by (with_reducible repeat (first | apply Kd.R_alloc | apply Kd.R_drewN | apply Kd.R_drew)); exact HO7.out)⟩, ⟨(by repeat (first | (with_reducible first | exact HB.out | apply below_alloc | apply pw_below_drewN | apply below_drew1) | exact HB.out))⟩⟩
      · have e0 : (er == 0) = false := beq_eq_false_iff_ne.mpr her
        have e1 : (er != 0) = true := bne_iff_ne.mpr her
        clear her
        go_wp2
        go_roundg (20 - i')
        case measure => have := HN.out; have := HI.out; have := HI'.out; omega
        case rel => exact ⟨i', ms, rs, A5, A6, A7, n5, n6, n7, c5, c6, c7, rfl, rfl, rfl, (by first | rfl | (simp; done) | (simp [*]; done)), ⟨by have := HN.out; have := HI.out; have := HI'.out; omega⟩, HMS, HRW, HL, ⟨(by (with_reducible repeat (first | apply Kd.R_alloc | apply Kd.R_drewN | apply Kd.R_drew)); exact HO5.out)⟩, ⟨(by (with_reducible repeat (first | apply Kd.R_alloc | apply Kd.R_drewN | apply Kd.R_drew)); exact HO6.out)⟩, ⟨(by (with_reducible repeat (first | apply Kd.R_alloc | apply Kd.R_drewN | apply Kd.R_drew)); exact HO7.out)⟩, ⟨(by repeat (first | (with_reducible first | exact HB.out | apply below_alloc | apply pw_below_drewN | apply below_drew1) | exact HB.out))⟩⟩
    · obtain ⟨tn, htn⟩ : ∃ tn : Nat, torn = (tn : Int) := ⟨torn.toNat, by have := HT.out; omega⟩
      subst htn
      obtain ⟨q, hq⟩ : ∃ q : Nat, q = n5 + 1 := ⟨_, rfl⟩
      have h5 : n5 ≤ 100160 := by have := bys_length HMS.out; have := HN.out; have := HL.out; omega
      have hwq : wrap64 ((n5 : Int) + 1) = (q : Int) := by subst hq; unfold wrap64; omega
      have hq0 : ((q : Int) == 0) = false := beq_eq_false_iff_ne.mpr (by omega)
      have hq1 : ¬ ((q : Int) = 0) := by omega
      have hq2 : ¬ (q = 0) := by omega
      have hq3 : ((q : Int) == -1) = false := beq_eq_false_iff_ne.mpr (by omega)
      have hq4 : (q == 0) = false := beq_eq_false_iff_ne.mpr (by omega)
      have hq5 : ¬ ((q : Int) = -1) := by omega
      obtain ⟨cut, hcut_⟩ : ∃ cut : Nat, cut = tn % q := ⟨_, rfl⟩
      have hmod : Int.tmod (wrap64 (tn : Int)) (q : Int) = (cut : Int) := by subst hcut_; rw [show wrap64 (tn : Int) = (tn : Int) from by have := HT.out; unfold wrap64; omega]; rfl
      have HCUT := Aside0.mk (show cut ≤ n5 by have := Nat.mod_lt tn (show 0 < q by omega); omega)
      have H5 := Aside0.mk h5
      clear hq hcut_ h5
      go_upto_region 5 with (fail)
      go_cut [29] (fun v29 wc => v29 = .bool false ∧ Aside0 (Kd.R (Kd.int .u8) 5 wc w.heap.size (fun _ => True) (.slice A5 n5 c5) (bys ms)) ∧ Aside0 (Kd.R (Kd.int .i64) 3 wc w.heap.size (fun _ => True) (.slice A6 n6 c6) (ens ms)) ∧ Aside0 (Kd.R (Kd.raw 12) 32 wc w.heap.size (fun _ => True) (.slice A7 n7 c7) rs) ∧ Aside0 (Below w.heap.size w wc))
      case first =>
        by_cases hi1 : i < l.length
        · have a1 : decide ((i : Int) < (l.length : Int)) = true := decide_eq_true (by omega)
          have a1n : decide (i < l.length) = true := decide_eq_true hi1
          have a2 : decide ((i : Int) < 20) = false := decide_eq_false (by omega)
          have a2n : decide (i < 20) = false := decide_eq_false (by omega)
          clear hi hi1
          go_wp2
          go_meet
          case rel => exact ⟨rfl, ⟨(by (with_reducible repeat (first | apply Kd.R_alloc | apply Kd.R_drewN | apply Kd.R_drew)); exact HO5.out)⟩, ⟨(by (with_reducible repeat (first | apply Kd.R_alloc | apply Kd.R_drewN | apply Kd.R_drew)); exact HO6.out)⟩, ⟨(by (with_reducible repeat (first | apply Kd.R_alloc | apply Kd.R_drewN | apply Kd.R_drew)); exact HO7.out)⟩, ⟨(by repeat (first | (with_reducible first | exact HB.out | apply below_alloc | apply pw_below_drewN | apply below_drew1) | exact HB.out))⟩⟩
        · have a1 : decide ((i : Int) < (l.length : Int)) = false := decide_eq_false (by omega)
          have a1n : decide (i < l.length) = false := decide_eq_false hi1
          clear hi hi1
          go_wp2
          go_meet
          case rel => exact ⟨rfl, ⟨(by (with_reducible repeat (first | apply Kd.R_alloc | apply Kd.R_drewN | apply Kd.R_drew)); exact HO5.out)⟩, ⟨(by (with_reducible repeat (first | apply Kd.R_alloc | apply Kd.R_drewN | apply Kd.R_drew)); exact HO6.out)⟩, ⟨(by (with_reducible repeat (first | apply Kd.R_alloc | apply Kd.R_drewN | apply Kd.R_drew)); exact HO7.out)⟩, ⟨(by repeat (first | (with_reducible first | exact HB.out | apply below_alloc | apply pw_below_drewN | apply below_drew1) | exact HB.out))⟩⟩
      case rest =>
        clear HO5 HO6 HO7 HB
        obtain ⟨rfl, HO5, HO6, HO7, HB⟩ := hcut
        go_upto_region 16 with (fail)
        obtain ⟨xs, hxs⟩ : ∃ xs, xs = (bys ms).take cut := ⟨_, rfl⟩
        obtain ⟨nn, hnn⟩ : ∃ nn, nn = FP.cnt (ms.map encM) cut := ⟨_, rfl⟩
        obtain ⟨rows, hrows⟩ : ∃ rows, rows = (ms.map encM).take nn := ⟨_, rfl⟩
        obtain ⟨at_, hat⟩ : ∃ at_ : Nat, at_ = (FP.cat rows).length := ⟨_, rfl⟩
        obtain ⟨kA, hA⟩ := FP.All_cut (ms.map encM) cut (by have := HL.out.1; have := HCUT.out; unfold bys at *; omega) (fun x hx => by obtain ⟨m, hm, rfl⟩ := List.mem_map.1 hx; have := (HMS.out m hm).2.2; omega) (fun x hx => by obtain ⟨m, hm, rfl⟩ := List.mem_map.1 hx; exact FP.encM_B8 (HMS.out m hm).1 (HMS.out m hm).2.1) (by have := HL.out.1; have := H5.out; unfold bys at *; omega)
        have hA := hA kA (Nat.le_refl _)
        rw [← hnn, ← hrows, ← hat, show FP.cat (ms.map encM) = bys ms from rfl, ← hxs] at hA
        have HA := Aside0.mk hA
        have hxl : xs.length = cut := by have := HL.out.1; have := HCUT.out; rw [hxs, List.length_take]; omega
        have HXS := Aside0.mk hxs
        have HNN := Aside0.mk hnn
        have HROWS := Aside0.mk hrows
        have HAT := Aside0.mk hat
        have hRx := Kd.R_take (m := cut) HO5.out (by have := HL.out.1; have := HCUT.out; omega)
        rw [← hxs] at hRx
        have HRX := Aside0.mk hRx
        subst hxl
        clear hA hxs hnn hrows hat hRx
        obtain ⟨i0, hi0, _, hsz, _⟩ := info_parts info5
        have hsl := slice_upto (P := Try.prog) 24 5 Try.underlying24 hi0 hsz A5 n5 c5 xs.length (xs.length : Int) rfl HCUT.out (Kd.R_reads' HO5.out).2.1
        go_upto_region 17 with ((go_at_call 6; (refine (frame_All.calls kA A5 c5 xs rows (at_ : Int) _ (Kd.R_reads' HRX.out).2.2 (Kd.R_reads' HRX.out).2.1 HA.out).mono ?_; rintro e w2 ⟨v14, rfl, hS, hb⟩; have hl_ := Kd.R_slice (Kd.S_R hS); have HS := Aside0.mk (Kd.S_lower hS HB.out.size); clear hS; obtain ⟨A14, c14, rfl⟩ := hl_; generalize hn14 : rows.length = n14 at HS; have HN14 := Aside0.mk hn14; have n0_ := Aside0.mk (Kd.R_below HO5.out hb); have n1_ := Aside0.mk (Kd.R_below HO6.out hb); have n2_ := Aside0.mk (Kd.R_below HO7.out hb); have n3_ := Aside0.mk (below_step HB.out hb); clear HO5 HO6 HO7 HB; have HO5 := n0_; have HO6 := n1_; have HO7 := n2_; have HB := n3_; clear n0_ n1_ n2_ n3_; clear HRX HA hb hn14 hsl)))
        have hnle : nn ≤ ms.length := by have := FP.cnt_le (ms.map encM) xs.length; rw [← HNN.out, List.length_map] at this; exact this
        have HNLE := Aside0.mk hnle
        clear hnle
        go_wp2
        go_loopg [16] nn (fun n v16 W => ∃ j : Nat, v16 = .int .i64 (j : Int) ∧ Aside0 (n + j = nn) ∧ Aside0 (Kd.R (Kd.int .u8) 5 W w.heap.size (fun _ => True) (.slice A5 n5 c5) (bys ms)) ∧ Aside0 (Kd.R (Kd.int .i64) 3 W w.heap.size (fun _ => True) (.slice A6 n6 c6) (ens ms)) ∧ Aside0 (Kd.R (Kd.raw 12) 32 W w.heap.size (fun _ => True) (.slice A7 n7 c7) rs) ∧ Aside0 (Below w.heap.size w W) ∧ Aside0 (Kd.S (Kd.slice 5 (Kd.int .u8)) 24 W w.heap.size (fun _ => True) (.slice A14 n14 c14) rows))
        case atStart => exact ⟨0, rfl, ⟨rfl⟩, ⟨(by (with_reducible repeat (first | apply Kd.R_alloc | apply Kd.R_drewN | apply Kd.R_drew)); exact HO5.out)⟩, ⟨(by (with_reducible repeat (first | apply Kd.R_alloc | apply Kd.R_drewN | apply Kd.R_drew)); exact HO6.out)⟩, ⟨(by (with_reducible repeat (first | apply Kd.R_alloc | apply Kd.R_drewN | apply Kd.R_drew)); exact HO7.out)⟩, ⟨(by repeat (first | (with_reducible first | exact HB.out | apply below_alloc | apply pw_below_drewN | apply below_drew1) | exact HB.out))⟩, ⟨(by (with_reducible repeat (first | apply Kd.S_alloc | apply Kd.S_drewN | apply Kd.S_drew)); exact HS.out)⟩⟩
        case round =>
          clear HO5 HO6 HO7 HB HS
          obtain ⟨j, rfl, HJ, HO5, HO6, HO7, HB, HS⟩ := hrel
          go_upto_region 18 with (fail)
          go_cut [93] (fun v93 wc => ∃ b : Bool, v93 = .bool b ∧ Aside0 (b = decide (j < nn)) ∧ Aside0 (Kd.R (Kd.int .u8) 5 wc w.heap.size (fun _ => True) (.slice A5 n5 c5) (bys ms)) ∧ Aside0 (Kd.R (Kd.int .i64) 3 wc w.heap.size (fun _ => True) (.slice A6 n6 c6) (ens ms)) ∧ Aside0 (Kd.R (Kd.raw 12) 32 wc w.heap.size (fun _ => True) (.slice A7 n7 c7) rs) ∧ Aside0 (Below w.heap.size w wc) ∧ Aside0 (Kd.S (Kd.slice 5 (Kd.int .u8)) 24 wc w.heap.size (fun _ => True) (.slice A14 n14 c14) rows))
          case first =>
            by_cases hj : j < ms.length
            · have hiff := FP.cnt_lt (ms.map encM) xs.length j (by rw [List.length_map]; exact hj)
              rw [← HNN.out] at hiff
              have b1 : decide ((j : Int) < (n6 : Int)) = true := decide_eq_true (by have := HL.out.2.1; have := ens_length ms; omega)
              have b1n : decide (j < n6) = true := decide_eq_true (by have := HL.out.2.1; have := ens_length ms; omega)
              have hj6 : (j : Int) < (n6 : Int) := by have := HL.out.2.1; have := ens_length ms; omega
              obtain ⟨ad, c, e, _, hK, hcc⟩ := Kd.C_get (Kd.R_reads' HO6.out).2.2 (0 : Int) (j : Int) (by omega) (by have := HL.out.2.1; omega)
              have hK' : c = [.int .i64 ((ens ms).getD ((j : Int)).toNat 0)] := hK
              have hce := hcc 0 _ (by rw [hK']; rfl)
              rw [Int.toNat_natCast, show (ens ms).getD j 0 = ((FP.endAt (ms.map encM) j : Nat) : Int) from FP.ends_getD _ j (by rw [List.length_map]; exact hj)] at hce
              generalize FP.endAt (ms.map encM) j = ej at hce hiff
              have kc := hce
              rw [show j * (Kd.int .i64 : Kd Int).sz + 0 = j from by show j * 1 + 0 = j; omega] at kc
              cases e
              clear hK hK' hce hcc
              have pj := eq_true (show (0 : Int) ≤ (j : Int) by omega)
              have qj := eq_true hj6
              have qjn := eq_true (show j < n6 by omega)
              clear hj6
              by_cases hjn : j < nn
              · have b2 : decide ((ej : Int) ≤ (xs.length : Int)) = true := decide_eq_true (by omega)
                have b2n : decide (ej ≤ xs.length) = true := decide_eq_true (by omega)
                have b3 : decide (j < nn) = true := decide_eq_true hjn
                clear hiff hjn hj
                go_wp2
                go_meet
                case rel => exact ⟨_, rfl, ⟨b3.symm⟩, ⟨(by (with_reducible repeat (first | apply Kd.R_alloc | apply Kd.R_drewN | apply Kd.R_drew)); exact HO5.out)⟩, ⟨(by (with_reducible repeat (first | apply Kd.R_alloc | apply Kd.R_drewN | apply Kd.R_drew)); exact HO6.out)⟩, ⟨(by (with_reducible repeat (first | apply Kd.R_alloc | apply Kd.R_drewN | apply Kd.R_drew)); exact HO7.out)⟩, ⟨(by repeat (first | (with_reducible first | exact HB.out | apply below_alloc | apply pw_below_drewN | apply below_drew1) | exact HB.out))⟩, ⟨(by (with_reducible repeat (first | apply Kd.S_alloc | apply Kd.S_drewN | apply Kd.S_drew)); exact HS.out)⟩⟩
              · have b2 : decide ((ej : Int) ≤ (xs.length : Int)) = false := decide_eq_false (by omega)
                have b2n : decide (ej ≤ xs.length) = false := decide_eq_false (by omega)
                have b3 : decide (j < nn) = false := decide_eq_false hjn
                clear hiff hjn hj
                go_wp2
                go_meet
                case rel => exact ⟨_, rfl, ⟨b3.symm⟩, ⟨(by (with_reducible repeat (first | apply Kd.R_alloc | apply Kd.R_drewN | apply Kd.R_drew)); exact HO5.out)⟩, ⟨(by (with_reducible repeat (first | apply Kd.R_alloc | apply Kd.R_drewN | apply Kd.R_drew)); exact HO6.out)⟩, ⟨(by (with_reducible repeat (first | apply Kd.R_alloc | apply Kd.R_drewN | apply Kd.R_drew)); exact HO7.out)⟩, ⟨(by repeat (first | (with_reducible first | exact HB.out | apply below_alloc | apply pw_below_drewN | apply below_drew1) | exact HB.out))⟩, ⟨(by (with_reducible repeat (first | apply Kd.S_alloc | apply Kd.S_drewN | apply Kd.S_drew)); exact HS.out)⟩⟩
            · have b1 : decide ((j : Int) < (n6 : Int)) = false := decide_eq_false (by have := HL.out.2.1; have := ens_length ms; omega)
              have b1n : decide (j < n6) = false := decide_eq_false (by have := HL.out.2.1; have := ens_length ms; omega)
              have b3 : decide (j < nn) = false := decide_eq_false (by have := HNLE.out; omega)
              clear hj
              go_wp2
              go_meet
              case rel => exact ⟨_, rfl, ⟨b3.symm⟩, ⟨(by (with_reducible repeat (first | apply Kd.R_alloc | apply Kd.R_drewN | apply Kd.R_drew)); exact HO5.out)⟩, ⟨(by (with_reducible repeat (first | apply Kd.R_alloc | apply Kd.R_drewN | apply Kd.R_drew)); exact HO6.out)⟩, ⟨(by (with_reducible repeat (first | apply Kd.R_alloc | apply Kd.R_drewN | apply Kd.R_drew)); exact HO7.out)⟩, ⟨(by repeat (first | (with_reducible first | exact HB.out | apply below_alloc | apply pw_below_drewN | apply below_drew1) | exact HB.out))⟩, ⟨(by (with_reducible repeat (first | apply Kd.S_alloc | apply Kd.S_drewN | apply Kd.S_drew)); exact HS.out)⟩⟩
          case rest =>
            clear HO5 HO6 HO7 HB HS
            obtain ⟨b, rfl, HBB, HO5, HO6, HO7, HB, HS⟩ := hcut
            by_cases hjn : j < nn
            · obtain rfl : b = true := by rw [HBB.out]; exact decide_eq_true hjn
              clear HBB
              obtain ⟨j', hj'⟩ : ∃ j' : Nat, j' = j + 1 := ⟨_, rfl⟩
              have hwj : wrap64 ((j : Int) + 1) = (j' : Int) := by have := HNLE.out; have := HN.out; subst hj'; unfold wrap64; omega
              have HJ' := Aside0.mk hj'
              have HJN := Aside0.mk hjn
              clear hj' hjn
              go_wp2
              go_roundg (nn - j')
              case measure => have := HJ.out; have := HJ'.out; have := HJN.out; omega
              case rel => exact ⟨j', (by first | rfl | (simp; done) | (simp [*]; done)), ⟨by have := HJ.out; have := HJ'.out; have := HJN.out; omega⟩, ⟨(by (with_reducible repeat (first | apply Kd.R_alloc | apply Kd.R_drewN | apply Kd.R_drew)); exact HO5.out)⟩, ⟨(by (with_reducible repeat (first | apply Kd.R_alloc | apply Kd.R_drewN | apply Kd.R_drew)); exact HO6.out)⟩, ⟨(by (with_reducible repeat (first | apply Kd.R_alloc | apply Kd.R_drewN | apply Kd.R_drew)); exact HO7.out)⟩, ⟨(by repeat (first | (with_reducible first | exact HB.out | apply below_alloc | apply pw_below_drewN | apply below_drew1) | exact HB.out))⟩, ⟨(by (with_reducible repeat (first | apply Kd.S_alloc | apply Kd.S_drewN | apply Kd.S_drew)); exact HS.out)⟩⟩
            · obtain rfl : b = false := by rw [HBB.out]; exact decide_eq_false hjn
              clear HBB
              obtain rfl : j = nn := by have := HJ.out; omega
              clear hjn
              go_upto_region 20 with (fail)
              have h14 : n14 = j := by have a_ := HN14.out; have b_ := HROWS.out; have c_ := HNLE.out; rw [← a_, b_, List.length_take, List.length_map]; omega
              subst h14
              go_cut [120] (fun v120 wc => v120 = .bool false ∧ Aside0 (Kd.R (Kd.int .u8) 5 wc w.heap.size (fun _ => True) (.slice A5 n5 c5) (bys ms)) ∧ Aside0 (Kd.R (Kd.int .i64) 3 wc w.heap.size (fun _ => True) (.slice A6 n6 c6) (ens ms)) ∧ Aside0 (Kd.R (Kd.raw 12) 32 wc w.heap.size (fun _ => True) (.slice A7 n7 c7) rs) ∧ Aside0 (Below w.heap.size w wc) ∧ Aside0 (Kd.S (Kd.slice 5 (Kd.int .u8)) 24 wc w.heap.size (fun _ => True) (.slice A14 n14 c14) rows))
              case first =>
                rcases Nat.eq_zero_or_pos n14 with h0 | h0
                · have hat0 : at_ = 0 := by have a_ := HAT.out; have b_ := HROWS.out; rw [h0, List.take_zero] at b_; rw [a_, b_]; rfl
                  subst h0 hat0
                  go_wp2
                  go_meet
                  case rel => exact ⟨rfl, ⟨(by (with_reducible repeat (first | apply Kd.R_alloc | apply Kd.R_drewN | apply Kd.R_drew)); exact HO5.out)⟩, ⟨(by (with_reducible repeat (first | apply Kd.R_alloc | apply Kd.R_drewN | apply Kd.R_drew)); exact HO6.out)⟩, ⟨(by (with_reducible repeat (first | apply Kd.R_alloc | apply Kd.R_drewN | apply Kd.R_drew)); exact HO7.out)⟩, ⟨(by repeat (first | (with_reducible first | exact HB.out | apply below_alloc | apply pw_below_drewN | apply below_drew1) | exact HB.out))⟩, ⟨(by (with_reducible repeat (first | apply Kd.S_alloc | apply Kd.S_drewN | apply Kd.S_drew)); exact HS.out)⟩⟩
                · obtain ⟨pp, hpp⟩ : ∃ pp : Nat, n14 = pp + 1 := ⟨n14 - 1, by omega⟩
                  have hwp : wrap64 ((n14 : Int) - 1) = (pp : Int) := by have := HNLE.out; have := HN.out; unfold wrap64; omega
                  have hpl : pp < ms.length := by have := HNLE.out; omega
                  obtain ⟨ad, c, e, _, hK, hcc⟩ := Kd.C_get (Kd.R_reads' HO6.out).2.2 (0 : Int) (pp : Int) (by omega) (by have := HL.out.2.1; have := ens_length ms; omega)
                  have hK' : c = [.int .i64 ((ens ms).getD ((pp : Int)).toNat 0)] := hK
                  have hce := hcc 0 _ (by rw [hK']; rfl)
                  rw [Int.toNat_natCast, show (ens ms).getD pp 0 = ((at_ : Nat) : Int) from by rw [show (ens ms).getD pp 0 = ((FP.endAt (ms.map encM) pp : Nat) : Int) from FP.ends_getD _ pp (by rw [List.length_map]; exact hpl), HAT.out, HROWS.out, hpp]; rfl] at hce
                  have kc := hce
                  rw [show pp * (Kd.int .i64 : Kd Int).sz + 0 = pp from by show pp * 1 + 0 = pp; omega] at kc
                  cases e
                  have pj := eq_true (show (0 : Int) ≤ (pp : Int) by omega)
                  have qj := eq_true (show (pp : Int) < (n6 : Int) by have := HL.out.2.1; have := ens_length ms; omega)
                  have qjn := eq_true (show pp < n6 by have := HL.out.2.1; have := ens_length ms; omega)
                  have g0 : decide ((0 : Int) < (n14 : Int)) = true := decide_eq_true (by omega)
                  have g0n : decide (0 < n14) = true := decide_eq_true (by omega)
                  have g1 : ((n14 : Int) == 0) = false := beq_eq_false_iff_ne.mpr (by omega)
                  have g1n : (n14 == 0) = false := beq_eq_false_iff_ne.mpr (by omega)
                  clear hK hK' hce hcc hpp h0 hpl
                  go_wp2
                  go_meet
                  case rel => exact ⟨rfl, ⟨(by (with_reducible repeat (first | apply Kd.R_alloc | apply Kd.R_drewN | apply Kd.R_drew)); exact HO5.out)⟩, ⟨(by (with_reducible repeat (first | apply Kd.R_alloc | apply Kd.R_drewN | apply Kd.R_drew)); exact HO6.out)⟩, ⟨(by (with_reducible repeat (first | apply Kd.R_alloc | apply Kd.R_drewN | apply Kd.R_drew)); exact HO7.out)⟩, ⟨(by repeat (first | (with_reducible first | exact HB.out | apply below_alloc | apply pw_below_drewN | apply below_drew1) | exact HB.out))⟩, ⟨(by (with_reducible repeat (first | apply Kd.S_alloc | apply Kd.S_drewN | apply Kd.S_drew)); exact HS.out)⟩⟩
              case rest =>
                clear HO5 HO6 HO7 HB HS
                obtain ⟨rfl, HO5, HO6, HO7, HB, HS⟩ := hcut
                go_upto_region 22 with (fail)
                go_wp2
                go_loopg [17] n14 (fun n v17 W => ∃ j : Nat, v17 = .int .i64 (j : Int) ∧ Aside0 (n + j = n14) ∧ Aside0 (Kd.R (Kd.int .u8) 5 W w.heap.size (fun _ => True) (.slice A5 n5 c5) (bys ms)) ∧ Aside0 (Kd.R (Kd.int .i64) 3 W w.heap.size (fun _ => True) (.slice A6 n6 c6) (ens ms)) ∧ Aside0 (Kd.R (Kd.raw 12) 32 W w.heap.size (fun _ => True) (.slice A7 n7 c7) rs) ∧ Aside0 (Below w.heap.size w W) ∧ Aside0 (Kd.S (Kd.slice 5 (Kd.int .u8)) 24 W w.heap.size (fun _ => True) (.slice A14 n14 c14) rows))
                case atStart => exact ⟨0, rfl, ⟨rfl⟩, ⟨(by (with_reducible repeat (first | apply Kd.R_alloc | apply Kd.R_drewN | apply Kd.R_drew)); exact HO5.out)⟩, ⟨(by (with_reducible repeat (first | apply Kd.R_alloc | apply Kd.R_drewN | apply Kd.R_drew)); exact HO6.out)⟩, ⟨(by (with_reducible repeat (first | apply Kd.R_alloc | apply Kd.R_drewN | apply Kd.R_drew)); exact HO7.out)⟩, ⟨(by repeat (first | (with_reducible first | exact HB.out | apply below_alloc | apply pw_below_drewN | apply below_drew1) | exact HB.out))⟩, ⟨(by (with_reducible repeat (first | apply Kd.S_alloc | apply Kd.S_drewN | apply Kd.S_drew)); exact HS.out)⟩⟩
                case round =>
                  clear HO5 HO6 HO7 HB HS
                  obtain ⟨j, rfl, HJ, HO5, HO6, HO7, HB, HS⟩ := hrel
                  by_cases hj : j < n14
                  · have b1 : decide ((j : Int) < (n14 : Int)) = true := decide_eq_true (by omega)
                    have b1n : decide (j < n14) = true := decide_eq_true hj
                    have HJN := Aside0.mk hj
                    have hjm : j < ms.length := by have := HNLE.out; omega
                    obtain ⟨adr, cr, er, _, hKr, hccr⟩ := Kd.C_get (Kd.R_reads' (Kd.S_R HS.out)).2.2 ([] : List Int) (j : Int) (by omega) (by have := HN14.out; omega)
                    have hrow : rows.getD ((j : Int)).toNat [] = encM (ms.getD j z32) := by have b_ := HROWS.out; rw [Int.toNat_natCast, b_]; simp only [List.getD_eq_getElem?_getD]; rw [List.getElem?_take_of_lt hj, List.getElem?_map, List.getElem?_eq_getElem hjm]; rfl
                    rw [hrow] at hKr
                    obtain ⟨Ar, kr, hcr, hlr, hrr⟩ := hKr
                    have hcell := hccr 0 _ (by rw [hcr]; rfl)
                    rw [Int.toNat_natCast] at hcell
                    rw [show j * (Kd.slice 5 (Kd.int .u8) : Kd (List Int)).sz + 0 = j from by show j * 1 + 0 = j; omega] at hcell
                    have HMJ := Aside0.mk (HMS.out (ms.getD j z32) (by rw [List.getD_eq_getElem?_getD, List.getElem?_eq_getElem hjm]; exact List.getElem_mem hjm))
                    have HRJ := Aside0.mk (HRW.out.2 j hjm)
                    generalize ms.getD j z32 = m at *
                    obtain ⟨j', hj'⟩ : ∃ j' : Nat, j' = j + 1 := ⟨_, rfl⟩
                    have hwj : wrap64 ((j : Int) + 1) = (j' : Int) := by have := HNLE.out; have := HN.out; subst hj'; unfold wrap64; omega
                    have HJ' := Aside0.mk hj'
                    have hlen : (encM m).length < 1152921504606846976 := by have := HMJ.out.2.2; omega
                    have HCR := Aside0.mk (And.intro hlr (And.intro hrr hlen))
                    have pj := eq_true (Int.natCast_nonneg j)
                    have qj := eq_true (Int.ofNat_lt.mpr hj)
                    have qjn := eq_true hj
                    cases er
                    clear hrow hccr hcr hjm hj hj' hlr hrr hlen
                    go_upto_region 26 with (first | (go_at_call 7; (refine (get_msg HCR.out.2.1 HCR.out.1 m HMJ.out.1 rfl HCR.out.2.2).mono ?_; rintro e w2 ⟨v10, v11, rfl, hR10, hR11, hb⟩; obtain ⟨B10, d10, rfl⟩ := Kd.R_slice hR10; obtain ⟨B11, d11, rfl⟩ := Kd.R_slice hR11; have HV10 := Aside0.mk (Kd.R_lower hR10 HB.out.size); have HV11 := Aside0.mk (Kd.R_lower hR11 HB.out.size); have n0_ := Aside0.mk (Kd.R_below HO5.out hb); have n1_ := Aside0.mk (Kd.R_below HO6.out hb); have n2_ := Aside0.mk (Kd.R_below HO7.out hb); have n3_ := Aside0.mk (Kd.S_below HS.out hb); have n4_ := Aside0.mk (below_step HB.out hb); clear HO5 HO6 HO7 HS HB; have HO5 := n0_; have HO6 := n1_; have HO7 := n2_; have HS := n3_; have HB := n4_; clear n0_ n1_ n2_ n3_ n4_; clear hR10 hR11 HCR hcell hb)) | ((with_reducible refine gate_dst (N := 18) rfl ?_); refine box_event ?hg (N := 18) ?hd (cs := #[.int .i64 0, .int .i64 0, .int .i64 0, .int .i64 0, .int .i64 0, .int .i64 0, .int .i64 0, .int .i64 0, .int .i64 0, .bool false, .slice none 0 0, .slice none 0 0]) (t := 32) ?hr ?_; (case hd => rfl); (case hg => rfl); (case hr => first | (go_simp; done) | (go_simp; rfl)); intro gm hg w3 hbox hb; have HW3 := Aside0.mk hb; have HG3 := Aside0.mk (Nat.le_of_eq hg.symm); have HX3 := Aside0.mk hbox; clear hg hbox hb) | ((with_reducible refine gate_store (t := 32) (p := 18) rfl ?_); (refine wpList_store_row rfl 32 (.tmp 18) (.tmp 132) rfl gm #[.int .i64 m.f0, .int .i64 m.f1, .int .i64 m.f2, .int .i64 m.f3, .int .i64 m.f4, .int .i64 m.f5, .int .i64 m.f6, .int .i64 m.f7, .int .i64 m.f8, .bool m.f9, .slice B10 m.f10.length d10, .slice B11 m.f11.length d11] rfl rfl 32 #[.int .i64 0, .int .i64 0, .int .i64 0, .int .i64 0, .int .i64 0, .int .i64 0, .int .i64 0, .int .i64 0, .int .i64 0, .bool false, .slice none 0 0, .slice none 0 0] HX3.out (by kernel_rfl) rfl (by simp [Value.oneCell']) ?_; have hb := below_setRow HW3.out HG3.out #[.int .i64 m.f0, .int .i64 m.f1, .int .i64 m.f2, .int .i64 m.f3, .int .i64 m.f4, .int .i64 m.f5, .int .i64 m.f6, .int .i64 m.f7, .int .i64 m.f8, .bool m.f9, .slice B10 m.f10.length d10, .slice B11 m.f11.length d11]; have hX := setRow_heap w3 gm _ #[.int .i64 m.f0, .int .i64 m.f1, .int .i64 m.f2, .int .i64 m.f3, .int .i64 m.f4, .int .i64 m.f5, .int .i64 m.f6, .int .i64 m.f7, .int .i64 m.f8, .bool m.f9, .slice B10 m.f10.length d10, .slice B11 m.f11.length d11] 32 (0, 0) HX3.out; have HX4 := Aside0.mk hX; have n0_ := Aside0.mk (Kd.R_below HO5.out hb); have n1_ := Aside0.mk (Kd.R_below HO6.out hb); have n2_ := Aside0.mk (Kd.R_below HO7.out hb); have n3_ := Aside0.mk (Kd.S_below HS.out hb); have n4_ := Aside0.mk (below_step HB.out hb); have n5_ := Aside0.mk (Kd.R_below HV10.out hb); have n6_ := Aside0.mk (Kd.R_below HV11.out hb); clear HO5 HO6 HO7 HS HB HV10 HV11; have HO5 := n0_; have HO6 := n1_; have HO7 := n2_; have HS := n3_; have HB := n4_; have HV10 := n5_; have HV11 := n6_; clear n0_ n1_ n2_ n3_ n4_ n5_ n6_; clear HX3 HW3 HG3 hX; generalize w3.setRow gm #[.int .i64 m.f0, .int .i64 m.f1, .int .i64 m.f2, .int .i64 m.f3, .int .i64 m.f4, .int .i64 m.f5, .int .i64 m.f6, .int .i64 m.f7, .int .i64 m.f8, .bool m.f9, .slice B10 m.f10.length d10, .slice B11 m.f11.length d11] = w4 at HX4 hb HO5 HO6 HO7 HS HB HV10 HV11 ⊢; clear hb)))
                    have hj7 : j < n7 := by have a_ := HL.out.2.2; have b_ := HRW.out.1; have c_ := HNLE.out; have d_ := HJN.out; omega
                    obtain ⟨ad7, c7_, e7, _, hK7, hcc7⟩ := Kd.C_get (Kd.R_reads' HO7.out).2.2 ([] : List Value) (j : Int) (Int.natCast_nonneg j) (Int.ofNat_lt.mpr (Nat.lt_of_lt_of_eq hj7 HL.out.2.2))
                    rw [Int.toNat_natCast] at hK7 hcc7
                    obtain ⟨C10, e10, C11, e11, hraw, hc10, hr10, hc11, hr11⟩ := HRJ.out
                    have hK7_ : c7_ = rs.getD j [] := hK7.1
                    rw [hK7_, hraw] at hcc7
                    have HCC7 := Aside0.mk (show ∀ (i : Nat) (u : Value), ([.int .i64 m.f0, .int .i64 m.f1, .int .i64 m.f2, .int .i64 m.f3, .int .i64 m.f4, .int .i64 m.f5, .int .i64 m.f6, .int .i64 m.f7, .int .i64 m.f8, .bool m.f9, .slice C10 m.f10.length e10, .slice C11 m.f11.length e11] : List Value)[i]? = some u → w4.drew.cell? ((ad7.add (j * 12)).add i) = some u from fun i u hu_ => by rw [add_add]; exact hcc7 i u hu_)
                    have HX := Aside0.mk (row_cells (cs := [.int .i64 m.f0, .int .i64 m.f1, .int .i64 m.f2, .int .i64 m.f3, .int .i64 m.f4, .int .i64 m.f5, .int .i64 m.f6, .int .i64 m.f7, .int .i64 m.f8, .bool m.f9, .slice B10 m.f10.length d10, .slice B11 m.f11.length d11]) (blk_drew HX4.out))
                    have HRJ2 := Aside0.mk (And.intro (Kd.C_below hr10 HB.out) (And.intro hc10 (And.intro (Kd.C_below hr11 HB.out) hc11)))
                    cases e7
                    have pj7 := eq_true (Int.natCast_nonneg j)
                    have qj7 := eq_true (Int.ofNat_lt.mpr hj7)
                    have qj7n := eq_true hj7
                    clear hK7 hK7_ hcc7 hraw hc10 hr10 hc11 hr11 HRJ hj7
                    have HRA := Aside0.mk HRJ2.out.1
                    have HRC := Aside0.mk HRJ2.out.2.2.1
                    refine start_ (n := 11) (S := fun w_ => w_ = w4.drew) (ds := [8]) #[false, false, false, false, false, false, false, false, false, false, false] (by kernel_rfl) rfl rfl rfl (fun hHeld => ?_)
                    refine with_tab (T := framed_T26) framed_T26_is (fun HT_ => ?_)
                    have n0_ := Aside0.mk (Kd.R_drew HO5.out); have n1_ := Aside0.mk (Kd.R_drew HO6.out); have n2_ := Aside0.mk (Kd.R_drew HO7.out); have n3_ := Aside0.mk (Kd.S_drew HS.out); have n4_ := Aside0.mk (below_drew1 HB.out); have n5_ := Aside0.mk (Kd.R_drew HV10.out); have n6_ := Aside0.mk (Kd.R_drew HV11.out); have n7_ := Aside0.mk (Kd.C_drew HRA.out); have n8_ := Aside0.mk (Kd.C_drew HRC.out); clear HO5 HO6 HO7 HS HB HV10 HV11 HRA HRC; have HO5 := n0_; have HO6 := n1_; have HO7 := n2_; have HS := n3_; have HB := n4_; have HV10 := n5_; have HV11 := n6_; have HRA := n7_; have HRC := n8_; clear n0_ n1_ n2_ n3_ n4_ n5_ n6_ n7_ n8_
                    generalize w4.drew = w5 at HO5 HO6 HO7 HS HB HV10 HV11 HRA HRC HX HCC7 hHeld ⊢
                    refine pure_ (i := 0) (N := some 134) (v := ?_) (a' := ?_) #[true, false, false, false, false, false, false, false, false, false, false] rfl rfl (any_of HT_.out (by kernel_rfl)) (fun _ _ _ h => h) (Or.inl ⟨by rfl, ?_⟩) ?_ ?_
                    rotate_left
                    · intro w'
                      go_simp
                      with_reducible rfl
                    rotate_left
                    · simp only [Act.put, List.setIfInBounds_toArray, List.set_cons_zero, List.set_cons_succ, i64_w, i32_w]
                      rfl
                    refine pure_ (i := 1) (N := some 135) (v := ?_) (a' := ?_) #[true, true, false, false, false, false, false, false, false, false, false] rfl rfl (any_of HT_.out (by kernel_rfl)) (fun _ _ _ h => h) (Or.inl ⟨by rfl, ?_⟩) ?_ ?_
                    rotate_left
                    · intro w'
                      go_simp
                      with_reducible rfl
                    rotate_left
                    · simp only [Act.put, List.setIfInBounds_toArray, List.set_cons_zero, List.set_cons_succ, i64_w, i32_w]
                      rfl
                    refine pure_ (i := 2) (N := some 136) (v := ?_) (a' := ?_) #[true, true, true, false, false, false, false, false, false, false, false] rfl rfl (any_of HT_.out (by kernel_rfl)) (fun _ _ _ h => h) (Or.inl ⟨by rfl, ?_⟩) ?_ ?_
                    rotate_left
                    · intro w'
                      go_simp
                      with_reducible rfl
                    rotate_left
                    · simp only [Act.put, List.setIfInBounds_toArray, List.set_cons_zero, List.set_cons_succ, i64_w, i32_w]
                      rfl
                    refine take_ (i := 3) (N := some 137) (v := .agg #[.int .i64 m.f0, .int .i64 m.f1, .int .i64 m.f2, .int .i64 m.f3, .int .i64 m.f4, .int .i64 m.f5, .int .i64 m.f6, .int .i64 m.f7, .int .i64 m.f8, .bool m.f9, .slice B10 m.f10.length d10, .slice B11 m.f11.length d11]) (a' := ?_) #[true, true, true, true, false, false, false, false, false, false, false] rfl rfl (take_of HT_.out (by kernel_rfl)) (fun _ _ _ h => h) (yieldsIf_load_any (by rfl) 32 (.tmp 18) rfl ⟨gm, 0, none⟩ rfl [.int .i64 m.f0, .int .i64 m.f1, .int .i64 m.f2, .int .i64 m.f3, .int .i64 m.f4, .int .i64 m.f5, .int .i64 m.f6, .int .i64 m.f7, .int .i64 m.f8, .bool m.f9, .slice B10 m.f10.length d10, .slice B11 m.f11.length d11] _ (fun w_ hw_ => by rw [hw_]; exact HX.out) hu rfl (by kernel_rfl)) hHeld ?_ ?_
                    rotate_left
                    · simp only [Act.put, List.setIfInBounds_toArray, List.set_cons_zero, List.set_cons_succ, i64_w, i32_w]
                      rfl
                    refine pure_ (i := 4) (N := some 138) (v := ?_) (a' := ?_) #[true, true, true, true, true, false, false, false, false, false, false] rfl rfl (any_of HT_.out (by kernel_rfl)) (fun _ _ _ h => h) (Or.inl ⟨by rfl, ?_⟩) ?_ ?_
                    rotate_left
                    · intro w'
                      go_simp
                      with_reducible rfl
                    rotate_left
                    · simp only [Act.put, List.setIfInBounds_toArray, List.set_cons_zero, List.set_cons_succ, i64_w, i32_w]
                      rfl
                    refine pure_ (i := 5) (N := some 139) (v := ?_) (a' := ?_) #[true, true, true, true, true, true, false, false, false, false, false] rfl rfl (any_of HT_.out (by kernel_rfl)) (fun _ _ _ h => h) (Or.inl ⟨by rfl, ?_⟩) ?_ ?_
                    rotate_left
                    · intro w'
                      go_simp
                      with_reducible rfl
                    rotate_left
                    · simp only [Act.put, List.setIfInBounds_toArray, List.set_cons_zero, List.set_cons_succ, i64_w, i32_w]
                      rfl
                    refine pure_ (i := 6) (N := some 140) (v := ?_) (a' := ?_) #[true, true, true, true, true, true, true, false, false, false, false] rfl rfl (any_of HT_.out (by kernel_rfl)) (fun _ _ _ h => h) (Or.inl ⟨by rfl, ?_⟩) ?_ ?_
                    rotate_left
                    · intro w'
                      go_simp
                      with_reducible rfl
                    rotate_left
                    · simp only [Act.put, List.setIfInBounds_toArray, List.set_cons_zero, List.set_cons_succ, i64_w, i32_w]
                      rfl
                    refine take_ (i := 7) (N := some 141) (v := .agg #[.int .i64 m.f0, .int .i64 m.f1, .int .i64 m.f2, .int .i64 m.f3, .int .i64 m.f4, .int .i64 m.f5, .int .i64 m.f6, .int .i64 m.f7, .int .i64 m.f8, .bool m.f9, .slice C10 m.f10.length e10, .slice C11 m.f11.length e11]) (a' := ?_) #[true, true, true, true, true, true, true, true, false, false, false] rfl rfl (take_of HT_.out (by kernel_rfl)) (fun _ _ _ h => h) (yieldsIf_load_any (by rfl) 32 (.tmp 140) rfl (ad7.add (j * 12)) rfl [.int .i64 m.f0, .int .i64 m.f1, .int .i64 m.f2, .int .i64 m.f3, .int .i64 m.f4, .int .i64 m.f5, .int .i64 m.f6, .int .i64 m.f7, .int .i64 m.f8, .bool m.f9, .slice C10 m.f10.length e10, .slice C11 m.f11.length e11] _ (fun w_ hw_ => by rw [hw_]; exact HCC7.out) hu rfl (by kernel_rfl)) hHeld ?_ ?_
                    rotate_left
                    · simp only [Act.put, List.setIfInBounds_toArray, List.set_cons_zero, List.set_cons_succ, i64_w, i32_w]
                      rfl
                    refine last_ (i := 8) (N := some 142) #[true, true, true, true, true, true, true, true, true, false, false] rfl rfl (one_of HT_.out (by kernel_rfl)) (by decide) (fun K hK => ?_)
                    refine goes_ Try.func8 (by kernel_rfl) rfl #[.agg #[.int .i64 m.f0, .int .i64 m.f1, .int .i64 m.f2, .int .i64 m.f3, .int .i64 m.f4, .int .i64 m.f5, .int .i64 m.f6, .int .i64 m.f7, .int .i64 m.f8, .bool m.f9, .slice B10 m.f10.length d10, .slice B11 m.f11.length d11], .agg #[.int .i64 m.f0, .int .i64 m.f1, .int .i64 m.f2, .int .i64 m.f3, .int .i64 m.f4, .int .i64 m.f5, .int .i64 m.f6, .int .i64 m.f7, .int .i64 m.f8, .bool m.f9, .slice C10 m.f10.length e10, .slice C11 m.f11.length e11]] (by rfl) rfl rfl (by (try simp only [List.map_toArray, List.map_cons, List.map_nil]); first | done | rfl) ?_
                    refine (tollgateref02_SameMsg.calls 100 m.f0 m.f1 m.f2 m.f3 m.f4 m.f5 m.f6 m.f7 m.f8 m.f9 B10 d10 m.f10 B11 d11 m.f11 m.f0 m.f1 m.f2 m.f3 m.f4 m.f5 m.f6 m.f7 m.f8 m.f9 C10 e10 m.f10 C11 e11 m.f11 true _ (Kd.R_reads' HV10.out).2.2 (Kd.R_reads' HV10.out).2.1 (Kd.R_reads' HV11.out).2.2 (Kd.R_reads' HV11.out).2.1 HRA.out HRJ2.out.2.1 HRC.out HRJ2.out.2.2.2 (FP.same_is m (by have := HMJ.out.1.2.2.2.2.2.2.2.2.2.2.2.2.1; omega) 100 (by have := HMJ.out.1.2.2.2.2.2.2.2.2.2.2.2.2.1; omega))).mono ?_
                    rintro e w6 ⟨rfl, hb⟩
                    refine ⟨_, rfl, ?_⟩
                    have n0_ := Aside0.mk (Kd.R_below HO5.out hb); have n1_ := Aside0.mk (Kd.R_below HO6.out hb); have n2_ := Aside0.mk (Kd.R_below HO7.out hb); have n3_ := Aside0.mk (Kd.S_below HS.out hb); have n4_ := Aside0.mk (below_step HB.out hb); have n5_ := Aside0.mk (Kd.R_below HV10.out hb); have n6_ := Aside0.mk (Kd.R_below HV11.out hb); have n7_ := Aside0.mk (Kd.C_below HRA.out hb); have n8_ := Aside0.mk (Kd.C_below HRC.out hb); clear HO5 HO6 HO7 HS HB HV10 HV11 HRA HRC; have HO5 := n0_; have HO6 := n1_; have HO7 := n2_; have HS := n3_; have HB := n4_; have HV10 := n5_; have HV11 := n6_; have HRA := n7_; have HRC := n8_; clear n0_ n1_ n2_ n3_ n4_ n5_ n6_ n7_ n8_
                    clear hb
                    refine hK.out _ _ ?_
                    clear hK K
                    refine norm_ (a' := ?_) ?_ ?_
                    rotate_left
                    · show Act.put _ (some 142) _ = _
                      simp only [Act.put, List.setIfInBounds_toArray, List.set_cons_zero, List.set_cons_succ, i64_w, i32_w]
                      rfl
                    refine pure_ (i := 9) (N := some 143) (v := ?_) (a' := ?_) #[true, true, true, true, true, true, true, true, true, true, false] rfl rfl (any_of HT_.out (by kernel_rfl)) (fun _ _ _ h => h) (Or.inl ⟨by rfl, ?_⟩) ?_ ?_
                    rotate_left
                    · intro w'
                      go_simp
                      with_reducible rfl
                    rotate_left
                    · simp only [Act.put, List.setIfInBounds_toArray, List.set_cons_zero, List.set_cons_succ, i64_w, i32_w]
                      rfl
                    refine pure_ (i := 10) (N := some 144) (v := ?_) (a' := ?_) #[true, true, true, true, true, true, true, true, true, true, true] rfl rfl (any_of HT_.out (by kernel_rfl)) (fun _ _ _ h => h) (Or.inl ⟨by rfl, ?_⟩) ?_ ?_
                    rotate_left
                    · intro w'
                      go_simp
                      with_reducible rfl
                    rotate_left
                    · simp only [Act.put, List.setIfInBounds_toArray, List.set_cons_zero, List.set_cons_succ, i64_w, i32_w]
                      rfl
                    refine done_ (done_of HT_.out (by kernel_rfl)) ?_
                    clear HT_
                    clear hHeld
                    go_wp2
                    go_roundg (n14 - j')
                    case measure => have := HJ.out; have := HJ'.out; have := HJN.out; omega
                    case rel => exact ⟨j', (by first | rfl | (simp; done) | (simp [*]; done)), ⟨by have := HJ.out; have := HJ'.out; have := HJN.out; omega⟩, ⟨(by (with_reducible repeat (first | apply Kd.R_alloc | apply Kd.R_drewN | apply Kd.R_drew)); exact HO5.out)⟩, ⟨(by (with_reducible repeat (first | apply Kd.R_alloc | apply Kd.R_drewN | apply Kd.R_drew)); exact HO6.out)⟩, ⟨(by (with_reducible repeat (first | apply Kd.R_alloc | apply Kd.R_drewN | apply Kd.R_drew)); exact HO7.out)⟩, ⟨(by repeat (first | (with_reducible first | exact HB.out | apply below_alloc | apply pw_below_drewN | apply below_drew1) | exact HB.out))⟩, ⟨(by (with_reducible repeat (first | apply Kd.S_alloc | apply Kd.S_drewN | apply Kd.S_drew)); exact HS.out)⟩⟩
                  · have b1 : decide ((j : Int) < (n14 : Int)) = false := decide_eq_false (by omega)
                    have b1n : decide (j < n14) = false := decide_eq_false hj
                    clear hj
                    go_upto_region 28 with (fail)
                    clear HJ HO5 HO6 HO7 HS
                    obtain ⟨m, hm_⟩ : ∃ m, m = FP.lastM := ⟨_, rfl⟩
                    have HML := Aside0.mk (show wfM m ∧ [7, 1, 2, 0, 1, 0, 0, 0, 0, 0, 0, 0] = encM m from by rw [hm_]; exact ⟨FP.lastM_wf, FP.lastM_is.symm⟩)
                    clear hm_
                    go_upto_region 29 with (first | (go_at_call 7; (refine (get_msg (l := [7, 1, 2, 0, 1, 0, 0, 0, 0, 0, 0, 0]) (C_lit _ [7, 1, 2, 0, 1, 0, 0, 0, 0, 0, 0, 0] (by decide)) (by decide) m HML.out.1 HML.out.2 (by decide)).mono ?_; rintro e w2 ⟨v10, v11, rfl, hR10, hR11, hb⟩; obtain ⟨B10, d10, rfl⟩ := Kd.R_slice hR10; obtain ⟨B11, d11, rfl⟩ := Kd.R_slice hR11; have m0_ := Aside0.mk (below_step (by repeat (first | (with_reducible first | exact HB.out | apply below_alloc | apply pw_below_drewN | apply below_drew1) | exact HB.out)) hb); clear HB hR10 hR11 hb HML; have HB := m0_; clear m0_)) | ((with_reducible refine gate_dst (N := 20) rfl ?_); refine box_event ?hg (N := 20) ?hd (cs := #[.int .i64 0, .int .i64 0, .int .i64 0, .int .i64 0, .int .i64 0, .int .i64 0, .int .i64 0, .int .i64 0, .int .i64 0, .bool false, .slice none 0 0, .slice none 0 0]) (t := 32) ?hr ?_; (case hd => rfl); (case hg => rfl); (case hr => first | (go_simp; done) | (go_simp; rfl)); intro gm hg w3 hbox hb; have HW3 := Aside0.mk hb; have HG3 := Aside0.mk (Nat.le_of_eq hg.symm); have HX3 := Aside0.mk hbox; clear hg hbox hb) | ((with_reducible refine gate_store (t := 32) (p := 20) rfl ?_); (refine wpList_store_row rfl 32 (.tmp 20) (.tmp 148) rfl gm #[.int .i64 m.f0, .int .i64 m.f1, .int .i64 m.f2, .int .i64 m.f3, .int .i64 m.f4, .int .i64 m.f5, .int .i64 m.f6, .int .i64 m.f7, .int .i64 m.f8, .bool m.f9, .slice B10 m.f10.length d10, .slice B11 m.f11.length d11] rfl rfl 32 #[.int .i64 0, .int .i64 0, .int .i64 0, .int .i64 0, .int .i64 0, .int .i64 0, .int .i64 0, .int .i64 0, .int .i64 0, .bool false, .slice none 0 0, .slice none 0 0] HX3.out (by kernel_rfl) rfl (by simp [Value.oneCell']) ?_; have hb := below_setRow HW3.out HG3.out #[.int .i64 m.f0, .int .i64 m.f1, .int .i64 m.f2, .int .i64 m.f3, .int .i64 m.f4, .int .i64 m.f5, .int .i64 m.f6, .int .i64 m.f7, .int .i64 m.f8, .bool m.f9, .slice B10 m.f10.length d10, .slice B11 m.f11.length d11]; have hX := setRow_heap w3 gm _ #[.int .i64 m.f0, .int .i64 m.f1, .int .i64 m.f2, .int .i64 m.f3, .int .i64 m.f4, .int .i64 m.f5, .int .i64 m.f6, .int .i64 m.f7, .int .i64 m.f8, .bool m.f9, .slice B10 m.f10.length d10, .slice B11 m.f11.length d11] 32 (0, 0) HX3.out; have HX4 := Aside0.mk hX; have n0_ := Aside0.mk (below_step HB.out hb); clear HB; have HB := n0_; clear n0_; clear HX3 HW3 HG3 hX; generalize w3.setRow gm #[.int .i64 m.f0, .int .i64 m.f1, .int .i64 m.f2, .int .i64 m.f3, .int .i64 m.f4, .int .i64 m.f5, .int .i64 m.f6, .int .i64 m.f7, .int .i64 m.f8, .bool m.f9, .slice B10 m.f10.length d10, .slice B11 m.f11.length d11] = w4 at HX4 hb HB ⊢; clear hb HX4)))
                    obtain ⟨kS, rS, hS_, hS0_⟩ := FP.sum_a
                    have HSUM := Aside0.mk hS_
                    have hs0 : (rS != 0) = true := bne_iff_ne.mpr hS0_
                    have hs1 : (rS == 0) = false := beq_eq_false_iff_ne.mpr hS0_
                    clear hS_ hS0_
                    have kc_ := fun (w : World) (C : Array Value) (n c : Nat) => Lib.run_convert_bytes_const (P := Try.prog) w 24 5 C n c Try.underlying24 Try.underlying5
                    go_wp2_with (((try (refine gate_guard (by rfl) ?_; dsimp only)); go_at_call 9; (refine (frame_Sum.calls kS _ 1 [97] rS _ (C_lit_marked _ [97] _ (by decide)) (by decide) HSUM.out).mono ?_; rintro e w7 ⟨rfl, hd⟩; have m0_ := Aside0.mk (below_step (by repeat (first | (with_reducible first | exact HB.out | apply below_alloc | apply pw_below_drewN | apply below_drew1) | exact HB.out)) hd.below); clear HB hd; have HB := m0_; clear m0_)))
                    go_ret
                    exact ⟨by simp, HB.out⟩
end Go.Proofs.Ytaacjoeldgganaa.S
