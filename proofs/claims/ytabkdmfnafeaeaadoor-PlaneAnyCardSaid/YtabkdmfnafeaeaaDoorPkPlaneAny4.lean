/- Walks and plain facts, joined out of several texts: what the row of PlaneAny leads to. -/
import Derived.Test.YtabkdmfnafeaeaaDoorPkPlaneAny3
import Derived.Test.YtabkdmfnafeaeaaDoorRows
import Derived.SizedLaws
import Derived.ChangeSlices
import Derived.Deep.Slices
import Derived.ChangeSame
import Derived.DataReads
import Derived.OpenShut
import Derived.Laws.Cover2
section
namespace Go.Proofs.YtabkdmfnafeaeaaDoor.S
open Go.RowKit Go.Proofs.YtabkdmfnafeaeaaDoorW.PrintWords Go.Proofs.YtabkdmfnafeaeaaDoorW.PrintLast Go.Proofs.YtabkdmfnafeaeaaDoorW.PrintMore
set_option linter.unusedVariables false
set_option linter.unusedSimpArgs false
noncomputable def copied_T1 : Bool × List (List Nat × List Nat) := rtab .any (opsOf Tryd.f56 1)
theorem copied_tab1 : rtab .any (opsOf Tryd.f56 1) = copied_T1 := rfl
noncomputable def copied_T5 : Bool × List (List Nat × List Nat) := rtab .any (opsOf Tryd.f56 5)
theorem copied_tab5 : rtab .any (opsOf Tryd.f56 5) = copied_T5 := rfl
set_option maxHeartbeats 4000000 in
set_option maxRecDepth 100000 in
theorem copied_ok (a : Int) (A1 : Option Addr) (c1 : Nat) (l1 : List S93) (A2 : Option Addr) (c2 : Nat) (l2 : List S67) (w : World) (hr1 : Kd.C k93 w A1 l1.length l1) (hc1 : l1.length ≤ c1) (hr2 : Kd.C k67 w A2 l2.length l2) (hc2 : l2.length ≤ c2)
    (hl1 : l1.length ≤ 2000) (hl2 : l2.length ≤ 2000) (hl3 : ∀ x, x ∈ l2 → x.f1.length ≤ 2000) :
    Calls Tryd.prog 56 #[.agg #[.int .i64 a, .slice A1 l1.length c1, .slice A2 l2.length c2]] w fun e w' => ∃ B1 d1 B2 d2, e = .returned (.agg #[.int .i64 a, .slice B1 l1.length d1, .slice B2 l2.length d2]) ∧
      Kd.R k93 93 w' w.heap.size (fun _ => True) (.slice B1 l1.length d1) l1 ∧ l1.length ≤ d1 ∧ PoolsOwn w' w.heap.size B2 d2 l2 ∧ Below w.heap.size w w' := by
  have HB := Aside0.mk (Below.refl w.heap.size w)
  have hu55 := Tryd.underlying55
  have HR1 := Aside0.mk hr1
  have HR2 := Aside0.mk hr2
  clear hr1 hr2
  obtain ⟨rl, hrl, hrc, hraw⟩ := raw_of HR2.out
  have HRL := Aside0.mk hrc
  have HRAW := Aside0.mk hraw
  clear hrc hraw
  have HLEN := Aside0.mk hrl
  clear hrl
  go_enter Tryd.func56, Tryd.ntmps56
  go_wp2_with (first | ((with_reducible refine gate_dst (N := 1) rfl ?_); refine box_event ?hg (N := 1) ?hd (cs := #[.int .i64 a, .slice A1 l1.length c1, .slice A2 l2.length c2]) (t := 55) ?hr ?_; (case hd => rfl); (case hg => rfl); (case hr => first | (go_simp; done) | (go_simp; rfl)); intro g1 hg w1 hbox hb; have n0_ := Aside0.mk (below_step HB.out hb); have BK1 := Aside0.mk hbox; have GE1 := Aside0.mk (Nat.le_of_eq hg.symm); clear HB; have HB := n0_; clear hb hbox hg n0_) | ((with_reducible refine gate_dst (N := 2) rfl ?_); refine box_event ?hg (N := 2) ?hd (cs := #[.int .i64 0, .slice none 0 0, .slice none 0 0]) (t := 55) ?hr ?_; (case hd => rfl); (case hg => rfl); (case hr => first | (go_simp; done) | (go_simp; rfl)); intro g2 hg w2 hbox hb; have n0_ := Aside0.mk (below_step HB.out hb); have n1_ := Aside0.mk (blk_below BK1.out hb); have BK2 := Aside0.mk hbox; have GE2 := Aside0.mk (by rw [hg]; exact (below_size HB.out) : w.heap.size ≤ g2); have NE := Aside0.mk (by have := blk_lt BK1.out; omega : g1 ≠ g2); clear HB BK1; have HB := n0_; have BK1 := n1_; clear hb hbox hg n0_ n1_))
  refine start_ (n := 10) (S := fun w' => w'.cell? ⟨g1, 0, none⟩ = some (.int .i64 a) ∧ w'.cell? ⟨g1, 1, none⟩ = some (.slice A1 l1.length c1) ∧ w'.cell? ⟨g1, 2, none⟩ = some (.slice A2 l2.length c2)) (ds := [7, 9]) #[false, false, false, false, false, false, false, false, false, false] (by kernel_rfl) rfl rfl ⟨(blk_cell BK1.out 0).trans rfl, (blk_cell BK1.out 1).trans rfl, (blk_cell BK1.out 2).trans rfl⟩ (fun hHeld => ?_)
  refine with_tab (T := copied_T1) copied_tab1 (fun HT_ => ?_)
  have n0_ := Aside0.mk (blk_drew BK1.out)
  have n1_ := Aside0.mk (blk_drew BK2.out)
  have n2_ := Aside0.mk (below_drew1 HB.out)
  clear BK1 BK2 HB
  have BK1 := n0_
  have BK2 := n1_
  have HB := n2_
  clear n0_ n1_ n2_
  generalize w2.drew = w3 at BK1 BK2 HB hHeld ⊢
  refine pure_ (i := 0) (N := some 4) (v := ?_) (a' := ?_) #[true, false, false, false, false, false, false, false, false, false] rfl rfl (any_of HT_.out (by kernel_rfl)) (fun _ _ _ h => h) (Or.inl ⟨by rfl, ?_⟩) ?_ ?_
  rotate_left
  · intro w'
    go_simp
    with_reducible rfl
  rotate_left
  · simp only [Act.put, List.setIfInBounds_toArray, List.set_cons_zero, List.set_cons_succ, i64_w, i32_w]
    rfl
  refine pure_ (i := 3) (N := some 7) (v := ?_) (a' := ?_) #[true, false, false, true, false, false, false, false, false, false] rfl rfl (any_of HT_.out (by kernel_rfl)) (fun _ _ _ h => h) (Or.inl ⟨by rfl, ?_⟩) ?_ ?_
  rotate_left
  · intro w'
    go_simp
    with_reducible rfl
  rotate_left
  · simp only [Act.put, List.setIfInBounds_toArray, List.set_cons_zero, List.set_cons_succ, i64_w, i32_w]
    rfl
  refine take_ (i := 1) (N := some 5) (v := ?_) (a' := ?_) #[true, true, false, true, false, false, false, false, false, false] rfl rfl (take_of HT_.out (by kernel_rfl)) (fun _ _ _ h => h) (Or.inl ⟨by rfl, ?_⟩) hHeld ?_ ?_
  rotate_left
  · rintro w' ⟨s0, s1, s2⟩
    go_simp
    with_reducible rfl
  rotate_left
  · simp only [Act.put, List.setIfInBounds_toArray, List.set_cons_zero, List.set_cons_succ, i64_w, i32_w]
    rfl
  refine take_ (i := 4) (N := some 8) (v := ?_) (a' := ?_) #[true, true, false, true, true, false, false, false, false, false] rfl rfl (take_of HT_.out (by kernel_rfl)) (fun _ _ _ h => h) (Or.inl ⟨by rfl, ?_⟩) hHeld ?_ ?_
  rotate_left
  · rintro w' ⟨s0, s1, s2⟩
    go_simp
    with_reducible rfl
  rotate_left
  · simp only [Act.put, List.setIfInBounds_toArray, List.set_cons_zero, List.set_cons_succ, i64_w, i32_w]
    rfl
  refine one_ (i := 2) (N := some 6) #[true, true, true, true, true, false, false, false, false, false] rfl rfl (one_of HT_.out (by kernel_rfl)) (by decide) (fun K hK => ?_)
  refine goes_ Tryd.func87 (by kernel_rfl) rfl #[.slice A1 l1.length c1] (by rfl) rfl rfl (by (try simp only [List.map_toArray, List.map_cons, List.map_nil]); first | done | rfl) ?_
  refine (clone_Route A1 c1 l1 w3 (Kd.C_below HR1.out HB.out) hc1 hl1).mono ?_
  rintro e w4 ⟨v1, rfl, ho, hb⟩
  obtain ⟨B1, d1, rfl, hd1, _⟩ := Kd.R_reads ho
  have HD1 := Aside0.mk hd1
  clear hd1
  refine ⟨_, rfl, ?_⟩
  have HO1 := Aside0.mk (Kd.R_lower ho (below_size HB.out))
  have n0_ := Aside0.mk (blk_below BK1.out hb)
  have n1_ := Aside0.mk (blk_below BK2.out hb)
  have n2_ := Aside0.mk (below_step HB.out hb)
  clear BK1 BK2 HB ho hb
  have BK1 := n0_
  have BK2 := n1_
  have HB := n2_
  clear n0_ n1_ n2_
  refine hK.out _ _ ⟨(blk_cell BK1.out 0).trans rfl, (blk_cell BK1.out 1).trans rfl, (blk_cell BK1.out 2).trans rfl⟩ (fun hHeld => ?_)
  clear hK K
  refine norm_ (a' := ?_) ?_ ?_
  rotate_left
  · show Act.put _ (some 6) _ = _
    simp only [Act.put, List.setIfInBounds_toArray, List.set_cons_zero, List.set_cons_succ, i64_w, i32_w]
    rfl
  refine pure_ (i := 6) (N := some 10) (v := ?_) (a' := ?_) #[true, true, true, true, true, false, true, false, false, false] rfl rfl (any_of HT_.out (by kernel_rfl)) (fun _ _ _ h => h) (Or.inl ⟨by rfl, ?_⟩) ?_ ?_
  rotate_left
  · intro w'
    go_simp
    with_reducible rfl
  rotate_left
  · simp only [Act.put, List.setIfInBounds_toArray, List.set_cons_zero, List.set_cons_succ, i64_w, i32_w]
    rfl
  refine one_ (i := 5) (N := some 9) #[true, true, true, true, true, true, true, false, false, false] rfl rfl (one_of HT_.out (by kernel_rfl)) (by decide) (fun K hK => ?_)
  refine goes_ Tryd.func88 (by kernel_rfl) rfl #[.slice A2 l2.length c2] (by rfl) rfl rfl (by (try simp only [List.map_toArray, List.map_cons, List.map_nil]); first | done | rfl) ?_
  have h_ := clone_Pool A2 c2 rl w4 (Kd.C_below HRL.out HB.out) (by rw [HLEN.out]; exact hc2) (by rw [HLEN.out]; exact hl2)
  rw [HLEN.out] at h_
  refine (h_).mono ?_
  rintro e w5 ⟨v2, rfl, ho, hb⟩
  obtain ⟨B2, d2, rfl, hd2, _⟩ := Kd.R_reads ho
  have HD2 := Aside0.mk hd2
  clear hd2
  refine ⟨_, rfl, ?_⟩
  have HO2 := Aside0.mk (Kd.R_lower ho (below_size HB.out))
  have n0_ := Aside0.mk (blk_below BK1.out hb)
  have n1_ := Aside0.mk (blk_below BK2.out hb)
  have n2_ := Aside0.mk (below_step HB.out hb)
  have n3_ := Aside0.mk (Kd.R_below HO1.out hb)
  clear BK1 BK2 HB HO1 ho hb
  have BK1 := n0_
  have BK2 := n1_
  have HB := n2_
  have HO1 := n3_
  clear n0_ n1_ n2_ n3_
  refine hK.out _ _ ⟨(blk_cell BK1.out 0).trans rfl, (blk_cell BK1.out 1).trans rfl, (blk_cell BK1.out 2).trans rfl⟩ (fun hHeld => ?_)
  clear hK K
  refine norm_ (a' := ?_) ?_ ?_
  rotate_left
  · show Act.put _ (some 9) _ = _
    simp only [Act.put, List.setIfInBounds_toArray, List.set_cons_zero, List.set_cons_succ, i64_w, i32_w]
    rfl
  refine last_ (i := 7) (N := none) #[true, true, true, true, true, true, true, true, false, false] rfl rfl (one_of HT_.out (by kernel_rfl)) (by decide) (fun K hK => ?_)
  have hs_ := (blk_cell BK1.out 1).trans (show _ = some (.slice A1 l1.length c1) from rfl)
  have hf_ := blk_frozen BK1.out 1
  refine skip_ (w1 := ?_) (by rfl) rfl ?_ ?_
  rotate_left
  · go_simp
    rfl
  refine hK.out _ _ ?_
  clear hK K hs_ hf_
  have n0_ := Aside0.mk (blk_put (cs' := #[.int .i64 a, .slice B1 l1.length d1, .slice A2 l2.length c2]) BK1.out 1 (.slice B1 l1.length d1) rfl)
  have n1_ := Aside0.mk (blk_far BK2.out (p := ⟨g1, 1, none⟩) NE.out.symm (.slice B1 l1.length d1))
  have n2_ := Aside0.mk (below_set (j := 1) (v := (.slice B1 l1.length d1)) HB.out GE1.out)
  have n3_ := Aside0.mk (Kd.R_set HO1.out BK1.out (by decide) 1 (.slice B1 l1.length d1))
  have n4_ := Aside0.mk (Kd.R_set HO2.out BK1.out (by decide) 1 (.slice B1 l1.length d1))
  clear BK1 BK2 HB HO1 HO2
  have BK1 := n0_
  have BK2 := n1_
  have HB := n2_
  have HO1 := n3_
  have HO2 := n4_
  clear n0_ n1_ n2_ n3_ n4_
  refine pure_ (i := 8) (N := some 11) (v := ?_) (a' := ?_) #[true, true, true, true, true, true, true, true, true, false] rfl rfl (any_of HT_.out (by kernel_rfl)) (fun _ _ _ h => h) (Or.inl ⟨by rfl, ?_⟩) ?_ ?_
  rotate_left
  · intro w'
    go_simp
    with_reducible rfl
  rotate_left
  · simp only [Act.put, List.setIfInBounds_toArray, List.set_cons_zero, List.set_cons_succ, i64_w, i32_w]
    rfl
  refine last_ (i := 9) (N := none) #[true, true, true, true, true, true, true, true, true, true] rfl rfl (one_of HT_.out (by kernel_rfl)) (by decide) (fun K hK => ?_)
  have hs_ := (blk_cell BK1.out 2).trans (show _ = some (.slice A2 l2.length c2) from rfl)
  have hf_ := blk_frozen BK1.out 2
  refine skip_ (w1 := ?_) (by rfl) rfl ?_ ?_
  rotate_left
  · go_simp
    rfl
  refine hK.out _ _ ?_
  clear hK K hs_ hf_
  have n0_ := Aside0.mk (blk_put (cs' := #[.int .i64 a, .slice B1 l1.length d1, .slice B2 rl.length d2]) BK1.out 2 (.slice B2 rl.length d2) rfl)
  have n1_ := Aside0.mk (blk_far BK2.out (p := ⟨g1, 2, none⟩) NE.out.symm (.slice B2 rl.length d2))
  have n2_ := Aside0.mk (below_set (j := 2) (v := (.slice B2 rl.length d2)) HB.out GE1.out)
  have n3_ := Aside0.mk (Kd.R_set HO1.out BK1.out (by decide) 2 (.slice B2 rl.length d2))
  have n4_ := Aside0.mk (Kd.R_set HO2.out BK1.out (by decide) 2 (.slice B2 rl.length d2))
  clear BK1 BK2 HB HO1 HO2
  have BK1 := n0_
  have BK2 := n1_
  have HB := n2_
  have HO1 := n3_
  have HO2 := n4_
  clear n0_ n1_ n2_ n3_ n4_
  refine done_ (done_of HT_.out (by kernel_rfl)) ?_
  generalize ((w5.setCell ⟨g1, 1, none⟩ (.slice B1 l1.length d1)).setCell ⟨g1, 2, none⟩ (.slice B2 rl.length d2)) = w6 at BK1 BK2 HB HO1 HO2 ⊢
  obtain ⟨bg, hbg⟩ : ∃ bg, rl = [] ∨ (B2 = some ⟨bg, 0, none⟩ ∧ w.heap.size ≤ bg ∧ RawBlk w6 bg rl) := by
    rcases rawblk_of HO2.out with h | ⟨g, cap, he, hg, hb⟩
    · exact ⟨0, .inl h⟩
    · injection he with e1 e2 e3
      exact ⟨g, .inr ⟨e1, hg, hb⟩⟩
  have HBG := Aside0.mk hbg
  clear hbg HO2 HRL
  have q2 : w6.cell? ⟨g1, 2, none⟩ = some (.slice B2 rl.length d2) := (blk_cell BK1.out 2).trans rfl
  go_wp2
  clear q2
  go_loopg [15] (rl.length + 1) (fun n v15 wr => ∃ (i : Nat) (rli : List (ByteArray × (Option Addr × Nat × Nat))), v15 = .int .i64 (i : Int) ∧ Aside0 (i + n = rl.length + 1 ∧ i ≤ rl.length) ∧ Aside0 (rli.length = rl.length) ∧ Aside0 (wr.heap[g1]? = some (.cells #[.int .i64 a, .slice B1 l1.length d1, .slice B2 rl.length d2] 55 (0, 0))) ∧ Aside0 (wr.heap[g2]? = some (.cells #[.int .i64 0, .slice none 0 0, .slice none 0 0] 55 (0, 0))) ∧ Aside0 (Kd.R k93 93 wr w.heap.size (fun _ => True) (.slice B1 l1.length d1) l1) ∧ Aside0 (rl = [] ∨ RawBlk wr bg rli) ∧ Aside0 (∀ (j : Nat) (x : S67) (y : (ByteArray × (Option Addr × Nat × Nat))), l2[j]? = some x → rli[j]? = some y → (j < i → RawOwn wr w.heap.size x y) ∧ (i ≤ j → rl[j]? = some y)) ∧ Aside0 (Below w.heap.size w wr))
  case atStart => exact ⟨0, rl, rfl, ⟨by omega, by omega⟩, ⟨rfl⟩, ⟨BK1.out⟩, ⟨BK2.out⟩, ⟨HO1.out⟩, ⟨HBG.out.imp id (fun h => h.2.2)⟩, ⟨fun j x y hx hy => ⟨fun h => absurd h (Nat.not_lt_zero _), fun _ => hy⟩⟩, ⟨HB.out⟩⟩
  case round =>
    clear BK1 BK2 HO1 HB
    obtain ⟨i, rli, rfl, HN, HL, BK1, BK2, HO1, HRB, HINV, HB⟩ := hrel
    rcases Nat.lt_or_ge i rl.length with hi | hi
    · have c1 : decide ((i : Int) < (rl.length : Int)) = true := decide_eq_true (by omega)
      have hne : rl ≠ [] := by rintro rfl; simp at hi
      obtain ⟨hB, hbase, _⟩ := HBG.out.resolve_left hne
      have hrb := HRB.out.resolve_left hne
      obtain ⟨x, hx⟩ : ∃ x, l2[i]? = some x := ⟨_, List.getElem?_eq_getElem (by have := HLEN.out; omega)⟩
      obtain ⟨⟨y1, yA, yn, yc⟩, hy⟩ : ∃ y, rli[i]? = some y := ⟨_, List.getElem?_eq_getElem (by have := HL.out; omega)⟩
      obtain ⟨h1, h2, h3, h4⟩ := HRAW.out i x _ hx ((HINV.out i x _ hx hy).2 (Nat.le_refl _))
      simp only at h1 h2 h3 h4
      subst h1 h2
      have q3 := (hrb.cell hy).1
      simp only at q3
      have q2 : wr.cell? ⟨g1, 2, none⟩ = some (.slice B2 rl.length d2) := (blk_cell BK1.out 2).trans rfl
      have HX := Aside0.mk hx
      have HY := Aside0.mk hy
      have HR4 := Aside0.mk h4
      have H3 := Aside0.mk h3
      have HI := Aside0.mk hi
      have HBS := Aside0.mk hbase
      have HQ := Aside0.mk hrb
      have HX3 := Aside0.mk (hl3 x (List.mem_of_getElem? hx))
      clear hx hy h4 h3 hbase hne hrb
      subst hB
      have hab : ∀ k : Nat, (Addr.add ⟨bg, 0, none⟩ k) = ⟨bg, k, none⟩ := fun k => by rw [add_plain]
      go_wp2
      have hrb := HQ.out
      refine start_ (n := 13) (S := fun w' => w'.cell? ⟨g1, 2, none⟩ = some (.slice (some ⟨bg, 0, none⟩) rl.length d2) ∧ w'.cell? ⟨bg, i * 2 + 1, none⟩ = some (.slice yA x.f1.length yc)) (ds := [12]) #[false, false, false, false, false, false, false, false, false, false, false, false, false] (by kernel_rfl) rfl rfl ⟨(blk_cell BK1.out 2).trans rfl, (hrb.cell HY.out).1⟩ (fun hHeld => ?_)
      refine with_tab (T := copied_T5) copied_tab5 (fun HT_ => ?_)
      clear q2 q3 hrb
      have n0_ := Aside0.mk (blk_drew BK1.out)
      have n1_ := Aside0.mk (blk_drew BK2.out)
      have n2_ := Aside0.mk (below_drew1 HB.out)
      have n3_ := Aside0.mk (Kd.R_drew HO1.out)
      have n4_ : Aside0 (RawBlk wr.drew bg rli) := ⟨HQ.out⟩
      have n5_ : Aside0 (∀ (j : Nat) (x : S67) (y : (ByteArray × (Option Addr × Nat × Nat))), l2[j]? = some x → rli[j]? = some y → (j < i → RawOwn wr.drew w.heap.size x y) ∧ (i ≤ j → rl[j]? = some y)) := ⟨HINV.out⟩
      clear BK1 BK2 HB HO1 HQ HINV HRB
      have BK1 := n0_
      have BK2 := n1_
      have HB := n2_
      have HO1 := n3_
      have HQ := n4_
      have HINV := n5_
      clear n0_ n1_ n2_ n3_ n4_ n5_
      generalize wr.drew = wq at BK1 BK2 HB HO1 HQ HINV hHeld ⊢
      refine pure_ (i := 0) (N := some 18) (v := ?_) (a' := ?_) #[true, false, false, false, false, false, false, false, false, false, false, false, false] rfl rfl (any_of HT_.out (by kernel_rfl)) (fun _ _ _ h => h) (Or.inl ⟨by rfl, ?_⟩) ?_ ?_
      rotate_left
      · intro w'
        go_simp
        with_reducible rfl
      rotate_left
      · simp only [Act.put, List.setIfInBounds_toArray, List.set_cons_zero, List.set_cons_succ, i64_w, i32_w]
        rfl
      refine take_ (i := 1) (N := some 19) (v := ?_) (a' := ?_) #[true, true, false, false, false, false, false, false, false, false, false, false, false] rfl rfl (take_of HT_.out (by kernel_rfl)) (fun _ _ _ h => h) (Or.inl ⟨by rfl, ?_⟩) hHeld ?_ ?_
      rotate_left
      · rintro w' ⟨s0, s1⟩
        go_simp
        with_reducible rfl
      rotate_left
      · simp only [Act.put, List.setIfInBounds_toArray, List.set_cons_zero, List.set_cons_succ, i64_w, i32_w]
        rfl
      refine pure_ (i := 2) (N := some 20) (v := ?_) (a' := ?_) #[true, true, true, false, false, false, false, false, false, false, false, false, false] rfl rfl (any_of HT_.out (by kernel_rfl)) (fun _ _ _ h => h) (Or.inl ⟨by rfl, ?_⟩) ?_ ?_
      rotate_left
      · intro w'
        go_simp
        with_reducible rfl
      rotate_left
      · simp only [Act.put, List.setIfInBounds_toArray, List.set_cons_zero, List.set_cons_succ, i64_w, i32_w]
        rfl
      refine pure_ (i := 3) (N := some 21) (v := ?_) (a' := ?_) #[true, true, true, true, false, false, false, false, false, false, false, false, false] rfl rfl (any_of HT_.out (by kernel_rfl)) (fun _ _ _ h => h) (Or.inl ⟨by rfl, ?_⟩) ?_ ?_
      rotate_left
      · intro w'
        go_simp
        with_reducible rfl
      rotate_left
      · simp only [Act.put, List.setIfInBounds_toArray, List.set_cons_zero, List.set_cons_succ, i64_w, i32_w]
        rfl
      refine take_ (i := 4) (N := some 22) (v := ?_) (a' := ?_) #[true, true, true, true, true, false, false, false, false, false, false, false, false] rfl rfl (take_of HT_.out (by kernel_rfl)) (fun _ _ _ h => h) (Or.inl ⟨by rfl, ?_⟩) hHeld ?_ ?_
      rotate_left
      · rintro w' ⟨s0, s1⟩
        go_simp
        with_reducible rfl
      rotate_left
      · simp only [Act.put, List.setIfInBounds_toArray, List.set_cons_zero, List.set_cons_succ, i64_w, i32_w]
        rfl
      refine pure_ (i := 5) (N := some 23) (v := ?_) (a' := ?_) #[true, true, true, true, true, true, false, false, false, false, false, false, false] rfl rfl (any_of HT_.out (by kernel_rfl)) (fun _ _ _ h => h) (Or.inl ⟨by rfl, ?_⟩) ?_ ?_
      rotate_left
      · intro w'
        go_simp
        with_reducible rfl
      rotate_left
      · simp only [Act.put, List.setIfInBounds_toArray, List.set_cons_zero, List.set_cons_succ, i64_w, i32_w]
        rfl
      refine pure_ (i := 6) (N := some 24) (v := ?_) (a' := ?_) #[true, true, true, true, true, true, true, false, false, false, false, false, false] rfl rfl (any_of HT_.out (by kernel_rfl)) (fun _ _ _ h => h) (Or.inl ⟨by rfl, ?_⟩) ?_ ?_
      rotate_left
      · intro w'
        go_simp
        with_reducible rfl
      rotate_left
      · simp only [Act.put, List.setIfInBounds_toArray, List.set_cons_zero, List.set_cons_succ, i64_w, i32_w]
        rfl
      refine pure_ (i := 7) (N := some 25) (v := ?_) (a' := ?_) #[true, true, true, true, true, true, true, true, false, false, false, false, false] rfl rfl (any_of HT_.out (by kernel_rfl)) (fun _ _ _ h => h) (Or.inl ⟨by rfl, ?_⟩) ?_ ?_
      rotate_left
      · intro w'
        go_simp
        with_reducible rfl
      rotate_left
      · simp only [Act.put, List.setIfInBounds_toArray, List.set_cons_zero, List.set_cons_succ, i64_w, i32_w]
        rfl
      refine take_ (i := 8) (N := some 26) (v := ?_) (a' := ?_) #[true, true, true, true, true, true, true, true, true, false, false, false, false] rfl rfl (take_of HT_.out (by kernel_rfl)) (fun _ _ _ h => h) (Or.inl ⟨by rfl, ?_⟩) hHeld ?_ ?_
      rotate_left
      · rintro w' ⟨s0, s1⟩
        go_simp
        with_reducible rfl
      rotate_left
      · simp only [Act.put, List.setIfInBounds_toArray, List.set_cons_zero, List.set_cons_succ, i64_w, i32_w]
        rfl
      refine one_ (i := 9) (N := some 27) #[true, true, true, true, true, true, true, true, true, true, false, false, false] rfl rfl (one_of HT_.out (by kernel_rfl)) (by decide) (fun K hK => ?_)
      refine goes_ Tryd.func89 (by kernel_rfl) rfl #[.slice yA x.f1.length yc] (by rfl) rfl rfl (by (try simp only [List.map_toArray, List.map_cons, List.map_nil]); first | done | rfl) ?_
      refine (clone_Target yA yc x.f1 wq (Kd.C_below HR4.out HB.out) H3.out HX3.out).mono ?_
      rintro e wv ⟨v3, rfl, ho, hb⟩
      obtain ⟨TA, tc, rfl, htc, _⟩ := Kd.R_reads ho
      have HTC := Aside0.mk htc
      clear htc
      refine ⟨_, rfl, ?_⟩
      have HO3 := Aside0.mk (Kd.R_lower ho (below_size HB.out))
      have n0_ := Aside0.mk (blk_below BK1.out hb)
      have n1_ := Aside0.mk (blk_below BK2.out hb)
      have n2_ := Aside0.mk (below_step HB.out hb)
      have n3_ := Aside0.mk (Kd.R_below HO1.out hb)
      have n4_ := Aside0.mk (HQ.out.below hb)
      have n5_ : Aside0 (∀ (j : Nat) (x : S67) (y : (ByteArray × (Option Addr × Nat × Nat))), l2[j]? = some x → rli[j]? = some y → (j < i → RawOwn wv w.heap.size x y) ∧ (i ≤ j → rl[j]? = some y)) := ⟨fun j x y hx hy => ⟨fun h => ((HINV.out j x y hx hy).1 h).below hb, (HINV.out j x y hx hy).2⟩⟩
      clear BK1 BK2 HB HO1 HQ HINV ho hb
      have BK1 := n0_
      have BK2 := n1_
      have HB := n2_
      have HO1 := n3_
      have HQ := n4_
      have HINV := n5_
      clear n0_ n1_ n2_ n3_ n4_ n5_
      refine hK.out _ _ ⟨(blk_cell BK1.out 2).trans rfl, (HQ.out.cell HY.out).1⟩ (fun hHeld => ?_)
      clear hK K
      refine norm_ (a' := ?_) ?_ ?_
      rotate_left
      · show Act.put _ (some 27) _ = _
        simp only [Act.put, List.setIfInBounds_toArray, List.set_cons_zero, List.set_cons_succ, i64_w, i32_w]
        rfl
      refine pure_ (i := 10) (N := some 28) (v := ?_) (a' := ?_) #[true, true, true, true, true, true, true, true, true, true, true, false, false] rfl rfl (any_of HT_.out (by kernel_rfl)) (fun _ _ _ h => h) (Or.inl ⟨by rfl, ?_⟩) ?_ ?_
      rotate_left
      · intro w'
        go_simp
        with_reducible rfl
      rotate_left
      · simp only [Act.put, List.setIfInBounds_toArray, List.set_cons_zero, List.set_cons_succ, i64_w, i32_w]
        rfl
      refine pure_ (i := 11) (N := some 29) (v := ?_) (a' := ?_) #[true, true, true, true, true, true, true, true, true, true, true, true, false] rfl rfl (any_of HT_.out (by kernel_rfl)) (fun _ _ _ h => h) (Or.inl ⟨by rfl, ?_⟩) ?_ ?_
      rotate_left
      · intro w'
        go_simp
        with_reducible rfl
      rotate_left
      · simp only [Act.put, List.setIfInBounds_toArray, List.set_cons_zero, List.set_cons_succ, i64_w, i32_w]
        rfl
      refine last_ (i := 12) (N := none) #[true, true, true, true, true, true, true, true, true, true, true, true, true] rfl rfl (one_of HT_.out (by kernel_rfl)) (by decide) (fun K hK => ?_)
      have hs_ := (HQ.out.cell HY.out).1
      have hf_ := (HQ.out.cell HY.out).2
      simp only at hs_
      refine skip_ (w1 := ?_) (by rfl) rfl ?_ ?_
      rotate_left
      · go_simp
        rfl
      refine hK.out _ _ ?_
      clear hK K hs_ hf_ hHeld
      refine done_ (done_of HT_.out (by kernel_rfl)) ?_
      obtain ⟨cur, hb0, hcur⟩ := id HQ.out
      clear hcur
      have HB0 := Aside0.mk hb0
      clear hb0
      have HINV2 : Aside0 (∀ (j : Nat) (x' : S67) (y' : (ByteArray × (Option Addr × Nat × Nat))), l2[j]? = some x' → (rli.set i (x.f0, (TA, x.f1.length, tc)))[j]? = some y' → (j < i + 1 → RawOwn (wv.setCell ⟨bg, i * 2 + 1, none⟩ (.slice TA x.f1.length tc)) w.heap.size x' y') ∧ (i + 1 ≤ j → rl[j]? = some y')) := ⟨by
        intro j x' y' hx' hy'
        have hil : i < rli.length := by have := HL.out; have := HI.out; omega
        rw [List.getElem?_set] at hy'
        by_cases hij : i = j
        · subst hij
          rw [if_pos rfl, if_pos hil] at hy'
          obtain rfl := Option.some.inj hy'
          obtain rfl : x = x' := Option.some.inj (HX.out.symm.trans hx')
          exact ⟨fun _ => ⟨rfl, rfl, HTC.out, Kd.R_set HO3.out HB0.out (by decide) _ _⟩, fun h => absurd h (by omega)⟩
        · rw [if_neg hij] at hy'
          exact ⟨fun h => ((HINV.out j x' y' hx' hy').1 (by omega)).set HQ.out _ _, fun h => (HINV.out j x' y' hx' hy').2 (by omega)⟩⟩
      have HBK1 := Aside0.mk (blk_far BK1.out (p := ⟨bg, i * 2 + 1, none⟩) (blk_ne BK1.out HB0.out (by decide)) (.slice TA x.f1.length tc))
      have HBK2 := Aside0.mk (blk_far BK2.out (p := ⟨bg, i * 2 + 1, none⟩) (blk_ne BK2.out HB0.out (by decide)) (.slice TA x.f1.length tc))
      have HO12 := Aside0.mk (Kd.R_set HO1.out HB0.out (by decide) (i * 2 + 1) (.slice TA x.f1.length tc))
      have HQ2 := Aside0.mk (HQ.out.set i HY.out TA x.f1.length tc)
      have HBB := Aside0.mk (below_set (j := i * 2 + 1) (v := .slice TA x.f1.length tc) HB.out HBS.out)
      clear BK1 BK2 HO1 HQ HB HINV HB0 HO3
      generalize (wv.setCell ⟨bg, i * 2 + 1, none⟩ (.slice TA x.f1.length tc)) = wz at HBK1 HBK2 HO12 HQ2 HBB HINV2 ⊢
      have hi9 : i < 2000 := by have := HI.out; have := HLEN.out; omega
      go_wp2
      go_roundg (rl.length - i)
      case measure => have := HN.out; have := HI.out; omega
      case rel => exact ⟨i + 1, rli.set i (x.f0, (TA, x.f1.length, tc)), by first | rfl | (simp; done) | (simp [*]; done), ⟨by have := HN.out; have := HI.out; omega⟩, ⟨by rw [List.length_set]; exact HL.out⟩, ⟨HBK1.out⟩, ⟨HBK2.out⟩, ⟨HO12.out⟩, ⟨.inr HQ2.out⟩, ⟨HINV2.out⟩, ⟨HBB.out⟩⟩
    · have c1 : decide ((i : Int) < (rl.length : Int)) = false := decide_eq_false (by omega)
      have hin : i = rl.length := by have := HN.out; omega
      have q0 : wr.cell? ⟨g1, 0, none⟩ = some (.int .i64 a) := (blk_cell BK1.out 0).trans rfl
      have q1 : wr.cell? ⟨g1, 1, none⟩ = some (.slice B1 l1.length d1) := (blk_cell BK1.out 1).trans rfl
      have q2 : wr.cell? ⟨g1, 2, none⟩ = some (.slice B2 rl.length d2) := (blk_cell BK1.out 2).trans rfl
      have z0 : wr.cell? ⟨g2, 0, none⟩ = some (.int .i64 0) := (blk_cell BK2.out 0).trans rfl
      have f0 := blk_frozen BK2.out 0
      have z1 : wr.cell? ⟨g2, 1, none⟩ = some (.slice none 0 0) := (blk_cell BK2.out 1).trans rfl
      have f1 := blk_frozen BK2.out 1
      have z2 : wr.cell? ⟨g2, 2, none⟩ = some (.slice none 0 0) := (blk_cell BK2.out 2).trans rfl
      have f2 := blk_frozen BK2.out 2
      go_wp2
      refine bodyPost_ret (results_single rfl (Vals.cell g2 55 #[.int .i64 a, .slice B1 l1.length d1, .slice B2 rl.length d2] (0, 0) _ rfl (blk_put (blk_put (blk_put BK2.out 0 _ rfl) 1 _ rfl) 2 _ rfl) Tryd.underlying55 rfl (by kernel_rfl) Vals.nil)) rfl ?_
      have b0 := BK2.out
      have b1 := blk_put (cs' := #[.int .i64 a, .slice none 0 0, .slice none 0 0]) b0 0 (.int .i64 a) rfl
      have b2 := blk_put (cs' := #[.int .i64 a, .slice B1 l1.length d1, .slice none 0 0]) b1 1 (.slice B1 l1.length d1) rfl
      refine ⟨B1, d1, B2, d2, by rw [HLEN.out], Kd.R_set (Kd.R_set (Kd.R_set HO1.out b0 (by decide) 0 (.int .i64 a)) b1 (by decide) 1 (.slice B1 l1.length d1)) b2 (by decide) 2 (.slice B2 rl.length d2), HD1.out, ⟨by rw [← HLEN.out]; exact HD2.out, by omega, ?_⟩, below_set (below_set (below_set HB.out GE2.out) GE2.out) GE2.out⟩
      by_cases hne : rl = []
      · exact .inl (List.length_eq_zero_iff.1 (by rw [← HLEN.out, hne]; rfl))
      · obtain ⟨hB, hbase, _⟩ := HBG.out.resolve_left hne
        have hrb := HRB.out.resolve_left hne
        obtain ⟨cur, hb0, _⟩ := id hrb
        have hgn : bg ≠ g2 := blk_ne hb0 BK2.out (by decide)
        subst hB
        exact .inr ⟨bg, rli, rfl, hbase, HL.out.trans HLEN.out, ((hrb.far hgn 0 _).far hgn 1 _).far hgn 2 _, fun j x y hx hy => ((((HINV.out j x y hx hy).1 (by have := (List.getElem?_eq_some_iff.1 hx).1; have := HLEN.out; omega)).setT b0 (by decide) 0 (.int .i64 a)).setT b1 (by decide) 1 (.slice B1 l1.length d1)).setT b2 (by decide) 2 (.slice (some ⟨bg, 0, none⟩) rl.length d2)⟩
end Go.Proofs.YtabkdmfnafeaeaaDoor.S
end
section
namespace Go.Proofs.YtabkdmfnafeaeaaDoor.S
open Go.RowKit Go.Proofs.YtabkdmfnafeaeaaDoorW.PrintWords Go.Proofs.YtabkdmfnafeaeaaDoorW.PrintLast Go.Proofs.YtabkdmfnafeaeaaDoorW.PrintMore
set_option linter.unusedVariables false
set_option linter.unusedSimpArgs false
def PlaneOwn (W : World) (base g : Nat) (f0 : Int) (f1 : List S93) (f2 : List S67) : Prop :=
  ∃ A1 c1 A2 c2, W.heap[g]? = some (.cells #[.int .i64 f0, .slice A1 f1.length c1, .slice A2 f2.length c2] 97 (0, 0)) ∧ Kd.R k93 93 W base (fun _ => True) (.slice A1 f1.length c1) f1 ∧ f1.length ≤ c1 ∧ PoolsOwn W base A2 c2 f2
theorem PlaneOwn.at_ {W : World} {base g : Nat} {f0 : Int} {f1 : List S93} {f2 : List S67} (h : PlaneOwn W base g f0 f1 f2) : PlaneAt W g f0 f1 f2 := by
  obtain ⟨A1, c1, A2, c2, h0, h1, h2, h3⟩ := h
  obtain ⟨A, c, he, _, hr⟩ := Kd.R_reads h1
  injection he with e1 e2 e3
  subst e1
  exact ⟨A1, c1, A2, c2, h0, hr, h2, h3.C, h3.1⟩
theorem PlaneOwn.below {W W1 : World} {base g : Nat} {f0 : Int} {f1 : List S93} {f2 : List S67} (h : PlaneOwn W base g f0 f1 f2) (hb : Below W.heap.size W W1) : PlaneOwn W1 base g f0 f1 f2 := by
  obtain ⟨A1, c1, A2, c2, h0, h1, h2, h3⟩ := h
  exact ⟨A1, c1, A2, c2, blk_below h0 hb, Kd.R_below h1 hb, h2, h3.below hb⟩
theorem PlaneOwn.far {W : World} {base g : Nat} {f0 : Int} {f1 : List S93} {f2 : List S67} (h : PlaneOwn W base g f0 f1 f2) {g' : Nat} {cells : Array Value} (hb : W.heap[g']? = some (.cells cells 97 (0, 0))) (hne : g ≠ g') (j : Nat) (u : Value) : PlaneOwn (W.setCell ⟨g', j, none⟩ u) base g f0 f1 f2 := by
  obtain ⟨A1, c1, A2, c2, h0, h1, h2, h3⟩ := h
  exact ⟨A1, c1, A2, c2, blk_far h0 (p := ⟨g', j, none⟩) hne u, Kd.R_set h1 hb (by decide) j u, h2, h3.setT hb (by decide) (by decide) j u⟩
set_option maxHeartbeats 2000000 in
set_option maxRecDepth 100000 in
theorem apply_ok {g : Nat} {f0 : Int} {f1 : List S93} {f2 : List S67} {w : World} (h : PlaneAt w g f0 f1 f2) (a : Int) (A1 : Option Addr) (c1 : Nat) (l1 : List S93) (A2 : Option Addr) (c2 : Nat) (l2 : List S67) (hr1 : Kd.C k93 w A1 l1.length l1) (hc1 : l1.length ≤ c1) (hr2 : Kd.C k67 w A2 l2.length l2) (hc2 : l2.length ≤ c2)
    (hl1 : l1.length ≤ 2000) (hl2 : l2.length ≤ 2000) (hl3 : ∀ x, x ∈ l2 → x.f1.length ≤ 2000) (ha : f0 < a) :
    Calls Tryd.prog 29 #[.pointer (some ⟨g, 0, none⟩), .agg #[.int .i64 a, .slice A1 l1.length c1, .slice A2 l2.length c2]] w fun e w' => e = .returned (.int .i64 0) ∧ PlaneOwn w' w.heap.size g a l1 l2 ∧ (∀ n, n ≤ g → n ≤ w.heap.size → Below n w w') ∧ (∀ k, k < w.heap.size → k ≠ g → w'.heap[k]? = w.heap[k]?) ∧ (∀ base g' h0 h1 h2, g' ≠ g → PlaneOwn w base g' h0 h1 h2 → PlaneOwn w' base g' h0 h1 h2) := by
  obtain ⟨A1', c1', A2', c2', h0, _, _, _, _⟩ := h
  have HB := Aside0.mk (Below.refl w.heap.size w)
  have H0 := Aside0.mk h0
  have HR1 := Aside0.mk hr1
  have HR2 := Aside0.mk hr2
  have HL3 := Aside0.mk hl3
  have hu97 := Tryd.underlying97
  have hu55 := Tryd.underlying55
  clear h0 hr1 hr2 hl3
  go_enter Tryd.func29, Tryd.ntmps29
  go_wp2_with (first | ((with_reducible refine gate_dst (N := 3) rfl ?_); refine box_event ?hg (N := 3) ?hd (cs := #[.int .i64 a, .slice A1 l1.length c1, .slice A2 l2.length c2]) (t := 55) ?hr ?_; (case hd => rfl); (case hg => rfl); (case hr => first | (go_simp; done) | (go_simp; rfl)); intro gb hg w1 hbox hb; have n0_ := Aside0.mk (below_step HB.out hb); have n1_ := Aside0.mk (blk_below H0.out hb); have q0 := cellS97_0 (blk_below H0.out hb); have p0 : w1.cell? ⟨gb, 0, none⟩ = some (.int .i64 a) := (blk_cell hbox 0).trans rfl; have p1 : w1.cell? ⟨gb, 1, none⟩ = some (.slice A1 l1.length c1) := (blk_cell hbox 1).trans rfl; have p2 : w1.cell? ⟨gb, 2, none⟩ = some (.slice A2 l2.length c2) := (blk_cell hbox 2).trans rfl; clear HB; have HB := n0_; have H1 := n1_; clear hb hbox hg n0_ n1_))
  go_still (by rfl)
  go_wp2_with fail
  refine (copied_ok a A1 c1 l1 A2 c2 l2 _ (Kd.C_below HR1.out (below_drew1 HB.out)) hc1 (Kd.C_below HR2.out (below_drew1 HB.out)) hc2 hl1 hl2 HL3.out).mono ?_
  rintro e w3 ⟨B1, d1, B2, d2, rfl, ho1, hd1, ho2, hb⟩
  have HO1 := Aside0.mk (Kd.R_lower ho1 (below_size (below_drew1 HB.out)))
  have HBK := Aside0.mk (blk_below (blk_drew H1.out) hb)
  have HO2 := Aside0.mk (ho2.lower (below_size (below_drew1 HB.out)))
  have HBB := Aside0.mk (below_step (below_drew1 HB.out) hb)
  have HD1 := Aside0.mk hd1
  clear ho1 ho2 hd1 hb q0 p0 p1 p2
  have z0 : w3.cell? ⟨g, 0, none⟩ = some (.int .i64 f0) := (blk_cell HBK.out 0).trans rfl
  have z1 : w3.cell? ⟨g, 1, none⟩ = some (.slice A1' f1.length c1') := (blk_cell HBK.out 1).trans rfl
  have z2 : w3.cell? ⟨g, 2, none⟩ = some (.slice A2' f2.length c2') := (blk_cell HBK.out 2).trans rfl
  have y0 := blk_frozen HBK.out 0
  have y1 := blk_frozen HBK.out 1
  have y2 := blk_frozen HBK.out 2
  go_wp2
  go_ret
  have b0 := HBK.out
  have b1 := blk_put (cs' := #[.int .i64 a, .slice A1' f1.length c1', .slice A2' f2.length c2']) b0 0 (.int .i64 a) rfl
  have b2 := blk_put (cs' := #[.int .i64 a, .slice B1 l1.length d1, .slice A2' f2.length c2']) b1 1 (.slice B1 l1.length d1) rfl
  have b3 := blk_put (cs' := #[.int .i64 a, .slice B1 l1.length d1, .slice B2 l2.length d2]) b2 2 (.slice B2 l2.length d2) rfl
  refine ⟨rfl, ⟨B1, d1, B2, d2, b3, Kd.R_set (Kd.R_set (Kd.R_set HO1.out b0 (by decide) 0 _) b1 (by decide) 1 _) b2 (by decide) 2 _, HD1.out, ((HO2.out.setT b0 (by decide) (by decide) 0 _).setT b1 (by decide) (by decide) 1 _).setT b2 (by decide) (by decide) 2 _⟩, fun n h1 h2 => (((HBB.out.mono h2).setCell h1 _).setCell h1 _).setCell h1 _, fun k hk hne => ?_, fun base g' h0 h1 h2 hne hp => (((hp.below HBB.out).far b0 hne 0 _).far b1 hne 1 _).far b2 hne 2 _⟩
  rw [Below.heap_setCell _ _ _ k hne, Below.heap_setCell _ _ _ k hne, Below.heap_setCell _ _ _ k hne]
  exact HBB.out.block k hk
end Go.Proofs.YtabkdmfnafeaeaaDoor.S
end
section
namespace Go.Proofs.YtabkdmfnafeaeaaDoor.S
open Go.RowKit Go.Proofs.YtabkdmfnafeaeaaDoorW.PrintWords Go.Proofs.YtabkdmfnafeaeaaDoorW.PrintLast Go.Proofs.YtabkdmfnafeaeaaDoorW.PrintMore
set_option linter.unusedVariables false
set_option linter.unusedSimpArgs false
set_option maxHeartbeats 2000000 in
set_option maxRecDepth 100000 in
theorem match_ok (nm pool : ByteArray) (A : Option Addr) (n c ga gc : Nat) (w : World) (h1 : w.cell? ⟨gc, 0, none⟩ = some (.pointer (some ⟨ga, 0, none⟩))) (h2 : w.cell? ⟨ga, 10, none⟩ = some (.string pool)) (hc : gc < w.heap.size) (ha : ga < w.heap.size) :
    Calls Tryd.prog 91 #[.agg #[.string nm, .slice A n c], .pointer (some ⟨gc, 0, none⟩)] w fun e w' => e = .returned (.bool (nm.toList == pool.toList)) ∧ Below w.heap.size w w' := by
  have HB := Aside0.mk (Below.refl w.heap.size w)
  go_enter Tryd.func91, Tryd.ntmps91
  go_wp2_with (first | ((with_reducible refine gate_dst (N := 2) rfl ?_); refine box_event ?hg (N := 2) ?hd (cs := #[.string nm, .slice A n c]) (t := 67) ?hr ?_; (case hd => rfl); (case hg => rfl); (case hr => first | (go_simp; done) | (go_simp; rfl)); intro gb hg w1 hbox hb; have n0_ := Aside0.mk (below_step HB.out hb); have q1 := (hb.cell (p := ⟨gc, 0, none⟩) hc).trans h1; have q2 := (hb.cell (p := ⟨ga, 10, none⟩) ha).trans h2; have p0 : w1.cell? ⟨gb, 0, none⟩ = some (.string nm) := (blk_cell hbox 0).trans rfl; clear HB; have HB := n0_; clear hb hbox hg n0_))
  go_still (by rfl)
  go_wp2

  go_ret
  exact ⟨rfl, below_drew1 HB.out⟩
def idxP (pool : ByteArray) : List S67 → Int → Int
  | [], _ => -1
  | x :: l, i => if x.f0.toList == pool.toList then i else idxP pool l (i + 1)
theorem idx_rd (l : List S67) (i : Nat) (hi : i < l.length) : l[i]? = some (rd_T67 l (i : Int)) := by
  unfold rd_T67
  simp [List.getD_eq_getElem?_getD, List.getElem?_eq_getElem hi]
set_option maxHeartbeats 4000000 in
set_option maxRecDepth 100000 in
theorem index_ok (pool : ByteArray) (A : Option Addr) (c ga gc : Nat) (l : List S67) (w : World) (hr : Kd.C k67 w A l.length l) (hc : l.length ≤ c) (hl : l.length ≤ 2000) (h1 : w.cell? ⟨gc, 0, none⟩ = some (.pointer (some ⟨ga, 0, none⟩))) (h2 : w.cell? ⟨ga, 10, none⟩ = some (.string pool)) (hgc : gc < w.heap.size) (hga : ga < w.heap.size) :
    Calls Tryd.prog 90 #[.slice A l.length c, .func (.func 91) #[] #[.pointer (some ⟨gc, 0, none⟩)]] w fun e w' => e = .returned (.int .i64 (idxP pool l 0)) ∧ Below w.heap.size w w' := by
  have HB := Aside0.mk (Below.refl w.heap.size w)
  have HR := Aside0.mk hr
  clear hr
  go_enter Tryd.func90, Tryd.ntmps90
  go_wp2
  go_loopg [8] (l.length + 1) (fun n v8 wr => ∃ i : Nat, v8 = .int .i64 (i : Int) ∧ Aside0 (i + n = l.length + 1 ∧ i ≤ l.length) ∧ Aside0 (idxP pool (l.drop i) i = idxP pool l 0) ∧ Aside0 (Below w.heap.size w wr))
  case atStart => exact ⟨0, rfl, ⟨by omega, by omega⟩, ⟨rfl⟩, ⟨HB.out⟩⟩
  case round =>
    clear HB
    obtain ⟨i, rfl, HN, HI, HB⟩ := hrel
    rcases Nat.lt_or_ge i l.length with hi | hi
    · have c1 : decide ((i : Int) < (l.length : Int)) = true := decide_eq_true (by omega)
      obtain ⟨ad, A1, cc, rfl, x0, x1, _, _⟩ := at_T67 (Kd.C_below HR.out HB.out) i (by omega) (by omega)
      simp only [Int.toNat_natCast] at x0 x1
      have HX := Aside0.mk (show l[i]? = some (rd_T67 l (i : Int)) from idx_rd l i hi)
      go_wp2_with fail
      refine (match_ok _ pool _ _ _ ga gc wr ((HB.out.cell (p := ⟨gc, 0, none⟩) hgc).trans h1) ((HB.out.cell (p := ⟨ga, 10, none⟩) hga).trans h2) (Nat.lt_of_lt_of_le hgc HB.out.size) (Nat.lt_of_lt_of_le hga HB.out.size)).mono ?_
      rintro e w4 ⟨rfl, hb⟩
      have n0_ := Aside0.mk (below_step HB.out hb)
      clear HB hb x0 x1
      have HB := n0_
      clear n0_
      have hdr : l.drop i = rd_T67 l (i : Int) :: l.drop (i + 1) := by
        rw [List.drop_eq_getElem_cons hi]
        have h_ := HX.out
        rw [List.getElem?_eq_getElem hi] at h_
        rw [Option.some.inj h_]
      have hI := HI.out
      rw [hdr] at hI
      simp only [idxP] at hI
      by_cases hq : (rd_T67 l (i : Int)).f0.toList == pool.toList
      · rw [if_pos hq] at hI
        have HQ := Aside0.mk hI
        rw [hq]
        clear hI hdr
        go_wp2
        go_ret
        exact ⟨by rw [← HQ.out]; rfl, HB.out⟩
      · rw [if_neg hq] at hI
        have HQ := Aside0.mk hI
        rw [Bool.not_eq_true] at hq
        rw [hq]
        clear hI hdr
        have hi9 : i < 2000 := by omega
        go_wp2
        go_roundg (l.length - i)
        case measure => have := HN.out; omega
        case rel => exact ⟨i + 1, by first | rfl | (simp; done) | (simp [*]; done), ⟨by have := HN.out; omega⟩, ⟨HQ.out⟩, ⟨HB.out⟩⟩
    · have c1 : decide ((i : Int) < (l.length : Int)) = false := decide_eq_false (by omega)
      have hI := HI.out
      rw [List.drop_of_length_le hi] at hI
      simp only [idxP] at hI
      have HQ := Aside0.mk hI
      clear hI
      go_wp2
      go_ret
      exact ⟨by rw [← HQ.out]; rfl, HB.out⟩
end Go.Proofs.YtabkdmfnafeaeaaDoor.S
end
section
namespace Go.Proofs.YtabkdmfnafeaeaaDoor.S
open Go.RowKit Go.Proofs.YtabkdmfnafeaeaaDoorW.PrintWords Go.Proofs.YtabkdmfnafeaeaaDoorW.PrintLast Go.Proofs.YtabkdmfnafeaeaaDoorW.PrintMore
set_option linter.unusedVariables false
set_option linter.unusedSimpArgs false
def askedCells (g : Nat) (b : Value) (draw : Nat) (m p q h : ByteArray) (fs : Value) (st ver : Int) (pool addr : ByteArray) : Array Value :=
  #[.pointer (some ⟨g, 0, none⟩), b, .float .f64 draw, .string m, .string p, .string q, .string h, fs, .int .i64 st, .int .i64 ver, .string pool, .string addr]
def AskedAt (W : World) (ga g : Nat) (b : Value) (draw : Nat) (m p q h : ByteArray) (fs : Value) (st ver : Int) (pool addr : ByteArray) : Prop :=
  W.heap[ga]? = some (.cells (askedCells g b draw m p q h fs st ver pool addr) 102 (0, 0))
def Only (ga : Nat) (w w' : World) : Prop := w.heap.size ≤ w'.heap.size ∧ ∀ k, k < w.heap.size → k ≠ ga → w'.heap[k]? = w.heap[k]?
theorem Only.refl (ga : Nat) (w : World) : Only ga w w := ⟨Nat.le_refl _, fun _ _ _ => rfl⟩
theorem Only.below {ga : Nat} {w w1 w2 : World} (h : Only ga w w1) (hb : Below w1.heap.size w1 w2) : Only ga w w2 :=
  ⟨Nat.le_trans h.1 hb.size, fun k hk hn => (hb.block k (Nat.lt_of_lt_of_le hk h.1)).trans (h.2 k hk hn)⟩
theorem Only.trans {ga : Nat} {w w1 w2 : World} (h : Only ga w w1) (h2 : Only ga w1 w2) : Only ga w w2 :=
  ⟨Nat.le_trans h.1 h2.1, fun k hk hn => (h2.2 k (Nat.lt_of_lt_of_le hk h.1) hn).trans (h.2 k hk hn)⟩
theorem Only.set {ga : Nat} {w w1 : World} (h : Only ga w w1) (j : Nat) (v : Value) : Only ga w (w1.setCell ⟨ga, j, none⟩ v) :=
  ⟨Nat.le_trans h.1 ((Below.refl 0 w1).setCell (p := ⟨ga, j, none⟩) (Nat.zero_le _) v).size, fun k hk hn => (Below.heap_setCell w1 ⟨ga, j, none⟩ v k hn).trans (h.2 k hk hn)⟩
theorem Only.setNew {ga : Nat} {w w1 : World} (h : Only ga w w1) {gr : Nat} (hg : w.heap.size ≤ gr) (j : Nat) (v : Value) : Only ga w (w1.setCell ⟨gr, j, none⟩ v) :=
  ⟨Nat.le_trans h.1 ((Below.refl 0 w1).setCell (p := ⟨gr, j, none⟩) (Nat.zero_le _) v).size, fun k hk hn => (Below.heap_setCell w1 ⟨gr, j, none⟩ v k (Nat.ne_of_lt (Nat.lt_of_lt_of_le hk hg))).trans (h.2 k hk hn)⟩
theorem Only.drew {ga : Nat} {w w1 : World} (h : Only ga w w1) : Only ga w w1.drew := h
set_option maxHeartbeats 4000000 in
set_option maxRecDepth 100000 in
theorem take_none {g : Nat} {f0 : Int} {f1 : List S93} {f2 : List S67} {w0 w : World} (hp : PlaneAt w0 g f0 f1 f2) (hB : Below w0.heap.size w0 w) {ga : Nat} (hga : w0.heap.size ≤ ga) {b : Value} {draw : Nat} {m p q h : ByteArray} {fs : Value} {st ver : Int} {pool addr : ByteArray}
    (hA : AskedAt w ga g b draw m p q h fs st ver pool addr) (hl2 : f2.length ≤ 2000) (hi : idxP pool f2 0 = -1) :
    Calls Tryd.prog 59 #[.pointer (some ⟨ga, 0, none⟩)] w fun e w' => e = .returned (.bool false) ∧ AskedAt w' ga g b draw m p q h fs 503 ver pool addr ∧ Below w0.heap.size w0 w' ∧ Only ga w w' := by
  obtain ⟨A1, c1, A2, c2, h0, _, _, hr2, hc2⟩ := hp
  have HB := Aside0.mk (Below.refl w.heap.size w)
  have HB0 := Aside0.mk hB
  have H0 := Aside0.mk h0
  have HA := Aside0.mk hA
  have HR2 := Aside0.mk hr2
  clear h0 hr2 hA hB
  have hmf : ∀ (fn : Fn) (first cap : Array Value) (w : World), (Instr.makeFunc fn first cap).run Tryd.prog w = .ok (.func fn first cap) w := fun _ _ _ _ => rfl
  go_enter Tryd.func59, Tryd.ntmps59
  go_wp2_with (first | ((with_reducible refine gate_dst (N := 1) rfl ?_); refine box_event ?hg (N := 1) ?hd (cs := #[.pointer (some ⟨ga, 0, none⟩)]) (t := 99) ?hr ?_; (case hd => rfl); (case hg => rfl); (case hr => first | (go_simp; done) | (go_simp; rfl)); intro gc hg w1 hbox hb; have n0_ := Aside0.mk (below_step HB.out hb); have HC := Aside0.mk hbox; have HA1 := Aside0.mk (blk_below HA.out hb); have k0 : w1.cell? ⟨gc, 0, none⟩ = some (.pointer (some ⟨ga, 0, none⟩)) := (blk_cell hbox 0).trans rfl; have k1 : w1.cell? ⟨ga, 8, none⟩ = some (.int .i64 st) := (blk_cell (blk_below HA.out hb) 8).trans rfl; have k2 := blk_frozen (blk_below HA.out hb) 8; have k3 : w1.cell? ⟨ga, 0, none⟩ = some (.pointer (some ⟨g, 0, none⟩)) := (blk_cell (blk_below HA.out hb) 0).trans rfl; have k4 : w1.cell? ⟨g, 2, none⟩ = some (.slice A2 f2.length c2) := (blk_cell (blk_below (blk_below H0.out HB0.out) hb) 2).trans rfl; have hn1 : gc ≠ ga := Nat.ne_of_gt (by rw [hg]; exact blk_lt HA.out); have hn2 : g ≠ ga := Nat.ne_of_lt (Nat.lt_of_lt_of_le (blk_lt H0.out) hga); clear HB; have HB := n0_; clear hb hbox hg n0_) | fail)
  have HA2 := Aside0.mk (blk_put (cs' := askedCells g b draw m p q h fs 503 ver pool addr) HA1.out 8 (.int .i64 503) rfl)
  have HC2 := Aside0.mk (blk_far HC.out (p := ⟨ga, 8, none⟩) hn1 (.int .i64 503))
  have HB2 := Aside0.mk ((below_step HB0.out HB.out).setCell (show w0.heap.size ≤ (⟨ga, 8, none⟩ : Addr).block from hga) (.int .i64 503))
  have HO2 := Aside0.mk (((Only.refl ga w).below HB.out).set 8 (.int .i64 503))
  clear k0 k1 k2 k3 k4 HB HC HA1 HA HB0 hn1 hn2
  generalize w1.setCell ⟨ga, 8, none⟩ (.int .i64 503) = w2 at HA2 HC2 HB2 HO2 ⊢
  refine (index_ok pool A2 c2 ga gc f2 w2 (Kd.C_below HR2.out HB2.out) hc2 hl2 ((blk_cell HC2.out 0).trans rfl) ((blk_cell HA2.out 10).trans rfl) (blk_lt HC2.out) (blk_lt HA2.out)).mono ?_
  rintro e w4 ⟨rfl, hb⟩
  have HA4 := Aside0.mk (blk_below HA2.out hb)
  have HB4 := Aside0.mk (below_step HB2.out hb)
  have HO4 := Aside0.mk (HO2.out.below hb)
  clear hb HA2 HC2 HB2 HO2
  rw [hi]
  go_wp2
  go_ret
  exact ⟨rfl, HA4.out, HB4.out, HO4.out⟩
end Go.Proofs.YtabkdmfnafeaeaaDoor.S
end
section
namespace Go.Proofs.YtabkdmfnafeaeaaDoor.S
open Go.RowKit Go.Proofs.YtabkdmfnafeaeaaDoorW.PrintWords Go.Proofs.YtabkdmfnafeaeaaDoorW.PrintLast Go.Proofs.YtabkdmfnafeaeaaDoorW.PrintMore
set_option linter.unusedVariables false
set_option linter.unusedSimpArgs false
noncomputable def route_T1 : Bool × List (List Nat × List Nat) := rtab .any (opsOf Tryd.f58 1)
theorem route_tab1 : rtab .any (opsOf Tryd.f58 1) = route_T1 := rfl
noncomputable def route_T2 : Bool × List (List Nat × List Nat) := rtab .any (opsOf Tryd.f58 2)
theorem route_tab2 : rtab .any (opsOf Tryd.f58 2) = route_T2 := rfl
set_option maxHeartbeats 4000000 in
set_option maxRecDepth 100000 in
theorem route_ok {g : Nat} {f0 : Int} {f1 : List S93} {f2 : List S67} {w0 w : World} (hp : PlaneAt w0 g f0 f1 f2) (hB : Below w0.heap.size w0 w) {ga : Nat} (hga : w0.heap.size ≤ ga) {b : Value} {draw : Nat} {m p q h : ByteArray} {fs : Value} {st ver : Int} {pool addr : ByteArray}
    (hA : AskedAt w ga g b draw m p q h fs st ver pool addr) (k : Nat) {r1 r2 r3 : ByteArray} {r4 : Bool} (hf : plane_Find.f k f0 f1 f2 h p = some (r1, r2, r3, r4)) :
    Calls Tryd.prog 58 #[.pointer (some ⟨ga, 0, none⟩)] w fun e w' => e = .returned (.bool r4) ∧ AskedAt w' ga g b draw m p q h fs 404 ver r3 addr ∧ Below w0.heap.size w0 w' ∧ Only ga w w' := by
  obtain ⟨A1, c1, A2, c2, h0, hr1, hc1, hr2, hc2⟩ := hp
  have HB0 := Aside0.mk hB
  have H0 := Aside0.mk h0
  have HA := Aside0.mk hA
  have HR1 := Aside0.mk hr1
  have HR2 := Aside0.mk hr2
  have HO := Aside0.mk (Only.refl ga w)
  have HF := Aside0.mk hf
  clear h0 hr1 hr2 hA hB hf
  unfold AskedAt at HA
  have hu102 := Tryd.underlying102
  have hu55 := Tryd.underlying55
  have hu93 := Tryd.underlying93
  have hu62 := Tryd.underlying62
  have hu25 := Tryd.underlying25
  have hu97 := Tryd.underlying97
  go_enter Tryd.func58, Tryd.ntmps58
  go_wp2
  refine start_ (n := 23) (S := fun w' => w'.cell? ⟨ga, 0, none⟩ = some (.pointer (some ⟨g, 0, none⟩)) ∧ w'.cell? ⟨g, 0, none⟩ = some (.int .i64 f0) ∧ w'.cell? ⟨g, 1, none⟩ = some (.slice A1 f1.length c1) ∧ w'.cell? ⟨g, 2, none⟩ = some (.slice A2 f2.length c2) ∧ w'.cell? ⟨ga, 6, none⟩ = some (.string h) ∧ w'.cell? ⟨ga, 4, none⟩ = some (.string p)) (ds := [21]) #[false, false, false, false, false, false, false, false, false, false, false, false, false, false, false, false, false, false, false, false, false, false, false] (by kernel_rfl) rfl rfl ⟨(blk_cell HA.out 0).trans rfl, (blk_cell (blk_below H0.out HB0.out) 0).trans rfl, (blk_cell (blk_below H0.out HB0.out) 1).trans rfl, (blk_cell (blk_below H0.out HB0.out) 2).trans rfl, (blk_cell HA.out 6).trans rfl, (blk_cell HA.out 4).trans rfl⟩ (fun hHeld => ?_)
  refine with_tab (T := route_T1) route_tab1 (fun HT_ => ?_)
  have m0_ := Aside0.mk (blk_drew HA.out)
  have m1_ := Aside0.mk (HO.out.drew)
  have m2_ := Aside0.mk (below_drew1 HB0.out)
  clear HA HO HB0
  have HA := m0_
  have HO := m1_
  have HB0 := m2_
  clear m0_ m1_ m2_
  generalize w.drew = w3 at HA HB0 HO hHeld ⊢
  refine pure_ (i := 0) (N := some 6) (v := ?_) (a' := ?_) #[true, false, false, false, false, false, false, false, false, false, false, false, false, false, false, false, false, false, false, false, false, false, false] rfl rfl (any_of HT_.out (by kernel_rfl)) (fun _ _ _ h => h) (Or.inl ⟨by rfl, ?_⟩) ?_ ?_
  rotate_left
  · intro w'
    go_simp
    with_reducible rfl
  rotate_left
  · simp only [Act.put, List.setIfInBounds_toArray, List.set_cons_zero, List.set_cons_succ, i64_w, i32_w]
    rfl
  refine pure_ (i := 1) (N := some 7) (v := ?_) (a' := ?_) #[true, true, false, false, false, false, false, false, false, false, false, false, false, false, false, false, false, false, false, false, false, false, false] rfl rfl (any_of HT_.out (by kernel_rfl)) (fun _ _ _ h => h) (Or.inl ⟨by rfl, ?_⟩) ?_ ?_
  rotate_left
  · intro w'
    go_simp
    with_reducible rfl
  rotate_left
  · simp only [Act.put, List.setIfInBounds_toArray, List.set_cons_zero, List.set_cons_succ, i64_w, i32_w]
    rfl
  refine pure_ (i := 2) (N := some 8) (v := ?_) (a' := ?_) #[true, true, true, false, false, false, false, false, false, false, false, false, false, false, false, false, false, false, false, false, false, false, false] rfl rfl (any_of HT_.out (by kernel_rfl)) (fun _ _ _ h => h) (Or.inl ⟨by rfl, ?_⟩) ?_ ?_
  rotate_left
  · intro w'
    go_simp
    with_reducible rfl
  rotate_left
  · simp only [Act.put, List.setIfInBounds_toArray, List.set_cons_zero, List.set_cons_succ, i64_w, i32_w]
    rfl
  refine take_ (i := 3) (N := some 9) (v := ?_) (a' := ?_) #[true, true, true, true, false, false, false, false, false, false, false, false, false, false, false, false, false, false, false, false, false, false, false] rfl rfl (take_of HT_.out (by kernel_rfl)) (fun _ _ _ h => h) (Or.inl ⟨by rfl, ?_⟩) hHeld ?_ ?_
  rotate_left
  · rintro w' ⟨s0, s1, s2, s3, s4, s5⟩
    go_simp
    with_reducible rfl
  rotate_left
  · simp only [Act.put, List.setIfInBounds_toArray, List.set_cons_zero, List.set_cons_succ, i64_w, i32_w]
    rfl
  refine pure_ (i := 4) (N := some 10) (v := ?_) (a' := ?_) #[true, true, true, true, true, false, false, false, false, false, false, false, false, false, false, false, false, false, false, false, false, false, false] rfl rfl (any_of HT_.out (by kernel_rfl)) (fun _ _ _ h => h) (Or.inl ⟨by rfl, ?_⟩) ?_ ?_
  rotate_left
  · intro w'
    go_simp
    with_reducible rfl
  rotate_left
  · simp only [Act.put, List.setIfInBounds_toArray, List.set_cons_zero, List.set_cons_succ, i64_w, i32_w]
    rfl
  refine take_ (i := 5) (N := some 11) (v := ?_) (a' := ?_) #[true, true, true, true, true, true, false, false, false, false, false, false, false, false, false, false, false, false, false, false, false, false, false] rfl rfl (take_of HT_.out (by kernel_rfl)) (fun _ _ _ h => h) (Or.inl ⟨by rfl, ?_⟩) hHeld ?_ ?_
  rotate_left
  · rintro w' ⟨s0, s1, s2, s3, s4, s5⟩
    go_simp
    with_reducible rfl
  rotate_left
  · simp only [Act.put, List.setIfInBounds_toArray, List.set_cons_zero, List.set_cons_succ, i64_w, i32_w]
    rfl
  refine pure_ (i := 6) (N := some 12) (v := ?_) (a' := ?_) #[true, true, true, true, true, true, true, false, false, false, false, false, false, false, false, false, false, false, false, false, false, false, false] rfl rfl (any_of HT_.out (by kernel_rfl)) (fun _ _ _ h => h) (Or.inl ⟨by rfl, ?_⟩) ?_ ?_
  rotate_left
  · intro w'
    go_simp
    with_reducible rfl
  rotate_left
  · simp only [Act.put, List.setIfInBounds_toArray, List.set_cons_zero, List.set_cons_succ, i64_w, i32_w]
    rfl
  refine pure_ (i := 7) (N := some 13) (v := ?_) (a' := ?_) #[true, true, true, true, true, true, true, true, false, false, false, false, false, false, false, false, false, false, false, false, false, false, false] rfl rfl (any_of HT_.out (by kernel_rfl)) (fun _ _ _ h => h) (Or.inl ⟨by rfl, ?_⟩) ?_ ?_
  rotate_left
  · intro w'
    go_simp
    with_reducible rfl
  rotate_left
  · simp only [Act.put, List.setIfInBounds_toArray, List.set_cons_zero, List.set_cons_succ, i64_w, i32_w]
    rfl
  refine pure_ (i := 8) (N := some 14) (v := ?_) (a' := ?_) #[true, true, true, true, true, true, true, true, true, false, false, false, false, false, false, false, false, false, false, false, false, false, false] rfl rfl (any_of HT_.out (by kernel_rfl)) (fun _ _ _ h => h) (Or.inl ⟨by rfl, ?_⟩) ?_ ?_
  rotate_left
  · intro w'
    go_simp
    with_reducible rfl
  rotate_left
  · simp only [Act.put, List.setIfInBounds_toArray, List.set_cons_zero, List.set_cons_succ, i64_w, i32_w]
    rfl
  refine pure_ (i := 9) (N := some 15) (v := ?_) (a' := ?_) #[true, true, true, true, true, true, true, true, true, true, false, false, false, false, false, false, false, false, false, false, false, false, false] rfl rfl (any_of HT_.out (by kernel_rfl)) (fun _ _ _ h => h) (Or.inl ⟨by rfl, ?_⟩) ?_ ?_
  rotate_left
  · intro w'
    go_simp
    with_reducible rfl
  rotate_left
  · simp only [Act.put, List.setIfInBounds_toArray, List.set_cons_zero, List.set_cons_succ, i64_w, i32_w]
    rfl
  refine take_ (i := 10) (N := some 16) (v := ?_) (a' := ?_) #[true, true, true, true, true, true, true, true, true, true, true, false, false, false, false, false, false, false, false, false, false, false, false] rfl rfl (take_of HT_.out (by kernel_rfl)) (fun _ _ _ h => h) (Or.inl ⟨by rfl, ?_⟩) hHeld ?_ ?_
  rotate_left
  · rintro w' ⟨s0, s1, s2, s3, s4, s5⟩
    go_simp
    with_reducible rfl
  rotate_left
  · simp only [Act.put, List.setIfInBounds_toArray, List.set_cons_zero, List.set_cons_succ, i64_w, i32_w]
    rfl
  refine pure_ (i := 11) (N := some 17) (v := ?_) (a' := ?_) #[true, true, true, true, true, true, true, true, true, true, true, true, false, false, false, false, false, false, false, false, false, false, false] rfl rfl (any_of HT_.out (by kernel_rfl)) (fun _ _ _ h => h) (Or.inl ⟨by rfl, ?_⟩) ?_ ?_
  rotate_left
  · intro w'
    go_simp
    with_reducible rfl
  rotate_left
  · simp only [Act.put, List.setIfInBounds_toArray, List.set_cons_zero, List.set_cons_succ, i64_w, i32_w]
    rfl
  refine pure_ (i := 12) (N := some 18) (v := ?_) (a' := ?_) #[true, true, true, true, true, true, true, true, true, true, true, true, true, false, false, false, false, false, false, false, false, false, false] rfl rfl (any_of HT_.out (by kernel_rfl)) (fun _ _ _ h => h) (Or.inl ⟨by rfl, ?_⟩) ?_ ?_
  rotate_left
  · intro w'
    go_simp
    with_reducible rfl
  rotate_left
  · simp only [Act.put, List.setIfInBounds_toArray, List.set_cons_zero, List.set_cons_succ, i64_w, i32_w]
    rfl
  refine pure_ (i := 13) (N := some 19) (v := ?_) (a' := ?_) #[true, true, true, true, true, true, true, true, true, true, true, true, true, true, false, false, false, false, false, false, false, false, false] rfl rfl (any_of HT_.out (by kernel_rfl)) (fun _ _ _ h => h) (Or.inl ⟨by rfl, ?_⟩) ?_ ?_
  rotate_left
  · intro w'
    go_simp
    with_reducible rfl
  rotate_left
  · simp only [Act.put, List.setIfInBounds_toArray, List.set_cons_zero, List.set_cons_succ, i64_w, i32_w]
    rfl
  refine pure_ (i := 14) (N := some 20) (v := ?_) (a' := ?_) #[true, true, true, true, true, true, true, true, true, true, true, true, true, true, true, false, false, false, false, false, false, false, false] rfl rfl (any_of HT_.out (by kernel_rfl)) (fun _ _ _ h => h) (Or.inl ⟨by rfl, ?_⟩) ?_ ?_
  rotate_left
  · intro w'
    go_simp
    with_reducible rfl
  rotate_left
  · simp only [Act.put, List.setIfInBounds_toArray, List.set_cons_zero, List.set_cons_succ, i64_w, i32_w]
    rfl
  refine take_ (i := 15) (N := some 21) (v := ?_) (a' := ?_) #[true, true, true, true, true, true, true, true, true, true, true, true, true, true, true, true, false, false, false, false, false, false, false] rfl rfl (take_of HT_.out (by kernel_rfl)) (fun _ _ _ h => h) (Or.inl ⟨by rfl, ?_⟩) hHeld ?_ ?_
  rotate_left
  · rintro w' ⟨s0, s1, s2, s3, s4, s5⟩
    go_simp
    with_reducible rfl
  rotate_left
  · simp only [Act.put, List.setIfInBounds_toArray, List.set_cons_zero, List.set_cons_succ, i64_w, i32_w]
    rfl
  refine two_ (i := 16) (j := 20) (Ni := some 22) (Nj := some 3) #[true, true, true, true, true, true, true, true, true, true, true, true, true, true, true, true, true, false, false, false, false, false, false] #[true, true, true, true, true, true, true, true, true, true, true, true, true, true, true, true, false, false, false, false, true, false, false] rfl rfl rfl rfl (two_of HT_.out (by kernel_rfl)) (by decide) (by decide) (fun K hK => ?_) (fun K hK => ?_)
  · skip
    refine goes_ Tryd.func55 (by kernel_rfl) rfl #[.agg #[.int .i64 f0, .slice A1 f1.length c1, .slice A2 f2.length c2], .string h, .string p] (by rfl) rfl rfl (by (try simp only [List.map_toArray, List.map_cons, List.map_nil]); first | done | rfl) ?_
    refine (plane_Find.calls k f0 A1 c1 f1 A2 c2 f2 h p r1 r2 r3 r4 w3 (Kd.C_below HR1.out HB0.out) hc1 (Kd.C_below HR2.out HB0.out) hc2 HF.out).mono ?_
    rintro e w4 ⟨rfl, hb⟩
    refine ⟨_, rfl, ?_⟩
    have m0_ := Aside0.mk (blk_below HA.out hb)
    have m1_ := Aside0.mk (HO.out.below hb)
    have m2_ := Aside0.mk (below_step HB0.out hb)
    clear HA HO HB0
    have HA := m0_
    have HO := m1_
    have HB0 := m2_
    clear m0_ m1_ m2_
    clear hb
    refine hK.out _ _ ⟨(blk_cell HA.out 0).trans rfl, (blk_cell (blk_below H0.out HB0.out) 0).trans rfl, (blk_cell (blk_below H0.out HB0.out) 1).trans rfl, (blk_cell (blk_below H0.out HB0.out) 2).trans rfl, (blk_cell HA.out 6).trans rfl, (blk_cell HA.out 4).trans rfl⟩ (fun hHeld => ?_)
    clear hK K
    refine norm_ (a' := ?_) ?_ ?_
    rotate_left
    · show Act.put _ (some 22) _ = _
      simp only [Act.put, List.setIfInBounds_toArray, List.set_cons_zero, List.set_cons_succ, i64_w, i32_w]
      rfl
    refine pure_ (i := 17) (N := some 5) (v := ?_) (a' := ?_) #[true, true, true, true, true, true, true, true, true, true, true, true, true, true, true, true, true, true, false, false, false, false, false] rfl rfl (any_of HT_.out (by kernel_rfl)) (fun _ _ _ h => h) (Or.inl ⟨by rfl, ?_⟩) ?_ ?_
    rotate_left
    · intro w'
      go_simp
      with_reducible rfl
    rotate_left
    · simp only [Act.put, List.setIfInBounds_toArray, List.set_cons_zero, List.set_cons_succ, i64_w, i32_w]
      rfl
    refine pure_ (i := 18) (N := some 23) (v := ?_) (a' := ?_) #[true, true, true, true, true, true, true, true, true, true, true, true, true, true, true, true, true, true, true, false, false, false, false] rfl rfl (any_of HT_.out (by kernel_rfl)) (fun _ _ _ h => h) (Or.inl ⟨by rfl, ?_⟩) ?_ ?_
    rotate_left
    · intro w'
      go_simp
      with_reducible rfl
    rotate_left
    · simp only [Act.put, List.setIfInBounds_toArray, List.set_cons_zero, List.set_cons_succ, i64_w, i32_w]
      rfl
    refine pure_ (i := 19) (N := some 24) (v := ?_) (a' := ?_) #[true, true, true, true, true, true, true, true, true, true, true, true, true, true, true, true, true, true, true, true, false, false, false] rfl rfl (any_of HT_.out (by kernel_rfl)) (fun _ _ _ h => h) (Or.inl ⟨by rfl, ?_⟩) ?_ ?_
    rotate_left
    · intro w'
      go_simp
      with_reducible rfl
    rotate_left
    · simp only [Act.put, List.setIfInBounds_toArray, List.set_cons_zero, List.set_cons_succ, i64_w, i32_w]
      rfl
    refine one_ (i := 20) (N := some 3) #[true, true, true, true, true, true, true, true, true, true, true, true, true, true, true, true, true, true, true, true, true, false, false] rfl rfl (one_of HT_.out (by kernel_rfl)) (by decide) (fun K hK => ?_)
    refine box_step ?hg (N := 3) ?hd (cs := #[.string ⟨#[]⟩, .string ⟨#[]⟩, .string ⟨#[]⟩]) (t := 93) ?hr ?_; (case hd => rfl); (case hg => rfl); (case hr => first | (go_simp; done) | (go_simp; rfl))
    intro gr hg w5 hbox hb
    have NE := Aside0.mk (by rw [hg]; exact Nat.ne_of_gt (blk_lt HA.out) : gr ≠ ga)
    have GW := Aside0.mk (by rw [hg]; exact HO.out.1 : w.heap.size ≤ gr)
    have GR := Aside0.mk (by rw [hg]; exact below_size HB0.out : w0.heap.size ≤ gr)
    have m0_ := Aside0.mk (blk_below HA.out hb)
    have m1_ := Aside0.mk (HO.out.below hb)
    have m2_ := Aside0.mk (hbox)
    have m3_ := Aside0.mk (below_step HB0.out hb)
    clear HA HO HB0
    have HA := m0_
    have HO := m1_
    have HR := m2_
    have HB0 := m3_
    clear m0_ m1_ m2_ m3_
    clear hb hbox hg
    refine hK.out _ _ ⟨(blk_cell HA.out 0).trans rfl, (blk_cell (blk_below H0.out HB0.out) 0).trans rfl, (blk_cell (blk_below H0.out HB0.out) 1).trans rfl, (blk_cell (blk_below H0.out HB0.out) 2).trans rfl, (blk_cell HA.out 6).trans rfl, (blk_cell HA.out 4).trans rfl⟩ (fun hHeld => ?_)
    clear hK K
    refine norm_ (a' := ?_) ?_ ?_
    rotate_left
    · show Act.put _ (some 3) _ = _
      simp only [Act.put, List.setIfInBounds_toArray, List.set_cons_zero, List.set_cons_succ, i64_w, i32_w]
      rfl
    refine last_ (i := 21) (N := none) #[true, true, true, true, true, true, true, true, true, true, true, true, true, true, true, true, true, true, true, true, true, true, false] rfl rfl (one_of HT_.out (by kernel_rfl)) (by decide) (fun K hK => ?_)
    have z0 := (blk_cell HR.out 0).trans (show _ = some (.string ⟨#[]⟩) from rfl)
    have y0 := blk_frozen HR.out 0
    have z1 := (blk_cell HR.out 1).trans (show _ = some (.string ⟨#[]⟩) from rfl)
    have y1 := blk_frozen HR.out 1
    have z2 := (blk_cell HR.out 2).trans (show _ = some (.string ⟨#[]⟩) from rfl)
    have y2 := blk_frozen HR.out 2
    refine skip_ (w1 := ?_) (by rfl) rfl ?_ ?_
    rotate_left
    · go_simp
      rfl
    refine hK.out _ _ ?_
    clear hK K z0 z1 z2 y0 y1 y2
    have m0_ := Aside0.mk ((blk_far (blk_far (blk_far HA.out (p := ⟨gr, 0, none⟩) NE.out.symm (.string r1)) (p := ⟨gr, 1, none⟩) NE.out.symm (.string r2)) (p := ⟨gr, 2, none⟩) NE.out.symm (.string r3)))
    have m1_ := Aside0.mk ((blk_put (cs' := #[.string r1, .string r2, .string r3]) (blk_put (cs' := #[.string r1, .string r2, .string ⟨#[]⟩]) (blk_put (cs' := #[.string r1, .string ⟨#[]⟩, .string ⟨#[]⟩]) HR.out 0 (.string r1) rfl) 1 (.string r2) rfl) 2 (.string r3) rfl))
    have m2_ := Aside0.mk ((Below.setCell (Below.setCell (Below.setCell HB0.out (show w0.heap.size ≤ (⟨gr, 0, none⟩ : Addr).block from GR.out) (.string r1)) (show w0.heap.size ≤ (⟨gr, 1, none⟩ : Addr).block from GR.out) (.string r2)) (show w0.heap.size ≤ (⟨gr, 2, none⟩ : Addr).block from GR.out) (.string r3)))
    have m3_ := Aside0.mk ((Only.setNew (Only.setNew (Only.setNew HO.out GW.out 0 (.string r1)) GW.out 1 (.string r2)) GW.out 2 (.string r3)))
    clear HA HR HB0 HO
    have HA := m0_
    have HR := m1_
    have HB0 := m2_
    have HO := m3_
    clear m0_ m1_ m2_ m3_
    refine pure_ (i := 22) (N := some 4) (v := ?_) (a' := ?_) #[true, true, true, true, true, true, true, true, true, true, true, true, true, true, true, true, true, true, true, true, true, true, true] rfl rfl (any_of HT_.out (by kernel_rfl)) (fun _ _ _ h => h) (Or.inl ⟨by rfl, ?_⟩) ?_ ?_
    rotate_left
    · intro w'
      go_simp
      with_reducible rfl
    rotate_left
    · simp only [Act.put, List.setIfInBounds_toArray, List.set_cons_zero, List.set_cons_succ, i64_w, i32_w]
      rfl
    refine done_ (done_of HT_.out (by kernel_rfl)) ?_
    clear HT_
    generalize (((w5.setCell ⟨gr, 0, none⟩ (.string r1)).setCell ⟨gr, 1, none⟩ (.string r2)).setCell ⟨gr, 2, none⟩ (.string r3)) = w6 at HA HR HB0 HO ⊢
    go_wp2
    refine start_ (n := 12) (S := fun w' => w'.cell? ⟨gr, 2, none⟩ = some (.string r3)) (ds := [11]) #[false, false, false, false, false, false, false, false, false, false, false, false] (by kernel_rfl) rfl rfl ((blk_cell HR.out 2).trans rfl) (fun hHeld => ?_)
    refine with_tab (T := route_T2) route_tab2 (fun HT_ => ?_)
    have m0_ := Aside0.mk (blk_drew HA.out)
    have m1_ := Aside0.mk (blk_drew HR.out)
    have m2_ := Aside0.mk (HO.out.drew)
    have m3_ := Aside0.mk (below_drew1 HB0.out)
    clear HA HR HO HB0
    have HA := m0_
    have HR := m1_
    have HO := m2_
    have HB0 := m3_
    clear m0_ m1_ m2_ m3_
    generalize w6.drew = w7 at HA HR HB0 HO hHeld ⊢
    refine pure_ (i := 0) (N := some 25) (v := ?_) (a' := ?_) #[true, false, false, false, false, false, false, false, false, false, false, false] rfl rfl (any_of HT_.out (by kernel_rfl)) (fun _ _ _ h => h) (Or.inl ⟨by rfl, ?_⟩) ?_ ?_
    rotate_left
    · intro w'
      go_simp
      with_reducible rfl
    rotate_left
    · simp only [Act.put, List.setIfInBounds_toArray, List.set_cons_zero, List.set_cons_succ, i64_w, i32_w]
      rfl
    refine pure_ (i := 1) (N := some 26) (v := ?_) (a' := ?_) #[true, true, false, false, false, false, false, false, false, false, false, false] rfl rfl (any_of HT_.out (by kernel_rfl)) (fun _ _ _ h => h) (Or.inl ⟨by rfl, ?_⟩) ?_ ?_
    rotate_left
    · intro w'
      go_simp
      with_reducible rfl
    rotate_left
    · simp only [Act.put, List.setIfInBounds_toArray, List.set_cons_zero, List.set_cons_succ, i64_w, i32_w]
      rfl
    refine pure_ (i := 2) (N := some 27) (v := ?_) (a' := ?_) #[true, true, true, false, false, false, false, false, false, false, false, false] rfl rfl (any_of HT_.out (by kernel_rfl)) (fun _ _ _ h => h) (Or.inl ⟨by rfl, ?_⟩) ?_ ?_
    rotate_left
    · intro w'
      go_simp
      with_reducible rfl
    rotate_left
    · simp only [Act.put, List.setIfInBounds_toArray, List.set_cons_zero, List.set_cons_succ, i64_w, i32_w]
      rfl
    refine take_ (i := 3) (N := some 28) (v := ?_) (a' := ?_) #[true, true, true, true, false, false, false, false, false, false, false, false] rfl rfl (take_of HT_.out (by kernel_rfl)) (fun _ _ _ h => h) (Or.inl ⟨by rfl, ?_⟩) hHeld ?_ ?_
    rotate_left
    · rintro w' s0
      go_simp
      with_reducible rfl
    rotate_left
    · simp only [Act.put, List.setIfInBounds_toArray, List.set_cons_zero, List.set_cons_succ, i64_w, i32_w]
      rfl
    refine pure_ (i := 4) (N := some 29) (v := ?_) (a' := ?_) #[true, true, true, true, true, false, false, false, false, false, false, false] rfl rfl (any_of HT_.out (by kernel_rfl)) (fun _ _ _ h => h) (Or.inl ⟨by rfl, ?_⟩) ?_ ?_
    rotate_left
    · intro w'
      go_simp
      with_reducible rfl
    rotate_left
    · simp only [Act.put, List.setIfInBounds_toArray, List.set_cons_zero, List.set_cons_succ, i64_w, i32_w]
      rfl
    refine pure_ (i := 5) (N := some 30) (v := ?_) (a' := ?_) #[true, true, true, true, true, true, false, false, false, false, false, false] rfl rfl (any_of HT_.out (by kernel_rfl)) (fun _ _ _ h => h) (Or.inl ⟨by rfl, ?_⟩) ?_ ?_
    rotate_left
    · intro w'
      go_simp
      with_reducible rfl
    rotate_left
    · simp only [Act.put, List.setIfInBounds_toArray, List.set_cons_zero, List.set_cons_succ, i64_w, i32_w]
      rfl
    refine pure_ (i := 6) (N := some 31) (v := ?_) (a' := ?_) #[true, true, true, true, true, true, true, false, false, false, false, false] rfl rfl (any_of HT_.out (by kernel_rfl)) (fun _ _ _ h => h) (Or.inl ⟨by rfl, ?_⟩) ?_ ?_
    rotate_left
    · intro w'
      go_simp
      with_reducible rfl
    rotate_left
    · simp only [Act.put, List.setIfInBounds_toArray, List.set_cons_zero, List.set_cons_succ, i64_w, i32_w]
      rfl
    refine one_ (i := 7) (N := none) #[true, true, true, true, true, true, true, true, false, false, false, false] rfl rfl (one_of HT_.out (by kernel_rfl)) (by decide) (fun K hK => ?_)
    have hs_ := (blk_cell HA.out 8).trans (show _ = some (.int .i64 st) from rfl)
    have hf_ := blk_frozen HA.out 8
    refine skip_ (w1 := ?_) (by rfl) rfl ?_ ?_
    rotate_left
    · go_simp
      rfl
    have m0_ := Aside0.mk (blk_put (cs' := askedCells g b draw m p q h fs 404 ver pool addr) HA.out 8 (.int .i64 404) rfl)
    have m1_ := Aside0.mk (blk_far HR.out (p := ⟨ga, 8, none⟩) NE.out (.int .i64 404))
    have m2_ := Aside0.mk (HO.out.set 8 (.int .i64 404))
    have m3_ := Aside0.mk (Below.setCell HB0.out (show w0.heap.size ≤ (⟨ga, 8, none⟩ : Addr).block from hga) (.int .i64 404))
    clear HA HR HO HB0
    have HA := m0_
    have HR := m1_
    have HO := m2_
    have HB0 := m3_
    clear m0_ m1_ m2_ m3_
    refine hK.out _ _ ((blk_cell HR.out 2).trans rfl) (fun hHeld => ?_)
    clear hK K hs_ hf_
    generalize w7.setCell ⟨ga, 8, none⟩ (.int .i64 404) = w8 at HA HR HB0 HO hHeld ⊢
    refine pure_ (i := 8) (N := some 32) (v := ?_) (a' := ?_) #[true, true, true, true, true, true, true, true, true, false, false, false] rfl rfl (any_of HT_.out (by kernel_rfl)) (fun _ _ _ h => h) (Or.inl ⟨by rfl, ?_⟩) ?_ ?_
    rotate_left
    · intro w'
      go_simp
      with_reducible rfl
    rotate_left
    · simp only [Act.put, List.setIfInBounds_toArray, List.set_cons_zero, List.set_cons_succ, i64_w, i32_w]
      rfl
    refine pure_ (i := 9) (N := some 33) (v := ?_) (a' := ?_) #[true, true, true, true, true, true, true, true, true, true, false, false] rfl rfl (any_of HT_.out (by kernel_rfl)) (fun _ _ _ h => h) (Or.inl ⟨by rfl, ?_⟩) ?_ ?_
    rotate_left
    · intro w'
      go_simp
      with_reducible rfl
    rotate_left
    · simp only [Act.put, List.setIfInBounds_toArray, List.set_cons_zero, List.set_cons_succ, i64_w, i32_w]
      rfl
    refine pure_ (i := 10) (N := some 34) (v := ?_) (a' := ?_) #[true, true, true, true, true, true, true, true, true, true, true, false] rfl rfl (any_of HT_.out (by kernel_rfl)) (fun _ _ _ h => h) (Or.inl ⟨by rfl, ?_⟩) ?_ ?_
    rotate_left
    · intro w'
      go_simp
      with_reducible rfl
    rotate_left
    · simp only [Act.put, List.setIfInBounds_toArray, List.set_cons_zero, List.set_cons_succ, i64_w, i32_w]
      rfl
    refine last_ (i := 11) (N := none) #[true, true, true, true, true, true, true, true, true, true, true, true] rfl rfl (one_of HT_.out (by kernel_rfl)) (by decide) (fun K hK => ?_)
    have hs_ := (blk_cell HA.out 10).trans (show _ = some (.string pool) from rfl)
    have hf_ := blk_frozen HA.out 10
    refine skip_ (w1 := ?_) (by rfl) rfl ?_ ?_
    rotate_left
    · go_simp
      rfl
    have m0_ := Aside0.mk (blk_put (cs' := askedCells g b draw m p q h fs 404 ver r3 addr) HA.out 10 (.string r3) rfl)
    have m1_ := Aside0.mk (blk_far HR.out (p := ⟨ga, 10, none⟩) NE.out (.string r3))
    have m2_ := Aside0.mk (HO.out.set 10 (.string r3))
    have m3_ := Aside0.mk (Below.setCell HB0.out (show w0.heap.size ≤ (⟨ga, 10, none⟩ : Addr).block from hga) (.string r3))
    clear HA HR HO HB0
    have HA := m0_
    have HR := m1_
    have HO := m2_
    have HB0 := m3_
    clear m0_ m1_ m2_ m3_
    refine hK.out _ _ ?_
    clear hK K hs_ hf_
    generalize w8.setCell ⟨ga, 10, none⟩ (.string r3) = w9 at HA HR HB0 HO ⊢
    refine done_ (done_of HT_.out (by kernel_rfl)) ?_
    clear HT_
    go_wp2
    go_ret
    exact ⟨rfl, HA.out, HB0.out, HO.out⟩
  · skip
    refine box_step ?hg (N := 3) ?hd (cs := #[.string ⟨#[]⟩, .string ⟨#[]⟩, .string ⟨#[]⟩]) (t := 93) ?hr ?_; (case hd => rfl); (case hg => rfl); (case hr => first | (go_simp; done) | (go_simp; rfl))
    intro gr hg w5 hbox hb
    have NE := Aside0.mk (by rw [hg]; exact Nat.ne_of_gt (blk_lt HA.out) : gr ≠ ga)
    have GW := Aside0.mk (by rw [hg]; exact HO.out.1 : w.heap.size ≤ gr)
    have GR := Aside0.mk (by rw [hg]; exact below_size HB0.out : w0.heap.size ≤ gr)
    have m0_ := Aside0.mk (blk_below HA.out hb)
    have m1_ := Aside0.mk (HO.out.below hb)
    have m2_ := Aside0.mk (hbox)
    have m3_ := Aside0.mk (below_step HB0.out hb)
    clear HA HO HB0
    have HA := m0_
    have HO := m1_
    have HR := m2_
    have HB0 := m3_
    clear m0_ m1_ m2_ m3_
    clear hb hbox hg
    refine hK.out _ _ ⟨(blk_cell HA.out 0).trans rfl, (blk_cell (blk_below H0.out HB0.out) 0).trans rfl, (blk_cell (blk_below H0.out HB0.out) 1).trans rfl, (blk_cell (blk_below H0.out HB0.out) 2).trans rfl, (blk_cell HA.out 6).trans rfl, (blk_cell HA.out 4).trans rfl⟩ (fun hHeld => ?_)
    clear hK K
    refine norm_ (a' := ?_) ?_ ?_
    rotate_left
    · show Act.put _ (some 3) _ = _
      simp only [Act.put, List.setIfInBounds_toArray, List.set_cons_zero, List.set_cons_succ, i64_w, i32_w]
      rfl
    refine one_ (i := 16) (N := some 22) #[true, true, true, true, true, true, true, true, true, true, true, true, true, true, true, true, true, false, false, false, true, false, false] rfl rfl (one_of HT_.out (by kernel_rfl)) (by decide) (fun K hK => ?_)
    refine goes_ Tryd.func55 (by kernel_rfl) rfl #[.agg #[.int .i64 f0, .slice A1 f1.length c1, .slice A2 f2.length c2], .string h, .string p] (by rfl) rfl rfl (by (try simp only [List.map_toArray, List.map_cons, List.map_nil]); first | done | rfl) ?_
    refine (plane_Find.calls k f0 A1 c1 f1 A2 c2 f2 h p r1 r2 r3 r4 w5 (Kd.C_below HR1.out HB0.out) hc1 (Kd.C_below HR2.out HB0.out) hc2 HF.out).mono ?_
    rintro e w4 ⟨rfl, hb⟩
    refine ⟨_, rfl, ?_⟩
    have m0_ := Aside0.mk (blk_below HA.out hb)
    have m1_ := Aside0.mk (HO.out.below hb)
    have m2_ := Aside0.mk (blk_below HR.out hb)
    have m3_ := Aside0.mk (below_step HB0.out hb)
    clear HA HO HR HB0
    have HA := m0_
    have HO := m1_
    have HR := m2_
    have HB0 := m3_
    clear m0_ m1_ m2_ m3_
    clear hb
    refine hK.out _ _ ⟨(blk_cell HA.out 0).trans rfl, (blk_cell (blk_below H0.out HB0.out) 0).trans rfl, (blk_cell (blk_below H0.out HB0.out) 1).trans rfl, (blk_cell (blk_below H0.out HB0.out) 2).trans rfl, (blk_cell HA.out 6).trans rfl, (blk_cell HA.out 4).trans rfl⟩ (fun hHeld => ?_)
    clear hK K
    refine norm_ (a' := ?_) ?_ ?_
    rotate_left
    · show Act.put _ (some 22) _ = _
      simp only [Act.put, List.setIfInBounds_toArray, List.set_cons_zero, List.set_cons_succ, i64_w, i32_w]
      rfl
    refine pure_ (i := 17) (N := some 5) (v := ?_) (a' := ?_) #[true, true, true, true, true, true, true, true, true, true, true, true, true, true, true, true, true, true, false, false, true, false, false] rfl rfl (any_of HT_.out (by kernel_rfl)) (fun _ _ _ h => h) (Or.inl ⟨by rfl, ?_⟩) ?_ ?_
    rotate_left
    · intro w'
      go_simp
      with_reducible rfl
    rotate_left
    · simp only [Act.put, List.setIfInBounds_toArray, List.set_cons_zero, List.set_cons_succ, i64_w, i32_w]
      rfl
    refine pure_ (i := 18) (N := some 23) (v := ?_) (a' := ?_) #[true, true, true, true, true, true, true, true, true, true, true, true, true, true, true, true, true, true, true, false, true, false, false] rfl rfl (any_of HT_.out (by kernel_rfl)) (fun _ _ _ h => h) (Or.inl ⟨by rfl, ?_⟩) ?_ ?_
    rotate_left
    · intro w'
      go_simp
      with_reducible rfl
    rotate_left
    · simp only [Act.put, List.setIfInBounds_toArray, List.set_cons_zero, List.set_cons_succ, i64_w, i32_w]
      rfl
    refine pure_ (i := 19) (N := some 24) (v := ?_) (a' := ?_) #[true, true, true, true, true, true, true, true, true, true, true, true, true, true, true, true, true, true, true, true, true, false, false] rfl rfl (any_of HT_.out (by kernel_rfl)) (fun _ _ _ h => h) (Or.inl ⟨by rfl, ?_⟩) ?_ ?_
    rotate_left
    · intro w'
      go_simp
      with_reducible rfl
    rotate_left
    · simp only [Act.put, List.setIfInBounds_toArray, List.set_cons_zero, List.set_cons_succ, i64_w, i32_w]
      rfl
    refine last_ (i := 21) (N := none) #[true, true, true, true, true, true, true, true, true, true, true, true, true, true, true, true, true, true, true, true, true, true, false] rfl rfl (one_of HT_.out (by kernel_rfl)) (by decide) (fun K hK => ?_)
    have z0 := (blk_cell HR.out 0).trans (show _ = some (.string ⟨#[]⟩) from rfl)
    have y0 := blk_frozen HR.out 0
    have z1 := (blk_cell HR.out 1).trans (show _ = some (.string ⟨#[]⟩) from rfl)
    have y1 := blk_frozen HR.out 1
    have z2 := (blk_cell HR.out 2).trans (show _ = some (.string ⟨#[]⟩) from rfl)
    have y2 := blk_frozen HR.out 2
    refine skip_ (w1 := ?_) (by rfl) rfl ?_ ?_
    rotate_left
    · go_simp
      rfl
    refine hK.out _ _ ?_
    clear hK K z0 z1 z2 y0 y1 y2
    have m0_ := Aside0.mk ((blk_far (blk_far (blk_far HA.out (p := ⟨gr, 0, none⟩) NE.out.symm (.string r1)) (p := ⟨gr, 1, none⟩) NE.out.symm (.string r2)) (p := ⟨gr, 2, none⟩) NE.out.symm (.string r3)))
    have m1_ := Aside0.mk ((blk_put (cs' := #[.string r1, .string r2, .string r3]) (blk_put (cs' := #[.string r1, .string r2, .string ⟨#[]⟩]) (blk_put (cs' := #[.string r1, .string ⟨#[]⟩, .string ⟨#[]⟩]) HR.out 0 (.string r1) rfl) 1 (.string r2) rfl) 2 (.string r3) rfl))
    have m2_ := Aside0.mk ((Below.setCell (Below.setCell (Below.setCell HB0.out (show w0.heap.size ≤ (⟨gr, 0, none⟩ : Addr).block from GR.out) (.string r1)) (show w0.heap.size ≤ (⟨gr, 1, none⟩ : Addr).block from GR.out) (.string r2)) (show w0.heap.size ≤ (⟨gr, 2, none⟩ : Addr).block from GR.out) (.string r3)))
    have m3_ := Aside0.mk ((Only.setNew (Only.setNew (Only.setNew HO.out GW.out 0 (.string r1)) GW.out 1 (.string r2)) GW.out 2 (.string r3)))
    clear HA HR HB0 HO
    have HA := m0_
    have HR := m1_
    have HB0 := m2_
    have HO := m3_
    clear m0_ m1_ m2_ m3_
    refine pure_ (i := 22) (N := some 4) (v := ?_) (a' := ?_) #[true, true, true, true, true, true, true, true, true, true, true, true, true, true, true, true, true, true, true, true, true, true, true] rfl rfl (any_of HT_.out (by kernel_rfl)) (fun _ _ _ h => h) (Or.inl ⟨by rfl, ?_⟩) ?_ ?_
    rotate_left
    · intro w'
      go_simp
      with_reducible rfl
    rotate_left
    · simp only [Act.put, List.setIfInBounds_toArray, List.set_cons_zero, List.set_cons_succ, i64_w, i32_w]
      rfl
    refine done_ (done_of HT_.out (by kernel_rfl)) ?_
    clear HT_
    generalize (((w4.setCell ⟨gr, 0, none⟩ (.string r1)).setCell ⟨gr, 1, none⟩ (.string r2)).setCell ⟨gr, 2, none⟩ (.string r3)) = w6 at HA HR HB0 HO ⊢
    go_wp2
    refine start_ (n := 12) (S := fun w' => w'.cell? ⟨gr, 2, none⟩ = some (.string r3)) (ds := [11]) #[false, false, false, false, false, false, false, false, false, false, false, false] (by kernel_rfl) rfl rfl ((blk_cell HR.out 2).trans rfl) (fun hHeld => ?_)
    refine with_tab (T := route_T2) route_tab2 (fun HT_ => ?_)
    have m0_ := Aside0.mk (blk_drew HA.out)
    have m1_ := Aside0.mk (blk_drew HR.out)
    have m2_ := Aside0.mk (HO.out.drew)
    have m3_ := Aside0.mk (below_drew1 HB0.out)
    clear HA HR HO HB0
    have HA := m0_
    have HR := m1_
    have HO := m2_
    have HB0 := m3_
    clear m0_ m1_ m2_ m3_
    generalize w6.drew = w7 at HA HR HB0 HO hHeld ⊢
    refine pure_ (i := 0) (N := some 25) (v := ?_) (a' := ?_) #[true, false, false, false, false, false, false, false, false, false, false, false] rfl rfl (any_of HT_.out (by kernel_rfl)) (fun _ _ _ h => h) (Or.inl ⟨by rfl, ?_⟩) ?_ ?_
    rotate_left
    · intro w'
      go_simp
      with_reducible rfl
    rotate_left
    · simp only [Act.put, List.setIfInBounds_toArray, List.set_cons_zero, List.set_cons_succ, i64_w, i32_w]
      rfl
    refine pure_ (i := 1) (N := some 26) (v := ?_) (a' := ?_) #[true, true, false, false, false, false, false, false, false, false, false, false] rfl rfl (any_of HT_.out (by kernel_rfl)) (fun _ _ _ h => h) (Or.inl ⟨by rfl, ?_⟩) ?_ ?_
    rotate_left
    · intro w'
      go_simp
      with_reducible rfl
    rotate_left
    · simp only [Act.put, List.setIfInBounds_toArray, List.set_cons_zero, List.set_cons_succ, i64_w, i32_w]
      rfl
    refine pure_ (i := 2) (N := some 27) (v := ?_) (a' := ?_) #[true, true, true, false, false, false, false, false, false, false, false, false] rfl rfl (any_of HT_.out (by kernel_rfl)) (fun _ _ _ h => h) (Or.inl ⟨by rfl, ?_⟩) ?_ ?_
    rotate_left
    · intro w'
      go_simp
      with_reducible rfl
    rotate_left
    · simp only [Act.put, List.setIfInBounds_toArray, List.set_cons_zero, List.set_cons_succ, i64_w, i32_w]
      rfl
    refine take_ (i := 3) (N := some 28) (v := ?_) (a' := ?_) #[true, true, true, true, false, false, false, false, false, false, false, false] rfl rfl (take_of HT_.out (by kernel_rfl)) (fun _ _ _ h => h) (Or.inl ⟨by rfl, ?_⟩) hHeld ?_ ?_
    rotate_left
    · rintro w' s0
      go_simp
      with_reducible rfl
    rotate_left
    · simp only [Act.put, List.setIfInBounds_toArray, List.set_cons_zero, List.set_cons_succ, i64_w, i32_w]
      rfl
    refine pure_ (i := 4) (N := some 29) (v := ?_) (a' := ?_) #[true, true, true, true, true, false, false, false, false, false, false, false] rfl rfl (any_of HT_.out (by kernel_rfl)) (fun _ _ _ h => h) (Or.inl ⟨by rfl, ?_⟩) ?_ ?_
    rotate_left
    · intro w'
      go_simp
      with_reducible rfl
    rotate_left
    · simp only [Act.put, List.setIfInBounds_toArray, List.set_cons_zero, List.set_cons_succ, i64_w, i32_w]
      rfl
    refine pure_ (i := 5) (N := some 30) (v := ?_) (a' := ?_) #[true, true, true, true, true, true, false, false, false, false, false, false] rfl rfl (any_of HT_.out (by kernel_rfl)) (fun _ _ _ h => h) (Or.inl ⟨by rfl, ?_⟩) ?_ ?_
    rotate_left
    · intro w'
      go_simp
      with_reducible rfl
    rotate_left
    · simp only [Act.put, List.setIfInBounds_toArray, List.set_cons_zero, List.set_cons_succ, i64_w, i32_w]
      rfl
    refine pure_ (i := 6) (N := some 31) (v := ?_) (a' := ?_) #[true, true, true, true, true, true, true, false, false, false, false, false] rfl rfl (any_of HT_.out (by kernel_rfl)) (fun _ _ _ h => h) (Or.inl ⟨by rfl, ?_⟩) ?_ ?_
    rotate_left
    · intro w'
      go_simp
      with_reducible rfl
    rotate_left
    · simp only [Act.put, List.setIfInBounds_toArray, List.set_cons_zero, List.set_cons_succ, i64_w, i32_w]
      rfl
    refine one_ (i := 7) (N := none) #[true, true, true, true, true, true, true, true, false, false, false, false] rfl rfl (one_of HT_.out (by kernel_rfl)) (by decide) (fun K hK => ?_)
    have hs_ := (blk_cell HA.out 8).trans (show _ = some (.int .i64 st) from rfl)
    have hf_ := blk_frozen HA.out 8
    refine skip_ (w1 := ?_) (by rfl) rfl ?_ ?_
    rotate_left
    · go_simp
      rfl
    have m0_ := Aside0.mk (blk_put (cs' := askedCells g b draw m p q h fs 404 ver pool addr) HA.out 8 (.int .i64 404) rfl)
    have m1_ := Aside0.mk (blk_far HR.out (p := ⟨ga, 8, none⟩) NE.out (.int .i64 404))
    have m2_ := Aside0.mk (HO.out.set 8 (.int .i64 404))
    have m3_ := Aside0.mk (Below.setCell HB0.out (show w0.heap.size ≤ (⟨ga, 8, none⟩ : Addr).block from hga) (.int .i64 404))
    clear HA HR HO HB0
    have HA := m0_
    have HR := m1_
    have HO := m2_
    have HB0 := m3_
    clear m0_ m1_ m2_ m3_
    refine hK.out _ _ ((blk_cell HR.out 2).trans rfl) (fun hHeld => ?_)
    clear hK K hs_ hf_
    generalize w7.setCell ⟨ga, 8, none⟩ (.int .i64 404) = w8 at HA HR HB0 HO hHeld ⊢
    refine pure_ (i := 8) (N := some 32) (v := ?_) (a' := ?_) #[true, true, true, true, true, true, true, true, true, false, false, false] rfl rfl (any_of HT_.out (by kernel_rfl)) (fun _ _ _ h => h) (Or.inl ⟨by rfl, ?_⟩) ?_ ?_
    rotate_left
    · intro w'
      go_simp
      with_reducible rfl
    rotate_left
    · simp only [Act.put, List.setIfInBounds_toArray, List.set_cons_zero, List.set_cons_succ, i64_w, i32_w]
      rfl
    refine pure_ (i := 9) (N := some 33) (v := ?_) (a' := ?_) #[true, true, true, true, true, true, true, true, true, true, false, false] rfl rfl (any_of HT_.out (by kernel_rfl)) (fun _ _ _ h => h) (Or.inl ⟨by rfl, ?_⟩) ?_ ?_
    rotate_left
    · intro w'
      go_simp
      with_reducible rfl
    rotate_left
    · simp only [Act.put, List.setIfInBounds_toArray, List.set_cons_zero, List.set_cons_succ, i64_w, i32_w]
      rfl
    refine pure_ (i := 10) (N := some 34) (v := ?_) (a' := ?_) #[true, true, true, true, true, true, true, true, true, true, true, false] rfl rfl (any_of HT_.out (by kernel_rfl)) (fun _ _ _ h => h) (Or.inl ⟨by rfl, ?_⟩) ?_ ?_
    rotate_left
    · intro w'
      go_simp
      with_reducible rfl
    rotate_left
    · simp only [Act.put, List.setIfInBounds_toArray, List.set_cons_zero, List.set_cons_succ, i64_w, i32_w]
      rfl
    refine last_ (i := 11) (N := none) #[true, true, true, true, true, true, true, true, true, true, true, true] rfl rfl (one_of HT_.out (by kernel_rfl)) (by decide) (fun K hK => ?_)
    have hs_ := (blk_cell HA.out 10).trans (show _ = some (.string pool) from rfl)
    have hf_ := blk_frozen HA.out 10
    refine skip_ (w1 := ?_) (by rfl) rfl ?_ ?_
    rotate_left
    · go_simp
      rfl
    have m0_ := Aside0.mk (blk_put (cs' := askedCells g b draw m p q h fs 404 ver r3 addr) HA.out 10 (.string r3) rfl)
    have m1_ := Aside0.mk (blk_far HR.out (p := ⟨ga, 10, none⟩) NE.out (.string r3))
    have m2_ := Aside0.mk (HO.out.set 10 (.string r3))
    have m3_ := Aside0.mk (Below.setCell HB0.out (show w0.heap.size ≤ (⟨ga, 10, none⟩ : Addr).block from hga) (.string r3))
    clear HA HR HO HB0
    have HA := m0_
    have HR := m1_
    have HO := m2_
    have HB0 := m3_
    clear m0_ m1_ m2_ m3_
    refine hK.out _ _ ?_
    clear hK K hs_ hf_
    generalize w8.setCell ⟨ga, 10, none⟩ (.string r3) = w9 at HA HR HB0 HO ⊢
    refine done_ (done_of HT_.out (by kernel_rfl)) ?_
    clear HT_
    go_wp2
    go_ret
    exact ⟨rfl, HA.out, HB0.out, HO.out⟩
end Go.Proofs.YtabkdmfnafeaeaaDoor.S
end
section
namespace Go.Proofs.YtabkdmfnafeaeaaDoor.S
open Go.RowKit Go.Proofs.YtabkdmfnafeaeaaDoorW.PrintWords Go.Proofs.YtabkdmfnafeaeaaDoorW.PrintLast Go.Proofs.YtabkdmfnafeaeaaDoorW.PrintMore
set_option linter.unusedVariables false
set_option linter.unusedSimpArgs false
set_option maxHeartbeats 4000000 in
set_option maxRecDepth 100000 in
theorem take_nought {g : Nat} {f0 : Int} {f1 : List S93} {f2 : List S67} {w0 w : World} (hp : PlaneAt w0 g f0 f1 f2) (hB : Below w0.heap.size w0 w) {ga : Nat} (hga : w0.heap.size ≤ ga) {b : Value} {draw : Nat} {m p q h : ByteArray} {fs : Value} {st ver : Int} {pool addr : ByteArray}
    (hA : AskedAt w ga g b draw m p q h fs st ver pool addr) (hl2 : f2.length ≤ 2000) {i : Nat} (hi : idxP pool f2 0 = (i : Int)) (hin : i < f2.length) (k : Nat) {r1 : Int} (hw : plane_Weigh.f k (rd_T67 f2 (i : Int)).f1 draw = some (r1, false)) :
    Calls Tryd.prog 59 #[.pointer (some ⟨ga, 0, none⟩)] w fun e w' => e = .returned (.bool false) ∧ AskedAt w' ga g b draw m p q h fs 503 ver pool addr ∧ Below w0.heap.size w0 w' ∧ Only ga w w' := by
  obtain ⟨A1, c1, A2, c2, h0, _, _, hr2, hc2⟩ := hp
  have HB := Aside0.mk (Below.refl w.heap.size w)
  have HB0 := Aside0.mk hB
  have H0 := Aside0.mk h0
  have HA := Aside0.mk hA
  have HR2 := Aside0.mk hr2
  clear h0 hr2 hA hB
  have hmf : ∀ (fn : Fn) (first cap : Array Value) (w : World), (Instr.makeFunc fn first cap).run Tryd.prog w = .ok (.func fn first cap) w := fun _ _ _ _ => rfl
  go_enter Tryd.func59, Tryd.ntmps59
  go_wp2_with (first | ((with_reducible refine gate_dst (N := 1) rfl ?_); refine box_event ?hg (N := 1) ?hd (cs := #[.pointer (some ⟨ga, 0, none⟩)]) (t := 99) ?hr ?_; (case hd => rfl); (case hg => rfl); (case hr => first | (go_simp; done) | (go_simp; rfl)); intro gc hg w1 hbox hb; have n0_ := Aside0.mk (below_step HB.out hb); have HC := Aside0.mk hbox; have HA1 := Aside0.mk (blk_below HA.out hb); have k0 : w1.cell? ⟨gc, 0, none⟩ = some (.pointer (some ⟨ga, 0, none⟩)) := (blk_cell hbox 0).trans rfl; have k1 : w1.cell? ⟨ga, 8, none⟩ = some (.int .i64 st) := (blk_cell (blk_below HA.out hb) 8).trans rfl; have k2 := blk_frozen (blk_below HA.out hb) 8; have k3 : w1.cell? ⟨ga, 0, none⟩ = some (.pointer (some ⟨g, 0, none⟩)) := (blk_cell (blk_below HA.out hb) 0).trans rfl; have k4 : w1.cell? ⟨g, 2, none⟩ = some (.slice A2 f2.length c2) := (blk_cell (blk_below (blk_below H0.out HB0.out) hb) 2).trans rfl; have hn1 : gc ≠ ga := Nat.ne_of_gt (by rw [hg]; exact blk_lt HA.out); have hn2 : g ≠ ga := Nat.ne_of_lt (Nat.lt_of_lt_of_le (blk_lt H0.out) hga); clear HB; have HB := n0_; clear hb hbox hg n0_) | fail)
  have HA2 := Aside0.mk (blk_put (cs' := askedCells g b draw m p q h fs 503 ver pool addr) HA1.out 8 (.int .i64 503) rfl)
  have HC2 := Aside0.mk (blk_far HC.out (p := ⟨ga, 8, none⟩) hn1 (.int .i64 503))
  have HB2 := Aside0.mk ((below_step HB0.out HB.out).setCell (show w0.heap.size ≤ (⟨ga, 8, none⟩ : Addr).block from hga) (.int .i64 503))
  have HO2 := Aside0.mk (((Only.refl ga w).below HB.out).set 8 (.int .i64 503))
  clear k0 k1 k2 k3 k4 HB HC HA1 HA HB0 hn1 hn2
  generalize w1.setCell ⟨ga, 8, none⟩ (.int .i64 503) = w2 at HA2 HC2 HB2 HO2 ⊢
  refine (index_ok pool A2 c2 ga gc f2 w2 (Kd.C_below HR2.out HB2.out) hc2 hl2 ((blk_cell HC2.out 0).trans rfl) ((blk_cell HA2.out 10).trans rfl) (blk_lt HC2.out) (blk_lt HA2.out)).mono ?_
  rintro e w4 ⟨rfl, hb⟩
  have HA4 := Aside0.mk (blk_below HA2.out hb)
  have HC4 := Aside0.mk (blk_below HC2.out hb)
  have HB4 := Aside0.mk (below_step HB2.out hb)
  have HO4 := Aside0.mk (HO2.out.below hb)
  clear hb HA2 HC2 HB2 HO2
  rw [hi]
  obtain ⟨ad, TA, tc, hA2, x0, x1, htc, hC⟩ := at_T67 (Kd.C_below HR2.out HB4.out) (i : Int) (by omega) (by omega)
  have HCT := Aside0.mk hC
  have HTC := Aside0.mk htc
  have HW := Aside0.mk hw
  clear hC htc hw
  subst hA2
  simp only [Int.toNat_natCast] at x0 x1
  have c1 : decide ((i : Int) < 0) = false := decide_eq_false (by omega)
  have k0 : w4.cell? ⟨gc, 0, none⟩ = some (.pointer (some ⟨ga, 0, none⟩)) := (blk_cell HC4.out 0).trans rfl
  have k3 : w4.cell? ⟨ga, 0, none⟩ = some (.pointer (some ⟨g, 0, none⟩)) := (blk_cell HA4.out 0).trans rfl
  have k5 : w4.cell? ⟨ga, 2, none⟩ = some (.float .f64 draw) := (blk_cell HA4.out 2).trans rfl
  have k4 : w4.cell? ⟨g, 2, none⟩ = some (.slice (some ad) f2.length c2) := (blk_cell (blk_below H0.out HB4.out) 2).trans rfl
  go_wp2_with fail
  refine (plane_Weigh.calls k TA tc _ draw r1 false w4 HCT.out HTC.out HW.out).mono ?_
  rintro e w5 ⟨rfl, hb⟩
  have HA5 := Aside0.mk (blk_below HA4.out hb)
  have HB5 := Aside0.mk (below_step HB4.out hb)
  have HO5 := Aside0.mk (HO4.out.below hb)
  clear hb
  go_wp2
  go_ret
  exact ⟨rfl, HA5.out, HB5.out, HO5.out⟩
end Go.Proofs.YtabkdmfnafeaeaaDoor.S
end
section
namespace Go.Proofs.YtabkdmfnafeaeaaDoor.S
open Go.RowKit Go.Proofs.YtabkdmfnafeaeaaDoorW.PrintWords Go.Proofs.YtabkdmfnafeaeaaDoorW.PrintLast Go.Proofs.YtabkdmfnafeaeaaDoorW.PrintMore
set_option linter.unusedVariables false
set_option linter.unusedSimpArgs false
noncomputable def take_T8 : Bool × List (List Nat × List Nat) := rtab .any (opsOf Tryd.f59 8)
theorem take_tab8 : rtab .any (opsOf Tryd.f59 8) = take_T8 := rfl
set_option maxHeartbeats 4000000 in
set_option maxRecDepth 100000 in
theorem take_hit {g : Nat} {f0 : Int} {f1 : List S93} {f2 : List S67} {w0 w : World} (hp : PlaneAt w0 g f0 f1 f2) (hB : Below w0.heap.size w0 w) {ga : Nat} (hga : w0.heap.size ≤ ga) {b : Value} {draw : Nat} {m p q h : ByteArray} {fs : Value} {st ver : Int} {pool addr : ByteArray}
    (hA : AskedAt w ga g b draw m p q h fs st ver pool addr) (hl2 : f2.length ≤ 2000) {i : Nat} (hi : idxP pool f2 0 = (i : Int)) (hin : i < f2.length) (k : Nat) {r1 : Int} (hw : plane_Weigh.f k (rd_T67 f2 (i : Int)).f1 draw = some (r1, true)) (hr0 : 0 ≤ r1) (hr1 : r1 < (rd_T67 f2 (i : Int)).f1.length) :
    Calls Tryd.prog 59 #[.pointer (some ⟨ga, 0, none⟩)] w fun e w' => e = .returned (.bool false) ∧ AskedAt w' ga g b draw m p q h fs 200 ver pool (rd_T69 (rd_T67 f2 (i : Int)).f1 r1).f0 ∧ Below w0.heap.size w0 w' ∧ Only ga w w' := by
  obtain ⟨A1, c1, A2, c2, h0, _, _, hr2, hc2⟩ := hp
  have HB := Aside0.mk (Below.refl w.heap.size w)
  have HB0 := Aside0.mk hB
  have H0 := Aside0.mk h0
  have HA := Aside0.mk hA
  have HR2 := Aside0.mk hr2
  clear h0 hr2 hA hB
  have hmf : ∀ (fn : Fn) (first cap : Array Value) (w : World), (Instr.makeFunc fn first cap).run Tryd.prog w = .ok (.func fn first cap) w := fun _ _ _ _ => rfl
  go_enter Tryd.func59, Tryd.ntmps59
  go_wp2_with (first | ((with_reducible refine gate_dst (N := 1) rfl ?_); refine box_event ?hg (N := 1) ?hd (cs := #[.pointer (some ⟨ga, 0, none⟩)]) (t := 99) ?hr ?_; (case hd => rfl); (case hg => rfl); (case hr => first | (go_simp; done) | (go_simp; rfl)); intro gc hg w1 hbox hb; have n0_ := Aside0.mk (below_step HB.out hb); have HC := Aside0.mk hbox; have HA1 := Aside0.mk (blk_below HA.out hb); have k0 : w1.cell? ⟨gc, 0, none⟩ = some (.pointer (some ⟨ga, 0, none⟩)) := (blk_cell hbox 0).trans rfl; have k1 : w1.cell? ⟨ga, 8, none⟩ = some (.int .i64 st) := (blk_cell (blk_below HA.out hb) 8).trans rfl; have k2 := blk_frozen (blk_below HA.out hb) 8; have k3 : w1.cell? ⟨ga, 0, none⟩ = some (.pointer (some ⟨g, 0, none⟩)) := (blk_cell (blk_below HA.out hb) 0).trans rfl; have k4 : w1.cell? ⟨g, 2, none⟩ = some (.slice A2 f2.length c2) := (blk_cell (blk_below (blk_below H0.out HB0.out) hb) 2).trans rfl; have hn1 : gc ≠ ga := Nat.ne_of_gt (by rw [hg]; exact blk_lt HA.out); have hn2 : g ≠ ga := Nat.ne_of_lt (Nat.lt_of_lt_of_le (blk_lt H0.out) hga); clear HB; have HB := n0_; clear hb hbox hg n0_) | fail)
  have HA2 := Aside0.mk (blk_put (cs' := askedCells g b draw m p q h fs 503 ver pool addr) HA1.out 8 (.int .i64 503) rfl)
  have HC2 := Aside0.mk (blk_far HC.out (p := ⟨ga, 8, none⟩) hn1 (.int .i64 503))
  have HB2 := Aside0.mk ((below_step HB0.out HB.out).setCell (show w0.heap.size ≤ (⟨ga, 8, none⟩ : Addr).block from hga) (.int .i64 503))
  have HO2 := Aside0.mk (((Only.refl ga w).below HB.out).set 8 (.int .i64 503))
  clear k0 k1 k2 k3 k4 HB HC HA1 HA HB0 hn1 hn2
  generalize w1.setCell ⟨ga, 8, none⟩ (.int .i64 503) = w2 at HA2 HC2 HB2 HO2 ⊢
  refine (index_ok pool A2 c2 ga gc f2 w2 (Kd.C_below HR2.out HB2.out) hc2 hl2 ((blk_cell HC2.out 0).trans rfl) ((blk_cell HA2.out 10).trans rfl) (blk_lt HC2.out) (blk_lt HA2.out)).mono ?_
  rintro e w4 ⟨rfl, hb⟩
  have HA4 := Aside0.mk (blk_below HA2.out hb)
  have HC4 := Aside0.mk (blk_below HC2.out hb)
  have HB4 := Aside0.mk (below_step HB2.out hb)
  have HO4 := Aside0.mk (HO2.out.below hb)
  clear hb HA2 HC2 HB2 HO2
  rw [hi]
  obtain ⟨ad, TA, tc, hA2, x0, x1, htc, hC⟩ := at_T67 HR2.out (i : Int) (by omega) (by omega)
  obtain ⟨ta, hTA, y0, _⟩ := at_T69 hC r1 hr0 hr1
  have hlt := World.block_lt_of_cell? w0 _ y0
  have hnt : (ta.add (r1.toNat * 2)).block ≠ ga := Nat.ne_of_lt (Nat.lt_of_lt_of_le hlt hga)
  subst hTA
  have Y0 := Aside0.mk y0
  have HNT := Aside0.mk hnt
  clear y0 hlt hnt
  have HCT := Aside0.mk (Kd.C_below hC HB4.out)
  have HTC := Aside0.mk htc
  have HW := Aside0.mk hw
  clear hC htc hw
  replace x0 := pw_cell_below HB4.out x0
  replace x1 := pw_cell_below HB4.out x1
  subst hA2
  simp only [Int.toNat_natCast] at x0 x1
  have c1 : decide ((i : Int) < 0) = false := decide_eq_false (by omega)
  have k0 : w4.cell? ⟨gc, 0, none⟩ = some (.pointer (some ⟨ga, 0, none⟩)) := (blk_cell HC4.out 0).trans rfl
  have k3 : w4.cell? ⟨ga, 0, none⟩ = some (.pointer (some ⟨g, 0, none⟩)) := (blk_cell HA4.out 0).trans rfl
  have k5 : w4.cell? ⟨ga, 2, none⟩ = some (.float .f64 draw) := (blk_cell HA4.out 2).trans rfl
  have k4 : w4.cell? ⟨g, 2, none⟩ = some (.slice (some ad) f2.length c2) := (blk_cell (blk_below H0.out HB4.out) 2).trans rfl
  go_wp2_with fail
  refine (plane_Weigh.calls k (some ta) tc _ draw r1 true w4 HCT.out HTC.out HW.out).mono ?_
  rintro e w5 ⟨rfl, hb⟩
  have HA5 := Aside0.mk (blk_below HA4.out hb)
  have HB5 := Aside0.mk (below_step HB4.out hb)
  have HO5 := Aside0.mk (HO4.out.below hb)
  have HC5 := Aside0.mk (blk_below HC4.out hb)
  clear hb x0 x1 k0 k3 k4 k5 c1
  go_wp2
  have NGC := Aside0.mk (blk_ne HC5.out HA5.out (by decide))
  refine start_ (n := 15) (S := fun w' => w'.cell? ⟨gc, 0, none⟩ = some (.pointer (some ⟨ga, 0, none⟩)) ∧ w'.cell? (ta.add (r1.toNat * 2)) = some (.string (rd_T69 (rd_T67 f2 (i : Int)).f1 r1).f0)) (ds := [14]) #[false, false, false, false, false, false, false, false, false, false, false, false, false, false, false] (by kernel_rfl) rfl rfl ⟨(blk_cell HC5.out 0).trans rfl, pw_cell_below HB5.out Y0.out⟩ (fun hHeld => ?_)
  refine with_tab (T := take_T8) take_tab8 (fun HT_ => ?_)
  have n0_ := Aside0.mk (blk_drew HA5.out)
  clear HA5
  have HA5 := n0_
  clear n0_
  have n0_ := Aside0.mk (blk_drew HC5.out)
  clear HC5
  have HC5 := n0_
  clear n0_
  have n0_ := Aside0.mk (below_drew1 HB5.out)
  clear HB5
  have HB5 := n0_
  clear n0_
  have n0_ := Aside0.mk (HO5.out.drew)
  clear HO5
  have HO5 := n0_
  clear n0_
  generalize w5.drew = wq at HA5 HC5 HB5 HO5 hHeld ⊢
  refine take_ (i := 0) (N := some 43) (v := ?_) (a' := ?_) #[true, false, false, false, false, false, false, false, false, false, false, false, false, false, false] rfl rfl (take_of HT_.out (by kernel_rfl)) (fun _ _ _ h => h) (Or.inl ⟨by rfl, ?_⟩) hHeld ?_ ?_
  rotate_left
  · rintro w' ⟨s0, s1⟩
    go_simp
    with_reducible rfl
  rotate_left
  · simp only [Act.put, List.setIfInBounds_toArray, List.set_cons_zero, List.set_cons_succ, i64_w, i32_w]
    rfl
  refine take_ (i := 1) (N := some 44) (v := ?_) (a' := ?_) #[true, true, false, false, false, false, false, false, false, false, false, false, false, false, false] rfl rfl (take_of HT_.out (by kernel_rfl)) (fun _ _ _ h => h) (Or.inl ⟨by rfl, ?_⟩) hHeld ?_ ?_
  rotate_left
  · rintro w' ⟨s0, s1⟩
    go_simp
    with_reducible rfl
  rotate_left
  · simp only [Act.put, List.setIfInBounds_toArray, List.set_cons_zero, List.set_cons_succ, i64_w, i32_w]
    rfl
  refine pure_ (i := 2) (N := some 45) (v := ?_) (a' := ?_) #[true, true, true, false, false, false, false, false, false, false, false, false, false, false, false] rfl rfl (any_of HT_.out (by kernel_rfl)) (fun _ _ _ h => h) (Or.inl ⟨by rfl, ?_⟩) ?_ ?_
  rotate_left
  · intro w'
    go_simp
    with_reducible rfl
  rotate_left
  · simp only [Act.put, List.setIfInBounds_toArray, List.set_cons_zero, List.set_cons_succ, i64_w, i32_w]
    rfl
  refine pure_ (i := 3) (N := some 46) (v := ?_) (a' := ?_) #[true, true, true, true, false, false, false, false, false, false, false, false, false, false, false] rfl rfl (any_of HT_.out (by kernel_rfl)) (fun _ _ _ h => h) (Or.inl ⟨by rfl, ?_⟩) ?_ ?_
  rotate_left
  · intro w'
    go_simp
    with_reducible rfl
  rotate_left
  · simp only [Act.put, List.setIfInBounds_toArray, List.set_cons_zero, List.set_cons_succ, i64_w, i32_w]
    rfl
  refine pure_ (i := 4) (N := some 47) (v := ?_) (a' := ?_) #[true, true, true, true, true, false, false, false, false, false, false, false, false, false, false] rfl rfl (any_of HT_.out (by kernel_rfl)) (fun _ _ _ h => h) (Or.inl ⟨by rfl, ?_⟩) ?_ ?_
  rotate_left
  · intro w'
    go_simp
    with_reducible rfl
  rotate_left
  · simp only [Act.put, List.setIfInBounds_toArray, List.set_cons_zero, List.set_cons_succ, i64_w, i32_w]
    rfl
  refine pure_ (i := 5) (N := some 48) (v := ?_) (a' := ?_) #[true, true, true, true, true, true, false, false, false, false, false, false, false, false, false] rfl rfl (any_of HT_.out (by kernel_rfl)) (fun _ _ _ h => h) (Or.inl ⟨by rfl, ?_⟩) ?_ ?_
  rotate_left
  · intro w'
    go_simp
    with_reducible rfl
  rotate_left
  · simp only [Act.put, List.setIfInBounds_toArray, List.set_cons_zero, List.set_cons_succ, i64_w, i32_w]
    rfl
  refine take_ (i := 6) (N := some 49) (v := ?_) (a' := ?_) #[true, true, true, true, true, true, true, false, false, false, false, false, false, false, false] rfl rfl (take_of HT_.out (by kernel_rfl)) (fun _ _ _ h => h) (Or.inl ⟨by rfl, ?_⟩) hHeld ?_ ?_
  rotate_left
  · rintro w' ⟨s0, s1⟩
    go_simp
    with_reducible rfl
  rotate_left
  · simp only [Act.put, List.setIfInBounds_toArray, List.set_cons_zero, List.set_cons_succ, i64_w, i32_w]
    rfl
  refine pure_ (i := 7) (N := some 50) (v := ?_) (a' := ?_) #[true, true, true, true, true, true, true, true, false, false, false, false, false, false, false] rfl rfl (any_of HT_.out (by kernel_rfl)) (fun _ _ _ h => h) (Or.inl ⟨by rfl, ?_⟩) ?_ ?_
  rotate_left
  · intro w'
    go_simp
    with_reducible rfl
  rotate_left
  · simp only [Act.put, List.setIfInBounds_toArray, List.set_cons_zero, List.set_cons_succ, i64_w, i32_w]
    rfl
  refine pure_ (i := 8) (N := some 51) (v := ?_) (a' := ?_) #[true, true, true, true, true, true, true, true, true, false, false, false, false, false, false] rfl rfl (any_of HT_.out (by kernel_rfl)) (fun _ _ _ h => h) (Or.inl ⟨by rfl, ?_⟩) ?_ ?_
  rotate_left
  · intro w'
    go_simp
    with_reducible rfl
  rotate_left
  · simp only [Act.put, List.setIfInBounds_toArray, List.set_cons_zero, List.set_cons_succ, i64_w, i32_w]
    rfl
  refine pure_ (i := 9) (N := some 52) (v := ?_) (a' := ?_) #[true, true, true, true, true, true, true, true, true, true, false, false, false, false, false] rfl rfl (any_of HT_.out (by kernel_rfl)) (fun _ _ _ h => h) (Or.inl ⟨by rfl, ?_⟩) ?_ ?_
  rotate_left
  · intro w'
    go_simp
    with_reducible rfl
  rotate_left
  · simp only [Act.put, List.setIfInBounds_toArray, List.set_cons_zero, List.set_cons_succ, i64_w, i32_w]
    rfl
  refine one_ (i := 10) (N := none) #[true, true, true, true, true, true, true, true, true, true, true, false, false, false, false] rfl rfl (one_of HT_.out (by kernel_rfl)) (by decide) (fun K hK => ?_)
  have hs_ : wq.cell? ⟨ga, 8, none⟩ = some (.int .i64 503) := (blk_cell HA5.out 8).trans rfl
  have hf_ := blk_frozen HA5.out 8
  refine skip_ (w1 := ?_) (by rfl) rfl ?_ ?_
  rotate_left
  · go_simp
    rfl
  have hA_ := blk_put (cs' := askedCells g b draw m p q h fs 200 ver pool addr) HA5.out 8 (.int .i64 200) rfl
  have hC_ := blk_far HC5.out (p := ⟨ga, 8, none⟩) NGC.out (.int .i64 200)
  have hY_ := (World.cell?_of_block (w := wq) (Below.heap_setCell wq ⟨ga, 8, none⟩ (.int .i64 200) (ta.add (r1.toNat * 2)).block HNT.out)).trans (pw_cell_below HB5.out Y0.out)
  refine hK.out _ _ ⟨(blk_cell hC_ 0).trans rfl, hY_⟩ (fun hHeld => ?_)
  clear hK K hs_ hf_
  have HA6 := Aside0.mk hA_
  have HB6 := Aside0.mk (HB5.out.setCell (show w0.heap.size ≤ (⟨ga, 8, none⟩ : Addr).block from hga) (.int .i64 200))
  have HO6 := Aside0.mk (HO5.out.set 8 (.int .i64 200))
  clear hA_ hC_ hY_ HA5 HB5 HO5
  generalize wq.setCell ⟨ga, 8, none⟩ (.int .i64 200) = wr at HA6 HB6 HO6 hHeld ⊢
  refine pure_ (i := 11) (N := some 53) (v := ?_) (a' := ?_) #[true, true, true, true, true, true, true, true, true, true, true, true, false, false, false] rfl rfl (any_of HT_.out (by kernel_rfl)) (fun _ _ _ h => h) (Or.inl ⟨by rfl, ?_⟩) ?_ ?_
  rotate_left
  · intro w'
    go_simp
    with_reducible rfl
  rotate_left
  · simp only [Act.put, List.setIfInBounds_toArray, List.set_cons_zero, List.set_cons_succ, i64_w, i32_w]
    rfl
  refine pure_ (i := 12) (N := some 54) (v := ?_) (a' := ?_) #[true, true, true, true, true, true, true, true, true, true, true, true, true, false, false] rfl rfl (any_of HT_.out (by kernel_rfl)) (fun _ _ _ h => h) (Or.inl ⟨by rfl, ?_⟩) ?_ ?_
  rotate_left
  · intro w'
    go_simp
    with_reducible rfl
  rotate_left
  · simp only [Act.put, List.setIfInBounds_toArray, List.set_cons_zero, List.set_cons_succ, i64_w, i32_w]
    rfl
  refine pure_ (i := 13) (N := some 55) (v := ?_) (a' := ?_) #[true, true, true, true, true, true, true, true, true, true, true, true, true, true, false] rfl rfl (any_of HT_.out (by kernel_rfl)) (fun _ _ _ h => h) (Or.inl ⟨by rfl, ?_⟩) ?_ ?_
  rotate_left
  · intro w'
    go_simp
    with_reducible rfl
  rotate_left
  · simp only [Act.put, List.setIfInBounds_toArray, List.set_cons_zero, List.set_cons_succ, i64_w, i32_w]
    rfl
  refine last_ (i := 14) (N := none) #[true, true, true, true, true, true, true, true, true, true, true, true, true, true, true] rfl rfl (one_of HT_.out (by kernel_rfl)) (by decide) (fun K hK => ?_)
  have hs_ : wr.cell? ⟨ga, 11, none⟩ = some (.string addr) := (blk_cell HA6.out 11).trans rfl
  have hf_ := blk_frozen HA6.out 11
  refine skip_ (w1 := ?_) (by rfl) rfl ?_ ?_
  rotate_left
  · go_simp
    rfl
  refine hK.out _ _ ?_
  clear hK K hs_ hf_ hHeld
  refine done_ (done_of HT_.out (by kernel_rfl)) ?_
  go_wp2
  go_ret
  exact ⟨rfl, blk_put (cs' := askedCells g b draw m p q h fs 200 ver pool (rd_T69 (rd_T67 f2 (i : Int)).f1 r1).f0) HA6.out 11 (.string (rd_T69 (rd_T67 f2 (i : Int)).f1 r1).f0) rfl, HB6.out.setCell (show w0.heap.size ≤ (⟨ga, 11, none⟩ : Addr).block from hga) _, HO6.out.set 11 _⟩
end Go.Proofs.YtabkdmfnafeaeaaDoor.S
end
section
namespace Go.Proofs.YtabkdmfnafeaeaaDoor.S
open Go.RowKit Go.Proofs.YtabkdmfnafeaeaaDoorW.PrintWords Go.Proofs.YtabkdmfnafeaeaaDoorW.PrintLast Go.Proofs.YtabkdmfnafeaeaaDoorW.PrintMore
set_option linter.unusedVariables false
set_option linter.unusedSimpArgs false
set_option maxHeartbeats 4000000 in
set_option maxRecDepth 100000 in
theorem parse_ok {w0 w : World} (hB : Below w0.heap.size w0 w) {ga g : Nat} (hga : w0.heap.size ≤ ga) {bA : Option Addr} {bn bc : Nat} {draw : Nat} {m p q h : ByteArray} {fA : Option Addr} {fn fc : Nat} {st ver : Int} {pool addr : ByteArray}
    (hA : AskedAt w ga g (.slice bA bn bc) draw m p q h (.slice fA fn fc) st ver pool addr) {m' p' q' h' : ByteArray} {n er : Int}
    (hP : Calls Tryd.prog 14 #[.slice bA bn bc] w fun e w' => ∃ A4 n4 c4, e = .returned (.tuple #[.agg #[.string m', .string p', .string q', .string h', .slice A4 n4 c4], .int .i64 n, .int .i64 er]) ∧ Below w.heap.size w w') :
    Calls Tryd.prog 57 #[.pointer (some ⟨ga, 0, none⟩)] w fun e w' => ∃ A4 n4 c4, e = .returned (.bool (er == 0)) ∧ AskedAt w' ga g (.slice bA bn bc) draw m' p' q' h' (.slice A4 n4 c4) 400 ver pool addr ∧ Below w0.heap.size w0 w' ∧ Only ga w w' := by
  have HB0 := Aside0.mk hB
  have HA := Aside0.mk hA
  have HP := Aside0.mk hP
  have k1 : w.cell? ⟨ga, 1, none⟩ = some (.slice bA bn bc) := (blk_cell hA 1).trans rfl
  clear hA hB hP
  go_enter Tryd.func57, Tryd.ntmps57
  go_wp2_with fail
  refine HP.out.mono ?_
  rintro e w2 ⟨A4, n4, c4, rfl, hb⟩
  have HA2 := Aside0.mk (blk_below HA.out hb)
  have HB2 := Aside0.mk (below_step HB0.out hb)
  have HO2 := Aside0.mk ((Only.refl ga w).below hb)
  clear hb k1 HA HB0 HP
  go_wp2_with (first | ((with_reducible refine gate_dst (N := 3) rfl ?_); refine box_event ?hg (N := 3) ?hd (cs := #[.string ⟨#[]⟩, .string ⟨#[]⟩, .string ⟨#[]⟩, .string ⟨#[]⟩, .slice none 0 0]) (t := 25) ?hr ?_; (case hd => rfl); (case hg => rfl); (case hr => first | (go_simp; done) | (go_simp; rfl)); intro gb hg w3 hbox hb; have HA3 := Aside0.mk (blk_below HA2.out hb); have HB3 := Aside0.mk (below_step HB2.out hb); have HO3 := Aside0.mk (HO2.out.below hb); have HN := Aside0.mk (by rw [hg]; exact HO2.out.1 : w.heap.size ≤ gb); have hne : gb ≠ ga := Nat.ne_of_gt (by rw [hg]; exact blk_lt HA2.out); have hne2 : ga ≠ gb := hne.symm; have z0 : w3.cell? ⟨gb, 0, none⟩ = some (.string ⟨#[]⟩) := (blk_cell hbox 0).trans rfl; have z1 : w3.cell? ⟨gb, 1, none⟩ = some (.string ⟨#[]⟩) := (blk_cell hbox 1).trans rfl; have z2 : w3.cell? ⟨gb, 2, none⟩ = some (.string ⟨#[]⟩) := (blk_cell hbox 2).trans rfl; have z3 : w3.cell? ⟨gb, 3, none⟩ = some (.string ⟨#[]⟩) := (blk_cell hbox 3).trans rfl; have z4 : w3.cell? ⟨gb, 4, none⟩ = some (.slice none 0 0) := (blk_cell hbox 4).trans rfl; have f0 := blk_frozen hbox 0; have f1 := blk_frozen hbox 1; have f2 := blk_frozen hbox 2; have f3 := blk_frozen hbox 3; have f4 := blk_frozen hbox 4; have y3 : w3.cell? ⟨ga, 3, none⟩ = some (.string m) := (blk_cell HA3.out 3).trans rfl; have y4 : w3.cell? ⟨ga, 4, none⟩ = some (.string p) := (blk_cell HA3.out 4).trans rfl; have y5 : w3.cell? ⟨ga, 5, none⟩ = some (.string q) := (blk_cell HA3.out 5).trans rfl; have y6 : w3.cell? ⟨ga, 6, none⟩ = some (.string h) := (blk_cell HA3.out 6).trans rfl; have y7 : w3.cell? ⟨ga, 7, none⟩ = some (.slice fA fn fc) := (blk_cell HA3.out 7).trans rfl; have y8 : w3.cell? ⟨ga, 8, none⟩ = some (.int .i64 st) := (blk_cell HA3.out 8).trans rfl; have x3 := blk_frozen HA3.out 3; have x4 := blk_frozen HA3.out 4; have x5 := blk_frozen HA3.out 5; have x6 := blk_frozen HA3.out 6; have x7 := blk_frozen HA3.out 7; have x8 := blk_frozen HA3.out 8; have HG := Aside0.mk (by rw [hg]; exact (below_size HB2.out) : w0.heap.size ≤ gb); clear hb hbox hg))
  go_ret
  refine ⟨A4, n4, c4, rfl, ?_, ?_, ?_⟩
  · have b0 := blk_far (blk_far (blk_far (blk_far (blk_far HA3.out (p := ⟨gb, 0, none⟩) hne2 (.string m')) (p := ⟨gb, 1, none⟩) hne2 (.string p')) (p := ⟨gb, 2, none⟩) hne2 (.string q')) (p := ⟨gb, 3, none⟩) hne2 (.string h')) (p := ⟨gb, 4, none⟩) hne2 (.slice A4 n4 c4)
    exact blk_put (blk_set (blk_set (blk_set (blk_set (blk_set b0 3 _) 4 _) 5 _) 6 _) 7 _) 8 _ rfl
  · exact below_set (below_set (below_set (below_set (below_set (below_set (below_set (below_set (below_set (below_set (below_set HB3.out HG.out) HG.out) HG.out) HG.out) HG.out) hga) hga) hga) hga) hga) hga
  · exact (((((((((((HO3.out.setNew HN.out 0 _).setNew HN.out 1 _).setNew HN.out 2 _).setNew HN.out 3 _).setNew HN.out 4 _).set 3 _).set 4 _).set 5 _).set 6 _).set 7 _).set 8 _)
end Go.Proofs.YtabkdmfnafeaeaaDoor.S
end
section
namespace Go.Proofs.YtabkdmfnafeaeaaDoor.S
open Go.RowKit Go.Proofs.YtabkdmfnafeaeaaDoorW.PrintWords Go.Proofs.YtabkdmfnafeaeaaDoorW.PrintLast Go.Proofs.YtabkdmfnafeaeaaDoorW.PrintMore
set_option linter.unusedVariables false
set_option linter.unusedSimpArgs false
noncomputable def serve_T3 : Bool × List (List Nat × List Nat) := rtab .any (opsOf Tryd.f30 3)
theorem serve_tab3 : rtab .any (opsOf Tryd.f30 3) = serve_T3 := rfl
set_option maxHeartbeats 4000000 in
set_option maxRecDepth 100000 in
theorem serve_walk {g : Nat} {f0 : Int} {f1 : List S93} {f2 : List S67} {w : World} (hp : PlaneAt w g f0 f1 f2) (bA : Option Addr) (bn bc draw : Nat) (b1 b2 : Bool) (m p q h pool addr : ByteArray) (st : Int)
    (h1 : ∀ (ga : Nat) (w1 : World), w.heap.size ≤ ga → Below w.heap.size w w1 → AskedAt w1 ga g (.slice bA bn bc) draw ⟨#[]⟩ ⟨#[]⟩ ⟨#[]⟩ ⟨#[]⟩ (.slice none 0 0) 0 f0 ⟨#[]⟩ ⟨#[]⟩ → Calls Tryd.prog 57 #[.pointer (some ⟨ga, 0, none⟩)] w1 fun e w' => ∃ A4 n4 c4, e = .returned (.bool b1) ∧ AskedAt w' ga g (.slice bA bn bc) draw m p q h (.slice A4 n4 c4) 400 f0 ⟨#[]⟩ ⟨#[]⟩ ∧ Below w.heap.size w w' ∧ Only ga w1 w')
    (h2 : b1 = true → ∀ (ga : Nat) (w1 : World) (fs : Value), w.heap.size ≤ ga → Below w.heap.size w w1 → AskedAt w1 ga g (.slice bA bn bc) draw m p q h fs 400 f0 ⟨#[]⟩ ⟨#[]⟩ → Calls Tryd.prog 58 #[.pointer (some ⟨ga, 0, none⟩)] w1 fun e w' => e = .returned (.bool b2) ∧ AskedAt w' ga g (.slice bA bn bc) draw m p q h fs 404 f0 pool ⟨#[]⟩ ∧ Below w.heap.size w w' ∧ Only ga w1 w')
    (h3 : b1 = true → b2 = true → ∀ (ga : Nat) (w1 : World) (fs : Value), w.heap.size ≤ ga → Below w.heap.size w w1 → AskedAt w1 ga g (.slice bA bn bc) draw m p q h fs 404 f0 pool ⟨#[]⟩ → Calls Tryd.prog 59 #[.pointer (some ⟨ga, 0, none⟩)] w1 fun e w' => e = .returned (.bool false) ∧ AskedAt w' ga g (.slice bA bn bc) draw m p q h fs st f0 pool addr ∧ Below w.heap.size w w' ∧ Only ga w1 w') :
    Calls Tryd.prog 30 #[.pointer (some ⟨g, 0, none⟩), .slice bA bn bc, .float .f64 draw] w fun e w' => e = .returned (.agg #[.int .i64 (if b1 = true then (if b2 = true then st else 404) else 400), .int .i64 f0, .string (if b1 = true then pool else ⟨#[]⟩), .string (if b1 = true ∧ b2 = true then addr else ⟨#[]⟩)]) ∧ Below w.heap.size w w' := by
  obtain ⟨A1, c1, A2, c2, h0, _, _, _, _⟩ := hp
  have H0 := Aside0.mk h0
  have S1 := Aside0.mk h1
  have S2 := Aside0.mk h2
  have S3 := Aside0.mk h3
  have HB0 := Aside0.mk (Below.refl w.heap.size w)
  clear h0 h1 h2 h3
  have hu102 := Tryd.underlying102
  have hu62 := Tryd.underlying62
  have hu25 := Tryd.underlying25
  have hu97 := Tryd.underlying97
  have hu55 := Tryd.underlying55
  have hmf : ∀ (fn : Fn) (first cap : Array Value) (w : World), (Instr.makeFunc fn first cap).run Tryd.prog w = .ok (.func fn first cap) w := fun _ _ _ _ => rfl
  go_enter Tryd.func30, Tryd.ntmps30
  go_wp2_with (first | ((with_reducible refine gate_dst (N := 6) rfl ?_); refine box_event ?hg (N := 6) ?hd (cs := #[.int .i64 0, .int .i64 0, .string ⟨#[]⟩, .string ⟨#[]⟩]) (t := 62) ?hr ?_; (case hd => rfl); (case hg => rfl); (case hr => first | (go_simp; done) | (go_simp; rfl)); intro gb hg w1 hbox hb; have n0_ := Aside0.mk (below_step HB0.out hb); have HG := Aside0.mk hbox; have GB := Aside0.mk (Nat.le_of_eq hg.symm : w.heap.size ≤ gb); clear HB0; have HB0 := n0_; clear hb hbox hg n0_) | fail)
  refine start_ (n := 14) (S := fun w' => w'.cell? ⟨g, 0, none⟩ = some (.int .i64 f0)) (ds := [12]) #[false, false, false, false, false, false, false, false, false, false, false, false, false, false] (by kernel_rfl) rfl rfl ((blk_cell (blk_below H0.out HB0.out) 0).trans rfl) (fun hHeld => ?_)
  refine with_tab (T := serve_T3) serve_tab3 (fun HT_ => ?_)
  have m0_ := Aside0.mk (below_drew1 HB0.out)
  have m1_ := Aside0.mk (blk_drew HG.out)
  clear HB0 HG
  have HB0 := m0_
  have HG := m1_
  clear m0_ m1_
  generalize w1.drew = w2 at HB0 HG hHeld ⊢
  refine pure_ (i := 0) (N := some 13) (v := ?_) (a' := ?_) #[true, false, false, false, false, false, false, false, false, false, false, false, false, false] rfl rfl (any_of HT_.out (by kernel_rfl)) (fun _ _ _ h => h) (Or.inl ⟨by rfl, ?_⟩) ?_ ?_
  rotate_left
  · intro w'
    go_simp
    with_reducible rfl
  rotate_left
  · simp only [Act.put, List.setIfInBounds_toArray, List.set_cons_zero, List.set_cons_succ, i64_w, i32_w]
    rfl
  refine pure_ (i := 1) (N := some 14) (v := ?_) (a' := ?_) #[true, true, false, false, false, false, false, false, false, false, false, false, false, false] rfl rfl (any_of HT_.out (by kernel_rfl)) (fun _ _ _ h => h) (Or.inl ⟨by rfl, ?_⟩) ?_ ?_
  rotate_left
  · intro w'
    go_simp
    with_reducible rfl
  rotate_left
  · simp only [Act.put, List.setIfInBounds_toArray, List.set_cons_zero, List.set_cons_succ, i64_w, i32_w]
    rfl
  refine pure_ (i := 2) (N := some 15) (v := ?_) (a' := ?_) #[true, true, true, false, false, false, false, false, false, false, false, false, false, false] rfl rfl (any_of HT_.out (by kernel_rfl)) (fun _ _ _ h => h) (Or.inl ⟨by rfl, ?_⟩) ?_ ?_
  rotate_left
  · intro w'
    go_simp
    with_reducible rfl
  rotate_left
  · simp only [Act.put, List.setIfInBounds_toArray, List.set_cons_zero, List.set_cons_succ, i64_w, i32_w]
    rfl
  refine pure_ (i := 3) (N := some 16) (v := ?_) (a' := ?_) #[true, true, true, true, false, false, false, false, false, false, false, false, false, false] rfl rfl (any_of HT_.out (by kernel_rfl)) (fun _ _ _ h => h) (Or.inl ⟨by rfl, ?_⟩) ?_ ?_
  rotate_left
  · intro w'
    go_simp
    with_reducible rfl
  rotate_left
  · simp only [Act.put, List.setIfInBounds_toArray, List.set_cons_zero, List.set_cons_succ, i64_w, i32_w]
    rfl
  refine pure_ (i := 4) (N := some 17) (v := ?_) (a' := ?_) #[true, true, true, true, true, false, false, false, false, false, false, false, false, false] rfl rfl (any_of HT_.out (by kernel_rfl)) (fun _ _ _ h => h) (Or.inl ⟨by rfl, ?_⟩) ?_ ?_
  rotate_left
  · intro w'
    go_simp
    with_reducible rfl
  rotate_left
  · simp only [Act.put, List.setIfInBounds_toArray, List.set_cons_zero, List.set_cons_succ, i64_w, i32_w]
    rfl
  refine pure_ (i := 5) (N := some 18) (v := ?_) (a' := ?_) #[true, true, true, true, true, true, false, false, false, false, false, false, false, false] rfl rfl (any_of HT_.out (by kernel_rfl)) (fun _ _ _ h => h) (Or.inl ⟨by rfl, ?_⟩) ?_ ?_
  rotate_left
  · intro w'
    go_simp
    with_reducible rfl
  rotate_left
  · simp only [Act.put, List.setIfInBounds_toArray, List.set_cons_zero, List.set_cons_succ, i64_w, i32_w]
    rfl
  refine pure_ (i := 6) (N := some 19) (v := ?_) (a' := ?_) #[true, true, true, true, true, true, true, false, false, false, false, false, false, false] rfl rfl (any_of HT_.out (by kernel_rfl)) (fun _ _ _ h => h) (Or.inl ⟨by rfl, ?_⟩) ?_ ?_
  rotate_left
  · intro w'
    go_simp
    with_reducible rfl
  rotate_left
  · simp only [Act.put, List.setIfInBounds_toArray, List.set_cons_zero, List.set_cons_succ, i64_w, i32_w]
    rfl
  refine pure_ (i := 7) (N := some 20) (v := ?_) (a' := ?_) #[true, true, true, true, true, true, true, true, false, false, false, false, false, false] rfl rfl (any_of HT_.out (by kernel_rfl)) (fun _ _ _ h => h) (Or.inl ⟨by rfl, ?_⟩) ?_ ?_
  rotate_left
  · intro w'
    go_simp
    with_reducible rfl
  rotate_left
  · simp only [Act.put, List.setIfInBounds_toArray, List.set_cons_zero, List.set_cons_succ, i64_w, i32_w]
    rfl
  refine pure_ (i := 8) (N := some 21) (v := ?_) (a' := ?_) #[true, true, true, true, true, true, true, true, true, false, false, false, false, false] rfl rfl (any_of HT_.out (by kernel_rfl)) (fun _ _ _ h => h) (Or.inl ⟨by rfl, ?_⟩) ?_ ?_
  rotate_left
  · intro w'
    go_simp
    with_reducible rfl
  rotate_left
  · simp only [Act.put, List.setIfInBounds_toArray, List.set_cons_zero, List.set_cons_succ, i64_w, i32_w]
    rfl
  refine take_ (i := 9) (N := some 22) (v := ?_) (a' := ?_) #[true, true, true, true, true, true, true, true, true, true, false, false, false, false] rfl rfl (take_of HT_.out (by kernel_rfl)) (fun _ _ _ h => h) (Or.inl ⟨by rfl, ?_⟩) hHeld ?_ ?_
  rotate_left
  · rintro w' s0
    go_simp
    with_reducible rfl
  rotate_left
  · simp only [Act.put, List.setIfInBounds_toArray, List.set_cons_zero, List.set_cons_succ, i64_w, i32_w]
    rfl
  refine pure_ (i := 10) (N := some 23) (v := ?_) (a' := ?_) #[true, true, true, true, true, true, true, true, true, true, true, false, false, false] rfl rfl (any_of HT_.out (by kernel_rfl)) (fun _ _ _ h => h) (Or.inl ⟨by rfl, ?_⟩) ?_ ?_
  rotate_left
  · intro w'
    go_simp
    with_reducible rfl
  rotate_left
  · simp only [Act.put, List.setIfInBounds_toArray, List.set_cons_zero, List.set_cons_succ, i64_w, i32_w]
    rfl
  refine pure_ (i := 11) (N := some 24) (v := ?_) (a' := ?_) #[true, true, true, true, true, true, true, true, true, true, true, true, false, false] rfl rfl (any_of HT_.out (by kernel_rfl)) (fun _ _ _ h => h) (Or.inl ⟨by rfl, ?_⟩) ?_ ?_
  rotate_left
  · intro w'
    go_simp
    with_reducible rfl
  rotate_left
  · simp only [Act.put, List.setIfInBounds_toArray, List.set_cons_zero, List.set_cons_succ, i64_w, i32_w]
    rfl
  refine last_ (i := 12) (N := some 25) #[true, true, true, true, true, true, true, true, true, true, true, true, true, false] rfl rfl (one_of HT_.out (by kernel_rfl)) (by decide) (fun K hK => ?_)
  refine box_step ?hg (N := 25) ?hd (cs := askedCells g (.slice bA bn bc) draw ⟨#[]⟩ ⟨#[]⟩ ⟨#[]⟩ ⟨#[]⟩ (.slice none 0 0) 0 f0 ⟨#[]⟩ ⟨#[]⟩) (t := 102) ?hr ?_; (case hd => rfl); (case hg => rfl); (case hr => first | (go_simp; done) | (go_simp; rfl))
  intro ga hg w3 hbox hb
  have NE := Aside0.mk (by rw [hg]; exact Nat.ne_of_lt (blk_lt HG.out) : gb ≠ ga)
  have GA := Aside0.mk (by rw [hg]; exact below_size HB0.out : w.heap.size ≤ ga)
  have m0_ := Aside0.mk (hbox)
  have m1_ := Aside0.mk (blk_below HG.out hb)
  have m2_ := Aside0.mk (below_step HB0.out hb)
  clear HG HB0
  have HA := m0_
  have HG := m1_
  have HB0 := m2_
  clear m0_ m1_ m2_
  clear hb hbox hg
  refine hK.out _ _ ?_
  clear hHeld
  clear hK K
  refine norm_ (a' := ?_) ?_ ?_
  rotate_left
  · show Act.put _ (some 25) _ = _
    simp only [Act.put, List.setIfInBounds_toArray, List.set_cons_zero, List.set_cons_succ, i64_w, i32_w]
    rfl
  refine pure_ (i := 13) (N := some 7) (v := ?_) (a' := ?_) #[true, true, true, true, true, true, true, true, true, true, true, true, true, true] rfl rfl (any_of HT_.out (by kernel_rfl)) (fun _ _ _ h => h) (Or.inl ⟨by rfl, ?_⟩) ?_ ?_
  rotate_left
  · intro w'
    go_simp
    with_reducible rfl
  rotate_left
  · simp only [Act.put, List.setIfInBounds_toArray, List.set_cons_zero, List.set_cons_succ, i64_w, i32_w]
    rfl
  refine done_ (done_of HT_.out (by kernel_rfl)) ?_
  clear HT_
  go_wp2
  have NS := Aside0.mk (Nat.ne_of_gt (blk_lt HA.out) : w3.heap.size ≠ ga)
  have HS : Aside0 ((w3.alloc (.cells #[.func (.func 57) #[.pointer (some ⟨ga, 0, none⟩)] #[], .func (.func 58) #[.pointer (some ⟨ga, 0, none⟩)] #[], .func (.func 59) #[.pointer (some ⟨ga, 0, none⟩)] #[]] 29 (0, 0))).heap[w3.heap.size]? = some (.cells #[.func (.func 57) #[.pointer (some ⟨ga, 0, none⟩)] #[], .func (.func 58) #[.pointer (some ⟨ga, 0, none⟩)] #[], .func (.func 59) #[.pointer (some ⟨ga, 0, none⟩)] #[]] 29 (0, 0))) := ⟨blk_new _ _⟩
  have m0_ := Aside0.mk (blk_alloc HA.out (.cells #[.func (.func 57) #[.pointer (some ⟨ga, 0, none⟩)] #[], .func (.func 58) #[.pointer (some ⟨ga, 0, none⟩)] #[], .func (.func 59) #[.pointer (some ⟨ga, 0, none⟩)] #[]] 29 (0, 0)))
  have m1_ := Aside0.mk (blk_alloc HG.out (.cells #[.func (.func 57) #[.pointer (some ⟨ga, 0, none⟩)] #[], .func (.func 58) #[.pointer (some ⟨ga, 0, none⟩)] #[], .func (.func 59) #[.pointer (some ⟨ga, 0, none⟩)] #[]] 29 (0, 0)))
  have m2_ := Aside0.mk (below_alloc (o := .cells #[.func (.func 57) #[.pointer (some ⟨ga, 0, none⟩)] #[], .func (.func 58) #[.pointer (some ⟨ga, 0, none⟩)] #[], .func (.func 59) #[.pointer (some ⟨ga, 0, none⟩)] #[]] 29 (0, 0)) HB0.out)
  clear HA HG HB0
  have HA := m0_
  have HG := m1_
  have HB0 := m2_
  clear m0_ m1_ m2_
  generalize w3.alloc (.cells #[.func (.func 57) #[.pointer (some ⟨ga, 0, none⟩)] #[], .func (.func 58) #[.pointer (some ⟨ga, 0, none⟩)] #[], .func (.func 59) #[.pointer (some ⟨ga, 0, none⟩)] #[]] 29 (0, 0)) = w4 at HA HG HB0 HS ⊢
  generalize w3.heap.size = gs at NS HS ⊢
  go_loopg [34] 4 (fun n v34 wr => ∃ i : Nat, v34 = .int .i64 (i : Int) ∧ Aside0 (i + n = 4 ∧ i ≤ 2) ∧ Aside0 (i = 0 → AskedAt wr ga g (.slice bA bn bc) draw ⟨#[]⟩ ⟨#[]⟩ ⟨#[]⟩ ⟨#[]⟩ (.slice none 0 0) 0 f0 ⟨#[]⟩ ⟨#[]⟩) ∧ Aside0 (i = 1 → b1 = true ∧ ∃ fs, AskedAt wr ga g (.slice bA bn bc) draw m p q h fs 400 f0 ⟨#[]⟩ ⟨#[]⟩) ∧ Aside0 (i = 2 → b1 = true ∧ b2 = true ∧ ∃ fs, AskedAt wr ga g (.slice bA bn bc) draw m p q h fs 404 f0 pool ⟨#[]⟩) ∧ Aside0 (wr.heap[gb]? = some (.cells #[.int .i64 0, .int .i64 0, .string ⟨#[]⟩, .string ⟨#[]⟩] 62 (0, 0))) ∧ Aside0 (wr.heap[gs]? = some (.cells #[.func (.func 57) #[.pointer (some ⟨ga, 0, none⟩)] #[], .func (.func 58) #[.pointer (some ⟨ga, 0, none⟩)] #[], .func (.func 59) #[.pointer (some ⟨ga, 0, none⟩)] #[]] 29 (0, 0))) ∧ Aside0 (Below w.heap.size w wr))
  case atStart => exact ⟨0, rfl, ⟨by omega, by omega⟩, ⟨fun _ => HA.out⟩, ⟨fun h => absurd h (by decide)⟩, ⟨fun h => absurd h (by decide)⟩, ⟨HG.out⟩, ⟨HS.out⟩, ⟨HB0.out⟩⟩
  case round =>
    clear HA HG HS HB0
    obtain ⟨i, rfl, HN, HI0, HI1, HI2, HG, HS, HB0⟩ := hrel
    obtain rfl | rfl | rfl : i = 0 ∨ i = 1 ∨ i = 2 := by have := HN.out; omega
    · rw [show ((0 : Nat) : Int) = 0 from rfl]
      have q_ : wr.cell? ⟨gs, 0, none⟩ = some (.func (.func 57) #[.pointer (some ⟨ga, 0, none⟩)] #[]) := (blk_cell HS.out 0).trans rfl
      go_wp2_with fail
      refine (S1.out ga wr GA.out HB0.out (HI0.out (by trivial))).mono ?_
      rintro e w5 ⟨A4, n4, c4, rfl, ha, hb, ho⟩
      clear q_
      have HA := Aside0.mk ha
      have m1_ := Aside0.mk ((ho.2 gb (blk_lt HG.out) NE.out).trans HG.out)
      have m2_ := Aside0.mk ((ho.2 gs (blk_lt HS.out) NS.out).trans HS.out)
      have m3_ := Aside0.mk hb
      clear HG HS HB0 ha hb ho
      have HG := m1_
      have HS := m2_
      have HB0 := m3_
      clear m1_ m2_ m3_
      clear HI0 HI1 HI2
      cases b1
      · skip
        have k8 : w5.cell? ⟨ga, 8, none⟩ = some (.int .i64 400) := (blk_cell HA.out 8).trans rfl
        have k9 : w5.cell? ⟨ga, 9, none⟩ = some (.int .i64 f0) := (blk_cell HA.out 9).trans rfl
        have k10 : w5.cell? ⟨ga, 10, none⟩ = some (.string ⟨#[]⟩) := (blk_cell HA.out 10).trans rfl
        have k11 : w5.cell? ⟨ga, 11, none⟩ = some (.string ⟨#[]⟩) := (blk_cell HA.out 11).trans rfl
        have z0 : w5.cell? ⟨gb, 0, none⟩ = some (.int .i64 0) := (blk_cell HG.out 0).trans rfl
        have y0 := blk_frozen HG.out 0
        have z1 : w5.cell? ⟨gb, 1, none⟩ = some (.int .i64 0) := (blk_cell HG.out 1).trans rfl
        have y1 := blk_frozen HG.out 1
        have z2 : w5.cell? ⟨gb, 2, none⟩ = some (.string ⟨#[]⟩) := (blk_cell HG.out 2).trans rfl
        have y2 := blk_frozen HG.out 2
        have z3 : w5.cell? ⟨gb, 3, none⟩ = some (.string ⟨#[]⟩) := (blk_cell HG.out 3).trans rfl
        have y3 := blk_frozen HG.out 3
        go_wp2
        refine bodyPost_ret (results_single rfl (Vals.cell gb 62 #[.int .i64 400, .int .i64 f0, .string ⟨#[]⟩, .string ⟨#[]⟩] (0, 0) _ rfl (blk_put (blk_put (blk_put (blk_put HG.out 0 _ rfl) 1 _ rfl) 2 _ rfl) 3 _ rfl) Tryd.underlying62 rfl (by kernel_rfl) Vals.nil)) rfl ?_
        exact ⟨rfl, below_set (below_set (below_set (below_set HB0.out GB.out) GB.out) GB.out) GB.out⟩
      · skip
        go_wp2
        go_roundg (3 - 0)
        case measure => have := HN.out; omega
        case rel => exact ⟨1, by first | rfl | (simp; done) | (simp [*]; done), ⟨by omega, by omega⟩, ⟨fun h => absurd h (by decide)⟩, ⟨fun _ => ⟨by trivial, _, HA.out⟩⟩, ⟨fun h => absurd h (by decide)⟩, ⟨HG.out⟩, ⟨HS.out⟩, ⟨HB0.out⟩⟩
    · rw [show ((1 : Nat) : Int) = 1 from rfl]
      have q_ : wr.cell? ⟨gs, 1, none⟩ = some (.func (.func 58) #[.pointer (some ⟨ga, 0, none⟩)] #[]) := (blk_cell HS.out 1).trans rfl
      go_wp2_with fail
      obtain ⟨hb1, fs, ha1⟩ := HI1.out (by trivial)
      refine (S2.out hb1 ga wr fs GA.out HB0.out ha1).mono ?_
      rintro e w5 ⟨rfl, ha, hb, ho⟩
      clear q_ ha1
      subst hb1
      have HA := Aside0.mk ha
      have m1_ := Aside0.mk ((ho.2 gb (blk_lt HG.out) NE.out).trans HG.out)
      have m2_ := Aside0.mk ((ho.2 gs (blk_lt HS.out) NS.out).trans HS.out)
      have m3_ := Aside0.mk hb
      clear HG HS HB0 ha hb ho
      have HG := m1_
      have HS := m2_
      have HB0 := m3_
      clear m1_ m2_ m3_
      clear HI0 HI1 HI2
      cases b2
      · skip
        have k8 : w5.cell? ⟨ga, 8, none⟩ = some (.int .i64 404) := (blk_cell HA.out 8).trans rfl
        have k9 : w5.cell? ⟨ga, 9, none⟩ = some (.int .i64 f0) := (blk_cell HA.out 9).trans rfl
        have k10 : w5.cell? ⟨ga, 10, none⟩ = some (.string pool) := (blk_cell HA.out 10).trans rfl
        have k11 : w5.cell? ⟨ga, 11, none⟩ = some (.string ⟨#[]⟩) := (blk_cell HA.out 11).trans rfl
        have z0 : w5.cell? ⟨gb, 0, none⟩ = some (.int .i64 0) := (blk_cell HG.out 0).trans rfl
        have y0 := blk_frozen HG.out 0
        have z1 : w5.cell? ⟨gb, 1, none⟩ = some (.int .i64 0) := (blk_cell HG.out 1).trans rfl
        have y1 := blk_frozen HG.out 1
        have z2 : w5.cell? ⟨gb, 2, none⟩ = some (.string ⟨#[]⟩) := (blk_cell HG.out 2).trans rfl
        have y2 := blk_frozen HG.out 2
        have z3 : w5.cell? ⟨gb, 3, none⟩ = some (.string ⟨#[]⟩) := (blk_cell HG.out 3).trans rfl
        have y3 := blk_frozen HG.out 3
        go_wp2
        refine bodyPost_ret (results_single rfl (Vals.cell gb 62 #[.int .i64 404, .int .i64 f0, .string pool, .string ⟨#[]⟩] (0, 0) _ rfl (blk_put (blk_put (blk_put (blk_put HG.out 0 _ rfl) 1 _ rfl) 2 _ rfl) 3 _ rfl) Tryd.underlying62 rfl (by kernel_rfl) Vals.nil)) rfl ?_
        exact ⟨rfl, below_set (below_set (below_set (below_set HB0.out GB.out) GB.out) GB.out) GB.out⟩
      · skip
        go_wp2
        go_roundg (3 - 1)
        case measure => have := HN.out; omega
        case rel => exact ⟨2, by first | rfl | (simp; done) | (simp [*]; done), ⟨by omega, by omega⟩, ⟨fun h => absurd h (by decide)⟩, ⟨fun h => absurd h (by decide)⟩, ⟨fun _ => ⟨by trivial, by trivial, _, HA.out⟩⟩, ⟨HG.out⟩, ⟨HS.out⟩, ⟨HB0.out⟩⟩
    · rw [show ((2 : Nat) : Int) = 2 from rfl]
      have q_ : wr.cell? ⟨gs, 2, none⟩ = some (.func (.func 59) #[.pointer (some ⟨ga, 0, none⟩)] #[]) := (blk_cell HS.out 2).trans rfl
      go_wp2_with fail
      obtain ⟨hb1, hb2, fs, ha1⟩ := HI2.out (by trivial)
      refine (S3.out hb1 hb2 ga wr fs GA.out HB0.out ha1).mono ?_
      rintro e w5 ⟨rfl, ha, hb, ho⟩
      clear q_ ha1
      subst hb1 hb2
      have HA := Aside0.mk ha
      have m1_ := Aside0.mk ((ho.2 gb (blk_lt HG.out) NE.out).trans HG.out)
      have m2_ := Aside0.mk ((ho.2 gs (blk_lt HS.out) NS.out).trans HS.out)
      have m3_ := Aside0.mk hb
      clear HG HS HB0 ha hb ho
      have HG := m1_
      have HS := m2_
      have HB0 := m3_
      clear m1_ m2_ m3_
      clear HI0 HI1 HI2
      have k8 : w5.cell? ⟨ga, 8, none⟩ = some (.int .i64 st) := (blk_cell HA.out 8).trans rfl
      have k9 : w5.cell? ⟨ga, 9, none⟩ = some (.int .i64 f0) := (blk_cell HA.out 9).trans rfl
      have k10 : w5.cell? ⟨ga, 10, none⟩ = some (.string pool) := (blk_cell HA.out 10).trans rfl
      have k11 : w5.cell? ⟨ga, 11, none⟩ = some (.string addr) := (blk_cell HA.out 11).trans rfl
      have z0 : w5.cell? ⟨gb, 0, none⟩ = some (.int .i64 0) := (blk_cell HG.out 0).trans rfl
      have y0 := blk_frozen HG.out 0
      have z1 : w5.cell? ⟨gb, 1, none⟩ = some (.int .i64 0) := (blk_cell HG.out 1).trans rfl
      have y1 := blk_frozen HG.out 1
      have z2 : w5.cell? ⟨gb, 2, none⟩ = some (.string ⟨#[]⟩) := (blk_cell HG.out 2).trans rfl
      have y2 := blk_frozen HG.out 2
      have z3 : w5.cell? ⟨gb, 3, none⟩ = some (.string ⟨#[]⟩) := (blk_cell HG.out 3).trans rfl
      have y3 := blk_frozen HG.out 3
      go_wp2
      refine bodyPost_ret (results_single rfl (Vals.cell gb 62 #[.int .i64 st, .int .i64 f0, .string pool, .string addr] (0, 0) _ rfl (blk_put (blk_put (blk_put (blk_put HG.out 0 _ rfl) 1 _ rfl) 2 _ rfl) 3 _ rfl) Tryd.underlying62 rfl (by kernel_rfl) Vals.nil)) rfl ?_
      exact ⟨rfl, below_set (below_set (below_set (below_set HB0.out GB.out) GB.out) GB.out) GB.out⟩
end Go.Proofs.YtabkdmfnafeaeaaDoor.S
end
section
namespace Go.Proofs.YtabkdmfnafeaeaaDoor.S
open Go.RowKit Go.Proofs.YtabkdmfnafeaeaaDoorW.PrintWords Go.Proofs.YtabkdmfnafeaeaaDoorW.PrintLast Go.Proofs.YtabkdmfnafeaeaaDoorW.PrintMore
set_option linter.unusedVariables false
set_option linter.unusedSimpArgs false
def plane_Serve.f (k : Nat) (f0 : Int) (f1 : List S93) (f2 : List S67) (l : List Int) (draw : Nat) : Option (Int × Int × ByteArray × ByteArray) :=
  (head_Parse.f k l).bind fun x =>
    if x.2.2.2.2.2.2 = 0 then
      (plane_Find.f k f0 f1 f2 x.2.2.2.1 x.2.1).bind fun r =>
        if r.2.2.2 = true then
          (if idxP r.2.2.1 f2 0 < 0 then (if f2.length ≤ 2000 then some (503, f0, r.2.2.1, ⟨#[]⟩) else none)
          else (plane_Weigh.f k (rd_T67 f2 (idxP r.2.2.1 f2 0)).f1 draw).bind fun t =>
            if t.2 = true then (if 0 ≤ t.1 ∧ t.1 < ((rd_T67 f2 (idxP r.2.2.1 f2 0)).f1.length : Int) ∧ f2.length ≤ 2000 then some (200, f0, r.2.2.1, (rd_T69 (rd_T67 f2 (idxP r.2.2.1 f2 0)).f1 t.1).f0) else none) else (if f2.length ≤ 2000 then some (503, f0, r.2.2.1, ⟨#[]⟩) else none))
        else some (404, f0, r.2.2.1, ⟨#[]⟩)
    else some (400, f0, ⟨#[]⟩, ⟨#[]⟩)
theorem idxP_in (pool : ByteArray) : ∀ (l : List S67) (i : Int), idxP pool l i = -1 ∨ (i ≤ idxP pool l i ∧ idxP pool l i < i + l.length)
  | [], i => .inl rfl
  | x :: l, i => by
    unfold idxP
    split
    · right
      simp
      omega
    · rcases idxP_in pool l (i + 1) with h | h
      · exact .inl h
      · right
        simp
        omega
theorem plane_Serve.calls (k : Nat) {g : Nat} {f0 : Int} {f1 : List S93} {f2 : List S67} {w : World} (hp : PlaneAt w g f0 f1 f2) (hml : ML w) (A : Option Addr) (c : Nat) (l : List Int) (draw : Nat) (hr : Kd.C (Kd.int .u8) w A l.length l) (hc : l.length ≤ c)
    {r1 r2 : Int} {r3 r4 : ByteArray} (h : plane_Serve.f k f0 f1 f2 l draw = some (r1, r2, r3, r4)) :
    Calls Tryd.prog 30 #[.pointer (some ⟨g, 0, none⟩), .slice A l.length c, .float .f64 draw] w fun e w' => e = .returned (.agg #[.int .i64 r1, .int .i64 r2, .string r3, .string r4]) ∧ Below w.heap.size w w' := by
  unfold plane_Serve.f at h
  obtain ⟨⟨m, p, q, hh, fs, n, er⟩, hP, h⟩ := Option.bind_eq_some_iff.1 h
  simp only at h
  have P1 : ∀ (ga : Nat) (w1 : World), w.heap.size ≤ ga → Below w.heap.size w w1 → AskedAt w1 ga g (.slice A l.length c) draw ⟨#[]⟩ ⟨#[]⟩ ⟨#[]⟩ ⟨#[]⟩ (.slice none 0 0) 0 f0 ⟨#[]⟩ ⟨#[]⟩ → Calls Tryd.prog 57 #[.pointer (some ⟨ga, 0, none⟩)] w1 fun e w' => ∃ A4 n4 c4, e = .returned (.bool (er == 0)) ∧ AskedAt w' ga g (.slice A l.length c) draw m p q hh (.slice A4 n4 c4) 400 f0 ⟨#[]⟩ ⟨#[]⟩ ∧ Below w.heap.size w w' ∧ Only ga w1 w' := by
    intro ga w1 hga hB hA
    refine parse_ok hB hga hA (n := n) ?_
    refine (head_Parse.calls k A c l m p q hh fs n er w1 (ML.keep hml hB) (Kd.C_below hr hB) hc hP).mono ?_
    rintro e w' ⟨v4, rfl, hR, hb⟩
    obtain ⟨A4, c4, rfl, _, _⟩ := Kd.R_reads hR
    exact ⟨A4, _, c4, rfl, hb⟩
  by_cases he : er = 0
  · rw [if_pos he] at h
    obtain ⟨⟨s1, s2, pool, ok⟩, hF, h⟩ := Option.bind_eq_some_iff.1 h
    simp only at h
    have P2 : ∀ (ga : Nat) (w1 : World) (fs : Value), w.heap.size ≤ ga → Below w.heap.size w w1 → AskedAt w1 ga g (.slice A l.length c) draw m p q hh fs 400 f0 ⟨#[]⟩ ⟨#[]⟩ → Calls Tryd.prog 58 #[.pointer (some ⟨ga, 0, none⟩)] w1 fun e w' => e = .returned (.bool ok) ∧ AskedAt w' ga g (.slice A l.length c) draw m p q hh fs 404 f0 pool ⟨#[]⟩ ∧ Below w.heap.size w w' ∧ Only ga w1 w' :=
      fun ga w1 fs hga hB hA => route_ok hp hB hga hA k hF
    have b1 : (er == 0) = true := by rw [he]; rfl
    cases ok with
    | false =>
      rw [if_neg (by simp)] at h
      simp only [Option.some.injEq, Prod.mk.injEq] at h
      obtain ⟨rfl, rfl, rfl, rfl⟩ := h
      refine (serve_walk hp A l.length c draw (er == 0) false m p q hh pool ⟨#[]⟩ 0 P1 (fun _ => P2) (fun _ h => absurd h (by simp))).mono ?_
      rintro e w' ⟨rfl, hb⟩
      refine ⟨?_, hb⟩
      rw [b1]
      rfl
    | true =>
      rw [if_pos rfl] at h
      have fin : ∀ (st : Int) (addr : ByteArray), (r1, r2, r3, r4) = (st, f0, pool, addr) → (∀ (ga : Nat) (w1 : World) (fs : Value), w.heap.size ≤ ga → Below w.heap.size w w1 → AskedAt w1 ga g (.slice A l.length c) draw m p q hh fs 404 f0 pool ⟨#[]⟩ → Calls Tryd.prog 59 #[.pointer (some ⟨ga, 0, none⟩)] w1 fun e w' => e = .returned (.bool false) ∧ AskedAt w' ga g (.slice A l.length c) draw m p q hh fs st f0 pool addr ∧ Below w.heap.size w w' ∧ Only ga w1 w') →
          Calls Tryd.prog 30 #[.pointer (some ⟨g, 0, none⟩), .slice A l.length c, .float .f64 draw] w fun e w' => e = .returned (.agg #[.int .i64 r1, .int .i64 r2, .string r3, .string r4]) ∧ Below w.heap.size w w' := by
        intro st addr hq P3
        simp only [Prod.mk.injEq] at hq
        obtain ⟨rfl, rfl, rfl, rfl⟩ := hq
        refine (serve_walk hp A l.length c draw (er == 0) true m p q hh r3 r4 r1 P1 (fun _ => P2) (fun _ _ => P3)).mono ?_
        rintro e w' ⟨rfl, hb⟩
        refine ⟨?_, hb⟩
        rw [b1]
        rfl
      rcases idxP_in pool f2 0 with hi | ⟨hi0, hi1⟩
      · rw [if_pos (by omega)] at h
        by_cases hl2 : f2.length ≤ 2000
        case neg => rw [if_neg hl2] at h; cases h
        rw [if_pos hl2] at h
        exact fin 503 ⟨#[]⟩ (Option.some.inj h).symm fun ga w1 fs hga hB hA => take_none hp hB hga hA hl2 hi
      · rw [if_neg (by omega)] at h
        obtain ⟨⟨t1, t2⟩, hW, h⟩ := Option.bind_eq_some_iff.1 h
        simp only at h
        obtain ⟨i, hi⟩ : ∃ i : Nat, idxP pool f2 0 = (i : Int) := ⟨(idxP pool f2 0).toNat, by omega⟩
        rw [hi] at hW h
        have hin : i < f2.length := by omega
        cases t2 with
        | false =>
          rw [if_neg (by simp)] at h
          by_cases hl2 : f2.length ≤ 2000
          case neg => rw [if_neg hl2] at h; cases h
          rw [if_pos hl2] at h
          exact fin 503 ⟨#[]⟩ (Option.some.inj h).symm fun ga w1 fs hga hB hA => take_nought hp hB hga hA hl2 hi hin k hW
        | true =>
          rw [if_pos rfl] at h
          by_cases hb : 0 ≤ t1 ∧ t1 < ((rd_T67 f2 (i : Int)).f1.length : Int) ∧ f2.length ≤ 2000
          case neg => rw [if_neg hb] at h; cases h
          rw [if_pos hb] at h
          obtain ⟨hr0, hr1, hl2⟩ := hb
          exact fin 200 _ (Option.some.inj h).symm fun ga w1 fs hga hB hA => take_hit hp hB hga hA hl2 hi hin k hW hr0 hr1
  · rw [if_neg he] at h
    simp only [Option.some.injEq, Prod.mk.injEq] at h
    obtain ⟨rfl, rfl, rfl, rfl⟩ := h
    have b1 : (er == 0) = false := by simpa using he
    refine (serve_walk hp A l.length c draw (er == 0) false m p q hh ⟨#[]⟩ ⟨#[]⟩ 0 P1 (fun h => absurd h (by rw [b1]; simp)) (fun h => absurd h (by rw [b1]; simp))).mono ?_
    rintro e w' ⟨rfl, hb⟩
    refine ⟨?_, hb⟩
    rw [b1]
    rfl
end Go.Proofs.YtabkdmfnafeaeaaDoor.S
end
section
namespace Go.Proofs.YtabkdmfnafeaeaaDoor.S
open Go.RowKit Go.Proofs.YtabkdmfnafeaeaaDoorW.PrintWords Go.Proofs.YtabkdmfnafeaeaaDoorW.PrintLast Go.Proofs.YtabkdmfnafeaeaaDoorW.PrintMore
set_option linter.unusedVariables false
set_option linter.unusedSimpArgs false
theorem PlaneOwn.drew {W : World} {base g : Nat} {f0 : Int} {f1 : List S93} {f2 : List S67} (h : PlaneOwn W base g f0 f1 f2) : PlaneOwn W.drew base g f0 f1 f2 := h
def smallC (f1 : List S93) (f2 : List S67) : Prop := f1.length ≤ 2000 ∧ f2.length ≤ 2000 ∧ ∀ x, x ∈ f2 → x.f1.length ≤ 2000
instance (f1 : List S93) (f2 : List S67) : Decidable (smallC f1 f2) := by unfold smallC; exact inferInstance
theorem plane_empty {W : World} {g : Nat} {A1 A2 : Option Addr} {c1 c2 : Nat} (h : W.heap[g]? = some (.cells #[.int .i64 0, .slice A1 0 c1, .slice A2 0 c2] 97 (0, 0))) : PlaneAt W g 0 [] [] :=
  ⟨A1, c1, A2, c2, h, ⟨rfl, by simp, fun h => absurd h (Nat.lt_irrefl 0)⟩, Nat.zero_le _, ⟨rfl, by simp, fun h => absurd h (Nat.lt_irrefl 0)⟩, Nat.zero_le _⟩
end Go.Proofs.YtabkdmfnafeaeaaDoor.S
end
section
namespace Go.Proofs.YtabkdmfnafeaeaaDoor.S
open Go.RowKit Go.Proofs.YtabkdmfnafeaeaaDoorW.PrintWords Go.Proofs.YtabkdmfnafeaeaaDoorW.PrintLast Go.Proofs.YtabkdmfnafeaeaaDoorW.PrintMore
set_option linter.unusedVariables false
set_option linter.unusedSimpArgs false
set_option maxHeartbeats 2000000 in
set_option maxRecDepth 100000 in
theorem version_blk {g : Nat} {v : Int} {x y : Value} {w : World} (h : w.heap[g]? = some (.cells #[.int .i64 v, x, y] 97 (0, 0))) :
    Calls Tryd.prog 31 #[.pointer (some ⟨g, 0, none⟩)] w fun e w' => e = .returned (.int .i64 v) ∧ Below w.heap.size w w' := by
  have q0 : w.cell? ⟨g, 0, none⟩ = some (.int .i64 v) := (blk_cell h 0).trans rfl
  have hu97 := Tryd.underlying97
  have hu55 := Tryd.underlying55
  go_enter Tryd.func31, Tryd.ntmps31
  go_wp2
  go_ret
  exact ⟨rfl, Below.refl _ _⟩
theorem unwanted_ {b : Bool} {p q : Prop} (hb : b = false) (h : q) : if b = true then p else q := by rw [hb]; exact h
theorem serve_version {k : Nat} {f0 : Int} {f1 : List S93} {f2 : List S67} {l : List Int} {draw : Nat} {r1 r2 : Int} {r3 r4 : ByteArray} (h : plane_Serve.f k f0 f1 f2 l draw = some (r1, r2, r3, r4)) : r2 = f0 := by
  unfold plane_Serve.f at h
  obtain ⟨x, _, h⟩ := Option.bind_eq_some_iff.1 h
  split at h
  · obtain ⟨r, _, h⟩ := Option.bind_eq_some_iff.1 h
    split at h
    · split at h
      · split at h
        · simp only [Option.some.injEq, Prod.mk.injEq] at h
          exact h.2.1.symm
        · cases h
      · obtain ⟨t, _, h⟩ := Option.bind_eq_some_iff.1 h
        split at h
        · split at h
          · simp only [Option.some.injEq, Prod.mk.injEq] at h
            exact h.2.1.symm
          · cases h
        · split at h
          · simp only [Option.some.injEq, Prod.mk.injEq] at h
            exact h.2.1.symm
          · cases h
    · simp only [Option.some.injEq, Prod.mk.injEq] at h
      exact h.2.1.symm
  · simp only [Option.some.injEq, Prod.mk.injEq] at h
    exact h.2.1.symm
def fndT (p : S67) (l : List S69) (pool addr : ByteArray) : Bool := p.f0.toList == pool.toList && l.any fun t => t.f0.toList == addr.toList
def fndP (l : List S67) (pool addr : ByteArray) : Bool := l.any fun p => fndT p p.f1 pool addr
theorem take_step {α : Type} {l : List α} {i : Nat} {x : α} (h : l[i]? = some x) : l.take (i + 1) = l.take i ++ [x] := by rw [List.take_add_one, h]; rfl
theorem fndP_step {l : List S67} {i : Nat} {p : S67} (h : l[i]? = some p) {pool addr : ByteArray} : fndP (l.take (i + 1)) pool addr = (fndP (l.take i) pool addr || fndT p p.f1 pool addr) := by
  unfold fndP
  rw [take_step h, List.any_append]
  simp
theorem fndT_step {p : S67} {l : List S69} {j : Nat} {t : S69} (h : l[j]? = some t) {pool addr : ByteArray} : fndT p (l.take (j + 1)) pool addr = (fndT p (l.take j) pool addr || (p.f0.toList == pool.toList && t.f0.toList == addr.toList)) := by
  unfold fndT
  rw [take_step h, List.any_append]
  simp [Bool.and_or_distrib_left]
theorem idx_rdT (l : List S69) (i : Nat) (hi : i < l.length) : l[i]? = some (rd_T69 l (i : Int)) := by
  unfold rd_T69
  simp [List.getD_eq_getElem?_getD, List.getElem?_eq_getElem hi]
def anyRest (ok : Bool) (ps : List S67) (r : Int × Int × ByteArray × ByteArray) : Option Bool :=
  if r.1 = 400 ∨ r.1 = 404 then (if r.2.2.1 = ⟨#[]⟩ ∧ r.2.2.2 = ⟨#[]⟩ then some true else none)
  else if r.1 = 503 then (if ok = true then (if r.2.2.2 = ⟨#[]⟩ then some true else none) else none)
  else if ok = true then (if r.1 = 200 ∧ fndP ps r.2.2.1 r.2.2.2 = true then some true else none) else none
def tollgatelaw10_PlaneAny.f (k : Nat) (a0 : Int) (a1 : List S93) (a2 : List S67) (l : List Int) (d : Nat) : Option Bool :=
  (tollgatelaw10_short.f k a0 a1 a2).bind fun s1 =>
    if s1 = true then if l.length ≤ 5000 then if smallC a1 a2 then (tollgatelaw10_live.f k).bind fun t1 => if t1 = true then
        (if 0 < a0 then (plane_Serve.f k a0 a1 a2 l d).bind (anyRest true a2) else (plane_Serve.f k 0 [] [] l d).bind (anyRest false a2))
      else none else none
      else tollgatelaw10_live.f k
    else tollgatelaw10_live.f k
noncomputable def any_T6 : Bool × List (List Nat × List Nat) := rtab .any (opsOf Tryd.f12 6)
theorem any_T6_is : rtab .any (opsOf Tryd.f12 6) = any_T6 := rfl
noncomputable def any_T21 : Bool × List (List Nat × List Nat) := rtab .any (opsOf Tryd.f12 21)
theorem any_T21_is : rtab .any (opsOf Tryd.f12 21) = any_T21 := rfl
set_option maxHeartbeats 8000000 in
set_option maxRecDepth 100000 in
theorem tollgatelaw10_PlaneAny.hand (k : Nat) (a0 : Int) (A01 : Option Addr) (c01 : Nat) (a1 : List S93) (A02 : Option Addr) (c02 : Nat) (a2 : List S67) (A1 : Option Addr) (c1 : Nat) (l : List Int) (d : Nat) (r : Bool) (w : World) (hml : ML w)
    (hr01 : Kd.C k93 w A01 a1.length a1) (hc01 : a1.length ≤ c01) (hr02 : Kd.C k67 w A02 a2.length a2) (hc02 : a2.length ≤ c02) (hr1 : Kd.C (Kd.int .u8) w A1 l.length l) (hc1 : l.length ≤ c1)
    (h : tollgatelaw10_PlaneAny.f k a0 a1 a2 l d = some r) :
    Calls Tryd.prog 12 #[.agg #[.int .i64 a0, .slice A01 a1.length c01, .slice A02 a2.length c02], .slice A1 l.length c1, .float .f64 d] w fun e w' => e = .returned (.bool r) ∧ Below w.heap.size w w' := by
  unfold tollgatelaw10_PlaneAny.f at h
  obtain ⟨s1, hs1, h2_⟩ := Option.bind_eq_some_iff.1 h
  clear h
  have HML := Aside0.mk hml
  have HR1 := Aside0.mk hr01
  have HR2 := Aside0.mk hr02
  have HR5 := Aside0.mk hr1
  have HS1 := Aside0.mk hs1
  clear hml hr01 hr02 hr1 hs1
  have HH := Aside0.mk h2_
  clear h2_
  have HB := Aside0.mk (Below.refl w.heap.size w)
  have hu55 := Tryd.underlying55
  have hu97 := Tryd.underlying97
  have hu62 := Tryd.underlying62
  have hu67 := Tryd.underlying67
  have hu69 := Tryd.underlying69
  go_enter Tryd.func12, Tryd.ntmps12
  go_wp2_with (first | (((with_reducible refine gate_dst (N := 3) rfl ?_); refine box_event ?hg (N := 3) ?hd (cs := #[.int .i64 a0, .slice A01 a1.length c01, .slice A02 a2.length c02]) (t := 55) ?hr ?_; (case hd => rfl); (case hg => rfl); (case hr => first | (go_simp; done) | (go_simp; rfl)); intro ba hg w3 hbox hb; have mb_ := Aside0.mk (below_step HB.out hb); have BA := Aside0.mk hbox; clear HB; have HB := mb_; clear hb hbox hg mb_); have q0 : w3.cell? ⟨ba, 0, none⟩ = some (.int .i64 a0) := (blk_cell BA.out 0).trans rfl; have q1 : w3.cell? ⟨ba, 1, none⟩ = some (.slice A01 a1.length c01) := (blk_cell BA.out 1).trans rfl; have q2 : w3.cell? ⟨ba, 2, none⟩ = some (.slice A02 a2.length c02) := (blk_cell BA.out 2).trans rfl) | fail)
  refine (tollgatelaw10_short.calls k a0 A01 c01 a1 A02 c02 a2 s1 _ (Kd.C_below HR1.out HB.out) hc01 (Kd.C_below HR2.out HB.out) hc02 HS1.out).mono ?_
  rintro e w4 ⟨rfl, hb⟩
  have m0_ := Aside0.mk (blk_below BA.out hb)
  have m1_ := Aside0.mk (below_step HB.out hb)
  clear BA HB hb q0 q1 q2
  have BA := m0_
  have HB := m1_
  clear m0_ m1_
  cases s1
  · have h_ := HH.out
    rw [if_neg (by simp)] at h_
    clear HH
    have HH := Aside0.mk h_
    clear h_
    go_wp2_with fail
    refine (tollgatelaw10_live.calls k r _ HH.out).mono ?_
    rintro e w9 ⟨rfl, hb⟩
    have m_ := Aside0.mk (below_step HB.out hb)
    clear HB hb
    go_wp2
    go_ret
    exact ⟨rfl, m_.out⟩
  have h_ := HH.out
  rw [if_pos rfl] at h_
  clear HH
  have HH := Aside0.mk h_
  clear h_
  by_cases hq_ : l.length ≤ 5000
  rotate_left
  · have h_ := HH.out
    rw [if_neg hq_] at h_
    clear HH
    have HH := Aside0.mk h_
    clear h_
    have c1 : decide (5000 < (l.length : Int)) = true := decide_eq_true (by omega)
    clear hq_
    go_wp2_with fail
    refine (tollgatelaw10_live.calls k r _ HH.out).mono ?_
    rintro e w9 ⟨rfl, hb⟩
    have m_ := Aside0.mk (below_step HB.out hb)
    clear HB hb
    go_wp2
    go_ret
    exact ⟨rfl, m_.out⟩
  have h_ := HH.out
  rw [if_pos hq_] at h_
  clear HH
  have HH := Aside0.mk h_
  clear h_
  have c1 : decide (5000 < (l.length : Int)) = false := decide_eq_false (by omega)
  clear hq_
  have h_ := HH.out
  clear HH
  by_cases hq_ : smallC a1 a2
  rotate_left
  · rw [if_neg hq_] at h_; cases h_
  rw [if_pos hq_] at h_
  obtain ⟨t1, ht1, h_⟩ := Option.bind_eq_some_iff.1 h_
  cases t1
  · rw [if_neg (by simp)] at h_; cases h_
  rw [if_pos rfl] at h_
  obtain ⟨z1, z2, z3⟩ := hq_
  have Z3 := Aside0.mk z3
  have HT1 := Aside0.mk ht1
  clear z3 ht1
  go_wp2_with fail
  refine (new_ok _).mono ?_
  rintro e w5 ⟨gp, rfl, hg_, hpl, hb⟩
  obtain ⟨pA1, pc1, pA2, pc2, hp_, _⟩ := hpl
  have hp0_ : w5.heap[gp]? = some (.cells #[.int .i64 0, .slice pA1 0 pc1, .slice pA2 0 pc2] 97 (0, 0)) := hp_
  clear hp_
  have GP := Aside0.mk (Nat.le_trans (below_size HB.out) hg_ : w.heap.size ≤ gp)
  have NBAp := Aside0.mk (Nat.ne_of_lt (Nat.lt_of_lt_of_le (blk_lt BA.out) hg_) : ba ≠ gp)
  have m0_ := Aside0.mk (blk_below BA.out hb)
  have m1_ := Aside0.mk (below_step HB.out hb)
  clear BA HB hb hg_ c1
  have BA := m0_
  have HB := m1_
  clear m0_ m1_
  have HP0 := Aside0.mk hp0_
  clear hp0_
  have q0 : w5.cell? ⟨ba, 0, none⟩ = some (.int .i64 a0) := (blk_cell BA.out 0).trans rfl
  have q1 : w5.cell? ⟨ba, 1, none⟩ = some (.slice A01 a1.length c01) := (blk_cell BA.out 1).trans rfl
  have q2 : w5.cell? ⟨ba, 2, none⟩ = some (.slice A02 a2.length c02) := (blk_cell BA.out 2).trans rfl
  have HH := Aside0.mk h_
  clear h_
  go_wp2_with fail
  by_cases ha0 : 0 < a0
  · skip
    have h_ := HH.out
    rw [if_pos ha0] at h_
    obtain ⟨⟨v1, v2, v3, v4⟩, hv, h_⟩ := Option.bind_eq_some_iff.1 h_
    have HV := Aside0.mk hv
    clear HH hv
    have HH := Aside0.mk h_
    clear h_
    refine (apply_ok (plane_empty HP0.out) a0 A01 c01 a1 A02 c02 a2 (Kd.C_below HR1.out HB.out) hc01 (Kd.C_below HR2.out HB.out) hc02 z1 z2 Z3.out ha0).mono ?_
    rintro e w6 ⟨rfl, ho, hb, hk, hoth⟩
    have m0_ := Aside0.mk ((hk _ (blk_lt BA.out) NBAp.out).trans BA.out)
    have m1_ := Aside0.mk (HB.out.trans (hb _ GP.out (below_size HB.out)))
    have PL := Aside0.mk ho.at_
    clear BA HB HP0 ho hb hk hoth q0 q1 q2
    have BA := m0_
    have HB := m1_
    clear m0_ m1_
    have HA0 := Aside0.mk ha0
    clear ha0
    go_wp2_with fail
    refine (plane_Serve.calls k PL.out (ML.keep HML.out HB.out) A1 c1 l d (Kd.C_below HR5.out HB.out) hc1 HV.out).mono ?_
    rintro e w7 ⟨rfl, hb⟩
    obtain ⟨pB1, pd1, pB2, pd2, hp_, _⟩ := PL.out
    have BP := Aside0.mk hp_
    clear hp_ PL
    have m0_ := Aside0.mk (blk_below BA.out hb)
    have m1_ := Aside0.mk (below_step HB.out hb)
    have m2_ := Aside0.mk (blk_below BP.out hb)
    clear BA HB BP hb
    have BA := m0_
    have HB := m1_
    have BP := m2_
    clear m0_ m1_ m2_
    go_wp2
    have GR := Aside0.mk (show w.heap.size ≤ w7.heap.size ∧ ba ≠ w7.heap.size ∧ gp ≠ w7.heap.size from ⟨below_size HB.out, Nat.ne_of_lt (blk_lt BA.out), Nat.ne_of_lt (blk_lt BP.out)⟩)
    have mBR_ : Aside0 ((w7.alloc (.cells #[.int .i64 v1, .int .i64 v2, .string v3, .string v4] 62 (0, 0))).heap[w7.heap.size]? = some (.cells #[.int .i64 v1, .int .i64 v2, .string v3, .string v4] 62 (0, 0))) := ⟨blk_new _ _⟩
    have mBA_ := Aside0.mk (blk_alloc BA.out (.cells #[.int .i64 v1, .int .i64 v2, .string v3, .string v4] 62 (0, 0)))
    have mBP_ := Aside0.mk (blk_alloc BP.out (.cells #[.int .i64 v1, .int .i64 v2, .string v3, .string v4] 62 (0, 0)))
    have mHB_ := Aside0.mk (below_alloc (o := (.cells #[.int .i64 v1, .int .i64 v2, .string v3, .string v4] 62 (0, 0))) HB.out)
    clear BA BP HB
    have BR := mBR_
    have BA := mBA_
    have BP := mBP_
    have HB := mHB_
    clear mBR_ mBA_ mBP_ mHB_
    generalize w7.alloc (.cells #[.int .i64 v1, .int .i64 v2, .string v3, .string v4] 62 (0, 0)) = w10 at BR BA BP HB ⊢
    generalize w7.heap.size = br at BR GR ⊢
    have c3 : decide (0 < a0) = true := decide_eq_true HA0.out
    have HV2 := Aside0.mk (serve_version HV.out)
    have hv2 := HV2.out.symm
    subst hv2
    clear HV2
    refine start_ (n := 24) (S := fun w' => w'.cell? ⟨ba, 0, none⟩ = some (.int .i64 a0) ∧ w'.cell? ⟨br, 1, none⟩ = some (.int .i64 a0)) (ds := []) #[false, false, false, false, false, false, false, false, false, false, false, false, false, false, false, false, false, false, false, false, false, false, false, false] (by kernel_rfl) rfl rfl ⟨(blk_cell BA.out 0).trans rfl, (blk_cell BR.out 1).trans rfl⟩ (fun hHeld => ?_)
    refine with_tab (T := any_T6) any_T6_is (fun HT_ => ?_)
    have m0_ := Aside0.mk (blk_drew BA.out)
    have m1_ := Aside0.mk (below_drew1 HB.out)
    have m2_ := Aside0.mk (blk_drew BP.out)
    have m3_ := Aside0.mk (blk_drew BR.out)
    clear BA HB BP BR
    have BA := m0_
    have HB := m1_
    have BP := m2_
    have BR := m3_
    clear m0_ m1_ m2_ m3_
    generalize w10.drew = w11 at hHeld BA HB BP BR ⊢
    refine pure_ (i := 0) (N := some 30) (v := ?_) (a' := ?_) #[true, false, false, false, false, false, false, false, false, false, false, false, false, false, false, false, false, false, false, false, false, false, false, false] rfl rfl (any_of HT_.out (by kernel_rfl)) (fun _ _ _ h => h) (Or.inl ⟨by rfl, ?_⟩) ?_ ?_
    rotate_left
    · intro w'
      go_simp
      with_reducible rfl
    rotate_left
    · simp only [Act.put, List.setIfInBounds_toArray, List.set_cons_zero, List.set_cons_succ, i64_w, i32_w]
      rfl
    refine pure_ (i := 1) (N := some 31) (v := ?_) (a' := ?_) #[true, true, false, false, false, false, false, false, false, false, false, false, false, false, false, false, false, false, false, false, false, false, false, false] rfl rfl (any_of HT_.out (by kernel_rfl)) (fun _ _ _ h => h) (Or.inl ⟨by rfl, ?_⟩) ?_ ?_
    rotate_left
    · intro w'
      go_simp
      with_reducible rfl
    rotate_left
    · simp only [Act.put, List.setIfInBounds_toArray, List.set_cons_zero, List.set_cons_succ, i64_w, i32_w]
      rfl
    refine pure_ (i := 2) (N := some 32) (v := ?_) (a' := ?_) #[true, true, true, false, false, false, false, false, false, false, false, false, false, false, false, false, false, false, false, false, false, false, false, false] rfl rfl (any_of HT_.out (by kernel_rfl)) (fun _ _ _ h => h) (Or.inl ⟨by rfl, ?_⟩) ?_ ?_
    rotate_left
    · intro w'
      go_simp
      with_reducible rfl
    rotate_left
    · simp only [Act.put, List.setIfInBounds_toArray, List.set_cons_zero, List.set_cons_succ, i64_w, i32_w]
      rfl
    refine take_ (i := 3) (N := some 33) (v := ?_) (a' := ?_) #[true, true, true, true, false, false, false, false, false, false, false, false, false, false, false, false, false, false, false, false, false, false, false, false] rfl rfl (take_of HT_.out (by kernel_rfl)) (fun _ _ _ h => h) (Or.inl ⟨by rfl, ?_⟩) hHeld ?_ ?_
    rotate_left
    · rintro w' ⟨s0, s1⟩
      go_simp
      with_reducible rfl
    rotate_left
    · simp only [Act.put, List.setIfInBounds_toArray, List.set_cons_zero, List.set_cons_succ, i64_w, i32_w]
      rfl
    refine pure_ (i := 4) (N := some 34) (v := ?_) (a' := ?_) #[true, true, true, true, true, false, false, false, false, false, false, false, false, false, false, false, false, false, false, false, false, false, false, false] rfl rfl (any_of HT_.out (by kernel_rfl)) (fun _ _ _ h => h) (Or.inl ⟨by rfl, ?_⟩) ?_ ?_
    rotate_left
    · intro w'
      go_simp
      with_reducible rfl
    rotate_left
    · simp only [Act.put, List.setIfInBounds_toArray, List.set_cons_zero, List.set_cons_succ, i64_w, i32_w]
      rfl
    refine pure_ (i := 5) (N := some 35) (v := ?_) (a' := ?_) #[true, true, true, true, true, true, false, false, false, false, false, false, false, false, false, false, false, false, false, false, false, false, false, false] rfl rfl (any_of HT_.out (by kernel_rfl)) (fun _ _ _ h => h) (Or.inl ⟨by rfl, ?_⟩) ?_ ?_
    rotate_left
    · intro w'
      go_simp
      with_reducible rfl
    rotate_left
    · simp only [Act.put, List.setIfInBounds_toArray, List.set_cons_zero, List.set_cons_succ, i64_w, i32_w]
      rfl
    refine pure_ (i := 6) (N := some 36) (v := ?_) (a' := ?_) #[true, true, true, true, true, true, true, false, false, false, false, false, false, false, false, false, false, false, false, false, false, false, false, false] rfl rfl (any_of HT_.out (by kernel_rfl)) (fun _ _ _ h => h) (Or.inl ⟨by rfl, ?_⟩) ?_ ?_
    rotate_left
    · intro w'
      go_simp
      with_reducible rfl
    rotate_left
    · simp only [Act.put, List.setIfInBounds_toArray, List.set_cons_zero, List.set_cons_succ, i64_w, i32_w]
      rfl
    refine pure_ (i := 7) (N := some 37) (v := ?_) (a' := ?_) #[true, true, true, true, true, true, true, true, false, false, false, false, false, false, false, false, false, false, false, false, false, false, false, false] rfl rfl (any_of HT_.out (by kernel_rfl)) (fun _ _ _ h => h) (Or.inl ⟨by rfl, ?_⟩) ?_ ?_
    rotate_left
    · intro w'
      go_simp
      with_reducible rfl
    rotate_left
    · simp only [Act.put, List.setIfInBounds_toArray, List.set_cons_zero, List.set_cons_succ, i64_w, i32_w]
      rfl
    refine take_ (i := 8) (N := some 38) (v := ?_) (a' := ?_) #[true, true, true, true, true, true, true, true, true, false, false, false, false, false, false, false, false, false, false, false, false, false, false, false] rfl rfl (take_of HT_.out (by kernel_rfl)) (fun _ _ _ h => h) (Or.inl ⟨by rfl, ?_⟩) hHeld ?_ ?_
    rotate_left
    · rintro w' ⟨s0, s1⟩
      go_simp
      with_reducible rfl
    rotate_left
    · simp only [Act.put, List.setIfInBounds_toArray, List.set_cons_zero, List.set_cons_succ, i64_w, i32_w]
      rfl
    refine pure_ (i := 9) (N := some 39) (v := ?_) (a' := ?_) #[true, true, true, true, true, true, true, true, true, true, false, false, false, false, false, false, false, false, false, false, false, false, false, false] rfl rfl (any_of HT_.out (by kernel_rfl)) (fun _ _ _ h => h) (Or.inl ⟨by rfl, ?_⟩) ?_ ?_
    rotate_left
    · intro w'
      go_simp
      with_reducible rfl
    rotate_left
    · simp only [Act.put, List.setIfInBounds_toArray, List.set_cons_zero, List.set_cons_succ, i64_w, i32_w]
      rfl
    refine one_ (i := 10) (N := some 40) #[true, true, true, true, true, true, true, true, true, true, true, false, false, false, false, false, false, false, false, false, false, false, false, false] rfl rfl (one_of HT_.out (by kernel_rfl)) (by decide) (fun K hK => ?_)
    refine goes_ Tryd.func31 (by kernel_rfl) rfl #[.pointer (some ⟨gp, 0, none⟩)] (by rfl) rfl rfl (by (try simp only [List.map_toArray, List.map_cons, List.map_nil]); first | done | rfl) ?_
    refine (version_blk BP.out).mono ?_
    rintro e w12 ⟨rfl, hb⟩
    refine ⟨_, rfl, ?_⟩
    have m0_ := Aside0.mk (blk_below BA.out hb)
    have m1_ := Aside0.mk (below_step HB.out hb)
    have m2_ := Aside0.mk (blk_below BP.out hb)
    have m3_ := Aside0.mk (blk_below BR.out hb)
    clear BA HB BP BR hb
    have BA := m0_
    have HB := m1_
    have BP := m2_
    have BR := m3_
    clear m0_ m1_ m2_ m3_
    refine hK.out _ _ ⟨(blk_cell BA.out 0).trans rfl, (blk_cell BR.out 1).trans rfl⟩ (fun hHeld => ?_)
    clear hK K
    refine norm_ (a' := ?_) ?_ ?_
    rotate_left
    · show Act.put _ (some 40) _ = _
      simp only [Act.put, List.setIfInBounds_toArray, List.set_cons_zero, List.set_cons_succ, i64_w, i32_w]
      rfl
    refine pure_ (i := 11) (N := some 41) (v := ?_) (a' := ?_) #[true, true, true, true, true, true, true, true, true, true, true, true, false, false, false, false, false, false, false, false, false, false, false, false] rfl rfl (any_of HT_.out (by kernel_rfl)) (fun _ _ _ h => h) (Or.inl ⟨by rfl, ?_⟩) ?_ ?_
    rotate_left
    · intro w'
      go_simp
      with_reducible rfl
    rotate_left
    · simp only [Act.put, List.setIfInBounds_toArray, List.set_cons_zero, List.set_cons_succ, i64_w, i32_w]
      rfl
    refine pure_ (i := 12) (N := some 42) (v := ?_) (a' := ?_) #[true, true, true, true, true, true, true, true, true, true, true, true, true, false, false, false, false, false, false, false, false, false, false, false] rfl rfl (any_of HT_.out (by kernel_rfl)) (fun _ _ _ h => h) (Or.inl ⟨by rfl, ?_⟩) ?_ ?_
    rotate_left
    · intro w'
      go_simp
      with_reducible rfl
    rotate_left
    · simp only [Act.put, List.setIfInBounds_toArray, List.set_cons_zero, List.set_cons_succ, i64_w, i32_w]
      rfl
    refine pure_ (i := 13) (N := some 43) (v := ?_) (a' := ?_) #[true, true, true, true, true, true, true, true, true, true, true, true, true, true, false, false, false, false, false, false, false, false, false, false] rfl rfl (any_of HT_.out (by kernel_rfl)) (fun _ _ _ h => h) (Or.inl ⟨by rfl, ?_⟩) ?_ ?_
    rotate_left
    · intro w'
      go_simp
      with_reducible rfl
    rotate_left
    · simp only [Act.put, List.setIfInBounds_toArray, List.set_cons_zero, List.set_cons_succ, i64_w, i32_w]
      rfl
    refine pure_ (i := 14) (N := some 44) (v := ?_) (a' := ?_) #[true, true, true, true, true, true, true, true, true, true, true, true, true, true, true, false, false, false, false, false, false, false, false, false] rfl rfl (any_of HT_.out (by kernel_rfl)) (fun _ _ _ h => h) (Or.inl ⟨by rfl, ?_⟩) ?_ ?_
    rotate_left
    · intro w'
      go_simp
      with_reducible rfl
    rotate_left
    · simp only [Act.put, List.setIfInBounds_toArray, List.set_cons_zero, List.set_cons_succ, i64_w, i32_w]
      rfl
    refine pure_ (i := 15) (N := some 45) (v := ?_) (a' := ?_) #[true, true, true, true, true, true, true, true, true, true, true, true, true, true, true, true, false, false, false, false, false, false, false, false] rfl rfl (any_of HT_.out (by kernel_rfl)) (fun _ _ _ h => h) (Or.inl ⟨by rfl, ?_⟩) ?_ ?_
    rotate_left
    · intro w'
      go_simp
      with_reducible rfl
    rotate_left
    · simp only [Act.put, List.setIfInBounds_toArray, List.set_cons_zero, List.set_cons_succ, i64_w, i32_w]
      rfl
    refine pure_ (i := 16) (N := some 46) (v := ?_) (a' := ?_) #[true, true, true, true, true, true, true, true, true, true, true, true, true, true, true, true, true, false, false, false, false, false, false, false] rfl rfl (any_of HT_.out (by kernel_rfl)) (fun _ _ _ h => h) (Or.inl ⟨by rfl, ?_⟩) ?_ ?_
    rotate_left
    · intro w'
      go_simp
      with_reducible rfl
    rotate_left
    · simp only [Act.put, List.setIfInBounds_toArray, List.set_cons_zero, List.set_cons_succ, i64_w, i32_w]
      rfl
    refine pure_ (i := 17) (N := some 47) (v := ?_) (a' := ?_) #[true, true, true, true, true, true, true, true, true, true, true, true, true, true, true, true, true, true, false, false, false, false, false, false] rfl rfl (any_of HT_.out (by kernel_rfl)) (fun _ _ _ h => h) (Or.inl ⟨by rfl, ?_⟩) ?_ ?_
    rotate_left
    · intro w'
      go_simp
      with_reducible rfl
    rotate_left
    · simp only [Act.put, List.setIfInBounds_toArray, List.set_cons_zero, List.set_cons_succ, i64_w, i32_w]
      rfl
    refine pure_ (i := 19) (N := some 49) (v := ?_) (a' := ?_) #[true, true, true, true, true, true, true, true, true, true, true, true, true, true, true, true, true, true, false, true, false, false, false, false] rfl rfl (any_of HT_.out (by kernel_rfl)) (fun _ _ _ h => h) (Or.inl ⟨by rfl, ?_⟩) ?_ ?_
    rotate_left
    · intro w'
      go_simp
      with_reducible rfl
    rotate_left
    · simp only [Act.put, List.setIfInBounds_toArray, List.set_cons_zero, List.set_cons_succ, i64_w, i32_w]
      rfl
    refine take_ (i := 20) (N := some 50) (v := ?_) (a' := ?_) #[true, true, true, true, true, true, true, true, true, true, true, true, true, true, true, true, true, true, false, true, true, false, false, false] rfl rfl (take_of HT_.out (by kernel_rfl)) (fun _ _ _ h => h) (Or.inl ⟨by rfl, ?_⟩) hHeld ?_ ?_
    rotate_left
    · rintro w' ⟨s0, s1⟩
      go_simp
      with_reducible rfl
    rotate_left
    · simp only [Act.put, List.setIfInBounds_toArray, List.set_cons_zero, List.set_cons_succ, i64_w, i32_w]
      rfl
    refine one_ (i := 18) (N := some 48) #[true, true, true, true, true, true, true, true, true, true, true, true, true, true, true, true, true, true, true, true, true, false, false, false] rfl rfl (one_of HT_.out (by kernel_rfl)) (by decide) (fun K hK => ?_)
    refine goes_ Tryd.func31 (by kernel_rfl) rfl #[.pointer (some ⟨gp, 0, none⟩)] (by rfl) rfl rfl (by (try simp only [List.map_toArray, List.map_cons, List.map_nil]); first | done | rfl) ?_
    refine (version_blk BP.out).mono ?_
    rintro e w13 ⟨rfl, hb⟩
    refine ⟨_, rfl, ?_⟩
    have m0_ := Aside0.mk (blk_below BA.out hb)
    have m1_ := Aside0.mk (below_step HB.out hb)
    have m2_ := Aside0.mk (blk_below BP.out hb)
    have m3_ := Aside0.mk (blk_below BR.out hb)
    clear BA HB BP BR hb
    have BA := m0_
    have HB := m1_
    have BP := m2_
    have BR := m3_
    clear m0_ m1_ m2_ m3_
    refine hK.out _ _ ⟨(blk_cell BA.out 0).trans rfl, (blk_cell BR.out 1).trans rfl⟩ (fun hHeld => ?_)
    clear hK K
    refine norm_ (a' := ?_) ?_ ?_
    rotate_left
    · show Act.put _ (some 48) _ = _
      simp only [Act.put, List.setIfInBounds_toArray, List.set_cons_zero, List.set_cons_succ, i64_w, i32_w]
      rfl
    refine pure_ (i := 21) (N := some 51) (v := ?_) (a' := ?_) #[true, true, true, true, true, true, true, true, true, true, true, true, true, true, true, true, true, true, true, true, true, true, false, false] rfl rfl (any_of HT_.out (by kernel_rfl)) (fun _ _ _ h => h) (Or.inl ⟨by rfl, ?_⟩) ?_ ?_
    rotate_left
    · intro w'
      go_simp
      with_reducible rfl
    rotate_left
    · simp only [Act.put, List.setIfInBounds_toArray, List.set_cons_zero, List.set_cons_succ, i64_w, i32_w]
      rfl
    refine pure_ (i := 22) (N := some 52) (v := ?_) (a' := ?_) #[true, true, true, true, true, true, true, true, true, true, true, true, true, true, true, true, true, true, true, true, true, true, true, false] rfl rfl (any_of HT_.out (by kernel_rfl)) (fun _ _ _ h => h) (Or.inl ⟨by rfl, ?_⟩) ?_ ?_
    rotate_left
    · intro w'
      go_simp
      with_reducible rfl
    rotate_left
    · simp only [Act.put, List.setIfInBounds_toArray, List.set_cons_zero, List.set_cons_succ, i64_w, i32_w]
      rfl
    refine pure_ (i := 23) (N := some 53) (v := ?_) (a' := ?_) #[true, true, true, true, true, true, true, true, true, true, true, true, true, true, true, true, true, true, true, true, true, true, true, true] rfl rfl (any_of HT_.out (by kernel_rfl)) (fun _ _ _ h => h) (Or.inl ⟨by rfl, ?_⟩) ?_ ?_
    rotate_left
    · intro w'
      go_simp
      with_reducible rfl
    rotate_left
    · simp only [Act.put, List.setIfInBounds_toArray, List.set_cons_zero, List.set_cons_succ, i64_w, i32_w]
      rfl
    refine done_ (done_of HT_.out (by kernel_rfl)) ?_
    clear HT_
    try clear hHeld
    clear c3
    have q0 : w13.cell? ⟨br, 0, none⟩ = some (.int .i64 v1) := (blk_cell BR.out 0).trans rfl
    have q2 : w13.cell? ⟨br, 2, none⟩ = some (.string v3) := (blk_cell BR.out 2).trans rfl
    have q3 : w13.cell? ⟨br, 3, none⟩ = some (.string v4) := (blk_cell BR.out 3).trans rfl
    have h_ := HH.out
    clear HH
    unfold anyRest at h_
    dsimp only at h_
    by_cases h4 : v1 = 400 ∨ v1 = 404
    · rw [if_pos h4] at h_
      by_cases h5 : v3 = ⟨#[]⟩ ∧ v4 = ⟨#[]⟩
      rotate_left
      · rw [if_neg h5] at h_; cases h_
      rw [if_pos h5] at h_
      obtain rfl := Option.some.inj h_
      obtain ⟨rfl, rfl⟩ := h5
      clear h_
      rcases h4 with rfl | rfl
      · skip
        go_wp2_with fail
        refine (tollgatelaw10_live.calls k true _ HT1.out).mono ?_
        rintro e w13l ⟨rfl, hb⟩
        have m0_ := Aside0.mk (blk_below BA.out hb)
        have m1_ := Aside0.mk (below_step HB.out hb)
        have m2_ := Aside0.mk (blk_below BP.out hb)
        have m3_ := Aside0.mk (blk_below BR.out hb)
        clear BA HB BP BR hb q0 q2 q3
        have BA := m0_
        have HB := m1_
        have BP := m2_
        have BR := m3_
        clear m0_ m1_ m2_ m3_
        have q2 : w13l.cell? ⟨br, 2, none⟩ = some (.string ⟨#[]⟩) := (blk_cell BR.out 2).trans rfl
        have q3 : w13l.cell? ⟨br, 3, none⟩ = some (.string ⟨#[]⟩) := (blk_cell BR.out 3).trans rfl
        go_wp2
        go_ret
        exact ⟨rfl, HB.out⟩
      · skip
        go_wp2_with fail
        refine (tollgatelaw10_live.calls k true _ HT1.out).mono ?_
        rintro e w13l ⟨rfl, hb⟩
        have m0_ := Aside0.mk (blk_below BA.out hb)
        have m1_ := Aside0.mk (below_step HB.out hb)
        have m2_ := Aside0.mk (blk_below BP.out hb)
        have m3_ := Aside0.mk (blk_below BR.out hb)
        clear BA HB BP BR hb q0 q2 q3
        have BA := m0_
        have HB := m1_
        have BP := m2_
        have BR := m3_
        clear m0_ m1_ m2_ m3_
        have q2 : w13l.cell? ⟨br, 2, none⟩ = some (.string ⟨#[]⟩) := (blk_cell BR.out 2).trans rfl
        have q3 : w13l.cell? ⟨br, 3, none⟩ = some (.string ⟨#[]⟩) := (blk_cell BR.out 3).trans rfl
        go_wp2
        go_ret
        exact ⟨rfl, HB.out⟩
    rw [if_neg h4] at h_
    have d4 : (v1 == 400) = false := by simp; omega
    have d5 : (v1 == 404) = false := by simp; omega
    by_cases h6 : v1 = 503
    · rw [if_pos h6] at h_
      rw [if_pos rfl] at h_
      by_cases h5 : v4 = ⟨#[]⟩
      rotate_left
      · rw [if_neg h5] at h_; cases h_
      rw [if_pos h5] at h_
      obtain rfl := Option.some.inj h_
      subst h5 h6
      clear h_ h4 d4 d5
      go_wp2_with fail
      refine (tollgatelaw10_live.calls k true _ HT1.out).mono ?_
      rintro e w13l ⟨rfl, hb⟩
      have m0_ := Aside0.mk (blk_below BA.out hb)
      have m1_ := Aside0.mk (below_step HB.out hb)
      have m2_ := Aside0.mk (blk_below BP.out hb)
      have m3_ := Aside0.mk (blk_below BR.out hb)
      clear BA HB BP BR hb q0 q2 q3
      have BA := m0_
      have HB := m1_
      have BP := m2_
      have BR := m3_
      clear m0_ m1_ m2_ m3_
      have q3 : w13l.cell? ⟨br, 3, none⟩ = some (.string ⟨#[]⟩) := (blk_cell BR.out 3).trans rfl
      go_wp2
      go_ret
      exact ⟨rfl, HB.out⟩
    rw [if_neg h6] at h_
    rw [if_pos rfl] at h_
    by_cases h7 : v1 = 200 ∧ fndP a2 v3 v4 = true
    rotate_left
    · rw [if_neg h7] at h_; cases h_
    rw [if_pos h7] at h_
    obtain rfl := Option.some.inj h_
    obtain ⟨rfl, hfnd⟩ := h7
    clear h_ h4 h6 d4 d5
    have HF := Aside0.mk hfnd
    clear hfnd
    have hpos : 0 < a2.length := by
      rcases a2 with _ | ⟨x, a2⟩
      · exact absurd HF.out (by simp [fndP])
      · simp
    obtain ⟨ad, hA, _⟩ := HR2.out.2.2 hpos
    subst hA
    clear hpos
    have hZ2 := z2
    go_wp2
    clear q0 q2 q3
    go_loopg [10, 11] (a2.length + 1) (fun n v10 v11 wr => ∃ (i : Nat) (F : Bool), v10 = .bool F ∧ v11 = .int .i64 (i : Int) ∧ Aside0 (i + n = a2.length + 1 ∧ i ≤ a2.length) ∧ Aside0 (fndP (a2.take i) v3 v4 = F) ∧ Aside0 (wr.heap[ba]? = some (.cells #[.int .i64 a0, .slice A01 a1.length c01, .slice (some ad) a2.length c02] 55 (0, 0))) ∧ Aside0 (wr.heap[br]? = some (.cells #[.int .i64 200, .int .i64 a0, .string v3, .string v4] 62 (0, 0))) ∧ Aside0 (Below w.heap.size w wr))
    case atStart => exact ⟨0, false, rfl, rfl, ⟨by omega, by omega⟩, ⟨rfl⟩, ⟨BA.out⟩, ⟨BR.out⟩, ⟨HB.out⟩⟩
    case round =>
      clear BA BR HB BP
      obtain ⟨i, F, rfl, rfl, HN, HI, BA, BR, HB⟩ := hrel
      rcases Nat.lt_or_ge i a2.length with hi | hi
      · have e1 : decide ((i : Int) < (a2.length : Int)) = true := decide_eq_true (by omega)
        have q2 : wr.cell? ⟨ba, 2, none⟩ = some (.slice (some ad) a2.length c02) := (blk_cell BA.out 2).trans rfl
        obtain ⟨ad_, TA, tc, hAd, x0, x1, htc, hC⟩ := at_T67 (Kd.C_below HR2.out HB.out) (i : Int) (by omega) (by omega)
        obtain rfl := Option.some.inj hAd
        clear hAd
        simp only [Int.toNat_natCast] at x0 x1
        have X0 := Aside0.mk x0
        have X1 := Aside0.mk x1
        have XC := Aside0.mk hC
        have XT := Aside0.mk htc
        clear x0 x1 hC htc
        have HX := Aside0.mk (show a2[i]? = some (rd_T67 a2 (i : Int)) from idx_rd a2 i hi)
        generalize hp_ : rd_T67 a2 (i : Int) = pl at X0 X1 XC XT HX
        clear hp_
        have hpl := Z3.out pl (List.mem_of_getElem? HX.out)
        go_wp2
        clear q2
        go_loopg [10, 12] (pl.f1.length + 1) (fun n v10 v12 wz => ∃ (j : Nat) (G : Bool), v10 = .bool G ∧ v12 = .int .i64 (j : Int) ∧ Aside0 (j + n = pl.f1.length + 1 ∧ j ≤ pl.f1.length) ∧ Aside0 ((F || fndT pl (pl.f1.take j) v3 v4) = G) ∧ Aside0 (wz.heap[ba]? = some (.cells #[.int .i64 a0, .slice A01 a1.length c01, .slice (some ad) a2.length c02] 55 (0, 0))) ∧ Aside0 (wz.heap[br]? = some (.cells #[.int .i64 200, .int .i64 a0, .string v3, .string v4] 62 (0, 0))) ∧ Aside0 (Below w.heap.size w wz) ∧ Aside0 (wz.cell? (ad.add (i * 2)) = some (.string pl.f0)) ∧ Aside0 (wz.cell? ⟨(ad.add (i * 2)).block, (ad.add (i * 2)).off + 1, none⟩ = some (.slice TA pl.f1.length tc)) ∧ Aside0 (Kd.C k69 wz TA pl.f1.length pl.f1))
        case atStart => exact ⟨0, F, rfl, rfl, ⟨by omega, by omega⟩, ⟨by simp [fndT]⟩, ⟨BA.out⟩, ⟨BR.out⟩, ⟨HB.out⟩, ⟨X0.out⟩, ⟨X1.out⟩, ⟨XC.out⟩⟩
        case round =>
          clear BA BR HB X0 X1 XC
          obtain ⟨j, G, rfl, rfl, HM, HJ, BA, BR, HB, X0, X1, XC⟩ := hrel
          rcases Nat.lt_or_ge j pl.f1.length with hj | hj
          · have e2 : decide ((j : Int) < (pl.f1.length : Int)) = true := decide_eq_true (by omega)
            have q2 : wr.cell? ⟨ba, 2, none⟩ = some (.slice (some ad) a2.length c02) := (blk_cell BA.out 2).trans rfl
            have x0 := X0.out
            have x1 := X1.out
            obtain ⟨ta, hTA, y0, _⟩ := at_T69 XC.out (j : Int) (by omega) (by omega)
            simp only [Int.toNat_natCast] at y0
            have Y0 := Aside0.mk y0
            clear y0
            have HY := Aside0.mk (show pl.f1[j]? = some (rd_T69 pl.f1 (j : Int)) from idx_rdT pl.f1 j hj)
            generalize ht_ : rd_T69 pl.f1 (j : Int) = tg at Y0 HY
            clear ht_
            subst hTA
            have y0 := Y0.out
            have p2 : wr.cell? ⟨br, 2, none⟩ = some (.string v3) := (blk_cell BR.out 2).trans rfl
            have p3 : wr.cell? ⟨br, 3, none⟩ = some (.string v4) := (blk_cell BR.out 3).trans rfl
            have hG : (G || (pl.f0.toList == v3.toList && tg.f0.toList == v4.toList)) = (F || fndT pl (pl.f1.take (j + 1)) v3 v4) := by rw [← HJ.out, fndT_step HY.out, Bool.or_assoc]
            have HG := Aside0.mk hG
            clear hG
            have hj9 : j < 2000 := by omega
            cases G
            · cases e3 : (pl.f0.toList == v3.toList)
              · rw [e3] at HG
                go_wp2
                refine start_ (n := 28) (S := fun w' => w'.cell? ⟨ba, 2, none⟩ = some (.slice (some ad) a2.length c02) ∧ w'.cell? (ad.add (i * 2)) = some (.string pl.f0) ∧ w'.cell? ⟨(ad.add (i * 2)).block, (ad.add (i * 2)).off + 1, none⟩ = some (.slice (some ta) pl.f1.length tc) ∧ w'.cell? (ta.add (j * 2)) = some (.string tg.f0) ∧ w'.cell? ⟨br, 2, none⟩ = some (.string v3) ∧ w'.cell? ⟨br, 3, none⟩ = some (.string v4)) (ds := []) #[false, false, false, false, false, false, false, false, false, false, false, false, false, false, false, false, false, false, false, false, false, false, false, false, false, false, false, false] (by kernel_rfl) rfl rfl ⟨q2, x0, x1, y0, p2, p3⟩ (fun hHeld => ?_)
                refine with_tab (T := any_T21) any_T21_is (fun HT_ => ?_)
                clear q2 x0 x1 y0 p2 p3
                refine pure_ (i := 0) (N := some 100) (v := ?_) (a' := ?_) #[true, false, false, false, false, false, false, false, false, false, false, false, false, false, false, false, false, false, false, false, false, false, false, false, false, false, false, false] rfl rfl (any_of HT_.out (by kernel_rfl)) (fun _ _ _ h => h) (Or.inl ⟨by rfl, ?_⟩) ?_ ?_
                rotate_left
                · intro w'
                  go_simp
                  with_reducible rfl
                rotate_left
                · simp only [Act.put, List.setIfInBounds_toArray, List.set_cons_zero, List.set_cons_succ, i64_w, i32_w]
                  rfl
                refine pure_ (i := 1) (N := some 101) (v := ?_) (a' := ?_) #[true, true, false, false, false, false, false, false, false, false, false, false, false, false, false, false, false, false, false, false, false, false, false, false, false, false, false, false] rfl rfl (any_of HT_.out (by kernel_rfl)) (fun _ _ _ h => h) (Or.inl ⟨by rfl, ?_⟩) ?_ ?_
                rotate_left
                · intro w'
                  go_simp
                  with_reducible rfl
                rotate_left
                · simp only [Act.put, List.setIfInBounds_toArray, List.set_cons_zero, List.set_cons_succ, i64_w, i32_w]
                  rfl
                refine pure_ (i := 2) (N := some 102) (v := ?_) (a' := ?_) #[true, true, true, false, false, false, false, false, false, false, false, false, false, false, false, false, false, false, false, false, false, false, false, false, false, false, false, false] rfl rfl (any_of HT_.out (by kernel_rfl)) (fun _ _ _ h => h) (Or.inl ⟨by rfl, ?_⟩) ?_ ?_
                rotate_left
                · intro w'
                  go_simp
                  with_reducible rfl
                rotate_left
                · simp only [Act.put, List.setIfInBounds_toArray, List.set_cons_zero, List.set_cons_succ, i64_w, i32_w]
                  rfl
                refine take_ (i := 3) (N := some 103) (v := ?_) (a' := ?_) #[true, true, true, true, false, false, false, false, false, false, false, false, false, false, false, false, false, false, false, false, false, false, false, false, false, false, false, false] rfl rfl (take_of HT_.out (by kernel_rfl)) (fun _ _ _ h => h) (Or.inl ⟨by rfl, ?_⟩) hHeld ?_ ?_
                rotate_left
                · rintro w' ⟨s0, s1, s2, s3, s4, s5⟩
                  go_simp
                  with_reducible rfl
                rotate_left
                · simp only [Act.put, List.setIfInBounds_toArray, List.set_cons_zero, List.set_cons_succ, i64_w, i32_w]
                  rfl
                refine pure_ (i := 4) (N := some 104) (v := ?_) (a' := ?_) #[true, true, true, true, true, false, false, false, false, false, false, false, false, false, false, false, false, false, false, false, false, false, false, false, false, false, false, false] rfl rfl (any_of HT_.out (by kernel_rfl)) (fun _ _ _ h => h) (Or.inl ⟨by rfl, ?_⟩) ?_ ?_
                rotate_left
                · intro w'
                  go_simp
                  with_reducible rfl
                rotate_left
                · simp only [Act.put, List.setIfInBounds_toArray, List.set_cons_zero, List.set_cons_succ, i64_w, i32_w]
                  rfl
                refine pure_ (i := 5) (N := some 105) (v := ?_) (a' := ?_) #[true, true, true, true, true, true, false, false, false, false, false, false, false, false, false, false, false, false, false, false, false, false, false, false, false, false, false, false] rfl rfl (any_of HT_.out (by kernel_rfl)) (fun _ _ _ h => h) (Or.inl ⟨by rfl, ?_⟩) ?_ ?_
                rotate_left
                · intro w'
                  go_simp
                  with_reducible rfl
                rotate_left
                · simp only [Act.put, List.setIfInBounds_toArray, List.set_cons_zero, List.set_cons_succ, i64_w, i32_w]
                  rfl
                refine pure_ (i := 6) (N := some 106) (v := ?_) (a' := ?_) #[true, true, true, true, true, true, true, false, false, false, false, false, false, false, false, false, false, false, false, false, false, false, false, false, false, false, false, false] rfl rfl (any_of HT_.out (by kernel_rfl)) (fun _ _ _ h => h) (Or.inl ⟨by rfl, ?_⟩) ?_ ?_
                rotate_left
                · intro w'
                  go_simp
                  with_reducible rfl
                rotate_left
                · simp only [Act.put, List.setIfInBounds_toArray, List.set_cons_zero, List.set_cons_succ, i64_w, i32_w]
                  rfl
                refine take_ (i := 7) (N := some 107) (v := ?_) (a' := ?_) #[true, true, true, true, true, true, true, true, false, false, false, false, false, false, false, false, false, false, false, false, false, false, false, false, false, false, false, false] rfl rfl (take_of HT_.out (by kernel_rfl)) (fun _ _ _ h => h) (Or.inl ⟨by rfl, ?_⟩) hHeld ?_ ?_
                rotate_left
                · rintro w' ⟨s0, s1, s2, s3, s4, s5⟩
                  go_simp
                  with_reducible rfl
                rotate_left
                · simp only [Act.put, List.setIfInBounds_toArray, List.set_cons_zero, List.set_cons_succ, i64_w, i32_w]
                  rfl
                refine pure_ (i := 8) (N := some 108) (v := ?_) (a' := ?_) #[true, true, true, true, true, true, true, true, true, false, false, false, false, false, false, false, false, false, false, false, false, false, false, false, false, false, false, false] rfl rfl (any_of HT_.out (by kernel_rfl)) (fun _ _ _ h => h) (Or.inl ⟨by rfl, ?_⟩) ?_ ?_
                rotate_left
                · intro w'
                  go_simp
                  with_reducible rfl
                rotate_left
                · simp only [Act.put, List.setIfInBounds_toArray, List.set_cons_zero, List.set_cons_succ, i64_w, i32_w]
                  rfl
                refine take_ (i := 9) (N := some 109) (v := ?_) (a' := ?_) #[true, true, true, true, true, true, true, true, true, true, false, false, false, false, false, false, false, false, false, false, false, false, false, false, false, false, false, false] rfl rfl (take_of HT_.out (by kernel_rfl)) (fun _ _ _ h => h) (Or.inl ⟨by rfl, ?_⟩) hHeld ?_ ?_
                rotate_left
                · rintro w' ⟨s0, s1, s2, s3, s4, s5⟩
                  go_simp
                  with_reducible rfl
                rotate_left
                · simp only [Act.put, List.setIfInBounds_toArray, List.set_cons_zero, List.set_cons_succ, i64_w, i32_w]
                  rfl
                refine pure_ (i := 10) (N := some 110) (v := ?_) (a' := ?_) #[true, true, true, true, true, true, true, true, true, true, true, false, false, false, false, false, false, false, false, false, false, false, false, false, false, false, false, false] rfl rfl (any_of HT_.out (by kernel_rfl)) (fun _ _ _ h => h) (Or.inl ⟨by rfl, ?_⟩) ?_ ?_
                rotate_left
                · intro w'
                  go_simp
                  with_reducible rfl
                rotate_left
                · simp only [Act.put, List.setIfInBounds_toArray, List.set_cons_zero, List.set_cons_succ, i64_w, i32_w]
                  rfl
                refine pure_ (i := 11) (N := some 111) (v := ?_) (a' := ?_) #[true, true, true, true, true, true, true, true, true, true, true, true, false, false, false, false, false, false, false, false, false, false, false, false, false, false, false, false] rfl rfl (any_of HT_.out (by kernel_rfl)) (fun _ _ _ h => h) (Or.inl ⟨by rfl, ?_⟩) ?_ ?_
                rotate_left
                · intro w'
                  go_simp
                  with_reducible rfl
                rotate_left
                · simp only [Act.put, List.setIfInBounds_toArray, List.set_cons_zero, List.set_cons_succ, i64_w, i32_w]
                  rfl
                refine pure_ (i := 12) (N := some 112) (v := undef) (a' := ?_) #[true, true, true, true, true, true, true, true, true, true, true, true, true, false, false, false, false, false, false, false, false, false, false, false, false, false, false, false] rfl rfl (any_of HT_.out (by kernel_rfl)) (fun _ _ _ h => h) (Or.inr ⟨by rfl, rfl⟩) ?_ ?_
                rotate_left
                · simp only [Act.put, List.setIfInBounds_toArray, List.set_cons_zero, List.set_cons_succ, i64_w, i32_w]
                  rfl
                refine pure_ (i := 13) (N := some 113) (v := undef) (a' := ?_) #[true, true, true, true, true, true, true, true, true, true, true, true, true, true, false, false, false, false, false, false, false, false, false, false, false, false, false, false] rfl rfl (any_of HT_.out (by kernel_rfl)) (fun _ _ _ h => h) (Or.inr ⟨by rfl, rfl⟩) ?_ ?_
                rotate_left
                · simp only [Act.put, List.setIfInBounds_toArray, List.set_cons_zero, List.set_cons_succ, i64_w, i32_w]
                  rfl
                refine pure_ (i := 14) (N := some 114) (v := undef) (a' := ?_) #[true, true, true, true, true, true, true, true, true, true, true, true, true, true, true, false, false, false, false, false, false, false, false, false, false, false, false, false] rfl rfl (any_of HT_.out (by kernel_rfl)) (fun _ _ _ h => h) (Or.inr ⟨by rfl, rfl⟩) ?_ ?_
                rotate_left
                · simp only [Act.put, List.setIfInBounds_toArray, List.set_cons_zero, List.set_cons_succ, i64_w, i32_w]
                  rfl
                refine pure_ (i := 15) (N := some 115) (v := undef) (a' := ?_) #[true, true, true, true, true, true, true, true, true, true, true, true, true, true, true, true, false, false, false, false, false, false, false, false, false, false, false, false] rfl rfl (any_of HT_.out (by kernel_rfl)) (fun _ _ _ h => h) (Or.inr ⟨by rfl, rfl⟩) ?_ ?_
                rotate_left
                · simp only [Act.put, List.setIfInBounds_toArray, List.set_cons_zero, List.set_cons_succ, i64_w, i32_w]
                  rfl
                refine pure_ (i := 16) (N := some 116) (v := undef) (a' := ?_) #[true, true, true, true, true, true, true, true, true, true, true, true, true, true, true, true, true, false, false, false, false, false, false, false, false, false, false, false] rfl rfl (any_of HT_.out (by kernel_rfl)) (fun _ _ _ h => h) (Or.inr ⟨by rfl, rfl⟩) ?_ ?_
                rotate_left
                · simp only [Act.put, List.setIfInBounds_toArray, List.set_cons_zero, List.set_cons_succ, i64_w, i32_w]
                  rfl
                refine pure_ (i := 17) (N := some 117) (v := undef) (a' := ?_) #[true, true, true, true, true, true, true, true, true, true, true, true, true, true, true, true, true, true, false, false, false, false, false, false, false, false, false, false] rfl rfl (any_of HT_.out (by kernel_rfl)) (fun _ _ _ h => h) (Or.inr ⟨by rfl, rfl⟩) ?_ ?_
                rotate_left
                · simp only [Act.put, List.setIfInBounds_toArray, List.set_cons_zero, List.set_cons_succ, i64_w, i32_w]
                  rfl
                refine pure_ (i := 18) (N := some 118) (v := undef) (a' := ?_) #[true, true, true, true, true, true, true, true, true, true, true, true, true, true, true, true, true, true, true, false, false, false, false, false, false, false, false, false] rfl rfl (any_of HT_.out (by kernel_rfl)) (fun _ _ _ h => h) (Or.inr ⟨by rfl, rfl⟩) ?_ ?_
                rotate_left
                · simp only [Act.put, List.setIfInBounds_toArray, List.set_cons_zero, List.set_cons_succ, i64_w, i32_w]
                  rfl
                refine pure_ (i := 19) (N := some 119) (v := undef) (a' := ?_) #[true, true, true, true, true, true, true, true, true, true, true, true, true, true, true, true, true, true, true, true, false, false, false, false, false, false, false, false] rfl rfl (any_of HT_.out (by kernel_rfl)) (fun _ _ _ h => h) (Or.inr ⟨by rfl, rfl⟩) ?_ ?_
                rotate_left
                · simp only [Act.put, List.setIfInBounds_toArray, List.set_cons_zero, List.set_cons_succ, i64_w, i32_w]
                  rfl
                refine pure_ (i := 20) (N := some 120) (v := undef) (a' := ?_) #[true, true, true, true, true, true, true, true, true, true, true, true, true, true, true, true, true, true, true, true, true, false, false, false, false, false, false, false] rfl rfl (any_of HT_.out (by kernel_rfl)) (fun _ _ _ h => h) (Or.inr ⟨by rfl, rfl⟩) ?_ ?_
                rotate_left
                · simp only [Act.put, List.setIfInBounds_toArray, List.set_cons_zero, List.set_cons_succ, i64_w, i32_w]
                  rfl
                refine pure_ (i := 21) (N := some 121) (v := undef) (a' := ?_) #[true, true, true, true, true, true, true, true, true, true, true, true, true, true, true, true, true, true, true, true, true, true, false, false, false, false, false, false] rfl rfl (any_of HT_.out (by kernel_rfl)) (fun _ _ _ h => h) (Or.inr ⟨by rfl, rfl⟩) ?_ ?_
                rotate_left
                · simp only [Act.put, List.setIfInBounds_toArray, List.set_cons_zero, List.set_cons_succ, i64_w, i32_w]
                  rfl
                refine pure_ (i := 22) (N := some 122) (v := undef) (a' := ?_) #[true, true, true, true, true, true, true, true, true, true, true, true, true, true, true, true, true, true, true, true, true, true, true, false, false, false, false, false] rfl rfl (any_of HT_.out (by kernel_rfl)) (fun _ _ _ h => h) (Or.inr ⟨by rfl, rfl⟩) ?_ ?_
                rotate_left
                · simp only [Act.put, List.setIfInBounds_toArray, List.set_cons_zero, List.set_cons_succ, i64_w, i32_w]
                  rfl
                refine pure_ (i := 23) (N := some 123) (v := undef) (a' := ?_) #[true, true, true, true, true, true, true, true, true, true, true, true, true, true, true, true, true, true, true, true, true, true, true, true, false, false, false, false] rfl rfl (any_of HT_.out (by kernel_rfl)) (fun _ _ _ h => h) (Or.inr ⟨by rfl, rfl⟩) ?_ ?_
                rotate_left
                · simp only [Act.put, List.setIfInBounds_toArray, List.set_cons_zero, List.set_cons_succ, i64_w, i32_w]
                  rfl
                refine pure_ (i := 24) (N := some 124) (v := undef) (a' := ?_) #[true, true, true, true, true, true, true, true, true, true, true, true, true, true, true, true, true, true, true, true, true, true, true, true, true, false, false, false] rfl rfl (any_of HT_.out (by kernel_rfl)) (fun _ _ _ h => h) (Or.inr ⟨by rfl, rfl⟩) ?_ ?_
                rotate_left
                · simp only [Act.put, List.setIfInBounds_toArray, List.set_cons_zero, List.set_cons_succ, i64_w, i32_w]
                  rfl
                refine pure_ (i := 25) (N := some 125) (v := ?_) (a' := ?_) #[true, true, true, true, true, true, true, true, true, true, true, true, true, true, true, true, true, true, true, true, true, true, true, true, true, true, false, false] rfl rfl (any_of HT_.out (by kernel_rfl)) (fun _ _ _ h => h) (Or.inl ⟨by rfl, ?_⟩) ?_ ?_
                rotate_left
                · intro w'
                  go_simp
                  with_reducible rfl
                rotate_left
                · simp only [Act.put, List.setIfInBounds_toArray, List.set_cons_zero, List.set_cons_succ, i64_w, i32_w]
                  rfl
                refine pure_ (i := 26) (N := some 126) (v := ?_) (a' := ?_) #[true, true, true, true, true, true, true, true, true, true, true, true, true, true, true, true, true, true, true, true, true, true, true, true, true, true, true, false] rfl rfl (any_of HT_.out (by kernel_rfl)) (fun _ _ _ h => h) (Or.inl ⟨by rfl, ?_⟩) ?_ ?_
                rotate_left
                · intro w'
                  go_simp
                  with_reducible rfl
                rotate_left
                · simp only [Act.put, List.setIfInBounds_toArray, List.set_cons_zero, List.set_cons_succ, i64_w, i32_w]
                  rfl
                refine pure_ (i := 27) (N := some 10) (v := ?_) (a' := ?_) #[true, true, true, true, true, true, true, true, true, true, true, true, true, true, true, true, true, true, true, true, true, true, true, true, true, true, true, true] rfl rfl (any_of HT_.out (by kernel_rfl)) (fun _ _ _ h => h) (Or.inl ⟨by rfl, ?_⟩) ?_ ?_
                rotate_left
                · intro w'
                  go_simp
                  with_reducible rfl
                rotate_left
                · simp only [Act.put, List.setIfInBounds_toArray, List.set_cons_zero, List.set_cons_succ, i64_w, i32_w]
                  rfl
                refine done_ (done_of HT_.out (by kernel_rfl)) ?_
                clear HT_
                clear hHeld
                go_wp2
                go_roundg (pl.f1.length - j)
                case measure => have := HM.out; omega
                case rel => exact ⟨j + 1, _, rfl, by first | rfl | (simp; done) | (simp [*]; done), ⟨by have := HM.out; omega⟩, ⟨HG.out.symm⟩, ⟨BA.out⟩, ⟨BR.out⟩, ⟨below_drew1 HB.out⟩, ⟨X0.out⟩, ⟨X1.out⟩, ⟨XC.out⟩⟩
              · rw [e3] at HG
                cases e4 : (tg.f0.toList == v4.toList)
                · rw [e4] at HG
                  go_wp2
                  refine start_ (n := 28) (S := fun w' => w'.cell? ⟨ba, 2, none⟩ = some (.slice (some ad) a2.length c02) ∧ w'.cell? (ad.add (i * 2)) = some (.string pl.f0) ∧ w'.cell? ⟨(ad.add (i * 2)).block, (ad.add (i * 2)).off + 1, none⟩ = some (.slice (some ta) pl.f1.length tc) ∧ w'.cell? (ta.add (j * 2)) = some (.string tg.f0) ∧ w'.cell? ⟨br, 2, none⟩ = some (.string v3) ∧ w'.cell? ⟨br, 3, none⟩ = some (.string v4)) (ds := []) #[false, false, false, false, false, false, false, false, false, false, false, false, false, false, false, false, false, false, false, false, false, false, false, false, false, false, false, false] (by kernel_rfl) rfl rfl ⟨q2, x0, x1, y0, p2, p3⟩ (fun hHeld => ?_)
                  refine with_tab (T := any_T21) any_T21_is (fun HT_ => ?_)
                  clear q2 x0 x1 y0 p2 p3
                  refine pure_ (i := 0) (N := some 100) (v := ?_) (a' := ?_) #[true, false, false, false, false, false, false, false, false, false, false, false, false, false, false, false, false, false, false, false, false, false, false, false, false, false, false, false] rfl rfl (any_of HT_.out (by kernel_rfl)) (fun _ _ _ h => h) (Or.inl ⟨by rfl, ?_⟩) ?_ ?_
                  rotate_left
                  · intro w'
                    go_simp
                    with_reducible rfl
                  rotate_left
                  · simp only [Act.put, List.setIfInBounds_toArray, List.set_cons_zero, List.set_cons_succ, i64_w, i32_w]
                    rfl
                  refine pure_ (i := 1) (N := some 101) (v := ?_) (a' := ?_) #[true, true, false, false, false, false, false, false, false, false, false, false, false, false, false, false, false, false, false, false, false, false, false, false, false, false, false, false] rfl rfl (any_of HT_.out (by kernel_rfl)) (fun _ _ _ h => h) (Or.inl ⟨by rfl, ?_⟩) ?_ ?_
                  rotate_left
                  · intro w'
                    go_simp
                    with_reducible rfl
                  rotate_left
                  · simp only [Act.put, List.setIfInBounds_toArray, List.set_cons_zero, List.set_cons_succ, i64_w, i32_w]
                    rfl
                  refine pure_ (i := 2) (N := some 102) (v := ?_) (a' := ?_) #[true, true, true, false, false, false, false, false, false, false, false, false, false, false, false, false, false, false, false, false, false, false, false, false, false, false, false, false] rfl rfl (any_of HT_.out (by kernel_rfl)) (fun _ _ _ h => h) (Or.inl ⟨by rfl, ?_⟩) ?_ ?_
                  rotate_left
                  · intro w'
                    go_simp
                    with_reducible rfl
                  rotate_left
                  · simp only [Act.put, List.setIfInBounds_toArray, List.set_cons_zero, List.set_cons_succ, i64_w, i32_w]
                    rfl
                  refine take_ (i := 3) (N := some 103) (v := ?_) (a' := ?_) #[true, true, true, true, false, false, false, false, false, false, false, false, false, false, false, false, false, false, false, false, false, false, false, false, false, false, false, false] rfl rfl (take_of HT_.out (by kernel_rfl)) (fun _ _ _ h => h) (Or.inl ⟨by rfl, ?_⟩) hHeld ?_ ?_
                  rotate_left
                  · rintro w' ⟨s0, s1, s2, s3, s4, s5⟩
                    go_simp
                    with_reducible rfl
                  rotate_left
                  · simp only [Act.put, List.setIfInBounds_toArray, List.set_cons_zero, List.set_cons_succ, i64_w, i32_w]
                    rfl
                  refine pure_ (i := 4) (N := some 104) (v := ?_) (a' := ?_) #[true, true, true, true, true, false, false, false, false, false, false, false, false, false, false, false, false, false, false, false, false, false, false, false, false, false, false, false] rfl rfl (any_of HT_.out (by kernel_rfl)) (fun _ _ _ h => h) (Or.inl ⟨by rfl, ?_⟩) ?_ ?_
                  rotate_left
                  · intro w'
                    go_simp
                    with_reducible rfl
                  rotate_left
                  · simp only [Act.put, List.setIfInBounds_toArray, List.set_cons_zero, List.set_cons_succ, i64_w, i32_w]
                    rfl
                  refine pure_ (i := 5) (N := some 105) (v := ?_) (a' := ?_) #[true, true, true, true, true, true, false, false, false, false, false, false, false, false, false, false, false, false, false, false, false, false, false, false, false, false, false, false] rfl rfl (any_of HT_.out (by kernel_rfl)) (fun _ _ _ h => h) (Or.inl ⟨by rfl, ?_⟩) ?_ ?_
                  rotate_left
                  · intro w'
                    go_simp
                    with_reducible rfl
                  rotate_left
                  · simp only [Act.put, List.setIfInBounds_toArray, List.set_cons_zero, List.set_cons_succ, i64_w, i32_w]
                    rfl
                  refine pure_ (i := 6) (N := some 106) (v := ?_) (a' := ?_) #[true, true, true, true, true, true, true, false, false, false, false, false, false, false, false, false, false, false, false, false, false, false, false, false, false, false, false, false] rfl rfl (any_of HT_.out (by kernel_rfl)) (fun _ _ _ h => h) (Or.inl ⟨by rfl, ?_⟩) ?_ ?_
                  rotate_left
                  · intro w'
                    go_simp
                    with_reducible rfl
                  rotate_left
                  · simp only [Act.put, List.setIfInBounds_toArray, List.set_cons_zero, List.set_cons_succ, i64_w, i32_w]
                    rfl
                  refine take_ (i := 7) (N := some 107) (v := ?_) (a' := ?_) #[true, true, true, true, true, true, true, true, false, false, false, false, false, false, false, false, false, false, false, false, false, false, false, false, false, false, false, false] rfl rfl (take_of HT_.out (by kernel_rfl)) (fun _ _ _ h => h) (Or.inl ⟨by rfl, ?_⟩) hHeld ?_ ?_
                  rotate_left
                  · rintro w' ⟨s0, s1, s2, s3, s4, s5⟩
                    go_simp
                    with_reducible rfl
                  rotate_left
                  · simp only [Act.put, List.setIfInBounds_toArray, List.set_cons_zero, List.set_cons_succ, i64_w, i32_w]
                    rfl
                  refine pure_ (i := 8) (N := some 108) (v := ?_) (a' := ?_) #[true, true, true, true, true, true, true, true, true, false, false, false, false, false, false, false, false, false, false, false, false, false, false, false, false, false, false, false] rfl rfl (any_of HT_.out (by kernel_rfl)) (fun _ _ _ h => h) (Or.inl ⟨by rfl, ?_⟩) ?_ ?_
                  rotate_left
                  · intro w'
                    go_simp
                    with_reducible rfl
                  rotate_left
                  · simp only [Act.put, List.setIfInBounds_toArray, List.set_cons_zero, List.set_cons_succ, i64_w, i32_w]
                    rfl
                  refine take_ (i := 9) (N := some 109) (v := ?_) (a' := ?_) #[true, true, true, true, true, true, true, true, true, true, false, false, false, false, false, false, false, false, false, false, false, false, false, false, false, false, false, false] rfl rfl (take_of HT_.out (by kernel_rfl)) (fun _ _ _ h => h) (Or.inl ⟨by rfl, ?_⟩) hHeld ?_ ?_
                  rotate_left
                  · rintro w' ⟨s0, s1, s2, s3, s4, s5⟩
                    go_simp
                    with_reducible rfl
                  rotate_left
                  · simp only [Act.put, List.setIfInBounds_toArray, List.set_cons_zero, List.set_cons_succ, i64_w, i32_w]
                    rfl
                  refine pure_ (i := 10) (N := some 110) (v := ?_) (a' := ?_) #[true, true, true, true, true, true, true, true, true, true, true, false, false, false, false, false, false, false, false, false, false, false, false, false, false, false, false, false] rfl rfl (any_of HT_.out (by kernel_rfl)) (fun _ _ _ h => h) (Or.inl ⟨by rfl, ?_⟩) ?_ ?_
                  rotate_left
                  · intro w'
                    go_simp
                    with_reducible rfl
                  rotate_left
                  · simp only [Act.put, List.setIfInBounds_toArray, List.set_cons_zero, List.set_cons_succ, i64_w, i32_w]
                    rfl
                  refine pure_ (i := 11) (N := some 111) (v := ?_) (a' := ?_) #[true, true, true, true, true, true, true, true, true, true, true, true, false, false, false, false, false, false, false, false, false, false, false, false, false, false, false, false] rfl rfl (any_of HT_.out (by kernel_rfl)) (fun _ _ _ h => h) (Or.inl ⟨by rfl, ?_⟩) ?_ ?_
                  rotate_left
                  · intro w'
                    go_simp
                    with_reducible rfl
                  rotate_left
                  · simp only [Act.put, List.setIfInBounds_toArray, List.set_cons_zero, List.set_cons_succ, i64_w, i32_w]
                    rfl
                  refine pure_ (i := 12) (N := some 112) (v := ?_) (a' := ?_) #[true, true, true, true, true, true, true, true, true, true, true, true, true, false, false, false, false, false, false, false, false, false, false, false, false, false, false, false] rfl rfl (any_of HT_.out (by kernel_rfl)) (fun _ _ _ h => h) (Or.inl ⟨by rfl, ?_⟩) ?_ ?_
                  rotate_left
                  · intro w'
                    go_simp
                    with_reducible rfl
                  rotate_left
                  · simp only [Act.put, List.setIfInBounds_toArray, List.set_cons_zero, List.set_cons_succ, i64_w, i32_w]
                    rfl
                  refine take_ (i := 13) (N := some 113) (v := ?_) (a' := ?_) #[true, true, true, true, true, true, true, true, true, true, true, true, true, true, false, false, false, false, false, false, false, false, false, false, false, false, false, false] rfl rfl (take_of HT_.out (by kernel_rfl)) (fun _ _ _ h => h) (Or.inl ⟨by rfl, ?_⟩) hHeld ?_ ?_
                  rotate_left
                  · rintro w' ⟨s0, s1, s2, s3, s4, s5⟩
                    go_simp
                    with_reducible rfl
                  rotate_left
                  · simp only [Act.put, List.setIfInBounds_toArray, List.set_cons_zero, List.set_cons_succ, i64_w, i32_w]
                    rfl
                  refine pure_ (i := 14) (N := some 114) (v := ?_) (a' := ?_) #[true, true, true, true, true, true, true, true, true, true, true, true, true, true, true, false, false, false, false, false, false, false, false, false, false, false, false, false] rfl rfl (any_of HT_.out (by kernel_rfl)) (fun _ _ _ h => h) (Or.inl ⟨by rfl, ?_⟩) ?_ ?_
                  rotate_left
                  · intro w'
                    go_simp
                    with_reducible rfl
                  rotate_left
                  · simp only [Act.put, List.setIfInBounds_toArray, List.set_cons_zero, List.set_cons_succ, i64_w, i32_w]
                    rfl
                  refine pure_ (i := 15) (N := some 115) (v := ?_) (a' := ?_) #[true, true, true, true, true, true, true, true, true, true, true, true, true, true, true, true, false, false, false, false, false, false, false, false, false, false, false, false] rfl rfl (any_of HT_.out (by kernel_rfl)) (fun _ _ _ h => h) (Or.inl ⟨by rfl, ?_⟩) ?_ ?_
                  rotate_left
                  · intro w'
                    go_simp
                    with_reducible rfl
                  rotate_left
                  · simp only [Act.put, List.setIfInBounds_toArray, List.set_cons_zero, List.set_cons_succ, i64_w, i32_w]
                    rfl
                  refine pure_ (i := 16) (N := some 116) (v := ?_) (a' := ?_) #[true, true, true, true, true, true, true, true, true, true, true, true, true, true, true, true, true, false, false, false, false, false, false, false, false, false, false, false] rfl rfl (any_of HT_.out (by kernel_rfl)) (fun _ _ _ h => h) (Or.inl ⟨by rfl, ?_⟩) ?_ ?_
                  rotate_left
                  · intro w'
                    go_simp
                    with_reducible rfl
                  rotate_left
                  · simp only [Act.put, List.setIfInBounds_toArray, List.set_cons_zero, List.set_cons_succ, i64_w, i32_w]
                    rfl
                  refine take_ (i := 17) (N := some 117) (v := ?_) (a' := ?_) #[true, true, true, true, true, true, true, true, true, true, true, true, true, true, true, true, true, true, false, false, false, false, false, false, false, false, false, false] rfl rfl (take_of HT_.out (by kernel_rfl)) (fun _ _ _ h => h) (Or.inl ⟨by rfl, ?_⟩) hHeld ?_ ?_
                  rotate_left
                  · rintro w' ⟨s0, s1, s2, s3, s4, s5⟩
                    go_simp
                    with_reducible rfl
                  rotate_left
                  · simp only [Act.put, List.setIfInBounds_toArray, List.set_cons_zero, List.set_cons_succ, i64_w, i32_w]
                    rfl
                  refine pure_ (i := 18) (N := some 118) (v := ?_) (a' := ?_) #[true, true, true, true, true, true, true, true, true, true, true, true, true, true, true, true, true, true, true, false, false, false, false, false, false, false, false, false] rfl rfl (any_of HT_.out (by kernel_rfl)) (fun _ _ _ h => h) (Or.inl ⟨by rfl, ?_⟩) ?_ ?_
                  rotate_left
                  · intro w'
                    go_simp
                    with_reducible rfl
                  rotate_left
                  · simp only [Act.put, List.setIfInBounds_toArray, List.set_cons_zero, List.set_cons_succ, i64_w, i32_w]
                    rfl
                  refine pure_ (i := 19) (N := some 119) (v := ?_) (a' := ?_) #[true, true, true, true, true, true, true, true, true, true, true, true, true, true, true, true, true, true, true, true, false, false, false, false, false, false, false, false] rfl rfl (any_of HT_.out (by kernel_rfl)) (fun _ _ _ h => h) (Or.inl ⟨by rfl, ?_⟩) ?_ ?_
                  rotate_left
                  · intro w'
                    go_simp
                    with_reducible rfl
                  rotate_left
                  · simp only [Act.put, List.setIfInBounds_toArray, List.set_cons_zero, List.set_cons_succ, i64_w, i32_w]
                    rfl
                  refine pure_ (i := 20) (N := some 120) (v := ?_) (a' := ?_) #[true, true, true, true, true, true, true, true, true, true, true, true, true, true, true, true, true, true, true, true, true, false, false, false, false, false, false, false] rfl rfl (any_of HT_.out (by kernel_rfl)) (fun _ _ _ h => h) (Or.inl ⟨by rfl, ?_⟩) ?_ ?_
                  rotate_left
                  · intro w'
                    go_simp
                    with_reducible rfl
                  rotate_left
                  · simp only [Act.put, List.setIfInBounds_toArray, List.set_cons_zero, List.set_cons_succ, i64_w, i32_w]
                    rfl
                  refine take_ (i := 21) (N := some 121) (v := ?_) (a' := ?_) #[true, true, true, true, true, true, true, true, true, true, true, true, true, true, true, true, true, true, true, true, true, true, false, false, false, false, false, false] rfl rfl (take_of HT_.out (by kernel_rfl)) (fun _ _ _ h => h) (Or.inl ⟨by rfl, ?_⟩) hHeld ?_ ?_
                  rotate_left
                  · rintro w' ⟨s0, s1, s2, s3, s4, s5⟩
                    go_simp
                    with_reducible rfl
                  rotate_left
                  · simp only [Act.put, List.setIfInBounds_toArray, List.set_cons_zero, List.set_cons_succ, i64_w, i32_w]
                    rfl
                  refine pure_ (i := 22) (N := some 122) (v := ?_) (a' := ?_) #[true, true, true, true, true, true, true, true, true, true, true, true, true, true, true, true, true, true, true, true, true, true, true, false, false, false, false, false] rfl rfl (any_of HT_.out (by kernel_rfl)) (fun _ _ _ h => h) (Or.inl ⟨by rfl, ?_⟩) ?_ ?_
                  rotate_left
                  · intro w'
                    go_simp
                    with_reducible rfl
                  rotate_left
                  · simp only [Act.put, List.setIfInBounds_toArray, List.set_cons_zero, List.set_cons_succ, i64_w, i32_w]
                    rfl
                  refine take_ (i := 23) (N := some 123) (v := ?_) (a' := ?_) #[true, true, true, true, true, true, true, true, true, true, true, true, true, true, true, true, true, true, true, true, true, true, true, true, false, false, false, false] rfl rfl (take_of HT_.out (by kernel_rfl)) (fun _ _ _ h => h) (Or.inl ⟨by rfl, ?_⟩) hHeld ?_ ?_
                  rotate_left
                  · rintro w' ⟨s0, s1, s2, s3, s4, s5⟩
                    go_simp
                    with_reducible rfl
                  rotate_left
                  · simp only [Act.put, List.setIfInBounds_toArray, List.set_cons_zero, List.set_cons_succ, i64_w, i32_w]
                    rfl
                  refine pure_ (i := 24) (N := some 124) (v := ?_) (a' := ?_) #[true, true, true, true, true, true, true, true, true, true, true, true, true, true, true, true, true, true, true, true, true, true, true, true, true, false, false, false] rfl rfl (any_of HT_.out (by kernel_rfl)) (fun _ _ _ h => h) (Or.inl ⟨by rfl, ?_⟩) ?_ ?_
                  rotate_left
                  · intro w'
                    go_simp
                    with_reducible rfl
                  rotate_left
                  · simp only [Act.put, List.setIfInBounds_toArray, List.set_cons_zero, List.set_cons_succ, i64_w, i32_w]
                    rfl
                  refine pure_ (i := 25) (N := some 125) (v := ?_) (a' := ?_) #[true, true, true, true, true, true, true, true, true, true, true, true, true, true, true, true, true, true, true, true, true, true, true, true, true, true, false, false] rfl rfl (any_of HT_.out (by kernel_rfl)) (fun _ _ _ h => h) (Or.inl ⟨by rfl, ?_⟩) ?_ ?_
                  rotate_left
                  · intro w'
                    go_simp
                    with_reducible rfl
                  rotate_left
                  · simp only [Act.put, List.setIfInBounds_toArray, List.set_cons_zero, List.set_cons_succ, i64_w, i32_w]
                    rfl
                  refine pure_ (i := 26) (N := some 126) (v := ?_) (a' := ?_) #[true, true, true, true, true, true, true, true, true, true, true, true, true, true, true, true, true, true, true, true, true, true, true, true, true, true, true, false] rfl rfl (any_of HT_.out (by kernel_rfl)) (fun _ _ _ h => h) (Or.inl ⟨by rfl, ?_⟩) ?_ ?_
                  rotate_left
                  · intro w'
                    go_simp
                    with_reducible rfl
                  rotate_left
                  · simp only [Act.put, List.setIfInBounds_toArray, List.set_cons_zero, List.set_cons_succ, i64_w, i32_w]
                    rfl
                  refine pure_ (i := 27) (N := some 10) (v := ?_) (a' := ?_) #[true, true, true, true, true, true, true, true, true, true, true, true, true, true, true, true, true, true, true, true, true, true, true, true, true, true, true, true] rfl rfl (any_of HT_.out (by kernel_rfl)) (fun _ _ _ h => h) (Or.inl ⟨by rfl, ?_⟩) ?_ ?_
                  rotate_left
                  · intro w'
                    go_simp
                    with_reducible rfl
                  rotate_left
                  · simp only [Act.put, List.setIfInBounds_toArray, List.set_cons_zero, List.set_cons_succ, i64_w, i32_w]
                    rfl
                  refine done_ (done_of HT_.out (by kernel_rfl)) ?_
                  clear HT_
                  clear hHeld
                  go_wp2
                  go_roundg (pl.f1.length - j)
                  case measure => have := HM.out; omega
                  case rel => exact ⟨j + 1, _, rfl, by first | rfl | (simp; done) | (simp [*]; done), ⟨by have := HM.out; omega⟩, ⟨HG.out.symm⟩, ⟨BA.out⟩, ⟨BR.out⟩, ⟨below_drew1 HB.out⟩, ⟨X0.out⟩, ⟨X1.out⟩, ⟨XC.out⟩⟩
                · rw [e4] at HG
                  go_wp2
                  refine start_ (n := 28) (S := fun w' => w'.cell? ⟨ba, 2, none⟩ = some (.slice (some ad) a2.length c02) ∧ w'.cell? (ad.add (i * 2)) = some (.string pl.f0) ∧ w'.cell? ⟨(ad.add (i * 2)).block, (ad.add (i * 2)).off + 1, none⟩ = some (.slice (some ta) pl.f1.length tc) ∧ w'.cell? (ta.add (j * 2)) = some (.string tg.f0) ∧ w'.cell? ⟨br, 2, none⟩ = some (.string v3) ∧ w'.cell? ⟨br, 3, none⟩ = some (.string v4)) (ds := []) #[false, false, false, false, false, false, false, false, false, false, false, false, false, false, false, false, false, false, false, false, false, false, false, false, false, false, false, false] (by kernel_rfl) rfl rfl ⟨q2, x0, x1, y0, p2, p3⟩ (fun hHeld => ?_)
                  refine with_tab (T := any_T21) any_T21_is (fun HT_ => ?_)
                  clear q2 x0 x1 y0 p2 p3
                  refine pure_ (i := 0) (N := some 100) (v := ?_) (a' := ?_) #[true, false, false, false, false, false, false, false, false, false, false, false, false, false, false, false, false, false, false, false, false, false, false, false, false, false, false, false] rfl rfl (any_of HT_.out (by kernel_rfl)) (fun _ _ _ h => h) (Or.inl ⟨by rfl, ?_⟩) ?_ ?_
                  rotate_left
                  · intro w'
                    go_simp
                    with_reducible rfl
                  rotate_left
                  · simp only [Act.put, List.setIfInBounds_toArray, List.set_cons_zero, List.set_cons_succ, i64_w, i32_w]
                    rfl
                  refine pure_ (i := 1) (N := some 101) (v := ?_) (a' := ?_) #[true, true, false, false, false, false, false, false, false, false, false, false, false, false, false, false, false, false, false, false, false, false, false, false, false, false, false, false] rfl rfl (any_of HT_.out (by kernel_rfl)) (fun _ _ _ h => h) (Or.inl ⟨by rfl, ?_⟩) ?_ ?_
                  rotate_left
                  · intro w'
                    go_simp
                    with_reducible rfl
                  rotate_left
                  · simp only [Act.put, List.setIfInBounds_toArray, List.set_cons_zero, List.set_cons_succ, i64_w, i32_w]
                    rfl
                  refine pure_ (i := 2) (N := some 102) (v := ?_) (a' := ?_) #[true, true, true, false, false, false, false, false, false, false, false, false, false, false, false, false, false, false, false, false, false, false, false, false, false, false, false, false] rfl rfl (any_of HT_.out (by kernel_rfl)) (fun _ _ _ h => h) (Or.inl ⟨by rfl, ?_⟩) ?_ ?_
                  rotate_left
                  · intro w'
                    go_simp
                    with_reducible rfl
                  rotate_left
                  · simp only [Act.put, List.setIfInBounds_toArray, List.set_cons_zero, List.set_cons_succ, i64_w, i32_w]
                    rfl
                  refine take_ (i := 3) (N := some 103) (v := ?_) (a' := ?_) #[true, true, true, true, false, false, false, false, false, false, false, false, false, false, false, false, false, false, false, false, false, false, false, false, false, false, false, false] rfl rfl (take_of HT_.out (by kernel_rfl)) (fun _ _ _ h => h) (Or.inl ⟨by rfl, ?_⟩) hHeld ?_ ?_
                  rotate_left
                  · rintro w' ⟨s0, s1, s2, s3, s4, s5⟩
                    go_simp
                    with_reducible rfl
                  rotate_left
                  · simp only [Act.put, List.setIfInBounds_toArray, List.set_cons_zero, List.set_cons_succ, i64_w, i32_w]
                    rfl
                  refine pure_ (i := 4) (N := some 104) (v := ?_) (a' := ?_) #[true, true, true, true, true, false, false, false, false, false, false, false, false, false, false, false, false, false, false, false, false, false, false, false, false, false, false, false] rfl rfl (any_of HT_.out (by kernel_rfl)) (fun _ _ _ h => h) (Or.inl ⟨by rfl, ?_⟩) ?_ ?_
                  rotate_left
                  · intro w'
                    go_simp
                    with_reducible rfl
                  rotate_left
                  · simp only [Act.put, List.setIfInBounds_toArray, List.set_cons_zero, List.set_cons_succ, i64_w, i32_w]
                    rfl
                  refine pure_ (i := 5) (N := some 105) (v := ?_) (a' := ?_) #[true, true, true, true, true, true, false, false, false, false, false, false, false, false, false, false, false, false, false, false, false, false, false, false, false, false, false, false] rfl rfl (any_of HT_.out (by kernel_rfl)) (fun _ _ _ h => h) (Or.inl ⟨by rfl, ?_⟩) ?_ ?_
                  rotate_left
                  · intro w'
                    go_simp
                    with_reducible rfl
                  rotate_left
                  · simp only [Act.put, List.setIfInBounds_toArray, List.set_cons_zero, List.set_cons_succ, i64_w, i32_w]
                    rfl
                  refine pure_ (i := 6) (N := some 106) (v := ?_) (a' := ?_) #[true, true, true, true, true, true, true, false, false, false, false, false, false, false, false, false, false, false, false, false, false, false, false, false, false, false, false, false] rfl rfl (any_of HT_.out (by kernel_rfl)) (fun _ _ _ h => h) (Or.inl ⟨by rfl, ?_⟩) ?_ ?_
                  rotate_left
                  · intro w'
                    go_simp
                    with_reducible rfl
                  rotate_left
                  · simp only [Act.put, List.setIfInBounds_toArray, List.set_cons_zero, List.set_cons_succ, i64_w, i32_w]
                    rfl
                  refine take_ (i := 7) (N := some 107) (v := ?_) (a' := ?_) #[true, true, true, true, true, true, true, true, false, false, false, false, false, false, false, false, false, false, false, false, false, false, false, false, false, false, false, false] rfl rfl (take_of HT_.out (by kernel_rfl)) (fun _ _ _ h => h) (Or.inl ⟨by rfl, ?_⟩) hHeld ?_ ?_
                  rotate_left
                  · rintro w' ⟨s0, s1, s2, s3, s4, s5⟩
                    go_simp
                    with_reducible rfl
                  rotate_left
                  · simp only [Act.put, List.setIfInBounds_toArray, List.set_cons_zero, List.set_cons_succ, i64_w, i32_w]
                    rfl
                  refine pure_ (i := 8) (N := some 108) (v := ?_) (a' := ?_) #[true, true, true, true, true, true, true, true, true, false, false, false, false, false, false, false, false, false, false, false, false, false, false, false, false, false, false, false] rfl rfl (any_of HT_.out (by kernel_rfl)) (fun _ _ _ h => h) (Or.inl ⟨by rfl, ?_⟩) ?_ ?_
                  rotate_left
                  · intro w'
                    go_simp
                    with_reducible rfl
                  rotate_left
                  · simp only [Act.put, List.setIfInBounds_toArray, List.set_cons_zero, List.set_cons_succ, i64_w, i32_w]
                    rfl
                  refine take_ (i := 9) (N := some 109) (v := ?_) (a' := ?_) #[true, true, true, true, true, true, true, true, true, true, false, false, false, false, false, false, false, false, false, false, false, false, false, false, false, false, false, false] rfl rfl (take_of HT_.out (by kernel_rfl)) (fun _ _ _ h => h) (Or.inl ⟨by rfl, ?_⟩) hHeld ?_ ?_
                  rotate_left
                  · rintro w' ⟨s0, s1, s2, s3, s4, s5⟩
                    go_simp
                    with_reducible rfl
                  rotate_left
                  · simp only [Act.put, List.setIfInBounds_toArray, List.set_cons_zero, List.set_cons_succ, i64_w, i32_w]
                    rfl
                  refine pure_ (i := 10) (N := some 110) (v := ?_) (a' := ?_) #[true, true, true, true, true, true, true, true, true, true, true, false, false, false, false, false, false, false, false, false, false, false, false, false, false, false, false, false] rfl rfl (any_of HT_.out (by kernel_rfl)) (fun _ _ _ h => h) (Or.inl ⟨by rfl, ?_⟩) ?_ ?_
                  rotate_left
                  · intro w'
                    go_simp
                    with_reducible rfl
                  rotate_left
                  · simp only [Act.put, List.setIfInBounds_toArray, List.set_cons_zero, List.set_cons_succ, i64_w, i32_w]
                    rfl
                  refine pure_ (i := 11) (N := some 111) (v := ?_) (a' := ?_) #[true, true, true, true, true, true, true, true, true, true, true, true, false, false, false, false, false, false, false, false, false, false, false, false, false, false, false, false] rfl rfl (any_of HT_.out (by kernel_rfl)) (fun _ _ _ h => h) (Or.inl ⟨by rfl, ?_⟩) ?_ ?_
                  rotate_left
                  · intro w'
                    go_simp
                    with_reducible rfl
                  rotate_left
                  · simp only [Act.put, List.setIfInBounds_toArray, List.set_cons_zero, List.set_cons_succ, i64_w, i32_w]
                    rfl
                  refine pure_ (i := 12) (N := some 112) (v := ?_) (a' := ?_) #[true, true, true, true, true, true, true, true, true, true, true, true, true, false, false, false, false, false, false, false, false, false, false, false, false, false, false, false] rfl rfl (any_of HT_.out (by kernel_rfl)) (fun _ _ _ h => h) (Or.inl ⟨by rfl, ?_⟩) ?_ ?_
                  rotate_left
                  · intro w'
                    go_simp
                    with_reducible rfl
                  rotate_left
                  · simp only [Act.put, List.setIfInBounds_toArray, List.set_cons_zero, List.set_cons_succ, i64_w, i32_w]
                    rfl
                  refine take_ (i := 13) (N := some 113) (v := ?_) (a' := ?_) #[true, true, true, true, true, true, true, true, true, true, true, true, true, true, false, false, false, false, false, false, false, false, false, false, false, false, false, false] rfl rfl (take_of HT_.out (by kernel_rfl)) (fun _ _ _ h => h) (Or.inl ⟨by rfl, ?_⟩) hHeld ?_ ?_
                  rotate_left
                  · rintro w' ⟨s0, s1, s2, s3, s4, s5⟩
                    go_simp
                    with_reducible rfl
                  rotate_left
                  · simp only [Act.put, List.setIfInBounds_toArray, List.set_cons_zero, List.set_cons_succ, i64_w, i32_w]
                    rfl
                  refine pure_ (i := 14) (N := some 114) (v := ?_) (a' := ?_) #[true, true, true, true, true, true, true, true, true, true, true, true, true, true, true, false, false, false, false, false, false, false, false, false, false, false, false, false] rfl rfl (any_of HT_.out (by kernel_rfl)) (fun _ _ _ h => h) (Or.inl ⟨by rfl, ?_⟩) ?_ ?_
                  rotate_left
                  · intro w'
                    go_simp
                    with_reducible rfl
                  rotate_left
                  · simp only [Act.put, List.setIfInBounds_toArray, List.set_cons_zero, List.set_cons_succ, i64_w, i32_w]
                    rfl
                  refine pure_ (i := 15) (N := some 115) (v := ?_) (a' := ?_) #[true, true, true, true, true, true, true, true, true, true, true, true, true, true, true, true, false, false, false, false, false, false, false, false, false, false, false, false] rfl rfl (any_of HT_.out (by kernel_rfl)) (fun _ _ _ h => h) (Or.inl ⟨by rfl, ?_⟩) ?_ ?_
                  rotate_left
                  · intro w'
                    go_simp
                    with_reducible rfl
                  rotate_left
                  · simp only [Act.put, List.setIfInBounds_toArray, List.set_cons_zero, List.set_cons_succ, i64_w, i32_w]
                    rfl
                  refine pure_ (i := 16) (N := some 116) (v := ?_) (a' := ?_) #[true, true, true, true, true, true, true, true, true, true, true, true, true, true, true, true, true, false, false, false, false, false, false, false, false, false, false, false] rfl rfl (any_of HT_.out (by kernel_rfl)) (fun _ _ _ h => h) (Or.inl ⟨by rfl, ?_⟩) ?_ ?_
                  rotate_left
                  · intro w'
                    go_simp
                    with_reducible rfl
                  rotate_left
                  · simp only [Act.put, List.setIfInBounds_toArray, List.set_cons_zero, List.set_cons_succ, i64_w, i32_w]
                    rfl
                  refine take_ (i := 17) (N := some 117) (v := ?_) (a' := ?_) #[true, true, true, true, true, true, true, true, true, true, true, true, true, true, true, true, true, true, false, false, false, false, false, false, false, false, false, false] rfl rfl (take_of HT_.out (by kernel_rfl)) (fun _ _ _ h => h) (Or.inl ⟨by rfl, ?_⟩) hHeld ?_ ?_
                  rotate_left
                  · rintro w' ⟨s0, s1, s2, s3, s4, s5⟩
                    go_simp
                    with_reducible rfl
                  rotate_left
                  · simp only [Act.put, List.setIfInBounds_toArray, List.set_cons_zero, List.set_cons_succ, i64_w, i32_w]
                    rfl
                  refine pure_ (i := 18) (N := some 118) (v := ?_) (a' := ?_) #[true, true, true, true, true, true, true, true, true, true, true, true, true, true, true, true, true, true, true, false, false, false, false, false, false, false, false, false] rfl rfl (any_of HT_.out (by kernel_rfl)) (fun _ _ _ h => h) (Or.inl ⟨by rfl, ?_⟩) ?_ ?_
                  rotate_left
                  · intro w'
                    go_simp
                    with_reducible rfl
                  rotate_left
                  · simp only [Act.put, List.setIfInBounds_toArray, List.set_cons_zero, List.set_cons_succ, i64_w, i32_w]
                    rfl
                  refine pure_ (i := 19) (N := some 119) (v := ?_) (a' := ?_) #[true, true, true, true, true, true, true, true, true, true, true, true, true, true, true, true, true, true, true, true, false, false, false, false, false, false, false, false] rfl rfl (any_of HT_.out (by kernel_rfl)) (fun _ _ _ h => h) (Or.inl ⟨by rfl, ?_⟩) ?_ ?_
                  rotate_left
                  · intro w'
                    go_simp
                    with_reducible rfl
                  rotate_left
                  · simp only [Act.put, List.setIfInBounds_toArray, List.set_cons_zero, List.set_cons_succ, i64_w, i32_w]
                    rfl
                  refine pure_ (i := 20) (N := some 120) (v := ?_) (a' := ?_) #[true, true, true, true, true, true, true, true, true, true, true, true, true, true, true, true, true, true, true, true, true, false, false, false, false, false, false, false] rfl rfl (any_of HT_.out (by kernel_rfl)) (fun _ _ _ h => h) (Or.inl ⟨by rfl, ?_⟩) ?_ ?_
                  rotate_left
                  · intro w'
                    go_simp
                    with_reducible rfl
                  rotate_left
                  · simp only [Act.put, List.setIfInBounds_toArray, List.set_cons_zero, List.set_cons_succ, i64_w, i32_w]
                    rfl
                  refine take_ (i := 21) (N := some 121) (v := ?_) (a' := ?_) #[true, true, true, true, true, true, true, true, true, true, true, true, true, true, true, true, true, true, true, true, true, true, false, false, false, false, false, false] rfl rfl (take_of HT_.out (by kernel_rfl)) (fun _ _ _ h => h) (Or.inl ⟨by rfl, ?_⟩) hHeld ?_ ?_
                  rotate_left
                  · rintro w' ⟨s0, s1, s2, s3, s4, s5⟩
                    go_simp
                    with_reducible rfl
                  rotate_left
                  · simp only [Act.put, List.setIfInBounds_toArray, List.set_cons_zero, List.set_cons_succ, i64_w, i32_w]
                    rfl
                  refine pure_ (i := 22) (N := some 122) (v := ?_) (a' := ?_) #[true, true, true, true, true, true, true, true, true, true, true, true, true, true, true, true, true, true, true, true, true, true, true, false, false, false, false, false] rfl rfl (any_of HT_.out (by kernel_rfl)) (fun _ _ _ h => h) (Or.inl ⟨by rfl, ?_⟩) ?_ ?_
                  rotate_left
                  · intro w'
                    go_simp
                    with_reducible rfl
                  rotate_left
                  · simp only [Act.put, List.setIfInBounds_toArray, List.set_cons_zero, List.set_cons_succ, i64_w, i32_w]
                    rfl
                  refine take_ (i := 23) (N := some 123) (v := ?_) (a' := ?_) #[true, true, true, true, true, true, true, true, true, true, true, true, true, true, true, true, true, true, true, true, true, true, true, true, false, false, false, false] rfl rfl (take_of HT_.out (by kernel_rfl)) (fun _ _ _ h => h) (Or.inl ⟨by rfl, ?_⟩) hHeld ?_ ?_
                  rotate_left
                  · rintro w' ⟨s0, s1, s2, s3, s4, s5⟩
                    go_simp
                    with_reducible rfl
                  rotate_left
                  · simp only [Act.put, List.setIfInBounds_toArray, List.set_cons_zero, List.set_cons_succ, i64_w, i32_w]
                    rfl
                  refine pure_ (i := 24) (N := some 124) (v := ?_) (a' := ?_) #[true, true, true, true, true, true, true, true, true, true, true, true, true, true, true, true, true, true, true, true, true, true, true, true, true, false, false, false] rfl rfl (any_of HT_.out (by kernel_rfl)) (fun _ _ _ h => h) (Or.inl ⟨by rfl, ?_⟩) ?_ ?_
                  rotate_left
                  · intro w'
                    go_simp
                    with_reducible rfl
                  rotate_left
                  · simp only [Act.put, List.setIfInBounds_toArray, List.set_cons_zero, List.set_cons_succ, i64_w, i32_w]
                    rfl
                  refine pure_ (i := 25) (N := some 125) (v := ?_) (a' := ?_) #[true, true, true, true, true, true, true, true, true, true, true, true, true, true, true, true, true, true, true, true, true, true, true, true, true, true, false, false] rfl rfl (any_of HT_.out (by kernel_rfl)) (fun _ _ _ h => h) (Or.inl ⟨by rfl, ?_⟩) ?_ ?_
                  rotate_left
                  · intro w'
                    go_simp
                    with_reducible rfl
                  rotate_left
                  · simp only [Act.put, List.setIfInBounds_toArray, List.set_cons_zero, List.set_cons_succ, i64_w, i32_w]
                    rfl
                  refine pure_ (i := 26) (N := some 126) (v := ?_) (a' := ?_) #[true, true, true, true, true, true, true, true, true, true, true, true, true, true, true, true, true, true, true, true, true, true, true, true, true, true, true, false] rfl rfl (any_of HT_.out (by kernel_rfl)) (fun _ _ _ h => h) (Or.inl ⟨by rfl, ?_⟩) ?_ ?_
                  rotate_left
                  · intro w'
                    go_simp
                    with_reducible rfl
                  rotate_left
                  · simp only [Act.put, List.setIfInBounds_toArray, List.set_cons_zero, List.set_cons_succ, i64_w, i32_w]
                    rfl
                  refine pure_ (i := 27) (N := some 10) (v := ?_) (a' := ?_) #[true, true, true, true, true, true, true, true, true, true, true, true, true, true, true, true, true, true, true, true, true, true, true, true, true, true, true, true] rfl rfl (any_of HT_.out (by kernel_rfl)) (fun _ _ _ h => h) (Or.inl ⟨by rfl, ?_⟩) ?_ ?_
                  rotate_left
                  · intro w'
                    go_simp
                    with_reducible rfl
                  rotate_left
                  · simp only [Act.put, List.setIfInBounds_toArray, List.set_cons_zero, List.set_cons_succ, i64_w, i32_w]
                    rfl
                  refine done_ (done_of HT_.out (by kernel_rfl)) ?_
                  clear HT_
                  clear hHeld
                  go_wp2
                  go_roundg (pl.f1.length - j)
                  case measure => have := HM.out; omega
                  case rel => exact ⟨j + 1, _, rfl, by first | rfl | (simp; done) | (simp [*]; done), ⟨by have := HM.out; omega⟩, ⟨HG.out.symm⟩, ⟨BA.out⟩, ⟨BR.out⟩, ⟨below_drew1 HB.out⟩, ⟨X0.out⟩, ⟨X1.out⟩, ⟨XC.out⟩⟩
            · skip
              go_wp2
              refine start_ (n := 28) (S := fun w' => w'.cell? ⟨ba, 2, none⟩ = some (.slice (some ad) a2.length c02) ∧ w'.cell? (ad.add (i * 2)) = some (.string pl.f0) ∧ w'.cell? ⟨(ad.add (i * 2)).block, (ad.add (i * 2)).off + 1, none⟩ = some (.slice (some ta) pl.f1.length tc) ∧ w'.cell? (ta.add (j * 2)) = some (.string tg.f0) ∧ w'.cell? ⟨br, 2, none⟩ = some (.string v3) ∧ w'.cell? ⟨br, 3, none⟩ = some (.string v4)) (ds := []) #[false, false, false, false, false, false, false, false, false, false, false, false, false, false, false, false, false, false, false, false, false, false, false, false, false, false, false, false] (by kernel_rfl) rfl rfl ⟨q2, x0, x1, y0, p2, p3⟩ (fun hHeld => ?_)
              refine with_tab (T := any_T21) any_T21_is (fun HT_ => ?_)
              clear q2 x0 x1 y0 p2 p3
              refine pure_ (i := 0) (N := some 100) (v := ?_) (a' := ?_) #[true, false, false, false, false, false, false, false, false, false, false, false, false, false, false, false, false, false, false, false, false, false, false, false, false, false, false, false] rfl rfl (any_of HT_.out (by kernel_rfl)) (fun _ _ _ h => h) (Or.inl ⟨by rfl, ?_⟩) ?_ ?_
              rotate_left
              · intro w'
                go_simp
                with_reducible rfl
              rotate_left
              · simp only [Act.put, List.setIfInBounds_toArray, List.set_cons_zero, List.set_cons_succ, i64_w, i32_w]
                rfl
              refine pure_ (i := 1) (N := some 101) (v := ?_) (a' := ?_) #[true, true, false, false, false, false, false, false, false, false, false, false, false, false, false, false, false, false, false, false, false, false, false, false, false, false, false, false] rfl rfl (any_of HT_.out (by kernel_rfl)) (fun _ _ _ h => h) (Or.inl ⟨by rfl, ?_⟩) ?_ ?_
              rotate_left
              · intro w'
                go_simp
                with_reducible rfl
              rotate_left
              · simp only [Act.put, List.setIfInBounds_toArray, List.set_cons_zero, List.set_cons_succ, i64_w, i32_w]
                rfl
              refine pure_ (i := 2) (N := some 102) (v := undef) (a' := ?_) #[true, true, true, false, false, false, false, false, false, false, false, false, false, false, false, false, false, false, false, false, false, false, false, false, false, false, false, false] rfl rfl (any_of HT_.out (by kernel_rfl)) (fun _ _ _ h => h) (Or.inr ⟨by rfl, rfl⟩) ?_ ?_
              rotate_left
              · simp only [Act.put, List.setIfInBounds_toArray, List.set_cons_zero, List.set_cons_succ, i64_w, i32_w]
                rfl
              refine pure_ (i := 3) (N := some 103) (v := undef) (a' := ?_) #[true, true, true, true, false, false, false, false, false, false, false, false, false, false, false, false, false, false, false, false, false, false, false, false, false, false, false, false] rfl rfl (any_of HT_.out (by kernel_rfl)) (fun _ _ _ h => h) (Or.inr ⟨by rfl, rfl⟩) ?_ ?_
              rotate_left
              · simp only [Act.put, List.setIfInBounds_toArray, List.set_cons_zero, List.set_cons_succ, i64_w, i32_w]
                rfl
              refine pure_ (i := 4) (N := some 104) (v := undef) (a' := ?_) #[true, true, true, true, true, false, false, false, false, false, false, false, false, false, false, false, false, false, false, false, false, false, false, false, false, false, false, false] rfl rfl (any_of HT_.out (by kernel_rfl)) (fun _ _ _ h => h) (Or.inr ⟨by rfl, rfl⟩) ?_ ?_
              rotate_left
              · simp only [Act.put, List.setIfInBounds_toArray, List.set_cons_zero, List.set_cons_succ, i64_w, i32_w]
                rfl
              refine pure_ (i := 5) (N := some 105) (v := undef) (a' := ?_) #[true, true, true, true, true, true, false, false, false, false, false, false, false, false, false, false, false, false, false, false, false, false, false, false, false, false, false, false] rfl rfl (any_of HT_.out (by kernel_rfl)) (fun _ _ _ h => h) (Or.inr ⟨by rfl, rfl⟩) ?_ ?_
              rotate_left
              · simp only [Act.put, List.setIfInBounds_toArray, List.set_cons_zero, List.set_cons_succ, i64_w, i32_w]
                rfl
              refine pure_ (i := 6) (N := some 106) (v := undef) (a' := ?_) #[true, true, true, true, true, true, true, false, false, false, false, false, false, false, false, false, false, false, false, false, false, false, false, false, false, false, false, false] rfl rfl (any_of HT_.out (by kernel_rfl)) (fun _ _ _ h => h) (Or.inr ⟨by rfl, rfl⟩) ?_ ?_
              rotate_left
              · simp only [Act.put, List.setIfInBounds_toArray, List.set_cons_zero, List.set_cons_succ, i64_w, i32_w]
                rfl
              refine pure_ (i := 7) (N := some 107) (v := undef) (a' := ?_) #[true, true, true, true, true, true, true, true, false, false, false, false, false, false, false, false, false, false, false, false, false, false, false, false, false, false, false, false] rfl rfl (any_of HT_.out (by kernel_rfl)) (fun _ _ _ h => h) (Or.inr ⟨by rfl, rfl⟩) ?_ ?_
              rotate_left
              · simp only [Act.put, List.setIfInBounds_toArray, List.set_cons_zero, List.set_cons_succ, i64_w, i32_w]
                rfl
              refine pure_ (i := 8) (N := some 108) (v := undef) (a' := ?_) #[true, true, true, true, true, true, true, true, true, false, false, false, false, false, false, false, false, false, false, false, false, false, false, false, false, false, false, false] rfl rfl (any_of HT_.out (by kernel_rfl)) (fun _ _ _ h => h) (Or.inr ⟨by rfl, rfl⟩) ?_ ?_
              rotate_left
              · simp only [Act.put, List.setIfInBounds_toArray, List.set_cons_zero, List.set_cons_succ, i64_w, i32_w]
                rfl
              refine pure_ (i := 9) (N := some 109) (v := undef) (a' := ?_) #[true, true, true, true, true, true, true, true, true, true, false, false, false, false, false, false, false, false, false, false, false, false, false, false, false, false, false, false] rfl rfl (any_of HT_.out (by kernel_rfl)) (fun _ _ _ h => h) (Or.inr ⟨by rfl, rfl⟩) ?_ ?_
              rotate_left
              · simp only [Act.put, List.setIfInBounds_toArray, List.set_cons_zero, List.set_cons_succ, i64_w, i32_w]
                rfl
              refine pure_ (i := 10) (N := some 110) (v := undef) (a' := ?_) #[true, true, true, true, true, true, true, true, true, true, true, false, false, false, false, false, false, false, false, false, false, false, false, false, false, false, false, false] rfl rfl (any_of HT_.out (by kernel_rfl)) (fun _ _ _ h => h) (Or.inr ⟨by rfl, rfl⟩) ?_ ?_
              rotate_left
              · simp only [Act.put, List.setIfInBounds_toArray, List.set_cons_zero, List.set_cons_succ, i64_w, i32_w]
                rfl
              refine pure_ (i := 11) (N := some 111) (v := undef) (a' := ?_) #[true, true, true, true, true, true, true, true, true, true, true, true, false, false, false, false, false, false, false, false, false, false, false, false, false, false, false, false] rfl rfl (any_of HT_.out (by kernel_rfl)) (fun _ _ _ h => h) (Or.inr ⟨by rfl, rfl⟩) ?_ ?_
              rotate_left
              · simp only [Act.put, List.setIfInBounds_toArray, List.set_cons_zero, List.set_cons_succ, i64_w, i32_w]
                rfl
              refine pure_ (i := 12) (N := some 112) (v := undef) (a' := ?_) #[true, true, true, true, true, true, true, true, true, true, true, true, true, false, false, false, false, false, false, false, false, false, false, false, false, false, false, false] rfl rfl (any_of HT_.out (by kernel_rfl)) (fun _ _ _ h => h) (Or.inr ⟨by rfl, rfl⟩) ?_ ?_
              rotate_left
              · simp only [Act.put, List.setIfInBounds_toArray, List.set_cons_zero, List.set_cons_succ, i64_w, i32_w]
                rfl
              refine pure_ (i := 13) (N := some 113) (v := undef) (a' := ?_) #[true, true, true, true, true, true, true, true, true, true, true, true, true, true, false, false, false, false, false, false, false, false, false, false, false, false, false, false] rfl rfl (any_of HT_.out (by kernel_rfl)) (fun _ _ _ h => h) (Or.inr ⟨by rfl, rfl⟩) ?_ ?_
              rotate_left
              · simp only [Act.put, List.setIfInBounds_toArray, List.set_cons_zero, List.set_cons_succ, i64_w, i32_w]
                rfl
              refine pure_ (i := 14) (N := some 114) (v := undef) (a' := ?_) #[true, true, true, true, true, true, true, true, true, true, true, true, true, true, true, false, false, false, false, false, false, false, false, false, false, false, false, false] rfl rfl (any_of HT_.out (by kernel_rfl)) (fun _ _ _ h => h) (Or.inr ⟨by rfl, rfl⟩) ?_ ?_
              rotate_left
              · simp only [Act.put, List.setIfInBounds_toArray, List.set_cons_zero, List.set_cons_succ, i64_w, i32_w]
                rfl
              refine pure_ (i := 15) (N := some 115) (v := undef) (a' := ?_) #[true, true, true, true, true, true, true, true, true, true, true, true, true, true, true, true, false, false, false, false, false, false, false, false, false, false, false, false] rfl rfl (any_of HT_.out (by kernel_rfl)) (fun _ _ _ h => h) (Or.inr ⟨by rfl, rfl⟩) ?_ ?_
              rotate_left
              · simp only [Act.put, List.setIfInBounds_toArray, List.set_cons_zero, List.set_cons_succ, i64_w, i32_w]
                rfl
              refine pure_ (i := 16) (N := some 116) (v := undef) (a' := ?_) #[true, true, true, true, true, true, true, true, true, true, true, true, true, true, true, true, true, false, false, false, false, false, false, false, false, false, false, false] rfl rfl (any_of HT_.out (by kernel_rfl)) (fun _ _ _ h => h) (Or.inr ⟨by rfl, rfl⟩) ?_ ?_
              rotate_left
              · simp only [Act.put, List.setIfInBounds_toArray, List.set_cons_zero, List.set_cons_succ, i64_w, i32_w]
                rfl
              refine pure_ (i := 17) (N := some 117) (v := undef) (a' := ?_) #[true, true, true, true, true, true, true, true, true, true, true, true, true, true, true, true, true, true, false, false, false, false, false, false, false, false, false, false] rfl rfl (any_of HT_.out (by kernel_rfl)) (fun _ _ _ h => h) (Or.inr ⟨by rfl, rfl⟩) ?_ ?_
              rotate_left
              · simp only [Act.put, List.setIfInBounds_toArray, List.set_cons_zero, List.set_cons_succ, i64_w, i32_w]
                rfl
              refine pure_ (i := 18) (N := some 118) (v := undef) (a' := ?_) #[true, true, true, true, true, true, true, true, true, true, true, true, true, true, true, true, true, true, true, false, false, false, false, false, false, false, false, false] rfl rfl (any_of HT_.out (by kernel_rfl)) (fun _ _ _ h => h) (Or.inr ⟨by rfl, rfl⟩) ?_ ?_
              rotate_left
              · simp only [Act.put, List.setIfInBounds_toArray, List.set_cons_zero, List.set_cons_succ, i64_w, i32_w]
                rfl
              refine pure_ (i := 19) (N := some 119) (v := undef) (a' := ?_) #[true, true, true, true, true, true, true, true, true, true, true, true, true, true, true, true, true, true, true, true, false, false, false, false, false, false, false, false] rfl rfl (any_of HT_.out (by kernel_rfl)) (fun _ _ _ h => h) (Or.inr ⟨by rfl, rfl⟩) ?_ ?_
              rotate_left
              · simp only [Act.put, List.setIfInBounds_toArray, List.set_cons_zero, List.set_cons_succ, i64_w, i32_w]
                rfl
              refine pure_ (i := 20) (N := some 120) (v := undef) (a' := ?_) #[true, true, true, true, true, true, true, true, true, true, true, true, true, true, true, true, true, true, true, true, true, false, false, false, false, false, false, false] rfl rfl (any_of HT_.out (by kernel_rfl)) (fun _ _ _ h => h) (Or.inr ⟨by rfl, rfl⟩) ?_ ?_
              rotate_left
              · simp only [Act.put, List.setIfInBounds_toArray, List.set_cons_zero, List.set_cons_succ, i64_w, i32_w]
                rfl
              refine pure_ (i := 21) (N := some 121) (v := undef) (a' := ?_) #[true, true, true, true, true, true, true, true, true, true, true, true, true, true, true, true, true, true, true, true, true, true, false, false, false, false, false, false] rfl rfl (any_of HT_.out (by kernel_rfl)) (fun _ _ _ h => h) (Or.inr ⟨by rfl, rfl⟩) ?_ ?_
              rotate_left
              · simp only [Act.put, List.setIfInBounds_toArray, List.set_cons_zero, List.set_cons_succ, i64_w, i32_w]
                rfl
              refine pure_ (i := 22) (N := some 122) (v := undef) (a' := ?_) #[true, true, true, true, true, true, true, true, true, true, true, true, true, true, true, true, true, true, true, true, true, true, true, false, false, false, false, false] rfl rfl (any_of HT_.out (by kernel_rfl)) (fun _ _ _ h => h) (Or.inr ⟨by rfl, rfl⟩) ?_ ?_
              rotate_left
              · simp only [Act.put, List.setIfInBounds_toArray, List.set_cons_zero, List.set_cons_succ, i64_w, i32_w]
                rfl
              refine pure_ (i := 23) (N := some 123) (v := undef) (a' := ?_) #[true, true, true, true, true, true, true, true, true, true, true, true, true, true, true, true, true, true, true, true, true, true, true, true, false, false, false, false] rfl rfl (any_of HT_.out (by kernel_rfl)) (fun _ _ _ h => h) (Or.inr ⟨by rfl, rfl⟩) ?_ ?_
              rotate_left
              · simp only [Act.put, List.setIfInBounds_toArray, List.set_cons_zero, List.set_cons_succ, i64_w, i32_w]
                rfl
              refine pure_ (i := 24) (N := some 124) (v := undef) (a' := ?_) #[true, true, true, true, true, true, true, true, true, true, true, true, true, true, true, true, true, true, true, true, true, true, true, true, true, false, false, false] rfl rfl (any_of HT_.out (by kernel_rfl)) (fun _ _ _ h => h) (Or.inr ⟨by rfl, rfl⟩) ?_ ?_
              rotate_left
              · simp only [Act.put, List.setIfInBounds_toArray, List.set_cons_zero, List.set_cons_succ, i64_w, i32_w]
                rfl
              refine pure_ (i := 25) (N := some 125) (v := undef) (a' := ?_) #[true, true, true, true, true, true, true, true, true, true, true, true, true, true, true, true, true, true, true, true, true, true, true, true, true, true, false, false] rfl rfl (any_of HT_.out (by kernel_rfl)) (fun _ _ _ h => h) (Or.inr ⟨by rfl, rfl⟩) ?_ ?_
              rotate_left
              · simp only [Act.put, List.setIfInBounds_toArray, List.set_cons_zero, List.set_cons_succ, i64_w, i32_w]
                rfl
              refine pure_ (i := 26) (N := some 126) (v := ?_) (a' := ?_) #[true, true, true, true, true, true, true, true, true, true, true, true, true, true, true, true, true, true, true, true, true, true, true, true, true, true, true, false] rfl rfl (any_of HT_.out (by kernel_rfl)) (fun _ _ _ h => h) (Or.inl ⟨by rfl, ?_⟩) ?_ ?_
              rotate_left
              · intro w'
                go_simp
                with_reducible rfl
              rotate_left
              · simp only [Act.put, List.setIfInBounds_toArray, List.set_cons_zero, List.set_cons_succ, i64_w, i32_w]
                rfl
              refine pure_ (i := 27) (N := some 10) (v := ?_) (a' := ?_) #[true, true, true, true, true, true, true, true, true, true, true, true, true, true, true, true, true, true, true, true, true, true, true, true, true, true, true, true] rfl rfl (any_of HT_.out (by kernel_rfl)) (fun _ _ _ h => h) (Or.inl ⟨by rfl, ?_⟩) ?_ ?_
              rotate_left
              · intro w'
                go_simp
                with_reducible rfl
              rotate_left
              · simp only [Act.put, List.setIfInBounds_toArray, List.set_cons_zero, List.set_cons_succ, i64_w, i32_w]
                rfl
              refine done_ (done_of HT_.out (by kernel_rfl)) ?_
              clear HT_
              clear hHeld
              go_wp2
              go_roundg (pl.f1.length - j)
              case measure => have := HM.out; omega
              case rel => exact ⟨j + 1, _, rfl, by first | rfl | (simp; done) | (simp [*]; done), ⟨by have := HM.out; omega⟩, ⟨HG.out.symm⟩, ⟨BA.out⟩, ⟨BR.out⟩, ⟨below_drew1 HB.out⟩, ⟨X0.out⟩, ⟨X1.out⟩, ⟨XC.out⟩⟩
          · have e2 : decide ((j : Int) < (pl.f1.length : Int)) = false := decide_eq_false (by omega)
            have q2 : wr.cell? ⟨ba, 2, none⟩ = some (.slice (some ad) a2.length c02) := (blk_cell BA.out 2).trans rfl
            have x0 := X0.out
            have x1 := X1.out
            have hG : fndP (a2.take (i + 1)) v3 v4 = G := by rw [fndP_step HX.out, HI.out, ← HJ.out, List.take_of_length_le hj]
            have HG := Aside0.mk hG
            clear hG
            have hi9 : i < 2000 := by omega
            go_wp2
            go_roundg (a2.length - i)
            case measure => have := HN.out; omega
            case rel => exact ⟨i + 1, _, rfl, by first | rfl | (simp; done) | (simp [*]; done), ⟨by have := HN.out; omega⟩, ⟨HG.out⟩, ⟨BA.out⟩, ⟨BR.out⟩, ⟨HB.out⟩⟩
      · have e1 : decide ((i : Int) < (a2.length : Int)) = false := decide_eq_false (by omega)
        have q2 : wr.cell? ⟨ba, 2, none⟩ = some (.slice (some ad) a2.length c02) := (blk_cell BA.out 2).trans rfl
        have hF : F = true := by have h_ := HI.out; rw [List.take_of_length_le hi] at h_; exact h_.symm.trans HF.out
        subst hF
        go_wp2_with fail
        refine (tollgatelaw10_live.calls k true _ HT1.out).mono ?_
        rintro e wrl ⟨rfl, hb⟩
        have m0_ := Aside0.mk (blk_below BR.out hb)
        have m1_ := Aside0.mk (below_step HB.out hb)
        clear BR HB hb q2
        have BR := m0_
        have HB := m1_
        clear m0_ m1_
        have q0 : wrl.cell? ⟨br, 0, none⟩ = some (.int .i64 200) := (blk_cell BR.out 0).trans rfl
        go_wp2
        go_ret
        exact ⟨rfl, HB.out⟩
  · skip
    have h_ := HH.out
    rw [if_neg ha0] at h_
    obtain ⟨⟨v1, v2, v3, v4⟩, hv, h_⟩ := Option.bind_eq_some_iff.1 h_
    have HV := Aside0.mk hv
    clear HH hv
    have HH := Aside0.mk h_
    clear h_
    refine (apply_stale (plane_empty HP0.out) a0 _ _ rfl rfl (by omega)).mono ?_
    rintro e w6 ⟨rfl, hb⟩
    have m0_ := Aside0.mk (blk_below BA.out hb)
    have m1_ := Aside0.mk (below_step HB.out hb)
    have m2_ := Aside0.mk (blk_below HP0.out hb)
    clear BA HB HP0 hb q0 q1 q2
    have BA := m0_
    have HB := m1_
    have HP0 := m2_
    clear m0_ m1_ m2_
    have PL := Aside0.mk (plane_empty HP0.out)
    clear HP0
    have HA0 := Aside0.mk ha0
    clear ha0
    go_wp2_with fail
    refine (plane_Serve.calls k PL.out (ML.keep HML.out HB.out) A1 c1 l d (Kd.C_below HR5.out HB.out) hc1 HV.out).mono ?_
    rintro e w7 ⟨rfl, hb⟩
    obtain ⟨pB1, pd1, pB2, pd2, hp_, _⟩ := PL.out
    have BP := Aside0.mk hp_
    clear hp_ PL
    have m0_ := Aside0.mk (blk_below BA.out hb)
    have m1_ := Aside0.mk (below_step HB.out hb)
    have m2_ := Aside0.mk (blk_below BP.out hb)
    clear BA HB BP hb
    have BA := m0_
    have HB := m1_
    have BP := m2_
    clear m0_ m1_ m2_
    go_wp2
    have GR := Aside0.mk (show w.heap.size ≤ w7.heap.size ∧ ba ≠ w7.heap.size ∧ gp ≠ w7.heap.size from ⟨below_size HB.out, Nat.ne_of_lt (blk_lt BA.out), Nat.ne_of_lt (blk_lt BP.out)⟩)
    have mBR_ : Aside0 ((w7.alloc (.cells #[.int .i64 v1, .int .i64 v2, .string v3, .string v4] 62 (0, 0))).heap[w7.heap.size]? = some (.cells #[.int .i64 v1, .int .i64 v2, .string v3, .string v4] 62 (0, 0))) := ⟨blk_new _ _⟩
    have mBA_ := Aside0.mk (blk_alloc BA.out (.cells #[.int .i64 v1, .int .i64 v2, .string v3, .string v4] 62 (0, 0)))
    have mBP_ := Aside0.mk (blk_alloc BP.out (.cells #[.int .i64 v1, .int .i64 v2, .string v3, .string v4] 62 (0, 0)))
    have mHB_ := Aside0.mk (below_alloc (o := (.cells #[.int .i64 v1, .int .i64 v2, .string v3, .string v4] 62 (0, 0))) HB.out)
    clear BA BP HB
    have BR := mBR_
    have BA := mBA_
    have BP := mBP_
    have HB := mHB_
    clear mBR_ mBA_ mBP_ mHB_
    generalize w7.alloc (.cells #[.int .i64 v1, .int .i64 v2, .string v3, .string v4] 62 (0, 0)) = w10 at BR BA BP HB ⊢
    generalize w7.heap.size = br at BR GR ⊢
    have c3 : decide (0 < a0) = false := decide_eq_false (by have := HA0.out; omega)
    have HV2 := Aside0.mk (serve_version HV.out)
    have hv2 := HV2.out.symm
    subst hv2
    clear HV2
    refine start_ (n := 24) (S := fun w' => w'.cell? ⟨ba, 0, none⟩ = some (.int .i64 a0) ∧ w'.cell? ⟨br, 1, none⟩ = some (.int .i64 0)) (ds := []) #[false, false, false, false, false, false, false, false, false, false, false, false, false, false, false, false, false, false, false, false, false, false, false, false] (by kernel_rfl) rfl rfl ⟨(blk_cell BA.out 0).trans rfl, (blk_cell BR.out 1).trans rfl⟩ (fun hHeld => ?_)
    refine with_tab (T := any_T6) any_T6_is (fun HT_ => ?_)
    have m0_ := Aside0.mk (blk_drew BA.out)
    have m1_ := Aside0.mk (below_drew1 HB.out)
    have m2_ := Aside0.mk (blk_drew BP.out)
    have m3_ := Aside0.mk (blk_drew BR.out)
    clear BA HB BP BR
    have BA := m0_
    have HB := m1_
    have BP := m2_
    have BR := m3_
    clear m0_ m1_ m2_ m3_
    generalize w10.drew = w11 at hHeld BA HB BP BR ⊢
    refine pure_ (i := 0) (N := some 30) (v := ?_) (a' := ?_) #[true, false, false, false, false, false, false, false, false, false, false, false, false, false, false, false, false, false, false, false, false, false, false, false] rfl rfl (any_of HT_.out (by kernel_rfl)) (fun _ _ _ h => h) (Or.inl ⟨by rfl, ?_⟩) ?_ ?_
    rotate_left
    · intro w'
      go_simp
      with_reducible rfl
    rotate_left
    · simp only [Act.put, List.setIfInBounds_toArray, List.set_cons_zero, List.set_cons_succ, i64_w, i32_w]
      rfl
    refine pure_ (i := 1) (N := some 31) (v := ?_) (a' := ?_) #[true, true, false, false, false, false, false, false, false, false, false, false, false, false, false, false, false, false, false, false, false, false, false, false] rfl rfl (any_of HT_.out (by kernel_rfl)) (fun _ _ _ h => h) (Or.inl ⟨by rfl, ?_⟩) ?_ ?_
    rotate_left
    · intro w'
      go_simp
      with_reducible rfl
    rotate_left
    · simp only [Act.put, List.setIfInBounds_toArray, List.set_cons_zero, List.set_cons_succ, i64_w, i32_w]
      rfl
    refine pure_ (i := 2) (N := some 32) (v := ?_) (a' := ?_) #[true, true, true, false, false, false, false, false, false, false, false, false, false, false, false, false, false, false, false, false, false, false, false, false] rfl rfl (any_of HT_.out (by kernel_rfl)) (fun _ _ _ h => h) (Or.inl ⟨by rfl, ?_⟩) ?_ ?_
    rotate_left
    · intro w'
      go_simp
      with_reducible rfl
    rotate_left
    · simp only [Act.put, List.setIfInBounds_toArray, List.set_cons_zero, List.set_cons_succ, i64_w, i32_w]
      rfl
    refine take_ (i := 3) (N := some 33) (v := ?_) (a' := ?_) #[true, true, true, true, false, false, false, false, false, false, false, false, false, false, false, false, false, false, false, false, false, false, false, false] rfl rfl (take_of HT_.out (by kernel_rfl)) (fun _ _ _ h => h) (Or.inl ⟨by rfl, ?_⟩) hHeld ?_ ?_
    rotate_left
    · rintro w' ⟨s0, s1⟩
      go_simp
      with_reducible rfl
    rotate_left
    · simp only [Act.put, List.setIfInBounds_toArray, List.set_cons_zero, List.set_cons_succ, i64_w, i32_w]
      rfl
    refine pure_ (i := 4) (N := some 34) (v := ?_) (a' := ?_) #[true, true, true, true, true, false, false, false, false, false, false, false, false, false, false, false, false, false, false, false, false, false, false, false] rfl rfl (any_of HT_.out (by kernel_rfl)) (fun _ _ _ h => h) (Or.inl ⟨by rfl, ?_⟩) ?_ ?_
    rotate_left
    · intro w'
      go_simp
      with_reducible rfl
    rotate_left
    · simp only [Act.put, List.setIfInBounds_toArray, List.set_cons_zero, List.set_cons_succ, i64_w, i32_w]
      rfl
    refine pure_ (i := 5) (N := some 35) (v := ?_) (a' := ?_) #[true, true, true, true, true, true, false, false, false, false, false, false, false, false, false, false, false, false, false, false, false, false, false, false] rfl rfl (any_of HT_.out (by kernel_rfl)) (fun _ _ _ h => h) (Or.inl ⟨by rfl, ?_⟩) ?_ ?_
    rotate_left
    · intro w'
      go_simp
      with_reducible rfl
    rotate_left
    · simp only [Act.put, List.setIfInBounds_toArray, List.set_cons_zero, List.set_cons_succ, i64_w, i32_w]
      rfl
    refine pure_ (i := 6) (N := some 36) (v := ?_) (a' := ?_) #[true, true, true, true, true, true, true, false, false, false, false, false, false, false, false, false, false, false, false, false, false, false, false, false] rfl rfl (any_of HT_.out (by kernel_rfl)) (fun _ _ _ h => h) (Or.inl ⟨by rfl, ?_⟩) ?_ ?_
    rotate_left
    · intro w'
      go_simp
      with_reducible rfl
    rotate_left
    · simp only [Act.put, List.setIfInBounds_toArray, List.set_cons_zero, List.set_cons_succ, i64_w, i32_w]
      rfl
    refine pure_ (i := 7) (N := some 37) (v := ?_) (a' := ?_) #[true, true, true, true, true, true, true, true, false, false, false, false, false, false, false, false, false, false, false, false, false, false, false, false] rfl rfl (any_of HT_.out (by kernel_rfl)) (fun _ _ _ h => h) (Or.inl ⟨by rfl, ?_⟩) ?_ ?_
    rotate_left
    · intro w'
      go_simp
      with_reducible rfl
    rotate_left
    · simp only [Act.put, List.setIfInBounds_toArray, List.set_cons_zero, List.set_cons_succ, i64_w, i32_w]
      rfl
    refine take_ (i := 8) (N := some 38) (v := ?_) (a' := ?_) #[true, true, true, true, true, true, true, true, true, false, false, false, false, false, false, false, false, false, false, false, false, false, false, false] rfl rfl (take_of HT_.out (by kernel_rfl)) (fun _ _ _ h => h) (Or.inl ⟨by rfl, ?_⟩) hHeld ?_ ?_
    rotate_left
    · rintro w' ⟨s0, s1⟩
      go_simp
      with_reducible rfl
    rotate_left
    · simp only [Act.put, List.setIfInBounds_toArray, List.set_cons_zero, List.set_cons_succ, i64_w, i32_w]
      rfl
    refine pure_ (i := 9) (N := some 39) (v := ?_) (a' := ?_) #[true, true, true, true, true, true, true, true, true, true, false, false, false, false, false, false, false, false, false, false, false, false, false, false] rfl rfl (any_of HT_.out (by kernel_rfl)) (fun _ _ _ h => h) (Or.inl ⟨by rfl, ?_⟩) ?_ ?_
    rotate_left
    · intro w'
      go_simp
      with_reducible rfl
    rotate_left
    · simp only [Act.put, List.setIfInBounds_toArray, List.set_cons_zero, List.set_cons_succ, i64_w, i32_w]
      rfl
    refine one_ (i := 10) (N := some 40) #[true, true, true, true, true, true, true, true, true, true, true, false, false, false, false, false, false, false, false, false, false, false, false, false] rfl rfl (one_of HT_.out (by kernel_rfl)) (by decide) (fun K hK => ?_)
    refine goes_ Tryd.func31 (by kernel_rfl) rfl #[.pointer (some ⟨gp, 0, none⟩)] (by rfl) rfl rfl (by (try simp only [List.map_toArray, List.map_cons, List.map_nil]); first | done | rfl) ?_
    refine (version_blk BP.out).mono ?_
    rintro e w12 ⟨rfl, hb⟩
    refine ⟨_, rfl, ?_⟩
    have m0_ := Aside0.mk (blk_below BA.out hb)
    have m1_ := Aside0.mk (below_step HB.out hb)
    have m2_ := Aside0.mk (blk_below BP.out hb)
    have m3_ := Aside0.mk (blk_below BR.out hb)
    clear BA HB BP BR hb
    have BA := m0_
    have HB := m1_
    have BP := m2_
    have BR := m3_
    clear m0_ m1_ m2_ m3_
    refine hK.out _ _ ⟨(blk_cell BA.out 0).trans rfl, (blk_cell BR.out 1).trans rfl⟩ (fun hHeld => ?_)
    clear hK K
    refine norm_ (a' := ?_) ?_ ?_
    rotate_left
    · show Act.put _ (some 40) _ = _
      simp only [Act.put, List.setIfInBounds_toArray, List.set_cons_zero, List.set_cons_succ, i64_w, i32_w]
      rfl
    refine pure_ (i := 11) (N := some 41) (v := ?_) (a' := ?_) #[true, true, true, true, true, true, true, true, true, true, true, true, false, false, false, false, false, false, false, false, false, false, false, false] rfl rfl (any_of HT_.out (by kernel_rfl)) (fun _ _ _ h => h) (Or.inl ⟨by rfl, ?_⟩) ?_ ?_
    rotate_left
    · intro w'
      go_simp
      with_reducible rfl
    rotate_left
    · simp only [Act.put, List.setIfInBounds_toArray, List.set_cons_zero, List.set_cons_succ, i64_w, i32_w]
      rfl
    refine pure_ (i := 12) (N := some 42) (v := ?_) (a' := ?_) #[true, true, true, true, true, true, true, true, true, true, true, true, true, false, false, false, false, false, false, false, false, false, false, false] rfl rfl (any_of HT_.out (by kernel_rfl)) (fun _ _ _ h => h) (Or.inl ⟨by rfl, ?_⟩) ?_ ?_
    rotate_left
    · intro w'
      go_simp
      with_reducible rfl
    rotate_left
    · simp only [Act.put, List.setIfInBounds_toArray, List.set_cons_zero, List.set_cons_succ, i64_w, i32_w]
      rfl
    refine pure_ (i := 13) (N := some 43) (v := ?_) (a' := ?_) #[true, true, true, true, true, true, true, true, true, true, true, true, true, true, false, false, false, false, false, false, false, false, false, false] rfl rfl (any_of HT_.out (by kernel_rfl)) (fun _ _ _ h => h) (Or.inl ⟨by rfl, ?_⟩) ?_ ?_
    rotate_left
    · intro w'
      go_simp
      with_reducible rfl
    rotate_left
    · simp only [Act.put, List.setIfInBounds_toArray, List.set_cons_zero, List.set_cons_succ, i64_w, i32_w]
      rfl
    refine pure_ (i := 14) (N := some 44) (v := ?_) (a' := ?_) #[true, true, true, true, true, true, true, true, true, true, true, true, true, true, true, false, false, false, false, false, false, false, false, false] rfl rfl (any_of HT_.out (by kernel_rfl)) (fun _ _ _ h => h) (Or.inl ⟨by rfl, ?_⟩) ?_ ?_
    rotate_left
    · intro w'
      go_simp
      with_reducible rfl
    rotate_left
    · simp only [Act.put, List.setIfInBounds_toArray, List.set_cons_zero, List.set_cons_succ, i64_w, i32_w]
      rfl
    refine pure_ (i := 15) (N := some 45) (v := ?_) (a' := ?_) #[true, true, true, true, true, true, true, true, true, true, true, true, true, true, true, true, false, false, false, false, false, false, false, false] rfl rfl (any_of HT_.out (by kernel_rfl)) (fun _ _ _ h => h) (Or.inl ⟨by rfl, ?_⟩) ?_ ?_
    rotate_left
    · intro w'
      go_simp
      with_reducible rfl
    rotate_left
    · simp only [Act.put, List.setIfInBounds_toArray, List.set_cons_zero, List.set_cons_succ, i64_w, i32_w]
      rfl
    refine pure_ (i := 16) (N := some 46) (v := ?_) (a' := ?_) #[true, true, true, true, true, true, true, true, true, true, true, true, true, true, true, true, true, false, false, false, false, false, false, false] rfl rfl (any_of HT_.out (by kernel_rfl)) (fun _ _ _ h => h) (Or.inl ⟨by rfl, ?_⟩) ?_ ?_
    rotate_left
    · intro w'
      go_simp
      with_reducible rfl
    rotate_left
    · simp only [Act.put, List.setIfInBounds_toArray, List.set_cons_zero, List.set_cons_succ, i64_w, i32_w]
      rfl
    refine pure_ (i := 17) (N := some 47) (v := undef) (a' := ?_) #[true, true, true, true, true, true, true, true, true, true, true, true, true, true, true, true, true, true, false, false, false, false, false, false] rfl rfl (any_of HT_.out (by kernel_rfl)) (fun _ _ _ h => h) (Or.inr ⟨by rfl, rfl⟩) ?_ ?_
    rotate_left
    · simp only [Act.put, List.setIfInBounds_toArray, List.set_cons_zero, List.set_cons_succ, i64_w, i32_w]
      rfl
    refine pure_ (i := 19) (N := some 49) (v := undef) (a' := ?_) #[true, true, true, true, true, true, true, true, true, true, true, true, true, true, true, true, true, true, false, true, false, false, false, false] rfl rfl (any_of HT_.out (by kernel_rfl)) (fun _ _ _ h => h) (Or.inr ⟨by rfl, rfl⟩) ?_ ?_
    rotate_left
    · simp only [Act.put, List.setIfInBounds_toArray, List.set_cons_zero, List.set_cons_succ, i64_w, i32_w]
      rfl
    refine pure_ (i := 20) (N := some 50) (v := undef) (a' := ?_) #[true, true, true, true, true, true, true, true, true, true, true, true, true, true, true, true, true, true, false, true, true, false, false, false] rfl rfl (any_of HT_.out (by kernel_rfl)) (fun _ _ _ h => h) (Or.inr ⟨by rfl, rfl⟩) ?_ ?_
    rotate_left
    · simp only [Act.put, List.setIfInBounds_toArray, List.set_cons_zero, List.set_cons_succ, i64_w, i32_w]
      rfl
    refine one_ (i := 18) (N := some 48) #[true, true, true, true, true, true, true, true, true, true, true, true, true, true, true, true, true, true, true, true, true, false, false, false] rfl rfl (one_of HT_.out (by kernel_rfl)) (by decide) (fun K hK => ?_)
    refine unwanted_ (by rfl) ?_
    refine hK.out _ _ ⟨(blk_cell BA.out 0).trans rfl, (blk_cell BR.out 1).trans rfl⟩ (fun hHeld => ?_)
    clear hK K
    refine norm_ (a' := ?_) ?_ ?_
    rotate_left
    · show Act.put _ (some 48) _ = _
      simp only [Act.put, List.setIfInBounds_toArray, List.set_cons_zero, List.set_cons_succ, i64_w, i32_w]
      rfl
    refine pure_ (i := 21) (N := some 51) (v := undef) (a' := ?_) #[true, true, true, true, true, true, true, true, true, true, true, true, true, true, true, true, true, true, true, true, true, true, false, false] rfl rfl (any_of HT_.out (by kernel_rfl)) (fun _ _ _ h => h) (Or.inr ⟨by rfl, rfl⟩) ?_ ?_
    rotate_left
    · simp only [Act.put, List.setIfInBounds_toArray, List.set_cons_zero, List.set_cons_succ, i64_w, i32_w]
      rfl
    refine pure_ (i := 22) (N := some 52) (v := ?_) (a' := ?_) #[true, true, true, true, true, true, true, true, true, true, true, true, true, true, true, true, true, true, true, true, true, true, true, false] rfl rfl (any_of HT_.out (by kernel_rfl)) (fun _ _ _ h => h) (Or.inl ⟨by rfl, ?_⟩) ?_ ?_
    rotate_left
    · intro w'
      go_simp
      with_reducible rfl
    rotate_left
    · simp only [Act.put, List.setIfInBounds_toArray, List.set_cons_zero, List.set_cons_succ, i64_w, i32_w]
      rfl
    refine pure_ (i := 23) (N := some 53) (v := ?_) (a' := ?_) #[true, true, true, true, true, true, true, true, true, true, true, true, true, true, true, true, true, true, true, true, true, true, true, true] rfl rfl (any_of HT_.out (by kernel_rfl)) (fun _ _ _ h => h) (Or.inl ⟨by rfl, ?_⟩) ?_ ?_
    rotate_left
    · intro w'
      go_simp
      with_reducible rfl
    rotate_left
    · simp only [Act.put, List.setIfInBounds_toArray, List.set_cons_zero, List.set_cons_succ, i64_w, i32_w]
      rfl
    refine done_ (done_of HT_.out (by kernel_rfl)) ?_
    clear HT_
    try clear hHeld
    clear c3
    have q0 : w12.cell? ⟨br, 0, none⟩ = some (.int .i64 v1) := (blk_cell BR.out 0).trans rfl
    have q2 : w12.cell? ⟨br, 2, none⟩ = some (.string v3) := (blk_cell BR.out 2).trans rfl
    have q3 : w12.cell? ⟨br, 3, none⟩ = some (.string v4) := (blk_cell BR.out 3).trans rfl
    have h_ := HH.out
    clear HH
    unfold anyRest at h_
    dsimp only at h_
    by_cases h4 : v1 = 400 ∨ v1 = 404
    · rw [if_pos h4] at h_
      by_cases h5 : v3 = ⟨#[]⟩ ∧ v4 = ⟨#[]⟩
      rotate_left
      · rw [if_neg h5] at h_; cases h_
      rw [if_pos h5] at h_
      obtain rfl := Option.some.inj h_
      obtain ⟨rfl, rfl⟩ := h5
      clear h_
      rcases h4 with rfl | rfl
      · skip
        go_wp2_with fail
        refine (tollgatelaw10_live.calls k true _ HT1.out).mono ?_
        rintro e w12l ⟨rfl, hb⟩
        have m0_ := Aside0.mk (blk_below BA.out hb)
        have m1_ := Aside0.mk (below_step HB.out hb)
        have m2_ := Aside0.mk (blk_below BP.out hb)
        have m3_ := Aside0.mk (blk_below BR.out hb)
        clear BA HB BP BR hb q0 q2 q3
        have BA := m0_
        have HB := m1_
        have BP := m2_
        have BR := m3_
        clear m0_ m1_ m2_ m3_
        have q2 : w12l.cell? ⟨br, 2, none⟩ = some (.string ⟨#[]⟩) := (blk_cell BR.out 2).trans rfl
        have q3 : w12l.cell? ⟨br, 3, none⟩ = some (.string ⟨#[]⟩) := (blk_cell BR.out 3).trans rfl
        go_wp2
        go_ret
        exact ⟨rfl, HB.out⟩
      · skip
        go_wp2_with fail
        refine (tollgatelaw10_live.calls k true _ HT1.out).mono ?_
        rintro e w12l ⟨rfl, hb⟩
        have m0_ := Aside0.mk (blk_below BA.out hb)
        have m1_ := Aside0.mk (below_step HB.out hb)
        have m2_ := Aside0.mk (blk_below BP.out hb)
        have m3_ := Aside0.mk (blk_below BR.out hb)
        clear BA HB BP BR hb q0 q2 q3
        have BA := m0_
        have HB := m1_
        have BP := m2_
        have BR := m3_
        clear m0_ m1_ m2_ m3_
        have q2 : w12l.cell? ⟨br, 2, none⟩ = some (.string ⟨#[]⟩) := (blk_cell BR.out 2).trans rfl
        have q3 : w12l.cell? ⟨br, 3, none⟩ = some (.string ⟨#[]⟩) := (blk_cell BR.out 3).trans rfl
        go_wp2
        go_ret
        exact ⟨rfl, HB.out⟩
    rw [if_neg h4] at h_
    have d4 : (v1 == 400) = false := by simp; omega
    have d5 : (v1 == 404) = false := by simp; omega
    by_cases h6 : v1 = 503
    · rw [if_pos h6] at h_
      rw [if_neg (by decide)] at h_
      cases h_
    rw [if_neg h6] at h_
    rw [if_neg (by decide)] at h_
    cases h_
end Go.Proofs.YtabkdmfnafeaeaaDoor.S
end
section
namespace Go.Proofs.YtabkdmfnafeaeaaDoor.bulks
open Go.ChangeShapes Go.WideShapes
theorem one_le {H : Type} (d : DataW H) : 1 ≤ Rows.uptoBulk d := by
  cases d with
  | lit l => cases l <;> simp [Rows.uptoBulk]
  | nil => simp [Rows.uptoBulk]
  | ptr d => simp [Rows.uptoBulk]
  | slice elems spare => simp [Rows.uptoBulk]
  | agg parts => simp [Rows.uptoBulk]
  | iface t d => simp [Rows.uptoBulk]
  | map entries => simp [Rows.uptoBulk]
  | held h => simp [Rows.uptoBulk]
theorem length_le {H : Type} (l : List (DataW H)) : l.length ≤ Rows.uptoBulkAll l := by
  induction l with
  | nil => simp [Rows.uptoBulkAll]
  | cons x r ih => have := one_le x; simp only [Rows.uptoBulkAll, List.length_cons]; omega
theorem bound {H : Type} {l : List (DataW H)} (hk : Rows.uptoSmall H l = true) : Rows.uptoBulkAll l ≤ 1048576 := of_decide_eq_true hk
end Go.Proofs.YtabkdmfnafeaeaaDoor.bulks
end
section
namespace Go.Proofs.YtabkdmfnafeaeaaDoor.opens
open Go.ChangeShapes Go.WideShapes Go.Deep Go.Proofs.YtabkdmfnafeaeaaDoorW.PrintWords
structure Rd (P : Program) (t : TypeId) {α : Type} (d : Kd α) (ok : α → Prop) (mu : α → Nat) : Prop where
  out : ∀ {H : Type} {enc : TypeId × Value → H} {w : World} {base : Nat} {spare : Nat → Bool} {held : Bool} {fuel : Nat} {cs : List Value} {x : DataW H × List MemPlace}, DataW.trod enc P w base spare held fuel t cs = some x → ∃ y, d.K w y cs ∧ ok y ∧ mu y ≤ Rows.uptoBulk x.1
variable {P : Program} {t : TypeId}
theorem Rd.int {k : IntKind} (ht : P.underlying t = some (.int k)) : Rd P t (Kd.int k) (fun n => (Lit.int k n).wf = true) (fun _ => 1) := ⟨fun h => by
  obtain ⟨n, rfl, rfl, hw⟩ := DataW.trod_int ht h
  exact ⟨n, rfl, hw, bulks.one_le _⟩⟩
theorem Rd.bool (ht : P.underlying t = some .bool) : Rd P t Kd.bool (fun _ => True) (fun _ => 1) := ⟨fun h => by
  obtain ⟨n, rfl, rfl⟩ := DataW.trod_bool ht h
  exact ⟨n, rfl, trivial, bulks.one_le _⟩⟩
theorem Rd.string (ht : P.underlying t = some .string) : Rd P t Kd.string (fun s => s.size ≤ 9223372036854775807) (fun s => s.size + 1) := ⟨fun h => by
  obtain ⟨s, rfl, rfl, hs⟩ := DataW.trod_string ht h
  refine ⟨s, rfl, hs, ?_⟩
  simp only [Rows.uptoBulk, Array.length_toList]
  exact Nat.le_refl _⟩
def Kdf : Kd Nat := Kd.scalar (Value.float .f64) (fun _ => rfl)
theorem Rd.float (ht : P.underlying t = some (.float .f64)) : Rd P t Kdf (fun b => (Lit.float .f64 b).wf = true) (fun _ => 1) := ⟨fun {H enc w base spare held fuel cs x} h => by
  cases fuel with
  | zero => simp [DataW.trod] at h
  | succ n =>
    unfold DataW.trod at h
    rw [ht] at h
    split at h
    all_goals first
      | (simp at h; done)
      | (rename_i heq; cases heq; done)
      | (rename_i heq; cases heq
         split at h
         · rename_i hh
           obtain ⟨rfl, hw⟩ := hh
           injection h with h
           subst h
           exact ⟨_, rfl, hw, bulks.one_le _⟩
         · cases h)⟩
theorem Rd.iso {α β : Type} {d : Kd α} {ok : α → Prop} {mu : α → Nat} (f : β → α) (g : α → β) (hfg : ∀ x, f (g x) = x) (h : Rd P t d ok mu) : Rd P t (Kd.iso d f) (fun y => ok (f y)) (fun y => mu (f y)) := ⟨fun hx => by
  obtain ⟨y, hK, ho, hm⟩ := h.out hx
  refine ⟨g y, ?_, ?_, ?_⟩
  · show d.K _ (f (g y)) _
    rw [hfg]
    exact hK
  · rw [hfg]; exact ho
  · rw [hfg]; exact hm⟩
theorem sum_le_bulk {H : Type} {α : Type} (mu : α → Nat) : ∀ (l : List α) (D : List (DataW H)), l.length ≤ D.length → (∀ (i : Nat) (y : α) (z : DataW H), l[i]? = some y → D[i]? = some z → mu y ≤ Rows.uptoBulk z) → (l.map mu).sum ≤ Rows.uptoBulkAll D
  | [], _, _, _ => by simp
  | _ :: _, [], h, _ => by simp at h
  | y :: l, z :: D, h, hi => by
    have h0 := hi 0 y z rfl rfl
    have h1 := sum_le_bulk mu l D (by simpa using h) (fun i y z hy hz => hi (i + 1) y z (by simpa using hy) (by simpa using hz))
    simp only [List.map_cons, List.sum_cons, Rows.uptoBulkAll]
    omega
theorem Rd.slice {e : TypeId} {α : Type} {d : Kd α} {ok : α → Prop} {mu : α → Nat} (ht : P.underlying t = some (.slice e)) (hc : P.cellsOf e = d.sz) (h : Rd P e d ok mu) :
    Rd P t (Kd.slice e d) (fun l => ∀ y ∈ l, ok y) (fun l => (l.map mu).sum + 1) := ⟨fun {H enc w base spare held fuel cs x} hx => by
  rcases open_slice ht hx with ⟨rfl, rfl⟩ | ⟨a, len, cap, m, n, D, Pl, rfl, hb, hl, hm, hmm, rfl, hel⟩
  · exact ⟨[], ⟨none, 0, rfl, Nat.le_refl _, Kd.C_nil _ _⟩, by simp, by simp [Rows.uptoBulk]⟩
  · have hlm : len ≤ m := by rw [hmm]; split <;> omega
    have hy : ∀ i : Fin len, ∃ (y : α), ∃ cs', w.cells? base (a.add (i.1 * P.cellsOf e)) (P.cellsOf e) = some cs' ∧ d.K w y cs' ∧ ok y ∧ mu y ≤ Rows.uptoBulk (D i.1) := by
      intro i
      obtain ⟨cs', hcs, htr⟩ := hel i.1 (by have := i.2; omega)
      obtain ⟨y, hK, ho, hmu⟩ := h.out htr
      exact ⟨y, cs', hcs, hK, ho, hmu⟩
    obtain ⟨f, hf⟩ : ∃ f : Fin len → α, ∀ i, ∃ cs', w.cells? base (a.add (i.1 * P.cellsOf e)) (P.cellsOf e) = some cs' ∧ d.K w (f i) cs' ∧ ok (f i) ∧ mu (f i) ≤ Rows.uptoBulk (D i.1) := ⟨fun i => Classical.choose (hy i), fun i => Classical.choose_spec (hy i)⟩
    have hlen : (List.ofFn f).length = len := List.length_ofFn
    refine ⟨List.ofFn f, ⟨some a, cap, by rw [hlen], by rw [hlen]; exact hl, ⟨rfl, by rw [hlen]; unfold maxLen at hm; omega, fun _ => ⟨a, rfl, fun j p hj => ?_⟩⟩⟩, ?_, ?_⟩
    · obtain ⟨hj2, hp⟩ := List.getElem?_eq_some_iff.1 hj
      rw [List.getElem_ofFn] at hp
      obtain ⟨cs', hcs, hK, _, _⟩ := hf ⟨j, by simpa using hj2⟩
      rw [hp] at hK
      obtain ⟨_, hl2, hcell⟩ := World.cells?_some hcs
      refine ⟨cs', d.K_len hK, hK, fun i u hu => ?_⟩
      have hi : i < cs'.length := (List.getElem?_eq_some_iff.1 hu).1
      have := hcell i (by omega)
      rw [Go.Deep.add_add, hc] at this
      rw [this, hu]
    · intro y hy
      obtain ⟨i, rfl⟩ := List.mem_ofFn.1 hy
      obtain ⟨_, _, _, ho, _⟩ := hf i
      exact ho
    · simp only [Rows.uptoBulk]
      have := sum_le_bulk mu (List.ofFn f) ((List.range len).map D) (by simp) (fun i y z hy hz => by
        obtain ⟨hj2, hp⟩ := List.getElem?_eq_some_iff.1 hy
        rw [List.getElem_ofFn] at hp
        have hi : i < len := by simpa using hj2
        obtain ⟨_, _, _, _, hmu⟩ := hf ⟨i, hi⟩
        rw [hp] at hmu
        rw [List.getElem?_map, List.getElem?_range hi] at hz
        injection hz with hz
        rw [← hz]
        exact hmu)
      omega⟩
structure RdF (P : Program) (fs : List Field) (off : Nat) {α : Type} (d : Kd α) (ok : α → Prop) (mu : α → Nat) : Prop where
  out : ∀ {H : Type} {enc : TypeId × Value → H} {w : World} {base : Nat} {spare : Nat → Bool} {held : Bool} {fuel : Nat} {cs : List Value} {xs : List (DataW H × List MemPlace)}, cs.length = d.sz → xs.length = fs.length →
    (∀ (i : Nat) (f : Field), fs[i]? = some f → DataW.trod enc P w base spare held fuel f.type ((cs.drop (f.offset - off)).take (P.cellsOf f.type)) = xs[i]?) → (∀ f ∈ fs, off ≤ f.offset) → ∃ y, d.K w y cs ∧ ok y ∧ mu y ≤ Rows.uptoBulkAll (xs.map (·.1))
theorem RdF.one {f : Field} {off : Nat} {α : Type} {d : Kd α} {ok : α → Prop} {mu : α → Nat} (ho : f.offset = off) (hc : P.cellsOf f.type = d.sz) (h : Rd P f.type d ok mu) : RdF P [f] off d ok mu := ⟨fun {H enc w base spare held fuel cs xs} hl hx hf _ => by
  match xs, hx with
  | [x], _ =>
    have h0 := hf 0 f rfl
    rw [ho, Nat.sub_self, List.drop_zero, List.take_of_length_le (by omega)] at h0
    obtain ⟨y, hK, hok, hmu⟩ := h.out h0
    exact ⟨y, hK, hok, by simp only [List.map_cons, List.map_nil, Rows.uptoBulkAll]; omega⟩⟩
theorem RdF.cons {f : Field} {fs : List Field} {off : Nat} {α β : Type} {d : Kd α} {ok : α → Prop} {mu : α → Nat} {d' : Kd β} {ok' : β → Prop} {mu' : β → Nat} (ho : f.offset = off) (hc : P.cellsOf f.type = d.sz) (h : Rd P f.type d ok mu) (hle : ∀ g ∈ fs, off + d.sz ≤ g.offset)
    (h' : RdF P fs (off + d.sz) d' ok' mu') : RdF P (f :: fs) off (Kd.pair d d') (fun y => ok y.1 ∧ ok' y.2) (fun y => mu y.1 + mu' y.2) := ⟨fun {H enc w base spare held fuel cs xs} hl hx hf _ => by
  match xs, hx with
  | x :: xs, hx =>
    have hsz : cs.length = d.sz + d'.sz := hl
    have h0 := hf 0 f rfl
    rw [ho, Nat.sub_self, List.drop_zero, hc] at h0
    obtain ⟨y, hK, hok, hmu⟩ := h.out h0
    obtain ⟨y', hK', hok', hmu'⟩ := h'.out (cs := cs.drop d.sz) (xs := xs) (by rw [List.length_drop]; omega) (by simpa using hx) (fun i g hg => by
      have h1 := hf (i + 1) g (by simpa using hg)
      have := hle g (List.mem_of_getElem? hg)
      rw [List.drop_drop, show d.sz + (g.offset - (off + d.sz)) = g.offset - off by omega]
      simpa using h1) hle
    refine ⟨(y, y'), ⟨cs.take d.sz, cs.drop d.sz, (List.take_append_drop _ _).symm, hK, hK'⟩, ⟨hok, hok'⟩, ?_⟩
    simp only [List.map_cons, Rows.uptoBulkAll]
    omega⟩
theorem Rd.structS {fs : Array Field} {α : Type} {d : Kd α} {ok : α → Prop} {mu : α → Nat} (ht : P.underlying t = some (.struct fs)) (hc : P.cellsOf t = d.sz) (h : RdF P fs.toList 0 d ok mu) : Rd P t d ok (fun y => mu y + 1) := ⟨fun hx => by
  obtain ⟨xs, n, _, rfl, hl, hlen, hf⟩ := DataW.trod_struct ht hx
  obtain ⟨y, hK, hok, hmu⟩ := h.out (hl.trans hc) (by simpa using hlen) (fun i f hi => by rw [Nat.sub_zero]; exact hf i f (by simpa using hi)) (fun f _ => Nat.zero_le _)
  exact ⟨y, hK, hok, by simp only [Rows.uptoBulk]; omega⟩⟩
structure RdA (P : Program) (e : TypeId) (n : Nat) {α : Type} (d : Kd α) (ok : α → Prop) (mu : α → Nat) : Prop where
  out : ∀ {H : Type} {enc : TypeId × Value → H} {w : World} {base : Nat} {spare : Nat → Bool} {held : Bool} {fuel : Nat} {cs : List Value} {xs : List (DataW H × List MemPlace)}, cs.length = d.sz → xs.length = n →
    (∀ (i : Nat), i < n → DataW.trod enc P w base spare held fuel e ((cs.drop (i * P.cellsOf e)).take (P.cellsOf e)) = xs[i]?) → ∃ y, d.K w y cs ∧ ok y ∧ mu y ≤ Rows.uptoBulkAll (xs.map (·.1))
theorem RdA.one {e : TypeId} {α : Type} {d : Kd α} {ok : α → Prop} {mu : α → Nat} (hc : P.cellsOf e = d.sz) (h : Rd P e d ok mu) : RdA P e 1 d ok mu := ⟨fun {H enc w base spare held fuel cs xs} hl hx hf => by
  match xs, hx with
  | [x], _ =>
    have h0 := hf 0 (by omega)
    rw [Nat.zero_mul, List.drop_zero, List.take_of_length_le (by omega)] at h0
    obtain ⟨y, hK, hok, hmu⟩ := h.out h0
    exact ⟨y, hK, hok, by simp only [List.map_cons, List.map_nil, Rows.uptoBulkAll]; omega⟩⟩
theorem RdA.cons {e : TypeId} {n : Nat} {α β : Type} {d : Kd α} {ok : α → Prop} {mu : α → Nat} {d' : Kd β} {ok' : β → Prop} {mu' : β → Nat} (hc : P.cellsOf e = d.sz) (h : Rd P e d ok mu)
    (h' : RdA P e n d' ok' mu') : RdA P e (n + 1) (Kd.pair d d') (fun y => ok y.1 ∧ ok' y.2) (fun y => mu y.1 + mu' y.2) := ⟨fun {H enc w base spare held fuel cs xs} hl hx hf => by
  match xs, hx with
  | x :: xs, hx =>
    have hsz : cs.length = d.sz + d'.sz := hl
    have h0 := hf 0 (by omega)
    rw [Nat.zero_mul, List.drop_zero, hc] at h0
    obtain ⟨y, hK, hok, hmu⟩ := h.out h0
    obtain ⟨y', hK', hok', hmu'⟩ := h'.out (cs := cs.drop d.sz) (xs := xs) (by rw [List.length_drop]; omega) (by simpa using hx) (fun i hi => by
      have h1 := hf (i + 1) (by omega)
      rw [List.drop_drop, ← hc, show P.cellsOf e + i * P.cellsOf e = (i + 1) * P.cellsOf e by rw [Nat.add_mul]; omega]
      simpa using h1)
    refine ⟨(y, y'), ⟨cs.take d.sz, cs.drop d.sz, (List.take_append_drop _ _).symm, hK, hK'⟩, ⟨hok, hok'⟩, ?_⟩
    simp only [List.map_cons, Rows.uptoBulkAll]
    omega⟩
end Go.Proofs.YtabkdmfnafeaeaaDoor.opens
end
section
namespace Go.Proofs.YtabkdmfnafeaeaaDoor.S
open Go.RowKit Go.Proofs.YtabkdmfnafeaeaaDoorW.PrintWords Go.Proofs.YtabkdmfnafeaeaaDoorW.PrintLast Go.Proofs.YtabkdmfnafeaeaaDoor.opens
set_option linter.unusedVariables false
def ok93 (x : S93) : Prop := x.f0.size ≤ 9223372036854775807 ∧ x.f1.size ≤ 9223372036854775807 ∧ x.f2.size ≤ 9223372036854775807
def mu93 (x : S93) : Nat := ((x.f0.size + 1) + ((x.f1.size + 1) + (x.f2.size + 1))) + 1
theorem o93 : Rd Tryd.prog 93 k93 ok93 mu93 := by
  have h := Rd.iso (fun x : S93 => (x.f0, x.f1, x.f2)) (fun p : ByteArray × ByteArray × ByteArray => (⟨p.1, p.2.1, p.2.2⟩ : S93)) (fun _ => rfl) (Rd.structS (d := (Kd.pair Kd.string (Kd.pair Kd.string Kd.string))) Tryd.underlying93 (by kernel_rfl) (RdF.cons rfl (by kernel_rfl) (Rd.string Tryd.underlying9) (by decide) (RdF.cons rfl (by kernel_rfl) (Rd.string Tryd.underlying9) (by decide) (RdF.one rfl (by kernel_rfl) (Rd.string Tryd.underlying9)))))
  exact h
def ok69 (x : S69) : Prop := x.f0.size ≤ 9223372036854775807 ∧ (Lit.float .f64 x.f1).wf = true
def mu69 (x : S69) : Nat := ((x.f0.size + 1) + 1) + 1
theorem o69 : Rd Tryd.prog 69 k69 ok69 mu69 := by
  have h := Rd.iso (fun x : S69 => (x.f0, x.f1)) (fun p : ByteArray × Nat => (⟨p.1, p.2⟩ : S69)) (fun _ => rfl) (Rd.structS (d := (Kd.pair Kd.string Kd.float)) Tryd.underlying69 (by kernel_rfl) (RdF.cons rfl (by kernel_rfl) (Rd.string Tryd.underlying9) (by decide) (RdF.one rfl (by kernel_rfl) (Rd.float Tryd.underlying56))))
  exact h
def ok67 (x : S67) : Prop := x.f0.size ≤ 9223372036854775807 ∧ (∀ y ∈ x.f1, ok69 y)
def mu67 (x : S67) : Nat := ((x.f0.size + 1) + ((x.f1.map (fun y => mu69 y)).sum + 1)) + 1
theorem o67 : Rd Tryd.prog 67 k67 ok67 mu67 := by
  have h := Rd.iso (fun x : S67 => (x.f0, x.f1)) (fun p : ByteArray × List (S69) => (⟨p.1, p.2⟩ : S67)) (fun _ => rfl) (Rd.structS (d := (Kd.pair Kd.string (Kd.slice 69 k69))) Tryd.underlying67 (by kernel_rfl) (RdF.cons rfl (by kernel_rfl) (Rd.string Tryd.underlying9) (by decide) (RdF.one rfl (by kernel_rfl) (Rd.slice Tryd.underlying65 (by kernel_rfl) o69))))
  exact h
structure S55 where
  f0 : Int
  f1 : List (S93)
  f2 : List (S67)
def k55 : Kd S55 := Kd.iso (Kd.pair (Kd.int .i64) (Kd.pair (Kd.slice 93 k93) (Kd.slice 67 k67))) (fun x : S55 => (x.f0, x.f1, x.f2))
theorem k55_open {w : World} {x : S55} {cs : List Value} (h : k55.K w x cs) : ∃ A1 c1 A2 c2, cs = [.int .i64 x.f0, .slice A1 x.f1.length c1, .slice A2 x.f2.length c2] ∧ x.f1.length ≤ c1 ∧ k93.C w A1 x.f1.length x.f1 ∧ x.f2.length ≤ c2 ∧ k67.C w A2 x.f2.length x.f2 := by
  obtain ⟨_, _, rfl, rfl, ⟨_, _, rfl, ⟨A1, c1, rfl, l1, g1⟩, ⟨A2, c2, rfl, l2, g2⟩⟩⟩ := h
  exact ⟨A1, c1, A2, c2, rfl, l1, g1, l2, g2⟩
def ok55 (x : S55) : Prop := (Lit.int .i64 x.f0).wf = true ∧ (∀ y ∈ x.f1, ok93 y) ∧ (∀ y ∈ x.f2, ok67 y)
def mu55 (x : S55) : Nat := (1 + (((x.f1.map (fun y => mu93 y)).sum + 1) + ((x.f2.map (fun y => mu67 y)).sum + 1))) + 1
theorem o55 : Rd Tryd.prog 55 k55 ok55 mu55 := by
  have h := Rd.iso (fun x : S55 => (x.f0, x.f1, x.f2)) (fun p : Int × List (S93) × List (S67) => (⟨p.1, p.2.1, p.2.2⟩ : S55)) (fun _ => rfl) (Rd.structS (d := (Kd.pair (Kd.int .i64) (Kd.pair (Kd.slice 93 k93) (Kd.slice 67 k67)))) Tryd.underlying55 (by kernel_rfl) (RdF.cons rfl (by kernel_rfl) (Rd.int Tryd.underlying3) (by decide) (RdF.cons rfl (by kernel_rfl) (Rd.slice Tryd.underlying52 (by kernel_rfl) o93) (by decide) (RdF.one rfl (by kernel_rfl) (Rd.slice Tryd.underlying53 (by kernel_rfl) o67)))))
  exact h
structure S72 where
  f0 : Int
  f1 : S55
  f2 : List Int
  f3 : Nat
end Go.Proofs.YtabkdmfnafeaeaaDoor.S
end
