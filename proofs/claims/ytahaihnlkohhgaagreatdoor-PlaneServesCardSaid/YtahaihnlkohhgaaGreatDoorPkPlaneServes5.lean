/- Walks and plain facts, joined out of several texts: what the row of PlaneServes leads to. -/
import Derived.Test.YtahaihnlkohhgaaGreatDoorPkPlaneServes4
section
namespace Go.Proofs.YtahaihnlkohhgaaGreatDoor.S
open Go.RowKit Go.Proofs.YtahaihnlkohhgaaGreatDoorW.PrintWords Go.Proofs.YtahaihnlkohhgaaGreatDoorW.PrintLast Go.Proofs.YtahaihnlkohhgaaGreatDoorW.PrintMore
set_option linter.unusedVariables false
set_option linter.unusedSimpArgs false
theorem cell_drew {w : World} {p : Addr} {v : Value} (h : w.cell? p = some v) : w.drew.cell? p = some v := h
def refServe.l0 : Nat → Nat → Nat → Int → List S39 → ByteArray → Option (Int × Int × ByteArray × ByteArray)
  | 0, _, _, _, _, _ => none
  | k + 1, d, i, v, f2, pool =>
    if i < f2.length then
      (if (rd_T39 f2 (i : Int)).f0.toList = pool.toList then
        (tollgateref10_Weigh.f k (rd_T39 f2 (i : Int)).f1 d).bind fun t =>
          if t.2 = true then (if 0 ≤ t.1 ∧ t.1 < ((rd_T39 f2 (i : Int)).f1.length : Int) then some (200, v, pool, (rd_T41 (rd_T39 f2 (i : Int)).f1 t.1).f0) else none)
          else some (503, v, pool, ⟨#[]⟩)
      else refServe.l0 k d (i + 1) v f2 pool)
    else some (503, v, pool, ⟨#[]⟩)
def refServe.f (k : Nat) (v : Int) (f1 : List S64) (f2 : List S39) (l : List Int) (d : Nat) : Option (Int × Int × ByteArray × ByteArray) :=
  if f2.length ≤ 2000 then
    (tollgateref09_Parse.f k l).bind fun x =>
      if x.2.2.2.2.2.2 = 0 then
        (tollgateref10_Find.f k v f1 f2 x.2.2.2.1 x.2.1).bind fun r =>
          if r.2.2.2 = true then refServe.l0 k d 0 v f2 r.2.2.1 else some (404, v, ⟨#[]⟩, ⟨#[]⟩)
      else some (400, v, ⟨#[]⟩, ⟨#[]⟩)
  else none
noncomputable def rserve_T10 : Bool × List (List Nat × List Nat) := rtab .any (opsOf Tryz.f9 10)
theorem rserve_T10_is : rtab .any (opsOf Tryz.f9 10) = rserve_T10 := rfl
noncomputable def rserve_T13 : Bool × List (List Nat × List Nat) := rtab .any (opsOf Tryz.f9 13)
theorem rserve_T13_is : rtab .any (opsOf Tryz.f9 13) = rserve_T13 := rfl
set_option maxHeartbeats 8000000 in
set_option maxRecDepth 100000 in
theorem refServe.hand (k : Nat) (v : Int) (A1 : Option Addr) (c1 : Nat) (f1 : List S64) (A2 : Option Addr) (c2 : Nat) (f2 : List S39) (A3 : Option Addr) (c3 : Nat) (l : List Int) (d : Nat) (r1 r2 : Int) (r3 r4 : ByteArray) (w : World)
    (hr1 : Kd.C k64 w A1 f1.length f1) (hc1 : f1.length ≤ c1) (hr2 : Kd.C k39 w A2 f2.length f2) (hc2 : f2.length ≤ c2) (hr3 : Kd.C (Kd.int .u8) w A3 l.length l) (hc3 : l.length ≤ c3) (h : refServe.f k v f1 f2 l d = some (r1, r2, r3, r4)) :
    Calls Tryz.prog 9 #[.agg #[.int .i64 v, .slice A1 f1.length c1, .slice A2 f2.length c2], .slice A3 l.length c3, .float .f64 d] w fun e w' => e = .returned (.agg #[.int .i64 r1, .int .i64 r2, .string r3, .string r4]) ∧ Below w.heap.size w w' := by
  unfold refServe.f at h;by_cases hl_ : f2.length ≤ 2000;rotate_left
  · rw [zn hl_] at h; cases h
  rw [zp hl_] at h;obtain ⟨⟨m, p, q, hh, fs, n, er⟩, hP, h2⟩ := Option.bind_eq_some_iff.1 h;clear h;simp only at h2;have HR1 := zN hr1;have HR2 := zN hr2;have HR3 := zN hr3;have HP := zN hP;have HH := zN h2;clear hr1 hr2 hr3 hP h2;have HB := zN (Below.refl w.heap.size w);have hu28 := Tryz.underlying28;have hu64 := Tryz.underlying64;have hu39 := Tryz.underlying39;have hu41 := Tryz.underlying41;have hu43 := Tryz.underlying43;have hu57 := Tryz.underlying57;go_enter Tryz.func9, Tryz.ntmps9;go_wp2_with (first | ((with_reducible refine gate_dst (N := 3) rfl ?_); refine zX #[.int .i64 v, .slice A1 f1.length c1, .slice A2 f2.length c2] 28 rfl ?_; intro bc hg w1 hbox hb; have mb_ := zN (below_step HB.out hb); have BC := zN hbox; clear HB; have HB := mb_; clear hb hbox hg mb_) | ((with_reducible refine gate_dst (N := 6) rfl ?_); refine zX #[.int .i64 0, .int .i64 0, .string ⟨#[]⟩, .string ⟨#[]⟩] 43 rfl ?_; intro br hg w2 hbox hb; have GR_ : w.heap.size ≤ br ∧ bc ≠ br := (by rw [hg]; exact ⟨below_size HB.out, Nat.ne_of_lt (blk_lt BC.out)⟩); have m0_ := zN (blk_below BC.out hb); have mb_ := zN (below_step HB.out hb); have BR := zN hbox; clear HB BC; have HB := mb_; have BC := m0_; clear hb hbox hg mb_ m0_; have GR := zN GR_; clear GR_) | fail);refine (tollgateref09_Parse.calls k A3 c3 l m p q hh fs n er _ (Kd.C_below HR3.out HB.out) hc3 HP.out).mono ?_;rintro e w3 ⟨v4, rfl, hR, hb⟩;obtain ⟨A4, c4, rfl, _, _⟩ := Kd.R_reads hR;have m0_ := zN (blk_below BC.out hb);have m1_ := zN (blk_below BR.out hb);have m2_ := zN (below_step HB.out hb);clear BC BR HB hb hR;have BC := m0_;have BR := m1_;have HB := m2_;clear m0_ m1_ m2_;go_upto_region 2 with (fail)
  have mn_ : Aside0 ((w3.alloc (.cells #[.string m, .string p, .string q, .string hh, .slice A4 fs.length c4] 57 (0, 0))).heap[w3.heap.size]? = some (.cells #[.string m, .string p, .string q, .string hh, .slice A4 fs.length c4] 57 (0, 0))) := ⟨blk_new _ _⟩;have mBC_ := zN (blk_alloc BC.out (.cells #[.string m, .string p, .string q, .string hh, .slice A4 fs.length c4] 57 (0, 0)));have mBR_ := zN (blk_alloc BR.out (.cells #[.string m, .string p, .string q, .string hh, .slice A4 fs.length c4] 57 (0, 0)));have mHB_ := zN (below_alloc (o := (.cells #[.string m, .string p, .string q, .string hh, .slice A4 fs.length c4] 57 (0, 0))) HB.out);have mne_ := zN (show br ≠ w3.heap.size from Nat.ne_of_lt (blk_lt BR.out));clear BC BR HB;have BC := mBC_;have BR := mBR_;have HB := mHB_;have BH := mn_;have NEBH := mne_;clear mn_ mne_ mBC_ mBR_ mHB_;generalize w3.alloc (.cells #[.string m, .string p, .string q, .string hh, .slice A4 fs.length c4] 57 (0, 0)) = w4 at BC BR HB BH ⊢;generalize w3.heap.size = bh at BH NEBH ⊢;by_cases he : er = 0
  case neg =>
    have h_ := HH.out;rw [zn he] at h_;simp only [Option.some.injEq, Prod.mk.injEq] at h_;obtain ⟨rfl, rfl, rfl, rfl⟩ := h_;clear HH;have d_ : (er != 0) = true := by simpa using he
    have d2_ : (er == 0) = false := by simpa using he
    clear he;have q0 : w4.cell? ⟨bc, 0, none⟩ = some (.int .i64 v) := (blk_cell BC.out 0).trans rfl;have z0 : w4.cell? ⟨br, 0, none⟩ = some (.int .i64 0) := (blk_cell BR.out 0).trans rfl;have y0 := blk_frozen BR.out 0;have z1 : w4.cell? ⟨br, 1, none⟩ = some (.int .i64 0) := (blk_cell BR.out 1).trans rfl;have y1 := blk_frozen BR.out 1;have z2 : w4.cell? ⟨br, 2, none⟩ = some (.string ⟨#[]⟩) := (blk_cell BR.out 2).trans rfl;have y2 := blk_frozen BR.out 2;have z3 : w4.cell? ⟨br, 3, none⟩ = some (.string ⟨#[]⟩) := (blk_cell BR.out 3).trans rfl;have y3 := blk_frozen BR.out 3;go_wp2;refine bodyPost_ret (results_single rfl (Vals.cell br 43 #[.int .i64 400, .int .i64 v, .string ⟨#[]⟩, .string ⟨#[]⟩] (0, 0) _ rfl (blk_put (cs' := #[.int .i64 400, .int .i64 v, .string ⟨#[]⟩, .string ⟨#[]⟩]) (blk_put (cs' := #[.int .i64 400, .int .i64 v, .string ⟨#[]⟩, .string ⟨#[]⟩]) (blk_put (cs' := #[.int .i64 400, .int .i64 v, .string ⟨#[]⟩, .string ⟨#[]⟩]) (blk_put (cs' := #[.int .i64 400, .int .i64 0, .string ⟨#[]⟩, .string ⟨#[]⟩]) BR.out 0 (.int .i64 400) rfl) 1 (.int .i64 v) rfl) 2 (.string ⟨#[]⟩) rfl) 3 (.string ⟨#[]⟩) rfl) Tryz.underlying43 rfl zQ Vals.nil)) rfl ?_;exact ⟨rfl, below_set (below_set (below_set (below_set HB.out GR.out.1) GR.out.1) GR.out.1) GR.out.1⟩
  have h_ := HH.out;rw [zp he] at h_;obtain ⟨⟨s1, s2, pool, ok⟩, hF, h2_⟩ := Option.bind_eq_some_iff.1 h_;simp only at h2_;clear HH h_;subst he;have HF := zN hF;have HH := zN h2_;clear hF h2_;have q0 : w4.cell? ⟨bc, 0, none⟩ = some (.int .i64 v) := (blk_cell BC.out 0).trans rfl;have q1 : w4.cell? ⟨bc, 1, none⟩ = some (.slice A1 f1.length c1) := (blk_cell BC.out 1).trans rfl;have q2 : w4.cell? ⟨bc, 2, none⟩ = some (.slice A2 f2.length c2) := (blk_cell BC.out 2).trans rfl;have p1 : w4.cell? ⟨bh, 1, none⟩ = some (.string p) := (blk_cell BH.out 1).trans rfl;have p3 : w4.cell? ⟨bh, 3, none⟩ = some (.string hh) := (blk_cell BH.out 3).trans rfl;go_wp2_with fail;refine (tollgateref10_Find.calls k v A1 c1 f1 A2 c2 f2 hh p s1 s2 pool ok _ (Kd.C_below HR1.out HB.out) hc1 (Kd.C_below HR2.out HB.out) hc2 HF.out).mono ?_;rintro e w5 ⟨rfl, hb⟩;have m0_ := zN (blk_below BC.out hb);have m1_ := zN (blk_below BR.out hb);have m2_ := zN (below_step HB.out hb);have m3_ := zN (blk_below BH.out hb);clear BC BR HB BH hb q0 q1 q2 p1 p3;have BC := m0_;have BR := m1_;have HB := m2_;have BH := m3_;clear m0_ m1_ m2_ m3_;go_upto_region 5 with (fail)
  have mn_ : Aside0 ((w5.alloc (.cells #[.string s1, .string s2, .string pool] 64 (0, 0))).heap[w5.heap.size]? = some (.cells #[.string s1, .string s2, .string pool] 64 (0, 0))) := ⟨blk_new _ _⟩;have mBC_ := zN (blk_alloc BC.out (.cells #[.string s1, .string s2, .string pool] 64 (0, 0)));have mBR_ := zN (blk_alloc BR.out (.cells #[.string s1, .string s2, .string pool] 64 (0, 0)));have mHB_ := zN (below_alloc (o := (.cells #[.string s1, .string s2, .string pool] 64 (0, 0))) HB.out);have mBH_ := zN (blk_alloc BH.out (.cells #[.string s1, .string s2, .string pool] 64 (0, 0)));have mne_ := zN (show br ≠ w5.heap.size from Nat.ne_of_lt (blk_lt BR.out));clear BC BR HB BH;have BC := mBC_;have BR := mBR_;have HB := mHB_;have BH := mBH_;have BF := mn_;have NEBF := mne_;clear mn_ mne_ mBC_ mBR_ mHB_ mBH_;generalize w5.alloc (.cells #[.string s1, .string s2, .string pool] 64 (0, 0)) = w6 at BC BR HB BH BF ⊢;generalize w5.heap.size = bf at BF NEBF ⊢;cases ok
  · have h_ := HH.out;rw [zn (by simp)] at h_;simp only [Option.some.injEq, Prod.mk.injEq] at h_;obtain ⟨rfl, rfl, rfl, rfl⟩ := h_;clear HH;have q0 : w6.cell? ⟨bc, 0, none⟩ = some (.int .i64 v) := (blk_cell BC.out 0).trans rfl;have z0 : w6.cell? ⟨br, 0, none⟩ = some (.int .i64 0) := (blk_cell BR.out 0).trans rfl;have y0 := blk_frozen BR.out 0;have z1 : w6.cell? ⟨br, 1, none⟩ = some (.int .i64 0) := (blk_cell BR.out 1).trans rfl;have y1 := blk_frozen BR.out 1;have z2 : w6.cell? ⟨br, 2, none⟩ = some (.string ⟨#[]⟩) := (blk_cell BR.out 2).trans rfl;have y2 := blk_frozen BR.out 2;have z3 : w6.cell? ⟨br, 3, none⟩ = some (.string ⟨#[]⟩) := (blk_cell BR.out 3).trans rfl;have y3 := blk_frozen BR.out 3;go_wp2;refine bodyPost_ret (results_single rfl (Vals.cell br 43 #[.int .i64 404, .int .i64 v, .string ⟨#[]⟩, .string ⟨#[]⟩] (0, 0) _ rfl (blk_put (cs' := #[.int .i64 404, .int .i64 v, .string ⟨#[]⟩, .string ⟨#[]⟩]) (blk_put (cs' := #[.int .i64 404, .int .i64 v, .string ⟨#[]⟩, .string ⟨#[]⟩]) (blk_put (cs' := #[.int .i64 404, .int .i64 v, .string ⟨#[]⟩, .string ⟨#[]⟩]) (blk_put (cs' := #[.int .i64 404, .int .i64 0, .string ⟨#[]⟩, .string ⟨#[]⟩]) BR.out 0 (.int .i64 404) rfl) 1 (.int .i64 v) rfl) 2 (.string ⟨#[]⟩) rfl) 3 (.string ⟨#[]⟩) rfl) Tryz.underlying43 rfl zQ Vals.nil)) rfl ?_;exact ⟨rfl, below_set (below_set (below_set (below_set HB.out GR.out.1) GR.out.1) GR.out.1) GR.out.1⟩
  have h_ := HH.out;rw [zp rfl] at h_;clear HH;have HH := zN h_;clear h_;go_wp2;go_loopg [12] (f2.length + 1) (fun n v12 wr => ∃ (i kk : Nat), v12 = .int .i64 (i : Int) ∧ Aside0 (i + n = f2.length + 1 ∧ i ≤ f2.length) ∧ Aside0 (refServe.l0 kk d i v f2 pool = some (r1, r2, r3, r4)) ∧ Aside0 (wr.heap[bc]? = some (.cells #[.int .i64 v, .slice A1 f1.length c1, .slice A2 f2.length c2] 28 (0, 0))) ∧ Aside0 (wr.heap[br]? = some (.cells #[.int .i64 0, .int .i64 0, .string ⟨#[]⟩, .string ⟨#[]⟩] 43 (0, 0))) ∧ Aside0 (wr.heap[bf]? = some (.cells #[.string s1, .string s2, .string pool] 64 (0, 0))) ∧ Aside0 (Below w.heap.size w wr))
  case atStart => exact ⟨0, k, rfl, ⟨zO, zO⟩, ⟨HH.out⟩, ⟨BC.out⟩, ⟨BR.out⟩, ⟨BF.out⟩, ⟨HB.out⟩⟩
  case round =>
    clear HH BC BR BF BH HB NEBH NEBF;obtain ⟨i, kk, rfl, HN, HH, BC, BR, BF, HB⟩ := hrel;cases kk
    · exact absurd HH.out (by simp [refServe.l0])
    rename_i kk
    have h_ := HH.out;clear HH;rw [refServe.l0] at h_
    rcases Nat.lt_or_ge i f2.length with hi | hi
    rotate_left
    · rw [zn zO] at h_;simp only [Option.some.injEq, Prod.mk.injEq] at h_;obtain ⟨rfl, rfl, rfl, rfl⟩ := h_;have e1 : decide ((i : Int) < (f2.length : Int)) = false := zf zO;have r2 : wr.cell? ⟨bc, 2, none⟩ = some (.slice A2 f2.length c2) := (blk_cell BC.out 2).trans rfl;have q0 : wr.cell? ⟨bc, 0, none⟩ = some (.int .i64 v) := (blk_cell BC.out 0).trans rfl;have p2 : wr.cell? ⟨bf, 2, none⟩ = some (.string pool) := (blk_cell BF.out 2).trans rfl;have z0 : wr.cell? ⟨br, 0, none⟩ = some (.int .i64 0) := (blk_cell BR.out 0).trans rfl;have y0 := blk_frozen BR.out 0;have z1 : wr.cell? ⟨br, 1, none⟩ = some (.int .i64 0) := (blk_cell BR.out 1).trans rfl;have y1 := blk_frozen BR.out 1;have z2 : wr.cell? ⟨br, 2, none⟩ = some (.string ⟨#[]⟩) := (blk_cell BR.out 2).trans rfl;have y2 := blk_frozen BR.out 2;have z3 : wr.cell? ⟨br, 3, none⟩ = some (.string ⟨#[]⟩) := (blk_cell BR.out 3).trans rfl;have y3 := blk_frozen BR.out 3;go_wp2;refine bodyPost_ret (results_single rfl (Vals.cell br 43 #[.int .i64 503, .int .i64 v, .string pool, .string ⟨#[]⟩] (0, 0) _ rfl (blk_put (cs' := #[.int .i64 503, .int .i64 v, .string pool, .string ⟨#[]⟩]) (blk_put (cs' := #[.int .i64 503, .int .i64 v, .string pool, .string ⟨#[]⟩]) (blk_put (cs' := #[.int .i64 503, .int .i64 v, .string ⟨#[]⟩, .string ⟨#[]⟩]) (blk_put (cs' := #[.int .i64 503, .int .i64 0, .string ⟨#[]⟩, .string ⟨#[]⟩]) BR.out 0 (.int .i64 503) rfl) 1 (.int .i64 v) rfl) 2 (.string pool) rfl) 3 (.string ⟨#[]⟩) rfl) Tryz.underlying43 rfl zQ Vals.nil)) rfl ?_;exact ⟨rfl, below_set (below_set (below_set (below_set HB.out GR.out.1) GR.out.1) GR.out.1) GR.out.1⟩
    rw [zp hi] at h_;have e1 : decide ((i : Int) < (f2.length : Int)) = true := zt zO;have q2 : wr.cell? ⟨bc, 2, none⟩ = some (.slice A2 f2.length c2) := (blk_cell BC.out 2).trans rfl;obtain ⟨ad, TA, tc, hAd, x0, x1, htc, hC⟩ := at_T39 (Kd.C_below HR2.out HB.out) (i : Int) zO zO;simp only [Int.toNat_natCast] at x0 x1;subst hAd;have X0 := zN x0;have X1 := zN x1;have XC := zN hC;have XT := zN htc;clear x0 x1 hC htc;generalize hp_ : rd_T39 f2 (i : Int) = pl at X0 X1 XC XT h_;clear hp_;have HH := zN h_;clear h_;go_wp2;clear q2;have q2 : wr.cell? ⟨bc, 2, none⟩ = some (.slice (some ad) f2.length c2) := (blk_cell BC.out 2).trans rfl;have x0 := X0.out;have p2 : wr.cell? ⟨bf, 2, none⟩ = some (.string pool) := (blk_cell BF.out 2).trans rfl;by_cases he : pl.f0.toList = pool.toList;rotate_left
    · have h_ := HH.out;rw [zn he] at h_;clear HH;have HH := zN h_;clear h_;have e3 : (pl.f0.toList == pool.toList) = false := by simpa using he
      have e4 : (pl.f0.toList != pool.toList) = true := by simpa using he
      clear he;refine start_ (n := 9) (S := fun w' => w'.cell? ⟨bc, 2, none⟩ = some (.slice (some ad) f2.length c2) ∧ w'.cell? (ad.add (i * 2)) = some (.string pl.f0) ∧ w'.cell? ⟨bf, 2, none⟩ = some (.string pool)) (ds := []) #[false, false, false, false, false, false, false, false, false] zQ rfl rfl ⟨q2, x0, p2⟩ (fun hHeld => ?_);refine with_tab (T := rserve_T10) rserve_T10_is (fun HT_ => ?_);clear q2 x0 p2;refine zU (i := 0) (N := some 47) #[true, false, false, false, false, false, false, false, false] rfl rfl HT_ ?_;refine take_ (i := 1) (N := some 48) (v := ?_) (a' := ?_) #[true, true, false, false, false, false, false, false, false] rfl rfl (take_of HT_.out zQ) (fun _ _ _ h => h) (Or.inl ⟨by rfl, ?_⟩) hHeld ?_ ?_;rotate_left
      · rintro w' ⟨s0, s1, s2⟩;go_simp
        with_reducible rfl
      rotate_left
      · simp only [zP];rfl
      refine zU (i := 2) (N := some 49) #[true, true, true, false, false, false, false, false, false] rfl rfl HT_ ?_;refine zU (i := 3) (N := some 50) #[true, true, true, true, false, false, false, false, false] rfl rfl HT_ ?_;refine zU (i := 4) (N := some 51) #[true, true, true, true, true, false, false, false, false] rfl rfl HT_ ?_;refine take_ (i := 5) (N := some 52) (v := ?_) (a' := ?_) #[true, true, true, true, true, true, false, false, false] rfl rfl (take_of HT_.out zQ) (fun _ _ _ h => h) (Or.inl ⟨by rfl, ?_⟩) hHeld ?_ ?_;rotate_left
      · rintro w' ⟨s0, s1, s2⟩;go_simp
        with_reducible rfl
      rotate_left
      · simp only [zP];rfl
      refine zU (i := 6) (N := some 53) #[true, true, true, true, true, true, true, false, false] rfl rfl HT_ ?_;refine take_ (i := 7) (N := some 54) (v := ?_) (a' := ?_) #[true, true, true, true, true, true, true, true, false] rfl rfl (take_of HT_.out zQ) (fun _ _ _ h => h) (Or.inl ⟨by rfl, ?_⟩) hHeld ?_ ?_;rotate_left
      · rintro w' ⟨s0, s1, s2⟩;go_simp
        with_reducible rfl
      rotate_left
      · simp only [zP];rfl
      refine zU (i := 8) (N := some 55) #[true, true, true, true, true, true, true, true, true] rfl rfl HT_ ?_;refine done_ (done_of HT_.out zQ) ?_;clear HT_;clear hHeld;have m0_ := zN (blk_drew BC.out);have m1_ := zN (blk_drew BR.out);have m2_ := zN (blk_drew BF.out);have m3_ := zN (below_drew1 HB.out);clear BC BR BF HB;have BC := m0_;have BR := m1_;have BF := m2_;have HB := m3_;clear m0_ m1_ m2_ m3_;generalize wr.drew = wd at BC BR BF HB ⊢;have hi9 : i < 2000 := by omega
      go_wp2;go_roundg (f2.length - i)
      case measure => have := HN.out; omega
      case rel => exact ⟨i + 1, kk, zI, ⟨by have := HN.out; omega⟩, ⟨HH.out⟩, ⟨BC.out⟩, ⟨BR.out⟩, ⟨BF.out⟩, ⟨HB.out⟩⟩
    have h_ := HH.out;rw [zp he] at h_;obtain ⟨⟨t1, t2⟩, hW, h2_⟩ := Option.bind_eq_some_iff.1 h_;simp only at h2_;clear HH h_;have HW := zN hW;have HH := zN h2_;clear hW h2_;have e3 : (pl.f0.toList == pool.toList) = true := by rw [he]; exact beq_self_eq_true _
    have e4 : (pl.f0.toList != pool.toList) = false := by simp [he]
    clear he;refine start_ (n := 9) (S := fun w' => w'.cell? ⟨bc, 2, none⟩ = some (.slice (some ad) f2.length c2) ∧ w'.cell? (ad.add (i * 2)) = some (.string pl.f0) ∧ w'.cell? ⟨bf, 2, none⟩ = some (.string pool)) (ds := []) #[false, false, false, false, false, false, false, false, false] zQ rfl rfl ⟨q2, x0, p2⟩ (fun hHeld => ?_);refine with_tab (T := rserve_T10) rserve_T10_is (fun HT_ => ?_);clear q2 x0 p2;refine zU (i := 0) (N := some 47) #[true, false, false, false, false, false, false, false, false] rfl rfl HT_ ?_;refine take_ (i := 1) (N := some 48) (v := ?_) (a' := ?_) #[true, true, false, false, false, false, false, false, false] rfl rfl (take_of HT_.out zQ) (fun _ _ _ h => h) (Or.inl ⟨by rfl, ?_⟩) hHeld ?_ ?_;rotate_left
    · rintro w' ⟨s0, s1, s2⟩;go_simp
      with_reducible rfl
    rotate_left
    · simp only [zP];rfl
    refine zU (i := 2) (N := some 49) #[true, true, true, false, false, false, false, false, false] rfl rfl HT_ ?_;refine zU (i := 3) (N := some 50) #[true, true, true, true, false, false, false, false, false] rfl rfl HT_ ?_;refine zU (i := 4) (N := some 51) #[true, true, true, true, true, false, false, false, false] rfl rfl HT_ ?_;refine take_ (i := 5) (N := some 52) (v := ?_) (a' := ?_) #[true, true, true, true, true, true, false, false, false] rfl rfl (take_of HT_.out zQ) (fun _ _ _ h => h) (Or.inl ⟨by rfl, ?_⟩) hHeld ?_ ?_;rotate_left
    · rintro w' ⟨s0, s1, s2⟩;go_simp
      with_reducible rfl
    rotate_left
    · simp only [zP];rfl
    refine zU (i := 6) (N := some 53) #[true, true, true, true, true, true, true, false, false] rfl rfl HT_ ?_;refine take_ (i := 7) (N := some 54) (v := ?_) (a' := ?_) #[true, true, true, true, true, true, true, true, false] rfl rfl (take_of HT_.out zQ) (fun _ _ _ h => h) (Or.inl ⟨by rfl, ?_⟩) hHeld ?_ ?_;rotate_left
    · rintro w' ⟨s0, s1, s2⟩;go_simp
      with_reducible rfl
    rotate_left
    · simp only [zP];rfl
    refine zU (i := 8) (N := some 55) #[true, true, true, true, true, true, true, true, true] rfl rfl HT_ ?_;refine done_ (done_of HT_.out zQ) ?_;clear HT_;clear hHeld;have m0_ := zN (blk_drew BC.out);have m1_ := zN (blk_drew BR.out);have m2_ := zN (blk_drew BF.out);have m3_ := zN (below_drew1 HB.out);have m4_ := zN (cell_drew X0.out);have m5_ := zN (cell_drew X1.out);have m6_ := zN (Kd.C_drew XC.out);clear BC BR BF HB X0 X1 XC;have BC := m0_;have BR := m1_;have BF := m2_;have HB := m3_;have X0 := m4_;have X1 := m5_;have XC := m6_;clear m0_ m1_ m2_ m3_ m4_ m5_ m6_;generalize wr.drew = wd at BC BR BF HB X0 X1 XC ⊢;have y1 := X1.out;have q2 : wd.cell? ⟨bc, 2, none⟩ = some (.slice (some ad) f2.length c2) := (blk_cell BC.out 2).trans rfl;go_wp2_with fail;refine (tollgateref10_Weigh.calls kk TA tc pl.f1 d t1 t2 wd XC.out XT.out HW.out).mono ?_;rintro e we ⟨rfl, hd⟩;have hb := hd.below;clear hd;have m0_ := zN (blk_below BC.out hb);have m1_ := zN (blk_below BR.out hb);have m2_ := zN (blk_below BF.out hb);have m3_ := zN (below_step HB.out hb);have m4_ := zN (pw_cell_below hb X0.out);have m5_ := zN (pw_cell_below hb X1.out);have m6_ := zN (Kd.C_below XC.out hb);clear BC BR BF HB X0 X1 XC hb y1 q2;have BC := m0_;have BR := m1_;have BF := m2_;have HB := m3_;have X0 := m4_;have X1 := m5_;have XC := m6_;clear m0_ m1_ m2_ m3_ m4_ m5_ m6_;cases t2
    · have h_ := HH.out;rw [zn (by simp)] at h_;simp only [Option.some.injEq, Prod.mk.injEq] at h_;obtain ⟨rfl, rfl, rfl, rfl⟩ := h_;clear HH;have q0 : we.cell? ⟨bc, 0, none⟩ = some (.int .i64 v) := (blk_cell BC.out 0).trans rfl;have p2 : we.cell? ⟨bf, 2, none⟩ = some (.string pool) := (blk_cell BF.out 2).trans rfl;have z0 : we.cell? ⟨br, 0, none⟩ = some (.int .i64 0) := (blk_cell BR.out 0).trans rfl;have y0 := blk_frozen BR.out 0;have z1 : we.cell? ⟨br, 1, none⟩ = some (.int .i64 0) := (blk_cell BR.out 1).trans rfl;have y1 := blk_frozen BR.out 1;have z2 : we.cell? ⟨br, 2, none⟩ = some (.string ⟨#[]⟩) := (blk_cell BR.out 2).trans rfl;have y2 := blk_frozen BR.out 2;have z3 : we.cell? ⟨br, 3, none⟩ = some (.string ⟨#[]⟩) := (blk_cell BR.out 3).trans rfl;have y3 := blk_frozen BR.out 3;go_wp2;refine bodyPost_ret (results_single rfl (Vals.cell br 43 #[.int .i64 503, .int .i64 v, .string pool, .string ⟨#[]⟩] (0, 0) _ rfl (blk_put (cs' := #[.int .i64 503, .int .i64 v, .string pool, .string ⟨#[]⟩]) (blk_put (cs' := #[.int .i64 503, .int .i64 v, .string pool, .string ⟨#[]⟩]) (blk_put (cs' := #[.int .i64 503, .int .i64 v, .string ⟨#[]⟩, .string ⟨#[]⟩]) (blk_put (cs' := #[.int .i64 503, .int .i64 0, .string ⟨#[]⟩, .string ⟨#[]⟩]) BR.out 0 (.int .i64 503) rfl) 1 (.int .i64 v) rfl) 2 (.string pool) rfl) 3 (.string ⟨#[]⟩) rfl) Tryz.underlying43 rfl zQ Vals.nil)) rfl ?_;exact ⟨rfl, below_set (below_set (below_set (below_set HB.out GR.out.1) GR.out.1) GR.out.1) GR.out.1⟩
    have h_ := HH.out;rw [zp rfl] at h_;by_cases hb_ : 0 ≤ t1 ∧ t1 < (pl.f1.length : Int);rotate_left
    · rw [zn hb_] at h_; cases h_
    rw [zp hb_] at h_;simp only [Option.some.injEq, Prod.mk.injEq] at h_;obtain ⟨rfl, rfl, rfl, rfl⟩ := h_;clear HH;obtain ⟨h0_, h1_⟩ := hb_;obtain ⟨ta, hTA, y0, _⟩ := at_T41 XC.out t1 h0_ h1_;subst hTA;have Y0 := zN y0;clear y0;generalize ht_ : rd_T41 pl.f1 t1 = tg at Y0;have HT := zN ht_;clear ht_;go_wp2;refine start_ (n := 16) (S := fun w' => w'.cell? ⟨bc, 0, none⟩ = some (.int .i64 v) ∧ w'.cell? ⟨bf, 2, none⟩ = some (.string pool) ∧ w'.cell? ⟨bc, 2, none⟩ = some (.slice (some ad) f2.length c2) ∧ w'.cell? ⟨(ad.add (i * 2)).block, (ad.add (i * 2)).off + 1, none⟩ = some (.slice (some ta) pl.f1.length tc) ∧ w'.cell? (ta.add (t1.toNat * 2)) = some (.string tg.f0)) (ds := [15]) #[false, false, false, false, false, false, false, false, false, false, false, false, false, false, false, false] zQ rfl rfl ⟨(blk_cell BC.out 0).trans rfl, (blk_cell BF.out 2).trans rfl, (blk_cell BC.out 2).trans rfl, X1.out, Y0.out⟩ (fun hHeld => ?_);refine with_tab (T := rserve_T13) rserve_T13_is (fun HT_ => ?_);have m0_ := zN (blk_drew BR.out);have m1_ := zN (below_drew1 HB.out);clear BR HB;have BR := m0_;have HB := m1_;clear m0_ m1_;generalize we.drew = wf at hHeld BR HB ⊢;refine zU (i := 0) (N := some 69) #[true, false, false, false, false, false, false, false, false, false, false, false, false, false, false, false] rfl rfl HT_ ?_;refine take_ (i := 1) (N := some 70) (v := ?_) (a' := ?_) #[true, true, false, false, false, false, false, false, false, false, false, false, false, false, false, false] rfl rfl (take_of HT_.out zQ) (fun _ _ _ h => h) (Or.inl ⟨by rfl, ?_⟩) hHeld ?_ ?_;rotate_left
    · rintro w' ⟨s0, s1, s2, s3, s4⟩;go_simp
      with_reducible rfl
    rotate_left
    · simp only [zP];rfl
    refine zU (i := 2) (N := some 71) #[true, true, true, false, false, false, false, false, false, false, false, false, false, false, false, false] rfl rfl HT_ ?_;refine take_ (i := 3) (N := some 72) (v := ?_) (a' := ?_) #[true, true, true, true, false, false, false, false, false, false, false, false, false, false, false, false] rfl rfl (take_of HT_.out zQ) (fun _ _ _ h => h) (Or.inl ⟨by rfl, ?_⟩) hHeld ?_ ?_;rotate_left
    · rintro w' ⟨s0, s1, s2, s3, s4⟩;go_simp
      with_reducible rfl
    rotate_left
    · simp only [zP];rfl
    refine zU (i := 4) (N := some 73) #[true, true, true, true, true, false, false, false, false, false, false, false, false, false, false, false] rfl rfl HT_ ?_;refine take_ (i := 5) (N := some 74) (v := ?_) (a' := ?_) #[true, true, true, true, true, true, false, false, false, false, false, false, false, false, false, false] rfl rfl (take_of HT_.out zQ) (fun _ _ _ h => h) (Or.inl ⟨by rfl, ?_⟩) hHeld ?_ ?_;rotate_left
    · rintro w' ⟨s0, s1, s2, s3, s4⟩;go_simp
      with_reducible rfl
    rotate_left
    · simp only [zP];rfl
    refine zU (i := 6) (N := some 75) #[true, true, true, true, true, true, true, false, false, false, false, false, false, false, false, false] rfl rfl HT_ ?_;refine zU (i := 7) (N := some 76) #[true, true, true, true, true, true, true, true, false, false, false, false, false, false, false, false] rfl rfl HT_ ?_;refine zU (i := 8) (N := some 77) #[true, true, true, true, true, true, true, true, true, false, false, false, false, false, false, false] rfl rfl HT_ ?_;refine take_ (i := 9) (N := some 78) (v := ?_) (a' := ?_) #[true, true, true, true, true, true, true, true, true, true, false, false, false, false, false, false] rfl rfl (take_of HT_.out zQ) (fun _ _ _ h => h) (Or.inl ⟨by rfl, ?_⟩) hHeld ?_ ?_;rotate_left
    · rintro w' ⟨s0, s1, s2, s3, s4⟩;go_simp
      with_reducible rfl
    rotate_left
    · simp only [zP];rfl
    refine zU (i := 10) (N := some 79) #[true, true, true, true, true, true, true, true, true, true, true, false, false, false, false, false] rfl rfl HT_ ?_;refine zU (i := 11) (N := some 80) #[true, true, true, true, true, true, true, true, true, true, true, true, false, false, false, false] rfl rfl HT_ ?_;refine zU (i := 12) (N := some 81) #[true, true, true, true, true, true, true, true, true, true, true, true, true, false, false, false] rfl rfl HT_ ?_;refine take_ (i := 13) (N := some 82) (v := ?_) (a' := ?_) #[true, true, true, true, true, true, true, true, true, true, true, true, true, true, false, false] rfl rfl (take_of HT_.out zQ) (fun _ _ _ h => h) (Or.inl ⟨by rfl, ?_⟩) hHeld ?_ ?_;rotate_left
    · rintro w' ⟨s0, s1, s2, s3, s4⟩;go_simp
      with_reducible rfl
    rotate_left
    · simp only [zP];rfl
    refine zU (i := 14) (N := some 83) #[true, true, true, true, true, true, true, true, true, true, true, true, true, true, true, false] rfl rfl HT_ ?_;refine last_ (i := 15) (N := none) #[true, true, true, true, true, true, true, true, true, true, true, true, true, true, true, true] rfl rfl (one_of HT_.out zQ) (by decide) (fun K hK => ?_);have z0 : wf.cell? ⟨br, 0, none⟩ = some (.int .i64 0) := (blk_cell BR.out 0).trans rfl;have y0 := blk_frozen BR.out 0;have z1 : wf.cell? ⟨br, 1, none⟩ = some (.int .i64 0) := (blk_cell BR.out 1).trans rfl;have y1 := blk_frozen BR.out 1;have z2 : wf.cell? ⟨br, 2, none⟩ = some (.string ⟨#[]⟩) := (blk_cell BR.out 2).trans rfl;have y2 := blk_frozen BR.out 2;have z3 : wf.cell? ⟨br, 3, none⟩ = some (.string ⟨#[]⟩) := (blk_cell BR.out 3).trans rfl;have y3 := blk_frozen BR.out 3;refine skip_ (w1 := ?_) (by rfl) rfl ?_ ?_;rotate_left
    · go_simp;rfl
    refine hK.out _ _ ?_;clear hK K z0 z1 z2 z3 y0 y1 y2 y3 hHeld;refine done_ (done_of HT_.out zQ) ?_;clear HT_;go_wp2;refine bodyPost_ret (results_single rfl (Vals.cell br 43 #[.int .i64 200, .int .i64 v, .string pool, .string tg.f0] (0, 0) _ rfl (blk_put (cs' := #[.int .i64 200, .int .i64 v, .string pool, .string tg.f0]) (blk_put (cs' := #[.int .i64 200, .int .i64 v, .string pool, .string ⟨#[]⟩]) (blk_put (cs' := #[.int .i64 200, .int .i64 v, .string ⟨#[]⟩, .string ⟨#[]⟩]) (blk_put (cs' := #[.int .i64 200, .int .i64 0, .string ⟨#[]⟩, .string ⟨#[]⟩]) BR.out 0 (.int .i64 200) rfl) 1 (.int .i64 v) rfl) 2 (.string pool) rfl) 3 (.string tg.f0) rfl) Tryz.underlying43 rfl zQ Vals.nil)) rfl ?_;exact ⟨by rw [HT.out], below_set (below_set (below_set (below_set HB.out GR.out.1) GR.out.1) GR.out.1) GR.out.1⟩
end Go.Proofs.YtahaihnlkohhgaaGreatDoor.S
end
section
namespace Go.Proofs.YtahaihnlkohhgaaGreatDoor.S
open Go.RowKit Go.Proofs.YtahaihnlkohhgaaGreatDoorW.PrintWords Go.Proofs.YtahaihnlkohhgaaGreatDoorW.PrintLast Go.Proofs.YtahaihnlkohhgaaGreatDoorW.PrintMore
attribute [local go_sem] max2_int min2_int max_two min_two max_three min_three max_four min_four
attribute [local go_sem] fbin_eql fbin_neq fbin_lss fbin_leq fbin_gtr fbin_geq frun_add frun_sub frun_mul frun_quo frun_store fun_neg fcv_int fcv_same fb41 fb85
set_option linter.unusedVariables false
set_option linter.unusedSimpArgs false
def bytes_Index.f (l0 l1 : List Int) : Option Int := if (l0.all fun x => decide (0 ≤ x ∧ x < 256)) = true ∧ (l1.all fun x => decide (0 ≤ x ∧ x < 256)) = true ∧ l0.length < 4294967281 ∧ 2 ≤ l1.length ∧ l1.length ≤ 9223372036854775807 then some (Lib.index (Lib.bytesOf l0) (Lib.bytesOf l1)) else none
theorem bytes_Index.calls (A0 : Option Addr) (c0 : Nat) (l0 : List Int) (A1 : Option Addr) (c1 : Nat) (l1 : List Int) (r : Int) (w : World) (hml : ML w) (hr0 : Kd.C (Kd.int .u8) w A0 l0.length l0) (hc0 : l0.length ≤ c0) (hr1 : Kd.C (Kd.int .u8) w A1 l1.length l1) (hc1 : l1.length ≤ c1) (h : bytes_Index.f l0 l1 = some r) :
    Calls Tryz.prog 46 #[.slice A0 l0.length c0, .slice A1 l1.length c1] w fun e w' => e = .returned (.int .i64 r) ∧ Drawn0 w w' := by
  obtain ⟨m, hm⟩ := hml;unfold bytes_Index.f at h
  split at h
  rotate_left
  · cases h
  rename_i hs
  obtain ⟨h1, h2, h3, h4, h5⟩ := hs;obtain rfl := zo h;have b1 : ∀ x ∈ l0, 0 ≤ x ∧ x < 256 := fun x hx => zd (List.all_eq_true.1 h1 x hx)
  have b2 : ∀ x ∈ l1, 0 ≤ x ∧ x < 256 := fun x hx => zd (List.all_eq_true.1 h2 x hx)
  have hR0 := Kd.reads_of_C (d := (0 : Int)) hr0;have hR1 := Kd.reads_of_C (d := (0 : Int)) hr1;obtain ⟨ad1, rfl, hc1'⟩ := hR1.2.2 zO;by_cases hl : l0.length < l1.length
  · have hx : Lib.index (Lib.bytesOf l0) (Lib.bytesOf l1) = -1 := Lib.index_long (by simp [Lib.bytesOf]; omega) (fun e => by have := congrArg List.length e; simp [Lib.bytesOf] at this; omega);rw [hx];exact (Any.bytes_Index_longer Tryz.lays185 A0 (some ad1) l0.length c0 l1.length c1 w h4 hl h5).mono fun e w' ⟨p, q⟩ => ⟨p, 0, q⟩
  obtain ⟨ad0, rfl, hc0'⟩ := hR0.2.2 zO;exact (Tryz.bytes_Index_at ad0 ad1 l0.length c0 l1.length c1 l0 l1 m w rfl rfl b1 b2 hc0' hc1' hc0 h3 h5 hm).mono fun e w' ⟨p, n, q⟩ => ⟨p, n, q⟩


-- NOT PRINTED: function 107 (utf8_decodeRuneInStringSlow)

-- NOT PRINTED: function 98 (utf8_DecodeRuneInString)

-- NOT PRINTED: function 102 (utf8_RuneCountInString)

-- NOT PRINTED: function 90 (strings_explode)

-- NOT PRINTED: function 106 (bytealg_IndexByteString)

-- NOT PRINTED: function 94 (stringslite_IndexByte)

-- NOT PRINTED: function 104 (bytealg_IndexString)

-- NOT PRINTED: function 93 (stringslite_Index)

-- NOT PRINTED: function 92 (strings_Index)

-- NOT PRINTED: function 103 (bytealg_CountString)

-- NOT PRINTED: function 91 (strings_Count)

-- NOT PRINTED: function 68 (strings_genSplit)

def strings_Split.f (a0 a1 : ByteArray) : Option (List ByteArray) := if a0.size < 4294967281 ∧ 1 ≤ a1.size then some (Lib.splitB a1 0 (Lib.countB a0 a1) a0) else none
theorem strings_Split.calls (a0 a1 : ByteArray) (r : List ByteArray) (w : World) (hml : ML w) (h : strings_Split.f a0 a1 = some r) :
    Calls Tryz.prog 47 #[.string a0, .string a1] w fun e w' => ∃ v0_ : Value, e = .returned (v0_) ∧ Kd.R Kd.string 9 w' w.heap.size (fun _ => True) v0_ r ∧ Below w.heap.size w w' := by
  obtain ⟨m, hm⟩ := hml;unfold strings_Split.f at h
  split at h
  rotate_left
  · cases h
  rename_i hs
  obtain rfl := zo h;refine (Tryz.strings_Split a0 a1 m w hs.1 hm hs.2).mono ?_;rintro e w' ⟨rfl, rfl⟩;have hlen := Lib.splitB_all a1 hs.2 0 _ a0 rfl;have hle := Lib.countB_le a1 hs.2 a0.size a0 (zh _);refine ⟨_, rfl, ?_, (Below.refl _ _).alloc (zh _) _⟩;rw [← hlen];refine Kd.R_of_own (enc := Value.string) ?_ (fun _ _ => trivial);have h2 := World.ownsRow_lit (base := w.heap.size) (e := 9) (size := 1) w ((Lib.splitB a1 0 (Lib.countB a0 a1) a0).map Value.string).toArray (Lib.splitB a1 0 (Lib.countB a0 a1) a0).length (zh _) (by simp [maxLen]; omega) (by simp);simpa [encs] using h2


-- NOT PRINTED: function 69 (stringslite_Cut)

def strings_Cut.f (a0 a1 : ByteArray) : Option (ByteArray × ByteArray × Bool) := if a0.size < 4294967281 then some (⟨(Lib.cut a0.data.toList a1.data.toList).1.toArray⟩, ⟨(Lib.cut a0.data.toList a1.data.toList).2.1.toArray⟩, (Lib.cut a0.data.toList a1.data.toList).2.2) else none
theorem strings_Cut.calls (a0 a1 : ByteArray) (r1 r2 : ByteArray) (r3 : Bool) (w : World) (hml : ML w) (h : strings_Cut.f a0 a1 = some (r1, r2, r3)) :
    Calls Tryz.prog 48 #[.string a0, .string a1] w fun e w' => e = .returned (.tuple #[.string r1, .string r2, .bool r3]) ∧ Drawn0 w w' := by
  obtain ⟨m, hm⟩ := hml;unfold strings_Cut.f at h
  split at h
  · rename_i hs
    simp only [Option.some.injEq, Prod.mk.injEq] at h;obtain ⟨rfl, rfl, rfl⟩ := h;exact (Tryz.strings_Cut a0 a1 m w hs hm).mono fun e w' ⟨h1, n, h2⟩ => ⟨h1, n, h2⟩
  cases h


def lowB (b : UInt8) : UInt8 := if 65 ≤ b.toNat ∧ b.toNat ≤ 90 then b + 32 else b
def head_lower.f (a0 : ByteArray) : Option ByteArray := if a0.size ≤ 9223372036854775807 then some ⟨(a0.data.toList.map lowB).toArray⟩ else none
def mixL (l : List UInt8) (i : Nat) : List UInt8 := (l.take i).map lowB ++ l.drop i
theorem mixL_length (l : List UInt8) (i : Nat) : (mixL l i).length = l.length := by simp [mixL]; omega
theorem mixL_get (l : List UInt8) (i : Nat) (hi : i < l.length) (h : i < (mixL l i).length) : (mixL l i)[i] = l[i] := by
  simp only [mixL];rw [List.getElem_append_right (by simp; omega)];simp
  congr 1
  omega
theorem mixL_set (l : List UInt8) (i : Nat) (hi : i < l.length) : (mixL l i).set i (lowB l[i]) = mixL l (i + 1) := by
  have hlen : (List.map lowB (List.take i l)).length = i := by simp; omega
  simp only [mixL];rw [List.drop_eq_getElem_cons hi, List.set_append_right _ _ zO, hlen, Nat.sub_self, List.set_cons_zero, List.take_add_one, zr hi, List.map_append, List.append_assoc];rfl
theorem mixL_same (l : List UInt8) (i : Nat) (hi : i < l.length) (h : lowB l[i] = l[i]) : mixL l i = mixL l (i + 1) := by
  rw [← mixL_set l i hi, h];have h2 := mixL_get l i hi (by rw [mixL_length]; exact hi);rw [← h2];exact (List.set_getElem_self _).symm
theorem lowB_up {b : UInt8} (h : 65 ≤ b.toNat ∧ b.toNat ≤ 90) : ((lowB b).toNat : Int) = (b.toNat : Int) + 32 := by
  unfold lowB;rw [zp h, UInt8.toNat_add];have : (32 : UInt8).toNat = 32 := rfl;rw [this, Nat.mod_eq_of_lt zO];omega
theorem below_setB {bk : Nat} {w W : World} (h : Below bk w W) {g j : Nat} {v : Value} (hg : bk ≤ g) : Below bk w (W.setCell ⟨g, j, none⟩ v) := h.setCell hg _
set_option maxHeartbeats 2000000 in
theorem head_lower.calls (a0 r : ByteArray) (w : World) (h : head_lower.f a0 = some r) :
    Calls Tryz.prog 53 #[.string a0] w fun e w' => e = .returned (.string r) ∧ Below w.heap.size w w' := by
  unfold head_lower.f at h
  split at h
  rotate_left
  · cases h
  rename_i hsz
  obtain rfl := zo h;clear h;have hlen : a0.data.toList.length = a0.size := by simp
  have kcv := Lib.run_convert_string_bytes (P := Tryz.prog) w 9 29 5 a0 Tryz.underlying9 Tryz.underlying29 Tryz.underlying5;have hb0 := bytes_below w 5 a0;have hm0 := MRow.new w 5 a0;generalize Lib.bytesWorld w 5 a0 = w1 at kcv hb0 hm0;generalize grownCap w a0.size 0 5 = cp at kcv;generalize hb : w.heap.size = bk at *;have HM0 := zN hm0;have HB0 := zN hb0;have HSZ := zN hsz;have HLEN := zN hlen;clear hm0 hb0 hlen;have hab : ∀ i : Nat, (Addr.add ⟨bk, 0, none⟩ i) = ⟨bk, i, none⟩ := fun i => by rw [add_plain]
  go_enter Tryz.func53, Tryz.ntmps53;go_wp2;go_loopg [10] (a0.size + 1) (fun n v10 wr => ∃ i : Nat, v10 = .int .i64 (i : Int) ∧ Aside0 (i + n = a0.size + 1 ∧ i ≤ a0.size) ∧ Aside0 (MRow wr bk 5 (mixL a0.data.toList i)) ∧ Aside0 (Below bk w wr))
  case atStart => exact ⟨0, rfl, ⟨zO, zO⟩, ⟨by simpa [mixL] using HM0.out⟩, ⟨HB0.out⟩⟩
  case round =>
    clear kcv;obtain ⟨i, rfl, HN, HM, HB⟩ := hrel;have hl := mixL_length a0.data.toList i
    rcases Nat.lt_or_ge i a0.size with hi | hi
    rotate_left
    · have c1 : decide ((i : Int) < (a0.size : Int)) = false := zf zO;have hi2 : i = a0.size := by have := HN.out; omega
      have hmx : mixL a0.data.toList i = a0.data.toList.map lowB := by rw [hi2, ← HLEN.out]; simp only [mixL, List.take_length, List.drop_length, List.append_nil]
      have hst := HM.out.string (P := Tryz.prog) Tryz.underlying29 Tryz.underlying5 Tryz.underlying9 (by rw [hl, HLEN.out]; exact HSZ.out);rw [hmx, List.length_map, HLEN.out] at hst;go_wp2;go_ret;exact ⟨rfl, HB.out⟩
    have hi' : i < a0.data.toList.length := by rw [HLEN.out]; exact hi
    have c1 : decide ((i : Int) < (a0.size : Int)) = true := zt zO;have hcell := HM.out.cell i zO;rw [mixL_get _ i hi'] at hcell;have hfz := HM.out.frozen i zO;have hset := HM.out.set i zO (lowB a0.data.toList[i]);rw [mixL_set _ i hi'] at hset;have HS := zN hset;clear hset hl;by_cases hu : 65 ≤ (a0.data.toList[i]).toNat ∧ (a0.data.toList[i]).toNat ≤ 90
    · have hv := lowB_up hu;generalize hx : ((a0.data.toList[i]).toNat : Int) = x at *;have hx1 : 65 ≤ x := by omega
      have hx2 : x ≤ 90 := by omega
      rw [hv] at HS;clear hv hu hx;go_wp2;go_roundg (a0.size - i)
      case measure => have := HN.out; omega
      case rel => exact ⟨i + 1, by simp, ⟨by have := HN.out; omega⟩, ⟨HS.out⟩, ⟨below_setB HB.out (zh _)⟩⟩
    have hs := mixL_same a0.data.toList i hi' (by unfold lowB; rw [zn hu]);have HS2 := zN (hs ▸ HM.out);clear hs HS;generalize hx : ((a0.data.toList[i]).toNat : Int) = x at *
    rcases Int.lt_or_le x 65 with hx1 | hx1
    · clear hx hu;go_wp2;go_roundg (a0.size - i)
      case measure => have := HN.out; omega
      case rel => exact ⟨i + 1, by simp, ⟨by have := HN.out; omega⟩, ⟨HS2.out⟩, ⟨HB.out⟩⟩
    have hx2 : 90 < x := by omega
    clear hx hu;go_wp2;go_roundg (a0.size - i)
    case measure => have := HN.out; omega
    case rel => exact ⟨i + 1, by simp, ⟨by have := HN.out; omega⟩, ⟨HS2.out⟩, ⟨HB.out⟩⟩


def head_alnum.f (a0 : Int) : Option (Bool) := if a0 ≥ 97 then (if a0 ≤ 122 then (some true) else (if a0 ≥ 65 then (if a0 ≤ 90 then (some true) else (if a0 ≥ 48 then (some (decide (a0 ≤ 57))) else (some false))) else (if a0 ≥ 48 then (some (decide (a0 ≤ 57))) else (some false)))) else (if a0 ≥ 65 then (if a0 ≤ 90 then (some true) else (if a0 ≥ 48 then (some (decide (a0 ≤ 57))) else (some false))) else (if a0 ≥ 48 then (some (decide (a0 ≤ 57))) else (some false)))
set_option maxHeartbeats 8000000 in
set_option maxRecDepth 100000 in
theorem head_alnum.calls (a0 : Int) (r : Bool) (w : World) (h : head_alnum.f a0 = some r) :
    Calls Tryz.prog 73 #[.int .u8 a0] w fun e w' => e = .returned (.bool r) ∧ Drawn0 w w' := by
  have H : (if a0 ≥ 97 then (if a0 ≤ 122 then (some true) else (if a0 ≥ 65 then (if a0 ≤ 90 then (some true) else (if a0 ≥ 48 then (some (decide (a0 ≤ 57))) else (some false))) else (if a0 ≥ 48 then (some (decide (a0 ≤ 57))) else (some false)))) else (if a0 ≥ 65 then (if a0 ≤ 90 then (some true) else (if a0 ≥ 48 then (some (decide (a0 ≤ 57))) else (some false))) else (if a0 ≥ 48 then (some (decide (a0 ≤ 57))) else (some false)))) = some r := h;clear h;by_cases c2 : a0 ≥ 97;rotate_left
  · rw [zn c2] at H;have c2b0 : decide (97 ≤ a0) = false := zf c2;clear c2;by_cases c8 : a0 ≥ 65;rotate_left
    · rw [zn c8] at H;have c8b0 : decide (65 ≤ a0) = false := zf c8;clear c8;by_cases c11 : a0 ≥ 48
      · rw [zp c11] at H;have c11b0 : decide (48 ≤ a0) = true := zt c11;clear c11;obtain rfl := zo H;go_enter Tryz.func73, Tryz.ntmps73;go_wp2;go_ret;exact ⟨zI, zD⟩
      rw [zn c11] at H;have c11b0 : decide (48 ≤ a0) = false := zf c11;clear c11;obtain rfl := zo H;go_enter Tryz.func73, Tryz.ntmps73;go_wp2;go_ret;exact ⟨zI, zD⟩
    rw [zp c8] at H;have c8b0 : decide (65 ≤ a0) = true := zt c8;clear c8;by_cases c9 : a0 ≤ 90
    · rw [zp c9] at H;have c9b0 := zt c9;clear c9;obtain rfl := zo H;go_enter Tryz.func73, Tryz.ntmps73;go_wp2;go_ret;exact ⟨zI, zD⟩
    rw [zn c9] at H;have c9b0 := zf c9;clear c9;by_cases c10 : a0 ≥ 48
    · rw [zp c10] at H;have c10b0 : decide (48 ≤ a0) = true := zt c10;clear c10;obtain rfl := zo H;go_enter Tryz.func73, Tryz.ntmps73;go_wp2;go_ret;exact ⟨zI, zD⟩
    rw [zn c10] at H;have c10b0 : decide (48 ≤ a0) = false := zf c10;clear c10;obtain rfl := zo H;go_enter Tryz.func73, Tryz.ntmps73;go_wp2;go_ret;exact ⟨zI, zD⟩
  rw [zp c2] at H;have c2b0 : decide (97 ≤ a0) = true := zt c2;clear c2;by_cases c3 : a0 ≤ 122
  · rw [zp c3] at H;have c3b0 := zt c3;clear c3;obtain rfl := zo H;go_enter Tryz.func73, Tryz.ntmps73;go_wp2;go_ret;exact ⟨zI, zD⟩
  rw [zn c3] at H;have c3b0 := zf c3;clear c3;by_cases c4 : a0 ≥ 65;rotate_left
  · rw [zn c4] at H;have c4b0 : decide (65 ≤ a0) = false := zf c4;clear c4;by_cases c7 : a0 ≥ 48
    · rw [zp c7] at H;have c7b0 : decide (48 ≤ a0) = true := zt c7;clear c7;obtain rfl := zo H;go_enter Tryz.func73, Tryz.ntmps73;go_wp2;go_ret;exact ⟨zI, zD⟩
    rw [zn c7] at H;have c7b0 : decide (48 ≤ a0) = false := zf c7;clear c7;obtain rfl := zo H;go_enter Tryz.func73, Tryz.ntmps73;go_wp2;go_ret;exact ⟨zI, zD⟩
  rw [zp c4] at H;have c4b0 : decide (65 ≤ a0) = true := zt c4;clear c4;by_cases c5 : a0 ≤ 90
  · rw [zp c5] at H;have c5b0 := zt c5;clear c5;obtain rfl := zo H;go_enter Tryz.func73, Tryz.ntmps73;go_wp2;go_ret;exact ⟨zI, zD⟩
  rw [zn c5] at H;have c5b0 := zf c5;clear c5;by_cases c6 : a0 ≥ 48
  · rw [zp c6] at H;have c6b0 : decide (48 ≤ a0) = true := zt c6;clear c6;obtain rfl := zo H;go_enter Tryz.func73, Tryz.ntmps73;go_wp2;go_ret;exact ⟨zI, zD⟩
  rw [zn c6] at H;have c6b0 : decide (48 ≤ a0) = false := zf c6;clear c6;obtain rfl := zo H;go_enter Tryz.func73, Tryz.ntmps73;go_wp2;go_ret;exact ⟨zI, zD⟩

def digB (b : UInt8) : Bool := decide (48 ≤ b.toNat ∧ b.toNat ≤ 57)
theorem dig_at {s : ByteArray} (h : s.data.toList.all digB = true) (i : Nat) (hi : i < s.size) : 48 ≤ (s[i]'hi).toNat ∧ (s[i]'hi).toNat ≤ 57 := by
 have hm : s[i]'hi ∈ s.data.toList := by
  have : s[i]'hi = s.data[i]'hi := rfl;rw [this, Array.mem_toList_iff];exact Array.getElem_mem _
 have := List.all_eq_true.1 h _ hm;simpa [digB] using this
theorem dig_all {s : ByteArray} (h : ∀ (i : Nat) (hi : i < s.size), 48 ≤ (s[i]'hi).toNat ∧ (s[i]'hi).toNat ≤ 57) : s.data.toList.all digB = true := by
 rw [List.all_eq_true];intro x hx;rw [Array.mem_toList_iff] at hx;obtain ⟨i, hi, rfl⟩ := Array.mem_iff_getElem.1 hx;have := h i hi;have h2 : s[i]'hi = s.data[i]'hi := rfl;rw [h2] at this;simp [digB, this]
mutual
def head_HostX.j0 : Nat → ByteArray → Bool → Option (ByteArray × Bool)
 | 0, _, _ => none
 | k + 1, x4, x36 => if x36 = true then (some ((⟨#[]⟩ : ByteArray), false)) else ((strings_Split.f x4 (⟨#[46]⟩ : ByteArray)).bind fun t323 => (head_HostX.l0 k x4 t323 (t323.length : Int) 0))
def head_HostX.l0 : Nat → ByteArray → List ByteArray → Int → Int → Option (ByteArray × Bool)
 | 0, _, _, _, _ => none
 | k + 1, x4, x38, x39, x40 => if x40 < x39 then (if 0 ≤ x40 then (if x40 < (x38.length : Int) then (head_HostX.l1 k x4 (rdOf ByteArray.empty x38 x40) x38 x39 x40 ((rdOf ByteArray.empty x38 x40).size : Int) 0) else (none)) else (none)) else ((head_lower.f x4).bind fun t326 => (some (t326, true)))
def head_HostX.l1 : Nat → ByteArray → ByteArray → List ByteArray → Int → Int → Int → Int → Option (ByteArray × Bool)
 | 0, _, _, _, _, _, _, _ => none
 | k + 1, x4, x10, x38, x39, x40, x45, x46 => if x46 < x45 then (if 0 ≤ x46 then (if x46 < (x10.size : Int) then ((head_alnum.f (bt x10 x46)).bind fun t328 => (if t328 = true then (head_HostX.l1 k x4 x10 x38 x39 x40 x45 (wrap64 (x46 + 1))) else (if (bt x10 x46) = 45 then (head_HostX.l1 k x4 x10 x38 x39 x40 x45 (wrap64 (x46 + 1))) else (some ((⟨#[]⟩ : ByteArray), false))))) else (none)) else (none)) else (if x10.toList = ([] : List UInt8) then (some ((⟨#[]⟩ : ByteArray), false)) else (head_HostX.l0 k x4 x38 x39 (wrap64 (x40 + 1))))
end
def head_HostX.f (k : Nat) (a0 : ByteArray) : Option (ByteArray × Bool) := (strings_Cut.f a0 (⟨#[58]⟩ : ByteArray)).bind fun bt320 => (if (bt320.2.1.size : Int) > 5 then (head_HostX.j0 k bt320.1 true) else (head_HostX.j0 k bt320.1 (decide ((bt320.1.size : Int) > 64))))
theorem head_HostX.mono_l : ∀ k, (∀ y0 y1, LeO (head_HostX.j0 k y0 y1) (head_HostX.j0 (k + 1) y0 y1)) ∧ (∀ y0 y1 y2 y3, LeO (head_HostX.l0 k y0 y1 y2 y3) (head_HostX.l0 (k + 1) y0 y1 y2 y3)) ∧ (∀ y0 y1 y2 y3 y4 y5 y6, LeO (head_HostX.l1 k y0 y1 y2 y3 y4 y5 y6) (head_HostX.l1 (k + 1) y0 y1 y2 y3 y4 y5 y6))
 | 0 => ⟨fun _ _ r h => by simp [head_HostX.j0] at h, fun _ _ _ _ r h => by simp [head_HostX.l0] at h, fun _ _ _ _ _ _ _ r h => by simp [head_HostX.l1] at h⟩
 | k + 1 => by
  obtain ⟨ih0, ih1, ih2⟩ := head_HostX.mono_l k;refine ⟨?_, ?_, ?_⟩
  ·intro y0 y1;unfold head_HostX.j0
   repeat' with_reducible first | exact ih0 _ _ | exact ih1 _ _ _ _ | exact ih2 _ _ _ _ _ _ _ | exact LeO.refl _ | exact LeO.none _ | refine LeO.ite ?_ ?_ | refine LeO.bind ?_ (fun _ => ?_)
  ·intro y0 y1 y2 y3;unfold head_HostX.l0
   repeat' with_reducible first | exact ih0 _ _ | exact ih1 _ _ _ _ | exact ih2 _ _ _ _ _ _ _ | exact LeO.refl _ | exact LeO.none _ | refine LeO.ite ?_ ?_ | refine LeO.bind ?_ (fun _ => ?_)
  intro y0 y1 y2 y3 y4 y5 y6;unfold head_HostX.l1
  repeat' with_reducible first | exact ih0 _ _ | exact ih1 _ _ _ _ | exact ih2 _ _ _ _ _ _ _ | exact LeO.refl _ | exact LeO.none _ | refine LeO.ite ?_ ?_ | refine LeO.bind ?_ (fun _ => ?_)
theorem head_HostX.mono : ∀ a0 k, LeO (head_HostX.f k a0) (head_HostX.f (k + 1) a0) := by
 intro a0 k;obtain ⟨ih0, ih1, ih2⟩ := head_HostX.mono_l k;unfold head_HostX.f
 repeat' with_reducible first | exact ih0 _ _ | exact ih1 _ _ _ _ | exact ih2 _ _ _ _ _ _ _ | exact LeO.refl _ | exact LeO.none _ | refine LeO.ite ?_ ?_ | refine LeO.bind ?_ (fun _ => ?_)
set_option maxHeartbeats 8000000 in
set_option maxRecDepth 100000 in
theorem head_HostX.calls (k : Nat) (a0 : ByteArray) (r1 : ByteArray) (r2 : Bool) (w : World) (hml : ML w) (hD : ∀ (r1' r2' : ByteArray) (r3' : Bool), strings_Cut.f a0 (⟨#[58]⟩ : ByteArray) = some (r1', r2', r3') → r2'.data.toList.all digB = true) (h : head_HostX.f k a0 = some (r1, r2)) :
  Calls Tryz.prog 54 #[.string a0] w fun e w' => e = .returned (.tuple #[.string r1, .bool r2]) ∧ Below w.heap.size w w' := by
 have HML := zN hml;clear hml;have HB := zN (Below.refl w.heap.size w);have H : ((strings_Cut.f a0 (⟨#[58]⟩ : ByteArray)).bind fun bt320 => (if (bt320.2.1.size : Int) > 5 then (head_HostX.j0 k bt320.1 true) else (head_HostX.j0 k bt320.1 (decide ((bt320.1.size : Int) > 64))))) = some (r1, r2) := h;clear h;obtain ⟨⟨t320, t321, t322⟩, A2, H⟩ := zA H;(try dsimp only at H);have HC3 := zN H;clear H;go_enter Tryz.func54, Tryz.ntmps54;go_wp2_with (first | ((with_reducible refine gate_callee (f := 48) rfl ?_); refine zg (some 14) Tryz.func48 #[.string a0, .string (⟨#[58]⟩ : ByteArray)] ?_; (with_reducible refine (strings_Cut.calls a0 (⟨#[58]⟩ : ByteArray) t320 t321 t322 _ ?side1 A2.out).mono ?_); (case side1 => exact ML.keep HML.out (zB HB)); rintro e w' ⟨rfl, ⟨nd, rfl⟩⟩; refine ⟨_, rfl, ?_⟩));have HD := zN (hD _ _ _ A2.out);clear hD;obtain ⟨wd, hwd⟩ : ∃ wd, w.drewN nd = wd := ⟨_, rfl⟩;have hbd : Below w.heap.size w wd := hwd ▸ pw_below_drewN (Below.refl _ _) nd;have hsz : wd.heap.size = w.heap.size := by rw [← hwd]; rfl
 rw [hwd];clear hwd;have HBD := zN hbd;clear hbd HB;go_loopw [8] (fun v8 wr => ∃ pos : Nat, wr = wd.iter t321 pos ∧ Aside0 (pos ≤ t321.size)) (fun _ w' => t321.size - w'.iterPos wd.heap.size)
 case atStart => exact ⟨0, rfl, ⟨Nat.zero_le _⟩⟩
 obtain ⟨pos, rfl, HP⟩ := hrel;by_cases hp : pos < t321.size
 ·have hdig := dig_at HD.out pos hp;have hnx : ∀ ty, (Instr.next (.pointer (some ⟨w.heap.size, 0, none⟩)) true ty).run Tryz.prog (wd.iter t321 pos) = .ok (.tuple #[.bool true, .int .i64 pos, .int .i32 (t321[pos]'hp).toNat]) (wd.iter t321 (pos + 1)) := fun ty => by rw [← hsz]; exact run_next_ascii wd t321 pos ty hp zO
  generalize hx : (((t321[pos]'hp).toNat : Nat) : Int) = x at hnx;have hx1 : 48 ≤ x := by omega
  have hx2 : x ≤ 57 := by omega
  clear hx hdig;go_wp2;go_roundw
  case rel => exact ⟨pos + 1, rfl, ⟨zO⟩⟩
  case measure =>
   simp;omega
 have hnx : ∀ ty, (Instr.next (.pointer (some ⟨w.heap.size, 0, none⟩)) true ty).run Tryz.prog (wd.iter t321 pos) = .ok (.tuple #[.bool false]) (wd.iter t321 pos) := fun ty => by rw [← hsz]; exact run_next_end wd t321 pos ty hp
 have HB := zN (show Below w.heap.size w (wd.iter t321 pos) from below_alloc HBD.out _);clear HBD HD HP;generalize wd.iter t321 pos = wi at hnx HB ⊢;go_upto_region 7 with (first | ((with_reducible refine gate_callee (f := 48) rfl ?_); refine zg (some 14) Tryz.func48 #[.string a0, .string (⟨#[58]⟩ : ByteArray)] ?_; (with_reducible refine (strings_Cut.calls a0 (⟨#[58]⟩ : ByteArray) t320 t321 t322 _ ?side1 A2.out).mono ?_); (case side1 => exact ML.keep HML.out (zB HB)); rintro e w' ⟨rfl, ⟨nd, rfl⟩⟩; refine ⟨_, rfl, ?_⟩))
 (try simp only [Act.put, List.setIfInBounds_toArray, List.set_cons_zero, List.set_cons_succ]);go_cut [36] (fun v36 wc => ∃ (kq : Nat) (x36_2 : Bool), v36 = .bool x36_2 ∧ Aside0 (head_HostX.j0 kq t320 x36_2 = some (r1, r2)) ∧ Aside0 (kq ≤ k) ∧ Aside0 (Below w.heap.size w wc))
 case first =>
  have H := HC3.out;clear HC3;by_cases c4 : (t321.size : Int) > 5
  ·rw [zp c4] at H;have c4b0 : decide (5 < (t321.size : Int)) = true := zt c4;have c4b1 : decide (5 < t321.size) = true := zt zO;clear c4;(first | rw [c4b0] | (simp only [i64_w, i32_w]; rw [c4b0]) | skip);have H' := zN H;clear H;go_wp2;go_meet
   case rel => exact ⟨_, (true), zI, H', ⟨by first | omega | exact zh _⟩, ⟨zB HB⟩⟩
  rw [zn c4] at H;have c4b0 : decide (5 < (t321.size : Int)) = false := zf c4;have c4b1 : decide (5 < t321.size) = false := zf zO;clear c4;(first | rw [c4b0] | (simp only [i64_w, i32_w]; rw [c4b0]) | skip);have H' := zN H;clear H;go_wp2;go_meet
  case rel => exact ⟨_, (decide ((t320.size : Int) > 64)), zI, H', ⟨by first | omega | exact zh _⟩, ⟨zB HB⟩⟩
 case rest =>
  clear HC3;obtain ⟨kq, x36_2, rfl, HA, HJ2, HB⟩ := hcut;cases kq with
  | zero => exact absurd HA.out (by simp [head_HostX.j0])
  | succ kj2 =>
   have H := HA.out;clear HA;simp only [head_HostX.j0] at H;by_cases c5 : x36_2 = true
   ·subst c5;have H1 := H; rw [zp rfl] at H1;clear H;have H := H1;clear H1;simp only [Option.some.injEq, Prod.mk.injEq] at H;obtain ⟨rfl, rfl⟩ := H;go_wp2;go_ret2;exact ⟨zE, zB HB⟩
   replace c5 := zq.mpr c5;subst c5;have H1 := H; rw [zn (show ¬ (false = true) by decide)] at H1;clear H;have H := H1;clear H1;obtain ⟨t323, A6, H⟩ := zA H;(try dsimp only at H);have H' := zN H;clear H;go_wp2_with (first | ((with_reducible refine gate_callee (f := 47) rfl ?_); refine zg (some 38) Tryz.func47 #[.string t320, .string (⟨#[46]⟩ : ByteArray)] ?_; (with_reducible refine (strings_Split.calls t320 (⟨#[46]⟩ : ByteArray) t323 _ ?side1 A6.out).mono ?_); (case side1 => exact ML.keep HML.out (zB HB)); rintro e w7 ⟨v324, rfl, ho0, hb⟩; refine ⟨_, rfl, ?_⟩; have HO325 := zN (Kd.R_lower ho0 (below_size (zB HB))); replace HB := zk HB hb; (try clear hb); (try clear hb2); (try clear hk); (try clear hi); (try clear ho0); obtain ⟨Ao8, co8, eo8⟩ := Kd.R_slice HO325.out; subst eo8));go_loopg [40] kj2 (fun kq v40 w' => ∃ (x40_2 : Int), v40 = .int .i64 x40_2 ∧ Aside0 (head_HostX.l0 kq t320 t323 (t323.length : Int) x40_2 = some (r1, r2)) ∧ Aside0 (kq ≤ kj2) ∧ Aside0 (Kd.R Kd.string 9 w' w.heap.size (fun _ => True) (.slice Ao8 t323.length co8) t323) ∧ Aside0 (Below w.heap.size w w'))
   case atStart => exact ⟨(0), zI, H', ⟨zh _⟩, ⟨zR HO325⟩, ⟨zB HB⟩⟩
   case round =>
    clear H'
    try clear c5
    obtain ⟨x40_2, rfl, HA, HK2, HO_38, HB⟩ := hrel;cases gk with
    | zero => exact absurd HA.out (by simp [head_HostX.l0])
    | succ k2 =>
     have H := HA.out;clear HA;simp only [head_HostX.l0] at H;by_cases c9 : x40_2 < (t323.length : Int);rotate_left
     ·rw [zn c9] at H;have c9b0 := zf c9;clear c9;obtain ⟨t326, A21, H⟩ := zA H;(try dsimp only at H);simp only [Option.some.injEq, Prod.mk.injEq] at H;obtain ⟨rfl, rfl⟩ := H;go_wp2_with (first | ((with_reducible refine gate_callee (f := 53) rfl ?_); refine zg (some 65) Tryz.func53 #[.string t320] ?_; (with_reducible refine (head_lower.calls t320 t326 _ A21.out).mono ?_); rintro e w22 ⟨rfl, hb⟩; refine ⟨_, rfl, ?_⟩; replace HO_38 := zN (Kd.R_below (zR HO_38) hb); replace HB := zk HB hb; (try clear hb); (try clear hb2); (try clear hk); (try clear hi)));go_ret2;exact ⟨zE, zB HB⟩
     rw [zp c9] at H;have c9b0 := zt c9;clear c9;by_cases c10 : 0 ≤ x40_2;rotate_left
     ·rw [zn c10] at H;exact absurd H (by simp)
     rw [zp c10] at H;have c10b0 := zt c10;clear c10;by_cases c11 : x40_2 < (t323.length : Int);rotate_left
     ·rw [zn c11] at H;exact absurd H (by simp)
     rw [zp c11] at H;have c11b0 := zt c11;clear c11;have H' := zN H;clear H;have p327 : 0 ≤ (x40_2 : Int) := zd zS;have q327 : x40_2 < (t323.length : Int) := zd zS;obtain ⟨ad327, e327, hx327_0⟩ := Kd.at_string (Kd.R_reads' HO_38.out).2.2 x40_2 p327 q327;cases e327;replace p327 := zu p327;replace q327 := zu q327;go_wp2;go_loopg [46] k2 (fun kq v46 w' => ∃ (x46_3 : Int), v46 = .int .i64 x46_3 ∧ Aside0 (head_HostX.l1 kq t320 (rdOf ByteArray.empty t323 x40_2) t323 (t323.length : Int) x40_2 ((rdOf ByteArray.empty t323 x40_2).size : Int) x46_3 = some (r1, r2)) ∧ Aside0 (kq ≤ k2) ∧ Aside0 (Kd.R Kd.string 9 w' w.heap.size (fun _ => True) (.slice (some ad327) t323.length co8) t323) ∧ Aside0 (Below w.heap.size w w'))
     case atStart => exact ⟨(0), zI, H', ⟨zh _⟩, ⟨zR HO_38⟩, ⟨zB HB⟩⟩
     case round =>
      clear H'
      try clear c5
      try clear c9
      try clear c9b0
      try clear c10
      try clear c10b0
      try clear c11
      try clear c11b0
      try clear hx327_0
      try clear p327
      try clear q327
      obtain ⟨x46_3, rfl, HA, HK3, HO_38, HB⟩ := hrel;cases gk with
      | zero => exact absurd HA.out (by simp [head_HostX.l1])
      | succ k3 =>
       have H := HA.out;clear HA;simp only [head_HostX.l1] at H;by_cases c12 : x46_3 < ((rdOf ByteArray.empty t323 x40_2).size : Int);rotate_left
       ·rw [zn c12] at H;have c12b0 := zf c12;clear c12;by_cases c20 : (rdOf ByteArray.empty t323 x40_2).toList = ([] : List UInt8)
        ·rw [zp c20] at H;have c20b0 := beq_iff_eq.mpr c20;have c20b1 := zc.mpr c20;clear c20;simp only [Option.some.injEq, Prod.mk.injEq] at H;obtain ⟨rfl, rfl⟩ := H;go_wp2;go_ret2;exact ⟨zE, zB HB⟩
        rw [zn c20] at H;have c20b0 := zb.mpr c20;have c20b1 := bne_iff_ne.mpr c20;have H' := zN H;clear H;go_wp2;go_roundg k3
        case measure => have := HJ2.out; have := HK2.out; have := HK3.out; omega
        case rel => exact ⟨(wrap64 (x40_2 + 1)), zI, H', ⟨by have := HJ2.out; have := HK2.out; have := HK3.out; omega⟩, ⟨zR HO_38⟩, ⟨zB HB⟩⟩
       rw [zp c12] at H;have c12b0 := zt c12;clear c12;by_cases c13 : 0 ≤ x46_3;rotate_left
       ·rw [zn c13] at H;exact absurd H (by simp)
       rw [zp c13] at H;have c13b0 := zt c13;clear c13;by_cases c14 : x46_3 < ((rdOf ByteArray.empty t323 x40_2).size : Int);rotate_left
       ·rw [zn c14] at H;exact absurd H (by simp)
       rw [zp c14] at H;have c14b0 := zt c14;clear c14;obtain ⟨t328, A16, H⟩ := zA H;(try dsimp only at H);by_cases c17 : t328 = true
       ·subst c17;have H1 := H; rw [zp rfl] at H1;clear H;have H := H1;clear H1;have H' := zN H;clear H;have p15 : 0 ≤ (x46_3 : Int) := zd zS;have q15 : x46_3 < ((rdOf ByteArray.empty t323 x40_2).size : Int) := zd zS;have hx15 := bt_at (rdOf ByteArray.empty t323 x40_2) x46_3;replace p15 := zu p15;replace q15 := zu q15;go_wp2_with (first | ((with_reducible refine gate_callee (f := 73) rfl ?_); refine zg (some 52) Tryz.func73 #[.int .u8 (bt (rdOf ByteArray.empty t323 x40_2) x46_3)] ?_; (with_reducible refine (head_alnum.calls (bt (rdOf ByteArray.empty t323 x40_2) x46_3) true _ A16.out).mono ?_); rintro e w' ⟨rfl, ⟨nd, rfl⟩⟩; refine ⟨_, rfl, ?_⟩));go_roundg k3
        case measure => have := HJ2.out; have := HK2.out; have := HK3.out; omega
        case rel => exact ⟨(wrap64 (x46_3 + 1)), zI, H', ⟨by have := HJ2.out; have := HK2.out; have := HK3.out; omega⟩, ⟨zR HO_38⟩, ⟨zB HB⟩⟩
       replace c17 := zq.mpr c17;subst c17;have H1 := H; rw [zn (show ¬ (false = true) by decide)] at H1;clear H;have H := H1;clear H1;by_cases c19 : (bt (rdOf ByteArray.empty t323 x40_2) x46_3) = 45
       ·rw [zp c19] at H;have c19b0 := beq_iff_eq.mpr c19;have c19b1 := zc.mpr c19;clear c19;have H' := zN H;clear H;have p15 : 0 ≤ (x46_3 : Int) := zd zS;have q15 : x46_3 < ((rdOf ByteArray.empty t323 x40_2).size : Int) := zd zS;have hx15 := bt_at (rdOf ByteArray.empty t323 x40_2) x46_3;replace p15 := zu p15;replace q15 := zu q15;go_wp2_with (first | ((with_reducible refine gate_callee (f := 73) rfl ?_); refine zg (some 52) Tryz.func73 #[.int .u8 (bt (rdOf ByteArray.empty t323 x40_2) x46_3)] ?_; (with_reducible refine (head_alnum.calls (bt (rdOf ByteArray.empty t323 x40_2) x46_3) false _ A16.out).mono ?_); rintro e w' ⟨rfl, ⟨nd, rfl⟩⟩; refine ⟨_, rfl, ?_⟩; have p18 : 0 ≤ (x46_3 : Int) := zd zS; have q18 : x46_3 < ((rdOf ByteArray.empty t323 x40_2).size : Int) := zd zS; have hx18 := bt_at (rdOf ByteArray.empty t323 x40_2) x46_3; replace p18 := zu p18; replace q18 := zu q18));go_roundg k3
        case measure => have := HJ2.out; have := HK2.out; have := HK3.out; omega
        case rel => exact ⟨(wrap64 (x46_3 + 1)), zI, H', ⟨by have := HJ2.out; have := HK2.out; have := HK3.out; omega⟩, ⟨zR HO_38⟩, ⟨zB HB⟩⟩
       rw [zn c19] at H;have c19b0 := zb.mpr c19;have c19b1 := bne_iff_ne.mpr c19;simp only [Option.some.injEq, Prod.mk.injEq] at H;obtain ⟨rfl, rfl⟩ := H;have p15 : 0 ≤ (x46_3 : Int) := zd zS;have q15 : x46_3 < ((rdOf ByteArray.empty t323 x40_2).size : Int) := zd zS;have hx15 := bt_at (rdOf ByteArray.empty t323 x40_2) x46_3;replace p15 := zu p15;replace q15 := zu q15;go_wp2_with (first | ((with_reducible refine gate_callee (f := 73) rfl ?_); refine zg (some 52) Tryz.func73 #[.int .u8 (bt (rdOf ByteArray.empty t323 x40_2) x46_3)] ?_; (with_reducible refine (head_alnum.calls (bt (rdOf ByteArray.empty t323 x40_2) x46_3) false _ A16.out).mono ?_); rintro e w' ⟨rfl, ⟨nd, rfl⟩⟩; refine ⟨_, rfl, ?_⟩; have p18 : 0 ≤ (x46_3 : Int) := zd zS; have q18 : x46_3 < ((rdOf ByteArray.empty t323 x40_2).size : Int) := zd zS; have hx18 := bt_at (rdOf ByteArray.empty t323 x40_2) x46_3; replace p18 := zu p18; replace q18 := zu q18));go_ret2;exact ⟨zE, zB HB⟩

set_option maxHeartbeats 8000000 in
set_option maxRecDepth 100000 in
theorem head_Host.no (a0 t320 t321 : ByteArray) (t322 : Bool) (hcut : strings_Cut.f a0 (⟨#[58]⟩ : ByteArray) = some (t320, t321, t322)) (hD : t321.data.toList.all digB = false) (w : World) (hml : ML w) :
  Calls Tryz.prog 54 #[.string a0] w fun e w' => e = .returned (.tuple #[.string (⟨#[]⟩ : ByteArray), .bool false]) ∧ Below w.heap.size w w' := by
 have HML := zN hml;clear hml;have HB := zN (Below.refl w.heap.size w);have A2 := zN hcut;clear hcut;have HD := zN hD;clear hD;go_enter Tryz.func54, Tryz.ntmps54;go_wp2_with (first | ((with_reducible refine gate_callee (f := 48) rfl ?_); refine zg (some 14) Tryz.func48 #[.string a0, .string (⟨#[58]⟩ : ByteArray)] ?_; (with_reducible refine (strings_Cut.calls a0 (⟨#[58]⟩ : ByteArray) t320 t321 t322 _ ?side1 A2.out).mono ?_); (case side1 => exact ML.keep HML.out (zB HB)); rintro e w' ⟨rfl, ⟨nd, rfl⟩⟩; refine ⟨_, rfl, ?_⟩));obtain ⟨wd, hwd⟩ : ∃ wd, w.drewN nd = wd := ⟨_, rfl⟩;have hbd : Below w.heap.size w wd := hwd ▸ pw_below_drewN (Below.refl _ _) nd;have hsz : wd.heap.size = w.heap.size := by rw [← hwd]; rfl
 rw [hwd];clear hwd;have HBD := zN hbd;clear hbd HB;go_loopw [8] (fun v8 wr => ∃ pos : Nat, wr = wd.iter t321 pos ∧ Aside0 (∀ (i : Nat) (hi : i < t321.size), i < pos → 48 ≤ (t321[i]'hi).toNat ∧ (t321[i]'hi).toNat ≤ 57)) (fun _ w' => t321.size - w'.iterPos wd.heap.size)
 case atStart => exact ⟨0, rfl, ⟨fun i hi h => by omega⟩⟩
 case round =>
  obtain ⟨pos, rfl, HP⟩ := hrel;by_cases hp : pos < t321.size;rotate_left
  ·exact absurd (dig_all fun i hi => HP.out i hi zO) (by rw [HD.out]; simp)
  by_cases hdig : 48 ≤ (t321[pos]'hp).toNat ∧ (t321[pos]'hp).toNat ≤ 57
  ·have hnx : ∀ ty, (Instr.next (.pointer (some ⟨w.heap.size, 0, none⟩)) true ty).run Tryz.prog (wd.iter t321 pos) = .ok (.tuple #[.bool true, .int .i64 pos, .int .i32 (t321[pos]'hp).toNat]) (wd.iter t321 (pos + 1)) := fun ty => by rw [← hsz]; exact run_next_ascii wd t321 pos ty hp zO
   have HP2 : Aside0 (∀ (i : Nat) (hi : i < t321.size), i < pos + 1 → 48 ≤ (t321[i]'hi).toNat ∧ (t321[i]'hi).toNat ≤ 57) := ⟨fun i hi h => by
    rcases Nat.lt_or_ge i pos with h1 | h1
    ·exact HP.out i hi h1
    obtain rfl : i = pos := by omega
    exact hdig⟩
   generalize hx : (((t321[pos]'hp).toNat : Nat) : Int) = x at hnx;have hx1 : 48 ≤ x := by omega
   have hx2 : x ≤ 57 := by omega
   clear hx hdig HP;go_wp2;go_roundw
   case rel => exact ⟨pos + 1, rfl, HP2⟩
   case measure =>
    simp;omega
  have HBI := zN (show Below w.heap.size w (wd.iter t321 (pos + (Utf8.decode t321 pos).2)) from below_alloc HBD.out _);have hnx : ∀ ty, (Instr.next (.pointer (some ⟨w.heap.size, 0, none⟩)) true ty).run Tryz.prog (wd.iter t321 pos) = .ok (.tuple #[.bool true, .int .i64 pos, .int .i32 (Utf8.decode t321 pos).1]) (wd.iter t321 (pos + (Utf8.decode t321 pos).2)) := fun ty => by rw [← hsz]; exact run_next_any wd t321 pos ty hp
  have hr : (Utf8.decode t321 pos).1 < 48 ∨ 57 < (Utf8.decode t321 pos).1 := by
   by_cases ha : (t321[pos]'hp).toNat < 128
   ·rw [decode_ascii t321 pos hp ha];omega
   have := (decode_high t321 pos hp zO).1;omega
  generalize (Utf8.decode t321 pos).2 = wid at hnx HBI;generalize hx : ((Utf8.decode t321 pos).1 : Int) = x at hnx;generalize wd.iter t321 (pos + wid) = wz at hnx HBI
  rcases hr with hr | hr
  ·have hx1 : x < 48 := by omega
   clear hx hdig HP hr;go_wp2;go_ret2;exact ⟨rfl, HBI.out⟩
  have hx1 : 57 < x := by omega
  have hx2 : 48 ≤ x := by omega
  clear hx hdig HP hr;go_wp2;go_ret2;exact ⟨rfl, HBI.out⟩
def head_Host.f (k : Nat) (a0 : ByteArray) : Option (ByteArray × Bool) := (strings_Cut.f a0 (⟨#[58]⟩ : ByteArray)).bind fun bt => (if bt.2.1.data.toList.all digB = true then head_HostX.f k a0 else some ((⟨#[]⟩ : ByteArray), false))
theorem head_Host.mono : ∀ a0 k, LeO (head_Host.f k a0) (head_Host.f (k + 1) a0) := by
 intro a0 k;unfold head_Host.f
 repeat' with_reducible first | exact head_HostX.mono _ _ | exact LeO.refl _ | refine LeO.ite ?_ ?_ | refine LeO.bind ?_ (fun _ => ?_)
theorem head_Host.calls (k : Nat) (a0 : ByteArray) (r1 : ByteArray) (r2 : Bool) (w : World) (hml : ML w) (h : head_Host.f k a0 = some (r1, r2)) :
  Calls Tryz.prog 54 #[.string a0] w fun e w' => e = .returned (.tuple #[.string r1, .bool r2]) ∧ Below w.heap.size w w' := by
 unfold head_Host.f at h;obtain ⟨⟨t320, t321, t322⟩, hcut, h⟩ := Option.bind_eq_some_iff.mp h;dsimp only at h
 split at h
 ·rename_i hD
  exact head_HostX.calls k a0 r1 r2 w hml (fun r1' r2' r3' hc => by
   rw [hcut] at hc;simp only [Option.some.injEq, Prod.mk.injEq] at hc;obtain ⟨_, rfl, _⟩ := hc;exact hD) h
 rename_i hD
 simp only [Option.some.injEq, Prod.mk.injEq] at h;obtain ⟨rfl, rfl⟩ := h;exact head_Host.no a0 t320 t321 t322 hcut (by simpa using hD) w hml

def strings_IndexByte.f (a0 : ByteArray) (a1 : Int) : Option Int := some (Lib.indexByte a0.data.toList a1.toNat.toUInt8)
theorem strings_IndexByte.calls (a0 : ByteArray) (a1 r : Int) (w : World) (h : strings_IndexByte.f a0 a1 = some r) :
    Calls Tryz.prog 70 #[.string a0, .int .u8 a1] w fun e w' => e = .returned (.int .i64 r) ∧ Drawn0 w w' := by
  obtain rfl := zo h;exact (Tryz.strings_IndexByte a0 a1 w).mono fun e w' ⟨h1, h2⟩ => ⟨h1, 0, h2⟩


def strings_Contains.f (a0 a1 : ByteArray) : Option Bool := if a1.size = 1 then some (decide (0 ≤ Lib.indexByte a0.data.toList (a1.data.toList.getD 0 0))) else none
theorem strings_Contains.calls (a0 a1 : ByteArray) (r : Bool) (w : World) (h : strings_Contains.f a0 a1 = some r) :
    Calls Tryz.prog 74 #[.string a0, .string a1] w fun e w' => e = .returned (.bool r) ∧ Drawn0 w w' := by
  unfold strings_Contains.f at h
  split at h
  · rename_i hs
    obtain rfl := zo h;obtain ⟨c, rfl⟩ : ∃ c, a1 = ⟨#[c]⟩ := by
      obtain ⟨⟨l⟩⟩ := a1
      match l, hs with
      | [c], _ => exact ⟨c, rfl⟩
    exact (Tryz.strings_Contains_one a0 c w).mono fun e w' ⟨h1, h2⟩ => ⟨h1, 0, h2⟩
  cases h


def head_hex.f (a0 : Int) : Option (Bool) := if a0 ≥ 48 then (if a0 ≤ 57 then (some true) else (if a0 ≥ 97 then (if a0 ≤ 102 then (some true) else (if a0 ≥ 65 then (some (decide (a0 ≤ 70))) else (some false))) else (if a0 ≥ 65 then (some (decide (a0 ≤ 70))) else (some false)))) else (if a0 ≥ 97 then (if a0 ≤ 102 then (some true) else (if a0 ≥ 65 then (some (decide (a0 ≤ 70))) else (some false))) else (if a0 ≥ 65 then (some (decide (a0 ≤ 70))) else (some false)))
set_option maxHeartbeats 8000000 in
set_option maxRecDepth 100000 in
theorem head_hex.calls (a0 : Int) (r : Bool) (w : World) (h : head_hex.f a0 = some r) :
    Calls Tryz.prog 96 #[.int .u8 a0] w fun e w' => e = .returned (.bool r) ∧ Drawn0 w w' := by
  have H : (if a0 ≥ 48 then (if a0 ≤ 57 then (some true) else (if a0 ≥ 97 then (if a0 ≤ 102 then (some true) else (if a0 ≥ 65 then (some (decide (a0 ≤ 70))) else (some false))) else (if a0 ≥ 65 then (some (decide (a0 ≤ 70))) else (some false)))) else (if a0 ≥ 97 then (if a0 ≤ 102 then (some true) else (if a0 ≥ 65 then (some (decide (a0 ≤ 70))) else (some false))) else (if a0 ≥ 65 then (some (decide (a0 ≤ 70))) else (some false)))) = some r := h;clear h;by_cases c2 : a0 ≥ 48;rotate_left
  · rw [zn c2] at H;have c2b0 : decide (48 ≤ a0) = false := zf c2;clear c2;by_cases c8 : a0 ≥ 97;rotate_left
    · rw [zn c8] at H;have c8b0 : decide (97 ≤ a0) = false := zf c8;clear c8;by_cases c11 : a0 ≥ 65
      · rw [zp c11] at H;have c11b0 : decide (65 ≤ a0) = true := zt c11;clear c11;obtain rfl := zo H;go_enter Tryz.func96, Tryz.ntmps96;go_wp2;go_ret;exact ⟨zI, zD⟩
      rw [zn c11] at H;have c11b0 : decide (65 ≤ a0) = false := zf c11;clear c11;obtain rfl := zo H;go_enter Tryz.func96, Tryz.ntmps96;go_wp2;go_ret;exact ⟨zI, zD⟩
    rw [zp c8] at H;have c8b0 : decide (97 ≤ a0) = true := zt c8;clear c8;by_cases c9 : a0 ≤ 102
    · rw [zp c9] at H;have c9b0 := zt c9;clear c9;obtain rfl := zo H;go_enter Tryz.func96, Tryz.ntmps96;go_wp2;go_ret;exact ⟨zI, zD⟩
    rw [zn c9] at H;have c9b0 := zf c9;clear c9;by_cases c10 : a0 ≥ 65
    · rw [zp c10] at H;have c10b0 : decide (65 ≤ a0) = true := zt c10;clear c10;obtain rfl := zo H;go_enter Tryz.func96, Tryz.ntmps96;go_wp2;go_ret;exact ⟨zI, zD⟩
    rw [zn c10] at H;have c10b0 : decide (65 ≤ a0) = false := zf c10;clear c10;obtain rfl := zo H;go_enter Tryz.func96, Tryz.ntmps96;go_wp2;go_ret;exact ⟨zI, zD⟩
  rw [zp c2] at H;have c2b0 : decide (48 ≤ a0) = true := zt c2;clear c2;by_cases c3 : a0 ≤ 57
  · rw [zp c3] at H;have c3b0 := zt c3;clear c3;obtain rfl := zo H;go_enter Tryz.func96, Tryz.ntmps96;go_wp2;go_ret;exact ⟨zI, zD⟩
  rw [zn c3] at H;have c3b0 := zf c3;clear c3;by_cases c4 : a0 ≥ 97;rotate_left
  · rw [zn c4] at H;have c4b0 : decide (97 ≤ a0) = false := zf c4;clear c4;by_cases c7 : a0 ≥ 65
    · rw [zp c7] at H;have c7b0 : decide (65 ≤ a0) = true := zt c7;clear c7;obtain rfl := zo H;go_enter Tryz.func96, Tryz.ntmps96;go_wp2;go_ret;exact ⟨zI, zD⟩
    rw [zn c7] at H;have c7b0 : decide (65 ≤ a0) = false := zf c7;clear c7;obtain rfl := zo H;go_enter Tryz.func96, Tryz.ntmps96;go_wp2;go_ret;exact ⟨zI, zD⟩
  rw [zp c4] at H;have c4b0 : decide (97 ≤ a0) = true := zt c4;clear c4;by_cases c5 : a0 ≤ 102
  · rw [zp c5] at H;have c5b0 := zt c5;clear c5;obtain rfl := zo H;go_enter Tryz.func96, Tryz.ntmps96;go_wp2;go_ret;exact ⟨zI, zD⟩
  rw [zn c5] at H;have c5b0 := zf c5;clear c5;by_cases c6 : a0 ≥ 65
  · rw [zp c6] at H;have c6b0 : decide (65 ≤ a0) = true := zt c6;clear c6;obtain rfl := zo H;go_enter Tryz.func96, Tryz.ntmps96;go_wp2;go_ret;exact ⟨zI, zD⟩
  rw [zn c6] at H;have c6b0 : decide (65 ≤ a0) = false := zf c6;clear c6;obtain rfl := zo H;go_enter Tryz.func96, Tryz.ntmps96;go_wp2;go_ret;exact ⟨zI, zD⟩

mutual
def head_such.l0 : Nat → ByteArray → Bool → Int → Option (Bool)
 | 0, _, _, _ => none
 | k + 1, x0, x1, x5 => if x5 < (x0.size : Int) then (if 0 ≤ x5 then (if (bt x0 x5) = 37 then (if (wrap64 ((x0.size : Int) - x5)) < 3 then (head_such.j1 k x0 x1 x5 true) else (if 0 ≤ (wrap64 (x5 + 1)) then (if (wrap64 (x5 + 1)) < (x0.size : Int) then ((head_hex.f (bt x0 (wrap64 (x5 + 1)))).bind fun t329 => (if t329 = true then (if 0 ≤ (wrap64 (x5 + 2)) then (if (wrap64 (x5 + 2)) < (x0.size : Int) then ((head_hex.f (bt x0 (wrap64 (x5 + 2)))).bind fun t330 => (head_such.j1 k x0 x1 x5 (!t330))) else (none)) else (none)) else (head_such.j1 k x0 x1 x5 true))) else (none)) else (none))) else (if (bt x0 x5) = 63 then (if x1 = true then (head_such.l0 k x0 x1 (wrap64 (x5 + 1))) else (head_such.j2 k x0 x1 x5 (bt x0 x5))) else (head_such.j2 k x0 x1 x5 (bt x0 x5)))) else (none)) else (some true)
def head_such.j2 : Nat → ByteArray → Bool → Int → Int → Option (Bool)
 | 0, _, _, _, _ => none
 | k + 1, x0, x1, x5, x6 => (head_alnum.f x6).bind fun t331 => (if t331 = true then (head_such.l0 k x0 x1 (wrap64 (x5 + 1))) else (if 0 ≤ x5 then (if x5 ≤ (wrap64 (x5 + 1)) then (if (wrap64 (x5 + 1)) ≤ (x0.size : Int) then ((strings_Contains.f (⟨#[47, 45, 46, 95, 126, 33, 36, 38, 39, 40, 41, 42, 43, 44, 59, 61, 58, 64]⟩ : ByteArray) (x0.extract (x5 : Int).toNat ((wrap64 (x5 + 1)) : Int).toNat)).bind fun t332 => (if t332 = true then (head_such.l0 k x0 x1 (wrap64 (x5 + 1))) else (some false))) else (none)) else (none)) else (none)))
def head_such.j1 : Nat → ByteArray → Bool → Int → Bool → Option (Bool)
 | 0, _, _, _, _ => none
 | k + 1, x0, x1, x5, x42 => if x42 = true then (some false) else (head_such.l0 k x0 x1 (wrap64 (x5 + 1)))
end
def head_such.f (k : Nat) (a0 : ByteArray) (a1 : Bool) : Option (Bool) := head_such.l0 k a0 a1 0
theorem head_such.mono_l : ∀ k, (∀ y0 y1 y2, LeO (head_such.l0 k y0 y1 y2) (head_such.l0 (k + 1) y0 y1 y2)) ∧ (∀ y0 y1 y2 y3, LeO (head_such.j2 k y0 y1 y2 y3) (head_such.j2 (k + 1) y0 y1 y2 y3)) ∧ (∀ y0 y1 y2 y3, LeO (head_such.j1 k y0 y1 y2 y3) (head_such.j1 (k + 1) y0 y1 y2 y3))
 | 0 => ⟨fun _ _ _ r h => by simp [head_such.l0] at h, fun _ _ _ _ r h => by simp [head_such.j2] at h, fun _ _ _ _ r h => by simp [head_such.j1] at h⟩
 | k + 1 => by
  obtain ⟨ih0, ih1, ih2⟩ := head_such.mono_l k;refine ⟨?_, ?_, ?_⟩
  ·intro y0 y1 y2;unfold head_such.l0
   repeat' with_reducible first | exact ih0 _ _ _ | exact ih1 _ _ _ _ | exact ih2 _ _ _ _ | exact LeO.refl _ | exact LeO.none _ | refine LeO.ite ?_ ?_ | refine LeO.bind ?_ (fun _ => ?_)
  ·intro y0 y1 y2 y3;unfold head_such.j2
   repeat' with_reducible first | exact ih0 _ _ _ | exact ih1 _ _ _ _ | exact ih2 _ _ _ _ | exact LeO.refl _ | exact LeO.none _ | refine LeO.ite ?_ ?_ | refine LeO.bind ?_ (fun _ => ?_)
  intro y0 y1 y2 y3;unfold head_such.j1
  repeat' with_reducible first | exact ih0 _ _ _ | exact ih1 _ _ _ _ | exact ih2 _ _ _ _ | exact LeO.refl _ | exact LeO.none _ | refine LeO.ite ?_ ?_ | refine LeO.bind ?_ (fun _ => ?_)
theorem head_such.mono : ∀ a0 a1 k, LeO (head_such.f k a0 a1) (head_such.f (k + 1) a0 a1) := by
 intro a0 a1 k;obtain ⟨ih0, ih1, ih2⟩ := head_such.mono_l k;unfold head_such.f
 repeat' with_reducible first | exact ih0 _ _ _ | exact ih1 _ _ _ _ | exact ih2 _ _ _ _ | exact LeO.refl _ | exact LeO.none _ | refine LeO.ite ?_ ?_ | refine LeO.bind ?_ (fun _ => ?_)
set_option maxHeartbeats 8000000 in
set_option maxRecDepth 100000 in
theorem head_such.calls (k : Nat) (a0 : ByteArray) (a1 : Bool) (r : Bool) (w : World) (h : head_such.f k a0 a1 = some r) :
  Calls Tryz.prog 72 #[.string a0, .bool a1] w fun e w' => e = .returned (.bool r) ∧ Drawn0 w w' := by
 have H : (head_such.l0 k a0 a1 0) = some r := h;clear h;have H' := zN H;clear H;go_enter Tryz.func72, Tryz.ntmps72;go_wp2;go_loopg [5] k (fun kq v5 w' => ∃ (x5_1 : Int), v5 = .int .i64 x5_1 ∧ Aside0 (head_such.l0 kq a0 a1 x5_1 = some r) ∧ Aside0 (kq ≤ k) ∧ Drawn0 w w')
 case atStart => exact ⟨(0), zI, H', ⟨zh _⟩, zD⟩
 case round =>
  clear H';obtain ⟨x5_1, rfl, HA, HK1, ⟨m1, rfl⟩⟩ := hrel;cases gk with
  | zero => exact absurd HA.out (by simp [head_such.l0])
  | succ k1 =>
   have H := HA.out;clear HA;simp only [head_such.l0] at H;by_cases c3 : x5_1 < (a0.size : Int);rotate_left
   ·rw [zn c3] at H;have c3b0 := zf c3;clear c3;obtain rfl := zo H;go_wp2;go_ret;exact ⟨zI, zD⟩
   rw [zp c3] at H;have c3b0 := zt c3;clear c3;by_cases c4 : 0 ≤ x5_1;rotate_left
   ·rw [zn c4] at H;exact absurd H (by simp)
   rw [zp c4] at H;have c4b0 := zt c4;clear c4;have HC6 := zN H;clear H;have p5 : 0 ≤ (x5_1 : Int) := zd zS;have q5 : x5_1 < (a0.size : Int) := zd zS;have hx5 := bt_at a0 x5_1;replace p5 := zu p5;replace q5 := zu q5;go_upto_block 5 with (fail)
   go_cut [] (fun wc => ∃ (kq : Nat), Aside0 (head_such.j2 kq a0 a1 x5_1 (bt a0 x5_1) = some r) ∧ Aside0 (kq ≤ k1) ∧ Drawn0 w wc)
   case first =>
    have H := HC6.out;clear HC6;by_cases c7 : (bt a0 x5_1) = 37;rotate_left
    ·rw [zn c7] at H;have c7b0 := zb.mpr c7;have c7b1 := bne_iff_ne.mpr c7;(first | rw [c7b0] | (simp only [i64_w, i32_w]; rw [c7b0]) | skip);by_cases c22 : (bt a0 x5_1) = 63;rotate_left
     ·rw [zn c22] at H;have c22b0 := zb.mpr c22;have c22b1 := bne_iff_ne.mpr c22;have H' := zN H;clear H;go_wp2;go_meet
      case rel => exact ⟨_, H', ⟨by have := HK1.out; first | omega | exact zh _⟩, zD⟩
     rw [zp c22] at H;have c22b0 := beq_iff_eq.mpr c22;have c22b1 := zc.mpr c22;clear c22;by_cases c23 : a1 = true
     ·subst c23;have H1 := H; rw [zp rfl] at H1;clear H;have H := H1;clear H1;have H' := zN H;clear H;go_wp2;go_roundg k1
      case measure => have := HK1.out; omega
      case rel => exact ⟨(wrap64 (x5_1 + 1)), zI, H', ⟨by have := HK1.out; omega⟩, zD⟩
     replace c23 := zq.mpr c23;subst c23;have H1 := H; rw [zn (show ¬ (false = true) by decide)] at H1;clear H;have H := H1;clear H1;have H' := zN H;clear H;go_wp2;go_meet
     case rel => exact ⟨_, H', ⟨by have := HK1.out; first | omega | exact zh _⟩, zD⟩
    rw [zp c7] at H;have c7b0 := beq_iff_eq.mpr c7;have c7b1 := zc.mpr c7;clear c7;(first | rw [c7b0] | (simp only [i64_w, i32_w]; rw [c7b0]) | skip);have HC8 := zN H;clear H;go_upto_region 7 with (fail)
    go_cut [42] (fun v42 wc => ∃ (kq : Nat) (x42_7 : Bool), v42 = .bool x42_7 ∧ Aside0 (head_such.j1 kq a0 a1 x5_1 x42_7 = some r) ∧ Aside0 (kq ≤ k1) ∧ Drawn0 w wc)
    case first =>
     have H := HC8.out;clear HC8;by_cases c9 : (wrap64 ((a0.size : Int) - x5_1)) < 3
     ·rw [zp c9] at H;have c9b0 := zt c9;clear c9;(first | rw [c9b0] | (simp only [i64_w, i32_w]; rw [c9b0]) | skip);have H' := zN H;clear H;go_wp2;go_meet
      case rel => exact ⟨_, (true), zI, H', ⟨by have := HK1.out; first | omega | exact zh _⟩, zD⟩
     rw [zn c9] at H;have c9b0 := zf c9;clear c9;(first | rw [c9b0] | (simp only [i64_w, i32_w]; rw [c9b0]) | skip);obtain ⟨ji10, hji10⟩ : ∃ j_ : Int, (wrap64 (x5_1 + 1)) = j_ := ⟨_, rfl⟩;replace H : (if 0 ≤ (ji10) then (if (ji10) < (a0.size : Int) then ((head_hex.f (bt a0 (ji10))).bind fun t329 => (if t329 = true then (if 0 ≤ (wrap64 (x5_1 + 2)) then (if (wrap64 (x5_1 + 2)) < (a0.size : Int) then ((head_hex.f (bt a0 (wrap64 (x5_1 + 2)))).bind fun t330 => (head_such.j1 k1 a0 a1 x5_1 (!t330))) else (none)) else (none)) else (head_such.j1 k1 a0 a1 x5_1 true))) else (none)) else (none)) = some r := by first | (rw [hji10] at H; exact H) | (simp only [hji10] at H ⊢; exact H)
     have hji10w : (IntKind.i64.wrap (x5_1 + 1)) = ji10 := (i64_w _).trans hji10;by_cases c11 : 0 ≤ (ji10);rotate_left
     ·rw [zn c11] at H;exact absurd H (by simp)
     rw [zp c11] at H;have c11b0 := zt c11;clear c11;by_cases c12 : (ji10) < (a0.size : Int);rotate_left
     ·rw [zn c12] at H;exact absurd H (by simp)
     rw [zp c12] at H;have c12b0 := zt c12;clear c12;obtain ⟨t329, A14, H⟩ := zA H;(try dsimp only at H);by_cases c15 : t329 = true;rotate_left
     ·replace c15 := zq.mpr c15;subst c15;have H1 := H; rw [zn (show ¬ (false = true) by decide)] at H1;clear H;have H := H1;clear H1;have H' := zN H;clear H;have p13 : 0 ≤ ((ji10) : Int) := zd zS;have q13 : (ji10) < (a0.size : Int) := zd zS;have hx13 := bt_at a0 (ji10);replace p13 := zu p13;replace q13 := zu q13;go_wp2_with (first | (go_at_call 96; (with_reducible refine (head_hex.calls (bt a0 (ji10)) false _ A14.out).mono ?_); rintro e w' ⟨rfl, ⟨nd, rfl⟩⟩));go_meet
      case rel => exact ⟨_, (true), zI, H', ⟨by have := HK1.out; first | omega | exact zh _⟩, zD⟩
     subst c15;have H1 := H; rw [zp rfl] at H1;clear H;have H := H1;clear H1;obtain ⟨ji16, hji16⟩ : ∃ j_ : Int, (wrap64 (x5_1 + 2)) = j_ := ⟨_, rfl⟩;replace H : (if 0 ≤ (ji16) then (if (ji16) < (a0.size : Int) then ((head_hex.f (bt a0 (ji16))).bind fun t330 => (head_such.j1 k1 a0 a1 x5_1 (!t330))) else (none)) else (none)) = some r := by first | (rw [hji16] at H; exact H) | (simp only [hji16] at H ⊢; exact H)
     (try rw [hji16] at A14);have hji16w : (IntKind.i64.wrap (x5_1 + 2)) = ji16 := (i64_w _).trans hji16;by_cases c17 : 0 ≤ (ji16);rotate_left
     ·rw [zn c17] at H;exact absurd H (by simp)
     rw [zp c17] at H;have c17b0 := zt c17;clear c17;by_cases c18 : (ji16) < (a0.size : Int);rotate_left
     ·rw [zn c18] at H;exact absurd H (by simp)
     rw [zp c18] at H;have c18b0 := zt c18;clear c18;obtain ⟨t330, A20, H⟩ := zA H;(try dsimp only at H);have H' := zN H;clear H;have p13 : 0 ≤ ((ji10) : Int) := zd zS;have q13 : (ji10) < (a0.size : Int) := zd zS;have hx13 := bt_at a0 (ji10);replace p13 := zu p13;replace q13 := zu q13;go_wp2_with (first | (go_at_call 96; (with_reducible refine (head_hex.calls (bt a0 (ji10)) true _ A14.out).mono ?_); rintro e w' ⟨rfl, ⟨nd, rfl⟩⟩; have p19 : 0 ≤ ((ji16) : Int) := zd zS; have q19 : (ji16) < (a0.size : Int) := zd zS; have hx19 := bt_at a0 (ji16); replace p19 := zu p19; replace q19 := zu q19) | (go_at_call 96; (with_reducible refine (head_hex.calls (bt a0 (ji16)) t330 _ A20.out).mono ?_); rintro e w' ⟨rfl, ⟨nd, rfl⟩⟩));go_meet
     case rel => exact ⟨_, (!t330), zI, H', ⟨by have := HK1.out; first | omega | exact zh _⟩, zD⟩
    case rest =>
     clear HC8
     try clear c3
     try clear c3b0
     try clear c4
     try clear c4b0
     try clear p5
     try clear q5
     try clear hx5
     try clear c7
     try clear c7b0
     try clear c7b1
     try clear p5
     try clear q5
     obtain ⟨kq, x42_7, rfl, HA, HJ7, ⟨mc7, rfl⟩⟩ := hcut;cases kq with
     | zero => exact absurd HA.out (by simp [head_such.j1])
     | succ kj7 =>
      have H := HA.out;clear HA;simp only [head_such.j1] at H;by_cases c21 : x42_7 = true
      ·subst c21;have H1 := H; rw [zp rfl] at H1;clear H;have H := H1;clear H1;obtain rfl := zo H;go_wp2;go_ret;exact ⟨zI, zD⟩
      replace c21 := zq.mpr c21;subst c21;have H1 := H; rw [zn (show ¬ (false = true) by decide)] at H1;clear H;have H := H1;clear H1;have H' := zN H;clear H;go_wp2;go_roundg kj7
      case measure => have := HK1.out; have := HJ7.out; omega
      case rel => exact ⟨(wrap64 (x5_1 + 1)), zI, H', ⟨by have := HK1.out; have := HJ7.out; omega⟩, zD⟩
   case rest =>
    clear HC6
    try clear c3
    try clear c3b0
    try clear c4
    try clear c4b0
    try clear p5
    try clear q5
    try clear hx5
    try clear p5
    try clear q5
    obtain ⟨kq, HA, HJ5, ⟨mc5, rfl⟩⟩ := hcut;cases kq with
    | zero => exact absurd HA.out (by simp [head_such.j2])
    | succ kj5 =>
     have H := HA.out;clear HA;simp only [head_such.j2] at H;obtain ⟨t331, A24, H⟩ := zA H;(try dsimp only at H);by_cases c25 : t331 = true
     ·subst c25;have H1 := H; rw [zp rfl] at H1;clear H;have H := H1;clear H1;have H' := zN H;clear H;go_wp2_with (first | ((with_reducible refine gate_callee (f := 73) rfl ?_); refine zg (some 45) Tryz.func73 #[.int .u8 (bt a0 x5_1)] ?_; (with_reducible refine (head_alnum.calls (bt a0 x5_1) true _ A24.out).mono ?_); rintro e w' ⟨rfl, ⟨nd, rfl⟩⟩; refine ⟨_, rfl, ?_⟩));go_roundg kj5
      case measure => have := HK1.out; have := HJ5.out; omega
      case rel => exact ⟨(wrap64 (x5_1 + 1)), zI, H', ⟨by have := HK1.out; have := HJ5.out; omega⟩, zD⟩
     replace c25 := zq.mpr c25;subst c25;have H1 := H; rw [zn (show ¬ (false = true) by decide)] at H1;clear H;have H := H1;clear H1;by_cases c26 : 0 ≤ x5_1;rotate_left
     ·rw [zn c26] at H;exact absurd H (by simp)
     rw [zp c26] at H;have c26b0 := zu c26;have c26b1 := zt c26;clear c26;by_cases c27 : x5_1 ≤ (wrap64 (x5_1 + 1));rotate_left
     ·rw [zn c27] at H;exact absurd H (by simp)
     rw [zp c27] at H;have c27b0 := zu c27;have c27b1 := zt c27;by_cases c28 : (wrap64 (x5_1 + 1)) ≤ (a0.size : Int);rotate_left
     ·rw [zn c28] at H;exact absurd H (by simp)
     rw [zp c28] at H;have c28b0 := zu c28;have c28b1 := zt c28;obtain ⟨t332, A29, H⟩ := zA H;(try dsimp only at H);by_cases c30 : t332 = true
     ·subst c30;have H1 := H; rw [zp rfl] at H1;clear H;have H := H1;clear H1;have H' := zN H;clear H;go_wp2_with (first | ((with_reducible refine gate_callee (f := 73) rfl ?_); refine zg (some 45) Tryz.func73 #[.int .u8 (bt a0 x5_1)] ?_; (with_reducible refine (head_alnum.calls (bt a0 x5_1) false _ A24.out).mono ?_); rintro e w' ⟨rfl, ⟨nd, rfl⟩⟩; refine ⟨_, rfl, ?_⟩) | (go_at_call 74; (with_reducible refine (strings_Contains.calls (⟨#[47, 45, 46, 95, 126, 33, 36, 38, 39, 40, 41, 42, 43, 44, 59, 61, 58, 64]⟩ : ByteArray) (a0.extract (x5_1 : Int).toNat ((wrap64 (x5_1 + 1)) : Int).toNat) true _ A29.out).mono ?_); rintro e w' ⟨rfl, ⟨nd, rfl⟩⟩));go_roundg kj5
      case measure => have := HK1.out; have := HJ5.out; omega
      case rel => exact ⟨(wrap64 (x5_1 + 1)), zI, H', ⟨by have := HK1.out; have := HJ5.out; omega⟩, zD⟩
     replace c30 := zq.mpr c30;subst c30;have H1 := H; rw [zn (show ¬ (false = true) by decide)] at H1;clear H;have H := H1;clear H1;obtain rfl := zo H;go_wp2_with (first | ((with_reducible refine gate_callee (f := 73) rfl ?_); refine zg (some 45) Tryz.func73 #[.int .u8 (bt a0 x5_1)] ?_; (with_reducible refine (head_alnum.calls (bt a0 x5_1) false _ A24.out).mono ?_); rintro e w' ⟨rfl, ⟨nd, rfl⟩⟩; refine ⟨_, rfl, ?_⟩) | (go_at_call 74; (with_reducible refine (strings_Contains.calls (⟨#[47, 45, 46, 95, 126, 33, 36, 38, 39, 40, 41, 42, 43, 44, 59, 61, 58, 64]⟩ : ByteArray) (a0.extract (x5_1 : Int).toNat ((wrap64 (x5_1 + 1)) : Int).toNat) false _ A29.out).mono ?_); rintro e w' ⟨rfl, ⟨nd, rfl⟩⟩));go_ret;exact ⟨zI, zD⟩

def strings_HasPrefix.f (a0 a1 : ByteArray) : Option Bool := some (Lib.hasPrefix a0.data.toList a1.data.toList)
theorem strings_HasPrefix.calls (a0 a1 : ByteArray) (r : Bool) (w : World) (h : strings_HasPrefix.f a0 a1 = some r) :
    Calls Tryz.prog 95 #[.string a0, .string a1] w fun e w' => e = .returned (.bool r) ∧ Drawn0 w w' := by
  obtain rfl := zo h;exact (Tryz.strings_HasPrefix a0 a1 w).mono fun e w' ⟨h1, h2⟩ => ⟨h1, 0, h2⟩


def head_path.f (k : Nat) (a0 : ByteArray) : Option (Bool) := (strings_HasPrefix.f a0 (⟨#[47]⟩ : ByteArray)).bind fun t333 => (if t333 = true then ((head_such.f k a0 false).bind fun t334 => (some t334)) else (some false))
theorem head_path.mono : ∀ a0 k, LeO (head_path.f k a0) (head_path.f (k + 1) a0) := by
  intro a0 k;unfold head_path.f
  repeat' with_reducible first | exact head_such.mono _ _ _ | exact LeO.refl _ | exact LeO.none _ | refine LeO.ite ?_ ?_ | refine LeO.bind ?_ (fun _ => ?_)
set_option maxHeartbeats 8000000 in
set_option maxRecDepth 100000 in
theorem head_path.calls (k : Nat) (a0 : ByteArray) (r : Bool) (w : World) (h : head_path.f k a0 = some r) :
    Calls Tryz.prog 71 #[.string a0] w fun e w' => e = .returned (.bool r) ∧ Drawn0 w w' := by
  have H : ((strings_HasPrefix.f a0 (⟨#[47]⟩ : ByteArray)).bind fun t333 => (if t333 = true then ((head_such.f k a0 false).bind fun t334 => (some t334)) else (some false))) = some r := h;clear h;obtain ⟨t333, A2, H⟩ := zA H;(try dsimp only at H);by_cases c3 : t333 = true
  · subst c3;have H1 := H; rw [zp rfl] at H1;clear H;have H := H1;clear H1;obtain ⟨t334, A4, H⟩ := zA H;(try dsimp only at H);obtain rfl := zo H;go_enter Tryz.func71, Tryz.ntmps71;go_wp2_with (first | ((with_reducible refine gate_callee (f := 95) rfl ?_); refine zg (some 4) Tryz.func95 #[.string a0, .string (⟨#[47]⟩ : ByteArray)] ?_; (with_reducible refine (strings_HasPrefix.calls a0 (⟨#[47]⟩ : ByteArray) true _ A2.out).mono ?_); rintro e w' ⟨rfl, ⟨nd, rfl⟩⟩; refine ⟨_, rfl, ?_⟩) | (go_at_call 72; (with_reducible refine (head_such.calls k a0 false t334 _ A4.out).mono ?_); rintro e w' ⟨rfl, ⟨nd, rfl⟩⟩));go_ret;exact ⟨zI, zD⟩
  replace c3 := zq.mpr c3;subst c3;have H1 := H; rw [zn (show ¬ (false = true) by decide)] at H1;clear H;have H := H1;clear H1;obtain rfl := zo H;go_enter Tryz.func71, Tryz.ntmps71;go_wp2_with (first | ((with_reducible refine gate_callee (f := 95) rfl ?_); refine zg (some 4) Tryz.func95 #[.string a0, .string (⟨#[47]⟩ : ByteArray)] ?_; (with_reducible refine (strings_HasPrefix.calls a0 (⟨#[47]⟩ : ByteArray) false _ A2.out).mono ?_); rintro e w' ⟨rfl, ⟨nd, rfl⟩⟩; refine ⟨_, rfl, ?_⟩));go_ret;exact ⟨zI, zD⟩

def head_target.j0 : Nat → ByteArray → ByteArray → ByteArray → Option (ByteArray × ByteArray × ByteArray × Bool)
 | 0, _, _, _ => none
 | k + 1, x2, x3, x6 => (head_Host.f k x6).bind fun bt341 => (if bt341.2 = true then ((head_path.f k x2).bind fun t343 => (if t343 = true then ((head_such.f k x3 true).bind fun t344 => (some (x2, x3, bt341.1, t344))) else (some (x2, x3, bt341.1, false)))) else (some ((⟨#[]⟩ : ByteArray), (⟨#[]⟩ : ByteArray), (⟨#[]⟩ : ByteArray), false)))
def head_target.f (k : Nat) (a0 : ByteArray) : Option (ByteArray × ByteArray × ByteArray × Bool) := (strings_Cut.f a0 (⟨#[63]⟩ : ByteArray)).bind fun bt335 => ((strings_CutPrefix.f bt335.1 (⟨#[104, 116, 116, 112, 58, 47, 47]⟩ : ByteArray)).bind fun bt338 => (if bt338.2 = true then ((strings_IndexByte.f bt338.1 47).bind fun t340 => (if t340 < 0 then (head_target.j0 k (⟨#[47]⟩ : ByteArray) bt335.2.1 bt338.1) else (if 0 ≤ t340 then (if t340 ≤ (bt338.1.size : Int) then (head_target.j0 k (bt338.1.extract (t340 : Int).toNat bt338.1.size) bt335.2.1 (bt338.1.extract 0 (t340 : Int).toNat)) else (none)) else (none)))) else ((head_path.f k bt335.1).bind fun t345 => (if t345 = true then ((head_such.f k bt335.2.1 true).bind fun t346 => (some (bt335.1, bt335.2.1, (⟨#[]⟩ : ByteArray), t346))) else (some (bt335.1, bt335.2.1, (⟨#[]⟩ : ByteArray), false))))))
theorem head_target.mono_l : ∀ k, (∀ y0 y1 y2, LeO (head_target.j0 k y0 y1 y2) (head_target.j0 (k + 1) y0 y1 y2))
 | 0 => fun _ _ _ r h => by simp [head_target.j0] at h
 | k + 1 => by
  have ih0 := head_target.mono_l k;intro y0 y1 y2;unfold head_target.j0
  repeat' with_reducible first | exact ih0 _ _ _ | exact head_Host.mono _ _ | exact head_path.mono _ _ | exact head_such.mono _ _ _ | exact LeO.refl _ | exact LeO.none _ | refine LeO.ite ?_ ?_ | refine LeO.bind ?_ (fun _ => ?_)
theorem head_target.mono : ∀ a0 k, LeO (head_target.f k a0) (head_target.f (k + 1) a0) := by
 intro a0 k;have ih0 := head_target.mono_l k;unfold head_target.f
 repeat' with_reducible first | exact ih0 _ _ _ | exact head_Host.mono _ _ | exact head_path.mono _ _ | exact head_such.mono _ _ _ | exact LeO.refl _ | exact LeO.none _ | refine LeO.ite ?_ ?_ | refine LeO.bind ?_ (fun _ => ?_)
set_option maxHeartbeats 8000000 in
set_option maxRecDepth 100000 in
theorem head_target.calls (k : Nat) (a0 : ByteArray) (r1 : ByteArray) (r2 : ByteArray) (r3 : ByteArray) (r4 : Bool) (w : World) (hml : ML w) (h : head_target.f k a0 = some (r1, r2, r3, r4)) :
  Calls Tryz.prog 49 #[.string a0] w fun e w' => e = .returned (.tuple #[.string r1, .string r2, .string r3, .bool r4]) ∧ Below w.heap.size w w' := by
 have HML := zN hml;clear hml;have HB := zN (Below.refl w.heap.size w);have H : ((strings_Cut.f a0 (⟨#[63]⟩ : ByteArray)).bind fun bt335 => ((strings_CutPrefix.f bt335.1 (⟨#[104, 116, 116, 112, 58, 47, 47]⟩ : ByteArray)).bind fun bt338 => (if bt338.2 = true then ((strings_IndexByte.f bt338.1 47).bind fun t340 => (if t340 < 0 then (head_target.j0 k (⟨#[47]⟩ : ByteArray) bt335.2.1 bt338.1) else (if 0 ≤ t340 then (if t340 ≤ (bt338.1.size : Int) then (head_target.j0 k (bt338.1.extract (t340 : Int).toNat bt338.1.size) bt335.2.1 (bt338.1.extract 0 (t340 : Int).toNat)) else (none)) else (none)))) else ((head_path.f k bt335.1).bind fun t345 => (if t345 = true then ((head_such.f k bt335.2.1 true).bind fun t346 => (some (bt335.1, bt335.2.1, (⟨#[]⟩ : ByteArray), t346))) else (some (bt335.1, bt335.2.1, (⟨#[]⟩ : ByteArray), false))))))) = some (r1, r2, r3, r4) := h;clear h;obtain ⟨⟨t335, t336, t337⟩, A2, H⟩ := zA H;(try dsimp only at H);obtain ⟨⟨t338, t339⟩, A3, H⟩ := zA H;(try dsimp only at H);by_cases c4 : t339 = true;rotate_left
 ·replace c4 := zq.mpr c4;subst c4;have H1 := H; rw [zn (show ¬ (false = true) by decide)] at H1;clear H;have H := H1;clear H1;obtain ⟨t345, A20, H⟩ := zA H;(try dsimp only at H);by_cases c21 : t345 = true
  ·subst c21;have H1 := H; rw [zp rfl] at H1;clear H;have H := H1;clear H1;obtain ⟨t346, A22, H⟩ := zA H;(try dsimp only at H);simp only [Option.some.injEq, Prod.mk.injEq] at H;obtain ⟨rfl, rfl, rfl, rfl⟩ := H;go_enter Tryz.func49, Tryz.ntmps49;go_wp2_with (first | (go_at_call 48; (with_reducible refine (strings_Cut.calls a0 (⟨#[63]⟩ : ByteArray) t335 t336 t337 _ ?side1 A2.out).mono ?_); (case side1 => exact ML.keep HML.out (zB HB)); rintro e w' ⟨rfl, ⟨nd, rfl⟩⟩; (try first | exact ⟨rfl, _, World.drewN_drewN _ _ _⟩ | exact ⟨rfl, _, Eq.trans (World.drewN_drewN _ _ _) (congrArg (World.drewN _) (Nat.add_assoc _ _ _))⟩)) | (go_at_call 61; (with_reducible refine (strings_CutPrefix.calls t335 (⟨#[104, 116, 116, 112, 58, 47, 47]⟩ : ByteArray) t338 false _ A3.out).mono ?_); rintro e w' ⟨rfl, ⟨nd, rfl⟩⟩; (try first | exact ⟨rfl, _, World.drewN_drewN _ _ _⟩ | exact ⟨rfl, _, Eq.trans (World.drewN_drewN _ _ _) (congrArg (World.drewN _) (Nat.add_assoc _ _ _))⟩)) | (go_at_call 71; (with_reducible refine (head_path.calls k t335 true _ A20.out).mono ?_); rintro e w' ⟨rfl, ⟨nd, rfl⟩⟩; (try first | exact ⟨rfl, _, World.drewN_drewN _ _ _⟩ | exact ⟨rfl, _, Eq.trans (World.drewN_drewN _ _ _) (congrArg (World.drewN _) (Nat.add_assoc _ _ _))⟩)) | (go_at_call 72; (with_reducible refine (head_such.calls k t336 true t346 _ A22.out).mono ?_); rintro e w' ⟨rfl, ⟨nd, rfl⟩⟩; (try first | exact ⟨rfl, _, World.drewN_drewN _ _ _⟩ | exact ⟨rfl, _, Eq.trans (World.drewN_drewN _ _ _) (congrArg (World.drewN _) (Nat.add_assoc _ _ _))⟩)))
   repeat (go_quiet (first | (go_at_call 48; (with_reducible refine (strings_Cut.calls a0 (⟨#[63]⟩ : ByteArray) t335 t336 t337 _ ?side1 A2.out).mono ?_); (case side1 => exact ML.keep HML.out (zB HB)); rintro e w' ⟨rfl, ⟨nd, rfl⟩⟩; (try first | exact ⟨rfl, _, World.drewN_drewN _ _ _⟩ | exact ⟨rfl, _, Eq.trans (World.drewN_drewN _ _ _) (congrArg (World.drewN _) (Nat.add_assoc _ _ _))⟩)) | (go_at_call 61; (with_reducible refine (strings_CutPrefix.calls t335 (⟨#[104, 116, 116, 112, 58, 47, 47]⟩ : ByteArray) t338 false _ A3.out).mono ?_); rintro e w' ⟨rfl, ⟨nd, rfl⟩⟩; (try first | exact ⟨rfl, _, World.drewN_drewN _ _ _⟩ | exact ⟨rfl, _, Eq.trans (World.drewN_drewN _ _ _) (congrArg (World.drewN _) (Nat.add_assoc _ _ _))⟩)) | (go_at_call 71; (with_reducible refine (head_path.calls k t335 true _ A20.out).mono ?_); rintro e w' ⟨rfl, ⟨nd, rfl⟩⟩; (try first | exact ⟨rfl, _, World.drewN_drewN _ _ _⟩ | exact ⟨rfl, _, Eq.trans (World.drewN_drewN _ _ _) (congrArg (World.drewN _) (Nat.add_assoc _ _ _))⟩)) | (go_at_call 72; (with_reducible refine (head_such.calls k t336 true t346 _ A22.out).mono ?_); rintro e w' ⟨rfl, ⟨nd, rfl⟩⟩; (try first | exact ⟨rfl, _, World.drewN_drewN _ _ _⟩ | exact ⟨rfl, _, Eq.trans (World.drewN_drewN _ _ _) (congrArg (World.drewN _) (Nat.add_assoc _ _ _))⟩))); try go_wp2_with (first | (go_at_call 48; (with_reducible refine (strings_Cut.calls a0 (⟨#[63]⟩ : ByteArray) t335 t336 t337 _ ?side1 A2.out).mono ?_); (case side1 => exact ML.keep HML.out (zB HB)); rintro e w' ⟨rfl, ⟨nd, rfl⟩⟩; (try first | exact ⟨rfl, _, World.drewN_drewN _ _ _⟩ | exact ⟨rfl, _, Eq.trans (World.drewN_drewN _ _ _) (congrArg (World.drewN _) (Nat.add_assoc _ _ _))⟩)) | (go_at_call 61; (with_reducible refine (strings_CutPrefix.calls t335 (⟨#[104, 116, 116, 112, 58, 47, 47]⟩ : ByteArray) t338 false _ A3.out).mono ?_); rintro e w' ⟨rfl, ⟨nd, rfl⟩⟩; (try first | exact ⟨rfl, _, World.drewN_drewN _ _ _⟩ | exact ⟨rfl, _, Eq.trans (World.drewN_drewN _ _ _) (congrArg (World.drewN _) (Nat.add_assoc _ _ _))⟩)) | (go_at_call 71; (with_reducible refine (head_path.calls k t335 true _ A20.out).mono ?_); rintro e w' ⟨rfl, ⟨nd, rfl⟩⟩; (try first | exact ⟨rfl, _, World.drewN_drewN _ _ _⟩ | exact ⟨rfl, _, Eq.trans (World.drewN_drewN _ _ _) (congrArg (World.drewN _) (Nat.add_assoc _ _ _))⟩)) | (go_at_call 72; (with_reducible refine (head_such.calls k t336 true t346 _ A22.out).mono ?_); rintro e w' ⟨rfl, ⟨nd, rfl⟩⟩; (try first | exact ⟨rfl, _, World.drewN_drewN _ _ _⟩ | exact ⟨rfl, _, Eq.trans (World.drewN_drewN _ _ _) (congrArg (World.drewN _) (Nat.add_assoc _ _ _))⟩))))
   refine bodyPost_ret (results_list (rs := [.tmp 2, .tmp 3, .tmp 4, .tmp 5]) rfl (by simp) (.tmp (.tmp (.tmp (.tmp .nil))))) rfl ?_;exact ⟨zE, zB HB⟩
  replace c21 := zq.mpr c21;subst c21;have H1 := H; rw [zn (show ¬ (false = true) by decide)] at H1;clear H;have H := H1;clear H1;simp only [Option.some.injEq, Prod.mk.injEq] at H;obtain ⟨rfl, rfl, rfl, rfl⟩ := H;go_enter Tryz.func49, Tryz.ntmps49;go_wp2_with (first | (go_at_call 48; (with_reducible refine (strings_Cut.calls a0 (⟨#[63]⟩ : ByteArray) t335 t336 t337 _ ?side1 A2.out).mono ?_); (case side1 => exact ML.keep HML.out (zB HB)); rintro e w' ⟨rfl, ⟨nd, rfl⟩⟩; (try first | exact ⟨rfl, _, World.drewN_drewN _ _ _⟩ | exact ⟨rfl, _, Eq.trans (World.drewN_drewN _ _ _) (congrArg (World.drewN _) (Nat.add_assoc _ _ _))⟩)) | (go_at_call 61; (with_reducible refine (strings_CutPrefix.calls t335 (⟨#[104, 116, 116, 112, 58, 47, 47]⟩ : ByteArray) t338 false _ A3.out).mono ?_); rintro e w' ⟨rfl, ⟨nd, rfl⟩⟩; (try first | exact ⟨rfl, _, World.drewN_drewN _ _ _⟩ | exact ⟨rfl, _, Eq.trans (World.drewN_drewN _ _ _) (congrArg (World.drewN _) (Nat.add_assoc _ _ _))⟩)) | (go_at_call 71; (with_reducible refine (head_path.calls k t335 false _ A20.out).mono ?_); rintro e w' ⟨rfl, ⟨nd, rfl⟩⟩; (try first | exact ⟨rfl, _, World.drewN_drewN _ _ _⟩ | exact ⟨rfl, _, Eq.trans (World.drewN_drewN _ _ _) (congrArg (World.drewN _) (Nat.add_assoc _ _ _))⟩)))
  repeat (go_quiet (first | (go_at_call 48; (with_reducible refine (strings_Cut.calls a0 (⟨#[63]⟩ : ByteArray) t335 t336 t337 _ ?side1 A2.out).mono ?_); (case side1 => exact ML.keep HML.out (zB HB)); rintro e w' ⟨rfl, ⟨nd, rfl⟩⟩; (try first | exact ⟨rfl, _, World.drewN_drewN _ _ _⟩ | exact ⟨rfl, _, Eq.trans (World.drewN_drewN _ _ _) (congrArg (World.drewN _) (Nat.add_assoc _ _ _))⟩)) | (go_at_call 61; (with_reducible refine (strings_CutPrefix.calls t335 (⟨#[104, 116, 116, 112, 58, 47, 47]⟩ : ByteArray) t338 false _ A3.out).mono ?_); rintro e w' ⟨rfl, ⟨nd, rfl⟩⟩; (try first | exact ⟨rfl, _, World.drewN_drewN _ _ _⟩ | exact ⟨rfl, _, Eq.trans (World.drewN_drewN _ _ _) (congrArg (World.drewN _) (Nat.add_assoc _ _ _))⟩)) | (go_at_call 71; (with_reducible refine (head_path.calls k t335 false _ A20.out).mono ?_); rintro e w' ⟨rfl, ⟨nd, rfl⟩⟩; (try first | exact ⟨rfl, _, World.drewN_drewN _ _ _⟩ | exact ⟨rfl, _, Eq.trans (World.drewN_drewN _ _ _) (congrArg (World.drewN _) (Nat.add_assoc _ _ _))⟩))); try go_wp2_with (first | (go_at_call 48; (with_reducible refine (strings_Cut.calls a0 (⟨#[63]⟩ : ByteArray) t335 t336 t337 _ ?side1 A2.out).mono ?_); (case side1 => exact ML.keep HML.out (zB HB)); rintro e w' ⟨rfl, ⟨nd, rfl⟩⟩; (try first | exact ⟨rfl, _, World.drewN_drewN _ _ _⟩ | exact ⟨rfl, _, Eq.trans (World.drewN_drewN _ _ _) (congrArg (World.drewN _) (Nat.add_assoc _ _ _))⟩)) | (go_at_call 61; (with_reducible refine (strings_CutPrefix.calls t335 (⟨#[104, 116, 116, 112, 58, 47, 47]⟩ : ByteArray) t338 false _ A3.out).mono ?_); rintro e w' ⟨rfl, ⟨nd, rfl⟩⟩; (try first | exact ⟨rfl, _, World.drewN_drewN _ _ _⟩ | exact ⟨rfl, _, Eq.trans (World.drewN_drewN _ _ _) (congrArg (World.drewN _) (Nat.add_assoc _ _ _))⟩)) | (go_at_call 71; (with_reducible refine (head_path.calls k t335 false _ A20.out).mono ?_); rintro e w' ⟨rfl, ⟨nd, rfl⟩⟩; (try first | exact ⟨rfl, _, World.drewN_drewN _ _ _⟩ | exact ⟨rfl, _, Eq.trans (World.drewN_drewN _ _ _) (congrArg (World.drewN _) (Nat.add_assoc _ _ _))⟩))))
  refine bodyPost_ret (results_list (rs := [.tmp 2, .tmp 3, .tmp 4, .tmp 5]) rfl (by simp) (.tmp (.tmp (.tmp (.tmp .nil))))) rfl ?_;exact ⟨zE, zB HB⟩
 subst c4;have H1 := H; rw [zp rfl] at H1;clear H;have H := H1;clear H1;obtain ⟨t340, A5, H⟩ := zA H;(try dsimp only at H);have HC6 := zN H;clear H;go_enter Tryz.func49, Tryz.ntmps49;go_upto_if 24 with (first | (go_at_call 48; (with_reducible refine (strings_Cut.calls a0 (⟨#[63]⟩ : ByteArray) t335 t336 t337 _ ?side1 A2.out).mono ?_); (case side1 => exact ML.keep HML.out (zB HB)); rintro e w' ⟨rfl, ⟨nd, rfl⟩⟩; (try first | exact ⟨rfl, _, World.drewN_drewN _ _ _⟩ | exact ⟨rfl, _, Eq.trans (World.drewN_drewN _ _ _) (congrArg (World.drewN _) (Nat.add_assoc _ _ _))⟩)) | (go_at_call 61; (with_reducible refine (strings_CutPrefix.calls t335 (⟨#[104, 116, 116, 112, 58, 47, 47]⟩ : ByteArray) t338 true _ A3.out).mono ?_); rintro e w' ⟨rfl, ⟨nd, rfl⟩⟩; (try first | exact ⟨rfl, _, World.drewN_drewN _ _ _⟩ | exact ⟨rfl, _, Eq.trans (World.drewN_drewN _ _ _) (congrArg (World.drewN _) (Nat.add_assoc _ _ _))⟩)) | (go_at_call 70; (with_reducible refine (strings_IndexByte.calls t338 47 t340 _ A5.out).mono ?_); rintro e w' ⟨rfl, ⟨nd, rfl⟩⟩; (try first | exact ⟨rfl, _, World.drewN_drewN _ _ _⟩ | exact ⟨rfl, _, Eq.trans (World.drewN_drewN _ _ _) (congrArg (World.drewN _) (Nat.add_assoc _ _ _))⟩)))
 repeat (go_quiet (first | (go_at_call 48; (with_reducible refine (strings_Cut.calls a0 (⟨#[63]⟩ : ByteArray) t335 t336 t337 _ ?side1 A2.out).mono ?_); (case side1 => exact ML.keep HML.out (zB HB)); rintro e w' ⟨rfl, ⟨nd, rfl⟩⟩; (try first | exact ⟨rfl, _, World.drewN_drewN _ _ _⟩ | exact ⟨rfl, _, Eq.trans (World.drewN_drewN _ _ _) (congrArg (World.drewN _) (Nat.add_assoc _ _ _))⟩)) | (go_at_call 61; (with_reducible refine (strings_CutPrefix.calls t335 (⟨#[104, 116, 116, 112, 58, 47, 47]⟩ : ByteArray) t338 true _ A3.out).mono ?_); rintro e w' ⟨rfl, ⟨nd, rfl⟩⟩; (try first | exact ⟨rfl, _, World.drewN_drewN _ _ _⟩ | exact ⟨rfl, _, Eq.trans (World.drewN_drewN _ _ _) (congrArg (World.drewN _) (Nat.add_assoc _ _ _))⟩)) | (go_at_call 70; (with_reducible refine (strings_IndexByte.calls t338 47 t340 _ A5.out).mono ?_); rintro e w' ⟨rfl, ⟨nd, rfl⟩⟩; (try first | exact ⟨rfl, _, World.drewN_drewN _ _ _⟩ | exact ⟨rfl, _, Eq.trans (World.drewN_drewN _ _ _) (congrArg (World.drewN _) (Nat.add_assoc _ _ _))⟩))); go_upto_if 24 with (first | (go_at_call 48; (with_reducible refine (strings_Cut.calls a0 (⟨#[63]⟩ : ByteArray) t335 t336 t337 _ ?side1 A2.out).mono ?_); (case side1 => exact ML.keep HML.out (zB HB)); rintro e w' ⟨rfl, ⟨nd, rfl⟩⟩; (try first | exact ⟨rfl, _, World.drewN_drewN _ _ _⟩ | exact ⟨rfl, _, Eq.trans (World.drewN_drewN _ _ _) (congrArg (World.drewN _) (Nat.add_assoc _ _ _))⟩)) | (go_at_call 61; (with_reducible refine (strings_CutPrefix.calls t335 (⟨#[104, 116, 116, 112, 58, 47, 47]⟩ : ByteArray) t338 true _ A3.out).mono ?_); rintro e w' ⟨rfl, ⟨nd, rfl⟩⟩; (try first | exact ⟨rfl, _, World.drewN_drewN _ _ _⟩ | exact ⟨rfl, _, Eq.trans (World.drewN_drewN _ _ _) (congrArg (World.drewN _) (Nat.add_assoc _ _ _))⟩)) | (go_at_call 70; (with_reducible refine (strings_IndexByte.calls t338 47 t340 _ A5.out).mono ?_); rintro e w' ⟨rfl, ⟨nd, rfl⟩⟩; (try first | exact ⟨rfl, _, World.drewN_drewN _ _ _⟩ | exact ⟨rfl, _, Eq.trans (World.drewN_drewN _ _ _) (congrArg (World.drewN _) (Nat.add_assoc _ _ _))⟩))))
 (try simp only [Act.put, List.setIfInBounds_toArray, List.set_cons_zero, List.set_cons_succ]);go_cut [2, 6] (fun v2 v6 wc => ∃ (kq : Nat) (x2_5 : ByteArray) (x6_5 : ByteArray), v2 = .string x2_5 ∧ v6 = .string x6_5 ∧ Aside0 (head_target.j0 kq x2_5 t336 x6_5 = some (r1, r2, r3, r4)) ∧ Aside0 (kq ≤ k) ∧ Aside0 (Below w.heap.size w wc))
 case first =>
  have H := HC6.out;clear HC6;by_cases c7 : t340 < 0
  ·rw [zp c7] at H;have c7b0 := zt c7;clear c7;(first | rw [c7b0] | (simp only [i64_w, i32_w]; rw [c7b0]) | skip);have H' := zN H;clear H;go_wp2
   repeat (go_quiet (fail); try go_wp2)
   go_meet
   case rel => exact ⟨_, ((⟨#[47]⟩ : ByteArray)), (t338), zI, zI, H', ⟨by first | omega | exact zh _⟩, ⟨zB HB⟩⟩
  rw [zn c7] at H;have c7b0 := zf c7;clear c7;(first | rw [c7b0] | (simp only [i64_w, i32_w]; rw [c7b0]) | skip);by_cases c8 : 0 ≤ t340;rotate_left
  ·rw [zn c8] at H;exact absurd H (by simp)
  rw [zp c8] at H;have c8b0 := zu c8;have c8b1 := zt c8;clear c8;by_cases c9 : t340 ≤ (t338.size : Int);rotate_left
  ·rw [zn c9] at H;exact absurd H (by simp)
  rw [zp c9] at H;have c9b0 := zu c9;have c9b1 := zt c9;clear c9;have c10b0 := zu (zd zS : 0 ≤ t340);have c11b0 := zu (zd zS : t340 ≤ (t338.size : Int));have H' := zN H;clear H;go_wp2
  repeat (go_quiet (fail); try go_wp2)
  go_meet
  case rel => exact ⟨_, (t338.extract (t340 : Int).toNat t338.size), (t338.extract 0 (t340 : Int).toNat), zI, zI, H', ⟨by first | omega | exact zh _⟩, ⟨zB HB⟩⟩
 case rest =>
  clear HC6
  try clear c4
  obtain ⟨kq, x2_5, x6_5, rfl, rfl, HA, HJ5, HB⟩ := hcut;cases kq with
  | zero => exact absurd HA.out (by simp [head_target.j0])
  | succ kj5 =>
   have H := HA.out;clear HA;simp only [head_target.j0] at H;obtain ⟨⟨t341, t342⟩, A12, H⟩ := zA H;(try dsimp only at H);by_cases c13 : t342 = true;rotate_left
   ·replace c13 := zq.mpr c13;subst c13;have H1 := H; rw [zn (show ¬ (false = true) by decide)] at H1;clear H;have H := H1;clear H1;simp only [Option.some.injEq, Prod.mk.injEq] at H;obtain ⟨rfl, rfl, rfl, rfl⟩ := H;go_wp2_with (first | (go_at_call 54; (with_reducible refine (head_Host.calls kj5 x6_5 t341 false _ ?side1 A12.out).mono ?_); (case side1 => exact ML.keep HML.out (zB HB)); rintro e w19 ⟨rfl, hb⟩; replace HB := zk HB hb; (try clear hb); (try clear hb2); (try clear hk); (try clear hi)))
    repeat (go_quiet (first | (go_at_call 54; (with_reducible refine (head_Host.calls kj5 x6_5 t341 false _ ?side1 A12.out).mono ?_); (case side1 => exact ML.keep HML.out (zB HB)); rintro e w19 ⟨rfl, hb⟩; replace HB := zk HB hb; (try clear hb); (try clear hb2); (try clear hk); (try clear hi))); try go_wp2_with (first | (go_at_call 54; (with_reducible refine (head_Host.calls kj5 x6_5 t341 false _ ?side1 A12.out).mono ?_); (case side1 => exact ML.keep HML.out (zB HB)); rintro e w19 ⟨rfl, hb⟩; replace HB := zk HB hb; (try clear hb); (try clear hb2); (try clear hk); (try clear hi))))
    refine bodyPost_ret (results_list (rs := [.tmp 2, .tmp 3, .tmp 4, .tmp 5]) rfl (by simp) (.tmp (.tmp (.tmp (.tmp .nil))))) rfl ?_;exact ⟨zE, zB HB⟩
   subst c13;have H1 := H; rw [zp rfl] at H1;clear H;have H := H1;clear H1;obtain ⟨t343, A14, H⟩ := zA H;(try dsimp only at H);by_cases c15 : t343 = true
   ·subst c15;have H1 := H; rw [zp rfl] at H1;clear H;have H := H1;clear H1;obtain ⟨t344, A16, H⟩ := zA H;(try dsimp only at H);simp only [Option.some.injEq, Prod.mk.injEq] at H;obtain ⟨rfl, rfl, rfl, rfl⟩ := H;go_wp2_with (first | (go_at_call 54; (with_reducible refine (head_Host.calls kj5 x6_5 t341 true _ ?side1 A12.out).mono ?_); (case side1 => exact ML.keep HML.out (zB HB)); rintro e w17 ⟨rfl, hb⟩; replace HB := zk HB hb; (try clear hb); (try clear hb2); (try clear hk); (try clear hi)) | (go_at_call 71; (with_reducible refine (head_path.calls kj5 x2_5 true _ A14.out).mono ?_); rintro e w' ⟨rfl, ⟨nd, rfl⟩⟩; (try first | exact ⟨rfl, _, World.drewN_drewN _ _ _⟩ | exact ⟨rfl, _, Eq.trans (World.drewN_drewN _ _ _) (congrArg (World.drewN _) (Nat.add_assoc _ _ _))⟩)) | (go_at_call 72; (with_reducible refine (head_such.calls kj5 t336 true t344 _ A16.out).mono ?_); rintro e w' ⟨rfl, ⟨nd, rfl⟩⟩; (try first | exact ⟨rfl, _, World.drewN_drewN _ _ _⟩ | exact ⟨rfl, _, Eq.trans (World.drewN_drewN _ _ _) (congrArg (World.drewN _) (Nat.add_assoc _ _ _))⟩)))
    repeat (go_quiet (first | (go_at_call 54; (with_reducible refine (head_Host.calls kj5 x6_5 t341 true _ ?side1 A12.out).mono ?_); (case side1 => exact ML.keep HML.out (zB HB)); rintro e w17 ⟨rfl, hb⟩; replace HB := zk HB hb; (try clear hb); (try clear hb2); (try clear hk); (try clear hi)) | (go_at_call 71; (with_reducible refine (head_path.calls kj5 x2_5 true _ A14.out).mono ?_); rintro e w' ⟨rfl, ⟨nd, rfl⟩⟩; (try first | exact ⟨rfl, _, World.drewN_drewN _ _ _⟩ | exact ⟨rfl, _, Eq.trans (World.drewN_drewN _ _ _) (congrArg (World.drewN _) (Nat.add_assoc _ _ _))⟩)) | (go_at_call 72; (with_reducible refine (head_such.calls kj5 t336 true t344 _ A16.out).mono ?_); rintro e w' ⟨rfl, ⟨nd, rfl⟩⟩; (try first | exact ⟨rfl, _, World.drewN_drewN _ _ _⟩ | exact ⟨rfl, _, Eq.trans (World.drewN_drewN _ _ _) (congrArg (World.drewN _) (Nat.add_assoc _ _ _))⟩))); try go_wp2_with (first | (go_at_call 54; (with_reducible refine (head_Host.calls kj5 x6_5 t341 true _ ?side1 A12.out).mono ?_); (case side1 => exact ML.keep HML.out (zB HB)); rintro e w17 ⟨rfl, hb⟩; replace HB := zk HB hb; (try clear hb); (try clear hb2); (try clear hk); (try clear hi)) | (go_at_call 71; (with_reducible refine (head_path.calls kj5 x2_5 true _ A14.out).mono ?_); rintro e w' ⟨rfl, ⟨nd, rfl⟩⟩; (try first | exact ⟨rfl, _, World.drewN_drewN _ _ _⟩ | exact ⟨rfl, _, Eq.trans (World.drewN_drewN _ _ _) (congrArg (World.drewN _) (Nat.add_assoc _ _ _))⟩)) | (go_at_call 72; (with_reducible refine (head_such.calls kj5 t336 true t344 _ A16.out).mono ?_); rintro e w' ⟨rfl, ⟨nd, rfl⟩⟩; (try first | exact ⟨rfl, _, World.drewN_drewN _ _ _⟩ | exact ⟨rfl, _, Eq.trans (World.drewN_drewN _ _ _) (congrArg (World.drewN _) (Nat.add_assoc _ _ _))⟩))))
    refine bodyPost_ret (results_list (rs := [.tmp 2, .tmp 3, .tmp 4, .tmp 5]) rfl (by simp) (.tmp (.tmp (.tmp (.tmp .nil))))) rfl ?_;exact ⟨zE, zB HB⟩
   replace c15 := zq.mpr c15;subst c15;have H1 := H; rw [zn (show ¬ (false = true) by decide)] at H1;clear H;have H := H1;clear H1;simp only [Option.some.injEq, Prod.mk.injEq] at H;obtain ⟨rfl, rfl, rfl, rfl⟩ := H;go_wp2_with (first | (go_at_call 54; (with_reducible refine (head_Host.calls kj5 x6_5 t341 true _ ?side1 A12.out).mono ?_); (case side1 => exact ML.keep HML.out (zB HB)); rintro e w18 ⟨rfl, hb⟩; replace HB := zk HB hb; (try clear hb); (try clear hb2); (try clear hk); (try clear hi)) | (go_at_call 71; (with_reducible refine (head_path.calls kj5 x2_5 false _ A14.out).mono ?_); rintro e w' ⟨rfl, ⟨nd, rfl⟩⟩; (try first | exact ⟨rfl, _, World.drewN_drewN _ _ _⟩ | exact ⟨rfl, _, Eq.trans (World.drewN_drewN _ _ _) (congrArg (World.drewN _) (Nat.add_assoc _ _ _))⟩)))
   repeat (go_quiet (first | (go_at_call 54; (with_reducible refine (head_Host.calls kj5 x6_5 t341 true _ ?side1 A12.out).mono ?_); (case side1 => exact ML.keep HML.out (zB HB)); rintro e w18 ⟨rfl, hb⟩; replace HB := zk HB hb; (try clear hb); (try clear hb2); (try clear hk); (try clear hi)) | (go_at_call 71; (with_reducible refine (head_path.calls kj5 x2_5 false _ A14.out).mono ?_); rintro e w' ⟨rfl, ⟨nd, rfl⟩⟩; (try first | exact ⟨rfl, _, World.drewN_drewN _ _ _⟩ | exact ⟨rfl, _, Eq.trans (World.drewN_drewN _ _ _) (congrArg (World.drewN _) (Nat.add_assoc _ _ _))⟩))); try go_wp2_with (first | (go_at_call 54; (with_reducible refine (head_Host.calls kj5 x6_5 t341 true _ ?side1 A12.out).mono ?_); (case side1 => exact ML.keep HML.out (zB HB)); rintro e w18 ⟨rfl, hb⟩; replace HB := zk HB hb; (try clear hb); (try clear hb2); (try clear hk); (try clear hi)) | (go_at_call 71; (with_reducible refine (head_path.calls kj5 x2_5 false _ A14.out).mono ?_); rintro e w' ⟨rfl, ⟨nd, rfl⟩⟩; (try first | exact ⟨rfl, _, World.drewN_drewN _ _ _⟩ | exact ⟨rfl, _, Eq.trans (World.drewN_drewN _ _ _) (congrArg (World.drewN _) (Nat.add_assoc _ _ _))⟩))))
   refine bodyPost_ret (results_list (rs := [.tmp 2, .tmp 3, .tmp 4, .tmp 5]) rfl (by simp) (.tmp (.tmp (.tmp (.tmp .nil))))) rfl ?_;exact ⟨zE, zB HB⟩

def head_token.l0 : Nat → ByteArray → Int → Int → Option (Bool)
  | 0, _, _, _ => none
  | k + 1, x0, x5, x6 => if x6 < x5 then (if 0 ≤ x6 then (if x6 < (x0.size : Int) then ((head_alnum.f (bt x0 x6)).bind fun t347 => (if t347 = true then (head_token.l0 k x0 x5 (wrap64 (x6 + 1))) else (if x6 ≤ (wrap64 (x6 + 1)) then (if (wrap64 (x6 + 1)) ≤ (x0.size : Int) then ((strings_Contains.f (⟨#[33, 35, 36, 37, 38, 39, 42, 43, 45, 46, 94, 95, 96, 124, 126]⟩ : ByteArray) (x0.extract (x6 : Int).toNat ((wrap64 (x6 + 1)) : Int).toNat)).bind fun t348 => (if t348 = true then (head_token.l0 k x0 x5 (wrap64 (x6 + 1))) else (some false))) else (none)) else (none)))) else (none)) else (none)) else (some (x0.toList != ([] : List UInt8)))
def head_token.f (k : Nat) (a0 : ByteArray) : Option (Bool) := head_token.l0 k a0 (a0.size : Int) 0
theorem head_token.mono_l : ∀ k, (∀ y0 y1 y2, LeO (head_token.l0 k y0 y1 y2) (head_token.l0 (k + 1) y0 y1 y2))
  | 0 => fun _ _ _ r h => by simp [head_token.l0] at h
  | k + 1 => by
    have ih0 := head_token.mono_l k;intro y0 y1 y2;unfold head_token.l0
    repeat' with_reducible first | exact ih0 _ _ _ | exact LeO.refl _ | exact LeO.none _ | refine LeO.ite ?_ ?_ | refine LeO.bind ?_ (fun _ => ?_)
theorem head_token.mono : ∀ a0 k, LeO (head_token.f k a0) (head_token.f (k + 1) a0) := by
  intro a0 k;have ih0 := head_token.mono_l k;unfold head_token.f
  repeat' with_reducible first | exact ih0 _ _ _ | exact LeO.refl _ | exact LeO.none _ | refine LeO.ite ?_ ?_ | refine LeO.bind ?_ (fun _ => ?_)
set_option maxHeartbeats 8000000 in
set_option maxRecDepth 100000 in
theorem head_token.calls (k : Nat) (a0 : ByteArray) (r : Bool) (w : World) (h : head_token.f k a0 = some r) :
    Calls Tryz.prog 50 #[.string a0] w fun e w' => e = .returned (.bool r) ∧ Drawn0 w w' := by
  have H : (head_token.l0 k a0 (a0.size : Int) 0) = some r := h;clear h;have H' := zN H;clear H;go_enter Tryz.func50, Tryz.ntmps50;go_wp2;go_loopg [6] k (fun kq v6 w' => ∃ (x6_1 : Int), v6 = .int .i64 x6_1 ∧ Aside0 (head_token.l0 kq a0 (a0.size : Int) x6_1 = some r) ∧ Aside0 (kq ≤ k) ∧ Drawn0 w w')
  case atStart => exact ⟨(0), zI, H', ⟨zh _⟩, zD⟩
  case round =>
    clear H';obtain ⟨x6_1, rfl, HA, HK1, ⟨m1, rfl⟩⟩ := hrel;cases gk with
    | zero => exact absurd HA.out (by simp [head_token.l0])
    | succ k1 =>
      have H := HA.out;clear HA;simp only [head_token.l0] at H;by_cases c2 : x6_1 < (a0.size : Int);rotate_left
      · rw [zn c2] at H;have c2b0 := zf c2;clear c2;obtain rfl := zo H;go_wp2;go_ret;exact ⟨by first | rfl | (simp; done) | (simp [*]; done) | (simp; generalize a0.toList = l_; cases l_ <;> simp), zD⟩
      rw [zp c2] at H;have c2b0 := zt c2;clear c2;by_cases c3 : 0 ≤ x6_1;rotate_left
      · rw [zn c3] at H;exact absurd H (by simp)
      rw [zp c3] at H;have c3b0 := zt c3;clear c3;by_cases c4 : x6_1 < (a0.size : Int);rotate_left
      · rw [zn c4] at H;exact absurd H (by simp)
      rw [zp c4] at H;have c4b0 := zt c4;clear c4;obtain ⟨t347, A6, H⟩ := zA H;(try dsimp only at H);by_cases c7 : t347 = true
      · subst c7;have H1 := H; rw [zp rfl] at H1;clear H;have H := H1;clear H1;have H' := zN H;clear H;have p5 : 0 ≤ (x6_1 : Int) := zd zS;have q5 : x6_1 < (a0.size : Int) := zd zS;have hx5 := bt_at a0 x6_1;replace p5 := zu p5;replace q5 := zu q5;go_wp2_with (first | ((with_reducible refine gate_callee (f := 73) rfl ?_); refine zg (some 12) Tryz.func73 #[.int .u8 (bt a0 x6_1)] ?_; (with_reducible refine (head_alnum.calls (bt a0 x6_1) true _ A6.out).mono ?_); rintro e w' ⟨rfl, ⟨nd, rfl⟩⟩; refine ⟨_, rfl, ?_⟩));go_roundg k1
        case measure => have := HK1.out; omega
        case rel => exact ⟨(wrap64 (x6_1 + 1)), zI, H', ⟨by have := HK1.out; omega⟩, zD⟩
      replace c7 := zq.mpr c7;subst c7;have H1 := H; rw [zn (show ¬ (false = true) by decide)] at H1;clear H;have H := H1;clear H1;have c8b0 := zu (zd zS : 0 ≤ x6_1);by_cases c9 : x6_1 ≤ (wrap64 (x6_1 + 1));rotate_left
      · rw [zn c9] at H;exact absurd H (by simp)
      rw [zp c9] at H;have c9b0 := zu c9;have c9b1 := zt c9;by_cases c10 : (wrap64 (x6_1 + 1)) ≤ (a0.size : Int);rotate_left
      · rw [zn c10] at H;exact absurd H (by simp)
      rw [zp c10] at H;have c10b0 := zu c10;have c10b1 := zt c10;obtain ⟨t348, A11, H⟩ := zA H;(try dsimp only at H);by_cases c12 : t348 = true
      · subst c12;have H1 := H; rw [zp rfl] at H1;clear H;have H := H1;clear H1;have H' := zN H;clear H;have p5 : 0 ≤ (x6_1 : Int) := zd zS;have q5 : x6_1 < (a0.size : Int) := zd zS;have hx5 := bt_at a0 x6_1;replace p5 := zu p5;replace q5 := zu q5;go_wp2_with (first | ((with_reducible refine gate_callee (f := 73) rfl ?_); refine zg (some 12) Tryz.func73 #[.int .u8 (bt a0 x6_1)] ?_; (with_reducible refine (head_alnum.calls (bt a0 x6_1) false _ A6.out).mono ?_); rintro e w' ⟨rfl, ⟨nd, rfl⟩⟩; refine ⟨_, rfl, ?_⟩) | (go_at_call 74; (with_reducible refine (strings_Contains.calls (⟨#[33, 35, 36, 37, 38, 39, 42, 43, 45, 46, 94, 95, 96, 124, 126]⟩ : ByteArray) (a0.extract (x6_1 : Int).toNat ((wrap64 (x6_1 + 1)) : Int).toNat) true _ A11.out).mono ?_); rintro e w' ⟨rfl, ⟨nd, rfl⟩⟩));go_roundg k1
        case measure => have := HK1.out; omega
        case rel => exact ⟨(wrap64 (x6_1 + 1)), zI, H', ⟨by have := HK1.out; omega⟩, zD⟩
      replace c12 := zq.mpr c12;subst c12;have H1 := H; rw [zn (show ¬ (false = true) by decide)] at H1;clear H;have H := H1;clear H1;obtain rfl := zo H;have p5 : 0 ≤ (x6_1 : Int) := zd zS;have q5 : x6_1 < (a0.size : Int) := zd zS;have hx5 := bt_at a0 x6_1;replace p5 := zu p5;replace q5 := zu q5;go_wp2_with (first | ((with_reducible refine gate_callee (f := 73) rfl ?_); refine zg (some 12) Tryz.func73 #[.int .u8 (bt a0 x6_1)] ?_; (with_reducible refine (head_alnum.calls (bt a0 x6_1) false _ A6.out).mono ?_); rintro e w' ⟨rfl, ⟨nd, rfl⟩⟩; refine ⟨_, rfl, ?_⟩) | (go_at_call 74; (with_reducible refine (strings_Contains.calls (⟨#[33, 35, 36, 37, 38, 39, 42, 43, 45, 46, 94, 95, 96, 124, 126]⟩ : ByteArray) (a0.extract (x6_1 : Int).toNat ((wrap64 (x6_1 + 1)) : Int).toNat) false _ A11.out).mono ?_); rintro e w' ⟨rfl, ⟨nd, rfl⟩⟩));go_ret;exact ⟨by first | rfl | (simp; done) | (simp [*]; done) | (simp; generalize a0.toList = l_; cases l_ <;> simp), zD⟩

def strings_Trim.f (a0 a1 : ByteArray) : Option ByteArray := if a0.size ≤ 9223372036854775807 ∧ a1.size < 4294967281 ∧ a1.data.toList.all (fun b => decide (b.toNat < 128)) = true then some ⟨(Lib.trimS a0.data.toList a1.data.toList).toArray⟩ else none
theorem strings_Trim.calls (a0 a1 r : ByteArray) (w : World) (h : strings_Trim.f a0 a1 = some r) :
    Calls Tryz.prog 51 #[.string a0, .string a1] w fun e w' => e = .returned (.string r) ∧ Below w.heap.size w w' := by
  unfold strings_Trim.f at h
  split at h
  · rename_i hs
    obtain rfl := zo h;exact Any.strings_Trim_laid Tryz.lays160 zQ a0 a1 w hs.1 hs.2.1 (ascii_of_all hs.2.2)
  cases h


def head_blank.f (a0 : Int) : Option (Bool) := if a0 = 9 then (some true) else (some (a0 == 32))
set_option maxHeartbeats 8000000 in
set_option maxRecDepth 100000 in
theorem head_blank.calls (a0 : Int) (r : Bool) (w : World) (h : head_blank.f a0 = some r) :
    Calls Tryz.prog 82 #[.int .u8 a0] w fun e w' => e = .returned (.bool r) ∧ Drawn0 w w' := by
  have H : (if a0 = 9 then (some true) else (some (a0 == 32))) = some r := h;clear h;by_cases c2 : a0 = 9
  · rw [zp c2] at H;have c2b0 := beq_iff_eq.mpr c2;have c2b1 := zc.mpr c2;clear c2;obtain rfl := zo H;go_enter Tryz.func82, Tryz.ntmps82;go_wp2;go_ret;exact ⟨zI, zD⟩
  rw [zn c2] at H;have c2b0 := zb.mpr c2;have c2b1 := bne_iff_ne.mpr c2;obtain rfl := zo H;go_enter Tryz.func82, Tryz.ntmps82;go_wp2;go_ret;exact ⟨zI, zD⟩

def head_value.l0 : Nat → ByteArray → Int → Int → Option (Bool)
 | 0, _, _, _ => none
 | k + 1, x0, x6, x7 => if x7 < x6 then (if 0 ≤ x7 then (if x7 < (x0.size : Int) then (if (bt x0 x7) = 9 then (if (bt x0 x7) = 127 then (some false) else (head_value.l0 k x0 x6 (wrap64 (x7 + 1)))) else (if (bt x0 x7) < 32 then (some false) else (if (bt x0 x7) = 127 then (some false) else (head_value.l0 k x0 x6 (wrap64 (x7 + 1)))))) else (none)) else (none)) else (if x0.toList = ([] : List UInt8) then (some true) else (if 0 < (x0.size : Int) then ((head_blank.f (bt x0 0)).bind fun t351 => (if t351 = true then (some false) else (if 0 ≤ (wrap64 ((x0.size : Int) - 1)) then (if (wrap64 ((x0.size : Int) - 1)) < (x0.size : Int) then ((head_blank.f (bt x0 (wrap64 ((x0.size : Int) - 1)))).bind fun t352 => (some (!t352))) else (none)) else (none)))) else (none)))
def head_value.f (k : Nat) (a0 : ByteArray) : Option (Bool) := head_value.l0 k a0 (a0.size : Int) 0
theorem head_value.mono_l : ∀ k, (∀ y0 y1 y2, LeO (head_value.l0 k y0 y1 y2) (head_value.l0 (k + 1) y0 y1 y2))
 | 0 => fun _ _ _ r h => by simp [head_value.l0] at h
 | k + 1 => by
  have ih0 := head_value.mono_l k;intro y0 y1 y2;unfold head_value.l0
  repeat' with_reducible first | exact ih0 _ _ _ | exact LeO.refl _ | exact LeO.none _ | refine LeO.ite ?_ ?_ | refine LeO.bind ?_ (fun _ => ?_)
theorem head_value.mono : ∀ a0 k, LeO (head_value.f k a0) (head_value.f (k + 1) a0) := by
 intro a0 k;have ih0 := head_value.mono_l k;unfold head_value.f
 repeat' with_reducible first | exact ih0 _ _ _ | exact LeO.refl _ | exact LeO.none _ | refine LeO.ite ?_ ?_ | refine LeO.bind ?_ (fun _ => ?_)
set_option maxHeartbeats 8000000 in
set_option maxRecDepth 100000 in
theorem head_value.calls (k : Nat) (a0 : ByteArray) (r : Bool) (w : World) (h : head_value.f k a0 = some r) :
  Calls Tryz.prog 52 #[.string a0] w fun e w' => e = .returned (.bool r) ∧ Drawn0 w w' := by
 have H : (head_value.l0 k a0 (a0.size : Int) 0) = some r := h;clear h;have H' := zN H;clear H;go_enter Tryz.func52, Tryz.ntmps52;go_wp2;go_loopg [7] k (fun kq v7 w' => ∃ (x7_1 : Int), v7 = .int .i64 x7_1 ∧ Aside0 (head_value.l0 kq a0 (a0.size : Int) x7_1 = some r) ∧ Aside0 (kq ≤ k) ∧ Drawn0 w w')
 case atStart => exact ⟨(0), zI, H', ⟨zh _⟩, zD⟩
 case round =>
  clear H';obtain ⟨x7_1, rfl, HA, HK1, ⟨m1, rfl⟩⟩ := hrel;cases gk with
  | zero => exact absurd HA.out (by simp [head_value.l0])
  | succ k1 =>
   have H := HA.out;clear HA;simp only [head_value.l0] at H;by_cases c2 : x7_1 < (a0.size : Int);rotate_left
   ·rw [zn c2] at H;have c2b0 := zf c2;clear c2;by_cases c10 : a0.toList = ([] : List UInt8)
    ·rw [zp c10] at H;have c10b0 := beq_iff_eq.mpr c10;have c10b1 := zc.mpr c10;clear c10;obtain rfl := zo H;go_wp2;go_ret;exact ⟨zI, zD⟩
    rw [zn c10] at H;have c10b0 := zb.mpr c10;have c10b1 := bne_iff_ne.mpr c10;by_cases c11 : 0 < (a0.size : Int);rotate_left
    ·rw [zn c11] at H;exact absurd H (by simp)
    rw [zp c11] at H;have c11b0 := zt c11;have c11b1 : decide (0 < a0.size) = true := zt zO;clear c11;obtain ⟨t351, A13, H⟩ := zA H;(try dsimp only at H);by_cases c14 : t351 = true
    ·subst c14;have H1 := H; rw [zp rfl] at H1;clear H;have H := H1;clear H1;obtain rfl := zo H;have p12 : 0 ≤ (0 : Int) := zO;have q12 : 0 < a0.size := (by have : (0 : Int) < (a0.size : Int) := zd zS; omega);have hx12 : ∀ h : 0 < a0.size, ((a0[0]'h).toNat : Int) = bt a0 0 := bt_at a0 0;clear p12;have qi12 : (0 < (a0.size : Int)) = True := zu (zd zS);replace q12 := zu q12;go_wp2_with (first | (go_at_call 82; (with_reducible refine (head_blank.calls (bt a0 0) true _ A13.out).mono ?_); rintro e w' ⟨rfl, ⟨nd, rfl⟩⟩));go_ret;exact ⟨zI, zD⟩
    replace c14 := zq.mpr c14;subst c14;have H1 := H; rw [zn (show ¬ (false = true) by decide)] at H1;clear H;have H := H1;clear H1;obtain ⟨ji15, hji15⟩ : ∃ j_ : Int, (wrap64 ((a0.size : Int) - 1)) = j_ := ⟨_, rfl⟩;replace H : (if 0 ≤ (ji15) then (if (ji15) < (a0.size : Int) then ((head_blank.f (bt a0 (ji15))).bind fun t352 => (some (!t352))) else (none)) else (none)) = some r := by first | (rw [hji15] at H; exact H) | (simp only [hji15] at H ⊢; exact H)
    (try rw [hji15] at A13);have hji15w : (IntKind.i64.wrap ((a0.size : Int) - 1)) = ji15 := (i64_w _).trans hji15;by_cases c16 : 0 ≤ (ji15);rotate_left
    ·rw [zn c16] at H;exact absurd H (by simp)
    rw [zp c16] at H;have c16b0 := zt c16;clear c16;by_cases c17 : (ji15) < (a0.size : Int);rotate_left
    ·rw [zn c17] at H;exact absurd H (by simp)
    rw [zp c17] at H;have c17b0 := zt c17;clear c17;obtain ⟨t352, A19, H⟩ := zA H;(try dsimp only at H);obtain rfl := zo H;have p12 : 0 ≤ (0 : Int) := zO;have q12 : 0 < a0.size := (by have : (0 : Int) < (a0.size : Int) := zd zS; omega);have hx12 : ∀ h : 0 < a0.size, ((a0[0]'h).toNat : Int) = bt a0 0 := bt_at a0 0;clear p12;have qi12 : (0 < (a0.size : Int)) = True := zu (zd zS);replace q12 := zu q12;go_wp2_with (first | (go_at_call 82; (with_reducible refine (head_blank.calls (bt a0 0) false _ A13.out).mono ?_); rintro e w' ⟨rfl, ⟨nd, rfl⟩⟩; have p18 : 0 ≤ ((ji15) : Int) := zd zS; have q18 : (ji15) < (a0.size : Int) := zd zS; have hx18 := bt_at a0 (ji15); replace p18 := zu p18; replace q18 := zu q18) | (go_at_call 82; (with_reducible refine (head_blank.calls (bt a0 (ji15)) t352 _ A19.out).mono ?_); rintro e w' ⟨rfl, ⟨nd, rfl⟩⟩));go_ret;exact ⟨by first | rfl | (simp; done) | (simp only [← hji15] <;> (first | rfl | simp)) | (simp [*]; done), zD⟩
   rw [zp c2] at H;have c2b0 := zt c2;clear c2;by_cases c3 : 0 ≤ x7_1;rotate_left
   ·rw [zn c3] at H;exact absurd H (by simp)
   rw [zp c3] at H;have c3b0 := zt c3;clear c3;by_cases c4 : x7_1 < (a0.size : Int);rotate_left
   ·rw [zn c4] at H;exact absurd H (by simp)
   rw [zp c4] at H;have c4b0 := zt c4;clear c4;by_cases c6 : (bt a0 x7_1) = 9
   ·rw [zp c6] at H;have c6b0 := beq_iff_eq.mpr c6;have c6b1 := zc.mpr c6;clear c6;by_cases c7 : (bt a0 x7_1) = 127
    ·rw [zp c7] at H;have c7b0 := beq_iff_eq.mpr c7;have c7b1 := zc.mpr c7;clear c7;obtain rfl := zo H;have p5 : 0 ≤ (x7_1 : Int) := zd zS;have q5 : x7_1 < (a0.size : Int) := zd zS;have hx5 := bt_at a0 x7_1;replace p5 := zu p5;replace q5 := zu q5;go_wp2;go_ret;exact ⟨zI, zD⟩
    rw [zn c7] at H;have c7b0 := zb.mpr c7;have c7b1 := bne_iff_ne.mpr c7;have H' := zN H;clear H;have p5 : 0 ≤ (x7_1 : Int) := zd zS;have q5 : x7_1 < (a0.size : Int) := zd zS;have hx5 := bt_at a0 x7_1;replace p5 := zu p5;replace q5 := zu q5;go_wp2;go_roundg k1
    case measure => have := HK1.out; omega
    case rel => exact ⟨(wrap64 (x7_1 + 1)), zI, H', ⟨by have := HK1.out; omega⟩, zD⟩
   rw [zn c6] at H;have c6b0 := zb.mpr c6;have c6b1 := bne_iff_ne.mpr c6;by_cases c8 : (bt a0 x7_1) < 32
   ·rw [zp c8] at H;have c8b0 := zt c8;clear c8;obtain rfl := zo H;have p5 : 0 ≤ (x7_1 : Int) := zd zS;have q5 : x7_1 < (a0.size : Int) := zd zS;have hx5 := bt_at a0 x7_1;replace p5 := zu p5;replace q5 := zu q5;go_wp2;go_ret;exact ⟨zI, zD⟩
   rw [zn c8] at H;have c8b0 := zf c8;clear c8;by_cases c9 : (bt a0 x7_1) = 127
   ·rw [zp c9] at H;have c9b0 := beq_iff_eq.mpr c9;have c9b1 := zc.mpr c9;clear c9;obtain rfl := zo H;have p5 : 0 ≤ (x7_1 : Int) := zd zS;have q5 : x7_1 < (a0.size : Int) := zd zS;have hx5 := bt_at a0 x7_1;replace p5 := zu p5;replace q5 := zu q5;go_wp2;go_ret;exact ⟨zI, zD⟩
   rw [zn c9] at H;have c9b0 := zb.mpr c9;have c9b1 := bne_iff_ne.mpr c9;have H' := zN H;clear H;have p5 : 0 ≤ (x7_1 : Int) := zd zS;have q5 : x7_1 < (a0.size : Int) := zd zS;have hx5 := bt_at a0 x7_1;replace p5 := zu p5;replace q5 := zu q5;go_wp2;go_roundg k1
   case measure => have := HK1.out; omega
   case rel => exact ⟨(wrap64 (x7_1 + 1)), zI, H', ⟨by have := HK1.out; omega⟩, zD⟩

end Go.Proofs.YtahaihnlkohhgaaGreatDoor.S
end
