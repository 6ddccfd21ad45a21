/- HeadHosts: a head without a host, or with two, is none. Condition: the form '..UptoCardSaid' (arguments of together at most 1048576 values). -/
import Derived.Test.YtabkdmfnafeaeaaDoorQx37
import Derived.Test.YtabkdmfnafeaeaaDoorQx51
import Derived.Test.YtabkdmfnafeaeaaDoorHPzv
namespace Go.Proofs.YtabkdmfnafeaeaaDoor.PureU
open Go.RowKit Go.Proofs.YtabkdmfnafeaeaaDoor.Q Go.Proofs.YtabkdmfnafeaeaaDoor.HP Go.Proofs.YtabkdmfnafeaeaaDoorW.PrintWords Go.Proofs.YtabkdmfnafeaeaaDoorW.PrintLast Go.Proofs.YtabkdmfnafeaeaaDoorW.PrintMore
def _root_.Go.Proofs.YtabkdmfnafeaeaaDoor.Q.tollgatelaw09_HeadHosts.PureU : Prop := ∀ (y0 : S25), mu25 y0 ≤ 1048576 → ok25 y0 → ∃ k, tollgatelaw09_HeadHosts.f k y0.f0 y0.f1 y0.f2 y0.f3 y0.f4 = some true
theorem pI {α : Type} {c : Prop} {i : Decidable c} {a b : Nat → Option α} {r : α} (hc : c) (h : Ev a r) : Ev (fun k => @ite _ c i (a k) (b k)) r := Ev.congr (fun _ => if_pos hc) h
theorem nI {α : Type} {c : Prop} {i : Decidable c} {a b : Nat → Option α} {r : α} (hc : ¬ c) (h : Ev b r) : Ev (fun k => @ite _ c i (a k) (b k)) r := Ev.congr (fun _ => if_neg hc) h
def isH (f : HP.Fd) : Bool := decide (f.1 = hostL)
def noH (f : HP.Fd) : Bool := decide (f.1 ≠ hostL)
def two2 : List HP.Fd := [([72, 111, 115, 116], [32, 97]), (hostL, [32, 97])]
def preN (m p : List UInt8) : List UInt8 := m ++ 32 :: (p ++ 32 :: (verL ++ [13, 10]))
theorem take_is (fs : List HP.Fd) (i : Nat) (h : i < fs.length) (hp : isH fs[i] = true) : (fs.take (i + 1)).filter isH = (fs.take i).filter isH ++ [fs[i]] ∧ (fs.take (i + 1)).filter noH = (fs.take i).filter noH := by
  have hn : noH fs[i] = false := by simpa [isH, noH] using hp
  rw [List.take_succ_eq_append_getElem h, List.filter_append, List.filter_append]
  simp [hp, hn]
theorem take_no (fs : List HP.Fd) (i : Nat) (h : i < fs.length) (hp : isH fs[i] = false) : (fs.take (i + 1)).filter noH = (fs.take i).filter noH ++ [fs[i]] ∧ (fs.take (i + 1)).filter isH = (fs.take i).filter isH := by
  have hn : noH fs[i] = true := by simpa [isH, noH] using hp
  rw [List.take_succ_eq_append_getElem h, List.filter_append, List.filter_append]
  simp [hp, hn]
/-- the end: the heads without a host, and with two -/
theorem last (m p q hh : List UInt8) (fs : List HP.Fd) (hw : wOk m p q hh fs = true) (h1 : nh fs = 1) (h32 : fs.length ≤ 32) (hL : (writeL m p q fs).length ≤ 2048) (i : Nat) (hi : fs.length ≤ i) (hi2 : i ≤ 100) :
    Ev (fun k => tollgatelaw09_HeadHosts.l0 k (bytesOf (B (writeL m p q fs))) (B (preN m p ++ flatN (fs.filter noH))) (i : Int) (B m) (B p) (B q) (B hh) (fs.map sF) (B m) (B p) (B q) (B hh) ((fs.filter noH).map sF) (B m) (B p) (B q) (B hh) (fs.map sF ++ (fs.filter isH).map sF)) true := by
  have hwl := writeL_length m p q fs
  have htl := tgt_length p q
  have hs1 := szF_filter noH fs
  have hs2 := szF_filter isH fs
  have hf1 := List.length_filter_le noH fs
  have hf2 := List.length_filter_le isH fs
  have hpl : (preW m p q).length = m.length + (tgt p q).length + 12 := by simp [preW, verL]; omega
  have hpn : (preN m p).length = m.length + p.length + 12 := by simp [preN, verL]; omega
  have hfn := flatN_le (fs.filter noH)
  have hN : nh (fs.filter noH) = 0 := (nh_filter fs).1
  have hH : nh (fs ++ fs.filter isH) = 2 := by
    have h2 : nh (fs.filter isH) = nh fs := (nh_filter fs).2
    have : nh (fs ++ fs.filter isH) = nh fs + nh (fs.filter isH) := by simp [nh]
    rw [this, h2, h1]
  have hw' := hw
  simp only [wOk, Bool.and_eq_true] at hw'
  obtain ⟨⟨⟨hm, hp⟩, hq⟩, hf⟩ := hw'
  have hgood : ∀ f ∈ fs.filter noH, good f ∧ low f ≠ hostL := by
    intro f hfm
    obtain ⟨hfm, hno⟩ := List.mem_filter.1 hfm
    have hsz := sz_mem hfm
    obtain ⟨g1, g2, g3⟩ := fOk_good ((List.all_eq_true.1 hf) f hfm) (by omega)
    refine ⟨g1, ?_⟩
    rw [g2]
    simpa [noH] using hno
  have hw1 := write_is m p q hh (fs.filter noH) (by omega) (by omega) (by omega)
  rw [W2_n' m p q _ _ _ (by omega)] at hw1
  have hw2 := write_is m p q hh (fs ++ fs.filter isH) (by omega) (by rw [szF_app]; omega) (by rw [List.length_append]; omega)
  rw [W2_n' m p q _ _ _ (by omega)] at hw2
  rw [List.map_append] at hw2
  have hlen2 : (headL m (tgt p []) (fs.filter noH)).length = (preN m p ++ flatN (fs.filter noH)).length + 2 := by
    rw [headN]
    simp [preN, tgt]
    omega
  have hle2 : (preN m p ++ flatN (fs.filter noH)).length + 2 ≤ 2048 := by rw [List.length_append]; omega
  have hp1 := parse_not m p [] [97] (fs.filter noH) hm hp rfl (fun f h => (hgood f h).1) (fun f h hlow => absurd hlow (hgood f h).2) (by
    have : hosts (fs.filter noH) = 0 := by
      unfold hosts
      rw [List.countP_eq_zero]
      intro f h
      simpa using (hgood f h).2
    omega) (by omega) (by omega)
  have ht0 : tgt p [] = p := by simp [tgt]
  have e1 : B (preN m p ++ flatN (fs.filter noH)) ++ (⟨#[13, 10]⟩ : ByteArray) = B (headL m (tgt p []) (fs.filter noH)) := by
    rw [headN, ht0]
    exact B_append _ [13, 10]
  have hsz : (B (preN m p ++ flatN (fs.filter noH))).size = (preN m p ++ flatN (fs.filter noH)).length := B_size _
  have hsz2 : (B (headL m (tgt p []) (fs.filter noH))).size = (headL m (tgt p []) (fs.filter noH)).length := B_size _
  have hw60 : wrap64 (((preN m p ++ flatN (fs.filter noH)).length : Int) + 60) = (((preN m p ++ flatN (fs.filter noH)).length + 60 : Nat) : Int) := by unfold wrap64; omega
  refine Ev.step (fun k => by simp only [tollgatelaw09_HeadHosts.l0]; rfl) ?_
  refine nI (by rw [List.length_map]; omega) ?_
  refine Ev.bind hw1 ?_
  refine Ev.bind hw2 ?_
  rw [e1, hsz, hsz2, hw60]
  clear hw60
  refine pI (by omega) ?_
  refine pI (by omega) ?_
  refine Ev.bind hp1 ?_
  by_cases h60 : (preN m p ++ flatN (fs.filter noH)).length + 60 > 2048
  · exact pI (by omega) (Ev.bind live_is (pI rfl (pI rfl (Ev.ret rfl))))
  · have e2 : B (preN m p ++ flatN (fs.filter noH)) ++ (⟨#[72, 111, 115, 116, 58, 32, 97, 13, 10, 104, 111, 115, 116, 58, 32, 97, 13, 10, 13, 10]⟩ : ByteArray) = B (headL m (tgt p []) (fs.filter noH ++ two2)) := by
      rw [headN, ht0, flatN_app]
      have := B_append (preN m p ++ flatN (fs.filter noH)) [72, 111, 115, 116, 58, 32, 97, 13, 10, 104, 111, 115, 116, 58, 32, 97, 13, 10, 13, 10]
      refine this.trans ?_
      congr 1
      simp [preN, two2, flatN, hostL]
    have hl2 : (headL m (tgt p []) (fs.filter noH ++ two2)).length = (preN m p ++ flatN (fs.filter noH)).length + 20 := by
      rw [headN, ht0, flatN_app]
      simp [preN, two2, flatN, hostL]
      omega
    have hlow2 : hosts two2 = 2 := by decide +kernel
    have hp2 := parse_not m p [] [97] (fs.filter noH ++ two2) hm hp rfl (fun f h => by
      rcases List.mem_append.1 h with h | h
      · exact (hgood f h).1
      · have : ∀ f ∈ two2, (lineOf f).length ≤ 1000000000 ∧ tokOk f.1 = true ∧ valOk (tv f) = true ∧ (13 : UInt8) ∉ f.2 := by decide +kernel
        exact this f h) (fun f h hlow => by
      rcases List.mem_append.1 h with h | h
      · exact absurd hlow (hgood f h).2
      · have : ∀ f ∈ two2, tv f = [97] := by decide +kernel
        rw [this f h]
        exact host_a1) (by
      have h0 : hosts (fs.filter noH) = 0 := by
        unfold hosts
        rw [List.countP_eq_zero]
        intro f h
        simpa using (hgood f h).2
      have : hosts (fs.filter noH ++ two2) = hosts (fs.filter noH) + hosts two2 := by simp [hosts]
      omega) (by omega) (by rw [List.length_append]; simp [two2]; omega)
    refine nI (by omega) (pI (by omega) ?_)
    rw [e2, B_size]
    refine pI (by omega) ?_
    refine Ev.bind hp2 ?_
    refine Ev.bind live_is (pI rfl ?_)
    refine pI (by rw [N8_len]; omega) ?_
    exact pI rfl (pI rfl (pI rfl (Ev.ret rfl)))
theorem loop (m p q hh : List UInt8) (fs : List HP.Fd) (hw : wOk m p q hh fs = true) (h1 : nh fs = 1) (h32 : fs.length ≤ 32) (hL : (writeL m p q fs).length ≤ 2048) : ∀ (d i : Nat), i + d = fs.length →
    Ev (fun k => tollgatelaw09_HeadHosts.l0 k (bytesOf (B (writeL m p q fs))) (B (preN m p ++ flatN ((fs.take i).filter noH))) (i : Int) (B m) (B p) (B q) (B hh) (fs.map sF) (B m) (B p) (B q) (B hh) (((fs.take i).filter noH).map sF) (B m) (B p) (B q) (B hh) (fs.map sF ++ ((fs.take i).filter isH).map sF)) true := by
  intro d
  induction d with
  | zero =>
    intro i hi
    rw [List.take_of_length_le (by omega)]
    exact last m p q hh fs hw h1 h32 hL i (by omega) (by omega)
  | succ d ih =>
    intro i hi
    have hlt : i < fs.length := by omega
    have hwr := wrap_succ i (by omega)
    have hm := sz_mem (List.getElem_mem hlt)
    have hwl := writeL_length m p q fs
    have htl := tgt_length p q
    have hI := ih (i + 1) (by omega)
    have hrd0 := rd_F fs i hlt
    have hpn : (preN m p).length = m.length + p.length + 12 := by simp [preN, verL]; omega
    have hfn := flatN_le ((fs.take i).filter noH)
    have hft : szF ((fs.take i).filter noH) ≤ szF fs := by
      have a := szF_filter noH (fs.take i)
      have b : szF fs = szF (fs.take i) + szF (fs.drop i) := by rw [← szF_app, List.take_append_drop]
      omega
    have hlT : (fs.take i).length ≤ 32 := by rw [List.length_take]; omega
    have hf1 := List.length_filter_le noH (fs.take i)
    have hf2 := List.length_filter_le isH (fs.take i)
    refine Ev.step (fun k => by simp only [tollgatelaw09_HeadHosts.l0]; rfl) (pI (by rw [List.length_map]; omega) (pI (by omega) ?_))
    rw [hrd0, hwr]
    cases hH : isH fs[i] with
    | true =>
      obtain ⟨t1, t2⟩ := take_is fs i hlt hH
      rw [t1, t2] at hI
      generalize fs[i] = f at *
      have hf : f.1 = hostL := by simpa [isH] using hH
      refine pI (by show (B f.1).toList = _; rw [B_toList]; exact hf) (pI (by rw [List.length_append, List.length_map, List.length_map]; omega) ?_)
      rw [List.map_append, ← List.append_assoc] at hI
      exact hI
    | false =>
      obtain ⟨t1, t2⟩ := take_no fs i hlt hH
      rw [t1, t2] at hI
      generalize fs[i] = f at *
      have hf : f.1 ≠ hostL := by simpa [isH] using hH
      have e1 : ((((sF f).f0 ++ (⟨#[58]⟩ : ByteArray)) ++ (sF f).f1) ++ (⟨#[13, 10]⟩ : ByteArray)) = B (f.1 ++ 58 :: (f.2 ++ [13, 10])) := by
        show ((B f.1 ++ B [58]) ++ B f.2) ++ B [13, 10] = _
        rw [B_append, B_append, B_append]
        simp
      have s1 : ((sF f).f0).size = f.1.length := B_size _
      have s2 : ((sF f).f0 ++ (⟨#[58]⟩ : ByteArray)).size = f.1.length + 1 := by rw [ByteArray.size_append, s1]; rfl
      have s3 : ((sF f).f1).size = f.2.length := B_size _
      have s4 : (((sF f).f0 ++ (⟨#[58]⟩ : ByteArray)) ++ (sF f).f1).size = f.1.length + 1 + f.2.length := by rw [ByteArray.size_append, s2, s3]
      have s5 : (B (f.1 ++ 58 :: (f.2 ++ [13, 10]))).size = f.1.length + f.2.length + 3 := by rw [B_size]; simp; omega
      have s6 : (B (preN m p ++ flatN ((fs.take i).filter noH))).size = (preN m p).length + (flatN ((fs.take i).filter noH)).length := by rw [B_size, List.length_append]
      have e2 : B (preN m p ++ flatN ((fs.take i).filter noH)) ++ B (f.1 ++ 58 :: (f.2 ++ [13, 10])) = B (preN m p ++ flatN ((fs.take i).filter noH ++ [f])) := by
        rw [B_append, flatN_app, List.append_assoc]
        congr 3
        simp [flatN]
      rw [e1, s1, s2, s3, s4, s5, s6, e2]
      refine nI (by show ¬ (B f.1).toList = _; rw [B_toList]; exact hf) (pI (by rw [List.length_map]; omega) (pI (by omega) (pI (by omega) (pI (by omega) (pI (by omega) ?_)))))
      rw [List.map_append] at hI
      exact hI
theorem HeadHosts : tollgatelaw09_HeadHosts.PureU := by
  intro y0 hS _
  obtain ⟨m, p, q, hh, fs, rfl, hml, h1, h2, h3⟩ := head_in y0 hS
  refine Ev.rounds (r := true) ?_
  unfold tollgatelaw09_HeadHosts.f
  refine Ev.bind (write_is m p q hh fs (by omega) (by omega) (by omega)) ?_
  rcases W2_cases m p q fs (wOk m p q hh fs) (nh fs) with ⟨e, he, hW⟩ | ⟨hw, h1n, h32, hL, hW⟩
  · rw [hW]
    exact nI (by show ¬ e = 0; omega) (Ev.bind live_is (Ev.ret rfl))
  · rw [hW]
    have h := loop m p q hh fs hw h1n h32 hL fs.length 0 (by omega)
    have e1 : B m ++ (⟨#[32]⟩ : ByteArray) = B (m ++ [32]) := B_append m [32]
    have e2 : B (m ++ [32]) ++ B p = B (m ++ 32 :: p) := by rw [B_append]; simp
    have e3 : B (m ++ 32 :: p) ++ (⟨#[32, 72, 84, 84, 80, 47, 49, 46, 49, 13, 10]⟩ : ByteArray) = B (preN m p ++ flatN ((fs.take 0).filter noH)) := by
      have := B_append (m ++ 32 :: p) (32 :: (verL ++ [13, 10]))
      refine Eq.trans ?_ (this.trans ?_)
      · rfl
      · congr 1
        simp [preN, flatN]
    refine pI rfl (Ev.put ?_)
    rw [e1, e2, B_size, B_size, B_size, B_size]
    refine pI (by simp; omega) (pI (by omega) (pI (by simp; omega) (pI (by simp; omega) ?_)))
    rw [e3, List.nil_append]
    simpa using h
end Go.Proofs.YtabkdmfnafeaeaaDoor.PureU
