/- HeadLetters: large and small letters in names of fields and in hosts, and blanks around values, play no part. Condition: the form '..UptoCardSaid' (arguments of together at most 1048576 values). -/
import Derived.Test.YtabkdmfnafeaeaaDoorQx37
import Derived.Test.YtabkdmfnafeaeaaDoorQx50
import Derived.Test.YtabkdmfnafeaeaaDoorHPzl
namespace Go.Proofs.YtabkdmfnafeaeaaDoor.PureU
open Go.RowKit Go.Proofs.YtabkdmfnafeaeaaDoor.Q Go.Proofs.YtabkdmfnafeaeaaDoor.HP Go.Proofs.YtabkdmfnafeaeaaDoorW.PrintWords Go.Proofs.YtabkdmfnafeaeaaDoorW.PrintLast Go.Proofs.YtabkdmfnafeaeaaDoorW.PrintMore
def _root_.Go.Proofs.YtabkdmfnafeaeaaDoor.Q.tollgatelaw09_HeadLetters.PureU : Prop := ∀ (y0 : S25) (a1 : Int), mu25 y0 ≤ 1048576 → ok25 y0 → (Lit.int .u32 a1).wf = true → ∃ k, tollgatelaw09_HeadLetters.f k y0.f0 y0.f1 y0.f2 y0.f3 y0.f4 a1 = some true
theorem vsl (s : Int) (f : HP.Fd) : (vs s f).length = f.2.length := by
  unfold vs
  split
  · exact upL_length _ _
  · rfl
def bx (s : Int) (i : Nat) : Int := Go.bits .and .u32 (shr .u32 s (IntKind.u64.wrap (Int.tmod (i : Int) 16))) 3
def blk (s : Int) (i : Nat) : List UInt8 := blT.getD (bx s i).toNat []
def GL (s : Int) (fs : List HP.Fd) : List HP.Fd := fs.mapIdx (fun j f => gsf s (blk s j) f)
theorem blk_in (s : Int) (i : Nat) : blk s i ∈ blT := by
  obtain ⟨h1, h2⟩ := bits3 (shr .u32 s (IntKind.u64.wrap (Int.tmod (i : Int) 16)))
  have hl : (bx s i).toNat < blT.length := by
    have : blT.length = 4 := rfl
    unfold bx
    omega
  unfold blk
  rw [List.getD_eq_getElem?_getD, List.getElem?_eq_getElem hl]
  exact List.getElem_mem hl
theorem rd_blk (s : Int) (i : Nat) : rdOf ByteArray.empty [(⟨#[]⟩ : ByteArray), (⟨#[32]⟩ : ByteArray), (⟨#[9]⟩ : ByteArray), (⟨#[32, 9, 32]⟩ : ByteArray)] (bx s i) = B (blk s i) := by
  have : ([(⟨#[]⟩ : ByteArray), (⟨#[32]⟩ : ByteArray), (⟨#[9]⟩ : ByteArray), (⟨#[32, 9, 32]⟩ : ByteArray)] : List ByteArray) = blT.map B := rfl
  rw [this]
  unfold rdOf blk
  rw [List.getD_eq_getElem?_getD, List.getD_eq_getElem?_getD, List.getElem?_map]
  cases blT[(bx s i).toNat]? <;> rfl
theorem GL_take (s : Int) (fs : List HP.Fd) (i : Nat) (h : i < fs.length) : GL s (fs.take (i + 1)) = GL s (fs.take i) ++ [gsf s (blk s i) fs[i]] := by
  have hl : (fs.take i).length = i := by simp; omega
  unfold GL
  rw [List.take_succ_eq_append_getElem h, List.mapIdx_concat, hl]
theorem GL_mem {s : Int} {fs : List HP.Fd} {g : HP.Fd} (h : g ∈ GL s fs) : ∃ i f, f ∈ fs ∧ g = gsf s (blk s i) f := by
  unfold GL at h
  obtain ⟨i, hi, rfl⟩ := List.mem_mapIdx.1 h
  exact ⟨i, fs[i], List.getElem_mem hi, rfl⟩
theorem GL_low {s : Int} {hh : List UInt8} {fs : List HP.Fd} (hf : fs.all (fOk hh) = true) (hl : ∀ f ∈ fs, f.1.length + f.2.length ≤ 100000000) : (GL s fs).map low = fs.map (·.1) := by
  apply List.ext_getElem?
  intro i
  unfold GL
  rw [List.getElem?_map, List.getElem?_map, List.getElem?_mapIdx]
  cases h : fs[i]? with
  | none => rfl
  | some f =>
    have hm := List.mem_of_getElem? h
    have := (gsf_ok (s := s) ((List.all_eq_true.1 hf) f hm) (hl f hm) (blk_in s i)).2.1
    simp [this]
theorem GL_fld {s : Int} {hh : List UInt8} {fs : List HP.Fd} (hf : fs.all (fOk hh) = true) (hl : ∀ f ∈ fs, f.1.length + f.2.length ≤ 100000000) : (GL s fs).map fld = fs.map (fun f => (⟨B f.1, B (vs s f)⟩ : S38)) := by
  apply List.ext_getElem?
  intro i
  unfold GL
  rw [List.getElem?_map, List.getElem?_map, List.getElem?_mapIdx]
  cases h : fs[i]? with
  | none => rfl
  | some f =>
    have hm := List.mem_of_getElem? h
    obtain ⟨_, g2, g3⟩ := gsf_ok (s := s) ((List.all_eq_true.1 hf) f hm) (hl f hm) (blk_in s i)
    show some (fld (gsf s (blk s i) f)) = some _
    unfold fld
    rw [g2, g3]
theorem GL_sz (s : Int) (fs : List HP.Fd) : ∀ n, n ≤ fs.length → (flatN (GL s (fs.take n))).length ≤ szF fs + 6 * n := by
  intro n
  have h2 : ∀ n, n ≤ fs.length → (flatN (GL s (fs.take n))).length ≤ szF (fs.take n) + 6 * n := by
    intro n
    induction n with
    | zero => intro _; simp [GL, flatN]
    | succ n ih =>
      intro hn
      have hlt : n < fs.length := by omega
      have := ih (by omega)
      have hb := (blT_all _ (blk_in s n)).1
      have hvl : (vs s fs[n]).length = fs[n].2.length := by
        unfold vs
        split
        · exact upL_length _ _
        · rfl
      rw [GL_take s fs n hlt, flatN_app, List.length_append, List.take_succ_eq_append_getElem hlt, szF_app]
      simp only [flatN, szF, gsf, List.flatMap_cons, List.flatMap_nil, List.map_cons, List.map_nil, List.sum_cons, List.sum_nil, List.length_append, List.length_cons, List.length_nil, upL_length, hvl] at this ⊢
      omega
  intro hn
  have h3 := h2 n hn
  have h4 : szF fs = szF (fs.take n) + szF (fs.drop n) := by rw [← szF_app, List.take_append_drop]
  omega
theorem chk (s : Int) (w : List Int) (hw : w.length > 0) (m p q hh m' p' q' hh' : ByteArray) (fs : List HP.Fd) (hfs : fs.length ≤ 1000) : ∀ (d i : Nat), i + d = fs.length →
    Ev (fun k => tollgatelaw09_HeadLetters.l1 k w (i : Int) m p q hh (fs.map sF) m' p' q' hh' (fs.map (fun f => (⟨B f.1, B (vs s f)⟩ : S38)))) true := by
  intro d
  induction d with
  | zero =>
    intro i hi
    refine Ev.step (fun k => by simp only [tollgatelaw09_HeadLetters.l1]; rfl) (Ev.neg (by rw [List.length_map]; omega) (Ev.bind live_is (Ev.pos rfl (Ev.ret ?_))))
    exact decide_eq_true (by omega)
  | succ d ih =>
    intro i hi
    have hlt : i < fs.length := by omega
    have hw2 := wrap_succ i (by omega)
    have hI := ih (i + 1) (by omega)
    have r1 := rd_F fs i hlt
    have r2 : rd_T38 (fs.map (fun f => (⟨B f.1, B (vs s f)⟩ : S38))) (i : Int) = ⟨B fs[i].1, B (vs s fs[i])⟩ := by simp [rd_T38, hlt]
    refine Ev.step (fun k => by simp only [tollgatelaw09_HeadLetters.l1]; rfl) (Ev.pos (by rw [List.length_map]; omega) (Ev.pos (by omega) (Ev.pos (by rw [List.length_map]; omega) ?_)))
    rw [r1, r2, hw2]
    refine Ev.pos rfl ?_
    by_cases h : fs[i].1 = hostL
    · exact Ev.pos (by show (B fs[i].1).toList = _; rw [B_toList]; exact h) hI
    · refine Ev.neg (by show ¬ (B fs[i].1).toList = _; rw [B_toList]; exact h) (Ev.pos ?_ hI)
      show (B (vs s fs[i])).toList = (B fs[i].2).toList
      unfold vs
      rw [if_neg h]
theorem last (s : Int) (m p q hh : List UInt8) (fs : List HP.Fd) (hw : wOk m p q hh fs = true) (h1 : nh fs = 1) (h32 : fs.length ≤ 32) (hL : (writeL m p q fs).length ≤ 2048) (i : Nat) (hi : fs.length ≤ i) (hi2 : i ≤ 100) :
    Ev (fun k => tollgatelaw09_HeadLetters.l0 k s (bytesOf (B (writeL m p q fs))) (B (preW m p q ++ flatN (GL s fs))) (i : Int) (B m) (B p) (B q) (B hh) (fs.map sF)) true := by
  have hwl := writeL_length m p q fs
  have htl := tgt_length p q
  have hgz := GL_sz s fs fs.length (Nat.le_refl _)
  rw [List.take_length] at hgz
  have hpl : (preW m p q).length = m.length + (tgt p q).length + 12 := by simp [preW, verL]; omega
  have hw' := hw
  simp only [wOk, Bool.and_eq_true] at hw'
  obtain ⟨⟨⟨hm, hp⟩, hq⟩, hf⟩ := hw'
  have hfl : ∀ f ∈ fs, f.1.length + f.2.length ≤ 100000000 := fun f hfm => by have := sz_mem hfm; omega
  obtain ⟨t13, t32⟩ := tgt_no hp hq
  have hlen : (headL m (tgt p q) (GL s fs)).length = (preW m p q ++ flatN (GL s fs)).length + 2 := by
    rw [headN]
    simp [preW]
    omega
  have hpl2 : (preW m p q ++ flatN (GL s fs)).length = (preW m p q).length + (flatN (GL s fs)).length := List.length_append
  have e1 : B (preW m p q ++ flatN (GL s fs)) ++ (⟨#[13, 10]⟩ : ByteArray) = B (headL m (tgt p q) (GL s fs)) := by
    rw [headN]
    exact B_append _ [13, 10]
  have hsz : (B (preW m p q ++ flatN (GL s fs))).size = (preW m p q ++ flatN (GL s fs)).length := B_size _
  refine Ev.step (fun k => by simp only [tollgatelaw09_HeadLetters.l0]; rfl) (Ev.neg (by rw [List.length_map]; omega) (Ev.pos (by rw [hsz]; omega) ?_))
  rw [e1, B_size]
  by_cases h2048 : (headL m (tgt p q) (GL s fs)).length > 2048
  · exact Ev.pos (by omega) (Ev.bind live_is (Ev.ret rfl))
  · refine Ev.neg (by omega) (Ev.pos (by omega) ?_)
    have hho : hosts (GL s fs) = 1 := by rw [hosts_map _ _ (GL_low hf hfl), h1]
    have hpar := parse_is m (tgt p q) (B p) (B q) (B []) (GL s fs) (fun _ => B hh) [] (by simp) hm t13 t32 (target_is p q hp hq (by omega))
      (fun g hg => by
        obtain ⟨i, f, hfm, rfl⟩ := GL_mem hg
        exact (gsf_ok ((List.all_eq_true.1 hf) f hfm) (hfl f hfm) (blk_in s i)).1)
      (fun g hg hlow => by
        obtain ⟨i, f, hfm, rfl⟩ := GL_mem hg
        obtain ⟨_, g2, g3⟩ := gsf_ok (s := s) ((List.all_eq_true.1 hf) f hfm) (hfl f hfm) (blk_in s i)
        rw [g2] at hlow
        have hvl := vsl s f
        have := host_is (tv (gsf s (blk s i) f)) (by rw [g3, hvl]; have := hfl f hfm; omega)
        refine Ev.res this ?_
        rw [g3]
        unfold hostR
        rw [vs_host ((List.all_eq_true.1 hf) f hfm) hlow])
      (by omega) (by simp [GL]; omega)
    rw [List.append_nil, hho, hostOf_const (B hh) _ _ (.inl (by omega)), GL_fld hf hfl] at hpar
    unfold fin at hpar
    rw [if_pos rfl, List.length_map, if_neg (by omega), if_pos (B_toList [])] at hpar
    refine Ev.bind hpar (Ev.pos rfl (Ev.pos rfl (Ev.pos rfl (Ev.pos rfl (Ev.pos rfl ?_)))))
    have hlf : (((fs.map (fun f => (⟨B f.1, B (vs s f)⟩ : S38))).length : Int) != ((fs.map sF).length : Int)) = false := by simp
    rw [hlf]
    refine Ev.step (fun k => by simp only [tollgatelaw09_HeadLetters.j2]; rfl) (Ev.neg (by simp) ?_)
    exact chk s _ (by rw [N8_len]; omega) (B m) (B p) (B q) (B hh) _ _ _ _ fs (by omega) fs.length 0 (by omega)
theorem loop (s : Int) (m p q hh : List UInt8) (fs : List HP.Fd) (hw : wOk m p q hh fs = true) (h1 : nh fs = 1) (h32 : fs.length ≤ 32) (hL : (writeL m p q fs).length ≤ 2048) : ∀ (d i : Nat), i + d = fs.length →
    Ev (fun k => tollgatelaw09_HeadLetters.l0 k s (bytesOf (B (writeL m p q fs))) (B (preW m p q ++ flatN (GL s (fs.take i)))) (i : Int) (B m) (B p) (B q) (B hh) (fs.map sF)) true := by
  intro d
  induction d with
  | zero =>
    intro i hi
    rw [List.take_of_length_le (by omega)]
    exact last s m p q hh fs hw h1 h32 hL i (by omega) (by omega)
  | succ d ih =>
    intro i hi
    have hlt : i < fs.length := by omega
    have hwr := wrap_succ i (by omega)
    have hm := sz_mem (List.getElem_mem hlt)
    have hwl := writeL_length m p q fs
    have hpl : (preW m p q).length = m.length + (tgt p q).length + 12 := by simp [preW, verL]; omega
    have hgz := GL_sz s fs i (by omega)
    have hI := ih (i + 1) (by omega)
    rw [GL_take s fs i hlt] at hI
    have hrd0 := rd_F fs i hlt
    have hbl := blk_in s i
    have hb3 := (blT_all _ hbl).1
    have hrb := rd_blk s i
    obtain ⟨b1, b2⟩ := bits3 (shr .u32 s (IntKind.u64.wrap (Int.tmod (i : Int) 16)))
    obtain ⟨u1, _, _⟩ := u64_wrap (Int.tmod (i : Int) 16)
    have hbx : bx s i = Go.bits .and .u32 (shr .u32 s (IntKind.u64.wrap (Int.tmod (i : Int) 16))) 3 := rfl
    rw [← hbx] at b1 b2
    generalize fs[i] = f at *
    have hvl : (vs s f).length = f.2.length := by
      unfold vs
      split
      · exact upL_length _ _
      · rfl
    have hul := upL_length s f.1
    have l1 : tollgatelaw09_large.f (sF f).f0 s = some (B (upL s f.1)) := large_is s f.1 (by omega)
    have l2 : tollgatelaw09_large.f (sF f).f1 s = some (B (upL s f.2)) := large_is s f.2 (by omega)
    have e0 : B (upL s f.1) ++ (⟨#[58]⟩ : ByteArray) = B (upL s f.1 ++ [58]) := B_append _ [58]
    have key : ∀ v : List UInt8, v = vs s f →
        Ev (fun k => (if (B (upL s f.1)).size + 1 ≤ 9223372036854775807 then (if (B (upL s f.1) ++ (⟨#[58]⟩ : ByteArray)).size + (B (blk s i)).size ≤ 9223372036854775807 then (if ((B (upL s f.1) ++ (⟨#[58]⟩ : ByteArray)) ++ B (blk s i)).size + (B v).size ≤ 9223372036854775807 then (if (((B (upL s f.1) ++ (⟨#[58]⟩ : ByteArray)) ++ B (blk s i)) ++ B v).size + (B (blk s i)).size ≤ 9223372036854775807 then (if ((((B (upL s f.1) ++ (⟨#[58]⟩ : ByteArray)) ++ B (blk s i)) ++ B v) ++ B (blk s i)).size + 2 ≤ 9223372036854775807 then (if (B (preW m p q ++ flatN (GL s (fs.take i)))).size + (((((B (upL s f.1) ++ (⟨#[58]⟩ : ByteArray)) ++ B (blk s i)) ++ B v) ++ B (blk s i)) ++ (⟨#[13, 10]⟩ : ByteArray)).size ≤ 9223372036854775807 then (tollgatelaw09_HeadLetters.l0 k s (bytesOf (B (writeL m p q fs))) (B (preW m p q ++ flatN (GL s (fs.take i))) ++ (((((B (upL s f.1) ++ (⟨#[58]⟩ : ByteArray)) ++ B (blk s i)) ++ B v) ++ B (blk s i)) ++ (⟨#[13, 10]⟩ : ByteArray))) (wrap64 ((i : Int) + 1)) (B m) (B p) (B q) (B hh) (fs.map sF)) else (none)) else (none)) else (none)) else (none)) else (none)) else (none))) true := by
      rintro v rfl
      have e5 : ((((B (upL s f.1 ++ [58]) ++ B (blk s i)) ++ B (vs s f)) ++ B (blk s i)) ++ (⟨#[13, 10]⟩ : ByteArray)) = B (upL s f.1 ++ 58 :: (blk s i ++ vs s f ++ blk s i ++ [13, 10])) := by
        show ((((B (upL s f.1 ++ [58]) ++ B (blk s i)) ++ B (vs s f)) ++ B (blk s i)) ++ B [13, 10]) = _
        rw [B_append, B_append, B_append, B_append]
        simp
      have e6 : B (preW m p q ++ flatN (GL s (fs.take i))) ++ B (upL s f.1 ++ 58 :: (blk s i ++ vs s f ++ blk s i ++ [13, 10])) = B (preW m p q ++ flatN (GL s (fs.take i) ++ [gsf s (blk s i) f])) := by
        rw [B_append, flatN_app, List.append_assoc]
        congr 3
        simp [flatN, gsf]
      rw [e0, e5, e6, hwr]
      simp only [ByteArray.size_append, B_size, List.length_append, List.length_cons, List.length_nil, hul, hvl]
      exact Ev.pos (by omega) (Ev.pos (by omega) (Ev.pos (by omega) (Ev.pos (by omega) (Ev.pos (by omega) (Ev.pos (by omega) hI)))))
    refine Ev.step (fun k => by simp only [tollgatelaw09_HeadLetters.l0]; rfl) (Ev.pos (by rw [List.length_map]; omega) (Ev.pos (by omega) (Ev.put ?_)))
    rw [hrd0, ← hbx, hrb]
    refine Ev.pos u1 (Ev.pos b1 (Ev.pos (by simp; omega) ?_))
    by_cases h : f.1 = hostL
    · refine Ev.pos (by show (B f.1).toList = _; rw [B_toList]; exact h) (Ev.call l2 (Ev.call l1 ?_))
      exact key (upL s f.2) (by unfold vs; rw [if_pos h])
    · refine Ev.neg (by show ¬ (B f.1).toList = _; rw [B_toList]; exact h) (Ev.call l1 ?_)
      exact key f.2 (by unfold vs; rw [if_neg h])
theorem HeadLetters : tollgatelaw09_HeadLetters.PureU := by
  intro y0 s hS _ _
  obtain ⟨m, p, q, hh, fs, rfl, hml, h1, h2, h3⟩ := head_in y0 hS
  refine Ev.rounds (r := true) ?_
  unfold tollgatelaw09_HeadLetters.f
  refine Ev.bind (write_is m p q hh fs (by omega) (by omega) (by omega)) ?_
  rcases W2_cases m p q fs (wOk m p q hh fs) (nh fs) with ⟨e, he, hW⟩ | ⟨hw, h1n, h32, hL, hW⟩
  · rw [hW]
    exact Ev.neg (by show ¬ e = 0; omega) (Ev.bind live_is (Ev.ret rfl))
  · rw [hW]
    have h := loop s m p q hh fs hw h1n h32 hL fs.length 0 (by omega)
    have hg0 : GL s (fs.take 0) = [] := by simp [GL]
    rw [hg0, show flatN [] = [] from rfl, List.append_nil] at h
    have hj : Ev (fun k => tollgatelaw09_HeadLetters.j0 k s (bytesOf (B (writeL m p q fs))) (B (m ++ 32 :: tgt p q)) (B m) (B p) (B q) (B hh) (fs.map sF)) true := by
      have e3 : B (m ++ 32 :: tgt p q) ++ (⟨#[32, 72, 84, 84, 80, 47, 49, 46, 49, 13, 10]⟩ : ByteArray) = B (preW m p q) := by
        have := B_append (m ++ 32 :: tgt p q) (32 :: (verL ++ [13, 10]))
        refine Eq.trans ?_ (this.trans ?_)
        · rfl
        · congr 1
          simp [preW]
      have hpl : (preW m p q).length = m.length + (tgt p q).length + 12 := by simp [preW, verL]; omega
      refine Ev.step (fun k => by simp only [tollgatelaw09_HeadLetters.j0]; rfl) (Ev.pos (by rw [B_size]; simp; omega) ?_)
      rw [e3]
      exact h
    have e1 : B m ++ (⟨#[32]⟩ : ByteArray) = B (m ++ [32]) := B_append m [32]
    have e2 : B (m ++ [32]) ++ B p = B (m ++ 32 :: p) := by rw [B_append]; simp
    refine Ev.pos rfl ?_
    show Ev (fun k => if (B m).size + 1 ≤ 9223372036854775807 then _ else _) true
    rw [e1, e2, B_size, B_size, B_size, B_size]
    refine Ev.pos (by omega) (Ev.pos (by simp; omega) ?_)
    by_cases hq : q = []
    · refine Ev.pos (by rw [B_toList]; exact hq) ?_
      rw [show m ++ 32 :: p = m ++ 32 :: tgt p q by simp [tgt, hq]]
      exact hj
    · have ht : tgt p q = p ++ 63 :: q := by simp [tgt, hq]
      have e3 : (⟨#[63]⟩ : ByteArray) ++ B q = B (63 :: q) := B_append [63] q
      have e4 : B (m ++ 32 :: p) ++ B (63 :: q) = B (m ++ 32 :: tgt p q) := by rw [B_append, ht]; simp
      refine Ev.neg (by rw [B_toList]; exact hq) ?_
      rw [e3, e4, B_size, B_size]
      exact Ev.pos (by omega) (Ev.pos (by simp; omega) hj)
end Go.Proofs.YtabkdmfnafeaeaaDoor.PureU
