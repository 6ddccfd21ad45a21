/- HeadTargets: a target with a host counts more than the field; one without a path is '/'. Condition: the form '..UptoCardSaid' (arguments of together at most 1048576 values). -/
import Derived.Test.YtabkdmfnafeaeaaDoorQx37
import Derived.Test.YtabkdmfnafeaeaaDoorQx40
import Derived.Test.YtabkdmfnafeaeaaDoorQxOp
import Derived.Test.YtabkdmfnafeaeaaDoorHPzg
namespace Go.Proofs.YtabkdmfnafeaeaaDoor.PureU
open Go.RowKit Go.Proofs.YtabkdmfnafeaeaaDoor.Q Go.Proofs.YtabkdmfnafeaeaaDoor.HP Go.Proofs.YtabkdmfnafeaeaaDoorW.PrintWords Go.Proofs.YtabkdmfnafeaeaaDoorW.PrintLast Go.Proofs.YtabkdmfnafeaeaaDoorW.PrintMore
def _root_.Go.Proofs.YtabkdmfnafeaeaaDoor.Q.tollgatelaw09_HeadTargets.PureU : Prop := ∀ (a0 : ByteArray) (a1 : ByteArray) (y2 : S32), (a0.size + (a1.size + mu32 y2)) ≤ 1048576 → a0.size ≤ 140737488351232 → a1.size ≤ 140737488351232 → ok32 y2 → ∃ k, tollgatelaw09_HeadTargets.f k a0 a1 y2.f0 y2.f1 = some true
theorem pI {α : Type} {c : Prop} {i : Decidable c} {a b : Nat → Option α} {r : α} (hc : c) (h : Ev a r) : Ev (fun k => @ite _ c i (a k) (b k)) r := Ev.congr (fun _ => if_pos hc) h
theorem nI {α : Type} {c : Prop} {i : Decidable c} {a b : Nat → Option α} {r : α} (hc : ¬ c) (h : Ev b r) : Ev (fun k => @ite _ c i (a k) (b k)) r := Ev.congr (fun _ => if_neg hc) h
theorem wr (x : Int) (h0 : 0 ≤ x) (h1 : x < 9223372036854775807) : wrap64 x = x := by unfold wrap64; omega
theorem main (a b p q : List UInt8) (hl : a.length + b.length + p.length + q.length ≤ 1900) (ha : (hostS a).2 = true) (hb : (hostS b).2 = true) (hp : pathL p = true) (hq : suchL true q = true) :
    Ev (fun k => tollgatelaw09_HeadTargets.j0 k (B a) (B b) (B (hostS a).1) (B (hostS b).1) (B p) (B q) false) true := by
  obtain ⟨hca, hna⟩ := host_chars ha
  have a13 := hc_not hca 13 (by decide +kernel)
  have a32 := hc_not hca 32 (by decide +kernel)
  have hps := (path_such hp).1
  have p13 := such_no false p hps 13 (by decide) (by decide) (by decide)
  have p32 := such_no false p hps 32 (by decide) (by decide) (by decide)
  have q13 := such_no true q hq 13 (by decide) (by decide) (by decide)
  have q32 := such_no true q hq 32 (by decide) (by decide) (by decide)
  have t1 : Ev (fun k => head_target.f k (B (httpL ++ (a ++ p) ++ 63 :: q))) (B p, B q, B (hostS a).1, true) := by
    have := targetS_is (httpL ++ (a ++ p) ++ 63 :: q) (by simp [httpL]; omega)
    rw [target_far a p q ha hp hq] at this
    exact this
  have t2 : Ev (fun k => head_target.f k (B (httpL ++ a))) (B [47], B [], B (hostS a).1, true) := by
    have := targetS_is (httpL ++ a) (by simp [httpL]; omega)
    rw [target_bare a ha] at this
    exact this
  have t3 : Ev (fun k => head_target.f k (B p)) (B p, B [], B [], true) := by
    have := target_is p [] hp rfl (by simp; omega)
    rw [show tgt p [] = p by simp [tgt]] at this
    exact this
  have hh13 : (13 : UInt8) ∉ httpL := by decide
  have hh32 : (32 : UInt8) ∉ httpL := by decide
  have l1 : (headL getL (httpL ++ (a ++ p) ++ 63 :: q) [(hostL, 32 :: b)]).length = 33 + a.length + p.length + q.length + b.length := by
    rw [headN]
    simp [getL, httpL, verL, hostL, flatN]
    omega
  have l2 : (headL getL (httpL ++ a) [(hostL, 32 :: b)]).length = 32 + a.length + b.length := by
    rw [headN]
    simp [getL, httpL, verL, hostL, flatN]
    omega
  have l3 : (headL getL p [(hostL, 32 :: b)]).length = 25 + p.length + b.length := by
    rw [headN]
    simp [getL, verL, hostL, flatN]
    omega
  obtain ⟨f1, e1, h1⟩ := parse_one (httpL ++ (a ++ p) ++ 63 :: q) p q (hostS a).1 b (by simp [hh13, a13, p13, q13]) (by simp [hh32, a32, p32, q32]) (by simp [httpL]; omega) (by omega) t1 hb (by omega)
  obtain ⟨f2, e2, h2⟩ := parse_one (httpL ++ a) [47] [] (hostS a).1 b (by simp [hh13, a13]) (by simp [hh32, a32]) (by simp [httpL]; omega) (by omega) t2 hb (by omega)
  obtain ⟨f3, e3, h3⟩ := parse_one p p [] [] b p13 p32 (by omega) (by omega) t3 hb (by omega)
  rw [if_neg hna] at h1 h2
  rw [if_pos rfl] at h3
  have g : (⟨#[71, 69, 84, 32, 104, 116, 116, 112, 58, 47, 47]⟩ : ByteArray) = B (getL ++ 32 :: httpL) := rfl
  have v : (⟨#[32, 72, 84, 84, 80, 47, 49, 46, 49, 13, 10, 104, 111, 115, 116, 58, 32]⟩ : ByteArray) = B (32 :: (verL ++ [13, 10] ++ hostL ++ [58, 32])) := rfl
  have c : (⟨#[13, 10, 13, 10]⟩ : ByteArray) = B [13, 10, 13, 10] := rfl
  have qm : (⟨#[63]⟩ : ByteArray) = B [63] := rfl
  have gt : (⟨#[71, 69, 84, 32]⟩ : ByteArray) = B (getL ++ [32]) := rfl
  have gl : (getL ++ 32 :: httpL).length = 11 := rfl
  have vl : (32 :: (verL ++ [13, 10] ++ hostL ++ [58, 32])).length = 17 := rfl
  have gtl : (getL ++ [32]).length = 4 := rfl
  have x1 : B ((getL ++ 32 :: httpL) ++ a ++ p ++ [63] ++ q ++ (32 :: (verL ++ [13, 10] ++ hostL ++ [58, 32])) ++ b ++ [13, 10, 13, 10]) = B (headL getL (httpL ++ (a ++ p) ++ 63 :: q) [(hostL, 32 :: b)]) := by
    rw [headN]
    congr 1
    simp [flatN]
  have x2 : B ((getL ++ 32 :: httpL) ++ a ++ (32 :: (verL ++ [13, 10] ++ hostL ++ [58, 32])) ++ b ++ [13, 10, 13, 10]) = B (headL getL (httpL ++ a) [(hostL, 32 :: b)]) := by
    rw [headN]
    congr 1
    simp [flatN]
  have x3 : B ((getL ++ [32]) ++ p ++ (32 :: (verL ++ [13, 10] ++ hostL ++ [58, 32])) ++ b ++ [13, 10, 13, 10]) = B (headL getL p [(hostL, 32 :: b)]) := by
    rw [headN]
    congr 1
    simp [flatN]
  refine Ev.step (fun k => by simp only [tollgatelaw09_HeadTargets.j0]; rfl) (nI (by simp) ?_)
  rw [g, v, c, qm, gt]
  simp only [B_append, B_size]
  rw [x1, x2, x3]
  simp only [List.length_append, gl, vl, gtl, List.length_cons, List.length_nil]
  refine pI (by omega) (pI (by omega) (pI (by omega) (pI (by omega) (pI (by omega) (pI (by omega) (pI (by omega) (pI (by omega) (Ev.bind h1 ?_))))))))
  refine pI (by omega) (pI (by omega) (pI (by omega) (pI (by omega) (Ev.bind h2 ?_))))
  refine pI (by omega) (pI (by omega) (pI (by omega) (pI (by omega) (pI (by omega) (Ev.bind h3 (Ev.bind live_is (pI rfl ?_)))))))
  exact pI rfl (pI rfl (pI rfl (pI rfl (pI rfl (pI rfl (pI (B_toList _) (pI (B_toList _) (pI rfl (pI rfl (Ev.ret (by simp)))))))))))
theorem HeadTargets : tollgatelaw09_HeadTargets.PureU := by
  intro a0 a1 y2 hS _ _ _
  obtain ⟨p0, q0⟩ := y2
  simp only [mu32] at hS
  have hin : ∀ x : ByteArray, ∃ l : List UInt8, x = B l ∧ l.length = x.size := fun x => ⟨x.data.toList, (B_of x).symm, by simp⟩
  obtain ⟨a, rfl, la⟩ := hin a0
  obtain ⟨b, rfl, lb⟩ := hin a1
  obtain ⟨p, rfl, lp⟩ := hin p0
  obtain ⟨q, rfl, lq⟩ := hin q0
  have hT : ∀ x y, Ev (fun k => tollgatelaw09_HeadTargets.j0 k (B a) (B b) x y (B p) (B q) true) true := fun x y => Ev.step (fun k => by simp only [tollgatelaw09_HeadTargets.j0]; rfl) (pI (by trivial) (Ev.bind live_is (Ev.ret rfl)))
  refine Ev.rounds (r := true) ?_
  show Ev (fun k => tollgatelaw09_HeadTargets.f k (B a) (B b) (B p) (B q)) true
  unfold tollgatelaw09_HeadTargets.f
  refine Ev.bind (host_is a (by omega)) (Ev.bind (host_is b (by omega)) ?_)
  by_cases ha : (hostS a).2 = true
  · refine pI ha ?_
    by_cases hb : (hostS b).2 = true
    · refine pI hb (Ev.bind (Path_is p (by omega)) ?_)
      by_cases hp : pathL p = true
      · refine pI hp (Ev.bind (Query_is q (by omega)) ?_)
        by_cases hq : suchL true q = true
        · refine pI hq ?_
          have hw : wrap64 (wrap64 (wrap64 (((B a).size : Int) + ((B b).size : Int)) + ((B p).size : Int)) + ((B q).size : Int)) = ((a.length + b.length + p.length + q.length : Nat) : Int) := by
            rw [B_size, B_size, B_size, B_size]
            clear hT
            rw [wr ((a.length : Int) + (b.length : Int)) (by omega) (by omega), wr ((a.length : Int) + (b.length : Int) + (p.length : Int)) (by omega) (by omega), wr ((a.length : Int) + (b.length : Int) + (p.length : Int) + (q.length : Int)) (by omega) (by omega)]
            omega
          rw [hw]
          clear hw
          by_cases hl : a.length + b.length + p.length + q.length ≤ 1900
          · rw [show decide (((a.length + b.length + p.length + q.length : Nat) : Int) > 1900) = false from decide_eq_false (by omega)]
            exact main a b p q hl ha hb hp hq
          · rw [show decide (((a.length + b.length + p.length + q.length : Nat) : Int) > 1900) = true from decide_eq_true (by omega)]
            exact hT _ _
        · exact nI hq (hT _ _)
      · exact nI hp (hT _ _)
    · exact nI hb (hT _ _)
  · exact nI ha (hT _ _)
end Go.Proofs.YtabkdmfnafeaeaaDoor.PureU
