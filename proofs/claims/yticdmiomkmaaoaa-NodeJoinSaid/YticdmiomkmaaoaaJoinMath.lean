/-
  Join of two nodes, in plain words.
-/
import Derived.Test.YticdmiomkmaaoaaPutMath
import Derived.Test.YticdmiomkmaaoaaOpen12
import Derived.Test.YticdmiomkmaaoaaMerge
namespace Go.Proofs.Yticdmiomkmaaoaa
open Go.RowKit

def seenF (l : List Nd) : Int → Option Int := l.foldl (fun f n => funion f (nf n)) (fun _ => none)
def lastK (l : List Nd) : Int := l.foldl (fun a n => if n.ks.length = 0 then a else n.ks.getLastD 0) 0
theorem seenF_succ {l : List Nd} {k : Nat} (h : k < l.length) : seenF (l.take (k + 1)) = funion (seenF (l.take k)) (nf l[k]) := by
  unfold seenF
  rw [List.take_succ_eq_append_getElem h, List.foldl_append]
  rfl
theorem lastK_succ {l : List Nd} {k : Nat} (h : k < l.length) : lastK (l.take (k + 1)) = if l[k].ks.length = 0 then lastK (l.take k) else l[k].ks.getLastD 0 := by
  unfold lastK
  rw [List.take_succ_eq_append_getElem h, List.foldl_append]
  rfl
theorem inc_both {a b : Nd} (ha : Inc a.ks) (hb : Inc b.ks) (hap : apart a b = false) : Inc (a.ks ++ b.ks) := by
  refine List.pairwise_append.2 ⟨ha, hb, fun x hx y hy => ?_⟩
  obtain ⟨i, hi, rfl⟩ := List.getElem_of_mem hx
  obtain ⟨j, hj, rfl⟩ := List.getElem_of_mem hy
  have h1 := inc_le ha hi (show a.ks.length - 1 < a.ks.length by omega) (by omega)
  have h2 := inc_le hb (show 0 < b.ks.length by omega) hj (Nat.zero_le _)
  simp only [apart, decide_eq_false_iff_not] at hap
  have h3 : ¬ (b.ks.headD 0 ≤ a.ks.getLastD 0) := fun h => hap ⟨List.ne_nil_of_mem hx, List.ne_nil_of_mem hy, h⟩
  rw [headD_get (by omega), getLastD_get (by omega)] at h3
  omega
theorem nf_both {a b : Nd} (h1 : a.ks.length = a.vs.length) (h2 : b.ks.length = b.vs.length) (hi : Inc (a.ks ++ b.ks)) : nf (bothN a b) = funion (nf a) (nf b) := by
  funext x
  show nf ⟨a.leaf, a.ks ++ b.ks, a.vs ++ b.vs⟩ x = _
  rw [nf_cat h1]
  show (nf a x).or (nf b x) = (nf b x).or (nf a x)
  have e1 := nf_mem h1 x
  have e2 := nf_mem h2 x
  cases ha : nf a x with
  | none => simp
  | some c =>
    cases hb : nf b x with
    | none => simp
    | some d =>
      rw [ha] at e1
      rw [hb] at e2
      simp at e1 e2
      have := (List.pairwise_append.1 hi).2.2 x e1 x e2
      omega

structure JoinL (n m : Nd) (l : List Nd) : Prop where
  len : (l.length : Int) = 1 + ((n.ks.length : Int) + m.ks.length).tdiv 8
  le : l.length ≤ 2
  rt : ∀ k (hk : k < l.length), Rt l[k] = true ∧ l[k].leaf = n.leaf
  ord : ∀ k (hk : k < l.length), 0 < k → ∃ h : 0 < l[k].ks.length, lastK (l.take k) < l[k].ks[0]
  all : seenF l = funion (nf n) (nf m)
  two : ∀ (h : l.length = 2), l[1].ks.length ≤ l[0].ks.length ∧ l[0].ks.length ≤ l[1].ks.length + 1

theorem JoinL.ord' {n m x : Nd} {l : List Nd} (h : JoinL n m l) {k : Nat} (hk : k < l.length) (hx : x = l[k]) (h0 : 0 < k) : 0 < x.ks.length ∧ lastK (l.take k) < x.ks.headD 0 := by
  subst hx
  obtain ⟨h1, h2⟩ := h.ord k hk h0
  exact ⟨h1, by rw [headD_get h1]; exact h2⟩
theorem joinL {n m : Nd} (hn : Rt n = true) (hm : Rt m = true) (hleaf : n.leaf = m.leaf) (hap : apart n m = false) : ∃ l, joinS n m = (l, 0) ∧ JoinL n m l := by
  have hok : joinOk n m = true := by simp [joinOk, hn, hm, hleaf, hap]
  obtain ⟨a1, a2, a3, a4⟩ := rt_len hn
  obtain ⟨b1, b2, b3, b4⟩ := rt_len hm
  have hI := inc_both a4 b4 hap
  have hlen : (bothN n m).ks.length = n.ks.length + m.ks.length := by simp [bothN]
  have hlenv : (bothN n m).vs.length = n.ks.length + m.ks.length := by simp [bothN, a1, b1]
  have hall := nf_both a1 b1 hI
  have hdiv : ((n.ks.length : Int) + m.ks.length).tdiv 8 = ((n.ks.length : Int) + m.ks.length) / 8 := Int.tdiv_eq_ediv_of_nonneg (by omega)
  by_cases h7 : (bothN n m).ks.length ≤ 7
  · refine ⟨[bothN n m], by rw [joinS_ok hok, if_pos h7], ?_⟩
    refine ⟨?_, by simp, fun k hk => ?_, fun k hk h => ?_, ?_, fun h => by simp at h⟩
    · rw [hdiv]; simp only [List.length_singleton]; omega
    · obtain rfl : k = 0 := by simpa using hk
      refine ⟨?_, rfl⟩
      show Rt (bothN n m) = true
      refine rt_of (by omega) h7 ?_ hI
      rcases a3 with h | h
      · exact .inl h
      · exact .inr (by rw [hlen]; omega)
    · simp at hk; omega
    · rw [← hall]; funext x; simp [seenF, funion]
  · obtain ⟨B, hB⟩ : ∃ B, B = bothN n m := ⟨_, rfl⟩
    have hBl : B.leaf = n.leaf := by rw [hB]; rfl
    rw [← hB] at h7 hlen hlenv hall
    have hIB : Inc B.ks := by rw [hB]; exact hI
    obtain ⟨k, hk⟩ : ∃ k, k = half B := ⟨_, rfl⟩
    have hk2 : k = (B.ks.length + 1) / 2 := hk
    have hbb : bothN (leftN B k) (rightN B k) = B := by simp [bothN, leftN, rightN]
    have hl1 : (leftN B k).ks.length = k := by simp [leftN]; omega
    have hl2 : (rightN B k).ks.length = B.ks.length - k := by simp [rightN]
    have hl3 : (leftN B k).vs.length = k := by simp [leftN]; omega
    have hl4 : (rightN B k).vs.length = B.ks.length - k := by simp [rightN]; omega
    refine ⟨[leftN B k, rightN B k], by rw [joinS_ok hok, if_neg (by rw [← hB]; exact h7), ← hB, hk], ?_⟩
    refine ⟨?_, by simp, fun i hi => ?_, fun i hi h => ?_, ?_, fun _ => ?_⟩
    · rw [hdiv]; simp only [List.length_cons, List.length_nil]; omega
    · have hi2 : i < 2 := by simpa using hi
      rcases (show i = 0 ∨ i = 1 by omega) with rfl | rfl
      · exact ⟨rt_of (by simp only [List.getElem_cons_zero]; omega) (by simp only [List.getElem_cons_zero]; omega) (.inr (by simp only [List.getElem_cons_zero]; omega)) (List.Pairwise.sublist (List.take_sublist _ _) hIB), hBl⟩
      · exact ⟨rt_of (by simp only [List.getElem_cons_succ, List.getElem_cons_zero]; omega) (by simp only [List.getElem_cons_succ, List.getElem_cons_zero]; omega) (.inr (by simp only [List.getElem_cons_succ, List.getElem_cons_zero]; omega)) (List.Pairwise.sublist (List.drop_sublist _ _) hIB), hBl⟩
    · have hi2 : i < 2 := by simpa using hi
      obtain rfl : i = 1 := by omega
      refine ⟨by simp only [List.getElem_cons_succ, List.getElem_cons_zero]; omega, ?_⟩
      have e : lastK (List.take 1 [leftN B k, rightN B k]) = (leftN B k).ks.getLastD 0 := by
        simp only [lastK, List.take_succ_cons, List.take_zero, List.foldl_cons, List.foldl_nil]
        rw [if_neg (by omega)]
      rw [e, getLastD_get (by omega)]
      have := List.pairwise_iff_getElem.1 hIB (k - 1) (k + 0) (by omega) (by omega) (by omega)
      simp only [List.getElem_cons_succ, List.getElem_cons_zero, hl1]
      simpa only [leftN, rightN, List.getElem_take, List.getElem_drop] using this
    · have h := nf_both (a := leftN B k) (b := rightN B k) (by omega) (by omega) (by show Inc (bothN (leftN B k) (rightN B k)).ks; rw [hbb]; exact hIB)
      rw [hbb] at h
      rw [← hall, h]
      funext x; simp [seenF, funion]
    · simp only [List.getElem_cons_succ, List.getElem_cons_zero]
      omega
end Go.Proofs.Yticdmiomkmaaoaa
