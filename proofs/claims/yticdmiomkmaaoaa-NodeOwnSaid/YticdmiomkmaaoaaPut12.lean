/-
  NodePut: the walk.
-/
import Derived.Test.YticdmiomkmaaoaaAllF
import Derived.Test.YticdmiomkmaaoaaAwake12
namespace Go.Proofs.Yticdmiomkmaaoaa
open Go.RowKit

theorem nd0_at' (w : World) (B : Nat) : NdAt w B (.agg #[.bool false, .slice none 0 0, .slice none 0 0]) Nd0 := ⟨_, _, rfl, us_nil _ _, us_nil _ _⟩
theorem MF.block {w : World} {m s : Nat} {f : Int → Option Int} (h : MF w m f s) : ∃ es c, w.heap[m]? = some (.map es c) := by
  obtain ⟨D, ⟨es, clock, hb, _⟩, _⟩ := h
  exact ⟨es, clock, hb⟩
theorem cell_turned {w w' : World} {m s s' : Nat} {f f' : Int → Option Int} (hm : MF w m f s) (hm' : MF w' m f' s') (hg : w.grownBy w' (some m)) (p : Addr) (hp : p.block < w.heap.size) : w'.cell? p = w.cell? p := by
  by_cases e : p.block = m
  · obtain ⟨es, c, h1⟩ := hm.block
    obtain ⟨es', c', h2⟩ := hm'.block
    simp [World.cell?, e, h1, h2]
  · exact World.cell?_of_block (hg.block p.block hp (fun h => e (by cases h; rfl)))
theorem Nv.turned {w w' : World} {b m s s' : Nat} {s1 s2 : Value} {n : Nd} {f f' : Int → Option Int} (h : Nv w b s1 s2 n) (hm : MF w m f s) (hm' : MF w' m f' s') (hg : w.grownBy w' (some m)) : Nv w' b s1 s2 n := by
  refine ⟨?_, (h.2.1.keep (cell_turned hm hm' hg)).more hg.size, (h.2.2.keep (cell_turned hm hm' hg)).more hg.size⟩
  have hb := (Array.getElem?_eq_some_iff.1 h.1).1
  rw [hg.block b hb (fun e => by cases e; obtain ⟨es, c, h1⟩ := hm.block; rw [h.1] at h1; cases h1)]
  exact h.1

set_option maxRecDepth 100000 in
set_option maxHeartbeats 4000000 in
theorem nodePut_walk (W : World) (v : Value) (n : Nd) (hn : NdAt W W.heap.size v n) (key : Int) (hkey : IsU64 key) (val : Int) (hval : IsU64 val) :
    Calls Try.prog 9 #[v, .int .u64 key, .int .u64 val] W fun e W' => e = .returned (.bool true) ∧ Below W.heap.size W W' := by
  obtain ⟨leaf, ks, vs⟩ := n
  obtain ⟨kv, vv, rfl, hk, hv⟩ := hn
  obtain ⟨A1, c1, rfl, -⟩ := hk.form
  obtain ⟨A2, c2, rfl, -⟩ := hv.form
  simp only at hk hv
  obtain ⟨na, hna⟩ : ∃ n, n = ks.length := ⟨_, rfl⟩
  obtain ⟨nb, hnb⟩ : ∃ n, n = vs.length := ⟨_, rfl⟩
  simp only
  rw [← hna] at hk ⊢
  rw [← hnb] at hv ⊢
  have Hna := Lib.hid hna
  have Hnb := Lib.hid hnb
  have Hkey := Lib.hid hkey
  have Hval := Lib.hid hval
  have V : Hid (Nv (W.alloc (.cells #[.bool leaf, .slice A1 na c1, .slice A2 nb c2] 53)) W.heap.size (.slice A1 na c1) (.slice A2 nb c2) ⟨leaf, ks, vs⟩) := ⟨heap_alloc_new W _, (hk.alloc (Nat.le_refl _) _).more (by simp), (hv.alloc (Nat.le_refl _) _).more (by simp)⟩
  have HB : Hid (Below W.heap.size W (W.alloc (.cells #[.bool leaf, .slice A1 na c1, .slice A2 nb c2] 53))) := bel1 _ _
  clear hk hv hna hnb hkey hval
  go_enter Try.func9, Try.ntmps9
  go_wp2_with fail
  refine (all_mf _ _ _ ⟨leaf, ks, vs⟩ V.out.at (Nat.le_refl _)).mono ?_
  rintro e w1 ⟨b1, h⟩
  replace V := Lib.hid (V.out.on b1)
  replace HB := Lib.hid (HB.out.trans (b1.mono HB.out.size))
  rcases h with ⟨hr, rfl⟩ | ⟨hr, mb, rfl, hmb, hm⟩
  · clear b1 hr
    go_wp2_with fail
    refine (awake12 w1).mono ?_
    rintro e w2 ⟨rfl, b2⟩
    have B2 := Lib.hid b2
    clear b2
    go_wp2_with fail
    go_ret
    exact ⟨rfl, HB.out.trans (B2.out.mono HB.out.size)⟩
  have HR := Lib.hid hr
  have hL := rt_len hr
  have HL : Hid (ks.length = vs.length ∧ ks.length ≤ 7) := ⟨hL.1, hL.2.1⟩
  obtain rfl : nb = na := by have := Hna.out; have := Hnb.out; have := hL.1; simp only at this; omega
  obtain ⟨A, B, C, D, hs⟩ := shape hr key
  have HS := Lib.hid hs
  have Hmb : Hid (W.heap.size ≤ mb) := by show _ ≤ _; simp at hmb; omega
  have M : Hid (MF w1 mb (nf ⟨leaf, ks, vs⟩) nb) := by have := hm; rw [show (⟨leaf, ks, vs⟩ : Nd).ks.length = nb from Hna.out.symm] at this; exact this
  have U1 : Hid ((∀ x ∈ ks, IsU64 x) ∧ (∀ x ∈ vs, IsU64 x)) := ⟨V.out.2.1.2, V.out.2.2.2⟩
  have hlook := M.out.look Hkey.out
  have hns : (nf ⟨leaf, ks, vs⟩ key).isSome = decide (key ∈ ks) := nf_mem hL.1 key
  obtain ⟨m, hmm⟩ : ∃ m : Bool, m = decide (key ∈ ks) := ⟨_, rfl⟩
  obtain ⟨old, hold⟩ : ∃ old : Int, old = (nf ⟨leaf, ks, vs⟩ key).getD 0 := ⟨_, rfl⟩
  rw [hns, ← hmm, ← hold] at hlook
  have Hm : Hid (m = decide (key ∈ ks) ∧ (nf ⟨leaf, ks, vs⟩ key).isSome = m ∧ old = (nf ⟨leaf, ks, vs⟩ key).getD 0) := ⟨hmm, hns.trans hmm.symm, hold⟩
  have Hlen : Hid (A.length + B.length + 1 = if m = true then ks.length else ks.length + 1) := by
    show _ = _
    by_cases hk : key ∈ ks
    · obtain ⟨o, h1, _⟩ := hs.yes hk
      simp only at h1
      rw [hmm, decide_eq_true hk, if_pos rfl]
      have := congrArg List.length h1
      simp at this
      omega
    · obtain ⟨h1, _⟩ := hs.no hk
      simp only at h1
      rw [hmm, decide_eq_false hk, if_neg (by simp)]
      have := congrArg List.length h1
      simp at this
      omega
  clear b1 hr hL hm hmb hs hns hmm hold
  obtain ⟨q0, q1, q2, -⟩ := cells3 V.out.1
  go_wp2_with fail
  clear q0 q1 q2 hlook
  by_cases hfull : m = false ∧ ks.length = 7
  · obtain ⟨rfl, h7⟩ := hfull
    have hk : key ∉ ks := of_decide_eq_false Hm.out.1.symm
    refine (put_eq (n := ⟨leaf, ks, vs⟩) key val (m := Nd0) (b := false) (c := 120) (by simp [putS, HR.out, hk, h7]) Hkey.out Hval.out V.out.at (Nat.le_refl _) (by have := HL.out; simp only; omega) (by have := HL.out; simp only; omega)).mono ?_
    rintro e w2 ⟨A3, n3, c3, A4, n4, c4, rfl, O3, b2⟩
    have V11 : Hid (Nv (w2.alloc (.cells #[.bool false, .slice A3 n3 c3, .slice A4 n4 c4] 53)) w2.heap.size (.slice A3 n3 c3) (.slice A4 n4 c4) Nd0) := Nv.new (n := Nd0) O3 (by simp [Nd0]) (by simp [Nd0])
    have hb3 := b2.trans ((bel1 w2 (.cells #[.bool false, .slice A3 n3 c3, .slice A4 n4 c4] 53)).mono b2.size)
    have hlen := fun ty => (M.out.on hb3).len ty
    rw [show (nb : Int) = 7 by have := Hna.out; omega] at hlen
    replace HB := Lib.hid (HB.out.trans (hb3.mono HB.out.size))
    simp only [Nd0] at V11 ⊢
    generalize hW3 : (w2.alloc (.cells #[.bool false, .slice A3 n3 c3, .slice A4 n4 c4] 53)) = W3 at *
    obtain ⟨r0, r1, r2, -⟩ := cells3 V11.out.1
    clear O3 b2 hb3 hk h7
    go_wp2_with fail
    clear r0 r1 r2 hW3 hlen
    refine (same_eq (a := Nd0) (b := Nd0) rfl V11.out.at (nd0_at' _ _) (Nat.le_refl _) (by decide)).mono ?_
    rintro e w4 ⟨rfl, b4⟩
    replace HB := Lib.hid (HB.out.trans (b4.mono HB.out.size))
    clear b4 V11
    go_wp2_with fail
    refine (awake12 w4).mono ?_
    rintro e w5 ⟨rfl, b5⟩
    replace HB := Lib.hid (HB.out.trans (b5.mono HB.out.size))
    clear b5
    go_wp2_with fail
    go_ret
    exact ⟨rfl, HB.out⟩
  · have H7 : Hid (A.length + B.length + 1 ≤ 7) := by
      have h1 := Hlen.out
      have h2 := HL.out
      show _ ≤ _
      cases m
      · simp at hfull h1; omega
      · simp at h1; omega
    obtain ⟨P, hP⟩ : ∃ P : Nd, P = ⟨leaf, A ++ key :: B, C ++ val :: D⟩ := ⟨_, rfl⟩
    have HP : Hid (P = putN ⟨leaf, ks, vs⟩ key val ∧ P.leaf = leaf ∧ P.ks = A ++ key :: B ∧ P.vs = C ++ val :: D) := ⟨by rw [HS.out.put]; exact hP, by rw [hP], by rw [hP], by rw [hP]⟩
    have HPl : Hid (P.ks.length = A.length + B.length + 1 ∧ P.vs.length = A.length + B.length + 1) := by
      have h1 := HS.out.la
      have h2 := HS.out.lc
      have h3 := HS.out.lb
      show _ ∧ _
      rw [HP.out.2.2.1, HP.out.2.2.2]
      simp; omega
    have HPu : Hid ((∀ x ∈ P.ks, IsU64 x) ∧ (∀ x ∈ P.vs, IsU64 x)) := by
      have h1 : ∀ x ∈ A ++ B, x ∈ ks := fun x hx => by
        by_cases hk : key ∈ ks
        · obtain ⟨o, h1, _⟩ := HS.out.yes hk
          simp only at h1; rw [h1]; simp at hx ⊢; rcases hx with h | h <;> simp [h]
        · obtain ⟨h1, _⟩ := HS.out.no hk
          simp only at h1; rw [h1]; exact hx
      have h2 : ∀ x ∈ C ++ D, x ∈ vs := fun x hx => by
        by_cases hk : key ∈ ks
        · obtain ⟨o, _, h1⟩ := HS.out.yes hk
          simp only at h1; rw [h1]; simp at hx ⊢; rcases hx with h | h <;> simp [h]
        · obtain ⟨_, h1⟩ := HS.out.no hk
          simp only at h1; rw [h1]; exact hx
      refine ⟨fun x hx => ?_, fun x hx => ?_⟩
      · rw [HP.out.2.2.1] at hx
        rcases List.mem_append.1 hx with h | h
        · exact U1.out.1 x (h1 x (by simp [h]))
        · rcases List.mem_cons.1 h with rfl | h
          · exact Hkey.out
          · exact U1.out.1 x (h1 x (by simp [h]))
      · rw [HP.out.2.2.2] at hx
        rcases List.mem_append.1 hx with h | h
        · exact U1.out.2 x (h2 x (by simp [h]))
        · rcases List.mem_cons.1 h with rfl | h
          · exact Hval.out
          · exact U1.out.2 x (h2 x (by simp [h]))
    have HPr : Hid (Rt P = true) := by show _ = _; rw [HP.out.1]; exact HS.out.rt_put H7.out val
    have hput : putS ⟨leaf, ks, vs⟩ key val = (P, m, 0) := by
      rw [HP.out.1]
      have h1 := Hm.out.1
      by_cases hk : key ∈ ks
      · rw [decide_eq_true hk] at h1; simp [putS, HR.out, hk, h1]
      · rw [decide_eq_false hk] at h1; simp [putS, HR.out, hk, h1]; intro h2; exact absurd ⟨h1, h2⟩ hfull
    clear hP hfull
    refine (put_eq (n := ⟨leaf, ks, vs⟩) key val (m := P) (b := m) (c := 0) hput Hkey.out Hval.out V.out.at (Nat.le_refl _) (by have := HL.out; simp only; omega) (by have := HL.out; simp only; omega)).mono ?_
    rintro e w2 ⟨A3, n3, c3, A4, n4, c4, rfl, O3, b2⟩
    rw [HP.out.2.1]
    have V11 : Hid (Nv (w2.alloc (.cells #[.bool leaf, .slice A3 n3 c3, .slice A4 n4 c4] 53)) w2.heap.size (.slice A3 n3 c3) (.slice A4 n4 c4) P) := by
      have := Nv.new (n := P) O3 HPu.out.1 HPu.out.2
      rw [HP.out.2.1] at this
      exact this
    have HN : Hid (n3 = A.length + B.length + 1 ∧ n4 = A.length + B.length + 1) := by
      have h1 := V11.out.2.1.len
      have h2 := V11.out.2.2.len
      have := HPl.out
      show _ ∧ _
      omega
    have hb3 := b2.trans ((bel1 w2 (.cells #[.bool leaf, .slice A3 n3 c3, .slice A4 n4 c4] 53)).mono b2.size)
    replace V := Lib.hid (V.out.on hb3)
    replace M := Lib.hid (M.out.on hb3)
    replace HB := Lib.hid (HB.out.trans (hb3.mono HB.out.size))
    generalize hW3 : (w2.alloc (.cells #[.bool leaf, .slice A3 n3 c3, .slice A4 n4 c4] 53)) = W3 at *
    obtain ⟨r0, r1, r2, -⟩ := cells3 V11.out.1
    rw [HP.out.2.1] at r0
    clear O3 b2 hb3 hput
    go_wp2_with fail
    clear r0 r1 r2 hW3
    have hat := V11.out.at
    rw [HP.out.2.1] at hat
    refine (all_mf W3 W3.heap.size _ P hat (Nat.le_refl _)).mono ?_
    rintro e w4 ⟨b4, h⟩
    rcases h with ⟨hr, rfl⟩ | ⟨hr, mq, rfl, hmq, hq⟩
    · rw [HPr.out] at hr; cases hr
    have Hqb : Hid (some mq ≠ some mb) := by
      have h1 := M.out.lt
      show _ ≠ _
      intro e
      cases e
      omega
    have MQ := Lib.hid hq
    replace V := Lib.hid (V.out.on b4)
    replace V11 := Lib.hid (V11.out.on b4)
    replace M := Lib.hid (M.out.on b4)
    replace HB := Lib.hid (HB.out.trans (b4.mono HB.out.size))
    clear hat hr hmq hq b4
    obtain ⟨r0, r1, r2, -⟩ := cells3 V11.out.1
    rw [HP.out.2.1] at r0
    go_wp2_with fail
    clear r0 r1 r2
    have hat := V11.out.at
    rw [HP.out.2.1] at hat
    refine (at_eq key (a := (A.length : Int)) (b := true) (c := 0) (by rw [HP.out.1]; exact HS.out.at_put H7.out val) hat (Nat.le_refl _) (by have := HPl.out; have := H7.out; omega) (by have := HPl.out; have := H7.out; omega)).mono ?_
    rintro e w5 ⟨rfl, b5⟩
    replace V := Lib.hid (V.out.on b5)
    replace V11 := Lib.hid (V11.out.on b5)
    replace M := Lib.hid (M.out.on b5)
    replace MQ := Lib.hid (MQ.out.on b5)
    replace HB := Lib.hid (HB.out.trans (b5.mono HB.out.size))
    clear hat b5
    obtain ⟨l, hl⟩ : ∃ l, l = A.length := ⟨_, rfl⟩
    rw [← hl]
    have hln : (l : Int) < n3 := by have := HN.out; omega
    have hln2 : (l : Int) < n4 := by have := HN.out; omega
    have hln3 : l < n3 := by omega
    have hln4 : l < n4 := by omega
    have hln5 : ¬ ((n3 : Int) ≤ l) := by omega
    have hll : (leaf != leaf) = false := by simp
    have hmm2 : (m != m) = false := by simp
    obtain ⟨_, p3, o3, rfl, -, hcell3⟩ := V11.out.2.1.row (by omega)
    obtain ⟨_, p4, o4, rfl, -, hcell4⟩ := V11.out.2.2.row (by omega)
    have hck := hcell3 l (by have := HPl.out; have := HN.out; omega)
    have hcv := hcell4 l (by have := HPl.out; have := HN.out; omega)
    rw [show P.ks[l]'(by have := HPl.out; have := HN.out; omega) = key by
      rw [List.getElem_of_eq HP.out.2.2.1, List.getElem_append_right (by omega)]; simp [hl]] at hck
    rw [show P.vs[l]'(by have := HPl.out; have := HN.out; omega) = val by
      have h1 := HS.out.la
      have h2 := HS.out.lc
      rw [List.getElem_of_eq HP.out.2.2.2, List.getElem_append_right (by omega)]; simp [hl, show A.length - C.length = 0 by omega]] at hcv
    obtain ⟨q0, q1, q2, -⟩ := cells3 V.out.1
    obtain ⟨r0, r1, r2, -⟩ := cells3 V11.out.1
    rw [HP.out.2.1] at r0
    have Hl := Lib.hid hl
    clear hcell3 hcell4 hl
    go_wp2_with (first | ((with_reducible refine wl_store (m := mb) M.out ?_ key val Hkey.out Hval.out ?_ ?_ ?_ ?_); go_must ((· have := Hna.out; have := HL.out; omega); (· rfl); (· rfl); (· rfl); intro w6 hm6 hg6; have M6 := Lib.hid hm6; have G6 := Lib.hid hg6; clear hm6 hg6)))
    have hsz6 : (if (nf ⟨leaf, ks, vs⟩ key).isSome = true then nb else nb + 1) = P.ks.length := by
      rw [Hm.out.2.1, HPl.out.1, Hlen.out, Hna.out]
    have M7 : Hid (MF w6 mb (nf P) P.ks.length) := by
      have := M6.out
      rw [hsz6, ← HS.out.fset, ← HP.out.1] at this
      exact this
    replace V := Lib.hid (V.out.turned M.out M6.out G6.out)
    replace V11 := Lib.hid (V11.out.turned M.out M6.out G6.out)
    replace MQ := Lib.hid (MQ.out.kept G6.out Hqb.out)
    replace HB := Lib.hid (HB.out.grown G6.out HB.out.size (fun j hj => by cases hj; exact Hmb.out))
    clear M M6 G6 hsz6 hck hcv q0 q1 q2 r0 r1 r2 hln hln2 hln3 hln4 hln5 hll hmm2
    refine (alike_yes w6 mb mq _ _ _ M7.out MQ.out (fun x c h => h)).mono ?_
    rintro e w7 ⟨rfl, b7⟩
    replace V := Lib.hid (V.out.on b7)
    replace V11 := Lib.hid (V11.out.on b7)
    replace M7 := Lib.hid (M7.out.on b7)
    replace HB := Lib.hid (HB.out.trans (b7.mono HB.out.size))
    clear b7 MQ Hqb
    obtain ⟨r0, r1, r2, -⟩ := cells3 V11.out.1
    rw [HP.out.2.1] at r0
    go_wp2_with fail
    clear r0 r1 r2
    have hat := V11.out.at
    rw [HP.out.2.1] at hat
    by_cases hlast : leaf = false ∧ A.length + B.length = 0
    · refine (take_eq key (m := Nd0) (b := 0) (c := 122) (by rw [HP.out.1, HS.out.take_put H7.out, if_pos hlast]) hat (Nat.le_refl _) (by have := HPl.out; have := H7.out; omega) (by have := HPl.out; have := H7.out; omega)).mono ?_
      rintro e w8 ⟨A5, n5, c5, A6, n6, c6, rfl, O5, b8⟩
      have hb9 := b8.trans ((bel1 w8 (.cells #[.bool false, .slice A5 n5 c5, .slice A6 n6 c6] 53)).mono b8.size)
      obtain rfl : n3 = 1 := by have := HN.out; omega
      replace V11 := Lib.hid (V11.out.on hb9)
      replace HB := Lib.hid (HB.out.trans (hb9.mono HB.out.size))
      obtain ⟨r0, r1, r2, -⟩ := cells3 V11.out.1
      rw [HP.out.2.1] at r0
      obtain ⟨rfl, -⟩ := hlast
      simp only [Nd0]
      clear hat O5 b8 hb9
      go_wp2_with fail
      refine (awake12 _).mono ?_
      rintro e w10 ⟨rfl, b10⟩
      have B10 := Lib.hid b10
      clear b10 r0 r1 r2
      go_wp2_with fail
      go_ret
      exact ⟨rfl, HB.out.trans (B10.out.mono HB.out.size)⟩
    · have hTr := HS.out.rt_take (by have := H7.out; omega) hlast
      obtain ⟨T, hT⟩ : ∃ T : Nd, T = ⟨leaf, A ++ B, C ++ D⟩ := ⟨_, rfl⟩
      have HT : Hid (T = ⟨leaf, A ++ B, C ++ D⟩ ∧ Rt T = true ∧ T.leaf = leaf) := ⟨hT, by rw [hT]; exact hTr, by rw [hT]⟩
      refine (take_eq key (m := T) (b := val) (c := 0) (by rw [HP.out.1, HS.out.take_put H7.out, if_neg hlast, hT]) hat (Nat.le_refl _) (by have := HPl.out; have := H7.out; omega) (by have := HPl.out; have := H7.out; omega)).mono ?_
      rintro e w8 ⟨A5, n5, c5, A6, n6, c6, rfl, O5, b8⟩
      have HTu : Hid ((∀ x ∈ T.ks, IsU64 x) ∧ (∀ x ∈ T.vs, IsU64 x)) := by
        rw [HT.out.1]
        refine ⟨fun x hx => HPu.out.1 x ?_, fun x hx => HPu.out.2 x ?_⟩
        · rw [HP.out.2.2.1]; simp at hx ⊢; rcases hx with h | h <;> simp [h]
        · rw [HP.out.2.2.2]; simp at hx ⊢; rcases hx with h | h <;> simp [h]
      have HTl : Hid (T.ks.length + 1 = P.ks.length ∧ T.ks.length ≤ 6 ∧ T.vs.length ≤ 6) := by
        have h1 := HPl.out
        have h2 := H7.out
        have h3 := HS.out.la
        have h4 := HS.out.lc
        have h5 := HS.out.lb
        have e1 : T.ks.length = A.length + B.length := by rw [HT.out.1]; simp
        have e2 : T.vs.length = C.length + D.length := by rw [HT.out.1]; simp
        show _ ∧ _ ∧ _
        omega
      have hlast2 := Lib.hid hlast
      rw [HT.out.2.2]
      have V18 : Hid (Nv (w8.alloc (.cells #[.bool leaf, .slice A5 n5 c5, .slice A6 n6 c6] 53)) w8.heap.size (.slice A5 n5 c5) (.slice A6 n6 c6) T) := by
        have := Nv.new (n := T) O5 HTu.out.1 HTu.out.2
        rw [HT.out.2.2] at this
        exact this
      have hb9 := b8.trans ((bel1 w8 (.cells #[.bool leaf, .slice A5 n5 c5, .slice A6 n6 c6] 53)).mono b8.size)
      replace V := Lib.hid (V.out.on hb9)
      replace M7 := Lib.hid (M7.out.on hb9)
      replace HB := Lib.hid (HB.out.trans (hb9.mono HB.out.size))
      generalize hW9 : (w8.alloc (.cells #[.bool leaf, .slice A5 n5 c5, .slice A6 n6 c6] 53)) = W9 at *
      obtain ⟨p18, hp18⟩ : ∃ p, p = w8.heap.size := ⟨_, rfl⟩
      rw [← hp18] at V18
      obtain ⟨r0, r1, r2, -⟩ := cells3 V18.out.1
      rw [HT.out.2.2] at r0
      rw [hp18] at r0 r1 r2
      clear hat O5 b8 hb9 hTr hT hlast V11
      go_wp2_with fail
      rw [← hp18]
      clear r0 r1 r2 hW9 hp18
      have hat := V18.out.at
      rw [HT.out.2.2] at hat
      refine (all_mf W9 W9.heap.size _ T hat (Nat.le_refl _)).mono ?_
      rintro e w10 ⟨b10, h⟩
      rcases h with ⟨hr, rfl⟩ | ⟨hr, mr, rfl, hmr, hq⟩
      · rw [HT.out.2.1] at hr; cases hr
      have Hrb : Hid (some mr ≠ some mb) := by
        have h1 := M7.out.lt
        show _ ≠ _
        intro e
        cases e
        omega
      have MR := Lib.hid hq
      replace V := Lib.hid (V.out.on b10)
      replace V18 := Lib.hid (V18.out.on b10)
      replace M7 := Lib.hid (M7.out.on b10)
      replace HB := Lib.hid (HB.out.trans (b10.mono HB.out.size))
      clear hat hr hmr hq b10
      have hvv : (val != val) = false := by simp
      go_wp2_with (first | ((with_reducible refine wl_drop (m := mb) M7.out key Hkey.out ?_ ?_ ?_); go_must ((· rfl); (· rfl); intro w11 hm11 hg11; have M11 := Lib.hid hm11; have G11 := Lib.hid hg11; clear hm11 hg11)))
      clear hvv
      have M12 : Hid (MF w11 mb (nf T) T.ks.length) := by
        have h1 := M11.out
        have h2 : (nf P key).isSome = true := by rw [HP.out.1, HS.out.nf_put]; simp
        have h3 := HTl.out.1
        rw [h2, HP.out.1, HS.out.fset, ← HS.out.fdel, ← HT.out.1, ← HP.out.1] at h1
        rw [if_pos rfl, show P.ks.length - 1 = T.ks.length by omega] at h1
        exact h1
      replace V := Lib.hid (V.out.turned M7.out M11.out G11.out)
      replace V18 := Lib.hid (V18.out.turned M7.out M11.out G11.out)
      replace MR := Lib.hid (MR.out.kept G11.out Hrb.out)
      replace HB := Lib.hid (HB.out.grown G11.out HB.out.size (fun j hj => by cases hj; exact Hmb.out))
      clear M7 M11 G11
      refine (alike_yes w11 mb mr _ _ _ M12.out MR.out (fun x c h => h)).mono ?_
      rintro e w12 ⟨rfl, b12⟩
      replace V := Lib.hid (V.out.on b12)
      replace V18 := Lib.hid (V18.out.on b12)
      replace HB := Lib.hid (HB.out.trans (b12.mono HB.out.size))
      clear b12 M12 MR Hrb
      obtain ⟨q0, q1, q2, -⟩ := cells3 V.out.1
      obtain ⟨r0, r1, r2, -⟩ := cells3 V18.out.1
      rw [HT.out.2.2] at r0
      have hat := V18.out.at
      rw [HT.out.2.2] at hat
      cases m
      · go_wp2_with fail
        clear q0 q1 q2 r0 r1 r2
        have hk : key ∉ ks := of_decide_eq_false Hm.out.1.symm
        have hTn : T = ⟨leaf, ks, vs⟩ := by
          obtain ⟨h1, h2⟩ := HS.out.no hk
          simp only at h1 h2
          rw [HT.out.1, h1, h2]
        refine (same_eq (a := T) (b := ⟨leaf, ks, vs⟩) hTn hat V.out.at (Nat.le_refl _) (by have := HTl.out; omega)).mono ?_
        rintro e w13 ⟨rfl, b13⟩
        replace HB := Lib.hid (HB.out.trans (b13.mono HB.out.size))
        clear b13 hat hTn hk
        go_wp2_with fail
        refine (awake12 _).mono ?_
        rintro e w14 ⟨rfl, b14⟩
        replace HB := Lib.hid (HB.out.trans (b14.mono HB.out.size))
        clear b14
        go_wp2_with fail
        go_ret
        exact ⟨rfl, HB.out⟩
      · go_wp2_with fail
        clear q0 q1 q2 r0 r1 r2
        have hk : key ∈ ks := of_decide_eq_true Hm.out.1.symm
        obtain ⟨old', ho1, ho2⟩ := HS.out.back HR.out hk (by have := H7.out; omega) hlast2.out
        have hoo : old = old' := by have := Hm.out.2.2; rw [ho1] at this; exact this
        subst hoo
        have hou : IsU64 old := by
          have := aget_mem _ _ _ ho1
          exact U1.out.2 _ (List.of_mem_zip this).2
        rw [← HT.out.1] at ho2
        refine (put_eq (n := T) key old (m := ⟨leaf, ks, vs⟩) (b := false) (c := 0) ho2 Hkey.out hou hat (Nat.le_refl _) (by have := HTl.out; omega) (by have := HTl.out; omega)).mono ?_
        rintro e w13 ⟨A7, n7, c7, A8, n8, c8, rfl, O7, b13⟩
        have V22 : Hid (Nv (w13.alloc (.cells #[.bool leaf, .slice A7 n7 c7, .slice A8 n8 c8] 53)) w13.heap.size (.slice A7 n7 c7) (.slice A8 n8 c8) ⟨leaf, ks, vs⟩) := Nv.new (n := ⟨leaf, ks, vs⟩) O7 U1.out.1 U1.out.2
        have hb14 := b13.trans ((bel1 w13 (.cells #[.bool leaf, .slice A7 n7 c7, .slice A8 n8 c8] 53)).mono b13.size)
        replace V := Lib.hid (V.out.on hb14)
        replace HB := Lib.hid (HB.out.trans (hb14.mono HB.out.size))
        generalize hW14 : (w13.alloc (.cells #[.bool leaf, .slice A7 n7 c7, .slice A8 n8 c8] 53)) = W14 at *
        obtain ⟨q0, q1, q2, -⟩ := cells3 V.out.1
        obtain ⟨r0, r1, r2, -⟩ := cells3 V22.out.1
        clear O7 b13 hb14 hat ho1 ho2 hou hk V18
        go_wp2_with fail
        clear q0 q1 q2 r0 r1 r2 hW14
        refine (same_eq (a := ⟨leaf, ks, vs⟩) rfl V22.out.at V.out.at (Nat.le_refl _) (by have := HL.out; simp only; omega)).mono ?_
        rintro e w15 ⟨rfl, b15⟩
        replace HB := Lib.hid (HB.out.trans (b15.mono HB.out.size))
        clear b15 V V22
        go_wp2_with fail
        refine (awake12 _).mono ?_
        rintro e w16 ⟨rfl, b16⟩
        replace HB := Lib.hid (HB.out.trans (b16.mono HB.out.size))
        clear b16
        go_wp2_with fail
        go_ret
        exact ⟨rfl, HB.out⟩
end Go.Proofs.Yticdmiomkmaaoaa
