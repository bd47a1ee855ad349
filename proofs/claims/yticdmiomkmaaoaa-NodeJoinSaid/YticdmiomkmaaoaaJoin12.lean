/-
  NodeJoin: the walk.
-/
import Derived.Test.YticdmiomkmaaoaaTells12
import Derived.Test.YticdmiomkmaaoaaJoinMath
namespace Go.Proofs.Yticdmiomkmaaoaa
open Go.RowKit Go.Sort

theorem NdsAt.turned {w w' : World} {A : Option Addr} {l : List Nd} {mm s s' : Nat} {f f' : Int → Option Int} (h : NdsAt w A l) (hm : MF w mm f s) (hm' : MF w' mm f' s') (hg : w.grownBy w' (some mm)) : NdsAt w' A l := by
  intro k hk
  obtain ⟨g, A1, n1, c1, A2, n2, c2, e, hlt, h0, h1, h2, h3, h4⟩ := h k hk
  exact ⟨g, A1, n1, c1, A2, n2, c2, e, Nat.lt_of_lt_of_le hlt hg.size, (cell_turned hm hm' hg _ (by exact hlt)).trans h0, (cell_turned hm hm' hg _ (by exact hlt)).trans h1, (cell_turned hm hm' hg _ (by exact hlt)).trans h2, (Us.keep h3 (cell_turned hm hm' hg)).more hg.size, (Us.keep h4 (cell_turned hm hm' hg)).more hg.size⟩
/-- what stands in a round over the nodes -/
structure JSt (W w : World) (s1 s2 : Value) (n : Nd) (A : Option Addr) (l : List Nd) (mx ms sx k sS : Nat) (fx : Int → Option Int) : Prop where
  va : Nv w W.heap.size s1 s2 n
  nj : NdsAt w A l
  x : MF w mx fx sx
  s : MF w ms (seenF (l.take k)) sS
  le : sS ≤ 7 * k
  be : Below W.heap.size W w
theorem JSt.on {W w w' : World} {s1 s2 : Value} {n : Nd} {A : Option Addr} {l : List Nd} {mx ms sx k sS : Nat} {fx : Int → Option Int} (h : JSt W w s1 s2 n A l mx ms sx k sS fx) (hb : Below w.heap.size w w') : JSt W w' s1 s2 n A l mx ms sx k sS fx :=
  ⟨h.va.on hb, h.nj.on hb, h.x.on hb, h.s.on hb, h.le, h.be.trans (hb.mono h.be.size)⟩
theorem JSt.turned {W w w' : World} {s1 s2 : Value} {n : Nd} {A : Option Addr} {l : List Nd} {mx ms sx k sS s' : Nat} {fx : Int → Option Int} (h : JSt W w s1 s2 n A l mx ms sx k sS fx) (hk : k < l.length) (hm : MF w' ms (funion (seenF (l.take k)) (nf l[k])) s')
    (hg : w.grownBy w' (some ms)) (hs : s' ≤ 7 * k + 7) (hxs : mx ≠ ms) (hms : W.heap.size ≤ ms) : JSt W w' s1 s2 n A l mx ms sx (k + 1) s' fx :=
  ⟨h.va.turned h.s hm hg, h.nj.turned h.s hm hg, h.x.kept hg (by intro e; cases e; exact hxs rfl), by rw [seenF_succ hk]; exact hm, by omega, h.be.grown hg h.be.size (fun j hj => by cases hj; exact hms)⟩

set_option maxRecDepth 100000 in
set_option maxHeartbeats 8000000 in
theorem nodeJoin_walk (W : World) (v1 : Value) (n : Nd) (hn : NdAt W W.heap.size v1 n) (v2 : Value) (m : Nd) (hm : NdAt W W.heap.size v2 m) :
    Calls Try.prog 11 #[v1, v2] W fun e W' => e = .returned (.bool true) ∧ Below W.heap.size W W' := by
  obtain ⟨_, _, rfl, h1, h2⟩ := hn
  obtain ⟨_, _, rfl, h3, h4⟩ := hm
  obtain ⟨A1, c1, rfl, -⟩ := h1.form
  obtain ⟨A2, c2, rfl, -⟩ := h2.form
  obtain ⟨A3, c3, rfl, -⟩ := h3.form
  obtain ⟨A4, c4, rfl, -⟩ := h4.form
  obtain ⟨na, hna⟩ : ∃ k, k = n.ks.length := ⟨_, rfl⟩
  obtain ⟨ma, hma⟩ : ∃ k, k = n.vs.length := ⟨_, rfl⟩
  obtain ⟨nb, hnb⟩ : ∃ k, k = m.ks.length := ⟨_, rfl⟩
  obtain ⟨mb, hmb⟩ : ∃ k, k = m.vs.length := ⟨_, rfl⟩
  rw [← hna] at h1 ⊢
  rw [← hma] at h2 ⊢
  rw [← hnb] at h3 ⊢
  rw [← hmb] at h4 ⊢
  have HLe : Hid (na = n.ks.length ∧ ma = n.vs.length ∧ nb = m.ks.length ∧ mb = m.vs.length) := ⟨hna, hma, hnb, hmb⟩
  have hb1 := bel1 W (.cells #[.bool n.leaf, .slice A1 na c1, .slice A2 ma c2] 53)
  have VA0 : Nv (W.alloc (.cells #[.bool n.leaf, .slice A1 na c1, .slice A2 ma c2] 53)) W.heap.size (.slice A1 na c1) (.slice A2 ma c2) n := ⟨heap_alloc_new W _, (h1.on hb1).more hb1.size, (h2.on hb1).more hb1.size⟩
  have hb2 := bel1 (W.alloc (.cells #[.bool n.leaf, .slice A1 na c1, .slice A2 ma c2] 53)) (.cells #[.bool m.leaf, .slice A3 nb c3, .slice A4 mb c4] 53)
  have hb12 := hb1.trans (hb2.mono hb1.size)
  have VA : Hid (Nv ((W.alloc (.cells #[.bool n.leaf, .slice A1 na c1, .slice A2 ma c2] 53)).alloc (.cells #[.bool m.leaf, .slice A3 nb c3, .slice A4 mb c4] 53)) W.heap.size (.slice A1 na c1) (.slice A2 ma c2) n) := VA0.on hb2
  have VB : Hid (Nv ((W.alloc (.cells #[.bool n.leaf, .slice A1 na c1, .slice A2 ma c2] 53)).alloc (.cells #[.bool m.leaf, .slice A3 nb c3, .slice A4 mb c4] 53)) (W.heap.size + 1) (.slice A3 nb c3) (.slice A4 mb c4) m) := ⟨heap_alloc_new2 W _ _, (h3.on hb12).more hb12.size, (h4.on hb12).more hb12.size⟩
  have HB := Lib.hid hb12
  clear h1 h2 h3 h4 hna hma hnb hmb hb1 hb2 hb12 VA0
  go_enter Try.func11, Try.ntmps11
  generalize hW0 : ((W.alloc (.cells #[.bool n.leaf, .slice A1 na c1, .slice A2 ma c2] 53)).alloc (.cells #[.bool m.leaf, .slice A3 nb c3, .slice A4 mb c4] 53)) = W0 at *
  obtain ⟨q0, q1, q2, -⟩ := cells3 VA.out.1
  go_wp2_with fail
  clear q0 q1 q2 hW0
  refine (all_mf W0 _ _ n VA.out.at (Nat.le_refl _)).mono ?_
  rintro e w1 ⟨b1, h⟩
  have HS0 : Hid (W.heap.size ≤ W0.heap.size) := HB.out.size
  replace VA := Lib.hid (VA.out.on b1)
  replace VB := Lib.hid (VB.out.on b1)
  replace HB := Lib.hid (HB.out.trans (b1.mono HB.out.size))
  obtain ⟨q0, q1, q2, -⟩ := cells3 VA.out.1
  obtain ⟨r0, r1, r2, -⟩ := cells3 VB.out.1
  rcases h with ⟨hr, rfl⟩ | ⟨hr, mx, rfl, hmx, hm⟩
  · clear b1 hr
    go_wp2_with fail
    clear q0 q1 q2 r0 r1 r2
    refine (all_mf w1 _ _ m VB.out.at (Nat.le_refl _)).mono ?_
    rintro e w2 ⟨b2, h⟩
    replace HB := Lib.hid (HB.out.trans (b2.mono HB.out.size))
    rcases h with ⟨hr, rfl⟩ | ⟨hr, my, rfl, hmy, hm⟩
    all_goals (
      clear b2
      go_wp2_with fail
      refine (awake12 w2).mono ?_
      rintro e wz ⟨rfl, bz⟩
      have BZ := Lib.hid bz
      clear bz
      go_wp2_with fail
      go_ret
      exact ⟨rfl, HB.out.trans (BZ.out.mono HB.out.size)⟩)
  · have HRn := Lib.hid hr
    have HMX : Hid (W.heap.size ≤ mx ∧ mx < w1.heap.size) := ⟨Nat.le_trans HS0.out hmx, hm.lt⟩
    rw [← HLe.out.1] at hm
    have MX := Lib.hid hm
    clear b1 hr hm hmx HS0
    go_wp2_with fail
    clear q0 q1 q2 r0 r1 r2
    refine (all_mf w1 _ _ m VB.out.at (Nat.le_refl _)).mono ?_
    rintro e w2 ⟨b2, h⟩
    replace VA := Lib.hid (VA.out.on b2)
    replace VB := Lib.hid (VB.out.on b2)
    replace HB := Lib.hid (HB.out.trans (b2.mono HB.out.size))
    replace MX := Lib.hid (MX.out.on b2)
    rcases h with ⟨hr, rfl⟩ | ⟨hr, my, rfl, hmy, hm⟩
    · clear b2 hr
      go_wp2_with fail
      refine (awake12 w2).mono ?_
      rintro e wz ⟨rfl, bz⟩
      have BZ := Lib.hid bz
      clear bz
      go_wp2_with fail
      go_ret
      exact ⟨rfl, HB.out.trans (BZ.out.mono HB.out.size)⟩
    · have HRm := Lib.hid hr
      have HMY : Hid (my ≠ mx ∧ W.heap.size ≤ my) := by have := HMX.out; have := HB.out.size; show _ ∧ _; omega
      rw [← HLe.out.2.2.1] at hm
      have MY := Lib.hid hm
      clear b2 hr hm hmy
      obtain ⟨q0, q1, q2, -⟩ := cells3 VA.out.1
      obtain ⟨r0, r1, r2, -⟩ := cells3 VB.out.1
      by_cases hleaf : n.leaf = m.leaf
      case neg =>
        have hne : (n.leaf == m.leaf) = false := by simpa using hleaf
        have hne2 : (n.leaf != m.leaf) = true := by simp [bne, hne]
        go_wp2_with fail
        clear q0 q1 q2 r0 r1 r2 hne hne2
        refine (awake12 w2).mono ?_
        rintro e wz ⟨rfl, bz⟩
        have BZ := Lib.hid bz
        clear bz
        go_wp2_with fail
        go_ret
        exact ⟨rfl, HB.out.trans (BZ.out.mono HB.out.size)⟩
      rw [← hleaf] at r0
      have Hleaf := Lib.hid hleaf
      clear hleaf
      have HL : Hid (n.ks.length ≤ 5000 ∧ n.vs.length ≤ 5000 ∧ m.ks.length ≤ 5000 ∧ m.vs.length ≤ 5000) := by
        have h1 := rt_len HRn.out
        have h2 := rt_len HRm.out
        show _ ∧ _
        omega
      have H7 : Hid (na ≤ 7 ∧ nb ≤ 7) := by
        have h1 := rt_len HRn.out
        have h2 := rt_len HRm.out
        have := HLe.out
        show _ ∧ _
        omega
      have Okn : Hid (Ok 20 n) := ⟨VA.out.2.1.2, VA.out.2.2.2, by have := rt_len HRn.out; omega, by have := rt_len HRn.out; omega⟩
      have Okm : Hid (Ok 20 m) := ⟨VB.out.2.1.2, VB.out.2.2.2, by have := rt_len HRm.out; omega, by have := rt_len HRm.out; omega⟩
      go_wp2_with fail
      have z0 := cell_regrown q0
      have z1 := cell_regrown q1
      have z2 := cell_regrown q2
      have z3 := cell_regrown r0
      have z4 := cell_regrown r1
      have z5 := cell_regrown r2
      clear q0 q1 q2 r0 r1 r2
      obtain ⟨ap, hap⟩ : ∃ b, b = apart n m := ⟨_, rfl⟩
      have Hap := Lib.hid hap
      clear hap
      go_upto_region 5 with fail
      go_cut [73] from 49 to 72 (fun bx wx => bx = .bool ap ∧ Below w2.heap.size w2 wx)
      case first =>
        by_cases hna0 : na = 0
        case pos =>
          have Hap0 : Hid (ap = false) := by
            have hk0 : n.ks = [] := List.eq_nil_of_length_eq_zero (by have := HLe.out; omega)
            show _ = _
            rw [Hap.out]
            simp [apart, hk0]
          subst hna0
          refine wp_region_quiet_below (by kernel_rfl) (by kernel_rfl) ?_
          repeat (go_big_quiet_step (fail))
          refine wpQuiet_nil ?_
          intro _ hw'
          obtain ⟨⟨dq, osq⟩, hw''⟩ := hw'
          subst hw''
          go_wp2_with fail
          go_meet
          exact ⟨by rw [Hap0.out], below_regrown w2 dq osq⟩
        have hk0' : (0 : Int) < na := by omega
        have hk0n : 0 < na := by omega
        by_cases hnb0 : nb = 0
        case pos =>
          have Hap0 : Hid (ap = false) := by
            have hk0 : m.ks = [] := List.eq_nil_of_length_eq_zero (by have := HLe.out; omega)
            show _ = _
            rw [Hap.out]
            simp [apart, hk0]
          subst hnb0
          clear hna0
          refine wp_region_quiet_below (by kernel_rfl) (by kernel_rfl) ?_
          repeat (go_big_quiet_step (fail))
          refine wpQuiet_nil ?_
          intro _ hw'
          obtain ⟨⟨dq, osq⟩, hw''⟩ := hw'
          subst hw''
          go_wp2_with fail
          go_meet
          exact ⟨by rw [Hap0.out], below_regrown w2 dq osq⟩
        have hk1' : (0 : Int) < nb := by omega
        have hk2' : 0 < nb := by omega
        obtain ⟨p, hp⟩ : ∃ p, p = na - 1 := ⟨_, rfl⟩
        have Hp : Hid (na = p + 1) := by show _ = _; omega
        have hpw : IntKind.i64.wrap ((na : Int) - 1) = (p : Int) := by have := Hp.out; have := H7.out; rw [IntKind.wrap_i64]; omega
        have hpw2 : RowKit.wrap64 ((na : Int) - 1) = (p : Int) := by have := Hp.out; have := H7.out; unfold RowKit.wrap64; omega
        have hkm : (p : Int) < na := by have := Hp.out; omega
        have hkm3 : p < na := by omega
        obtain ⟨_, bk, ok, hA1, _, hcell⟩ := VA.out.2.1.row (by have := Hp.out; omega)
        subst hA1
        obtain ⟨_, bk2, ok2, hA3, _, hcell2⟩ := VB.out.2.1.row hk2'
        subst hA3
        obtain ⟨ea, hea⟩ : ∃ e, e = n.ks.getLastD 0 := ⟨_, rfl⟩
        obtain ⟨eb, heb⟩ : ∃ e, e = m.ks.headD 0 := ⟨_, rfl⟩
        have hca := hcell p (by have := HLe.out; omega)
        have hcb := hcell2 0 (by have := HLe.out; omega)
        rw [show n.ks[p]'(by have := HLe.out; omega) = ea by
          rw [hea, getLastD_get (by have := HLe.out; omega)]; congr 1; have := HLe.out; omega] at hca
        rw [show m.ks[0]'(by have := HLe.out; omega) = eb by
          rw [heb, headD_get (by have := HLe.out; omega)], Nat.add_zero] at hcb
        have z6 := cell_regrown hca
        have z7 := cell_regrown hcb
        have HAp : Hid (ap = decide (eb ≤ ea)) := by
          have h1 : n.ks ≠ [] := fun h => by have := HLe.out; rw [h] at this; simp at this; omega
          have h2 : m.ks ≠ [] := fun h => by have := HLe.out; rw [h] at this; simp at this; omega
          show _ = _
          rw [Hap.out, hea, heb]
          simp [apart, h1, h2]
        clear hcell hcell2 hca hcb hea heb hp hna0 hnb0
        by_cases hge : eb ≤ ea
        all_goals (
          refine wp_region_quiet_below (by kernel_rfl) (by kernel_rfl) ?_
          repeat (go_big_quiet_step (fail))
          refine wpQuiet_nil ?_
          intro _ hw'
          obtain ⟨⟨dq, osq⟩, hw''⟩ := hw'
          subst hw''
          go_wp2_with fail
          go_meet
          exact ⟨by rw [HAp.out]; simp [hge], below_regrown w2 dq osq⟩)
      case rest =>
        obtain ⟨rfl, hb3⟩ := hcut
        obtain ⟨w3, hw3⟩ : ∃ w3, w3 = wc := ⟨_, rfl⟩
        rw [← hw3] at hb3 ⊢
        clear hw3 z0 z1 z2 z3 z4 z5
        replace VA := Lib.hid (VA.out.on hb3)
        replace VB := Lib.hid (VB.out.on hb3)
        replace HB := Lib.hid (HB.out.trans (hb3.mono HB.out.size))
        replace MX := Lib.hid (MX.out.on hb3)
        replace MY := Lib.hid (MY.out.on hb3)
        clear hb3
        obtain ⟨q0, q1, q2, -⟩ := cells3 VA.out.1
        obtain ⟨r0, r1, r2, -⟩ := cells3 VB.out.1
        cases ap
        case true =>
          have HJ : Hid (joinS n m = ([], 30)) := joinS_no (by simp [joinOk, ← Hap.out])
          go_wp2_with fail
          clear q0 q1 q2 r0 r1 r2
          refine (join_any w3 w3.heap.size _ _ n m VA.out.at VB.out.at (Nat.le_refl _) HL.out).mono ?_
          rintro e w4 ⟨lv, rfl, hN, b4⟩
          rw [HJ.out] at hN ⊢
          have hN2 : lv = .slice none 0 0 := hN
          subst hN2
          replace HB := Lib.hid (HB.out.trans (b4.mono HB.out.size))
          clear b4 hN
          go_wp2_with fail
          refine (awake12 w4).mono ?_
          rintro e wz ⟨rfl, bz⟩
          have BZ := Lib.hid bz
          clear bz
          go_wp2_with fail
          go_ret
          exact ⟨rfl, HB.out.trans (BZ.out.mono HB.out.size)⟩
        case false =>
          obtain ⟨l, hJ, hJL⟩ := joinL HRn.out HRm.out Hleaf.out Hap.out.symm
          have HJ := Lib.hid hJ
          have HJL := Lib.hid hJL
          clear hJ hJL
          go_wp2_with fail
          clear q0 q1 q2 r0 r1 r2
          refine (join_any w3 w3.heap.size _ _ n m VA.out.at VB.out.at (Nat.le_refl _) HL.out).mono ?_
          rintro e w4 ⟨lv, rfl, hN, b4⟩
          rw [HJ.out] at hN ⊢
          have OkL := Lib.hid (ok_join Okn.out Okm.out HJ.out)
          obtain ⟨Aj, rfl, hj, -⟩ := nds_at hN (fun x hx => ⟨(OkL.out x hx).1, (OkL.out x hx).2.1⟩)
          have J := Lib.hid hj
          replace VA := Lib.hid (VA.out.on b4)
          replace HB := Lib.hid (HB.out.trans (b4.mono HB.out.size))
          replace MX := Lib.hid (MX.out.on b4)
          replace MY := Lib.hid (MY.out.on b4)
          clear b4 hN hj VB OkL
          obtain ⟨L, hL⟩ : ∃ L, L = l.length := ⟨_, rfl⟩
          rw [← hL]
          have HLL : Hid (L = l.length ∧ L ≤ 2) := ⟨hL, by rw [hL]; exact HJL.out.le⟩
          obtain ⟨qq, hqq⟩ : ∃ q : Nat, L = q + 1 := ⟨L - 1, by have := HJL.out.len; rw [← hL] at this; have h3 : (0 : Int) ≤ ((n.ks.length : Int) + m.ks.length).tdiv 8 := Int.tdiv_nonneg (by omega) (by omega); omega⟩
          have Hqq : Hid (L = qq + 1 ∧ ((na : Int) + nb).tdiv 8 = (qq : Int)) := by
            have h1 := HJL.out.len
            rw [← hL] at h1
            have h2 := HLe.out
            rw [← h2.1, ← h2.2.2.1] at h1
            exact ⟨hqq, by omega⟩
          clear hL hqq
          have hx1 : IntKind.i64.wrap ((na : Int) + nb) = (na : Int) + nb := by have := H7.out; rw [IntKind.wrap_i64]; omega
          have hx2 : RowKit.wrap64 ((na : Int) + nb) = (na : Int) + nb := by have := H7.out; unfold RowKit.wrap64; omega
          have hx3 : IntKind.i64.wrap (((na : Int) + nb).tdiv 8) = (qq : Int) := by rw [Hqq.out.2]; have := HLL.out; have := Hqq.out; rw [IntKind.wrap_i64]; omega
          have hx4 : RowKit.wrap64 (((na : Int) + nb).tdiv 8) = (qq : Int) := by rw [Hqq.out.2]; have := HLL.out; have := Hqq.out; unfold RowKit.wrap64; omega
          have hx5 : IntKind.i64.wrap (1 + (qq : Int)) = (L : Int) := by have := HLL.out; have := Hqq.out; rw [IntKind.wrap_i64]; omega
          have hx6 : RowKit.wrap64 (1 + (qq : Int)) = (L : Int) := by have := HLL.out; have := Hqq.out; unfold RowKit.wrap64; omega
          have hla := fun ty => MX.out.len ty
          have hlb := fun ty => MY.out.len ty
          obtain ⟨D, hown, hsz, hD⟩ := MY.out
          have Hown := Lib.hid hown
          have HD := Lib.hid hD
          have Hsz := Lib.hid hsz
          clear hown hD hsz MY
          go_wp2_with (first | (at_range; refine wpList_range_own _ rfl _ 71 rfl 23 23 kU64 Try.underlying71 _ my nb D rfl Hown.out ?_; intro w5 hrg5 hg5 hs5))
          try go_frame
          have MG := Lib.hid (Merge.start MX.out HD.out hrg5 hg5 HMY.out.1)
          clear hrg5 hg5 hs5 hla hlb hx1 hx2 hx3 hx4 hx5 hx6 Hown
          go_loopw [14] (fun _ wr => ∃ left cnt f' s', Hid (Merge w4 wr mx my w4.heap.size nb (na + Maps.size D) D (nf n) (nf m) left cnt f' s')) (fun _ wr => wr.rangeLeft my w4.heap.size)
          case atStart => exact ⟨_, _, _, _, MG⟩
          case round =>
            clear MG
            obtain ⟨left, cnt, f', s', hM⟩ := hrel
            have HM := Lib.hid hM.out
            clear hM
            go_wp2_with (first | (at_next; refine wpList_next_ranges_ii _ rfl _ rfl 23 23 .u64 .u64 kU64 Try.underlying23 Try.underlying23 my w4.heap.size nb D _ _ rfl HM.out.rg ?_ ?_))
            case' refine_2 =>
              intro x c w6 cnt1 hwx hwc hlx hat hrg1 hlt hg1 hs1 hen
              have Hx : Hid (IsU64 x ∧ IsU64 c ∧ nf m x = some c) := ⟨u64_wf hwx, u64_wf hwc, Merge.val HD.out (u64_wf hwx) hat⟩
              have N1 := Lib.hid (HM.out.next hrg1 hg1)
              have Hrg := Lib.hid hrg1
              have Hlt := Lib.hid hlt
              have Hg1 := Lib.hid hg1
              have Hs : Hid (s' ≤ 100000) := by have := HM.out.sz; have := H7.out; have := Hsz.out; show _ ≤ _; omega
              clear hwx hwc hlx hat hrg1 hlt hg1 hs1
              go_wp2_with (first | ((with_reducible refine wl_store (m := mx) N1.out.1 ?_ x c Hx.out.1 Hx.out.2.1 ?_ ?_ ?_ ?_); go_must ((· exact Hs.out); (· rfl); (· rfl); (· rfl); intro w7 hm7 hg7; have HM7 := Lib.hid (HM.out.step Hx.out.1 Hx.out.2.2 Hrg.out Hlt.out Hg1.out hm7 hg7); clear hm7 hg7; (try simp only [Act.put]))))
              go_roundw
              case rel => exact ⟨_, _, _, _, HM7⟩
              case measure => rw [HM7.out.rg.left_eq, HM.out.rg.left_eq]; exact Hlt.out
            intro _ hl
            have hdone := HM.out.done hl
            have VA5 := Lib.hid (VA.out.turned MX.out hdone HM.out.gr)
            have J5 := Lib.hid (J.out.turned MX.out hdone HM.out.gr)
            have HB5 := Lib.hid (HB.out.grown HM.out.gr HB.out.size (fun j hj => by cases hj; exact HMX.out.1))
            have Hs7 : Hid (s' ≤ 14) := by have := HM.out.sz; have := H7.out; have := Hsz.out; show _ ≤ _; omega
            have M5 := Lib.hid hdone
            clear hdone hl HM VA J HB MX HD Hsz
            have ST0 : Hid (JSt W (wr.alloc (.map #[] 0)) (.slice A1 na c1) (.slice A2 ma c2) n Aj l mx wr.heap.size s' 0 0 (funion (nf n) (nf m))) := ⟨VA5.out.on (bel1 _ _), J5.out.on (bel1 _ _), M5.out.on (bel1 _ _), MF.made wr, Nat.le_refl _, HB5.out.trans ((bel1 _ _).mono HB5.out.size)⟩
            obtain ⟨ms, hms⟩ : ∃ g, g = wr.heap.size := ⟨_, rfl⟩
            have HMS : Hid (mx ≠ ms ∧ W.heap.size ≤ ms) := by
              have h1 := M5.out.lt
              have h2 := HB5.out.size
              show _ ∧ _
              omega
            have Hms := Lib.hid hms
            have hmm := @run_makeMap Try.prog
            clear VA5 J5 M5 HB5 hms
            go_wp2_with fail
            rw [← Hms.out] at ST0 ⊢
            clear Hms hmm
            generalize wr.alloc (.map #[] 0) = w8 at *
            go_loopw [17, 124] (fun last i wq => ∃ k sS, k ≤ L ∧ i = .int .i64 (k : Nat) ∧ last = .int .u64 (lastK (l.take k)) ∧ Hid (JSt W wq (.slice A1 na c1) (.slice A2 ma c2) n Aj l mx ms s' k sS (funion (nf n) (nf m)))) (fun _ i _ => L - (intOf i).toNat)
            case atStart => exact ⟨0, 0, Nat.zero_le _, rfl, rfl, ST0⟩
            case round =>
              clear ST0
              clear w8
              obtain ⟨k, sS, hk, rfl, rfl, hst⟩ := hrel
              have ST := Lib.hid hst.out
              clear hst
              by_cases hlt : k < L
              · have Hlt : Hid (k < l.length ∧ k < L) := by have := HLL.out; show _ ∧ _; omega
                have hk2 : (k : Int) ≤ 2 := by have := HLL.out; omega
                have hk0 : (0 : Int) ≤ (k : Int) := by omega
                have hkn : (k : Int) < L := by omega
                obtain ⟨g, B1, m1, d1, B2, m2, d2, hA, hg, e0, e1, e2, u1, u2⟩ := ST.out.nj k Hlt.out.1
                subst hA
                obtain ⟨x, hx⟩ : ∃ x, x = l[k]'Hlt.out.1 := ⟨_, rfl⟩
                have hrx := HJL.out.rt k Hlt.out.1
                rw [← hx] at e0 u1 u2 hrx
                have Hx := Lib.hid hx
                have Hrx := Lib.hid hrx
                have hbA := bel1 wr (.cells #[.bool x.leaf, .slice B1 m1 d1, .slice B2 m2 d2] 53)
                have V19 : Hid (Nv (wr.alloc (.cells #[.bool x.leaf, .slice B1 m1 d1, .slice B2 m2 d2] 53)) wr.heap.size (.slice B1 m1 d1) (.slice B2 m2 d2) x) := ⟨heap_alloc_new wr _, UsN.on u1 hbA, UsN.on u2 hbA⟩
                replace ST := Lib.hid (ST.out.on hbA)
                clear u1 u2 hg hx hrx hbA hlt hk
                generalize hW : wr.alloc (.cells #[.bool x.leaf, .slice B1 m1 d1, .slice B2 m2 d2] 53) = W9 at *
                obtain ⟨r0, r1, r2, -⟩ := cells3 V19.out.1
                go_wp2_with fail
                clear e0 e1 e2 hW r0 r1 r2
                refine (all_mf W9 _ _ x V19.out.at (Nat.le_refl _)).mono ?_
                rintro e w10 ⟨b10, h⟩
                have HZ0 : Hid (ms < W9.heap.size ∧ mx < W9.heap.size) := ⟨ST.out.s.lt, ST.out.x.lt⟩
                replace ST := Lib.hid (ST.out.on b10)
                replace V19 := Lib.hid (V19.out.on b10)
                rcases h with ⟨hr, -⟩ | ⟨-, mz, rfl, hmz, hz⟩
                · exact absurd Hrx.out.1 (by rw [hr]; decide)
                have HZ : Hid (mz ≠ ms) := by have := HZ0.out; show _ ≠ _; omega
                have Hm1 : Hid (x.ks.length = m1 ∧ m1 ≤ 7) := by
                  have h1 := V19.out.2.1.len
                  have h2 := rt_len Hrx.out.1
                  exact ⟨h1, by omega⟩
                rw [Hm1.out.1] at hz
                obtain ⟨D2, hown, hsz, hD⟩ := hz
                have Hown := Lib.hid hown
                have HD := Lib.hid hD
                have Hsz := Lib.hid hsz
                clear hown hD hsz hmz b10 HZ0
                obtain ⟨q0, -, -, -⟩ := cells3 ST.out.va.1
                obtain ⟨r0, r1, r2, -⟩ := cells3 V19.out.1
                rw [Hrx.out.2] at r0
                obtain ⟨lk, hlk⟩ : ∃ z, z = lastK (l.take k) := ⟨_, rfl⟩
                have Hord := Lib.hid (HJL.out.ord' Hlt.out.1 Hx.out)
                rw [← hlk] at Hord ⊢
                have Hlk := Lib.hid hlk
                clear hlk
                rcases Nat.eq_zero_or_pos k with hkz | hkz
                · have hnk : ¬ (0 : Int) < (k : Int) := by omega
                  have hnk' : ¬ 0 < k := by omega
                  clear hkz
                  go_wp2_with (first | (at_range; refine wpList_range_own _ rfl _ 71 rfl 23 23 kU64 Try.underlying71 _ mz m1 D2 rfl Hown.out ?_; intro w11 hrg hg hs))
                  try go_frame
                  have MG := Lib.hid (Merge.start ST.out.s HD.out hrg hg HZ.out)
                  clear hrg hg hs q0 r0 r1 r2
                  go_loopw [22] (fun _ wr => ∃ left cnt f' s', Hid (Merge w10 wr ms mz w10.heap.size m1 (sS + Maps.size D2) D2 (seenF (l.take k)) (nf x) left cnt f' s')) (fun _ wr => wr.rangeLeft mz w10.heap.size)
                  case atStart => exact ⟨_, _, _, _, MG⟩
                  case round =>
                    clear MG
                    obtain ⟨left, cnt, f', s2, hM⟩ := hrel
                    have HM := Lib.hid hM.out
                    clear hM
                    go_wp2_with (first | (at_next; refine wpList_next_ranges_ii _ rfl _ rfl 23 23 .u64 .u64 kU64 Try.underlying23 Try.underlying23 mz w10.heap.size m1 D2 _ _ rfl HM.out.rg ?_ ?_))
                    case' refine_2 =>
                      intro y c w6 cnt1 hwx hwc hlx hat hrg1 hlt hg1 hs1 hen
                      have Hy : Hid (IsU64 y ∧ IsU64 c ∧ nf x y = some c) := ⟨u64_wf hwx, u64_wf hwc, Merge.val HD.out (u64_wf hwx) hat⟩
                      have N1 := Lib.hid (HM.out.next hrg1 hg1)
                      have Hrg := Lib.hid hrg1
                      have Hlt1 := Lib.hid hlt
                      have Hg1 := Lib.hid hg1
                      have Hs : Hid (s2 ≤ 100000) := by have := HM.out.sz; have := Hm1.out; have := Hsz.out; have := ST.out.le; have := HLL.out; have := Hlt.out; show _ ≤ _; omega
                      clear hwx hwc hlx hat hrg1 hlt hg1 hs1
                      go_wp2_with (first | ((with_reducible refine wl_store (m := ms) N1.out.1 ?_ y c Hy.out.1 Hy.out.2.1 ?_ ?_ ?_ ?_); go_must ((· exact Hs.out); (· rfl); (· rfl); (· rfl); intro w7 hm7 hg7; have HM7 := Lib.hid (HM.out.step Hy.out.1 Hy.out.2.2 Hrg.out Hlt1.out Hg1.out hm7 hg7); clear hm7 hg7; (try simp only [Act.put]))))
                      go_roundw
                      case rel => exact ⟨_, _, _, _, HM7⟩
                      case measure => rw [HM7.out.rg.left_eq, HM.out.rg.left_eq]; exact Hlt1.out
                    intro _ hl
                    have hdone := HM.out.done hl
                    have V20 := Lib.hid (V19.out.turned ST.out.s hdone HM.out.gr)
                    have ST5 := Lib.hid (ST.out.turned Hlt.out.1 (by rw [← Hx.out]; exact hdone) HM.out.gr (by have := HM.out.sz; have := Hm1.out; have := Hsz.out; have := ST.out.le; omega) HMS.out.1 HMS.out.2)
                    have HLs := Lib.hid (lastK_succ Hlt.out.1)
                    rw [← Hx.out, ← Hlk.out, Hm1.out.1] at HLs
                    clear hdone hl HM ST V19 HD Hsz Hown
                    obtain ⟨r0, r1, r2, -⟩ := cells3 V20.out.1
                    by_cases hm0 : m1 = 0
                    · have hmi : ¬ (0 : Int) < (m1 : Int) := by omega
                      have hmi2 : ¬ 0 < m1 := by omega
                      have HLs2 : Hid (lastK (l.take (k + 1)) = lk) := by show _ = _; rw [HLs.out, if_pos hm0]
                      go_wp2_with fail
                      go_roundw
                      case rel => exact ⟨k + 1, _, Hlt.out.2, by go_num, by rw [HLs2.out], ST5⟩
                      case measure => have := Hlt.out.2; simp [intOf]; omega
                    · have hmi : (0 : Int) < (m1 : Int) := by omega
                      have hmi2 : 0 < m1 := by omega
                      obtain ⟨p, hp⟩ : ∃ p, p = m1 - 1 := ⟨_, rfl⟩
                      have Hp : Hid (m1 = p + 1) := by show _ = _; omega
                      have hpw : IntKind.i64.wrap ((m1 : Int) - 1) = (p : Int) := by have := Hp.out; have := Hm1.out; rw [IntKind.wrap_i64]; omega
                      have hpw2 : RowKit.wrap64 ((m1 : Int) - 1) = (p : Int) := by have := Hp.out; have := Hm1.out; unfold RowKit.wrap64; omega
                      have hkm : (p : Int) < m1 := by have := Hp.out; omega
                      have hkm3 : p < m1 := by omega
                      obtain ⟨_, bq, oq, hBq, _, hcell⟩ := V20.out.2.1.row hmi2
                      cases hBq
                      obtain ⟨ea, hea⟩ : ∃ e, e = x.ks.getLastD 0 := ⟨_, rfl⟩
                      have hca := hcell p (by have := Hm1.out; omega)
                      rw [show x.ks[p]'(by have := Hm1.out; omega) = ea by
                        rw [hea, getLastD_get (by have := Hm1.out; omega)]; congr 1; have := Hm1.out; omega] at hca
                      have HLs2 : Hid (lastK (l.take (k + 1)) = ea) := by show _ = _; rw [HLs.out, if_neg hm0, hea]
                      clear hcell hea hp
                      go_wp2_with fail
                      go_roundw
                      case rel => exact ⟨k + 1, _, Hlt.out.2, by go_num, by rw [HLs2.out], ST5⟩
                      case measure => have := Hlt.out.2; simp [intOf]; omega
                · have hpk : (0 : Int) < (k : Int) := by omega
                  have hm1p : 0 < m1 := by have := (Hord.out hkz).1; have := Hm1.out; omega
                  have hm1i : (0 : Int) < (m1 : Int) := by omega
                  have hm1n : ¬ (m1 : Int) = 0 := by omega
                  have hm1z : ¬ m1 = 0 := by omega
                  have hm1b : ((m1 : Int) == 0) = false := by simpa using hm1z
                  obtain ⟨_, bk, ok, hB1, _, hcell⟩ := V19.out.2.1.row hm1p
                  subst hB1
                  have hc0 := hcell 0 (by have := Hm1.out; omega)
                  obtain ⟨y0, hy0⟩ : ∃ e, e = x.ks.headD 0 := ⟨_, rfl⟩
                  rw [show x.ks[0]'(by have := Hm1.out; omega) = y0 by
                    rw [hy0, headD_get (by have := Hm1.out; omega)], Nat.add_zero] at hc0
                  have hnle : ¬ (y0 ≤ lk) := by have := (Hord.out hkz).2; rw [← hy0] at this; omega
                  clear hcell hy0
                  go_wp2_with (first | (at_range; refine wpList_range_own _ rfl _ 71 rfl 23 23 kU64 Try.underlying71 _ mz m1 D2 rfl Hown.out ?_; intro w11 hrg hg hs))
                  clear hm1p hm1i hm1n hm1z hm1b hc0 hnle hpk hkz
                  try go_frame
                  have MG := Lib.hid (Merge.start ST.out.s HD.out hrg hg HZ.out)
                  clear hrg hg hs q0 r0 r1 r2
                  go_loopw [22] (fun _ wr => ∃ left cnt f' s', Hid (Merge w10 wr ms mz w10.heap.size m1 (sS + Maps.size D2) D2 (seenF (l.take k)) (nf x) left cnt f' s')) (fun _ wr => wr.rangeLeft mz w10.heap.size)
                  case atStart => exact ⟨_, _, _, _, MG⟩
                  case round =>
                    clear MG
                    obtain ⟨left, cnt, f', s2, hM⟩ := hrel
                    have HM := Lib.hid hM.out
                    clear hM
                    go_wp2_with (first | (at_next; refine wpList_next_ranges_ii _ rfl _ rfl 23 23 .u64 .u64 kU64 Try.underlying23 Try.underlying23 mz w10.heap.size m1 D2 _ _ rfl HM.out.rg ?_ ?_))
                    case' refine_2 =>
                      intro y c w6 cnt1 hwx hwc hlx hat hrg1 hlt hg1 hs1 hen
                      have Hy : Hid (IsU64 y ∧ IsU64 c ∧ nf x y = some c) := ⟨u64_wf hwx, u64_wf hwc, Merge.val HD.out (u64_wf hwx) hat⟩
                      have N1 := Lib.hid (HM.out.next hrg1 hg1)
                      have Hrg := Lib.hid hrg1
                      have Hlt1 := Lib.hid hlt
                      have Hg1 := Lib.hid hg1
                      have Hs : Hid (s2 ≤ 100000) := by have := HM.out.sz; have := Hm1.out; have := Hsz.out; have := ST.out.le; have := HLL.out; have := Hlt.out; show _ ≤ _; omega
                      clear hwx hwc hlx hat hrg1 hlt hg1 hs1
                      go_wp2_with (first | ((with_reducible refine wl_store (m := ms) N1.out.1 ?_ y c Hy.out.1 Hy.out.2.1 ?_ ?_ ?_ ?_); go_must ((· exact Hs.out); (· rfl); (· rfl); (· rfl); intro w7 hm7 hg7; have HM7 := Lib.hid (HM.out.step Hy.out.1 Hy.out.2.2 Hrg.out Hlt1.out Hg1.out hm7 hg7); clear hm7 hg7; (try simp only [Act.put]))))
                      go_roundw
                      case rel => exact ⟨_, _, _, _, HM7⟩
                      case measure => rw [HM7.out.rg.left_eq, HM.out.rg.left_eq]; exact Hlt1.out
                    intro _ hl
                    have hdone := HM.out.done hl
                    have V20 := Lib.hid (V19.out.turned ST.out.s hdone HM.out.gr)
                    have ST5 := Lib.hid (ST.out.turned Hlt.out.1 (by rw [← Hx.out]; exact hdone) HM.out.gr (by have := HM.out.sz; have := Hm1.out; have := Hsz.out; have := ST.out.le; omega) HMS.out.1 HMS.out.2)
                    have HLs := Lib.hid (lastK_succ Hlt.out.1)
                    rw [← Hx.out, ← Hlk.out, Hm1.out.1] at HLs
                    clear hdone hl HM ST V19 HD Hsz Hown
                    obtain ⟨r0, r1, r2, -⟩ := cells3 V20.out.1
                    by_cases hm0 : m1 = 0
                    · have hmi : ¬ (0 : Int) < (m1 : Int) := by omega
                      have hmi2 : ¬ 0 < m1 := by omega
                      have HLs2 : Hid (lastK (l.take (k + 1)) = lk) := by show _ = _; rw [HLs.out, if_pos hm0]
                      go_wp2_with fail
                      go_roundw
                      case rel => exact ⟨k + 1, _, Hlt.out.2, by go_num, by rw [HLs2.out], ST5⟩
                      case measure => have := Hlt.out.2; simp [intOf]; omega
                    · have hmi : (0 : Int) < (m1 : Int) := by omega
                      have hmi2 : 0 < m1 := by omega
                      obtain ⟨p, hp⟩ : ∃ p, p = m1 - 1 := ⟨_, rfl⟩
                      have Hp : Hid (m1 = p + 1) := by show _ = _; omega
                      have hpw : IntKind.i64.wrap ((m1 : Int) - 1) = (p : Int) := by have := Hp.out; have := Hm1.out; rw [IntKind.wrap_i64]; omega
                      have hpw2 : RowKit.wrap64 ((m1 : Int) - 1) = (p : Int) := by have := Hp.out; have := Hm1.out; unfold RowKit.wrap64; omega
                      have hkm : (p : Int) < m1 := by have := Hp.out; omega
                      have hkm3 : p < m1 := by omega
                      obtain ⟨_, bq, oq, hBq, _, hcell⟩ := V20.out.2.1.row hmi2
                      cases hBq
                      obtain ⟨ea, hea⟩ : ∃ e, e = x.ks.getLastD 0 := ⟨_, rfl⟩
                      have hca := hcell p (by have := Hm1.out; omega)
                      rw [show x.ks[p]'(by have := Hm1.out; omega) = ea by
                        rw [hea, getLastD_get (by have := Hm1.out; omega)]; congr 1; have := Hm1.out; omega] at hca
                      have HLs2 : Hid (lastK (l.take (k + 1)) = ea) := by show _ = _; rw [HLs.out, if_neg hm0, hea]
                      clear hcell hea hp
                      go_wp2_with fail
                      go_roundw
                      case rel => exact ⟨k + 1, _, Hlt.out.2, by go_num, by rw [HLs2.out], ST5⟩
                      case measure => have := Hlt.out.2; simp [intOf]; omega
              · obtain rfl : k = L := by omega
                have hkn : ¬ ((k : Int) < k) := by omega
                have hall : seenF (l.take k) = funion (nf n) (nf m) := by
                  rw [show l.take k = l by rw [HLL.out.1]; exact List.take_length]
                  exact HJL.out.all
                obtain rfl : s' = sS := MF.size_eq ST.out.x (by rw [← hall]; exact ST.out.s)
                have Hall := Lib.hid hall
                clear hall hlt hk
                by_cases hL2 : k = 2
                · have Hl2 : Hid (l.length = 2) := by rw [← HLL.out.1]; exact hL2
                  subst hL2
                  obtain ⟨g, B1, m1, d1, B2, m2, d2, hA, hg, e0, e1, e2, u1, u2⟩ := ST.out.nj 0 (by have := Hl2.out; omega)
                  subst hA
                  obtain ⟨g', B3, m3, d3, B4, m4, d4, hA, hg', f0, f1, f2, u3, u4⟩ := ST.out.nj 1 (by have := Hl2.out; omega)
                  cases hA
                  have hlens : m3 ≤ m1 ∧ m1 ≤ m3 + 1 := by
                    have h1 := Us.len u1
                    have h2 := Us.len u3
                    have h3 := HJL.out.two Hl2.out
                    omega
                  have hm7 : m1 ≤ 7 := by
                    have h1 := Us.len u1
                    have h2 := rt_len (HJL.out.rt 0 (by have := Hl2.out; omega)).1
                    omega
                  obtain ⟨d, hd⟩ : ∃ d : Nat, d = m1 - m3 := ⟨_, rfl⟩
                  have hd1 : ¬ (1 : Int) < d := by omega
                  have hdw : IntKind.i64.wrap ((m1 : Int) - m3) = (d : Int) := by rw [IntKind.wrap_i64]; omega
                  have hdw2 : RowKit.wrap64 ((m1 : Int) - m3) = (d : Int) := by unfold RowKit.wrap64; omega
                  simp only [Nat.zero_mul, Nat.zero_add, Nat.one_mul] at e1 f1
                  clear u1 u2 u3 u4 e0 e2 f0 f2 hg hg' hd hlens hm7
                  go_wp2_with fail
                  have z0 := cell_regrown e1
                  have z1 := cell_regrown f1
                  clear e1 f1
                  refine wp_region_quiet_below (by kernel_rfl) (by kernel_rfl) ?_
                  repeat (go_big_quiet_step (fail))
                  refine wpQuiet_nil ?_
                  intro _ hw'
                  obtain ⟨⟨dq, osq⟩, hw''⟩ := hw'
                  subst hw''
                  clear z0 z1
                  have b12 := below_regrown wr dq osq
                  generalize grow (redrawn wr dq) osq = w12 at *
                  replace ST := Lib.hid (ST.out.on b12)
                  clear b12
                  go_wp2_with fail
                  refine (alike_yes w12 mx ms _ _ _ ST.out.x ST.out.s (fun z c h => by rw [Hall.out]; exact h)).mono ?_
                  rintro e w13 ⟨rfl, b13⟩
                  have B13 := Lib.hid (ST.out.be.trans (b13.mono ST.out.be.size))
                  clear b13
                  go_wp2_with fail
                  refine (awake12 w13).mono ?_
                  rintro e wz ⟨rfl, bz⟩
                  have BZ := Lib.hid bz
                  clear bz
                  go_wp2_with fail
                  go_ret
                  exact ⟨rfl, B13.out.trans (BZ.out.mono B13.out.size)⟩
                · have hL2' : ¬ (k : Int) = 2 := by omega
                  go_wp2_with fail
                  refine (alike_yes wr mx ms _ _ _ ST.out.x ST.out.s (fun z c h => by rw [Hall.out]; exact h)).mono ?_
                  rintro e w13 ⟨rfl, b13⟩
                  have B13 := Lib.hid (ST.out.be.trans (b13.mono ST.out.be.size))
                  clear b13
                  go_wp2_with fail
                  refine (awake12 w13).mono ?_
                  rintro e wz ⟨rfl, bz⟩
                  have BZ := Lib.hid bz
                  clear bz
                  go_wp2_with fail
                  go_ret
                  exact ⟨rfl, B13.out.trans (BZ.out.mono B13.out.size)⟩
end Go.Proofs.Yticdmiomkmaaoaa
