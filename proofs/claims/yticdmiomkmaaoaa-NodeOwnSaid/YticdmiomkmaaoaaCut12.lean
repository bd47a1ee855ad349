/-
  NodeCut: the walk.
-/
import Derived.Test.YticdmiomkmaaoaaPut12
import Derived.Test.YticdmiomkmaaoaaCutMath
import Derived.Deep.Cut
import Derived.Deep.CutRange
namespace Go.Proofs.Yticdmiomkmaaoaa
open Go.RowKit

section
variable {ops : Array Oper} {w : World} {Q : Exit → Act → World → Prop} {a : Act} {rest : List Oper} {dst : Option Tmp} {os ox : Operand} {ty : TypeId} {pos : String} {after : Array Edge} {gd : Option (Nat × Bool)}
/-- append, at an operation whose guard says yes -/
theorem wl_append_og {base : Nat} {v : Value} {xs : List Int} (hw : Region.wanted ⟨dst, .call { callee := .builtin .append, args := #[os, ox], argTypes := #[51, 51] }, ty, pos, after, gd⟩ (yielded ops a.tmps) = true) (hown : OwnU w base v xs) {B : Nat} {vx : Value} {ys : List Int} (hx : Us w B vx ys)
    (hb : xs.length + ys.length ≤ 1000000) (hbase : base ≤ w.heap.size) (hs : a.eval os = v) (hxx : a.eval ox = vx)
    (hK : ∀ A n c w', OwnU w' base (.slice A n c) (xs ++ ys) → w.grownBy w' v.ownBlock → wpList Try.prog ops Q rest (a.put dst (.slice A n c)) w') :
    wpList Try.prog ops Q (⟨dst, .call { callee := .builtin .append, args := #[os, ox], argTypes := #[51, 51] }, ty, pos, after, gd⟩ :: rest) a w := by
  refine BigFrame.wpList_want hw fun K hKK => ?_
  obtain ⟨v', w', hr, h2, h3⟩ := run_append_sl (P := Try.prog) w base 51 ty 23 _ 1 8 Try.underlying51 infoU64 rfl (by omega) v xs.length _ hown vx ys.length _ hx.1 (u64s_one ys) (by unfold maxLen; omega) (by omega) hbase
  have h4 : OwnU w' base v' (xs ++ ys) := by unfold OwnU; rw [List.length_append, List.map_append]; exact h2
  obtain ⟨A, n, c, rfl⟩ := h4.formN
  unfold Oper.wp execOp
  simp only [resolve, invoke, builtin, Sem.run_bind, Sem.run_pure, Result.andThen_ok, List.map_toArray, List.map_cons, List.map_nil, hs, hxx, hr]
  exact hKK _ _ (hK A n c w' h4 h3)
end
theorem UsN.on2 {w w' : World} {v : Value} {xs : List Int} (h : UsN w v xs) (hb : Below w.heap.size w w') : Us w' w'.heap.size v xs := h.on hb
theorem ownU_len {w : World} {base n c : Nat} {A : Option Addr} {xs : List Int} (h : OwnU w base (.slice A n c) xs) : xs.length = n := by
  obtain ⟨A', c', hv⟩ := h.form
  cases hv
  rfl

set_option maxRecDepth 100000 in
set_option maxHeartbeats 4000000 in
theorem cut_no (w : World) (B : Nat) (v : Value) (n : Nd) (lo hi : Int) (hn : NdAt w B v n) (hB : B ≤ w.heap.size) (hno : (Rt n && n.leaf) = false) :
    Calls Try.prog 39 #[v, .int .u64 lo, .int .u64 hi] w fun e w' => ∃ A1 n1 c1 A2 n2 c2, e = .returned (.tuple #[.agg #[.bool false, .slice A1 n1 c1, .slice A2 n2 c2], .slice none 0 0, .int .i64 30]) ∧ NdOf w' w.heap.size Nd0 A1 n1 c1 A2 n2 c2 ∧ Below w.heap.size w w' := by
  obtain ⟨kv, vv, rfl, hk, hv⟩ := hn
  have Hn : Hid (NdAt ((w.alloc (.cells #[.bool n.leaf, kv, vv] 53)).alloc (.cells #[.bool false, .slice none 0 0, .slice none 0 0] 53)) B (.agg #[.bool n.leaf, kv, vv]) n) := ⟨kv, vv, rfl, (hk.alloc hB _).alloc (by simp; omega) _, (hv.alloc hB _).alloc (by simp; omega) _⟩
  have HB := Lib.hid hB
  clear hk hv hB
  obtain ⟨r, hr⟩ : ∃ r, r = Rt n := ⟨_, rfl⟩
  obtain ⟨lf, hlf⟩ : ∃ l, l = n.leaf := ⟨_, rfl⟩
  rw [← hlf] at Hn ⊢
  rw [← hr, ← hlf] at hno
  have Hno := Lib.hid hno
  clear hno hlf
  go_enter Try.func39, Try.ntmps39
  go_wp2_with fail
  refine (right_all _ B _ _ Hn.out (by have := HB.out; simp; omega)).mono ?_
  rintro e w1 ⟨he, b1⟩
  rw [← hr] at he
  subst he
  clear hr
  obtain ⟨⟨c0, c1, c2⟩, hrow, b2, s2⟩ := box33 b1
  have B2 := Lib.hid b2
  have Hrow := Lib.hid hrow
  clear b1 b2 s2 hrow
  obtain ⟨d0, d1, d2, f0, f1, f2⟩ := cells3 Hrow.out
  cases r
  · go_wp2_with fail
    refine bodyPost_ret (ret_cell3 rfl rfl (set3_load Hrow.out)) rfl ?_
    exact ⟨_, _, _, _, _, _, rfl, ⟨ownU_nil _ _, ownU_nil _ _⟩, below_set3 B2.out (Nat.le_succ _)⟩
  · cases lf
    · go_wp2_with fail
      refine bodyPost_ret (ret_cell3 rfl rfl (set3_load Hrow.out)) rfl ?_
      exact ⟨_, _, _, _, _, _, rfl, ⟨ownU_nil _ _, ownU_nil _ _⟩, below_set3 B2.out (Nat.le_succ _)⟩
    · exact absurd Hno.out (by simp)

set_option maxRecDepth 100000 in
set_option maxHeartbeats 4000000 in
theorem nodeCut_walk (W : World) (v : Value) (n : Nd) (hn : NdAt W W.heap.size v n) (a : Int) (ha : IsU64 a) (b : Int) (hb : IsU64 b) (c : Int) (hc : IsU64 c) :
    Calls Try.prog 12 #[v, .int .u64 a, .int .u64 b, .int .u64 c] W fun e W' => e = .returned (.bool true) ∧ Below W.heap.size W W' := by
  obtain ⟨leaf, ks, vs⟩ := n
  obtain ⟨kv, vv, rfl, hk, hv⟩ := hn
  obtain ⟨A1, c1, rfl, -⟩ := hk.form
  obtain ⟨A2, c2, rfl, -⟩ := hv.form
  simp only at hk hv
  obtain ⟨na, hna⟩ : ∃ n, n = ks.length := ⟨_, rfl⟩
  obtain ⟨nb, hnb⟩ : ∃ n, n = vs.length := ⟨_, rfl⟩
  simp only
  rw [← hna] at hk ⊢
  rw [← hnb] at hv ⊢
  have Hna := Lib.hid hna
  have Hnb := Lib.hid hnb
  have Habc : Hid (IsU64 a ∧ IsU64 b ∧ IsU64 c) := ⟨ha, hb, hc⟩
  have V : Hid (Nv (W.alloc (.cells #[.bool leaf, .slice A1 na c1, .slice A2 nb c2] 53)) W.heap.size (.slice A1 na c1) (.slice A2 nb c2) ⟨leaf, ks, vs⟩) := ⟨heap_alloc_new W _, (hk.alloc (Nat.le_refl _) _).more (by simp), (hv.alloc (Nat.le_refl _) _).more (by simp)⟩
  have HB : Hid (Below W.heap.size W (W.alloc (.cells #[.bool leaf, .slice A1 na c1, .slice A2 nb c2] 53))) := bel1 _ _
  clear hk hv hna hnb ha hb hc
  go_enter Try.func12, Try.ntmps12
  go_wp2_with fail
  refine (all_mf _ _ _ ⟨leaf, ks, vs⟩ V.out.at (Nat.le_refl _)).mono ?_
  rintro e w1 ⟨b1, h⟩
  replace V := Lib.hid (V.out.on b1)
  replace HB := Lib.hid (HB.out.trans (b1.mono HB.out.size))
  obtain ⟨q0, q1, q2, -⟩ := cells3 V.out.1
  by_cases hok : (Rt ⟨leaf, ks, vs⟩ && leaf) = true
  case neg =>
    have hno : (Rt ⟨leaf, ks, vs⟩ && (⟨leaf, ks, vs⟩ : Nd).leaf) = false := by simpa using hok
    have key : ∀ (w : World), Below W.heap.size W w → w.heap[W.heap.size]? = some (.cells #[.bool leaf, .slice A1 na c1, .slice A2 nb c2] 53 (0, 0)) → True := fun _ _ _ => trivial
    clear key
    have cC := cut_no w1 w1.heap.size (.agg #[.bool leaf, .slice A1 na c1, .slice A2 nb c2]) ⟨leaf, ks, vs⟩ a b V.out.at (Nat.le_refl _) hno
    have CC := Lib.hid cC
    clear cC
    have hfin : ∀ e w', (∃ A1 n1 c1 A2 n2 c2, e = Ending.returned (.tuple #[.agg #[.bool false, .slice A1 n1 c1, .slice A2 n2 c2], .slice none 0 0, .int .i64 30]) ∧ NdOf w' w1.heap.size Nd0 A1 n1 c1 A2 n2 c2 ∧ Below w1.heap.size w1 w') → True := fun _ _ _ => trivial
    clear hfin
    rcases h with ⟨hr, rfl⟩ | ⟨hr, mb, rfl, hmb, hm⟩
    · clear hr hok hno b1
      go_wp2_with fail
      refine CC.out.mono ?_
      rintro e w2 ⟨A3, n3, c3, A4, n4, c4, rfl, -, b2⟩
      have B2 := Lib.hid b2
      clear b2 q0 q1 q2
      go_wp2_with fail
      refine (awake12 _).mono ?_
      rintro e w3 ⟨rfl, b3⟩
      have B3 := Lib.hid b3
      clear b3
      go_wp2_with fail
      go_ret
      exact ⟨rfl, HB.out.trans ((B2.out.trans (((bel1 _ _).trans (B3.out.mono (by simp))).mono B2.out.size)).mono HB.out.size)⟩
    · have hlf : leaf = false := by rw [hr] at hno; simpa using hno
      subst hlf
      clear hr hok hno b1 hm hmb
      go_wp2_with fail
      refine CC.out.mono ?_
      rintro e w2 ⟨A3, n3, c3, A4, n4, c4, rfl, -, b2⟩
      have B2 := Lib.hid b2
      clear b2 q0 q1 q2
      go_wp2_with fail
      refine (awake12 _).mono ?_
      rintro e w3 ⟨rfl, b3⟩
      have B3 := Lib.hid b3
      clear b3
      go_wp2_with fail
      go_ret
      exact ⟨rfl, HB.out.trans ((B2.out.trans (((bel1 _ _).trans (B3.out.mono (by simp))).mono B2.out.size)).mono HB.out.size)⟩
  rw [Bool.and_eq_true] at hok
  obtain ⟨hr, rfl⟩ := hok
  rcases h with ⟨hr2, -⟩ | ⟨-, mb, rfl, hmb, hm⟩
  · rw [hr] at hr2; cases hr2
  have HR := Lib.hid hr
  have hL := rt_len hr
  have HL : Hid (ks.length = vs.length ∧ ks.length ≤ 7 ∧ Inc ks) := ⟨hL.1, hL.2.1, hL.2.2.2⟩
  obtain rfl : nb = na := by have := Hna.out; have := Hnb.out; have := hL.1; simp only at this; omega
  have M : Hid (MF w1 mb (nf ⟨true, ks, vs⟩) nb) := by have := hm; rw [show (⟨true, ks, vs⟩ : Nd).ks.length = nb from Hna.out.symm] at this; exact this
  have U1 : Hid ((∀ x ∈ ks, IsU64 x) ∧ (∀ x ∈ vs, IsU64 x)) := ⟨V.out.2.1.2, V.out.2.2.2⟩
  clear b1 hr hL hm hmb
  go_upto_region 5 with fail
  clear q0 q1 q2
  go_cut [14, 15] from 58 to 65 (fun lo hi wx => ∃ l h, lo = .int .u64 l ∧ hi = .int .u64 h ∧ Hid (((l = a ∨ l = b ∨ l = c) ∧ l ≤ a ∧ l ≤ b ∧ l ≤ c) ∧ ((h = a ∨ h = b ∨ h = c) ∧ a ≤ h ∧ b ≤ h ∧ c ≤ h)) ∧ wx = w1)
  case first =>
    go_wp2_with fail
    all_goals (
      go_meet
      exact ⟨_, _, rfl, rfl, ⟨by omega, by omega⟩, rfl⟩)
  case rest =>
    obtain ⟨l, h, rfl, rfl, Hlh, rfl⟩ := hcut
    obtain ⟨m, hm, hlm, hmh, hmu⟩ := mid3 Habc.out.1 Habc.out.2.1 Habc.out.2.2 Hlh.out.1 Hlh.out.2
    obtain ⟨ra, rb, hrg⟩ := rng HR.out hlm
    have RG := Lib.hid hrg
    have Hmm : Hid (l ≤ m ∧ m ≤ h ∧ IsU64 m ∧ IsU64 h ∧ IsU64 l) := by
      have h1 := Hlh.out
      have h2 := Habc.out
      refine ⟨hlm, hmh, hmu, ?_, ?_⟩
      · unfold IsU64 at h2 ⊢; omega
      · unfold IsU64 at h2 ⊢; omega
    obtain ⟨q0, q1, q2, -⟩ := cells3 V.out.1
    clear hrg hlm hmh hmu
    go_wp2_with fail
    clear q0 q1 q2 hm
    obtain ⟨P, hP⟩ : ∃ P : Nd, P = cutN ⟨true, ks, vs⟩ ra rb := ⟨_, rfl⟩
    obtain ⟨gn, hgn⟩ : ∃ g : List Int, g = (vs.take rb).drop ra := ⟨_, rfl⟩
    refine (cut_eq (n := ⟨true, ks, vs⟩) l m (m := P) (g := gn) (c := 0) (by rw [RG.out.cut HR.out rfl, hP, hgn]) V.out.at (Nat.le_refl _) (by have := HL.out; simp only; omega) (by have := HL.out; simp only; omega)).mono ?_
    rintro e w2 ⟨A3, n3, c3, A4, n4, c4, A5, n5, c5, rfl, O3, OG, b2⟩
    have hPl : P.leaf = true := by rw [hP]; rfl
    have HP : Hid (P = cutN ⟨true, ks, vs⟩ ra rb ∧ Rt P = true ∧ P.leaf = true ∧ gn = (vs.take rb).drop ra) := ⟨hP, by rw [hP]; exact RG.out.rt HR.out rfl, hPl, hgn⟩
    have HPu : Hid ((∀ x ∈ P.ks, IsU64 x) ∧ (∀ x ∈ P.vs, IsU64 x) ∧ (∀ x ∈ gn, IsU64 x)) := by
      refine ⟨fun x hx => U1.out.1 x ?_, fun x hx => U1.out.2 x ?_, fun x hx => U1.out.2 x ?_⟩
      · rw [hP] at hx; exact RG.out.sub.subset hx
      · rw [hP] at hx
        rcases List.mem_append.1 hx with h | h
        · exact List.mem_of_mem_take h
        · exact List.mem_of_mem_drop h
      · rw [hgn] at hx; exact List.mem_of_mem_take (List.mem_of_mem_drop hx)
    obtain ⟨pl, hpl⟩ : ∃ k : Nat, k = P.ks.length := ⟨_, rfl⟩
    have HN : Hid (n5 + pl = nb ∧ n5 = rb - ra ∧ gn.length = n5 ∧ ra ≤ rb ∧ rb ≤ nb ∧ pl = P.ks.length) := by
      have h1 := RG.out.lenP HR.out
      have h2 := ownU_len OG
      have h3 := RG.out.ab
      have h4 := RG.out.bl
      have h5 := Hna.out
      rw [← hP] at h1
      rw [← hgn] at h1
      simp only at h1 h4
      show _ ∧ _ ∧ _ ∧ _ ∧ _ ∧ _
      omega
    rw [hPl]
    have V17 : Hid (Nv (w2.alloc (.cells #[.bool true, .slice A3 n3 c3, .slice A4 n4 c4] 53)) w2.heap.size (.slice A3 n3 c3) (.slice A4 n4 c4) P) := by
      have := Nv.new (n := P) O3 HPu.out.1 HPu.out.2.1
      rw [hPl] at this
      exact this
    have hbA := bel1 w2 (.cells #[.bool true, .slice A3 n3 c3, .slice A4 n4 c4] 53)
    have hb3 := b2.trans (hbA.mono b2.size)
    have G : Hid (UsN (w2.alloc (.cells #[.bool true, .slice A3 n3 c3, .slice A4 n4 c4] 53)) (.slice A5 n5 c5) gn) := UsN.on (OG.us HPu.out.2.2) hbA
    replace V := Lib.hid (V.out.on hb3)
    replace M := Lib.hid (M.out.on hb3)
    replace HB := Lib.hid (HB.out.trans (hb3.mono HB.out.size))
    generalize hW3 : (w2.alloc (.cells #[.bool true, .slice A3 n3 c3, .slice A4 n4 c4] 53)) = W3 at *
    obtain ⟨r0, r1, r2, -⟩ := cells3 V17.out.1
    rw [hPl] at r0
    clear O3 OG b2 hb3 hbA hP hgn hpl
    go_wp2_with fail
    clear r0 r1 r2 hW3
    have hat := V17.out.at
    rw [hPl] at hat
    refine (all_mf W3 W3.heap.size _ P hat (Nat.le_refl _)).mono ?_
    rintro e w4 ⟨b4, hh⟩
    rcases hh with ⟨hr, rfl⟩ | ⟨hr, ml, rfl, hml, hq⟩
    · rw [HP.out.2.1] at hr; cases hr
    have ML : Hid (MF w4 ml (nf P) pl) := by rw [HN.out.2.2.2.2.2]; exact hq
    replace V := Lib.hid (V.out.on b4)
    replace V17 := Lib.hid (V17.out.on b4)
    replace G := Lib.hid (G.out.on b4)
    replace M := Lib.hid (M.out.on b4)
    replace HB := Lib.hid (HB.out.trans (b4.mono HB.out.size))
    clear hat hr hml hq b4 hPl
    have hlenM := fun ty => M.out.len ty
    have hlenL := fun ty => ML.out.len ty
    have hws : IntKind.i64.wrap ((n5 : Int) + (pl : Int)) = (nb : Int) := by have := HN.out; have := Hna.out; have := HL.out; rw [IntKind.wrap_i64]; omega
    have hws2 : RowKit.wrap64 ((n5 : Int) + (pl : Int)) = (nb : Int) := by have := HN.out; have := Hna.out; have := HL.out; unfold RowKit.wrap64; omega
    have hws3 : (n5 : Int) + (pl : Int) = (nb : Int) := by have := HN.out; omega
    have hws4 : RowKit.wrap64 (nb : Int) = (nb : Int) := by have := Hna.out; have := HL.out; unfold RowKit.wrap64; omega
    obtain ⟨q0, q1, q2, -⟩ := cells3 V.out.1
    go_wp2_with fail
    clear hlenM hlenL hws hws2 hws3 hws4 M
    go_loopw [22, 107] (fun i t wr => ∃ k d : Nat, k ≤ nb ∧ t = .int .i64 k ∧ i = .int .i64 (min k rb - ra : Nat) ∧ wr = w4.drewN d) (fun _ t _ => nb - (intOf t).toNat)
    case atStart => exact ⟨0, 0, Nat.zero_le _, rfl, by simp, rfl⟩
    case round =>
      obtain ⟨k, d, hk, rfl, rfl, rfl⟩ := hrel
      by_cases hlt : k < nb
      · have Hlt : Hid (k < nb) := hlt
        have hk7 : (k : Int) ≤ 6 := by have := Hna.out; have := HL.out; omega
        have hkk : k < ks.length := by have := Hna.out; omega
        have hkv : k < vs.length := by have := HL.out.1; omega
        obtain ⟨_, p1, o1, rfl, -, hcell1⟩ := V.out.2.1.row (by omega)
        obtain ⟨_, p2, o2, rfl, -, hcell2⟩ := V.out.2.2.row (by omega)
        have e1 := hcell1 k hkk
        have e2 := hcell2 k hkv
        obtain ⟨x, hx⟩ : ∃ x, x = ks[k] := ⟨_, rfl⟩
        obtain ⟨y, hy⟩ : ∃ y, y = vs[k] := ⟨_, rfl⟩
        rw [← hx] at e1
        rw [← hy] at e2
        have hxu : IsU64 x := by rw [hx]; exact U1.out.1 _ (List.getElem_mem _)
        have hkey := RG.out.key HR.out (k := k) hkk
        have hthere := RG.out.there HR.out (k := k) hkk
        simp only at hkey hthere
        rw [← hx] at hkey hthere
        rw [← HP.out.1] at hthere
        have hlook := fun d => (ML.out.on (w' := w4.drewN d) (below_drewN (Below.refl _ _) d)).look hxu
        have hmem : (nf P x).isSome = decide (x ∈ P.ks) := nf_mem (rt_len HP.out.2.1).1 x
        obtain ⟨old, hold⟩ : ∃ old : Int, old = (nf P x).getD 0 := ⟨_, rfl⟩
        rw [hmem, ← hold] at hlook
        clear hcell1 hcell2 hx hold hmem hxu
        by_cases hA : k < ra
        · have hd : decide (x ∈ P.ks) = true := decide_eq_true (hthere.2 (.inl hA))
          rw [hd] at hlook
          have hc1 : ¬ (l ≤ x) := fun h => by have := hkey.1.1 h; omega
          have hmin : min k rb - ra = min (k + 1) rb - ra := by have := HN.out; omega
          clear hd hkey hthere hy hkk hkv
          rw [hmin]
          have Hmin := Lib.hid hmin
          clear hmin
          obtain ⟨i, hi⟩ : ∃ i, i = min (k + 1) rb - ra := ⟨_, rfl⟩
          rw [← hi]
          have Hi := Lib.hid hi
          clear hi
          go_wp2_with fail
          go_roundw
          case rel => exact ⟨k + 1, _, Hlt.out, by go_num, by rw [Hi.out], rfl⟩
          case measure => have := Hlt.out; simp [intOf]; omega
        · by_cases hBk : rb ≤ k
          · have hd : decide (x ∈ P.ks) = true := decide_eq_true (hthere.2 (.inr hBk))
            rw [hd] at hlook
            have hc1 : l ≤ x := hkey.1.2 (by omega)
            have hc2 : ¬ (x ≤ m) := fun h => by have := hkey.2.1 h; omega
            have hmin : min k rb - ra = min (k + 1) rb - ra := by omega
            clear hd hkey hthere hy hkk hkv
            rw [hmin]
            clear hmin
            obtain ⟨i, hi⟩ : ∃ i, i = min (k + 1) rb - ra := ⟨_, rfl⟩
            rw [← hi]
            have Hi := Lib.hid hi
            clear hi
            go_wp2_with fail
            go_roundw
            case rel => exact ⟨k + 1, _, Hlt.out, by go_num, by rw [Hi.out], rfl⟩
            case measure => have := Hlt.out; simp [intOf]; omega
          · have hd : decide (x ∈ P.ks) = false := decide_eq_false (fun h => by have := hthere.1 h; omega)
            rw [hd] at hlook
            have hc1 : l ≤ x := hkey.1.2 (by omega)
            have hc2 : x ≤ m := hkey.2.2 (by omega)
            obtain ⟨i, hi⟩ : ∃ i, i = min k rb - ra := ⟨_, rfl⟩
            rw [← hi]
            have Hi : Hid (i = k - ra ∧ i < n5 ∧ min (k + 1) rb - ra = i + 1) := by have := HN.out; show _ ∧ _ ∧ _; omega
            have hin : (i : Int) < n5 := by have := Hi.out; omega
            have hi7 : (i : Int) ≤ 6 := by have := Hi.out; omega
            have hin2 : i < n5 := Hi.out.2.1
            have hin3 : ¬ ((i : Int) = n5) := by omega
            have hin4 : ((i : Int) == (n5 : Int)) = false := by simp; omega
            obtain ⟨_, p5, o5, rfl, -, hcell5⟩ := Us.row G.out (by omega)
            have e5 := hcell5 i (by have := HN.out; omega)
            have hgi : gn[i]'(by have := HN.out; omega) = y := by
              have h1 := Hi.out.1
              rw [List.getElem_of_eq HP.out.2.2.2, List.getElem_drop, List.getElem_take, hy]
              congr 1
              omega
            rw [hgi] at e5
            clear hd hkey hthere hy hgi hcell5 hi hkk hkv
            go_wp2_with fail
            go_quiet (fail)
            go_wp2_with fail
            go_roundw
            case rel => exact ⟨k + 1, _, Hlt.out, by go_num, (by rw [Hi.out.2.2]; go_num), rfl⟩
            case measure => have := Hlt.out; simp [intOf]; omega
      · have hk' : k = nb := by omega
        subst hk'
        clear hlt hk
        have b5 : Below w4.heap.size w4 (w4.drewN d) := below_drewN (Below.refl _ _) d
        obtain ⟨i, hi⟩ : ∃ i, i = min k rb - ra := ⟨_, rfl⟩
        rw [← hi]
        clear hi
        replace V := Lib.hid (V.out.on b5)
        replace V17 := Lib.hid (V17.out.on b5)
        replace G := Lib.hid (G.out.on b5)
        replace HB := Lib.hid (HB.out.trans (b5.mono HB.out.size))
        clear ML b5
        obtain ⟨r0, r1, r2, -⟩ := cells3 V17.out.1
        rw [HP.out.2.2.1] at r0
        generalize w4.drewN d = w5 at *
        by_cases heq : m = h
        · have heq2 : (m == h) = true := by simp [heq]
          go_wp2_with fail
          refine (awake12 _).mono ?_
          rintro e w6 ⟨rfl, b6⟩
          have B6 := Lib.hid b6
          clear b6
          go_wp2_with fail
          go_ret
          exact ⟨rfl, HB.out.trans (B6.out.mono HB.out.size)⟩
        · have heq2 : (m == h) = false := by simp [heq]
          have hw1 : IntKind.u64.wrap (m + 1) = m + 1 := by have := Hmm.out; unfold IsU64 at this; rw [IntKind.wrap_u64]; omega
          go_wp2_with fail
          clear r0 r1 r2 hw1 heq2
          obtain ⟨rc, hbc, hcl, hc1, hc2⟩ := RG.out.both HR.out rfl (top := h) (by have := Hmm.out; omega) Hmm.out.1
          rw [← HP.out.1] at hc2
          obtain ⟨Q, hQ⟩ : ∃ Q : Nd, Q = cutN ⟨true, ks, vs⟩ ra rc := ⟨_, rfl⟩
          rw [← hQ] at hc1 hc2
          obtain ⟨gx, hgx⟩ : ∃ g : List Int, g = (vs.take rc).drop rb := ⟨_, rfl⟩
          obtain ⟨gy, hgy⟩ : ∃ g : List Int, g = (vs.take rc).drop ra := ⟨_, rfl⟩
          simp only at hc1 hc2 hcl
          rw [← hgy] at hc1
          rw [← hgx] at hc2
          have hgg : gn ++ gx = gy := by
            rw [HP.out.2.2.2, hgx, hgy]
            exact drop_take_join vs (by have := HN.out; omega) hbc (by have := HL.out; omega)
          have HQ : Hid (Q.leaf = true ∧ gn ++ gx = gy ∧ gx.length ≤ 7 ∧ gy.length ≤ 7 ∧ gn.length ≤ 7) := ⟨by rw [hQ]; rfl, hgg, by rw [hgx]; have := HL.out; simp; omega, by rw [hgy]; have := HL.out; simp; omega, by rw [HP.out.2.2.2]; have := HL.out; simp; omega⟩
          have HQu : Hid ((∀ x ∈ Q.ks, IsU64 x) ∧ (∀ x ∈ Q.vs, IsU64 x) ∧ (∀ x ∈ gx, IsU64 x) ∧ (∀ x ∈ gy, IsU64 x) ∧ Q.ks.length ≤ 7 ∧ Q.vs.length ≤ 7) := by
            have h1 := HL.out
            refine ⟨fun x hx => U1.out.1 x ?_, fun x hx => U1.out.2 x ?_, fun x hx => U1.out.2 x ?_, fun x hx => U1.out.2 x ?_, ?_, ?_⟩
            · rw [hQ] at hx
              rcases List.mem_append.1 hx with h | h
              · exact List.mem_of_mem_take h
              · exact List.mem_of_mem_drop h
            · rw [hQ] at hx
              rcases List.mem_append.1 hx with h | h
              · exact List.mem_of_mem_take h
              · exact List.mem_of_mem_drop h
            · rw [hgx] at hx; exact List.mem_of_mem_take (List.mem_of_mem_drop hx)
            · rw [hgy] at hx; exact List.mem_of_mem_take (List.mem_of_mem_drop hx)
            · rw [hQ]; have := HN.out; have := Hna.out; simp [cutN]; omega
            · rw [hQ]; have := HN.out; have := Hna.out; simp [cutN]; omega
          have HC := Lib.hid hc1
          have hat := V17.out.at
          rw [HP.out.2.2.1] at hat
          have hPl2 : P.ks.length ≤ 10000 ∧ P.vs.length ≤ 10000 := by have := rt_len HP.out.2.1; omega
          clear hc1 hQ hgx hgy hgg hbc hcl
          refine (cut_eq (n := P) (m + 1) h (m := Q) (g := gx) (c := 0) hc2 hat (Nat.le_refl _) hPl2.1 hPl2.2).mono ?_
          rintro e w6 ⟨A7, n7, c7, A8, n8, c8, A9, n9, c9, rfl, O7, OX, b6⟩
          rw [HQ.out.1]
          have V27 : Hid (Nv (w6.alloc (.cells #[.bool true, .slice A7 n7 c7, .slice A8 n8 c8] 53)) w6.heap.size (.slice A7 n7 c7) (.slice A8 n8 c8) Q) := by
            have := Nv.new (n := Q) O7 HQu.out.1 HQu.out.2.1
            rw [HQ.out.1] at this
            exact this
          have hbA := bel1 w6 (.cells #[.bool true, .slice A7 n7 c7, .slice A8 n8 c8] 53)
          have hb7 := b6.trans (hbA.mono b6.size)
          have GX : Hid (UsN (w6.alloc (.cells #[.bool true, .slice A7 n7 c7, .slice A8 n8 c8] 53)) (.slice A9 n9 c9) gx) := UsN.on (OX.us HQu.out.2.2.1) hbA
          replace V := Lib.hid (V.out.on hb7)
          replace G := Lib.hid (G.out.on hb7)
          replace HB := Lib.hid (HB.out.trans (hb7.mono HB.out.size))
          generalize hW7 : (w6.alloc (.cells #[.bool true, .slice A7 n7 c7, .slice A8 n8 c8] 53)) = W7 at *
          obtain ⟨q0, q1, q2, -⟩ := cells3 V.out.1
          obtain ⟨p27, hp27⟩ : ∃ p, p = w6.heap.size := ⟨_, rfl⟩
          rw [← hp27] at V27
          clear O7 OX b6 hbA hb7 hc2 hPl2 hat V17
          go_wp2_with fail
          rw [← hp27]
          clear q0 q1 q2 hW7 hp27
          refine (cut_eq (n := ⟨true, ks, vs⟩) l h (m := Q) (g := gy) (c := 0) HC.out V.out.at (Nat.le_refl _) (by have := HL.out; simp only; omega) (by have := HL.out; simp only; omega)).mono ?_
          rintro e w8 ⟨A10, n10, c10, A11, n11, c11, A12, n12, c12, rfl, O10, OY, b8⟩
          rw [HQ.out.1]
          have V30 : Hid (Nv (w8.alloc (.cells #[.bool true, .slice A10 n10 c10, .slice A11 n11 c11] 53)) w8.heap.size (.slice A10 n10 c10) (.slice A11 n11 c11) Q) := by
            have := Nv.new (n := Q) O10 HQu.out.1 HQu.out.2.1
            rw [HQ.out.1] at this
            exact this
          have hbA := bel1 w8 (.cells #[.bool true, .slice A10 n10 c10, .slice A11 n11 c11] 53)
          have hb9 := b8.trans (hbA.mono b8.size)
          have GY : Hid (UsN (w8.alloc (.cells #[.bool true, .slice A10 n10 c10, .slice A11 n11 c11] 53)) (.slice A12 n12 c12) gy) := UsN.on (OY.us HQu.out.2.2.2.1) hbA
          replace V27 := Lib.hid (V27.out.on hb9)
          replace G := Lib.hid (G.out.on hb9)
          replace GX := Lib.hid (GX.out.on hb9)
          replace HB := Lib.hid (HB.out.trans (hb9.mono HB.out.size))
          generalize hW9 : (w8.alloc (.cells #[.bool true, .slice A10 n10 c10, .slice A11 n11 c11] 53)) = W9 at *
          obtain ⟨r0, r1, r2, -⟩ := cells3 V27.out.1
          obtain ⟨s0, s1, s2, -⟩ := cells3 V30.out.1
          rw [HQ.out.1] at r0 s0
          have hat := V27.out.at
          have hat2 := V30.out.at
          rw [HQ.out.1] at hat hat2
          clear O10 OY b8 hbA hb9 V
          go_wp2_with fail
          clear r0 r1 r2 s0 s1 s2 hW9
          refine (same_eq (a := Q) (b := Q) rfl hat hat2 (Nat.le_refl _) (by have := HQu.out; omega)).mono ?_
          rintro e w10 ⟨rfl, b10⟩
          replace G := Lib.hid (G.out.on b10)
          replace GX := Lib.hid (GX.out.on b10)
          replace GY := Lib.hid (GY.out.on b10)
          replace HB := Lib.hid (HB.out.trans (b10.mono HB.out.size))
          clear b10 hat hat2 V27 V30
          have Hown : Hid (OwnU (w10.alloc (.cells #[] 23)) w10.heap.size (.slice (some ⟨w10.heap.size, 0, none⟩) 0 0) []) := World.ownsRow_made w10 #[] 0 (Nat.le_refl _) (Nat.zero_le _) rfl
          have Hsrc : Hid (Us (w10.alloc (.cells #[] 23)) w10.heap.size (.slice A5 n5 c5) gn) := Us.alloc G.out (Nat.le_refl _) _
          have hbq := bel1 w10 (.cells #[] 23)
          have HBq := Lib.hid hbq
          clear hbq
          go_wp2_with (first
            | ((with_reducible refine wl_append_og (os := .tmp 182) (ox := .tmp 183) (base := w10.heap.size) (xs := []) ?_ Hown.out Hsrc.out ?_ ?_ ?_ ?_ ?_); go_must ((· rfl); (· have := HQ.out; simp; omega); (· simp); (· rfl); (· rfl); intro A21 n21 c21 w11 ho11 hg11; have O11 := Lib.hid ho11; have B11 : Hid (Below w10.heap.size w10 w11) := (HBq.out.grown hg11 (by simp) Hown.out.own_le); have S11 : Hid (Us w11 w10.heap.size (.slice A9 n9 c9) gx) := Us.on GX.out B11.out; clear ho11 hg11))
            | ((with_reducible refine wl_append_og (os := .tmp 184) (ox := .tmp 185) (base := w10.heap.size) (xs := [] ++ gn) ?_ O11.out S11.out ?_ ?_ ?_ ?_ ?_); go_must ((· rfl); (· have := HQ.out; simp; omega); (· exact B11.out.size); (· rfl); (· rfl); intro A22 n22 c22 w12 ho12 hg12; have O12 := Lib.hid ho12; have B12 : Hid (Below w10.heap.size w10 w12) := (B11.out.grown hg12 B11.out.size O11.out.own_le); clear ho12 hg12)))
          have hlist : [] ++ gn ++ gx = gy := by rw [List.nil_append]; exact HQ.out.2.1
          have hO := O12.out
          rw [hlist] at hO
          refine (numbers_any w12 w12.heap.size _ _ gy gy (hO.us HQu.out.2.2.2.1) (UsN.on2 GY.out B12.out) (by have := HQ.out; omega) (by have := HQ.out; omega)).mono ?_
          rintro e w13 ⟨he, d13, rfl⟩
          rw [decide_eq_true rfl] at he
          subst he
          clear hO hlist
          go_wp2_with fail
          refine (awake12 _).mono ?_
          rintro e w14 ⟨rfl, b14⟩
          have B14 : Hid (Below w12.heap.size w12 w14) := (below_drewN (Below.refl _ _) d13).trans b14
          clear b14
          go_wp2_with fail
          go_ret
          exact ⟨rfl, HB.out.trans ((B12.out.trans (B14.out.mono B12.out.size)).mono HB.out.size)⟩
end Go.Proofs.Yticdmiomkmaaoaa
