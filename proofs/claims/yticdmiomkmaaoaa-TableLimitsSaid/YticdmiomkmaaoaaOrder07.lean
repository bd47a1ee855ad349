/-
  The walk of TableOrder.
-/
import Derived.Test.YticdmiomkmaaoaaUnlike07
namespace Go.Proofs.Yticdmiomkmaaoaa
open Go.RowKit

theorem pairCells_snoc {vs : List Value} {ps : List (List Int × Int)} (h : vs.length = ps.length) (v : Value) (p : List Int × Int) : pairCells (vs ++ [v]) (ps ++ [p]) = pairCells vs ps ++ [v, .int .u64 p.2] := by
  unfold pairCells
  rw [List.zip_append h, List.flatMap_append]
  rfl

theorem drop_rev {α : Type} (l : List α) (j : Nat) (x : α) (h : l[j]? = some x) : (l.drop j).reverse = (l.drop (j + 1)).reverse ++ [x] := by
  have hj : j < l.length := by
    rcases Nat.lt_or_ge j l.length with h1 | h1
    · exact h1
    · rw [List.getElem?_eq_none h1] at h; cases h
  have e : l[j] = x := by rw [List.getElem?_eq_getElem hj] at h; exact Option.some.inj h
  rw [List.drop_eq_getElem_cons hj, List.reverse_cons, e]

theorem nodup_rev {α : Type} (l : List α) : l.reverse.Nodup ↔ l.Nodup := (List.reverse_perm l).nodup_iff
theorem zip_rev {α β : Type} : ∀ (a : List α) (b : List β), a.length = b.length → a.reverse.zip b.reverse = (a.zip b).reverse
  | [], [], _ => rfl
  | [], _ :: _, h => by simp at h
  | _ :: _, [], h => by simp at h
  | x :: a, y :: b, h => by
    have h' : a.length = b.length := by simpa using h
    simp only [List.reverse_cons, List.zip_cons_cons]
    rw [List.zip_append (by simpa using h'), zip_rev a b h']
    rfl

theorem good_rev {ps : List (List Int × Int)} : Good ps.reverse ↔ Good ps := by
  unfold Good
  rw [List.map_reverse, nodup_rev]
  simp
theorem unl_rev {rest : Int} {ps : List (List Int × Int)} : Unl rest ps.reverse ↔ Unl rest ps := by
  unfold Unl
  rw [List.map_reverse, List.nodup_cons, List.nodup_cons, nodup_rev, List.mem_reverse]
theorem aget_rev {ps : List (List Int × Int)} (h : Good ps) (bs : List Int) : aget ps.reverse bs = aget ps bs := by
  cases hg : aget ps bs with
  | none =>
    rw [aget_none] at hg ⊢
    intro p hp
    exact hg p (by simpa using hp)
  | some x =>
    have := aget_mem _ _ _ hg
    exact aget_of_mem _ (good_rev.2 h).2 (by simpa using this)

theorem pairsIn_rev {w wr : World} {B : Nat} {v v' : Value} {vs : List Value} {ps : List (List Int × Int)} (h : PairsIn w B v vs ps) (hb : Below B w wr) (hB : B ≤ wr.heap.size) {base : Nat} (hown : wr.ownsRow base 28 2 v' ps.length (pairCells vs.reverse ps.reverse)) : PairsIn wr wr.heap.size v' vs.reverse ps.reverse := by
  refine ⟨by simp [h.len], by rw [List.length_reverse]; exact Sl.of_own hown, fun i x hx => ?_⟩
  have hz := zip_rev vs ps h.len
  rw [hz] at hx
  have hm : x ∈ vs.zip ps := by
    have := List.mem_of_getElem? hx
    simpa using this
  obtain ⟨j, hj, rfl⟩ := List.getElem_of_mem hm
  have := h.el j _ (List.getElem?_eq_getElem hj)
  exact ⟨(this.1.on hb).more hB, this.2⟩

/-- rows at an index -/
theorem rows_at {w wr : World} {B : Nat} {A : Option Addr} {c : Nat} {bss : List (List Int)} (h : Ls w B 1 (fun cs bs => ∃ v, cs = [v] ∧ Bs w B v bs) (.slice A bss.length c) bss) (hb : Below B w wr) (k : Nat) (hk : k < bss.length) :
    ∃ b o A' c', A = some ⟨b, o, none⟩ ∧ wr.cell? ⟨b, o + k, none⟩ = some (.slice A' bss[k].length c') ∧ Bs wr B (.slice A' bss[k].length c') bss[k] := by
  obtain ⟨b, o, c0, cs, hv, hlt, hl, ⟨v, rfl, hbs⟩, hc⟩ := h.at_ k hk
  cases hv
  obtain ⟨A', c', rfl, _⟩ := hbs.1.form
  refine ⟨b, o, A', c', rfl, ?_, hbs.on hb⟩
  rw [hb.cell hlt]
  have := hc 0 _ (by omega) rfl
  rwa [Nat.mul_one, Nat.add_zero] at this

set_option maxRecDepth 100000 in
set_option maxHeartbeats 1000000 in
theorem tableOrder_early (W : World) (v0 : Value) (ps : List (List Int × Int)) (o0 : PairsAt W W.heap.size v0 ps) (rest : Int) (v2 : Value) (bss : List (List Int)) (o2 : Ls W W.heap.size 1 (fun cs bs => ∃ v, cs = [v] ∧ Bs W W.heap.size v bs) v2 bss) (h : 60 < ps.length ∨ 20 < bss.length) :
    Calls Try.prog 4 #[v0, .int .u64 rest, v2] W (Awake W) := by
  obtain ⟨A, c, rfl, _⟩ := o0.open
  obtain ⟨A2, c2, rfl, _⟩ := o2.form
  clear o0 o2
  by_cases h1 : 60 < ps.length
  · have h2 : decide ((60 : Int) < ps.length) = true := by simp; omega
    clear h h1
    go_enter Try.func4, Try.ntmps4
    go_wp2_with fail
    refine (awake07 W).mono ?_; rintro e w' ⟨rfl, hb⟩
    have Hb := Lib.hid hb
    clear hb
    go_wp2_with fail
    go_ret
    exact ⟨rfl, Hb.out⟩
  · have h2 : decide ((60 : Int) < ps.length) = false := by simp; omega
    have h4 : decide ((20 : Int) < bss.length) = true := by simp; omega
    clear h h1
    go_enter Try.func4, Try.ntmps4
    go_wp2_with fail
    refine (awake07 W).mono ?_; rintro e w' ⟨rfl, hb⟩
    have Hb := Lib.hid hb
    clear hb
    go_wp2_with fail
    go_ret
    exact ⟨rfl, Hb.out⟩

set_option maxRecDepth 100000 in
set_option maxHeartbeats 4000000 in
theorem tableOrder_on (W : World) (v0 : Value) (ps : List (List Int × Int)) (o0 : PairsAt W W.heap.size v0 ps) (rest : Int) (hr : IsU64 rest) (v2 : Value) (bss : List (List Int)) (o2 : Ls W W.heap.size 1 (fun cs bs => ∃ v, cs = [v] ∧ Bs W W.heap.size v bs) v2 bss) (h60 : ps.length ≤ 60) (h20 : bss.length ≤ 20) :
    Calls Try.prog 4 #[v0, .int .u64 rest, v2] W (Awake W) := by
  obtain ⟨vs, o1⟩ := o0.parts
  obtain ⟨A, c, rfl, _⟩ := o1.sl.form
  obtain ⟨A2, c2, rfl, _⟩ := o2.form
  have H0 := Lib.hid o0
  have H1 := Lib.hid o1
  have H2 := Lib.hid o2
  have Hr := Lib.hid hr
  have H60 := Lib.hid h60
  have H20 := Lib.hid h20
  have h2 : decide ((60 : Int) < ps.length) = false := by simp; omega
  have h4 : decide ((20 : Int) < bss.length) = false := by simp; omega
  have hl60 : (ps.length : Int) ≤ 60 := by omega
  have hl20 : (bss.length : Int) ≤ 20 := by omega
  clear o0 o1 o2 hr h60 h20
  go_enter Try.func4, Try.ntmps4
  go_wp2_with fail
  clear h2 h4
  go_loopw [7, 8] (fun bk i wr => ∃ j : Nat, j ≤ ps.length ∧ i = .int .i64 ((j : Int) - 1) ∧ Hid (wr.ownsRow W.heap.size 28 2 bk (ps.length - j) (pairCells (vs.drop j).reverse (ps.drop j).reverse) ∧ Below W.heap.size W wr)) (fun _ i _ => (intOf i + 1).toNat)
  case atStart => exact ⟨ps.length, Nat.le_refl _, rfl, by rw [Nat.sub_self, ← H1.out.len, List.drop_length]; exact World.ownsRow_nil _ _ _ _, Below.refl _ _⟩
  case round =>
    obtain ⟨j, hj, rfl, K1⟩ := hrel
    cases j with
    | succ j =>
      generalize hpk : ps[j] = pk
      obtain ⟨bs, n⟩ := pk
      obtain ⟨b, o, A', c', rfl, hvk, hcell0, hcell1, hbs, hu⟩ := H1.out.pair K1.out.2 j (by omega) hpk
      have Hvk := Lib.hid hvk
      have Hpk : Hid (ps[j]? = some (bs, n)) := by show _ = _; rw [List.getElem?_eq_getElem (by omega), hpk]
      clear hvk hbs hu hpk
      have hjj : ((j + 1 : Nat) : Int) - 1 = (j : Int) := by omega
      rw [hjj]
      clear hjj
      go_wp2_with (first
        | ((with_reducible refine wl_append_pair (os := .tmp 41) (ox := .tmp 46) (base := W.heap.size) (w := wr.alloc (.cells #[.slice A' bs.length c', .int .u64 n] 28)) (B := wr.heap.size + 1) (vx := .slice (some ⟨wr.heap.size, 0, none⟩) 1 1) (m := 1) (news := [.slice A' bs.length c', .int .u64 n]) (K1.out.1.alloc _) ?_ ?_ ?_ ?_ ?_ ?_ ?_);
           go_must ((· exact sl_mk rfl (Nat.le_refl 1) (by unfold maxLen; omega) (row_new wr [.slice A' bs.length c', .int .u64 n] 28)); (· intro u hu; simp at hu; rcases hu with rfl | rfl <;> rfl); (· have := H60.out; omega); (· have := K1.out.2.size; simp; omega); (· rfl); (· rfl); intro v4 w4 hown4 hg4; have H4 := Lib.hid hown4; have G4 := Lib.hid hg4; clear hown4 hg4)))
      have K4 : Hid (w4.ownsRow W.heap.size 28 2 v4 (ps.length - j) (pairCells (vs.drop j).reverse (ps.drop j).reverse) ∧ Below W.heap.size W w4) := by
        refine ⟨?_, (K1.out.2.alloc K1.out.2.size _).grown G4.out (by have := K1.out.2.size; simp; omega) (fun k hk => (K1.out.1.lt k hk).1)⟩
        have := H4.out
        rw [drop_rev vs j _ Hvk.out, drop_rev ps j _ Hpk.out, pairCells_snoc (by simp [H1.out.len])]
        have e : ps.length - (j + 1) + 1 = ps.length - j := by omega
        rw [e] at this
        exact this
      clear H4 G4 K1
      go_wp2_with fail
      go_roundw
      case rel => exact ⟨j, by omega, by go_num, K4⟩
      case measure => simp [intOf]
    | zero =>
      have K2 : Hid (PairsAt wr wr.heap.size u7 ps.reverse ∧ Below W.heap.size W wr) := by
        refine ⟨(pairsIn_rev (base := W.heap.size) H1.out K1.out.2 K1.out.2.size ?_).at_, K1.out.2⟩
        have := K1.out.1
        simpa using this
      clear K1 hj
      by_cases hg : Good ps
      · have Hg := Lib.hid hg
        clear hg
        go_wp2_with fail
        refine (new_good wr W.heap.size _ ps rest Hr.out (H1.out.on K2.out.2).at_ K2.out.2.size (by have := H60.out; omega) Hg.out).mono ?_
        rintro e w1 ⟨t1, a1, b1, rfl, Q1⟩
        have K3 : Hid (Below W.heap.size W w1 ∧ TabAt w1 t1 a1 b1 ps (often rest ps) rest ∧ PairsAt w1 wr.heap.size u7 ps.reverse ∧ wr.heap.size ≤ w1.heap.size) := by
          obtain ⟨vb, hvb⟩ := K2.out.1.parts
          exact ⟨K2.out.2.trans (Q1.2.2.2.2.mono K2.out.2.size), Q1.2.2.2.1, (hvb.on Q1.2.2.2.2).at_, Q1.2.2.2.2.size⟩
        clear Q1 K2
        go_wp2_with fail
        refine (new_good w1 wr.heap.size _ ps.reverse rest Hr.out K3.out.2.2.1 K3.out.2.2.2 (by have := H60.out; simp; omega) (good_rev.2 Hg.out)).mono ?_
        rintro e w2 ⟨t2, a2, b2, rfl, Q1⟩
        have K4 : Hid (Below W.heap.size W w2 ∧ TabAt w2 t1 a1 b1 ps (often rest ps) rest ∧ TabAt w2 t2 a2 b2 ps.reverse (often rest ps.reverse) rest) :=
          ⟨K3.out.1.trans (Q1.2.2.2.2.mono K3.out.1.size), K3.out.2.1.on Q1.2.2.2.2, Q1.2.2.2.1⟩
        clear Q1 K3
        go_wp2_with fail
        go_loopw [68] (fun i wr => ∃ k : Nat, k ≤ ps.length ∧ i = .int .i64 k ∧ Hid (Below W.heap.size W wr ∧ TabAt wr t1 a1 b1 ps (often rest ps) rest ∧ TabAt wr t2 a2 b2 ps.reverse (often rest ps.reverse) rest)) (fun i _ => ps.length - (intOf i).toNat)
        case atStart => exact ⟨0, Nat.zero_le _, rfl, K4⟩
        case round =>
          clear K4
          obtain ⟨k, hk, rfl, K8⟩ := hrel
          by_cases hlt : k < ps.length
          · generalize hpk : ps[k] = pk
            obtain ⟨bs, n⟩ := pk
            obtain ⟨b, o, A', c', rfl, hvk, hcell0, hcell1, hbs, hu⟩ := H1.out.pair K8.out.1 k hlt hpk
            have Hbs := Lib.hid hbs
            have Hpk : Hid (bs.length = 128 ∧ aget ps bs = some n) := by
              have hm : ps[k] ∈ ps := List.getElem_mem hlt
              have h1 := Hg.out.1 _ hm
              have h2 := aget_self Hg.out hm
              rw [hpk] at h1 h2
              exact ⟨h1, h2⟩
            clear hvk hbs hu hpk
            go_wp2_with fail
            refine (print_any (wr.alloc (.cells #[.slice A' bs.length c', .int .u64 n] 28)) W.heap.size t1 a1 b1 ps _ rest _ bs ⟨Hbs.out.1.alloc K8.out.1.size _, Hbs.out.2⟩ (K8.out.2.1.alloc _)).mono ?_
            rintro e w' ⟨he, n9, rfl⟩
            rw [if_pos Hpk.out.1, if_pos Hpk.out.1, Hpk.out.2, Option.getD_some] at he
            subst he
            go_wp2_with fail
            go_roundw
            case rel => exact ⟨k + 1, by omega, by go_num, below_drewN (K8.out.1.alloc K8.out.1.size _) _, K8.out.2.1.alloc _, K8.out.2.2.alloc _⟩
            case measure => simp [intOf]; omega
          · have hk' : k = ps.length := by omega
            subst hk'
            clear hlt hk
            obtain ⟨wo, rfl⟩ : ∃ wo : World, wo = wr := ⟨_, rfl⟩
            go_wp2_with fail
            go_loopw [90] (fun i wr => ∃ k : Nat, k ≤ bss.length ∧ i = .int .i64 k ∧ ∃ m, wr = wo.drewN m) (fun i _ => bss.length - (intOf i).toNat)
            case atStart => exact ⟨0, Nat.zero_le _, rfl, 0, rfl⟩
            case round =>
              obtain ⟨k, hk, rfl, m, rfl⟩ := hrel
              by_cases hlt : k < bss.length
              · obtain ⟨b, o, A', c', rfl, hcell, hbs⟩ := rows_at H2.out K8.out.1 k hlt
                generalize bss[k] = bs at *
                have Hbs := Lib.hid hbs
                have Hrev : Hid (aget ps.reverse bs = aget ps bs) := aget_rev Hg.out bs
                clear hbs
                generalize hX : (if bs.length = 128 then (aget ps bs).getD rest else 0) = X
                generalize hE : (if bs.length = 128 then (0 : Int) else 2) = E
                have HX := Lib.hid hX
                have HE := Lib.hid hE
                clear hX hE
                go_wp2_with fail
                refine (print_any (wo.drewN m) W.heap.size t1 a1 b1 ps _ rest _ bs Hbs.out K8.out.2.1).mono ?_
                rintro e w' ⟨he, n6, rfl⟩
                rw [HX.out, HE.out] at he
                subst he
                go_wp2_with fail
                refine (print_any (wo.drewN (m + n6)) W.heap.size t2 a2 b2 ps.reverse _ rest _ bs Hbs.out K8.out.2.2).mono ?_
                rintro e w' ⟨he, n7, rfl⟩
                rw [Hrev.out, HX.out, HE.out] at he
                subst he
                go_wp2_with fail
                refine (print_any (wo.drewN (m + n6 + n7)) W.heap.size t1 a1 b1 ps _ rest _ bs Hbs.out K8.out.2.1).mono ?_
                rintro e w' ⟨he, n8, rfl⟩
                rw [HX.out, HE.out] at he
                subst he
                go_wp2_with fail
                go_roundw
                case rel => exact ⟨k + 1, by omega, by go_num, _, rfl⟩
                case measure => simp [intOf]; omega
              · have hk' : k = bss.length := by omega
                subst hk'
                clear hlt hk
                go_wp2_with fail
                refine (len_any (wo.drewN m) t1 a1 b1 _ _ rest K8.out.2.1).mono ?_
                rintro e w' ⟨rfl, rfl⟩
                go_wp2_with fail
                refine (len_any (wo.drewN m) t2 a2 b2 _ _ rest K8.out.2.2).mono ?_
                rintro e w' ⟨he, rfl⟩
                rw [List.length_reverse] at he
                subst he
                go_wp2_with fail
                refine (unlike_any (wo.drewN m) t1 a1 b1 _ _ rest K8.out.2.1 (by have := H60.out; omega)).mono ?_
                rintro e w' ⟨he, n8, rfl⟩
                rw [often_dec] at he
                subst he
                go_wp2_with fail
                refine (unlike_any (wo.drewN (m + n8)) t2 a2 b2 _ _ rest K8.out.2.2 (by have := H60.out; simp; omega)).mono ?_
                rintro e w' ⟨he, n9, rfl⟩
                have e9 : decide (Unl rest ps.reverse) = decide (Unl rest ps) := decide_eq_decide.2 unl_rev
                rw [often_dec, e9] at he
                subst he
                generalize decide (Unl rest ps) = un
                clear e9
                go_wp2_with fail
                refine (awake07 (wo.drewN (m + n8 + n9))).mono ?_; rintro e w' ⟨rfl, hb⟩
                have Hb : Hid (Below W.heap.size W w') := (below_drewN K8.out.1 _).trans (hb.mono K8.out.1.size)
                clear hb
                go_wp2_with fail
                go_ret
                exact ⟨rfl, Hb.out⟩
      · have Hg := Lib.hid hg
        clear hg
        go_wp2_with fail
        refine (new_bad wr W.heap.size _ ps rest Hr.out (H1.out.on K2.out.2).at_ K2.out.2.size (by have := H60.out; omega) Hg.out).mono ?_
        rintro e w1 ⟨rfl, Q1⟩
        have K3 : Hid (Below W.heap.size W w1 ∧ PairsAt w1 wr.heap.size u7 ps.reverse ∧ wr.heap.size ≤ w1.heap.size) := by
          obtain ⟨vb, hvb⟩ := K2.out.1.parts
          exact ⟨K2.out.2.trans (Q1.mono K2.out.2.size), (hvb.on Q1).at_, Q1.size⟩
        clear Q1 K2
        go_wp2_with fail
        refine (new_bad w1 wr.heap.size _ ps.reverse rest Hr.out K3.out.2.1 K3.out.2.2 (by have := H60.out; simp; omega) (fun h => Hg.out (good_rev.1 h))).mono ?_
        rintro e w2 ⟨rfl, Q1⟩
        have K4 : Hid (Below W.heap.size W w2) := K3.out.1.trans (Q1.mono K3.out.1.size)
        clear Q1 K3
        go_wp2_with fail
        refine (awake07 w2).mono ?_; rintro e w' ⟨rfl, hb⟩
        have Hb : Hid (Below W.heap.size W w') := K4.out.trans (hb.mono K4.out.size)
        clear hb
        go_wp2_with fail
        go_ret
        exact ⟨rfl, Hb.out⟩

theorem tableOrder_walk (W : World) (v0 : Value) (ps : List (List Int × Int)) (o0 : PairsAt W W.heap.size v0 ps) (rest : Int) (hr : IsU64 rest) (v2 : Value) (bss : List (List Int)) (o2 : Ls W W.heap.size 1 (fun cs bs => ∃ v, cs = [v] ∧ Bs W W.heap.size v bs) v2 bss) :
    Calls Try.prog 4 #[v0, .int .u64 rest, v2] W (Awake W) := by
  by_cases h : 60 < ps.length ∨ 20 < bss.length
  · exact tableOrder_early W v0 ps o0 rest v2 bss o2 h
  · exact tableOrder_on W v0 ps o0 rest hr v2 bss o2 (by omega) (by omega)
end Go.Proofs.Yticdmiomkmaaoaa
