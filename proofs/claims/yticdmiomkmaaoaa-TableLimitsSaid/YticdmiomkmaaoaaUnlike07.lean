/-
  The walk of TableUnlike.
-/
import Derived.Test.YticdmiomkmaaoaaRest07
namespace Go.Proofs.Yticdmiomkmaaoaa
open Go.RowKit

theorem infoRow : (Try.prog.info? 26).map (fun i => (i.zero, i.size, i.bytes)) = some (some (.slice none 0 0), 1, 24) := by kernel_rfl
section
variable {ops : Array Oper} {w : World} {Q : Exit → Act → World → Prop} {a : Act} {rest : List Oper} {dst : Option Tmp} {os ox : Operand} {ty : TypeId} {pos : String} {after : Array Edge}
theorem wl_append_row {base : Nat} {v : Value} {n : Nat} {xs : List Value} (hown : w.ownsRow base 26 1 v n xs) {B : Nat} {vx : Value} {m : Nat} {news : List Value} (hx : Sl w B 1 vx m news)
    (h1 : ∀ u ∈ news, u.oneCell' = true) (hb : n + m ≤ 1000000) (hbase : base ≤ w.heap.size) (hs : a.eval os = v) (hxx : a.eval ox = vx)
    (hK : ∀ v' w', w'.ownsRow base 26 1 v' (n + m) (xs ++ news) → w.grownBy w' v.ownBlock → wpList Try.prog ops Q rest (a.put dst v') w') :
    wpList Try.prog ops Q (⟨dst, .call { callee := .builtin .append, args := #[os, ox], argTypes := #[24, 24] }, ty, pos, after, none⟩ :: rest) a w :=
  wl_append base 24 26 _ 1 24 Try.underlying24 infoRow rfl (by omega) v n xs hown vx m news hx h1 (by unfold maxLen; omega) (by omega) hbase hs hxx hK
end

/-- what a pair is, at a place below all that came later -/
structure PairIs (w wr : World) (B : Nat) (A : Option Addr) (k : Nat) (vs : List Value) (bs : List Int) (n : Int) : Prop where
  ex : ∃ b o A' c', A = some ⟨b, o, none⟩ ∧ vs[k]? = some (.slice A' bs.length c') ∧ wr.cell? ⟨b, o + k * 2, none⟩ = some (.slice A' bs.length c') ∧ wr.cell? ⟨b, o + k * 2 + 1, none⟩ = some (.int .u64 n) ∧ Bs wr B (.slice A' bs.length c') bs ∧ IsU64 n

theorem PairsIn.pair {w wr : World} {B : Nat} {A : Option Addr} {c : Nat} {vs : List Value} {ps : List (List Int × Int)} (h : PairsIn w B (.slice A ps.length c) vs ps) (hb : Below B w wr) (k : Nat) (hk : k < ps.length) {bs : List Int} {n : Int} (hpk : ps[k] = (bs, n)) :
    ∃ b o A' c', A = some ⟨b, o, none⟩ ∧ vs[k]? = some (.slice A' bs.length c') ∧ wr.cell? ⟨b, o + k * 2, none⟩ = some (.slice A' bs.length c') ∧ wr.cell? ⟨b, o + k * 2 + 1, none⟩ = some (.int .u64 n) ∧ Bs wr B (.slice A' bs.length c') bs ∧ IsU64 n := by
  have hz : (vs.zip ps)[k]? = some (vs[k]'(by have := h.len; omega), ps[k]) := by
    rw [List.getElem?_eq_getElem (by have := h.len; simp; omega)]; simp
  obtain ⟨b, o, c', hv, _, _, hr⟩ := h.sl.row (by omega)
  cases hv
  have h2 := flat2 _ _ _ hz
  obtain ⟨h3, h4⟩ := h.el k _ hz
  rw [hpk] at h3 h4
  simp only at h3 h4
  obtain ⟨A', c', e, _⟩ := h3.1.form
  rw [e] at h3
  refine ⟨b, o, A', c', rfl, ?_, ?_, ?_, h3.on hb, h4⟩
  · rw [List.getElem?_eq_getElem (by have := h.len; omega), e]
  · rw [hb.cell hr.1, ← e]; exact hr.2 _ _ h2.1
  · rw [hb.cell hr.1, Nat.add_assoc]
    have := hr.2 _ _ h2.2
    rw [hpk] at this
    exact this

theorem own_row_form {w : World} {base : Nat} {e : TypeId} {v : Value} {n : Nat} {xs : List Value} (h : w.ownsRow base e 1 v n xs) (hn : 0 < n) : ∃ g c, v = .slice (some ⟨g, 0, none⟩) n c ∧ base ≤ g ∧ g < w.heap.size ∧ ∀ j u, xs[j]? = some u → w.cell? ⟨g, j, none⟩ = some u := by
  obtain ⟨b, o, c, hv, _, _, hr⟩ := (Sl.of_own h).row hn
  obtain ⟨_, ⟨_, hz⟩ | ⟨g, cap, cur, hv2, hb, hh, _⟩⟩ := h
  · omega
  · rw [hv2] at hv
    cases hv
    exact ⟨_, _, hv2, hb, hr.1, fun j u hu => by have := hr.2 j u hu; rwa [Nat.zero_add] at this⟩

set_option maxRecDepth 100000 in
set_option maxHeartbeats 1000000 in
theorem tableUnlike_early (W : World) (v0 : Value) (ps : List (List Int × Int)) (o0 : PairsAt W W.heap.size v0 ps) (rest : Int) (hr : IsU64 rest) (v2 : Value) (other : List Int) (o2 : Bs W W.heap.size v2 other) (h : 40 < ps.length ∨ other.length ≠ 128 ∨ ¬ Good ps) :
    Calls Try.prog 5 #[v0, .int .u64 rest, v2] W (Awake W) := by
  obtain ⟨A, c, rfl, _⟩ := o0.open
  obtain ⟨A2, c2, rfl, _⟩ := o2.1.form
  have H0 := Lib.hid o0
  have Hr := Lib.hid hr
  clear o0 o2 hr
  by_cases h1 : 40 < ps.length
  · have h2 : decide ((40 : Int) < ps.length) = true := by simp; omega
    clear h h1
    go_enter Try.func5, Try.ntmps5
    go_wp2_with fail
    refine (awake07 W).mono ?_; rintro e w' ⟨rfl, hb⟩
    have Hb := Lib.hid hb
    clear hb
    go_wp2_with fail
    go_ret
    exact ⟨rfl, Hb.out⟩
  · have h2 : decide ((40 : Int) < ps.length) = false := by simp; omega
    by_cases h3 : other.length = 128
    · have h4 : ((other.length : Int) == 128) = true := by simp; omega
      have h5 : ((other.length : Int) != 128) = false := by simp; omega
      have Hg : Hid (¬ Good ps) := by rcases h with h | h | h <;> first | omega | exact h
      have H40 := Lib.hid h1
      clear h h1 h3
      go_enter Try.func5, Try.ntmps5
      go_wp2_with fail
      refine (new_bad W W.heap.size _ ps rest Hr.out H0.out (Nat.le_refl _) (by have := H40.out; omega) Hg.out).mono ?_
      rintro e w1 ⟨rfl, Q1⟩
      have K1 := Lib.hid Q1
      clear Q1
      go_wp2_with fail
      refine (awake07 w1).mono ?_; rintro e w' ⟨rfl, hb⟩
      have Hb : Hid (Below W.heap.size W w') := K1.out.trans (hb.mono K1.out.size)
      clear hb
      go_wp2_with fail
      go_ret
      exact ⟨rfl, Hb.out⟩
    · have h4 : ((other.length : Int) == 128) = false := by simp; omega
      have h5 : ((other.length : Int) != 128) = true := by simp; omega
      clear h h1
      go_enter Try.func5, Try.ntmps5
      go_wp2_with fail
      refine (awake07 W).mono ?_; rintro e w' ⟨rfl, hb⟩
      have Hb := Lib.hid hb
      clear hb
      go_wp2_with fail
      go_ret
      exact ⟨rfl, Hb.out⟩

/-- the blocks, and what they have -/
structure Blocks (W wr : World) (v2 : Value) (other : List Int) (vs : List Value) (ps : List (List Int × Int)) : Prop where
  all : ∀ i, i < ps.length + 1 → ∃ A c, (v2 :: vs)[i]? = some (.slice A 128 c) ∧ Bs wr W.heap.size (.slice A 128 c) ((other :: ps.map Prod.fst).getD i [])

theorem getD_vals {ps : List (List Int × Int)} {other : List Int} {rest : Int} (hg : Good ps) (hno : aget ps other = none) (i : Nat) (hi : i < ps.length + 1) :
    (aget ps ((other :: ps.map Prod.fst).getD i [])).getD rest = (rest :: ps.map Prod.snd).getD i 0 := by
  cases i with
  | zero => simp [List.getD, hno]
  | succ i =>
    have hi' : i < ps.length := by omega
    have := aget_self hg (List.getElem_mem hi')
    simp [List.getD, List.getElem?_eq_getElem hi', this]

set_option maxRecDepth 100000 in
set_option maxHeartbeats 4000000 in
theorem tableUnlike_on (W : World) (v0 : Value) (ps : List (List Int × Int)) (o0 : PairsAt W W.heap.size v0 ps) (rest : Int) (hr : IsU64 rest) (v2 : Value) (other : List Int) (o2 : Bs W W.heap.size v2 other) (h40 : ps.length ≤ 40) (h128 : other.length = 128) (hg : Good ps) :
    Calls Try.prog 5 #[v0, .int .u64 rest, v2] W (Awake W) := by
  obtain ⟨vs, o1⟩ := o0.parts
  obtain ⟨A, c, rfl, _⟩ := o1.sl.form
  obtain ⟨A2, c2, rfl, _⟩ := o2.1.form
  have H0 := Lib.hid o0
  have H1 := Lib.hid o1
  have H2 := Lib.hid o2
  have Hr := Lib.hid hr
  have Hg := Lib.hid hg
  have H40 := Lib.hid h40
  have H128 := Lib.hid h128
  have h2 : decide ((40 : Int) < ps.length) = false := by simp; omega
  have h4 : ((other.length : Int) == 128) = true := by simp; omega
  have h5 : ((other.length : Int) != 128) = false := by simp; omega
  have hl40 : (ps.length : Int) ≤ 40 := by omega
  clear o0 o1 o2 hr hg h40 h128
  go_enter Try.func5, Try.ntmps5
  go_wp2_with fail
  refine (new_good W W.heap.size _ ps rest Hr.out H0.out (Nat.le_refl _) (by have := H40.out; omega) Hg.out).mono ?_
  rintro e w1 ⟨t1, a1, b1, rfl, Q1⟩
  have K1 : Hid (Below W.heap.size W w1 ∧ TabAt w1 t1 a1 b1 ps (often rest ps) rest) := ⟨Q1.2.2.2.2, Q1.2.2.2.1⟩
  clear Q1 h2 h4 h5
  go_wp2_with fail
  go_loopw [41] (fun i wr => ∃ k : Nat, k ≤ ps.length ∧ i = .int .i64 k ∧ Hid ((∀ p ∈ ps.take k, p.1 ≠ other) ∧ Below W.heap.size W wr ∧ TabAt wr t1 a1 b1 ps (often rest ps) rest)) (fun i _ => ps.length - (intOf i).toNat)
  case atStart => exact ⟨0, Nat.zero_le _, rfl, by simp, K1.out.1, K1.out.2⟩
  case round =>
    clear K1
    obtain ⟨k, hk, rfl, K2⟩ := hrel
    by_cases hlt : k < ps.length
    · generalize hpk : ps[k] = pk
      obtain ⟨bs, n⟩ := pk
      obtain ⟨b, o, A', c', rfl, hvk, hcell0, hcell1, hbs, hu⟩ := H1.out.pair K2.out.2.1 k hlt hpk
      have Hbs := Lib.hid hbs
      have Hpk := Lib.hid hpk
      clear hvk hbs hu hpk
      go_wp2_with fail
      refine (equal_any (wr.alloc (.cells #[.slice A' bs.length c', .int .u64 n] 28)) W.heap.size _ _ bs other ⟨Hbs.out.1.alloc K2.out.2.1.size _, Hbs.out.2⟩ ⟨((H2.out.on K2.out.2.1).1).alloc K2.out.2.1.size _, H2.out.2⟩).mono ?_
      rintro e w' ⟨he, rfl⟩
      by_cases hne : bs = other
      · rw [decide_eq_true hne] at he
        subst he
        clear hne
        go_wp2_with fail
        refine (awake07 (wr.alloc (.cells #[.slice A' bs.length c', .int .u64 n] 28))).mono ?_; rintro e w' ⟨rfl, hb⟩
        have Hb : Hid (Below W.heap.size W w') := (K2.out.2.1.alloc K2.out.2.1.size _).trans (hb.mono (Nat.le_trans K2.out.2.1.size (by simp)))
        clear hb
        go_wp2_with fail
        go_ret
        exact ⟨rfl, Hb.out⟩
      · rw [decide_eq_false hne] at he
        subst he
        have Hne := Lib.hid hne
        clear hne
        go_wp2_with fail
        go_roundw
        case rel => exact ⟨k + 1, by omega, by go_num, take_more_ne hlt Hpk.out Hne.out K2.out.1, K2.out.2.1.alloc K2.out.2.1.size _, K2.out.2.2.alloc _⟩
        case measure => simp [intOf]; omega
    · have hk' : k = ps.length := by omega
      subst hk'
      clear hlt hk
      have Hno : Hid (aget ps other = none) := (aget_none _ _).2 (by have := K2.out.1; rwa [List.take_length] at this)
      have Hown : Hid ((wr.alloc (.cells #[.slice A2 other.length c2] 26)).ownsRow wr.heap.size 26 1 (.slice (some ⟨wr.heap.size, 0, none⟩) 1 1) (0 + 1) (.slice A2 other.length c2 :: vs.take 0) ∧ Below wr.heap.size wr (wr.alloc (.cells #[.slice A2 other.length c2] 26))) :=
        ⟨⟨by simp, .inr ⟨wr.heap.size, 1, _, rfl, Nat.le_refl _, heap_alloc_new _ _, Nat.le_refl _, by unfold maxLen; omega, rfl, rfl⟩⟩, (Below.refl _ _).alloc (Nat.le_refl _) _⟩
      obtain ⟨wo, rfl⟩ : ∃ wo : World, wo = wr := ⟨_, rfl⟩
      go_wp2_with fail
      go_loopw [11, 55] (fun bl i w2 => ∃ k : Nat, k ≤ ps.length ∧ i = .int .i64 k ∧ Hid (w2.ownsRow wo.heap.size 26 1 bl (k + 1) (.slice A2 other.length c2 :: vs.take k) ∧ Below wo.heap.size wo w2)) (fun _ i _ => ps.length - (intOf i).toNat)
      case atStart => exact ⟨0, Nat.zero_le _, rfl, Hown⟩
      case round =>
        clear Hown
        obtain ⟨k, hk, rfl, K3⟩ := hrel
        by_cases hlt : k < ps.length
        · generalize hpk : ps[k] = pk
          obtain ⟨bs, n⟩ := pk
          obtain ⟨b, o, A', c', rfl, hvk, hcell0, hcell1, hbs, hu⟩ := H1.out.pair (K2.out.2.1.trans (K3.out.2.mono K2.out.2.1.size)) k hlt hpk
          have Hvk := Lib.hid hvk
          clear hvk hbs hu hpk
          go_wp2_with (first
            | ((with_reducible refine wl_append_row (os := .tmp 59) (ox := .tmp 62) (base := wo.heap.size) (w := (wr.alloc (.cells #[.slice A' bs.length c', .int .u64 n] 28)).alloc (.cells #[.slice A' bs.length c'] 26)) (B := wr.heap.size + 2) (vx := .slice (some ⟨wr.heap.size + 1, 0, none⟩) 1 1) (m := 1) (news := [.slice A' bs.length c']) ((K3.out.1.alloc _).alloc _) ?_ ?_ ?_ ?_ ?_ ?_ ?_);
               go_must ((· exact sl_mk rfl (Nat.le_refl 1) (by unfold maxLen; omega) (by have := row_new (wr.alloc (.cells #[.slice A' bs.length c', .int .u64 n] 28)) [.slice A' bs.length c'] 26; rwa [World.size_alloc] at this)); (· intro u hu; simp at hu; subst hu; rfl); (· have := H40.out; omega); (· have := K3.out.2.size; simp; omega); (· rfl); (· rfl); intro v4 w4 hown4 hg4; have H4 := Lib.hid hown4; have G4 := Lib.hid hg4; clear hown4 hg4)))
          have K4 : Hid (w4.ownsRow wo.heap.size 26 1 v4 (k + 1 + 1) (.slice A2 other.length c2 :: vs.take (k + 1)) ∧ Below wo.heap.size wo w4) := by
            refine ⟨?_, ((K3.out.2.alloc K3.out.2.size _).alloc (by have := K3.out.2.size; simp; omega) _).grown G4.out (by have := K3.out.2.size; simp; omega) (fun k hk => (K3.out.1.lt k hk).1)⟩
            have := H4.out
            have e : vs.take (k + 1) = vs.take k ++ [.slice A' bs.length c'] := by rw [List.take_add_one, Hvk.out]; rfl
            rw [e]
            simpa using this
          clear H4 G4 K3
          go_wp2_with fail
          go_roundw
          case rel => exact ⟨k + 1, by omega, by go_num, K4⟩
          case measure => simp [intOf]; omega
        · have hk' : k = ps.length := by omega
          subst hk'
          clear hlt hk
          have hform := own_row_form K3.out.1 (by omega)
          obtain ⟨g, cb, rfl, hg1, hg2, hcell⟩ := hform
          have hsz : vs.take ps.length = vs := by rw [← H1.out.len, List.take_length]
          rw [hsz] at hcell
          have K5 : Hid (Below W.heap.size W wr ∧ TabAt wr t1 a1 b1 ps (often rest ps) rest) := ⟨K2.out.2.1.trans (K3.out.2.mono K2.out.2.1.size), K2.out.2.2.on K3.out.2⟩
          have Hblk : Hid (∀ i, i < ps.length + 1 → ∃ A c bs, wr.cell? ⟨g, i, none⟩ = some (.slice A bs.length c) ∧ Bs wr W.heap.size (.slice A bs.length c) bs ∧ bs.length = 128 ∧ (aget ps bs).getD rest = (rest :: ps.map Prod.snd).getD i 0) := by
            intro i hi
            cases i with
            | zero => exact ⟨A2, c2, other, hcell 0 _ rfl, H2.out.on K5.out.1, H128.out, by simp [List.getD, Hno.out]⟩
            | succ i =>
              have hi' : i < ps.length := by omega
              generalize hpi : ps[i] = pi
              obtain ⟨bs, n⟩ := pi
              obtain ⟨b, o, A', c', rfl, hvk, _, _, hbs, hu⟩ := H1.out.pair K5.out.1 i hi' hpi
              have hm : ps[i] ∈ ps := List.getElem_mem hi'
              have h3 := aget_self Hg.out hm
              have h4 := Hg.out.1 _ hm
              rw [hpi] at h3 h4
              exact ⟨A', c', bs, hcell (i + 1) _ (by simpa using hvk), hbs, h4, by simp [List.getD, List.getElem?_eq_getElem hi', hpi, h3]⟩
          have Hlen : Hid ((rest :: ps.map Prod.snd).length = ps.length + 1) := by show _ = _; simp
          clear hcell hsz hg1 hg2 K2 K3 Hno
          generalize hvals : (rest :: ps.map Prod.snd) = vals at *
          have Hvals := Lib.hid hvals
          clear hvals
          obtain ⟨wo, rfl⟩ : ∃ wo : World, wo = wr := ⟨_, rfl⟩
          go_wp2_with fail
          go_loopw [14, 67] (fun al i w2 => ∃ k : Nat, k ≤ ps.length + 1 ∧ i = .int .i64 k ∧ al = .bool (alikeB vals k 0) ∧ ∃ m, w2 = wo.drewN m) (fun _ i _ => ps.length + 1 - (intOf i).toNat)
          case atStart => exact ⟨0, Nat.zero_le _, rfl, by rw [alikeB_zero], 0, rfl⟩
          case round =>
            obtain ⟨k, hk, rfl, rfl, m, rfl⟩ := hrel
            by_cases hlt : k < ps.length + 1
            · obtain ⟨Ak, ck, bk, hck, hbk, hlk, hvk⟩ := Hblk.out k hlt
              have Hbk := Lib.hid hbk
              have Hlk := Lib.hid hlk
              have Hvk := Lib.hid hvk
              clear hbk hlk hvk
              have hd : decide ((k : Int) < (ps.length : Int) + 1) = true := by simp; omega
              go_wp2_with fail
              go_loopw [14, 71] (fun al i w2 => ∃ j : Nat, j ≤ k ∧ i = .int .i64 j ∧ al = .bool (alikeB vals k j) ∧ ∃ m, w2 = wo.drewN m) (fun _ i _ => k - (intOf i).toNat)
              case atStart => exact ⟨0, Nat.zero_le _, rfl, rfl, m, rfl⟩
              case round =>
                obtain ⟨j, hj, rfl, rfl, m', rfl⟩ := hrel
                by_cases hjlt : j < k
                · obtain ⟨Aj, cj, bj, hcj, hbj, hlj, hvj⟩ := Hblk.out j (by omega)
                  have Hbj := Lib.hid hbj
                  have Hlj := Lib.hid hlj
                  have Hvj := Lib.hid hvj
                  have Hst : Hid (alikeB vals k (j + 1) = (alikeB vals k j || (vals.getD k 0 == vals.getD j 0))) := alikeB_step vals k j (by have := Hlen.out; omega)
                  clear hbj hlj hvj
                  go_wp2_with fail
                  refine (print_any (wo.drewN m') W.heap.size t1 a1 b1 ps _ rest _ bk Hbk.out K5.out.2).mono ?_
                  rintro e w' ⟨he, n6, rfl⟩
                  rw [if_pos Hlk.out, if_pos Hlk.out, Hvk.out] at he
                  subst he
                  go_wp2_with fail
                  refine (print_any (wo.drewN (m' + n6)) W.heap.size t1 a1 b1 ps _ rest _ bj Hbj.out K5.out.2).mono ?_
                  rintro e w' ⟨he, n7, rfl⟩
                  rw [if_pos Hlj.out, if_pos Hlj.out, Hvj.out] at he
                  subst he
                  cases hal : alikeB vals k j
                  all_goals
                    have Hal := Lib.hid hal
                    clear hal
                    go_wp2_with fail
                    go_roundw
                    case rel => exact ⟨j + 1, by omega, by go_num, by rw [Hst.out, Hal.out]; simp, _, rfl⟩
                    case measure => simp [intOf]; omega
                · have hj' : j = k := by omega
                  subst hj'
                  clear hjlt hj
                  have Hst : Hid (alikeB vals j j = alikeB vals (j + 1) 0) := alikeB_next vals j (by have := Hlen.out; omega)
                  go_wp2_with fail
                  go_roundw
                  case rel => exact ⟨j + 1, by omega, by go_num, by rw [Hst.out], _, rfl⟩
                  case measure => simp [intOf]; omega
            · have hk' : k = ps.length + 1 := by omega
              subst hk'
              clear hlt hk
              have Hst : Hid (alikeB vals (ps.length + 1) 0 = decide (¬ Unl rest ps)) := by
                have e := alikeB_all vals
                rw [Hlen.out] at e
                show _ = _
                rw [e]
                refine decide_eq_decide.2 ?_
                rw [← Hvals.out]
                exact Iff.rfl
              go_wp2_with fail
              refine (unlike_any (wo.drewN m) t1 a1 b1 _ _ rest K5.out.2 (by have := H40.out; omega)).mono ?_
              rintro e w' ⟨he, n8, rfl⟩
              rw [often_dec] at he
              subst he
              by_cases hu : Unl rest ps
              · have hu1 : decide (Unl rest ps) = true := decide_eq_true hu
                have hu2 : alikeB vals (ps.length + 1) 0 = false := by rw [Hst.out]; simp [hu]
                rw [hu1, hu2]
                clear hu hu1 hu2
                go_wp2_with fail
                refine (awake07 (wo.drewN (m + n8))).mono ?_; rintro e w' ⟨rfl, hb⟩
                have Hb : Hid (Below W.heap.size W w') := (below_drewN K5.out.1 _).trans (hb.mono K5.out.1.size)
                clear hb
                go_wp2_with fail
                go_ret
                exact ⟨rfl, Hb.out⟩
              · have hu1 : decide (Unl rest ps) = false := decide_eq_false hu
                have hu2 : alikeB vals (ps.length + 1) 0 = true := by rw [Hst.out]; simp [hu]
                rw [hu1, hu2]
                clear hu hu1 hu2
                go_wp2_with fail
                refine (awake07 (wo.drewN (m + n8))).mono ?_; rintro e w' ⟨rfl, hb⟩
                have Hb : Hid (Below W.heap.size W w') := (below_drewN K5.out.1 _).trans (hb.mono K5.out.1.size)
                clear hb
                go_wp2_with fail
                go_ret
                exact ⟨rfl, Hb.out⟩

theorem tableUnlike_walk (W : World) (v0 : Value) (ps : List (List Int × Int)) (o0 : PairsAt W W.heap.size v0 ps) (rest : Int) (hr : IsU64 rest) (v2 : Value) (other : List Int) (o2 : Bs W W.heap.size v2 other) :
    Calls Try.prog 5 #[v0, .int .u64 rest, v2] W (Awake W) := by
  by_cases h : 40 < ps.length ∨ other.length ≠ 128 ∨ ¬ Good ps
  · exact tableUnlike_early W v0 ps o0 rest hr v2 other o2 h
  · refine tableUnlike_on W v0 ps o0 rest hr v2 other o2 (by omega) (by omega) (Classical.byContradiction fun hg => h (.inr (.inr hg)))
end Go.Proofs.Yticdmiomkmaaoaa
