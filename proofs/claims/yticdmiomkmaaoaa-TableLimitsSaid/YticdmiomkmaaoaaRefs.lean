/-
  The contracts of the references of the table's layer: the error of New, Print, Unlike.
-/
import Derived.Test.YticdmiomkmaaoaaNew
namespace Go.Proofs.Yticdmiomkmaaoaa
open Go.RowKit
open Go.Maps (Keyed)

def PairAt (w : World) (B : Nat) (A : Option Addr) (ps : List (List Int × Int)) : Prop :=
  ∀ k (hk : k < ps.length), ∃ b o vk, A = some ⟨b, o, none⟩ ∧ b < B ∧ w.cell? ⟨b, o + k * 2, none⟩ = some vk ∧ w.cell? ⟨b, o + k * 2 + 1, none⟩ = some (.int .u64 ps[k].2) ∧ Bs w B vk ps[k].1 ∧ IsU64 ps[k].2

theorem PairsAt.open {w : World} {B : Nat} {v : Value} {ps : List (List Int × Int)} (h : PairsAt w B v ps) : ∃ A c, v = .slice A ps.length c ∧ PairAt w B A ps := by
  obtain ⟨vs, hvl, hs, hps⟩ := h
  obtain ⟨A, c, rfl, hc, hm⟩ := hs.form
  exact ⟨A, c, rfl, fun k hk => pair_at hvl hs hps k hk⟩

theorem convN {w : World} {B : Nat} {v : Value} {bs : List Int} (h : Bs w B v bs) (n : Nat) : (convert 26 9 v).run Try.prog (w.drewN n) = .ok (.string (strOfNums bs)) (w.drewN n) :=
  Bs.convert (w := w.drewN n) h uBytes uByte uString

set_option maxRecDepth 100000 in
set_option maxHeartbeats 1000000 in
theorem refPrint_any (w : World) (B : Nat) (v x : Value) (ps : List (List Int × Int)) (rest : Int) (bs : List Int) (hv : PairsAt w B v ps) (hx : Bs w B x bs) (hl : ps.length ≤ 1000) :
    Calls Try.prog 20 #[v, .int .u64 rest, x] w fun e w' =>
      e = .returned (.tuple #[.int .u64 (if bs.length = 128 then (aget ps bs).getD rest else 0), .int .i64 (if bs.length = 128 then 0 else 2)]) ∧ ∃ n, w' = w.drewN n := by
  obtain ⟨A, c, rfl, hp⟩ := hv.open
  obtain ⟨A', c', rfl, hcc, hmm⟩ := hx.1.form
  have Hp := Lib.hid hp
  have Hx := Lib.hid hx
  clear hp hv hmm hcc
  by_cases h128 : bs.length = 128
  · have hl1 : ((bs.length : Int) == 128) = true := by simp; omega
    have hl2 : ((bs.length : Int) != 128) = false := by simp; omega
    have H128 := Lib.hid h128
    simp only [h128, ↓reduceIte]
    rw [h128] at hx hl1 hl2
    have hcx := fun n => convN hx n
    clear h128 hx
    go_enter Try.func20, Try.ntmps20
    go_wp2
    go_loopw [8] (fun i wr => ∃ k : Nat, k ≤ ps.length ∧ i = .int .i64 k ∧ Hid (∀ p ∈ ps.take k, p.1 ≠ bs) ∧ ∃ m, wr = w.drewN m) (fun i _ => ps.length - (intOf i).toNat)
    case atStart => exact ⟨0, Nat.zero_le _, rfl, (by intro p hp; simp at hp), 0, rfl⟩
    case round =>
      obtain ⟨k, hk, rfl, Hno, m, rfl⟩ := hrel
      by_cases hlt : k < ps.length
      · obtain ⟨b, o, vk, rfl, hb, hc0, hc1, hbs, hu⟩ := Hp.out k hlt
        obtain ⟨A2, c2, rfl, hcc2, hm2⟩ := hbs.1.form
        have hck := fun n => convN hbs n
        have hby := hbs.2
        have hbx := Hx.out.2
        have heq := str_eqL hby hbx
        generalize hpk : ps[k] = pk at *
        obtain ⟨b2, n2⟩ := pk
        simp only at hc0 hc1 hck heq
        have Hpk := Lib.hid hpk
        clear hcc2 hm2 hby hbx hbs hu hpk hb
        by_cases he : b2 = bs
        · rw [decide_eq_true he] at heq
          have He := Lib.hid he
          clear he
          go_wp2_with fail
          go_quiet (fail)
          go_wp2
          go_ret2
          exact ⟨ret_ints (by have h1 := Hpk.out; rw [He.out] at h1; rw [aget_first hlt h1 Hno.out]; rfl) rfl, _, rfl⟩
        · rw [decide_eq_false he] at heq
          have He := Lib.hid he
          clear he
          go_wp2_with fail
          go_quiet (fail)
          go_wp2
          go_roundw
          case rel => exact ⟨k + 1, by omega, by go_num, take_more_ne hlt Hpk.out He.out Hno.out, _, rfl⟩
          case measure => simp [intOf]; omega
      · have hk' : k = ps.length := by omega
        subst hk'
        clear hlt hk
        go_wp2
        go_ret2
        exact ⟨ret_ints (by rw [(aget_none ps bs).2 (by have := Hno.out; rwa [List.take_length] at this)]; rfl) rfl, _, rfl⟩
  · have hl1 : ((bs.length : Int) == 128) = false := by simp; omega
    have hl2 : ((bs.length : Int) != 128) = true := by simp; omega
    simp only [h128, ↓reduceIte]
    clear hx h128
    go_enter Try.func20, Try.ntmps20
    go_wp2
    go_ret2
    exact ⟨rfl, 0, rfl⟩

theorem good_take_succ {ps : List (List Int × Int)} {k : Nat} (hk : k < ps.length) {bs : List Int} {n : Int} (h : ps[k] = (bs, n)) (h0 : Good (ps.take k)) (h1 : ∀ p ∈ ps.take k, p.1 ≠ bs) (h2 : bs.length = 128) : Good (ps.take (k + 1)) :=
  (good_more (hlt := hk) h h0 ((aget_none _ _).2 h1) h2).1

theorem twice_bad {ps : List (List Int × Int)} {i k : Nat} (hi : i < ps.length) (hk : k < i) {bs : List Int} {n m : Int} (h : ps[i] = (bs, n)) (h1 : ps[k] = (bs, m)) : ¬ Good ps := by
  intro hg
  have h2 := hg.2
  rw [List.Nodup, List.pairwise_iff_getElem] at h2
  have := h2 k i (by simp; omega) (by simpa using hi) hk
  simp [h, h1] at this

set_option maxRecDepth 100000 in
set_option maxHeartbeats 1000000 in
theorem refNew_any (w : World) (B : Nat) (v : Value) (ps : List (List Int × Int)) (hv : PairsAt w B v ps) (hm : ps.length < 1000000) :
    Calls Try.prog 17 #[v] w fun e w' => e = .returned (.int .i64 (newErr ps)) ∧ ∃ n, w' = w.drewN n := by
  obtain ⟨A, c, rfl, hp⟩ := hv.open
  have Hp := Lib.hid hp
  clear hp hv
  by_cases hl : 1000 < ps.length
  · have hl' : (1000 : Int) < ps.length := by omega
    have e : newErr ps = 3 := if_pos hl
    rw [e]
    clear hl e
    go_enter Try.func17, Try.ntmps17
    go_wp2
    go_ret
    exact ⟨rfl, 0, rfl⟩
  · have hl' : ¬ (1000 : Int) < ps.length := by omega
    have He : Hid (newErr ps = if Good ps then 0 else 70) := if_neg hl
    clear hl
    go_enter Try.func17, Try.ntmps17
    go_wp2
    go_loopw [3] (fun i wr => ∃ k : Nat, k ≤ ps.length ∧ i = .int .i64 k ∧ Hid (Good (ps.take k)) ∧ ∃ m, wr = w.drewN m) (fun i _ => ps.length - (intOf i).toNat)
    case atStart => exact ⟨0, Nat.zero_le _, rfl, ⟨by simp, by simp⟩, 0, rfl⟩
    case round =>
      obtain ⟨k, hk, rfl, Hg, m, rfl⟩ := hrel
      by_cases hlt : k < ps.length
      · obtain ⟨b, o, vk, rfl, hb, hc0, hc1, hbs, hu⟩ := Hp.out k hlt
        obtain ⟨A2, c2, rfl, hcc2, hm2⟩ := hbs.1.form
        have hck := fun n => convN hbs n
        have Hby := Lib.hid hbs.2
        generalize hpk : ps[k] = pk at *
        obtain ⟨b2, n2⟩ := pk
        simp only at hc0 hc1 hck Hby
        have Hpk := Lib.hid hpk
        clear hcc2 hm2 hbs hu hpk hb
        by_cases h128 : b2.length = 128
        · have hl1 : ((b2.length : Int) == 128) = true := by simp; omega
          have hl2 : ((b2.length : Int) != 128) = false := by simp; omega
          have H128 := Lib.hid h128
          clear h128
          go_wp2
          go_loopw [4] (fun i wr => ∃ j : Nat, j ≤ k ∧ i = .int .i64 j ∧ Hid (∀ p ∈ ps.take j, p.1 ≠ b2) ∧ ∃ m, wr = w.drewN m) (fun i _ => k - (intOf i).toNat)
          case atStart => exact ⟨0, Nat.zero_le _, rfl, (by intro p hp; simp at hp), m, rfl⟩
          case round =>
            obtain ⟨j, hj, rfl, Hno, m', rfl⟩ := hrel
            by_cases hjlt : j < k
            · obtain ⟨b', o', vj, hbb, hb', hd0, hd1, hbs', hu'⟩ := Hp.out j (by omega)
              cases hbb
              obtain ⟨A3, c3, rfl, hcc3, hm3⟩ := hbs'.1.form
              have hcj := fun n => convN hbs' n
              have heq := str_eqL hbs'.2 Hby.out
              have hjl : j < ps.length := by omega
              generalize hpj : ps[j]'hjl = pj at *
              obtain ⟨b3, n3⟩ := pj
              simp only at hd0 hd1 hcj heq
              have Hpj := Lib.hid hpj
              clear hcc3 hm3 hbs' hu' hpj hb'
              by_cases he : b3 = b2
              · rw [decide_eq_true he] at heq
                have He2 := Lib.hid he
                clear he
                go_wp2_with fail
                go_quiet (fail)
                go_wp2
                go_ret
                exact ⟨ret_int (by rw [He.out, if_neg (twice_bad hlt hjlt Hpk.out (by rw [Hpj.out, He2.out]))]), _, World.drewN_drewN ..⟩
              · rw [decide_eq_false he] at heq
                have He2 := Lib.hid he
                clear he
                go_wp2_with fail
                go_quiet (fail)
                go_wp2
                go_roundw
                case rel => exact ⟨j + 1, by omega, by go_num, take_more_ne hjl Hpj.out He2.out Hno.out, _, rfl⟩
                case measure => simp [intOf]; omega
            · have hj' : j = k := by omega
              subst hj'
              clear hjlt hj
              go_wp2
              go_roundw
              case rel => exact ⟨j + 1, by omega, by go_num, good_take_succ hlt Hpk.out Hg.out Hno.out H128.out, _, rfl⟩
              case measure => simp [intOf]; omega
        · have hl1 : ((b2.length : Int) == 128) = false := by simp; omega
          have hl2 : ((b2.length : Int) != 128) = true := by simp; omega
          have H128 := Lib.hid h128
          clear h128
          go_wp2
          go_ret
          exact ⟨ret_int (by rw [He.out, if_neg (bad_len (hlt := hlt) Hpk.out H128.out)]), _, rfl⟩
      · have hk' : k = ps.length := by omega
        subst hk'
        clear hlt hk
        go_wp2
        go_ret
        exact ⟨ret_int (by rw [He.out, if_pos (by have := Hg.out; rwa [List.take_length] at this)]), _, rfl⟩

def Unl (rest : Int) (ps : List (List Int × Int)) : Prop := (rest :: ps.map Prod.snd).Nodup
instance (rest : Int) (ps : List (List Int × Int)) : Decidable (Unl rest ps) := by unfold Unl; infer_instance

theorem unl_more {rest : Int} {ps : List (List Int × Int)} {k : Nat} (hk : k < ps.length) {bs : List Int} {n : Int} (h : ps[k] = (bs, n)) (h0 : Unl rest (ps.take k)) (h1 : ¬ n = rest) (h2 : ∀ p ∈ ps.take k, p.2 ≠ n) : Unl rest (ps.take (k + 1)) := by
  rw [List.take_succ_eq_append_getElem hk, h]
  unfold Unl at *
  simp only [List.map_append, List.map_cons, List.map_nil, List.nodup_cons, List.nodup_append, List.mem_append] at *
  refine ⟨?_, h0.2, by simp, fun a ha b hb => ?_⟩
  · rintro (h3 | h3)
    · exact h0.1 h3
    · simp at h3; exact h1 h3.symm
  · obtain ⟨p, hp, rfl⟩ := List.mem_map.1 ha
    simp at hb; subst hb
    exact h2 p hp

theorem take_more_ne2 {l : List (List Int × Int)} {k : Nat} (hk : k < l.length) {a : List Int} {b x : Int} (hl : l[k] = (a, b)) (hne : ¬ b = x) (h : ∀ p ∈ l.take k, p.2 ≠ x) : ∀ p ∈ l.take (k + 1), p.2 ≠ x := by
  rw [List.take_succ_eq_append_getElem hk, hl]
  intro p hp
  rcases List.mem_append.1 hp with hp | hp
  · exact h p hp
  · simp at hp; subst hp; exact hne

theorem unl_rest {rest : Int} {ps : List (List Int × Int)} {k : Nat} (hk : k < ps.length) {bs : List Int} {n : Int} (h : ps[k] = (bs, n)) (h1 : n = rest) : ¬ Unl rest ps := by
  intro h0
  refine (List.nodup_cons.1 h0).1 (List.mem_map.2 ⟨ps[k], List.getElem_mem hk, by rw [h]; exact h1⟩)

theorem unl_twice {rest : Int} {ps : List (List Int × Int)} {i k : Nat} (hi : i < ps.length) (hk : k < i) {bs bs' : List Int} {n : Int} (h : ps[i] = (bs, n)) (h1 : ps[k] = (bs', n)) : ¬ Unl rest ps := by
  intro hg
  have h2 := (List.nodup_cons.1 hg).2
  rw [List.Nodup, List.pairwise_iff_getElem] at h2
  have := h2 k i (by simp; omega) (by simpa using hi) hk
  simp [h, h1] at this

set_option maxRecDepth 100000 in
set_option maxHeartbeats 1000000 in
theorem refUnlike_any (w : World) (B : Nat) (v : Value) (ps : List (List Int × Int)) (rest : Int) (hv : PairsAt w B v ps) (hm : ps.length < 1000000) :
    Calls Try.prog 23 #[v, .int .u64 rest] w fun e w' => e = .returned (.bool (decide (Unl rest ps))) ∧ ∃ n, w' = w.drewN n := by
  obtain ⟨A, c, rfl, hp⟩ := hv.open
  have Hp := Lib.hid hp
  clear hp hv
  go_enter Try.func23, Try.ntmps23
  go_wp2
  go_loopw [5] (fun i wr => ∃ k : Nat, k ≤ ps.length ∧ i = .int .i64 k ∧ Hid (Unl rest (ps.take k)) ∧ ∃ m, wr = w.drewN m) (fun i _ => ps.length - (intOf i).toNat)
  case atStart => exact ⟨0, Nat.zero_le _, rfl, (by simp [Hid, Unl]), 0, rfl⟩
  case round =>
    obtain ⟨k, hk, rfl, Hg, m, rfl⟩ := hrel
    by_cases hlt : k < ps.length
    · obtain ⟨b, o, vk, rfl, hb, hc0, hc1, hbs, hu⟩ := Hp.out k hlt
      generalize hpk : ps[k] = pk at *
      obtain ⟨b2, n2⟩ := pk
      simp only at hc0 hc1
      have Hpk := Lib.hid hpk
      clear hbs hu hpk hb
      by_cases hn : n2 = rest
      · have hn1 : (n2 == rest) = true := by simpa using hn
        have Hn := Lib.hid hn
        clear hn
        go_wp2
        go_ret
        exact ⟨ret_bool (decide_eq_false (unl_rest hlt Hpk.out Hn.out)).symm, _, rfl⟩
      · have hn1 : (n2 == rest) = false := by simpa using hn
        have Hn := Lib.hid hn
        clear hn
        go_wp2
        go_loopw [6] (fun i wr => ∃ j : Nat, j ≤ k ∧ i = .int .i64 j ∧ Hid (∀ p ∈ ps.take j, p.2 ≠ n2) ∧ ∃ m, wr = w.drewN m) (fun i _ => k - (intOf i).toNat)
        case atStart => exact ⟨0, Nat.zero_le _, rfl, (by intro p hp; simp at hp), m, rfl⟩
        case round =>
          obtain ⟨j, hj, rfl, Hno, m', rfl⟩ := hrel
          by_cases hjlt : j < k
          · obtain ⟨b', o', vj, hbb, hb', hd0, hd1, hbs', hu'⟩ := Hp.out j (by omega)
            cases hbb
            have hjl : j < ps.length := by omega
            generalize hpj : ps[j]'hjl = pj at *
            obtain ⟨b3, n3⟩ := pj
            simp only at hd0 hd1
            have Hpj := Lib.hid hpj
            clear hbs' hu' hpj hb'
            by_cases he : n3 = n2
            · have hn1 : (n3 == n2) = true := by simpa using he
              have He2 := Lib.hid he
              clear he
              go_wp2_with fail
              go_quiet (fail)
              go_wp2
              go_ret
              exact ⟨ret_bool (decide_eq_false (unl_twice hlt hjlt Hpk.out (by rw [Hpj.out, He2.out]))).symm, _, World.drewN_drewN ..⟩
            · have hn1 : (n3 == n2) = false := by simpa using he
              have He2 := Lib.hid he
              clear he
              go_wp2_with fail
              go_quiet (fail)
              go_wp2
              go_roundw
              case rel => exact ⟨j + 1, by omega, by go_num, take_more_ne2 hjl Hpj.out He2.out Hno.out, _, rfl⟩
              case measure => simp [intOf]; omega
          · have hj' : j = k := by omega
            subst hj'
            clear hjlt hj
            go_wp2
            go_roundw
            case rel => exact ⟨j + 1, by omega, by go_num, unl_more hlt Hpk.out Hg.out Hn.out Hno.out, _, rfl⟩
            case measure => simp [intOf]; omega
    · have hk' : k = ps.length := by omega
      subst hk'
      clear hlt hk
      go_wp2
      go_ret
      exact ⟨ret_bool (decide_eq_true (by have := Hg.out; rwa [List.take_length] at this)).symm, _, rfl⟩
end Go.Proofs.Yticdmiomkmaaoaa
