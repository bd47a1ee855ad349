/-
  The walk of TableRest.
-/
import Derived.Test.YticdmiomkmaaoaaOpen07
import Derived.Test.YticdmiomkmaaoaaApp
import Derived.Test.YticdmiomkmaaoaaTabMath
namespace Go.Proofs.Yticdmiomkmaaoaa
open Go.RowKit

def pairCells (vs : List Value) (ps : List (List Int × Int)) : List Value := (vs.zip ps).flatMap fun (x : Value × List Int × Int) => [x.1, Value.int .u64 x.2.2]

theorem infoPair : (Try.prog.info? 28).map (fun i => (i.zero, i.size, i.bytes)) = some (some (.agg #[.slice none 0 0, .int .u64 0]), 2, 32) := by kernel_rfl

section
variable {ops : Array Oper} {w : World} {Q : Exit → Act → World → Prop} {a : Act} {rest : List Oper} {dst : Option Tmp} {os ox : Operand} {ty : TypeId} {pos : String} {after : Array Edge}
theorem wl_append_pair {base : Nat} {v : Value} {n : Nat} {xs : List Value} (hown : w.ownsRow base 28 2 v n xs) {B : Nat} {vx : Value} {m : Nat} {news : List Value} (hx : Sl w B 2 vx m news)
    (h1 : ∀ u ∈ news, u.oneCell' = true) (hb : n + m ≤ 1000000) (hbase : base ≤ w.heap.size) (hs : a.eval os = v) (hxx : a.eval ox = vx)
    (hK : ∀ v' w', w'.ownsRow base 28 2 v' (n + m) (xs ++ news) → w.grownBy w' v.ownBlock → wpList Try.prog ops Q rest (a.put dst v') w') :
    wpList Try.prog ops Q (⟨dst, .call { callee := .builtin .append, args := #[os, ox], argTypes := #[22, 22] }, ty, pos, after, none⟩ :: rest) a w :=
  wl_append base 22 28 _ 2 32 Try.underlying22 infoPair rfl (by omega) v n xs hown vx m news hx h1 (by unfold maxLen; omega) (by omega) hbase hs hxx hK
end

theorem pairCells_one (vs : List Value) (ps : List (List Int × Int)) (h : ∀ v ∈ vs, ∃ A n c, v = .slice A n c) : ∀ u ∈ pairCells vs ps, u.oneCell' = true := by
  intro u hu
  obtain ⟨x, hx, hu⟩ := List.mem_flatMap.1 hu
  obtain ⟨A, n, c, hv⟩ := h x.1 (List.of_mem_zip hx).1
  simp at hu
  rcases hu with rfl | rfl
  · rw [hv]; rfl
  · rfl

/-- the parts of PairsAt -/
structure PairsIn (w : World) (B : Nat) (v : Value) (vs : List Value) (ps : List (List Int × Int)) : Prop where
  len : vs.length = ps.length
  sl : Sl w B 2 v ps.length (pairCells vs ps)
  el : ∀ (i : Nat) (x : Value × List Int × Int), (vs.zip ps)[i]? = some x → Bs w B x.1 x.2.1 ∧ IsU64 x.2.2
theorem PairsAt.parts {w : World} {B : Nat} {v : Value} {ps : List (List Int × Int)} (h : PairsAt w B v ps) : ∃ vs, PairsIn w B v vs ps := by
  obtain ⟨vs, h1, h2, h3⟩ := h
  exact ⟨vs, h1, h2, h3⟩
theorem PairsIn.at_ {w : World} {B : Nat} {v : Value} {vs : List Value} {ps : List (List Int × Int)} (h : PairsIn w B v vs ps) : PairsAt w B v ps := ⟨vs, h.len, h.sl, h.el⟩
theorem PairsIn.keep {w w' : World} {B : Nat} {v : Value} {vs : List Value} {ps : List (List Int × Int)} (h : PairsIn w B v vs ps) (hk : ∀ p : Addr, p.block < B → w'.cell? p = w.cell? p) : PairsIn w' B v vs ps :=
  ⟨h.len, h.sl.keep hk, fun i x hx => ⟨⟨(h.el i x hx).1.1.keep hk, (h.el i x hx).1.2⟩, (h.el i x hx).2⟩⟩
theorem PairsIn.on {w w' : World} {B : Nat} {v : Value} {vs : List Value} {ps : List (List Int × Int)} (h : PairsIn w B v vs ps) (hb : Below B w w') : PairsIn w' B v vs ps := h.keep fun _ hp => hb.cell hp
theorem PairsIn.slices {w : World} {B : Nat} {v : Value} {vs : List Value} {ps : List (List Int × Int)} (h : PairsIn w B v vs ps) : ∀ u ∈ vs, ∃ A n c, u = .slice A n c := by
  intro u hu
  obtain ⟨i, hi, rfl⟩ := List.getElem_of_mem hu
  have hz : (vs.zip ps)[i]? = some (vs[i], ps[i]'(by have := h.len; omega)) := by
    rw [List.getElem?_eq_getElem (by have := h.len; simp; omega)]; simp
  obtain ⟨A, c, e, _⟩ := (h.el i _ hz).1.1.form
  exact ⟨A, _, c, e⟩

theorem pairsAt_snoc {w : World} {base : Nat} {v v2 : Value} {vs : List Value} {ps : List (List Int × Int)} {bs : List Int} {n : Int} (hvl : vs.length = ps.length) {m : Nat} (hm : m = ps.length + 1)
    (hown : w.ownsRow base 28 2 v m (pairCells vs ps ++ [v2, .int .u64 n]))
    (hps : ∀ (i : Nat) (x : Value × List Int × Int), (vs.zip ps)[i]? = some x → Bs w w.heap.size x.1 x.2.1 ∧ IsU64 x.2.2) (hv : Bs w w.heap.size v2 bs) (hn : IsU64 n) : PairsIn w w.heap.size v (vs ++ [v2]) (ps ++ [(bs, n)]) := by
  subst hm
  have hz : (vs ++ [v2]).zip (ps ++ [(bs, n)]) = vs.zip ps ++ [(v2, bs, n)] := by rw [List.zip_append hvl]; rfl
  refine ⟨by simp [hvl], ?_, fun i x hx => ?_⟩
  · have := Sl.of_own hown
    rw [List.length_append]
    unfold pairCells at *
    rw [hz, List.flatMap_append]
    exact this
  · rw [hz] at hx
    rcases Nat.lt_or_ge i (vs.zip ps).length with h | h
    · rw [List.getElem?_append_left h] at hx
      exact hps i x hx
    · rw [List.getElem?_append_right h] at hx
      generalize hii : i - (vs.zip ps).length = ii at hx
      have : ii = 0 := by
        rcases Nat.eq_zero_or_pos ii with h2 | h2
        · exact h2
        · rw [List.getElem?_eq_none (by simp; omega)] at hx; cases hx
      rw [this] at hx
      simp at hx; subst hx
      exact ⟨hv, hn⟩

theorem Bs.on {w w' : World} {B : Nat} {v : Value} {bs : List Int} (h : Bs w B v bs) (hb : Below B w w') : Bs w' B v bs := ⟨h.1.below hb, h.2⟩
theorem Bs.more {w : World} {B B' : Nat} {v : Value} {bs : List Int} (h : Bs w B v bs) (hB : B ≤ B') : Bs w B' v bs := ⟨h.1.more hB, h.2⟩

set_option maxRecDepth 100000 in
set_option maxHeartbeats 1000000 in
theorem tableRest_early (W : World) (v0 : Value) (ps : List (List Int × Int)) (o0 : PairsAt W W.heap.size v0 ps) (rest : Int) (v2 : Value) (other : List Int) (o2 : Bs W W.heap.size v2 other) (h : 40 < ps.length ∨ other.length ≠ 128) :
    Calls Try.prog 6 #[v0, .int .u64 rest, v2] W (Awake W) := by
  obtain ⟨A, c, rfl, _⟩ := o0.open
  obtain ⟨A2, c2, rfl, _⟩ := o2.1.form
  clear o0 o2
  by_cases h1 : 40 < ps.length
  · have h2 : decide ((40 : Int) < ps.length) = true := by simp; omega
    clear h h1
    go_enter Try.func6, Try.ntmps6
    go_wp2_with fail
    refine (awake07 W).mono ?_; rintro e w' ⟨rfl, hb⟩
    have Hb := Lib.hid hb
    clear hb
    go_wp2_with fail
    go_ret
    exact ⟨rfl, Hb.out⟩
  · have h2 : decide ((40 : Int) < ps.length) = false := by simp; omega
    have h4 : ((other.length : Int) == 128) = false := by simp; omega
    have h5 : ((other.length : Int) != 128) = true := by simp; omega
    clear h h1
    go_enter Try.func6, Try.ntmps6
    go_wp2_with fail
    refine (awake07 W).mono ?_; rintro e w' ⟨rfl, hb⟩
    have Hb := Lib.hid hb
    clear hb
    go_wp2_with fail
    go_ret
    exact ⟨rfl, Hb.out⟩

set_option maxRecDepth 100000 in
set_option maxHeartbeats 2000000 in
theorem tableRest_on (W : World) (v0 : Value) (ps : List (List Int × Int)) (o0 : PairsAt W W.heap.size v0 ps) (rest : Int) (hr : IsU64 rest) (v2 : Value) (other : List Int) (o2 : Bs W W.heap.size v2 other) (h40 : ps.length ≤ 40) (h128 : other.length = 128) (hg : Good ps) :
    Calls Try.prog 6 #[v0, .int .u64 rest, v2] W (Awake W) := by
  obtain ⟨vs, o1⟩ := o0.parts
  obtain ⟨A, c, rfl, _⟩ := o1.sl.form
  obtain ⟨A2, c2, rfl, _⟩ := o2.1.form
  have H0 := Lib.hid o0
  have H1 := Lib.hid o1
  have H2 := Lib.hid o2
  have Hr := Lib.hid hr
  have Hg := Lib.hid hg
  have H40 := Lib.hid h40
  have H128 := Lib.hid h128
  have h2 : decide ((40 : Int) < ps.length) = false := by simp; omega
  have h4 : ((other.length : Int) == 128) = true := by simp; omega
  have h5 : ((other.length : Int) != 128) = false := by simp; omega
  clear o0 o1 o2 hr hg h40 h128
  go_enter Try.func6, Try.ntmps6
  go_wp2_with fail
  refine (new_good W W.heap.size _ ps rest Hr.out H0.out (Nat.le_refl _) (by have := H40.out; omega) Hg.out).mono ?_
  rintro e w1 ⟨t1, a1, b1, rfl, Q1⟩
  have K1 : Hid (Below W.heap.size W w1 ∧ TabAt w1 t1 a1 b1 ps (often rest ps) rest) := ⟨Q1.2.2.2.2, Q1.2.2.2.1⟩
  clear Q1
  have Hown : Hid ((w1.alloc (.cells #[] 28)).ownsRow w1.heap.size 28 2 (.slice (some ⟨w1.heap.size, 0, none⟩) 0 0) 0 []) := World.ownsRow_made w1 #[] 0 (Nat.le_refl _) (Nat.zero_le _) rfl
  have Hsrc : Hid (Sl (w1.alloc (.cells #[] 28)) W.heap.size 2 (.slice A ps.length c) ps.length (pairCells vs ps)) := (H1.out.sl.below K1.out.1).alloc K1.out.1.size _
  go_wp2_with (first
    | ((with_reducible refine wl_append_pair (os := .tmp 37) (ox := .tmp 38) (base := w1.heap.size) Hown.out Hsrc.out ?_ ?_ ?_ ?_ ?_ ?_); (· exact pairCells_one _ _ H1.out.slices); (· have := H40.out; omega); (· simp); (· rfl); (· rfl); intro v3 w3 hown3 hg3; have H3 := Lib.hid hown3; have G3 := Lib.hid hg3; clear hown3 hg3 Hown Hsrc)
    | ((with_reducible refine wl_append_pair (os := .tmp 39) (ox := .tmp 43) (base := w1.heap.size) (w := w3.alloc (.cells #[.slice A2 other.length c2, .int .u64 rest] 28)) (B := w3.heap.size + 1) (vx := .slice (some ⟨w3.heap.size, 0, none⟩) 1 1) (m := 1) (news := [.slice A2 other.length c2, .int .u64 rest]) (H3.out.alloc _) ?_ ?_ ?_ ?_ ?_ ?_ ?_); go_must ((· exact sl_mk rfl (Nat.le_refl 1) (by unfold maxLen; omega) (row_new w3 [.slice A2 other.length c2, .int .u64 rest] _)); (· intro u hu; simp at hu; rcases hu with rfl | rfl <;> rfl); (· have := H40.out; omega); (· have := G3.out.size; simp at this ⊢; omega); (· rfl); (· rfl); intro v4 w4 hown4 hg4; have H4 := Lib.hid hown4; have G4 := Lib.hid hg4; clear hown4 hg4)))
  have K4 : Hid (Below w1.heap.size w1 w4 ∧ PairsAt w4 w4.heap.size v4 (ps ++ [(other, rest)])) := by
    have b3 : Below w1.heap.size w1 w3 := ((Below.refl _ _).alloc (Nat.le_refl _) _).grown G3.out (by simp) (by intro k hk; cases hk; exact Nat.le_refl _)
    have b4 : Below w1.heap.size w1 w4 := (b3.alloc b3.size _).grown G4.out (by have := b3.size; simp; omega) (fun k hk => (H3.out.lt k hk).1)
    refine ⟨b4, (pairsAt_snoc (vs := vs) (base := w1.heap.size) (v2 := .slice A2 other.length c2) H1.out.len (m := ps.length + 1) rfl ?_ ?_ ?_ Hr.out).at_⟩
    · have := H4.out
      simpa using this
    · intro i x hx
      have h := H1.out.el i x hx
      exact ⟨((h.1.on K1.out.1).on (b4.mono K1.out.1.size)).more (Nat.le_trans K1.out.1.size b4.size), h.2⟩
    · exact ((H2.out.on K1.out.1).on (b4.mono K1.out.1.size)).more (Nat.le_trans K1.out.1.size b4.size)
  clear H3 G3 H4 G4
  have K5 : Hid (Below W.heap.size W w4 ∧ TabAt w4 t1 a1 b1 ps (often rest ps) rest) := ⟨K1.out.1.trans (K4.out.1.mono K1.out.1.size), K1.out.2.on K4.out.1⟩
  by_cases hg2 : Good (ps ++ [(other, rest)])
  · refine (new_good w4 w4.heap.size _ _ rest Hr.out K4.out.2 (Nat.le_refl _) (by have := H40.out; simp; omega) hg2).mono ?_
    rintro e w5 ⟨t2, a2, b2, rfl, Q1⟩
    have K6 : Hid (Below W.heap.size W w5 ∧ TabAt w5 t1 a1 b1 ps (often rest ps) rest ∧ TabAt w5 t2 a2 b2 (ps ++ [(other, rest)]) (often rest (ps ++ [(other, rest)])) rest) :=
      ⟨K5.out.1.trans (Q1.2.2.2.2.mono K5.out.1.size), K5.out.2.on Q1.2.2.2.2, Q1.2.2.2.1⟩
    clear Q1 K1 K4 K5
    have Hg2 := Lib.hid hg2
    clear hg2
    have hno : aget ps other = none := (aget_none _ _).2 fun p hp e => by
      have := Hg2.out.2
      simp only [List.map_append, List.nodup_append] at this
      exact this.2.2 p.1 (List.mem_map.2 ⟨p, hp, rfl⟩) other (by simp) e
    have Hno := Lib.hid hno
    have Hyes : Hid (aget (ps ++ [(other, rest)]) other = some rest) := by
      show aget _ _ = _
      rw [aget_append _ _ _ ((aget_none _ _).1 hno)]; simp [aget]
    have Hunl : Hid (¬ Unl rest (ps ++ [(other, rest)])) := fun h => by
      refine (List.nodup_cons.1 h).1 ?_
      simp
    clear hno
    go_wp2_with fail
    refine (print_any w5 W.heap.size t1 a1 b1 ps _ rest _ other (H2.out.on K6.out.1) K6.out.2.1).mono ?_
    rintro e w' ⟨he, n6, rfl⟩
    rw [if_pos H128.out, if_pos H128.out, Hno.out, Option.getD_none] at he
    subst he
    go_wp2_with fail
    refine (print_any (w5.drewN n6) W.heap.size t2 a2 b2 _ _ rest _ other (H2.out.on (below_drewN K6.out.1 n6)) K6.out.2.2).mono ?_
    rintro e w' ⟨he, n7, rfl⟩
    rw [if_pos H128.out, if_pos H128.out, Hyes.out, Option.getD_some] at he
    subst he
    go_wp2_with fail
    refine (len_any (w5.drewN (n6 + n7)) t2 a2 b2 _ _ rest K6.out.2.2).mono ?_
    rintro e w' ⟨rfl, rfl⟩
    go_wp2_with fail
    refine (len_any (w5.drewN (n6 + n7)) t1 a1 b1 _ _ rest K6.out.2.1).mono ?_
    rintro e w' ⟨rfl, rfl⟩
    have h40 : (ps.length : Int) ≤ 40 := by have := H40.out; omega
    go_wp2_with fail
    refine (unlike_any (w5.drewN (n6 + n7)) t2 a2 b2 _ _ rest K6.out.2.2 (by have := H40.out; simp; omega)).mono ?_
    rintro e w' ⟨he, n8, rfl⟩
    rw [often_dec, decide_eq_false Hunl.out] at he
    subst he
    have K7 : Hid (Below W.heap.size W (w5.drewN (n6 + n7 + n8)) ∧ TabAt (w5.drewN (n6 + n7 + n8)) t1 a1 b1 ps (often rest ps) rest ∧ TabAt (w5.drewN (n6 + n7 + n8)) t2 a2 b2 (ps ++ [(other, rest)]) (often rest (ps ++ [(other, rest)])) rest) :=
      ⟨below_drewN K6.out.1 _, K6.out.2.1, K6.out.2.2⟩
    clear K6 Hunl Hyes Hno
    go_wp2_with fail
    go_loopw [98] (fun i wr => ∃ k : Nat, k ≤ ps.length ∧ i = .int .i64 k ∧ Hid (Below W.heap.size W wr ∧ TabAt wr t1 a1 b1 ps (often rest ps) rest ∧ TabAt wr t2 a2 b2 (ps ++ [(other, rest)]) (often rest (ps ++ [(other, rest)])) rest)) (fun i _ => ps.length - (intOf i).toNat)
    case atStart => exact ⟨0, Nat.zero_le _, rfl, K7⟩
    case round =>
      clear K7
      obtain ⟨k, hk, rfl, K8⟩ := hrel
      by_cases hlt : k < ps.length
      · obtain ⟨b, o, vk, rfl, hb, hc0, hc1, hbs, hu⟩ := pair_at H1.out.len H1.out.sl H1.out.el k hlt
        have hmem : ps[k] ∈ ps := List.getElem_mem hlt
        have hlen := Hg.out.1 _ hmem
        have h1 := aget_self Hg.out hmem
        have h2 := aget_append_some (r := [(other, rest)]) h1
        generalize hpk : ps[k] = pk at *
        obtain ⟨bs, n⟩ := pk
        simp only at hc0 hc1 hbs hu hlen h1 h2
        obtain ⟨A', c', rfl, hcc, hmm'⟩ := hbs.1.form
        have hcell0 : wr.cell? ⟨b, o + k * 2, none⟩ = some (.slice A' bs.length c') := by rw [K8.out.1.cell hb]; exact hc0
        have hcell1 : wr.cell? ⟨b, o + k * 2 + 1, none⟩ = some (.int .u64 n) := by rw [K8.out.1.cell hb]; exact hc1
        have Hbs : Hid (Bs wr W.heap.size (.slice A' bs.length c') bs) := hbs.on K8.out.1
        have Hlen := Lib.hid hlen
        have Ha1 := Lib.hid h1
        have Ha2 := Lib.hid h2
        clear hbs hu hc0 hc1 hcc hmm' hlen h1 h2 hmem hb hpk
        go_wp2_with fail
        refine (print_any (wr.alloc (.cells #[.slice A' bs.length c', .int .u64 n] 28)) W.heap.size t1 a1 b1 ps _ rest _ bs ⟨Hbs.out.1.alloc K8.out.1.size _, Hbs.out.2⟩ (K8.out.2.1.alloc _)).mono ?_
        rintro e w' ⟨he, n9, rfl⟩
        rw [if_pos Hlen.out, if_pos Hlen.out, Ha1.out, Option.getD_some] at he
        subst he
        go_wp2_with fail
        refine (print_any ((wr.alloc (.cells #[.slice A' bs.length c', .int .u64 n] 28)).drewN n9) W.heap.size t2 a2 b2 _ _ rest _ bs ⟨Hbs.out.1.alloc K8.out.1.size _, Hbs.out.2⟩ (K8.out.2.2.alloc _)).mono ?_
        rintro e w' ⟨he, n10, rfl⟩
        rw [if_pos Hlen.out, if_pos Hlen.out, Ha2.out, Option.getD_some] at he
        subst he
        go_wp2_with fail
        go_roundw
        case rel => exact ⟨k + 1, by omega, by go_num, below_drewN (K8.out.1.alloc K8.out.1.size _) _, K8.out.2.1.alloc _, K8.out.2.2.alloc _⟩
        case measure => simp [intOf]; omega
      · have hk' : k = ps.length := by omega
        subst hk'
        clear hlt hk
        go_wp2_with fail
        refine (awake07 wr).mono ?_; rintro e w' ⟨rfl, hb⟩
        have Hb : Hid (Below W.heap.size W w') := K8.out.1.trans (hb.mono K8.out.1.size)
        clear hb K8
        go_wp2_with fail
        go_ret
        exact ⟨rfl, Hb.out⟩
  · refine (new_bad w4 w4.heap.size _ _ rest Hr.out K4.out.2 (Nat.le_refl _) (by have := H40.out; simp; omega) hg2).mono ?_
    rintro e w5 ⟨rfl, hb5⟩
    have K6 : Hid (Below W.heap.size W w5) := K5.out.1.trans (hb5.mono K5.out.1.size)
    clear hb5 hg2 K1 K4 K5
    go_wp2_with fail
    refine (awake07 w5).mono ?_; rintro e w' ⟨rfl, hb⟩
    have Hb : Hid (Below W.heap.size W w') := K6.out.trans (hb.mono K6.out.size)
    clear hb K6
    go_wp2_with fail
    go_ret
    exact ⟨rfl, Hb.out⟩
set_option maxRecDepth 100000 in
set_option maxHeartbeats 2000000 in
theorem tableRest_bad (W : World) (v0 : Value) (ps : List (List Int × Int)) (o0 : PairsAt W W.heap.size v0 ps) (rest : Int) (hr : IsU64 rest) (v2 : Value) (other : List Int) (o2 : Bs W W.heap.size v2 other) (h40 : ps.length ≤ 40) (h128 : other.length = 128) (hg : ¬ Good ps) :
    Calls Try.prog 6 #[v0, .int .u64 rest, v2] W (Awake W) := by
  obtain ⟨vs, o1⟩ := o0.parts
  obtain ⟨A, c, rfl, _⟩ := o1.sl.form
  obtain ⟨A2, c2, rfl, _⟩ := o2.1.form
  have H0 := Lib.hid o0
  have H1 := Lib.hid o1
  have H2 := Lib.hid o2
  have Hr := Lib.hid hr
  have Hg := Lib.hid hg
  have H40 := Lib.hid h40
  have H128 := Lib.hid h128
  have h2 : decide ((40 : Int) < ps.length) = false := by simp; omega
  have h4 : ((other.length : Int) == 128) = true := by simp; omega
  have h5 : ((other.length : Int) != 128) = false := by simp; omega
  clear o0 o1 o2 hr hg h40 h128
  go_enter Try.func6, Try.ntmps6
  go_wp2_with fail
  refine (new_bad W W.heap.size _ ps rest Hr.out H0.out (Nat.le_refl _) (by have := H40.out; omega) Hg.out).mono ?_
  rintro e w1 ⟨rfl, Q1⟩
  have K1 : Hid (Below W.heap.size W w1 ∧ True) := ⟨Q1, trivial⟩
  clear Q1
  have Hown : Hid ((w1.alloc (.cells #[] 28)).ownsRow w1.heap.size 28 2 (.slice (some ⟨w1.heap.size, 0, none⟩) 0 0) 0 []) := World.ownsRow_made w1 #[] 0 (Nat.le_refl _) (Nat.zero_le _) rfl
  have Hsrc : Hid (Sl (w1.alloc (.cells #[] 28)) W.heap.size 2 (.slice A ps.length c) ps.length (pairCells vs ps)) := (H1.out.sl.below K1.out.1).alloc K1.out.1.size _
  go_wp2_with (first
    | ((with_reducible refine wl_append_pair (os := .tmp 37) (ox := .tmp 38) (base := w1.heap.size) Hown.out Hsrc.out ?_ ?_ ?_ ?_ ?_ ?_); (· exact pairCells_one _ _ H1.out.slices); (· have := H40.out; omega); (· simp); (· rfl); (· rfl); intro v3 w3 hown3 hg3; have H3 := Lib.hid hown3; have G3 := Lib.hid hg3; clear hown3 hg3 Hown Hsrc)
    | ((with_reducible refine wl_append_pair (os := .tmp 39) (ox := .tmp 43) (base := w1.heap.size) (w := w3.alloc (.cells #[.slice A2 other.length c2, .int .u64 rest] 28)) (B := w3.heap.size + 1) (vx := .slice (some ⟨w3.heap.size, 0, none⟩) 1 1) (m := 1) (news := [.slice A2 other.length c2, .int .u64 rest]) (H3.out.alloc _) ?_ ?_ ?_ ?_ ?_ ?_ ?_); go_must ((· exact sl_mk rfl (Nat.le_refl 1) (by unfold maxLen; omega) (row_new w3 [.slice A2 other.length c2, .int .u64 rest] _)); (· intro u hu; simp at hu; rcases hu with rfl | rfl <;> rfl); (· have := H40.out; omega); (· have := G3.out.size; simp at this ⊢; omega); (· rfl); (· rfl); intro v4 w4 hown4 hg4; have H4 := Lib.hid hown4; have G4 := Lib.hid hg4; clear hown4 hg4)))
  have K4 : Hid (Below w1.heap.size w1 w4 ∧ PairsAt w4 w4.heap.size v4 (ps ++ [(other, rest)])) := by
    have b3 : Below w1.heap.size w1 w3 := ((Below.refl _ _).alloc (Nat.le_refl _) _).grown G3.out (by simp) (by intro k hk; cases hk; exact Nat.le_refl _)
    have b4 : Below w1.heap.size w1 w4 := (b3.alloc b3.size _).grown G4.out (by have := b3.size; simp; omega) (fun k hk => (H3.out.lt k hk).1)
    refine ⟨b4, (pairsAt_snoc (vs := vs) (base := w1.heap.size) (v2 := .slice A2 other.length c2) H1.out.len (m := ps.length + 1) rfl ?_ ?_ ?_ Hr.out).at_⟩
    · have := H4.out
      simpa using this
    · intro i x hx
      have h := H1.out.el i x hx
      exact ⟨((h.1.on K1.out.1).on (b4.mono K1.out.1.size)).more (Nat.le_trans K1.out.1.size b4.size), h.2⟩
    · exact ((H2.out.on K1.out.1).on (b4.mono K1.out.1.size)).more (Nat.le_trans K1.out.1.size b4.size)
  clear H3 G3 H4 G4
  have hg2 : ¬ Good (ps ++ [(other, rest)]) := fun h => Hg.out ⟨fun p hp => h.1 p (by simp [hp]), by
    have := h.2
    simp only [List.map_append, List.nodup_append] at this
    exact this.1⟩
  refine (new_bad w4 w4.heap.size _ _ rest Hr.out K4.out.2 (Nat.le_refl _) (by have := H40.out; simp; omega) hg2).mono ?_
  rintro e w5 ⟨rfl, hb5⟩
  have K6 : Hid (Below W.heap.size W w5) := (K1.out.1.trans (K4.out.1.mono K1.out.1.size)).trans (hb5.mono (Nat.le_trans K1.out.1.size K4.out.1.size))
  clear hb5 hg2 K1 K4
  go_wp2_with fail
  refine (awake07 w5).mono ?_; rintro e w' ⟨rfl, hb⟩
  have Hb : Hid (Below W.heap.size W w') := K6.out.trans (hb.mono K6.out.size)
  clear hb K6
  go_wp2_with fail
  go_ret
  exact ⟨rfl, Hb.out⟩

theorem tableRest_walk (W : World) (v0 : Value) (ps : List (List Int × Int)) (o0 : PairsAt W W.heap.size v0 ps) (rest : Int) (hr : IsU64 rest) (v2 : Value) (other : List Int) (o2 : Bs W W.heap.size v2 other) :
    Calls Try.prog 6 #[v0, .int .u64 rest, v2] W (Awake W) := by
  by_cases h : 40 < ps.length ∨ other.length ≠ 128
  · exact tableRest_early W v0 ps o0 rest v2 other o2 h
  · have h40 : ps.length ≤ 40 := by omega
    have h128 : other.length = 128 := by omega
    by_cases hg : Good ps
    · exact tableRest_on W v0 ps o0 rest hr v2 other o2 h40 h128 hg
    · exact tableRest_bad W v0 ps o0 rest hr v2 other o2 h40 h128 hg
end Go.Proofs.Yticdmiomkmaaoaa
