/-
  Lists of numbers (uint64) in memory, and the contracts of the library's functions on them: Clone, BinarySearch, Insert, Grow, Concat.
-/
import Derived.Test.YticdmiomkmaaoaaApp
import Derived.Test.YticdmiomkmaaoaaFrame
import Derived.Laws.CopyOwn
namespace Go.Proofs.Yticdmiomkmaaoaa
open Go.RowKit

def Us (w : World) (B : Nat) (v : Value) (xs : List Int) : Prop := Sl w B 1 v xs.length (xs.map (.int .u64)) ∧ ∀ x ∈ xs, IsU64 x
def OwnU (w : World) (base : Nat) (v : Value) (xs : List Int) : Prop := w.ownsRow base 23 1 v xs.length (xs.map (.int .u64))

section
variable {w w' : World} {B B' base : Nat} {v : Value} {xs : List Int}
theorem Us.of_own (h : OwnU w base v xs) (hx : ∀ x ∈ xs, IsU64 x) : Us w w.heap.size v xs := ⟨Sl.of_own h, hx⟩
theorem Us.on (h : Us w B v xs) (hb : Below B w w') : Us w' B v xs := ⟨h.1.below hb, h.2⟩
theorem Us.more (h : Us w B v xs) (hB : B ≤ B') : Us w B' v xs := ⟨h.1.more hB, h.2⟩
theorem Us.keep (h : Us w B v xs) (hk : ∀ p : Addr, p.block < B → w'.cell? p = w.cell? p) : Us w' B v xs := ⟨h.1.keep hk, h.2⟩
theorem Us.alloc (h : Us w B v xs) (hB : B ≤ w.heap.size) (o : Obj) : Us (w.alloc o) B v xs := ⟨h.1.alloc hB o, h.2⟩
theorem Us.drewN (h : Us w B v xs) (n : Nat) : Us (w.drewN n) B v xs := h
theorem Us.drew (h : Us w B v xs) : Us w.drew B v xs := h
theorem us_nil (w : World) (B : Nat) : Us w B (.slice none 0 0) [] := ⟨sl_nil _ _ _, by simp⟩
theorem ownU_nil (w : World) (base : Nat) : OwnU w base (.slice none 0 0) [] := World.ownsRow_nil _ _ _ _
theorem OwnU.on (h : OwnU w base v xs) (hb : Below w.heap.size w w') : OwnU w' base v xs := ownsRow_on h hb
theorem OwnU.alloc (h : OwnU w base v xs) (o : Obj) : OwnU (w.alloc o) base v xs := World.ownsRow.alloc h o
theorem OwnU.less (h : OwnU w base v xs) (hb : B ≤ base) : OwnU w B v xs := by
  obtain ⟨h1, h2 | ⟨g, cap, cur, hv, hg, h3⟩⟩ := h
  · exact ⟨h1, .inl h2⟩
  · exact ⟨h1, .inr ⟨g, cap, cur, hv, Nat.le_trans hb hg, h3⟩⟩
theorem Us.form (h : Us w B v xs) : ∃ A c, v = .slice A xs.length c ∧ xs.length ≤ c ∧ c ≤ maxLen ∧ (A = none → c = 0) := by
  obtain ⟨⟨_, A, c, hv, hc, hm, hz, _⟩, _⟩ := h
  exact ⟨A, c, hv, hc, hm, hz⟩
theorem Us.at_ (h : Us w B v xs) (k : Nat) (hk : k < xs.length) : ∃ b o c, v = .slice (some ⟨b, o, none⟩) xs.length c ∧ b < B ∧ ∀ j (hj : j < xs.length), w.cell? ⟨b, o + j, none⟩ = some (.int .u64 xs[j]) := by
  obtain ⟨b, o, c, hv, _, _, hr⟩ := h.1.row (by omega)
  exact ⟨b, o, c, hv, hr.1, fun j hj => hr.2 j _ (by simp [List.getElem?_eq_getElem hj])⟩
end

theorem u64s_one (xs : List Int) : ∀ u ∈ xs.map (Value.int .u64), u.oneCell' = true := by
  intro u hu
  obtain ⟨x, _, rfl⟩ := List.mem_map.1 hu
  rfl
theorem infoU64 : (Try.prog.info? 23).map (fun i => (i.zero, i.size, i.bytes)) = some (some (.int .u64 0), 1, 8) := by kernel_rfl

section
variable {ops : Array Oper} {w : World} {Q : Exit → Act → World → Prop} {a : Act} {rest : List Oper} {dst : Option Tmp} {os ox : Operand} {ty : TypeId} {pos : String} {after : Array Edge}
theorem wl_append_u {base : Nat} {v : Value} {n : Nat} {xs : List Int} (hown : w.ownsRow base 23 1 v n (xs.map (.int .u64))) {B : Nat} {vx : Value} {ys : List Int} (hx : Us w B vx ys)
    (hb : n + ys.length ≤ 1000000) (hbase : base ≤ w.heap.size) (hs : a.eval os = v) (hxx : a.eval ox = vx)
    (hK : ∀ v' w', w'.ownsRow base 23 1 v' (n + ys.length) ((xs ++ ys).map (.int .u64)) → w.grownBy w' v.ownBlock → wpList Try.prog ops Q rest (a.put dst v') w') :
    wpList Try.prog ops Q (⟨dst, .call { callee := .builtin .append, args := #[os, ox], argTypes := #[51, 51] }, ty, pos, after, none⟩ :: rest) a w :=
  wl_append base 51 23 _ 1 8 Try.underlying51 infoU64 rfl (by omega) v n _ hown vx ys.length _ hx.1 (u64s_one ys) (by unfold maxLen; omega) (by omega) hbase hs hxx
    (fun v' w' h1 h2 => hK v' w' (by rw [List.map_append]; exact h1) h2)
end

set_option maxRecDepth 100000 in
set_option maxHeartbeats 400000 in
theorem clone_any (w : World) (B : Nat) (v : Value) (xs : List Int) (hv : Us w B v xs) (hB : B ≤ w.heap.size) (hl : xs.length ≤ 100000) :
    Calls Try.prog 48 #[v] w fun e w' => ∃ v', e = .returned v' ∧ OwnU w' w.heap.size v' xs ∧ Below w.heap.size w w' := by
  have q := fun (w : World) (a : Option Addr) (n c : Nat) => Lib.run_eql_slice_nil (P := Try.prog) w 51 23 a n c 0 0 Try.underlying51
  obtain ⟨A, c, rfl, hc, hm, hz⟩ := hv.form
  have Hv := Lib.hid hv
  have Hl := Lib.hid hl
  clear hv hm hc hl
  cases A with
  | none =>
    have := hz rfl
    subst this
    have hx : xs = [] := by
      obtain ⟨⟨_, A, c, hv, hc, _⟩, _⟩ := Hv.out
      cases hv
      exact List.eq_nil_of_length_eq_zero (by omega)
    subst hx
    clear hz
    go_enter Try.func48, Try.ntmps48
    go_wp2
    go_ret
    exact ⟨_, rfl, ownU_nil _ _, Below.refl _ _⟩
  | some ad =>
    clear hz
    have Hown : Hid ((w.alloc (.cells #[] 23)).ownsRow w.heap.size 23 1 (.slice (some ⟨w.heap.size, 0, none⟩) 0 0) 0 (([] : List Int).map (.int .u64))) := World.ownsRow_made w #[] 0 (Nat.le_refl _) (Nat.zero_le _) rfl
    have Hsrc : Hid (Us (w.alloc (.cells #[] 23)) B (.slice (some ad) xs.length c) xs) := Hv.out.alloc hB _
    clear hB
    go_enter Try.func48, Try.ntmps48
    go_wp2_with ((with_reducible refine wl_append_u (os := .tmp 5) (ox := .tmp 6) (base := w.heap.size) (xs := []) Hown.out Hsrc.out ?_ ?_ ?_ ?_ ?_); go_must ((· have := Hl.out; omega); (· simp); (· rfl); (· rfl); intro v3 w3 hown3 hg3; have H3 := Lib.hid hown3; have G3 := Lib.hid hg3; clear hown3 hg3))
    go_ret
    refine ⟨_, rfl, by have := H3.out; simpa [OwnU] using this, ?_⟩
    exact ((Below.refl _ _).alloc (Nat.le_refl _) _).grown G3.out (by simp) (by intro k hk; cases hk; exact Nat.le_refl _)

/-! ### BinarySearch -/
def Inc (xs : List Int) : Prop := xs.Pairwise (· < ·)
instance (xs : List Int) : Decidable (Inc xs) := by unfold Inc; infer_instance
/-- how many are less -/
def lowB (xs : List Int) (t : Int) : Nat := (xs.filter (fun x => decide (x < t))).length

theorem inc_le {xs : List Int} (h : Inc xs) {i j : Nat} (hi : i < xs.length) (hj : j < xs.length) (hij : i ≤ j) : xs[i] ≤ xs[j] := by
  rcases Nat.lt_or_eq_of_le hij with h1 | rfl
  · exact Int.le_of_lt (List.pairwise_iff_getElem.1 h i j hi hj h1)
  · exact Int.le_refl _

theorem lowB_of {xs : List Int} {t : Int} {i : Nat} (hi : i ≤ xs.length) (h1 : ∀ j (hj : j < xs.length), j < i → xs[j] < t) (h2 : ∀ j (hj : j < xs.length), i ≤ j → t ≤ xs[j]) : lowB xs t = i := by
  unfold lowB
  have e : xs = xs.take i ++ xs.drop i := (List.take_append_drop i xs).symm
  rw [e, List.filter_append, List.length_append]
  have a1 : (xs.take i).filter (fun x => decide (x < t)) = xs.take i := by
    rw [List.filter_eq_self]
    intro x hx
    obtain ⟨j, hj, rfl⟩ := List.getElem_of_mem hx
    simp at hj
    simp [h1 j (by omega) (by omega)]
  have a2 : (xs.drop i).filter (fun x => decide (x < t)) = [] := by
    rw [List.filter_eq_nil_iff]
    intro x hx
    obtain ⟨j, hj, rfl⟩ := List.getElem_of_mem hx
    simp at hj
    have := h2 (i + j) (by omega) (by omega)
    simp; omega
  rw [a1, a2]
  simp; omega

theorem lowB_le (xs : List Int) (t : Int) : lowB xs t ≤ xs.length := List.length_filter_le _ _
/-- ahead of lowB all are less, from there on none is -/
theorem lowB_lt {xs : List Int} (h : Inc xs) (t : Int) : (∀ j (hj : j < xs.length), j < lowB xs t → xs[j] < t) ∧ (∀ j (hj : j < xs.length), lowB xs t ≤ j → t ≤ xs[j]) := by
  have key : ∀ ys : List Int, Inc ys → ∃ i, i ≤ ys.length ∧ (∀ j (hj : j < ys.length), j < i → ys[j] < t) ∧ (∀ j (hj : j < ys.length), i ≤ j → t ≤ ys[j]) := by
    intro ys
    induction ys with
    | nil => intro _; exact ⟨0, by simp, by simp, by simp⟩
    | cons y ys ih =>
      intro hy
      obtain ⟨i, h1, h2, h3⟩ := ih (List.pairwise_cons.1 hy).2
      by_cases hc : y < t
      · refine ⟨i + 1, by simp; omega, fun j hj hji => ?_, fun j hj hji => ?_⟩
        · cases j with
          | zero => exact hc
          | succ j => exact h2 j (by simpa using hj) (by omega)
        · cases j with
          | zero => omega
          | succ j => exact h3 j (by simpa using hj) (by omega)
      · refine ⟨0, by simp, fun j hj hji => by omega, fun j hj _ => ?_⟩
        have := inc_le hy (i := 0) (j := j) (by simp) hj (by omega)
        simp at this
        omega
  obtain ⟨i, h1, h2, h3⟩ := key xs h
  rw [lowB_of h1 h2 h3]
  exact ⟨h2, h3⟩
theorem lowB_found {xs : List Int} (h : Inc xs) (t : Int) : t ∈ xs ↔ ∃ hl : lowB xs t < xs.length, xs[lowB xs t] = t := by
  constructor
  · intro hm
    obtain ⟨j, hj, e⟩ := List.getElem_of_mem hm
    have hl := lowB_lt h t
    have h1 : lowB xs t ≤ j := by
      rcases Nat.lt_or_ge j (lowB xs t) with h1 | h1
      · have := hl.1 j hj h1; omega
      · exact h1
    have h2 : lowB xs t < xs.length := by omega
    refine ⟨h2, ?_⟩
    have := hl.2 _ h2 (Nat.le_refl _)
    have := inc_le h h2 hj h1
    omega
  · rintro ⟨hl, e⟩
    rw [← e]; exact List.getElem_mem hl

theorem less_any (w : World) (x y : Int) : Calls Try.prog 57 #[.int .u64 x, .int .u64 y] w fun e w' => e = .returned (.bool (decide (x < y))) ∧ w = w' := by
  go_enter Try.func57, Try.ntmps57
  go_wp2
  go_ret
  exact ⟨rfl, rfl⟩
theorem isNaN_any (w : World) (x : Int) : Calls Try.prog 58 #[.int .u64 x] w fun e w' => e = .returned (.bool false) ∧ w = w' := by
  go_enter Try.func58, Try.ntmps58
  go_wp2
  go_ret
  exact ⟨rfl, rfl⟩

set_option maxRecDepth 100000 in
set_option maxHeartbeats 1000000 in
theorem search_any (w : World) (B : Nat) (v : Value) (xs : List Int) (t : Int) (hv : Us w B v xs) (hinc : Inc xs) (hl : xs.length ≤ 100000) :
    Calls Try.prog 47 #[v, .int .u64 t] w fun e w' => e = .returned (.tuple #[.int .i64 (lowB xs t), .bool (decide (t ∈ xs))]) ∧ w = w' := by
  obtain ⟨A, c, rfl, _⟩ := hv.form
  have Hv := Lib.hid hv
  have Hinc := Lib.hid hinc
  clear hv hinc
  go_enter Try.func47, Try.ntmps47
  go_wp2_with fail
  go_loop [7, 8] (fun i j => ∃ p q : Nat, p ≤ q ∧ q ≤ xs.length ∧ i = .int .i64 p ∧ j = .int .i64 q ∧ Hid ((∀ j (hj : j < xs.length), j < p → xs[j] < t) ∧ (∀ j (hj : j < xs.length), q ≤ j → t ≤ xs[j]))) (fun i j => (intOf j).toNat - (intOf i).toNat)
  case atStart => exact ⟨0, xs.length, Nat.zero_le _, Nat.le_refl _, rfl, rfl, (by intro j hj h; omega), (by intro j hj h; omega)⟩
  case round =>
    obtain ⟨p, q, hpq, hq, rfl, rfl, K⟩ := hrel
    by_cases hlt : p < q
    · obtain ⟨b, o, c', hvv, _, hcell⟩ := Hv.out.at_ ((p + q) / 2) (by omega)
      cases hvv
      have hc := hcell ((p + q) / 2) (by omega)
      clear hcell
      go_wp2_with fail
      refine (less_any _ _ _).mono ?_
      rintro e w' ⟨he, rfl⟩
      by_cases hx : xs[(p + q) / 2] < t
      · rw [decide_eq_true hx] at he
        subst he
        have K2 : Hid ((∀ j (hj : j < xs.length), j < (p + q) / 2 + 1 → xs[j] < t) ∧ (∀ j (hj : j < xs.length), q ≤ j → t ≤ xs[j])) :=
          ⟨fun j hj h => by have := inc_le Hinc.out hj (by omega : (p + q) / 2 < xs.length) (by omega); omega, K.out.2⟩
        clear hx
        go_wp2_with fail
        go_round
        case rel => exact ⟨(p + q) / 2 + 1, q, by omega, hq, by go_num, rfl, K2⟩
        case measure => simp [intOf]; omega
      · rw [decide_eq_false hx] at he
        subst he
        have K2 : Hid ((∀ j (hj : j < xs.length), j < p → xs[j] < t) ∧ (∀ j (hj : j < xs.length), (p + q) / 2 ≤ j → t ≤ xs[j])) :=
          ⟨K.out.1, fun j hj h => by have := inc_le Hinc.out (by omega : (p + q) / 2 < xs.length) hj h; omega⟩
        clear hx
        go_wp2_with fail
        go_round
        case rel => exact ⟨p, (p + q) / 2, by omega, by omega, rfl, by go_num, K2⟩
        case measure => simp [intOf]; omega
    · have hp : p = q := by omega
      subst hp
      clear hpq hlt
      have Hlow : Hid (lowB xs t = p) := lowB_of hq K.out.1 K.out.2
      have Hmem : Hid (t ∈ xs ↔ ∃ hl : p < xs.length, xs[p] = t) := by
        have := lowB_found Hinc.out t
        rw [Hlow.out] at this
        exact this
      by_cases hlt : p < xs.length
      · obtain ⟨b, o, c', hvv, _, hcell⟩ := Hv.out.at_ p hlt
        cases hvv
        have hc := hcell p hlt
        clear hcell
        by_cases hx : xs[p] = t
        · have Hd : Hid (decide (t ∈ xs) = true) := decide_eq_true (Hmem.out.2 ⟨hlt, hx⟩)
          rw [hx] at hc
          clear hx K
          go_wp2_with fail
          go_ret2
          exact ⟨ret_ib (by rw [Hlow.out]) Hd.out.symm, rfl⟩
        · have Hd : Hid (decide (t ∈ xs) = false) := decide_eq_false (fun h => by obtain ⟨_, h⟩ := Hmem.out.1 h; exact hx h)
          have hx2 : (xs[p] == t) = false := by simpa using hx
          clear hx K
          go_wp2_with (go_at_call 58; refine (isNaN_any _ _).mono ?_; rintro e w' ⟨rfl, rfl⟩)
          go_ret2
          exact ⟨ret_ib (by rw [Hlow.out]) Hd.out.symm, rfl⟩
      · have Hd : Hid (decide (t ∈ xs) = false) := decide_eq_false (fun h => by obtain ⟨h, _⟩ := Hmem.out.1 h; exact hlt h)
        have hp : p = xs.length := by omega
        subst hp
        clear K hlt hq
        go_wp2_with fail
        go_ret2
        exact ⟨ret_ib (by rw [Hlow.out]) Hd.out.symm, rfl⟩
end Go.Proofs.Yticdmiomkmaaoaa
