/-
  Lists of numbers, further: Grow, Concat, Insert of the library, and the node package's with and without.
-/
import Derived.Test.YticdmiomkmaaoaaUs
import Derived.Lib.AppendZerosOnto
import Derived.Lib.Overlaps
import Derived.Deep.RegionHeld3
namespace Go.Proofs.Yticdmiomkmaaoaa
open Go.RowKit

theorem toList_zeroCells1 (z : Value) (n : Nat) : (Builtin.zeroCells #[z] n).toList = List.replicate n z := by
  apply List.ext_getElem?
  intro j
  by_cases hj : j < n
  · simp [Builtin.zeroCells, hj, Nat.mod_one]
  · simp [Builtin.zeroCells, hj]

/-! ### splices -/
theorem splice_get {α : Type} (L : List α) (off : Nat) (cs : List α) (h : off + cs.length ≤ L.length) (j : Nat) :
    (splice L off cs)[j]? = if j < off then L[j]? else if j < off + cs.length then cs[j - off]? else L[j]? := by
  unfold splice
  by_cases h1 : j < off
  · rw [if_pos h1, List.getElem?_append_left (by simp; omega), List.getElem?_take, if_pos h1]
  · rw [if_neg h1, List.getElem?_append_right (by simp; omega)]
    have e : (L.take off).length = off := by simp; omega
    rw [e]
    by_cases h2 : j < off + cs.length
    · rw [if_pos h2, List.getElem?_append_left (by omega)]
    · rw [if_neg h2, List.getElem?_append_right (by omega), List.getElem?_drop]
      congr 1; omega
theorem ins_get {α : Type} (Xs : List α) (i : Nat) (x : α) (hi : i ≤ Xs.length) (j : Nat) :
    (Xs.take i ++ x :: Xs.drop i)[j]? = if j < i then Xs[j]? else if j = i then some x else Xs[j - 1]? := by
  have e : (Xs.take i).length = i := by simp; omega
  by_cases h1 : j < i
  · rw [if_pos h1, List.getElem?_append_left (by omega), List.getElem?_take, if_pos h1]
  · rw [if_neg h1, List.getElem?_append_right (by omega), e]
    by_cases h2 : j = i
    · subst h2; simp
    · rw [if_neg h2]
      obtain ⟨k, hk⟩ : ∃ k, j - i = k + 1 := ⟨j - i - 1, by omega⟩
      rw [hk, List.getElem?_cons_succ, List.getElem?_drop]
      congr 1; omega
theorem ins_room {α : Type} (L Xs : List α) (i n : Nat) (x : α) (hn : Xs.length = n) (hL : L.take n = Xs) (hi : i ≤ n) (hl : n + 1 ≤ L.length) :
    (splice (splice L (i + 1) (Xs.drop i)) i [x]).take (n + 1) = Xs.take i ++ x :: Xs.drop i := by
  have e1 : (splice L (i + 1) (Xs.drop i)).length = L.length := length_splice _ _ _ (by simp; omega)
  have hget : ∀ j, j < n → L[j]? = Xs[j]? := fun j hj => by rw [← hL, List.getElem?_take, if_pos hj]
  apply List.ext_getElem?
  intro j
  rw [ins_get _ _ _ (by omega), List.getElem?_take]
  by_cases h0 : j < n + 1
  · rw [if_pos h0, splice_get _ _ _ (by simp; omega)]
    by_cases h1 : j < i
    · rw [if_pos h1, if_pos h1, splice_get _ _ _ (by simp; omega), if_pos (by omega)]
      exact hget j (by omega)
    · rw [if_neg h1, if_neg h1]
      by_cases h2 : j = i
      · subst h2; simp
      · rw [if_neg (by simp; omega), if_neg h2, splice_get _ _ _ (by simp; omega), if_neg (by omega), if_pos (by simp; omega), List.getElem?_drop]
        congr 1; omega
  · rw [if_neg h0, if_neg (by omega), if_neg (by omega), List.getElem?_eq_none (by omega)]
theorem ins_grow {α : Type} (L Xs : List α) (i n : Nat) (x : α) (hn : Xs.length = n) (hL : L.take i = Xs.take i) (hi : i ≤ n) (hl : n + 1 ≤ L.length) :
    (splice (splice L i [x]) (i + 1) (Xs.drop i)).take (n + 1) = Xs.take i ++ x :: Xs.drop i := by
  have e1 : (splice L i [x]).length = L.length := length_splice _ _ _ (by simp; omega)
  have hget : ∀ j, j < i → L[j]? = Xs[j]? := fun j hj => by
    have := congrArg (fun l => l[j]?) hL
    simpa [List.getElem?_take, hj] using this
  apply List.ext_getElem?
  intro j
  rw [ins_get _ _ _ (by omega), List.getElem?_take]
  by_cases h0 : j < n + 1
  · rw [if_pos h0, splice_get _ _ _ (by simp; omega)]
    by_cases h1 : j < i
    · rw [if_pos (by omega), if_pos h1, splice_get _ _ _ (by simp; omega), if_pos (by omega)]
      exact hget j (by omega)
    · rw [if_neg h1]
      by_cases h2 : j = i
      · subst h2; rw [if_pos (by omega), splice_get _ _ _ (by simp; omega)]; simp
      · rw [if_neg (by omega), if_neg h2, if_pos (by simp; omega), List.getElem?_drop]
        congr 1; omega
  · rw [if_neg h0, if_neg (by omega), if_neg (by omega), List.getElem?_eq_none (by omega)]

/-! ### Grow -/
theorem infoU64i : ∃ i, Try.prog.info? 23 = some i ∧ i.zero = some (.int .u64 0) ∧ i.size = 1 ∧ i.bytes = 8 := by
  have h := infoU64
  cases hq : Try.prog.info? 23 with
  | none => simp [hq] at h
  | some i => simp [hq] at h; exact ⟨i, rfl, h⟩

set_option maxRecDepth 100000 in
set_option maxHeartbeats 1000000 in
theorem grow_any (w : World) (n : Nat) (hn : n ≤ 100000) :
    Calls Try.prog 60 #[.slice none 0 0, .int .i64 n] w fun e w' => ∃ v', e = .returned v' ∧ OwnU w' w.heap.size v' [] ∧ Below w.heap.size w w' := by
  by_cases h0 : n = 0
  · subst h0
    go_enter Try.func60, Try.ntmps60
    go_wp2_with fail
    go_ret
    exact ⟨_, rfl, ownU_nil _ _, Below.refl _ _⟩
  · have Hrun : Hid (∀ ty, (Builtin.append_ #[51, 3] ty #[.slice none 0 0, .int .i64 n]).run Try.prog w = .ok (.slice (some ⟨w.heap.size, 0, none⟩) n (grownCap w n 0 23)) (w.drew.alloc (.cells (Builtin.zeroCells #[.int .u64 0] n ++ Builtin.zeroCells #[.int .u64 0] (grownCap w n 0 23 - n)) 23))) := by
      intro ty
      obtain ⟨i, hi, hz, hs, hb⟩ := infoU64i
      exact Lib.run_append_nil_zeros w 51 3 ty 23 i _ .i64 .i64 Try.underlying51 Try.underlying3 hi hz n (by omega) (by omega) (by omega) (by rw [hb]; omega)
    have hge : n ≤ grownCap w n 0 23 := grownCap_ge _ _ _ _
    have hle := Lib.hid (grownCap_le_maxLen w n 0 23 (by unfold maxLen; omega))
    generalize hcc : grownCap w n 0 23 = cc at *
    clear hcc
    have hw1 : IntKind.i64.wrap (n : Int) = (n : Int) := by rw [IntKind.wrap_i64]; omega
    go_enter Try.func60, Try.ntmps60
    go_wp2_with (at_builtin; refine Lib.wpList_append_run _ rfl _ _ _ _ rfl _ _ rfl rfl _ _ (Hrun.out _) ?_)
    go_ret
    refine ⟨_, rfl, ⟨rfl, .inr ⟨_, cc, _, rfl, Nat.le_refl _, heap_alloc_new w.drew _, Nat.zero_le _, hle.out, ?_, rfl⟩⟩, below_drewN ((Below.refl _ _).alloc (Nat.le_refl _) _) 1⟩
    simp [size_zeroCells]; omega

section
variable {ops : Array Oper} {w : World} {Q : Exit → Act → World → Prop} {a : Act} {rest : List Oper} {dst : Option Tmp} {os ox : Operand} {ty : TypeId} {pos : String} {after : Array Edge}
theorem wl_append_o {base : Nat} {v : Value} {xs : List Int} (hown : OwnU w base v xs) {B : Nat} {vx : Value} {ys : List Int} (hx : Us w B vx ys)
    (hb : xs.length + ys.length ≤ 1000000) (hbase : base ≤ w.heap.size) (hs : a.eval os = v) (hxx : a.eval ox = vx)
    (hK : ∀ v' w', OwnU w' base v' (xs ++ ys) → w.grownBy w' v.ownBlock → wpList Try.prog ops Q rest (a.put dst v') w') :
    wpList Try.prog ops Q (⟨dst, .call { callee := .builtin .append, args := #[os, ox], argTypes := #[51, 51] }, ty, pos, after, none⟩ :: rest) a w :=
  wl_append_u (n := xs.length) hown hx hb hbase hs hxx (fun v' w' h1 h2 => hK v' w' (by unfold OwnU; rw [List.length_append]; exact h1) h2)
end
theorem OwnU.own_le {w : World} {base : Nat} {v : Value} {xs : List Int} (h : OwnU w base v xs) : ∀ k, v.ownBlock = some k → base ≤ k := fun k hk => (h.lt k hk).1
theorem OwnU.us {w : World} {base : Nat} {v : Value} {xs : List Int} (h : OwnU w base v xs) (hx : ∀ x ∈ xs, IsU64 x) : Us w w.heap.size v xs := Us.of_own h hx

/-! ### Concat of two -/
set_option maxRecDepth 100000 in
set_option maxHeartbeats 2000000 in
theorem concat_any (w : World) (B vb : Nat) (a b : Value) (xs ys : List Int) (ha : Us w B a xs) (hb : Us w B b ys) (hB : B ≤ w.heap.size) (hvb : vb < w.heap.size) (h0 : w.cell? ⟨vb, 0, none⟩ = some a) (h1 : w.cell? ⟨vb, 1, none⟩ = some b)
    (hl1 : xs.length ≤ 10000) (hl2 : ys.length ≤ 10000) :
    Calls Try.prog 56 #[.slice (some ⟨vb, 0, none⟩) 2 2] w fun e w' => ∃ v', e = .returned v' ∧ OwnU w' w.heap.size v' (xs ++ ys) ∧ Below w.heap.size w w' := by
  obtain ⟨A1, c1, rfl, _⟩ := ha.form
  obtain ⟨A2, c2, rfl, _⟩ := hb.form
  have Ha := Lib.hid ha
  have Hb := Lib.hid hb
  have L1 := Lib.hid hl1
  have L2 := Lib.hid hl2
  have HB := Lib.hid hB
  have Hvb := Lib.hid hvb
  have C0 := Lib.hid h0
  have C1 := Lib.hid h1
  clear ha hb hl1 hl2 hB hvb
  go_enter Try.func56, Try.ntmps56
  go_wp2_with fail
  go_loop [3, 11] (fun n k => ∃ m j : Nat, n = .int .i64 m ∧ k = .int .i64 j ∧ ((j = 0 ∧ m = 0) ∨ (j = 1 ∧ m = xs.length) ∨ (j = 2 ∧ m = xs.length + ys.length))) (fun _ k => 2 - (intOf k).toNat)
  case atStart => exact ⟨0, 0, rfl, rfl, .inl ⟨rfl, rfl⟩⟩
  case round =>
    obtain ⟨m, j, rfl, rfl, ⟨rfl, rfl⟩ | ⟨rfl, rfl⟩ | ⟨rfl, rfl⟩⟩ := hrel
    · have hs : (xs.length : Int) ≤ 10000 := by have := L1.out; omega
      have hs0 : (0 : Int) ≤ xs.length := by omega
      go_wp2_with fail
      go_round
      case rel => exact ⟨xs.length, 1, by go_num, by go_num, .inr (.inl ⟨rfl, rfl⟩)⟩
      case measure => simp [intOf]
    · have hs : (xs.length : Int) ≤ 10000 := by have := L1.out; omega
      have hs2 : (ys.length : Int) ≤ 10000 := by have := L2.out; omega
      have hs0 : (0 : Int) ≤ xs.length := by omega
      have hs3 : (0 : Int) ≤ ys.length := by omega
      go_wp2_with fail
      go_round
      case rel => exact ⟨xs.length + ys.length, 2, by go_num, by go_num, .inr (.inr ⟨rfl, rfl⟩)⟩
      case measure => simp [intOf]
    · have Hn : xs.length + ys.length ≤ 100000 := by have := L1.out; have := L2.out; omega
      go_wp2_with fail
      refine (grow_any _ (xs.length + ys.length) Hn).mono ?_
      rintro e w1 ⟨v1, rfl, o1, b1⟩
      have O1 := Lib.hid o1
      have B1 := Lib.hid b1
      have D0 : Hid (w1.cell? ⟨vb, 0, none⟩ = some _) := (b1.cell (by exact Hvb.out)).trans C0.out
      have D1 : Hid (w1.cell? ⟨vb, 1, none⟩ = some _) := (b1.cell (by exact Hvb.out)).trans C1.out
      have Hsz : Hid (w.heap.size ≤ w1.heap.size) := b1.size
      clear h0 h1 Hn o1 b1
      go_wp2_with fail
      go_loopw [6, 27] (fun u k w2 => ∃ j : Nat, k = .int .i64 j ∧ Hid (Below w.heap.size w w2) ∧ Hid (w2.cell? ⟨vb, 0, none⟩ = some (.slice A1 xs.length c1)) ∧ Hid (w2.cell? ⟨vb, 1, none⟩ = some (.slice A2 ys.length c2)) ∧ ((j = 0 ∧ Hid (OwnU w2 w.heap.size u [])) ∨ (j = 1 ∧ Hid (OwnU w2 w.heap.size u xs)) ∨ (j = 2 ∧ Hid (OwnU w2 w.heap.size u (xs ++ ys))))) (fun _ k _ => 2 - (intOf k).toNat)
      case atStart => exact ⟨0, rfl, B1, D0, D1, .inl ⟨rfl, O1⟩⟩
      case round =>
        clear D0 D1 O1 B1
        obtain ⟨j, rfl, B2, D0, D1, ⟨rfl, O2⟩ | ⟨rfl, O2⟩ | ⟨rfl, O2⟩⟩ := hrel
        · have hc := D0.out
          have Hs : Hid (Us wr B (.slice A1 xs.length c1) xs) := Ha.out.on (B2.out.mono HB.out)
          go_wp2_with ((with_reducible refine wl_append_o (os := .tmp 31) (ox := .tmp 32) (base := w.heap.size) (xs := []) O2.out Hs.out ?_ ?_ ?_ ?_ ?_); go_must ((· have := L1.out; simp; omega); (· exact B2.out.size); (· rfl); (· rfl); intro v3 w3 hown3 hg3; have H3 := Lib.hid hown3; have G3 := Lib.hid (B2.out.grown hg3 B2.out.size O2.out.own_le); clear hown3 hg3))
          go_roundw
          case rel => exact ⟨1, by go_num, G3, (G3.out.cell (by exact Hvb.out)).trans C0.out, (G3.out.cell (by exact Hvb.out)).trans C1.out, .inr (.inl ⟨rfl, H3⟩)⟩
          case measure => simp [intOf]
        · have hc := D1.out
          have Hs : Hid (Us wr B (.slice A2 ys.length c2) ys) := Hb.out.on (B2.out.mono HB.out)
          go_wp2_with ((with_reducible refine wl_append_o (os := .tmp 31) (ox := .tmp 32) (base := w.heap.size) (xs := xs) O2.out Hs.out ?_ ?_ ?_ ?_ ?_); go_must ((· have := L1.out; have := L2.out; omega); (· exact B2.out.size); (· rfl); (· rfl); intro v3 w3 hown3 hg3; have H3 := Lib.hid hown3; have G3 := Lib.hid (B2.out.grown hg3 B2.out.size O2.out.own_le); clear hown3 hg3))
          go_roundw
          case rel => exact ⟨2, by go_num, G3, (G3.out.cell (by exact Hvb.out)).trans C0.out, (G3.out.cell (by exact Hvb.out)).trans C1.out, .inr (.inr ⟨rfl, H3⟩)⟩
          case measure => simp [intOf]
        · go_wp2_with fail
          go_ret
          exact ⟨_, rfl, O2.out, B2.out⟩

/-! ### Insert of one -/
theorem OwnU.block {w : World} {base : Nat} {v : Value} {xs : List Int} (h : OwnU w base v xs) (hn : 0 < xs.length) :
    ∃ g cap cur, v = .slice (some ⟨g, 0, none⟩) xs.length cap ∧ base ≤ g ∧ w.heap[g]? = some (.cells cur 23 (0, 0)) ∧ xs.length ≤ cap ∧ cap ≤ maxLen ∧ cur.size = cap ∧ cur.toList.take xs.length = xs.map (.int .u64) := by
  obtain ⟨h1, ⟨_, h2⟩ | ⟨g, cap, cur, hv, hg, hh, hc, hm, hs, ht⟩⟩ := h
  · omega
  · exact ⟨g, cap, cur, hv, hg, hh, hc, hm, by simpa using hs, by simpa using ht⟩
theorem size_u64 : (Try.prog.info? 23).map (·.size) = some 1 := by
  obtain ⟨i, hi, _, hs, _⟩ := infoU64i
  simp [hi, hs]

theorem sizeOf_u64 (w : World) : (Go.sizeOf 23).run Try.prog w = .ok 1 w := by
  obtain ⟨i, hi, _, hs, _⟩ := infoU64i
  simp [sizeOf, typeInfo, hi, hs]

set_option maxRecDepth 100000 in
set_option maxHeartbeats 4000000 in
theorem insert_any (w : World) (base vb : Nat) (s : Value) (xs : List Int) (i : Nat) (x : Int) (hs : OwnU w base s xs) (hbase : base ≤ w.heap.size) (hi : i ≤ xs.length) (hl : xs.length ≤ 10000)
    (hvb : vb < base) (hv : w.heap[vb]? = some (.cells #[.int .u64 x] 23 (0, 0))) (hx : IsU64 x) :
    Calls Try.prog 59 #[s, .int .i64 i, .slice (some ⟨vb, 0, none⟩) 1 1] w fun e w' => ∃ v', e = .returned v' ∧ OwnU w' base v' (xs.take i ++ x :: xs.drop i) ∧ Below base w w' := by
  have Hx : Hid (Us w (vb + 1) (.slice (some ⟨vb, 0, none⟩) 1 1) [x]) := ⟨sl_mk rfl (Nat.le_refl _) (by unfold maxLen; omega) ⟨Nat.lt_succ_self _, fun j u hu => by
    rw [Nat.zero_add, cell_of_row w vb j _ _ _ hv]; simpa using hu⟩, by simpa using hx⟩
  have Hs := Lib.hid hs
  have Hbase := Lib.hid hbase
  have Hl := Lib.hid hl
  have Hvb := Lib.hid hvb
  have Hv := Lib.hid hv
  clear hv
  by_cases hin : i = xs.length
  · subst hin
    obtain ⟨A, c, rfl, hc, hm⟩ := (Sl.of_own hs).form
    clear hs hl hbase hvb hm
    go_enter Try.func59, Try.ntmps59
    go_wp2_with ((with_reducible refine wl_append_o (os := .tmp 23) (ox := .tmp 24) (base := base) (xs := xs) Hs.out Hx.out ?_ ?_ ?_ ?_ ?_); go_must ((· have := Hl.out; simp; omega); (· exact Hbase.out); (· rfl); (· rfl); intro v3 w3 hown3 hg3; have H3 := Lib.hid hown3; have G3 := Lib.hid ((Below.refl base _).grown hg3 Hbase.out Hs.out.own_le); clear hown3 hg3))
    all_goals (go_ret; exact ⟨_, rfl, by simpa using H3.out, G3.out⟩)
  · have hin' : i < xs.length := by omega
    obtain ⟨g, c, cur, rfl, hg, hh, hc, hm, hsz, ht⟩ := hs.block (by omega)
    obtain ⟨L, rfl⟩ : ∃ L : List Value, cur = L.toArray := ⟨cur.toList, rfl⟩
    simp only [List.size_toArray] at hsz
    have Hg := Lib.hid hg
    have Hh := Lib.hid hh
    have Hsz := Lib.hid hsz
    have Ht : Hid (L.take xs.length = xs.map (.int .u64)) := ht
    have Hm := Lib.hid hm
    have Hgl : Hid (g < w.heap.size) := (Array.getElem?_eq_some_iff.1 hh).1
    clear hh hsz ht hs hg
    obtain ⟨X1, hX1⟩ : ∃ X1 : List Value, X1 = (xs.map (Value.int .u64)).drop i := ⟨_, rfl⟩
    have HX1 := Lib.hid hX1
    have hX1l : X1.length = xs.length - i := by rw [hX1]; simp
    have HX1u : Hid (∀ u ∈ X1, u.oneCell' = true) := fun u hu => by rw [hX1] at hu; exact u64s_one xs u (List.mem_of_mem_drop hu)
    clear hX1
    have hci : ¬ (c = i) := by omega
    have hp1 : (0 : Int) ≤ (i : Int) + 1 := by omega
    have hp2 : (i : Int) + 1 ≤ (xs.length : Int) := by omega
    have hp3 : (i : Int) ≤ (xs.length : Int) := by omega
    have hp4 : (i : Int) ≤ (xs.length : Int) + 1 := by omega
    have hw1 : IntKind.i64.wrap ((xs.length : Int) + 1) = (xs.length : Int) + 1 := by rw [IntKind.wrap_i64]; omega
    have hw2 : IntKind.i64.wrap ((i : Int) + 1) = (i : Int) + 1 := by rw [IntKind.wrap_i64]; omega
    have hlen' : (xs.take i ++ x :: xs.drop i).length = xs.length + 1 := by simp; omega
    clear hbase hvb hm
    by_cases hroom : xs.length + 1 ≤ c
    · have hci2 : ¬ (c = i + 1) := by omega
      have hnr : ¬ ((c : Int) < (xs.length : Int) + 1) := by omega
      have Hov : Hid (∀ lb cb, (callFunc 62 #[.slice (some ⟨vb, 0, none⟩) 1 1, .slice (some ⟨g, i + 1, none⟩) lb cb]).run Try.prog w = .ok (.value (.bool false)) w) := fun lb cb => by
        rw [run_callFunc_extern Try.func62 (by kernel_rfl) (by kernel_rfl) (by kernel_rfl) (e := Extern.SlicesOverlaps.overlaps #[51, 51] #[4]) (by kernel_rfl),
          Lib.run_overlaps_apart w 51 4 23 Try.underlying51 1 sizeOf_u64 ⟨vb, 0, none⟩ ⟨g, i + 1, none⟩ 1 1 lb cb (by have := Hg.out; have := Hvb.out; simp; omega) 23 23 1 L.length (by simp [World.shape?, Hv.out]) (by simp [World.shape?, Hh.out]) (by have := Hsz.out; omega) (by simp [World.frozen?, Hv.out]) (by simp [World.frozen?, Hv.out])]
        rfl
      have hov := Hov.out
      clear Hov
      go_enter Try.func59, Try.ntmps59
      go_wp2_with (simp only [hov])
      have HW2v : Hid (∀ j v, X1[j]? = some v → w.drew.cell? ((⟨g, i, none⟩ : Addr).add j) = some v) := by
        intro j v hj
        show w.cell? _ = _
        rw [add_mk, cell_of_row w g (i + j) _ _ _ Hh.out]
        rw [HX1.out, List.getElem?_drop] at hj
        have e := congrArg (fun l => l[i + j]?) Ht.out
        simp only [List.getElem?_take] at e
        have hlt : i + j < xs.length := by
          have := (List.getElem?_eq_some_iff.1 hj).1
          simpa using this
        rw [if_pos hlt, hj] at e
        simpa using e
      have B2d : Hid (Below base w w.drew) := (Below.refl _ _).drew
      have G2 : Hid (w.drew.heap[g]? = some (.cells L.toArray 23 (0, 0))) := Hh.out
      go_region_law (refine step_copy_splice rfl (.tmp 73) (.tmp 76) 51 51 rfl 23 Try.underlying51 size_u64 (some ⟨g, i + 1, none⟩) (some ⟨g, i, none⟩) (xs.length - i) (c - (i + 1)) (xs.length + 1 - i) (c - i) (by simp [Act.eval, Act.put]) (by simp [Act.eval, Act.put]) g (i + 1) L 23 G2.out X1 ?_ ?_ ?_ HX1u.out base w B2d.out Hg.out ?_; go_must ((· simp only [hX1l, Nat.min_def]; split <;> omega); (· intro _; exact ⟨rfl, _, rfl, HW2v.out⟩); (· have := Hsz.out; omega); intro w3 hg3 hb3; have B3 := Lib.hid hb3; clear hb3))
      have HL3l : Hid ((splice L (i + 1) X1).length = c) := by
        show _ = _
        rw [length_splice _ _ _ (by have := Hsz.out; omega)]; exact Hsz.out
      obtain ⟨L3, hL3⟩ : ∃ L3 : List Value, L3 = splice L (i + 1) X1 := ⟨_, rfl⟩
      rw [← hL3] at hg3 HL3l
      have HL3 := Lib.hid hL3
      clear hL3 HW2v B2d G2
      have HW3v : Hid (∀ j v, ([.int .u64 x] : List Value)[j]? = some v → w3.cell? ((⟨vb, 0, none⟩ : Addr).add j) = some v) := by
        intro j v hj
        rw [add_mk, Nat.zero_add, B3.out.cell (by exact Hvb.out), cell_of_row w vb j _ _ _ Hv.out]
        simpa using hj
      go_wp2_with (refine wpList_copy_splice rfl (.tmp 80) (.tmp 81) 51 51 rfl 23 Try.underlying51 size_u64 _ _ _ _ _ _ rfl rfl g i L3 23 hg3.out [.int .u64 x] ?_ ?_ ?_ ?_ base w B3.out Hg.out ?_; go_must ((· simp only [List.length_singleton, Nat.min_def]; split <;> omega); (· intro _; exact ⟨rfl, _, rfl, HW3v.out⟩); (· have := HL3l.out; simp; omega); (· simp [Value.oneCell']); intro w4 hg4 hb4; have B4 := Lib.hid hb4; clear hb4))
      go_ret
      have hg4' := hg4.out
      have hX := ins_room L (xs.map (Value.int .u64)) i xs.length (.int .u64 x) (by simp) Ht.out (by omega) (by have := Hsz.out; omega)
      rw [← HX1.out, ← HL3.out] at hX
      refine ⟨_, rfl, ⟨by simp, .inr ⟨g, c, _, by rw [hlen']; exact rfl, Hg.out, hg4', by rw [hlen']; exact hroom, Hm.out, ?_, ?_⟩⟩, B4.out⟩
      · have := HL3l.out
        rw [List.size_toArray, length_splice _ _ _ (by simp; omega)]; omega
      · rw [hlen', Nat.mul_one]
        refine hX.trans ?_
        simp [HX1.out]
    · have hc' : c = xs.length := by omega
      subst hc'
      obtain ⟨k, hk⟩ : ∃ k, k = xs.length + 1 - i := ⟨_, rfl⟩
      have hki : i + k = xs.length + 1 := by omega
      have Hrun : Hid (∀ ty, (Builtin.append_ #[51, 3] ty #[.slice (some ⟨g, 0, none⟩) i xs.length, .int .i64 k]).run Try.prog w = .ok (.slice (some ⟨w.heap.size, 0, none⟩) (i + k) (grownCap w (i + k) xs.length 23))
          (w.drew.alloc (.cells (((xs.map (Value.int .u64)).take i).toArray ++ Builtin.zeroCells #[.int .u64 0] k ++ Builtin.zeroCells #[.int .u64 0] (grownCap w (i + k) xs.length 23 - (i + k))) 23))) := by
        intro ty
        obtain ⟨i0, hi0, hz, hs0, hb⟩ := infoU64i
        have hl' := Hl.out
        refine Lib.run_append_grow_zeros w 51 3 ty 23 i0 _ .i64 .i64 Try.underlying51 Try.underlying3 hi0 hz _ i xs.length _ ?_ k (by omega) (by omega) (by omega) (by omega) (by rw [hb]; omega) (by rw [hb]; exact growslice_fits (by omega) (by omega))
        rw [hs0]
        refine run_firstCells_some w.drew 1 i _ i _ _ (by simp; omega) (fun j v hj => ?_)
        rw [add_mk, Nat.zero_add]
        show w.cell? _ = _
        rw [cell_of_row w g j _ _ _ Hh.out]
        have e := congrArg (fun l => l[j]?) Ht.out
        rw [List.getElem?_take] at hj
        split at hj
        · simp only [List.getElem?_take] at e
          rw [if_pos (by omega)] at e
          simpa [hj] using e
        · cases hj
      have hge : i + k ≤ grownCap w (i + k) xs.length 23 := grownCap_ge _ _ _ _
      have hle := Lib.hid (grownCap_le_maxLen w (i + k) xs.length 23 (by have := Hl.out; unfold maxLen; omega))
      generalize hcc : grownCap w (i + k) xs.length 23 = c2 at *
      clear hcc
      obtain ⟨L2, hL2⟩ : ∃ L2 : List Value, L2.toArray = ((xs.map (Value.int .u64)).take i).toArray ++ Builtin.zeroCells #[.int .u64 0] k ++ Builtin.zeroCells #[.int .u64 0] (c2 - (i + k)) := ⟨Array.toList _, rfl⟩
      have HL2l : Hid (L2.length = c2) := by
        have := congrArg Array.size hL2
        simp [size_zeroCells] at this
        show _ = _
        omega
      have HL2t : Hid (L2.take i = (xs.map (Value.int .u64)).take i) := by
        have := congrArg Array.toList hL2
        simp only [Array.toList_append] at this
        show _ = _
        rw [show L2 = _ from this, List.append_assoc, List.take_append_of_le_length (by simp; omega), List.take_of_length_le (by simp; omega)]
      have Hrun2 : Hid (∀ ty, (Builtin.append_ #[51, 3] ty #[.slice (some ⟨g, 0, none⟩) i xs.length, .int .i64 ((xs.length + 1 - i : Nat) : Int)]).run Try.prog w = .ok (.slice (some ⟨w.heap.size, 0, none⟩) (xs.length + 1) c2) (w.drew.alloc (.cells L2.toArray 23))) := by
        rw [hL2, ← hk, ← hki]; exact Hrun.out
      clear hL2 Hrun
      rw [hki] at hge
      obtain ⟨W2, hW2⟩ : ∃ W2, W2 = w.drew.alloc (.cells L2.toArray 23) := ⟨_, rfl⟩
      rw [← hW2] at Hrun2
      have HW2r : Hid (W2.heap[w.heap.size]? = some (.cells L2.toArray 23 (0, 0))) := by rw [hW2]; exact heap_alloc_new w.drew _
      have HW2b : Hid (Below w.heap.size w W2) := by rw [hW2]; exact ⟨rfl, rfl, rfl, by simp, fun k hk => heap_alloc_old w.drew _ hk⟩
      clear hW2
      have HW2v : Hid (∀ j v, ([.int .u64 x] : List Value)[j]? = some v → W2.cell? ((⟨vb, 0, none⟩ : Addr).add j) = some v) := by
        intro j v hj
        have hvw : vb < w.heap.size := Nat.lt_of_lt_of_le Hvb.out Hbase.out
        rw [add_mk, Nat.zero_add, HW2b.out.cell (by exact hvw), cell_of_row w vb j _ _ _ Hv.out]
        simpa using hj
      have hc2i : ¬ (c2 = i) := by omega
      have hc2i' : ¬ (c2 = i + 1) := by omega
      have hw3 : IntKind.i64.wrap ((xs.length : Int) + 1 - i) = ((xs.length + 1 - i : Nat) : Int) := by rw [IntKind.wrap_i64]; omega
      clear hki
      subst hk
      have hne : ¬ (i = xs.length) := hin
      go_enter Try.func59, Try.ntmps59
      go_wp2_with (first | (at_builtin; refine Lib.wpList_append_run _ rfl _ _ _ _ rfl _ _ rfl rfl _ _ (Hrun2.out _) ?_) | (refine wpList_copy_splice rfl (.tmp 43) (.tmp 44) 51 51 rfl 23 Try.underlying51 size_u64 _ _ _ _ _ _ rfl rfl w.heap.size i L2 23 HW2r.out [.int .u64 x] ?_ ?_ ?_ ?_ w.heap.size w HW2b.out (Nat.le_refl _) ?_; go_must ((· simp only [List.length_singleton, Nat.min_def]; split <;> omega); (· intro _; exact ⟨rfl, _, rfl, HW2v.out⟩); (· have := HL2l.out; simp; omega); (· simp [Value.oneCell']); intro w3 hg3 hb3; have B3 := Lib.hid hb3; clear hb3)))
      have G3 : Hid (w3.drew.heap[w.heap.size]? = some (.cells (splice L2 i [Value.int .u64 x]).toArray 23 (0, 0))) := hg3
      have HL3l : Hid ((splice L2 i [Value.int .u64 x]).length = c2) := by
        show _ = _
        rw [length_splice _ _ _ (by have := HL2l.out; simp; omega)]; exact HL2l.out
      obtain ⟨L3, hL3⟩ : ∃ L3 : List Value, L3 = splice L2 i [Value.int .u64 x] := ⟨_, rfl⟩
      rw [← hL3] at G3 HL3l
      have HL3 := Lib.hid hL3
      clear hL3 hg3
      have HW3v : Hid (∀ j v, X1[j]? = some v → w3.drew.cell? ((⟨g, i, none⟩ : Addr).add j) = some v) := by
        intro j v hj
        have hgl := Hgl.out
        show w3.cell? _ = _
        rw [add_mk, B3.out.cell (by exact hgl), cell_of_row w g (i + j) _ _ _ Hh.out]
        rw [HX1.out, List.getElem?_drop] at hj
        have e := congrArg (fun l => l[i + j]?) Ht.out
        simp only [List.getElem?_take] at e
        have hlt : i + j < xs.length := by
          have := (List.getElem?_eq_some_iff.1 hj).1
          simpa using this
        rw [if_pos hlt, hj] at e
        simpa using e
      have B3d : Hid (Below w.heap.size w w3.drew) := B3.out.drew
      go_region_law (refine step_copy_splice rfl (.tmp 50) (.tmp 53) 51 51 rfl 23 Try.underlying51 size_u64 (some ⟨w.heap.size, i + 1, none⟩) (some ⟨g, i, none⟩) (xs.length - i) (c2 - (i + 1)) (xs.length - i) (xs.length - i) (by simp [Act.eval, Act.put]) (by simp [Act.eval, Act.put]) w.heap.size (i + 1) L3 23 G3.out X1 ?_ ?_ ?_ HX1u.out w.heap.size w B3d.out (Nat.le_refl _) ?_; go_must ((· simp only [hX1l, Nat.min_def]; split <;> omega); (· intro _; exact ⟨rfl, _, rfl, HW3v.out⟩); (· have := HL3l.out; omega); intro w4 hg4 hb4; have B4 := Lib.hid hb4; clear hb4))
      go_wp2_with fail
      go_ret
      have hg4' := hg4.out
      have hX := ins_grow L2 (xs.map (Value.int .u64)) i xs.length (.int .u64 x) (by simp) HL2t.out (by omega) (by have := HL2l.out; omega)
      rw [← HL3.out, ← HX1.out] at hX
      refine ⟨_, rfl, ⟨by simp, .inr ⟨w.heap.size, c2, _, by rw [hlen']; exact rfl, Hbase.out, hg4', by rw [hlen']; exact hge, hle.out, ?_, ?_⟩⟩, B4.out.mono Hbase.out⟩
      · have := HL3l.out
        rw [List.size_toArray, length_splice _ _ _ (by omega)]; omega
      · rw [hlen', Nat.mul_one]
        refine hX.trans ?_
        simp [HX1.out]

/-! ### with, without -/
set_option maxRecDepth 100000 in
set_option maxHeartbeats 1000000 in
theorem with_any (w : World) (B vb : Nat) (v : Value) (xs : List Int) (i : Nat) (x : Int) (hxs : Us w B v xs) (hB : B ≤ w.heap.size) (hi : i ≤ xs.length) (hl : xs.length ≤ 10000)
    (hvb : vb < w.heap.size) (hv : w.heap[vb]? = some (.cells #[.int .u64 x] 23 (0, 0))) (hx : IsU64 x) :
    Calls Try.prog 49 #[v, .int .i64 i, .slice (some ⟨vb, 0, none⟩) 1 1] w fun e w' => ∃ v', e = .returned v' ∧ OwnU w' w.heap.size v' (xs.take i ++ x :: xs.drop i) ∧ Below w.heap.size w w' := by
  have Hxs := Lib.hid hxs
  have Hv := Lib.hid hv
  clear hxs hv
  go_enter Try.func49, Try.ntmps49
  go_wp2_with fail
  refine (clone_any _ B _ xs Hxs.out hB (by omega)).mono ?_
  rintro e w1 ⟨v1, rfl, o1, b1⟩
  have O1 := Lib.hid o1
  have B1 := Lib.hid b1
  clear o1 b1
  go_wp2_with fail
  refine (insert_any _ w.heap.size vb _ xs i x O1.out B1.out.size hi hl hvb (by rw [B1.out.block vb hvb]; exact Hv.out) hx).mono ?_
  rintro e w2 ⟨v2, rfl, o2, b2⟩
  have O2 := Lib.hid o2
  have B2 := Lib.hid (B1.out.trans b2)
  clear o2 b2
  go_wp2_with fail
  go_ret
  exact ⟨_, rfl, O2.out, B2.out⟩

theorem Sl.cut {w : World} {B n : Nat} {A : Option Addr} {c lo hi : Nat} {xs : List Value} (h : Sl w B 1 (.slice A n c) n xs) (hlo : lo ≤ hi) (hhi : hi ≤ n) {a' : Option Addr} (ha : (lo < hi → A.map (fun a => a.add lo) = a') ) (hz : a' = none → c - lo = 0) :
    Sl w B 1 (.slice a' (hi - lo) (c - lo)) (hi - lo) ((xs.take hi).drop lo) := by
  obtain ⟨hl, A1, c1, hv, hc, hm, hn, hr⟩ := h
  cases hv
  refine ⟨by simp; omega, a', c - lo, rfl, by omega, by omega, hz, fun hp => ?_⟩
  obtain ⟨b, o, rfl, hrow⟩ := hr (by omega)
  refine ⟨b, o + lo, by rw [← ha (by omega)]; simp [add_mk], hrow.1, fun j u hu => ?_⟩
  rw [List.getElem?_drop, List.getElem?_take] at hu
  split at hu
  · rw [Nat.add_assoc]; exact hrow.2 _ u hu
  · cases hu
end Go.Proofs.Yticdmiomkmaaoaa
