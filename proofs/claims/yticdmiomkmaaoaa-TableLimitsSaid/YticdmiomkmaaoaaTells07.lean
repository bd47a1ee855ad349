/-
  The walk of TableTells.
-/
import Derived.Test.YticdmiomkmaaoaaOrder07
import Derived.Deep.RegionHeld3
namespace Go.Proofs.Yticdmiomkmaaoaa
open Go.RowKit

section
variable {ops : Array Oper} {w : World} {Q : Exit → Act → World → Prop} {a : Act} {dst : Option Tmp} {os ox : Operand} {ty : TypeId} {pos : String} {after : Array Edge}
theorem step_append_pair {E : Prop} {K : Act → World → Prop} {base : Nat} {v : Value} {n : Nat} {xs : List Value} (hown : w.ownsRow base 28 2 v n xs) {B : Nat} {vx : Value} {m : Nat} {news : List Value} (hx : Sl w B 2 vx m news)
    (h1 : ∀ u ∈ news, u.oneCell' = true) (hb : n + m ≤ 1000000) (hbase : base ≤ w.heap.size) (hs : a.eval os = v) (hxx : a.eval ox = vx)
    (hK : ∀ v' w', w'.ownsRow base 28 2 v' (n + m) (xs ++ news) → w.grownBy w' v.ownBlock → K (a.put dst v') w') :
    if Region.wanted ⟨dst, .call { callee := .builtin .append, args := #[os, ox], argTypes := #[22, 22] }, ty, pos, after, none⟩ (yielded ops a.tmps) = true then
      Oper.wp Try.prog ⟨dst, .call { callee := .builtin .append, args := #[os, ox], argTypes := #[22, 22] }, ty, pos, after, none⟩ a w K Q else E :=
  step_append_sl base 22 28 _ 2 32 Try.underlying22 infoPair rfl (by omega) v n xs hown vx m news hx h1 (by unfold maxLen; omega) (by omega) hbase hs hxx hK
end

/-- what has been copied of the first pairs: where each pair's bytes lie now -/
def Copied (W wr : World) (gs : List Nat) (vs : List Value) (ps : List (List Int × Int)) : Prop :=
  gs.length = ps.length ∧ vs.length = ps.length ∧ gs.Nodup ∧ (∀ g ∈ gs, W.heap.size ≤ g) ∧
    ∀ (j : Nat) (p : List Int × Int), ps[j]? = some p → ∃ g c, gs[j]? = some g ∧ vs[j]? = some (.slice (some ⟨g, 0, none⟩) p.1.length c) ∧ p.1.length ≤ c ∧ c ≤ maxLen ∧ OwnB wr g p.1 ∧ (∀ x ∈ p.1, IsByte x) ∧ IsU64 p.2

theorem Copied.lt {W wr : World} {gs : List Nat} {vs : List Value} {ps : List (List Int × Int)} (h : Copied W wr gs vs ps) : ∀ g ∈ gs, g < wr.heap.size := by
  intro g hg
  obtain ⟨h1, _, _, _, h5⟩ := h
  obtain ⟨j, hj, rfl⟩ := List.getElem_of_mem hg
  obtain ⟨g', c, e, _, _, _, ho, _⟩ := h5 j ps[j] (List.getElem?_eq_getElem (by omega))
  rw [List.getElem?_eq_getElem hj] at e
  cases e
  exact ho.lt

theorem Copied.on {W wr wr' : World} {gs : List Nat} {vs : List Value} {ps : List (List Int × Int)} (h : Copied W wr gs vs ps) (hk : ∀ g ∈ gs, wr'.heap[g]? = wr.heap[g]?) : Copied W wr' gs vs ps := by
  obtain ⟨h1, h2, h3, h4, h5⟩ := h
  refine ⟨h1, h2, h3, h4, fun j p hp => ?_⟩
  obtain ⟨g, c, e1, e2, e3, e4, e5, e6⟩ := h5 j p hp
  exact ⟨g, c, e1, e2, e3, e4, e5.of_block (hk g (List.mem_of_getElem? e1)), e6⟩

theorem Copied.snoc {W wr : World} {gs : List Nat} {vs : List Value} {ps : List (List Int × Int)} (h : Copied W wr gs vs ps) {g c : Nat} {bs : List Int} {n : Int} (hg : g ∉ gs) (hW : W.heap.size ≤ g) (hc : bs.length ≤ c) (hm : c ≤ maxLen) (ho : OwnB wr g bs) (hb : ∀ x ∈ bs, IsByte x) (hn : IsU64 n) :
    Copied W wr (gs ++ [g]) (vs ++ [.slice (some ⟨g, 0, none⟩) bs.length c]) (ps ++ [(bs, n)]) := by
  obtain ⟨h1, h2, h3, h4, h5⟩ := h
  refine ⟨by simp [h1], by simp [h2], ?_, ?_, fun j p hp => ?_⟩
  · rw [List.nodup_append]
    exact ⟨h3, by simp, fun a ha b hb' e => by simp at hb'; subst hb'; subst e; exact hg ha⟩
  · intro x hx
    rcases List.mem_append.1 hx with hx | hx
    · exact h4 x hx
    · simp at hx; subst hx; exact hW
  · rcases Nat.lt_or_ge j ps.length with hj | hj
    · rw [List.getElem?_append_left hj] at hp
      obtain ⟨g', c', e1, e2, e3⟩ := h5 j p hp
      exact ⟨g', c', by rw [List.getElem?_append_left (by omega)]; exact e1, by rw [List.getElem?_append_left (by omega)]; exact e2, e3⟩
    · rw [List.getElem?_append_right hj] at hp
      generalize hii : j - ps.length = ii at hp
      have : ii = 0 := by
        rcases Nat.eq_zero_or_pos ii with h | h
        · exact h
        · rw [List.getElem?_eq_none (by simp; omega)] at hp; cases hp
      subst this
      simp at hp; subst hp
      have hj' : j = ps.length := by omega
      subst hj'
      exact ⟨g, c, by rw [List.getElem?_append_right (by omega)]; simp [h1], by rw [List.getElem?_append_right (by omega)]; simp [h2], hc, hm, ho, hb, hn⟩

theorem Copied.pairs {W wr : World} {gs : List Nat} {vs : List Value} {ps : List (List Int × Int)} (h : Copied W wr gs vs ps) {base : Nat} {v : Value} (hown : wr.ownsRow base 28 2 v ps.length (pairCells vs ps)) : PairsIn wr wr.heap.size v vs ps := by
  obtain ⟨h1, h2, h3, h4, h5⟩ := h
  refine ⟨h2, Sl.of_own hown, fun i x hx => ?_⟩
  have hi : i < (vs.zip ps).length := by
    rcases Nat.lt_or_ge i (vs.zip ps).length with h | h
    · exact h
    · rw [List.getElem?_eq_none h] at hx; cases hx
  have hi2 : i < ps.length := by simp at hi; omega
  obtain ⟨g, c, e1, e2, e3, e4, e5, e6, e7⟩ := h5 i ps[i] (List.getElem?_eq_getElem hi2)
  rw [List.getElem?_eq_getElem hi] at hx
  simp only [List.getElem_zip, Option.some.injEq] at hx
  subst hx
  rw [List.getElem?_eq_getElem (by omega)] at e2
  have e8 := Option.some.inj e2
  rw [e8]
  exact ⟨e5.bs e6 e3 e4, e7⟩

/-- two rows of unlike element types are not one -/
theorem own_ne {w : World} {base g : Nat} {e : TypeId} {size : Nat} {v : Value} {n : Nat} {xs : List Value} {bs : List Int} (h : w.ownsRow base e size v n xs) (hb : OwnB w g bs) (he : e ≠ 5) : some g ≠ v.ownBlock := by
  obtain ⟨cs, fr, hb, _⟩ := hb
  obtain ⟨_, ⟨rfl, _⟩ | ⟨g', cap, cur, rfl, _, hh, _⟩⟩ := h
  · simp [Value.ownBlock]
  · intro e'
    simp only [Value.ownBlock, Option.some.injEq] at e'
    subst e'
    rw [hb] at hh
    simp only [Option.some.injEq, Obj.cells.injEq] at hh
    exact he hh.2.1.symm

theorem tell_step {W wa w3 w4 : World} {gs : List Nat} {us : List Value} {psk : List (List Int × Int)} {v v4 : Value} {k cc : Nat} {bs : List Int} {n : Int} {o : Obj} (hown : wa.ownsRow W.heap.size 28 2 v k (pairCells us psk)) (hC : Copied W wa gs us psk) (hb : Below W.heap.size W wa)
    (q1 : bs.length ≤ cc) (q2 : cc ≤ maxLen) (q3 : OwnB w3 wa.heap.size bs) (q4 : Below wa.heap.size wa w3) (hg4 : (w3.alloc o).grownBy w4 v.ownBlock) (hown4 : w4.ownsRow W.heap.size 28 2 v4 (k + 1) (pairCells us psk ++ [.slice (some ⟨wa.heap.size, 0, none⟩) bs.length cc, .int .u64 n]))
    (hby : ∀ x ∈ bs, IsByte x) (hn : IsU64 n) :
    ∃ gs us, w4.ownsRow W.heap.size 28 2 v4 (k + 1) (pairCells us (psk ++ [(bs, n)])) ∧ Copied W w4 gs us (psk ++ [(bs, n)]) ∧ Below W.heap.size W w4 := by
  have hne : ∀ g bs, OwnB w3 g bs → some g ≠ v.ownBlock := fun g bs h => own_ne (ownsRow_on hown q4) h (by decide)
  have keep : ∀ g bs, OwnB w3 g bs → OwnB w4 g bs := fun g bs h => h.of_block ((hg4.block g (by have := h.lt; simp; omega) (hne g bs h)).trans (Below.heap_alloc w3 o g h.lt))
  have hC3 : Copied W w3 gs us psk := hC.on fun g hg => q4.block g (hC.lt g hg)
  have hC4 : Copied W w4 gs us psk := by
    obtain ⟨h1, h2, h3, h4, h5⟩ := hC3
    refine ⟨h1, h2, h3, h4, fun j p hp => ?_⟩
    obtain ⟨g, c, e1, e2, e3, e4, e5, e6⟩ := h5 j p hp
    exact ⟨g, c, e1, e2, e3, e4, keep _ _ e5, e6⟩
  refine ⟨gs ++ [wa.heap.size], us ++ [.slice (some ⟨wa.heap.size, 0, none⟩) bs.length cc], ?_, hC4.snoc (fun h => Nat.lt_irrefl _ (hC.lt _ h)) hb.size q1 q2 (keep _ _ q3) hby hn, ?_⟩
  · rw [pairCells_snoc hC.2.1]
    exact hown4
  · exact ((hb.trans (q4.mono hb.size)).alloc (Nat.le_trans hb.size q4.size) o).grown hg4 (by have h1 := hb.size; have h2 := q4.size; simp; omega) (fun k hk => (hown.lt k hk).1)

theorem grown_setCell (w : World) (a : Addr) (v : Value) : w.grownBy (w.setCell a v) (some a.block) :=
  ⟨rfl, rfl, rfl, by simp, fun k _ hne => Below.heap_setCell w a v k (fun e => hne (by rw [e]))⟩
theorem grown_trans {w w1 w2 : World} {row : Option Nat} (h : w.grownBy w1 row) (h2 : w1.grownBy w2 row) : w.grownBy w2 row :=
  ⟨h2.os.trans h.os, h2.tape.trans h.tape, h2.output.trans h.output, Nat.le_trans h.size h2.size, fun k hk hne => (h2.block k (Nat.lt_of_lt_of_le hk h.size) hne).trans (h.block k hk hne)⟩
theorem grown_refl (w : World) (row : Option Nat) : w.grownBy w row := ⟨rfl, rfl, rfl, Nat.le_refl _, fun _ _ _ => rfl⟩

/-- a row of n bytes that may be written over -/
def Scr (w : World) (g n : Nat) : Prop :=
  ∃ (cs : Array Value) (fr : Nat × Nat), w.heap[g]? = some (.cells cs 5 fr) ∧ (∀ i, i < n → ¬ (fr.1 ≤ i ∧ i < fr.2)) ∧ ∀ i, i < n → ∃ x : Int, cs[i]? = some (.int .u8 x)

theorem OwnB.scr {w : World} {g : Nat} {bs : List Int} (h : OwnB w g bs) : Scr w g bs.length := by
  obtain ⟨cs, fr, h1, h2, h3, h4⟩ := h
  exact ⟨cs, fr, h1, h3, fun i hi => ⟨bs[i], h4 i _ (by simp [List.getElem?_eq_getElem hi])⟩⟩
theorem Scr.cell {w : World} {g n : Nat} (h : Scr w g n) (i : Nat) (hi : i < n) : ∃ x : Int, w.cell? ⟨g, i, none⟩ = some (.int .u8 x) ∧ w.frozen? ⟨g, i, none⟩ = false := by
  obtain ⟨cs, fr, h1, h2, h3⟩ := h
  obtain ⟨x, hx⟩ := h3 i hi
  refine ⟨x, by rw [cell_of_row w g i cs _ fr h1]; exact hx, ?_⟩
  have := h2 i hi
  obtain ⟨lo, hi'⟩ := fr
  simp only [World.frozen?, h1]
  simp only at this
  simp; omega
theorem heap_setCell_at (w : World) (g i : Nat) (cs : Array Value) (t : TypeId) (fr : Nat × Nat) (v : Value) (hg : w.heap[g]? = some (.cells cs t fr)) : (w.setCell ⟨g, i, none⟩ v).heap[g]? = some (.cells (cs.setIfInBounds i v) t fr) := by
  simp [World.setCell, Array.getElem?_modify, hg]
theorem Scr.set {w : World} {g n : Nat} (h : Scr w g n) (i : Nat) (x : Int) : Scr (w.setCell ⟨g, i, none⟩ (.int .u8 x)) g n := by
  obtain ⟨cs, fr, h1, h2, h3⟩ := h
  refine ⟨_, fr, heap_setCell_at w g i cs _ fr _ h1, h2, fun j hj => ?_⟩
  by_cases e : i = j
  · subst e
    obtain ⟨y, hy⟩ := h3 i hj
    refine ⟨x, ?_⟩
    have : i < cs.size := by
      rcases Nat.lt_or_ge i cs.size with h | h
      · exact h
      · simp [Array.getElem?_eq_none h] at hy
    simp [Array.getElem?_setIfInBounds, this]
  · obtain ⟨y, hy⟩ := h3 j hj
    refine ⟨y, ?_⟩
    rw [Array.getElem?_setIfInBounds_ne e]
    exact hy

structure TellSt (W wr : World) (gin : Nat) (gs : List Nat) (ps : List (List Int × Int)) (k : Nat) : Prop where
  below : Below W.heap.size W wr
  gge : 0 < ps.length → W.heap.size ≤ gin
  blk : 0 < ps.length → ∃ cs, wr.heap[gin]? = some (.cells cs 28 (0, 0))
  el : ∀ (j : Nat) (p : List Int × Int), k ≤ j → ps[j]? = some p → ∃ g c, gs[j]? = some g ∧ W.heap.size ≤ g ∧ wr.cell? ⟨gin, j * 2, none⟩ = some (.slice (some ⟨g, 0, none⟩) p.1.length c) ∧ wr.cell? ⟨gin, j * 2 + 1, none⟩ = some (.int .u64 p.2) ∧ OwnB wr g p.1 ∧ p.1.length ≤ c ∧ c ≤ maxLen ∧ (∀ x ∈ p.1, IsByte x)
  nod : gs.Nodup

/-- what writing into rows of bytes and of pairs leaves as it is -/
def Kept (T : World → Prop) : Prop := ∀ (w w' : World) (g : Nat) (cs : Array Value) (e : TypeId) (fr : Nat × Nat), T w → w.heap[g]? = some (.cells cs e fr) → (e = 5 ∨ e = 28) → w.grownBy w' (some g) → T w'

theorem kept_tab (t a b : Nat) (kv : List (List Int × Int)) (ov : List (Int × Int)) (rest : Int) : Kept (fun w => TabAt w t a b kv ov rest) := by
  intro w w' g cs e fr h hg he hgr
  have h0 := h.lt
  refine ⟨?_, ?_, ?_⟩
  · rw [hgr.block t h0.1 (fun e' => ?_)]
    · exact h.1
    · cases e'
      rw [h.1] at hg
      simp only [Option.some.injEq, Obj.cells.injEq] at hg
      rcases he with rfl | rfl <;> exact absurd hg.2.1 (by decide)
  · refine h.2.1.grown hgr (fun e' => ?_)
    cases e'
    obtain ⟨es, c, hm, _⟩ := h.2.1
    rw [hm] at hg; cases hg
  · refine h.2.2.grown hgr (fun e' => ?_)
    cases e'
    obtain ⟨es, c, hm, _⟩ := h.2.2
    rw [hm] at hg; cases hg
theorem kept_true : Kept (fun _ => True) := fun _ _ _ _ _ _ _ _ _ _ => trivial

theorem TellSt.ne {W wr : World} {gin : Nat} {gs : List Nat} {ps : List (List Int × Int)} {k : Nat} (h : TellSt W wr gin gs ps k) (h0 : 0 < ps.length) {g : Nat} {bs : List Int} (hb : OwnB wr g bs) : gin ≠ g := by
  intro e
  subst e
  obtain ⟨cs, hc⟩ := h.blk h0
  obtain ⟨cs', fr, hb, _⟩ := hb
  rw [hc] at hb
  simp only [Option.some.injEq, Obj.cells.injEq] at hb
  exact absurd hb.2.1 (by decide)

/-- a row of bytes of number k is written over -/
theorem TellSt.over {W wr w3 : World} {gin : Nat} {gs : List Nat} {ps : List (List Int × Int)} {k : Nat} (h : TellSt W wr gin gs ps k) {g : Nat} {p : List Int × Int} (hp : ps[k]? = some p) (hg : gs[k]? = some g) (hb : OwnB wr g p.1) (hW : W.heap.size ≤ g) (hgr : wr.grownBy w3 (some g)) :
    TellSt W w3 gin gs ps (k + 1) ∧ w3.cell? ⟨gin, k * 2, none⟩ = wr.cell? ⟨gin, k * 2, none⟩ ∧ w3.cell? ⟨gin, k * 2 + 1, none⟩ = wr.cell? ⟨gin, k * 2 + 1, none⟩ := by
  have h0 : 0 < ps.length := by
    rcases Nat.eq_zero_or_pos ps.length with h | h
    · have : ps = [] := List.eq_nil_of_length_eq_zero h
      subst this; simp at hp
    · exact h
  have hne := h.ne h0 hb
  obtain ⟨cs, hc⟩ := h.blk h0
  have hlt : gin < wr.heap.size := by
    rcases Nat.lt_or_ge gin wr.heap.size with h | h
    · exact h
    · simp [Array.getElem?_eq_none h] at hc
  have hcell : ∀ j, w3.cell? ⟨gin, j, none⟩ = wr.cell? ⟨gin, j, none⟩ := fun j => World.cell?_of_block (hgr.block gin hlt (by simp; exact hne))
  refine ⟨⟨h.below.grown hgr h.below.size (by intro x hx; cases hx; exact hW), h.gge, fun _ => ⟨cs, by rw [hgr.block gin hlt (by simp; exact hne)]; exact hc⟩, fun j p' hj hp' => ?_, h.nod⟩, hcell _, hcell _⟩
  obtain ⟨g', c, e1, e2, e3, e4, e5, e6⟩ := h.el j p' (by omega) hp'
  refine ⟨g', c, e1, e2, by rw [hcell]; exact e3, by rw [hcell]; exact e4, e5.of_block (hgr.block g' e5.lt (fun e' => ?_)), e6⟩
  cases e'
  have hk1 : k < gs.length := by
    rcases Nat.lt_or_ge k gs.length with h | h
    · exact h
    · rw [List.getElem?_eq_none h] at hg; cases hg
  have hj1 : j < gs.length := by
    rcases Nat.lt_or_ge j gs.length with h | h
    · exact h
    · rw [List.getElem?_eq_none h] at e1; cases e1
  have := List.pairwise_iff_getElem.1 h.nod k j hk1 hj1 (by omega)
  rw [List.getElem?_eq_getElem hk1] at hg
  rw [List.getElem?_eq_getElem hj1] at e1
  exact this ((Option.some.inj hg).trans (Option.some.inj e1).symm)

/-- a pair's number is written over -/
theorem TellSt.num {W wr : World} {gin : Nat} {gs : List Nat} {ps : List (List Int × Int)} {k : Nat} (h : TellSt W wr gin gs ps (k + 1)) (h0 : 0 < ps.length) (x : Int) : TellSt W (wr.setCell ⟨gin, k * 2 + 1, none⟩ (.int .u64 x)) gin gs ps (k + 1) := by
  obtain ⟨cs, hc⟩ := h.blk h0
  refine ⟨h.below.setCell (h.gge h0) _, h.gge, fun _ => ⟨_, heap_setCell_at wr gin _ cs _ _ _ hc⟩, fun j p' hj hp' => ?_, h.nod⟩
  obtain ⟨g', c, e1, e2, e3, e4, e5, e6⟩ := h.el j p' hj hp'
  have hne := h.ne h0 e5
  refine ⟨g', c, e1, e2, ?_, ?_, e5.of_block (Below.heap_setCell wr _ _ g' (fun e => hne e.symm)), e6⟩
  · rw [World.cell?_setCell_other _ _ _ _ (by simp <;> omega)]; exact e3
  · rw [World.cell?_setCell_other _ _ _ _ (by simp <;> omega)]; exact e4

theorem tell_init {W wr : World} {v : Value} {gs : List Nat} {us : List Value} {ps : List (List Int × Int)} (hown : wr.ownsRow W.heap.size 28 2 v ps.length (pairCells us ps)) (hC : Copied W wr gs us ps) (hb : Below W.heap.size W wr) :
    ∃ gin A c, v = .slice A ps.length c ∧ (0 < ps.length → A = some ⟨gin, 0, none⟩) ∧ TellSt W wr gin gs ps 0 := by
  have hs := Sl.of_own hown
  obtain ⟨_, ⟨rfl, hz⟩ | ⟨g, cap, cur, rfl, hbg, hh, hn, hm, hsz, ht⟩⟩ := hown
  · refine ⟨0, none, 0, by rw [hz], fun h => absurd h (by omega), hb, fun h => absurd h (by omega), fun h => absurd h (by omega), fun j p _ hp => ?_, hC.2.2.1⟩
    have : ps = [] := List.eq_nil_of_length_eq_zero hz
    subst this; simp at hp
  · refine ⟨g, some ⟨g, 0, none⟩, cap, rfl, fun _ => rfl, hb, fun _ => hbg, fun _ => ⟨cur, hh⟩, fun j p _ hp => ?_, hC.2.2.1⟩
    obtain ⟨g', c, e1, e2, e3, e4, e5, e6, e7⟩ := hC.2.2.2.2 j p hp
    have hj : j < ps.length := by
      rcases Nat.lt_or_ge j ps.length with h | h
      · exact h
      · rw [List.getElem?_eq_none h] at hp; cases hp
    have hz : (us.zip ps)[j]? = some (.slice (some ⟨g', 0, none⟩) p.1.length c, p) := by
      rw [List.getElem?_zip_eq_some]; exact ⟨e2, hp⟩
    have h2 := flat2 _ _ _ hz
    obtain ⟨b, o, c', hv, _, _, hr⟩ := hs.row (by omega)
    cases hv
    have r1 := hr.2 _ _ h2.1
    have r2 := hr.2 _ _ h2.2
    rw [Nat.zero_add] at r1 r2
    exact ⟨g', c, e1, hC.2.2.2.1 _ (List.mem_of_getElem? e1), r1, r2, e5, e3, e4, e6⟩

theorem TellSt.on {W wr w' : World} {gin : Nat} {gs : List Nat} {ps : List (List Int × Int)} {k : Nat} (h : TellSt W wr gin gs ps k) (hb : Below wr.heap.size wr w') : TellSt W w' gin gs ps k := by
  refine ⟨h.below.trans (hb.mono h.below.size), h.gge, fun h0 => ?_, fun j p hj hp => ?_, h.nod⟩
  · obtain ⟨cs, hc⟩ := h.blk h0
    have hlt : gin < wr.heap.size := by
      rcases Nat.lt_or_ge gin wr.heap.size with h | h
      · exact h
      · simp [Array.getElem?_eq_none h] at hc
    exact ⟨cs, by rw [hb.block gin hlt]; exact hc⟩
  · obtain ⟨g, c, e1, e2, e3, e4, e5, e6⟩ := h.el j p hj hp
    have hlt := World.block_lt_of_cell? _ _ e3
    exact ⟨g, c, e1, e2, by rw [hb.cell hlt]; exact e3, by rw [hb.cell (show gin < _ from hlt)]; exact e4, e5.on hb, e6⟩

theorem equal_same (w : World) (B : Nat) (x y : Value) (xs : List Int) (hx : Bs w B x xs) (hy : Bs w B y xs) :
    Calls Try.prog 18 #[x, y] w fun e w' => e = .returned (.bool true) ∧ w = w' :=
  (equal_any w B x y xs xs hx hy).mono fun _ _ h => ⟨by rw [h.1, decide_eq_true rfl], h.2⟩

set_option maxRecDepth 100000 in
set_option maxHeartbeats 4000000 in
theorem tableTells_on (W : World) (v0 : Value) (ps : List (List Int × Int)) (o0 : PairsAt W W.heap.size v0 ps) (rest : Int) (hr : IsU64 rest) (v2 : Value) (bss : List (List Int)) (o2 : Ls W W.heap.size 1 (fun cs bs => ∃ v, cs = [v] ∧ Bs W W.heap.size v bs) v2 bss) (h60 : ps.length ≤ 60) (h20 : bss.length ≤ 20) :
    Calls Try.prog 3 #[v0, .int .u64 rest, v2] W (Awake W) := by
  obtain ⟨vs, o1⟩ := o0.parts
  obtain ⟨A, c, rfl, _⟩ := o1.sl.form
  obtain ⟨A2, c2, rfl, _⟩ := o2.form
  have H0 := Lib.hid o0
  have H1 := Lib.hid o1
  have H2 := Lib.hid o2
  have Hr := Lib.hid hr
  have H60 := Lib.hid h60
  have H20 := Lib.hid h20
  have h2 : decide ((60 : Int) < ps.length) = false := by simp; omega
  have h4 : decide ((20 : Int) < bss.length) = false := by simp; omega
  have hl60 : (ps.length : Int) ≤ 60 := by omega
  have hl20 : (bss.length : Int) ≤ 20 := by omega
  clear o0 o1 o2 hr h60 h20
  go_enter Try.func3, Try.ntmps3
  go_wp2_with fail
  clear h2 h4
  go_loopw [7, 33] (fun cp i wr => ∃ k : Nat, k ≤ ps.length ∧ i = .int .i64 k ∧ Hid (∃ gs us, wr.ownsRow W.heap.size 28 2 cp k (pairCells us (ps.take k)) ∧ Copied W wr gs us (ps.take k) ∧ Below W.heap.size W wr)) (fun _ i _ => ps.length - (intOf i).toNat)
  case atStart => exact ⟨0, Nat.zero_le _, rfl, [], [], World.ownsRow_nil _ _ _ _, ⟨by simp, by simp, by simp, by simp, by simp⟩, Below.refl _ _⟩
  case round =>
    obtain ⟨k, hk, rfl, K1⟩ := hrel
    by_cases hlt : k < ps.length
    · obtain ⟨gs, us, K2⟩ := K1.out
      have K2 := Lib.hid K2
      clear K1
      generalize hpk : ps[k] = pk
      obtain ⟨bs, n⟩ := pk
      obtain ⟨b, o, A', c', rfl, hvk, hcell0, hcell1, hbs, hu⟩ := H1.out.pair K2.out.2.2 k hlt hpk
      have Hbs : Hid (Bs (wr.alloc (.cells #[.slice A' bs.length c', .int .u64 n] 28)) W.heap.size (.slice A' bs.length c') bs) := ⟨hbs.1.alloc K2.out.2.2.size _, hbs.2⟩
      have Hu := Lib.hid hu
      have Hpk : Hid (ps.take (k + 1) = ps.take k ++ [(bs, n)]) := by show _ = _; rw [List.take_succ_eq_append_getElem hlt, hpk]
      clear hvk hbs hu hpk
      go_wp2_with fail
      have hn0 := World.cell?_alloc_new wr #[.slice A' bs.length c', .int .u64 n] 28 0
      have hn1 := World.cell?_alloc_new wr #[.slice A' bs.length c', .int .u64 n] 28 1
      obtain ⟨wa, hwa⟩ : ∃ wa, wa = wr.alloc (.cells #[.slice A' bs.length c', .int .u64 n] 28) := ⟨_, rfl⟩
      rw [← hwa] at hn0 hn1 Hbs ⊢
      have Hwa : Hid (wa.heap.size = wr.heap.size + 1 ∧ Below W.heap.size W wa ∧ wa.ownsRow W.heap.size 28 2 u7 k (pairCells us (ps.take k)) ∧ Copied W wa gs us (ps.take k)) := by
        rw [hwa]
        exact ⟨by simp, K2.out.2.2.alloc K2.out.2.2.size _, K2.out.1.alloc _, K2.out.2.1.on fun g hg => Below.heap_alloc wr _ g (K2.out.2.1.lt g hg)⟩
      have Hne : Hid (some wr.heap.size ≠ u7.ownBlock) := fun e => Nat.lt_irrefl _ (K2.out.1.lt _ e.symm).2
      clear hwa K2 hcell0 hcell1
      simp only [List.getElem?_toArray, List.getElem?_cons_zero, List.getElem?_cons_succ] at hn0 hn1
      go_region_held3 (fun w' => w'.cell? ⟨wr.heap.size, 0, none⟩ = some (.slice A' bs.length c') ∧ w'.cell? ⟨wr.heap.size, 1, none⟩ = some (.int .u64 n))
        (first
          | go_keep
          | (exact ⟨(by rw [q4.cell (by show wr.heap.size < wa.heap.size; have := Hwa.out.1; omega)]; exact hn0), (by rw [q4.cell (by show wr.heap.size < wa.heap.size; have := Hwa.out.1; omega)]; exact hn1)⟩)
          | (exact ⟨hg4.cell (by rw [World.cell?_alloc_lt _ _ _ (by show wr.heap.size < w3.heap.size; have h1 := q4.size; have h2 := Hwa.out.1; simp at h1; omega), q4.cell (by show wr.heap.size < wa.heap.size; have := Hwa.out.1; omega)]; exact hn0) Hne.out, hg4.cell (by rw [World.cell?_alloc_lt _ _ _ (by show wr.heap.size < w3.heap.size; have h1 := q4.size; have h2 := Hwa.out.1; simp at h1; omega), q4.cell (by show wr.heap.size < wa.heap.size; have := Hwa.out.1; omega)]; exact hn1) Hne.out⟩))
        (first
          | ((go_at_call 15); (refine (again_any _ W.heap.size _ bs (by exact Hbs.out)).mono ?_); rintro e w3 ⟨cc, q1, q2, rfl, q3, q4, -⟩)
          | ((with_reducible refine step_append_pair (os := .tmp 37) (ox := .tmp 44) (base := W.heap.size) (v := u7) (n := k) (xs := pairCells us (ps.take k)) (B := w3.heap.size + 1) (vx := .slice (some ⟨w3.heap.size, 0, none⟩) 1 1) (m := 1) (news := [.slice (some ⟨wa.heap.size, 0, none⟩) bs.length cc, .int .u64 n]) ?_ ?_ ?_ ?_ ?_ ?_ ?_ ?_);
             go_must ((· exact World.ownsRow.alloc (ownsRow_on Hwa.out.2.2.1 (below_of_drew q4)) _); (· exact sl_mk rfl (Nat.le_refl 1) (by unfold maxLen; omega) (row_new w3 [.slice (some ⟨wa.heap.size, 0, none⟩) bs.length cc, .int .u64 n] 28)); (· intro u hu; simp at hu; rcases hu with rfl | rfl <;> rfl); (· have := H60.out; omega); (· have h1 := q4.size; have h2 := Hwa.out.2.1.size; simp at h1 ⊢; omega); (· rfl); (· rfl); intro v4 w4 hown4 hg4)))
      have K5 : Hid (∃ gs us, w4.ownsRow W.heap.size 28 2 v4 (k + 1) (pairCells us (ps.take (k + 1))) ∧ Copied W w4 gs us (ps.take (k + 1)) ∧ Below W.heap.size W w4) := by
        rw [Hpk.out]
        exact tell_step Hwa.out.2.2.1 Hwa.out.2.2.2 Hwa.out.2.1 q1 q2 q3 (below_of_drew q4) hg4 hown4 Hbs.out.2 Hu.out
      clear Hwa q1 q2 q3 q4 hg4 hown4 hn0 hn1 Hne
      go_wp2_with fail
      go_roundw
      case rel => exact ⟨k + 1, by omega, by go_num, K5⟩
      case measure => simp [intOf]; omega
    · have hk' : k = ps.length := by omega
      subst hk'
      clear hlt hk
      obtain ⟨gs, us, K2⟩ := K1.out
      rw [List.take_length] at K2
      obtain ⟨gin, Ai, ci, rfl, hAi, hst⟩ := tell_init K2.1 K2.2.1 K2.2.2
      have HAi := Lib.hid hAi
      have K3 : Hid (PairsAt wr wr.heap.size (.slice Ai ps.length ci) ps ∧ TellSt W wr gin gs ps 0) := ⟨(K2.2.1.pairs K2.1).at_, hst⟩
      clear K1 K2 hAi hst
      go_wp2_with fail
      refine (new_any wr wr.heap.size _ ps rest Hr.out K3.out.1 (Nat.le_refl _) (by have := H60.out; omega)).mono ?_
      rintro e w1 ⟨hcase, hb1⟩
      have K4 : Hid (TellSt W w1 gin gs ps 0 ∧ Below W.heap.size W w1) := ⟨K3.out.2.on hb1, K3.out.2.below.trans (hb1.mono K3.out.2.below.size)⟩
      clear K3 hb1
      obtain ⟨T, pv, ev, rfl, hT0, hTk, hTb, hcase2⟩ : ∃ (T : World → Prop) (pv : Value) (ev : Int), e = .returned (.tuple #[pv, .int .i64 ev]) ∧ T w1 ∧ Kept T ∧ (∀ w w', T w → Below w.heap.size w w' → T w') ∧
          ((newErr ps = 0 ∧ ∃ t m1 m2, pv = .pointer (some ⟨t, 0, none⟩) ∧ ev = 0 ∧ ∀ w, T w → TabAt w t m1 m2 ps (often rest ps) rest) ∨ (newErr ps = 70 ∧ pv = .pointer none ∧ ev = 70)) := by
        rcases hcase with ⟨h0, t, m1, m2, h1, _, _, _, h2⟩ | ⟨h0, h1⟩
        · exact ⟨_, _, _, h1, h2, kept_tab t m1 m2 ps _ rest, fun _ _ h hb => TabAt.on h hb, .inl ⟨h0, t, m1, m2, rfl, rfl, fun _ h => h⟩⟩
        · exact ⟨fun _ => True, _, _, h1, trivial, kept_true, fun _ _ _ _ => trivial, .inr ⟨h0, rfl, rfl⟩⟩
      have HT0 := Lib.hid hT0
      have HTk := Lib.hid hTk
      have HTb := Lib.hid hTb
      clear hcase hT0 hTk hTb
      have hfin : Hid ((∃ t m1 m2, ∀ w, T w → TabAt w t m1 m2 ps (often rest ps) rest) ∨ True) := .inr trivial
      rcases hcase2 with ⟨h0, t, m1, m2, rfl, rfl, h3⟩ | ⟨h0, rfl, rfl⟩
      all_goals
        have Hn := Lib.hid h0
        clear h0
        go_wp2_with fail
        refine (refNew_any w1 W.heap.size _ ps (H1.out.on K4.out.2).at_ (by have := H60.out; omega)).mono ?_
        rintro e w' ⟨he, n2, rfl⟩
        rw [Hn.out] at he
        subst he
        go_wp2_with fail
        go_loopw [67] (fun i wr => ∃ k : Nat, k ≤ ps.length ∧ i = .int .i64 k ∧ Hid (TellSt W wr gin gs ps k ∧ T wr)) (fun i _ => ps.length - (intOf i).toNat)
        case atStart => exact ⟨0, Nat.zero_le _, rfl, K4.out.1.on (below_drewN (Below.refl _ _) _), HTb.out _ _ HT0.out (below_drewN (Below.refl _ _) _)⟩
        clear K4 HT0
        obtain ⟨k, hk, rfl, K5⟩ := hrel
        by_cases hlt : k < ps.length
        · have hA := HAi.out (by omega)
          subst hA
          generalize hpk : ps[k] = pk
          obtain ⟨bs, n⟩ := pk
          have hpk' : ps[k]? = some (bs, n) := by rw [List.getElem?_eq_getElem hlt, hpk]
          obtain ⟨g, c3, e1, e2, e3, e4, e5, e6, e7, e8⟩ := K5.out.1.el k _ (Nat.le_refl _) hpk'
          obtain ⟨b, o, A', c', rfl, hvk, hcell0, hcell1, hbs, hu⟩ := H1.out.pair K5.out.1.below k hlt hpk
          simp only at e3 e4 e5 e6 e8
          have hb1 : Hid (Bs wr wr.heap.size (.slice (some ⟨g, 0, none⟩) bs.length c3) bs) := e5.bs e8 e6 e7
          have hb2 : Hid (Bs wr wr.heap.size (.slice A' bs.length c') bs) := hbs.more K5.out.1.below.size
          have hmax : (bs.length : Int) ≤ 9223372036854775807 := by unfold maxLen at e7; omega
          have E1 := Lib.hid e1
          have E2 := Lib.hid e2
          have E5 := Lib.hid e5
          have Hpk := Lib.hid hpk'
          clear hpk hpk' hvk hbs hu e1 e2 e5 e6 e7 e8
          go_wp2_with fail
          go_quiet ((go_at_call 18; exact Calls.quiet_of_same ((equal_same _ wr.heap.size _ _ bs (by exact hb1.out) (by exact hb2.out)).mono fun _ _ h => ⟨h.1, h.2.symm⟩)))
          have K6 : Hid (Scr (wr.drewN nq) g bs.length ∧ (wr.drewN nq).grownBy (wr.drewN nq) (some g)) := ⟨E5.out.scr, grown_refl _ _⟩
          have K7 : Hid (TellSt W (wr.drewN nq) gin gs ps k ∧ T (wr.drewN nq) ∧ OwnB (wr.drewN nq) g bs) := ⟨K5.out.1.on (below_drewN (Below.refl _ _) _), HTb.out _ _ K5.out.2 (below_drewN (Below.refl _ _) _), E5.out⟩
          have hi0 : (wr.drewN nq).cell? ⟨gin, k * 2, none⟩ = some (.slice (some ⟨g, 0, none⟩) bs.length c3) := e3
          have hi1 : (wr.drewN nq).cell? ⟨gin, k * 2 + 1, none⟩ = some (.int .u64 n) := e4
          clear K5 e3 e4 hb1 hb2 E5 hcell0 hcell1
          obtain ⟨wo, hwo⟩ : ∃ wo : World, wo = wr.drewN nq := ⟨_, rfl⟩
          rw [← hwo] at K6 K7 hi0 hi1 ⊢
          clear hwo
          go_wp2_with fail
          go_loopw [101] (fun i wr => ∃ j : Nat, j ≤ bs.length ∧ i = .int .i64 j ∧ Hid (Scr wr g bs.length ∧ wo.grownBy wr (some g))) (fun i _ => bs.length - (intOf i).toNat)
          case atStart => exact ⟨0, Nat.zero_le _, rfl, K6⟩
          case round =>
            clear K6
            obtain ⟨j, hj, rfl, K8⟩ := hrel
            have Hov := Lib.hid (K7.out.1.over Hpk.out E1.out K7.out.2.2 E2.out K8.out.2)
            have hc0 : wr.cell? ⟨gin, k * 2, none⟩ = some (.slice (some ⟨g, 0, none⟩) bs.length c3) := by rw [Hov.out.2.1]; exact hi0
            have hc1 : wr.cell? ⟨gin, k * 2 + 1, none⟩ = some (.int .u64 n) := by rw [Hov.out.2.2]; exact hi1
            by_cases hjlt : j < bs.length
            · obtain ⟨x, hx, hfz⟩ := K8.out.1.cell j hjlt
              go_wp2_with fail
              go_roundw
              case rel => exact ⟨j + 1, by omega, by go_num, K8.out.1.set j _, grown_trans K8.out.2 (grown_setCell _ _ _)⟩
              case measure => simp [intOf]; omega
            · have hj' : j = bs.length := by omega
              subst hj'
              clear hjlt hj
              have h0 : 0 < ps.length := by omega
              obtain ⟨cs, hcs⟩ := Hov.out.1.blk h0
              have hfz : wr.frozen? ⟨gin, k * 2 + 1, none⟩ = false := frozen_of_row wr gin _ cs _ hcs
              have K9 : Hid (∀ x : Int, TellSt W (wr.setCell ⟨gin, k * 2 + 1, none⟩ (.int .u64 x)) gin gs ps (k + 1) ∧ T (wr.setCell ⟨gin, k * 2 + 1, none⟩ (.int .u64 x))) := by
                intro x
                refine ⟨Hov.out.1.num h0 x, ?_⟩
                obtain ⟨cs2, fr2, hc2, _⟩ := K7.out.2.2
                have hT1 : T wr := HTk.out wo wr g _ _ _ K7.out.2.1 hc2 (.inl rfl) K8.out.2
                exact HTk.out wr _ gin _ _ _ hT1 hcs (.inr rfl) (grown_setCell _ _ _)
              clear K7 K8 Hov hcs hi0 hi1
              go_wp2_with fail
              go_roundw
              case rel => exact ⟨k + 1, by omega, by go_num, K9.out _⟩
              case measure => simp [intOf]; omega
        have hk' : k = ps.length := by omega
        subst hk'
        clear hlt hk
      · have K6 : Hid (Below W.heap.size W wr ∧ TabAt wr t m1 m2 ps (often rest ps) rest) := ⟨K5.out.1.below, h3 _ K5.out.2⟩
        clear K5 HTk HTb h3 HAi
        go_wp2_with fail
        go_loopw [129] (fun i wr => ∃ k : Nat, k ≤ bss.length ∧ i = .int .i64 k ∧ Hid (Below W.heap.size W wr ∧ TabAt wr t m1 m2 ps (often rest ps) rest)) (fun i _ => bss.length - (intOf i).toNat)
        case atStart => exact ⟨0, Nat.zero_le _, rfl, K6⟩
        case round =>
          clear K6
          obtain ⟨k, hk, rfl, K8⟩ := hrel
          by_cases hlt : k < bss.length
          · obtain ⟨b, o, A', c', rfl, hcell, hbs⟩ := rows_at H2.out K8.out.1 k hlt
            generalize bss[k] = bs at *
            have Hbs := Lib.hid hbs
            clear hbs
            go_wp2_with fail
            refine (again_any wr W.heap.size _ bs Hbs.out).mono ?_
            rintro e w3 ⟨cc, q1, q2, rfl, q3, q4, -⟩
            have K9 : Hid (Below W.heap.size W w3 ∧ TabAt w3 t m1 m2 ps (often rest ps) rest ∧ Bs w3 w3.heap.size (.slice (some ⟨wr.heap.size, 0, none⟩) bs.length cc) bs ∧ Bs w3 W.heap.size (.slice A' bs.length c') bs) :=
              ⟨K8.out.1.trans (q4.mono K8.out.1.size), K8.out.2.on q4, q3.bs Hbs.out.2 q1 q2, Hbs.out.on (q4.mono K8.out.1.size)⟩
            clear K8 q1 q2 q3 q4 Hbs hcell
            generalize hX : (if bs.length = 128 then (aget ps bs).getD rest else 0) = X
            generalize hE : (if bs.length = 128 then (0 : Int) else 2) = E
            have HX := Lib.hid hX
            have HE := Lib.hid hE
            clear hX hE
            go_wp2_with fail
            refine (print_any w3 w3.heap.size t m1 m2 ps _ rest _ bs K9.out.2.2.1 K9.out.2.1).mono ?_
            rintro e w' ⟨he, n6, rfl⟩
            rw [HX.out, HE.out] at he
            subst he
            go_wp2_with fail
            refine (refPrint_any (w3.drewN n6) W.heap.size _ _ ps rest bs (H1.out.on (below_drewN K9.out.1 n6)).at_ K9.out.2.2.2 (by have := H60.out; omega)).mono ?_
            rintro e w' ⟨he, n7, rfl⟩
            rw [HX.out, HE.out] at he
            subst he
            go_wp2_with fail
            refine (equal_same (w3.drewN (n6 + n7)) w3.heap.size _ _ bs K9.out.2.2.1 (K9.out.2.2.2.more K9.out.1.size)).mono ?_
            rintro e w' ⟨rfl, rfl⟩
            go_wp2_with fail
            go_roundw
            case rel => exact ⟨k + 1, by omega, by go_num, below_drewN K9.out.1 _, K9.out.2.1⟩
            case measure => simp [intOf]; omega
          · have hk' : k = bss.length := by omega
            subst hk'
            clear hlt hk
            go_wp2_with fail
            refine (len_any wr t m1 m2 _ _ rest K8.out.2).mono ?_
            rintro e w' ⟨rfl, rfl⟩
            go_wp2_with fail
            refine (unlike_any wr t m1 m2 _ _ rest K8.out.2 (by have := H60.out; omega)).mono ?_
            rintro e w' ⟨he, n8, rfl⟩
            rw [often_dec] at he
            subst he
            go_wp2_with fail
            refine (refUnlike_any (wr.drewN n8) W.heap.size _ ps rest (H1.out.on (below_drewN K8.out.1 n8)).at_ (by have := H60.out; omega)).mono ?_
            rintro e w' ⟨rfl, n9, rfl⟩
            generalize decide (Unl rest ps) = un
            go_wp2_with fail
            refine (awake07 (wr.drewN (n8 + n9))).mono ?_; rintro e w' ⟨rfl, hb⟩
            have Hb : Hid (Below W.heap.size W w') := (below_drewN K8.out.1 _).trans (hb.mono K8.out.1.size)
            clear hb
            go_wp2_with fail
            go_ret
            exact ⟨rfl, Hb.out⟩
      · have K6 : Hid (Below W.heap.size W wr) := K5.out.1.below
        clear K5 HTk HTb HAi
        go_wp2_with fail
        refine (awake07 wr).mono ?_; rintro e w' ⟨rfl, hb⟩
        have Hb : Hid (Below W.heap.size W w') := K6.out.trans (hb.mono K6.out.size)
        clear hb
        go_wp2_with fail
        go_ret
        exact ⟨rfl, Hb.out⟩

set_option maxRecDepth 100000 in
set_option maxHeartbeats 1000000 in
theorem tableTells_early (W : World) (v0 : Value) (ps : List (List Int × Int)) (o0 : PairsAt W W.heap.size v0 ps) (rest : Int) (v2 : Value) (bss : List (List Int)) (o2 : Ls W W.heap.size 1 (fun cs bs => ∃ v, cs = [v] ∧ Bs W W.heap.size v bs) v2 bss) (h : 60 < ps.length ∨ 20 < bss.length) :
    Calls Try.prog 3 #[v0, .int .u64 rest, v2] W (Awake W) := by
  obtain ⟨A, c, rfl, _⟩ := o0.open
  obtain ⟨A2, c2, rfl, _⟩ := o2.form
  clear o0 o2
  by_cases h1 : 60 < ps.length
  · have h2 : decide ((60 : Int) < ps.length) = true := by simp; omega
    clear h h1
    go_enter Try.func3, Try.ntmps3
    go_wp2_with fail
    refine (awake07 W).mono ?_; rintro e w' ⟨rfl, hb⟩
    have Hb := Lib.hid hb
    clear hb
    go_wp2_with fail
    go_ret
    exact ⟨rfl, Hb.out⟩
  · have h2 : decide ((60 : Int) < ps.length) = false := by simp; omega
    have h4 : decide ((20 : Int) < bss.length) = true := by simp; omega
    clear h h1
    go_enter Try.func3, Try.ntmps3
    go_wp2_with fail
    refine (awake07 W).mono ?_; rintro e w' ⟨rfl, hb⟩
    have Hb := Lib.hid hb
    clear hb
    go_wp2_with fail
    go_ret
    exact ⟨rfl, Hb.out⟩

theorem tableTells_walk (W : World) (v0 : Value) (ps : List (List Int × Int)) (o0 : PairsAt W W.heap.size v0 ps) (rest : Int) (hr : IsU64 rest) (v2 : Value) (bss : List (List Int)) (o2 : Ls W W.heap.size 1 (fun cs bs => ∃ v, cs = [v] ∧ Bs W W.heap.size v bs) v2 bss) :
    Calls Try.prog 3 #[v0, .int .u64 rest, v2] W (Awake W) := by
  by_cases h : 60 < ps.length ∨ 20 < bss.length
  · exact tableTells_early W v0 ps o0 rest v2 bss o2 h
  · exact tableTells_on W v0 ps o0 rest hr v2 bss o2 (by omega) (by omega)
end Go.Proofs.Yticdmiomkmaaoaa
