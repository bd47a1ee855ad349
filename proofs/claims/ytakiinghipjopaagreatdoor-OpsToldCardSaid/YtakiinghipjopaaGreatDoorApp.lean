/-
  append onto a slice of the call's own, from whatever source; what an owned row reads as.
-/
import Derived.Test.YtakiinghipjopaaGreatDoorKit
import Derived.Laws.AppendOwnNone
import Derived.Laws.OwnMore
namespace Go.Proofs.YtakiinghipjopaaGreatDoor
open Go.RowKit

theorem Sl.of_own {w : World} {base : Nat} {e : TypeId} {size : Nat} {v : Value} {n : Nat} {xs : List Value} (h : w.ownsRow base e size v n xs) : Sl w w.heap.size size v n xs := by
  obtain ⟨hl, ⟨rfl, rfl⟩ | ⟨g, cap, cur, rfl, hb, hh, hn, hm, hs, ht⟩⟩ := h
  · have : xs = [] := List.eq_nil_of_length_eq_zero (by simpa using hl)
    subst this
    exact sl_nil _ _ _
  · refine sl_mk hl hn hm ⟨?_, fun j u hu => ?_⟩
    · rcases Nat.lt_or_ge g w.heap.size with h1 | h1
      · exact h1
      · simp [Array.getElem?_eq_none h1] at hh
    · rw [Nat.zero_add, cell_of_row w g j cur _ _ hh]
      rw [← ht] at hu
      rw [List.getElem?_take] at hu
      split at hu
      · simpa using hu
      · cases hu

theorem run_append_sl {P : Program} (w : World) (base : Nat) (t ty e : TypeId) (z : Value) (size bytes : Nat) (ht : P.underlying t = some (.slice e)) (hi : (P.info? e).map (fun i => (i.zero, i.size, i.bytes)) = some (some z, size, bytes))
    (hzs : z.cells.size = size) (hsz : 0 < size) (v : Value) (n : Nat) (xs : List Value) (hown : w.ownsRow base e size v n xs) {B : Nat} (vx : Value) (m : Nat) (news : List Value) (hx : Sl w B size vx m news)
    (h1 : ∀ u ∈ news, u.oneCell' = true) (h63 : n + m ≤ maxLen) (hbytes : (n + m) * bytes ≤ 140737488355328) (hbase : base ≤ w.heap.size) :
    ∃ v' w', (Builtin.append_ #[t, t] ty #[v, vx]).run P w = .ok v' w' ∧ w'.ownsRow base e size v' (n + m) (xs ++ news) ∧ w.grownBy w' v.ownBlock := by
  cases hq : P.info? e with
  | none => simp [hq] at hi
  | some i =>
    simp [hq] at hi
    obtain ⟨hz, hsize, hby⟩ := hi
    obtain ⟨hl, A, c, rfl, hc, hm, hnil, hr⟩ := hx
    cases A with
    | none =>
      have hm0 : m = 0 := by
        rcases Nat.eq_zero_or_pos m with h | h
        · exact h
        · obtain ⟨b, o, h, _⟩ := hr h
          cases h
      have hc0 := hnil rfl
      subst hm0; subst hc0
      have hnews : news = [] := List.eq_nil_of_length_eq_zero (by simpa using hl)
      subst hnews
      have := run_append_owned_none (P := P) (w := w) base t ty e i size ht hq v n xs hown
      exact ⟨v, w, this, by simpa using hown, ⟨rfl, rfl, rfl, Nat.le_refl _, fun _ _ _ => rfl⟩⟩
    | some ad =>
      obtain ⟨v', w', h2, h3, h4, _⟩ := run_append_own (P := P) w base t ty e i z size bytes ht hq hz hsize hby hzs hsz v n xs hown ad m c news hl (fun j u hu => by
        have hm0 : 0 < m := by
          rcases Nat.eq_zero_or_pos m with h | h
          · subst h
            have hnews : news = [] := List.eq_nil_of_length_eq_zero (by simpa using hl)
            subst hnews; simp at hu
          · exact h
        obtain ⟨b, o, h, hrow⟩ := hr hm0
        cases h
        rw [add_mk]; exact hrow.2 j u hu) h1 h63 hbytes hbase
      exact ⟨v', w', h2, h3, h4⟩

section
variable {P : Program} {ops : Array Oper} {w : World} {Q : Exit → Act → World → Prop} {a : Act} {rest : List Oper} {dst : Option Tmp} {os ox : Operand} {ty : TypeId} {pos : String} {after : Array Edge}
/-- append, at the operation -/
theorem wl_append (base : Nat) (t e : TypeId) (z : Value) (size bytes : Nat) (ht : P.underlying t = some (.slice e)) (hi : (P.info? e).map (fun i => (i.zero, i.size, i.bytes)) = some (some z, size, bytes))
    (hzs : z.cells.size = size) (hsz : 0 < size) (v : Value) (n : Nat) (xs : List Value) (hown : w.ownsRow base e size v n xs) {B : Nat} (vx : Value) (m : Nat) (news : List Value) (hx : Sl w B size vx m news)
    (h1 : ∀ u ∈ news, u.oneCell' = true) (h63 : n + m ≤ maxLen) (hbytes : (n + m) * bytes ≤ 140737488355328) (hbase : base ≤ w.heap.size) (hs : a.eval os = v) (hxx : a.eval ox = vx)
    (hK : ∀ v' w', w'.ownsRow base e size v' (n + m) (xs ++ news) → w.grownBy w' v.ownBlock → wpList P ops Q rest (a.put dst v') w') :
    wpList P ops Q (⟨dst, .call { callee := .builtin .append, args := #[os, ox], argTypes := #[t, t] }, ty, pos, after, none⟩ :: rest) a w := by
  refine wpList_plain rfl fun K hKK => ?_
  obtain ⟨v', w', hr, h2, h3⟩ := run_append_sl (P := P) w base t ty e z size bytes ht hi hzs hsz v n xs hown vx m news hx h1 h63 hbytes hbase
  unfold Oper.wp execOp
  simp only [resolve, invoke, builtin, Sem.run_bind, Sem.run_pure, Result.andThen_ok, List.map_toArray, List.map_cons, List.map_nil, hs, hxx, hr]
  exact hKK _ _ (hK v' w' h2 h3)
/-- append, in a region that draws its order -/
theorem step_append_sl {E : Prop} {K : Act → World → Prop} (base : Nat) (t e : TypeId) (z : Value) (size bytes : Nat) (ht : P.underlying t = some (.slice e)) (hi : (P.info? e).map (fun i => (i.zero, i.size, i.bytes)) = some (some z, size, bytes))
    (hzs : z.cells.size = size) (hsz : 0 < size) (v : Value) (n : Nat) (xs : List Value) (hown : w.ownsRow base e size v n xs) {B : Nat} (vx : Value) (m : Nat) (news : List Value) (hx : Sl w B size vx m news)
    (h1 : ∀ u ∈ news, u.oneCell' = true) (h63 : n + m ≤ maxLen) (hbytes : (n + m) * bytes ≤ 140737488355328) (hbase : base ≤ w.heap.size) (hs : a.eval os = v) (hxx : a.eval ox = vx)
    (hK : ∀ v' w', w'.ownsRow base e size v' (n + m) (xs ++ news) → w.grownBy w' v.ownBlock → K (a.put dst v') w') :
    if Region.wanted ⟨dst, .call { callee := .builtin .append, args := #[os, ox], argTypes := #[t, t] }, ty, pos, after, none⟩ (yielded ops a.tmps) = true then
      Oper.wp P ⟨dst, .call { callee := .builtin .append, args := #[os, ox], argTypes := #[t, t] }, ty, pos, after, none⟩ a w K Q else E := by
  simp only [Region.wanted, if_true]
  obtain ⟨v', w', hr, h2, h3⟩ := run_append_sl (P := P) w base t ty e z size bytes ht hi hzs hsz v n xs hown vx m news hx h1 h63 hbytes hbase
  unfold Oper.wp execOp
  simp only [resolve, invoke, builtin, Sem.run_bind, Sem.run_pure, Result.andThen_ok, List.map_toArray, List.map_cons, List.map_nil, hs, hxx, hr]
  exact hK v' w' h2 h3
end
end Go.Proofs.YtakiinghipjopaaGreatDoor
