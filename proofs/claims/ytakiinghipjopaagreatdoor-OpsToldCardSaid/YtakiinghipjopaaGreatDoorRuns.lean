/-
  runs of like bytes: in plain words, and the iterator's contract.
-/
import Derived.Test.YtakiinghipjopaaGreatDoorRangeBox
import Derived.RangeFuncBound
import Derived.RangeFuncLeaves
import Derived.Shelf.RegionOpen
import Derived.OwnWalkIn
import Derived.TacticsInMore
import Derived.LoopNIn
import Derived.LoopIn
import Derived.Sort.BigQuietIn
namespace Go.Proofs.YtakiinghipjopaaGreatDoor
open Go.RowKit Go.Shelf
attribute [local go_sem] Oper.semAt_some

/-! ### in plain words -/
def spanL (x : Int) : List Int → Nat
  | [] => 0
  | y :: r => if y = x then spanL x r + 1 else 0
theorem spanL_le (x : Int) : ∀ l : List Int, spanL x l ≤ l.length
  | [] => Nat.le_refl _
  | y :: r => by
    have := spanL_le x r
    simp only [spanL, List.length_cons]
    split <;> omega
theorem spanL_of {x : Int} : ∀ {l : List Int} {m : Nat}, m ≤ l.length → (∀ j (h : j < l.length), j < m → l[j] = x) → (∀ h : m < l.length, l[m] ≠ x) → spanL x l = m
  | [], m, hm, _, _ => by simp at hm; subst hm; rfl
  | y :: r, 0, _, _, h2 => by
    have := h2 (by simp)
    simp only [List.getElem_cons_zero] at this
    simp [spanL, this]
  | y :: r, m + 1, hm, h1, h2 => by
    have e := h1 0 (by simp) (by omega)
    simp only [List.getElem_cons_zero] at e
    have ih := spanL_of (x := x) (l := r) (m := m) (by simpa using hm) (fun j h hj => by have := h1 (j + 1) (by simpa using h) (by omega); simpa using this) (fun h => by have := h2 (by simpa using h); simpa using this)
    simp [spanL, e, ih]
def runsN : Nat → List Int → List (Int × Nat)
  | 0, _ => []
  | _ + 1, [] => []
  | f + 1, x :: r => (x, spanL x r + 1) :: runsN f (r.drop (spanL x r))
def runsOf (l : List Int) : List (Int × Nat) := runsN l.length l
theorem runsN_fuel : ∀ (f : Nat) (l : List Int), l.length ≤ f → runsN f l = runsN l.length l
  | 0, [], _ => rfl
  | f + 1, [], _ => rfl
  | f + 1, x :: r, h => by
    have h1 := runsN_fuel f (r.drop (spanL x r)) (by simp at h ⊢; omega)
    have h2 := runsN_fuel r.length (r.drop (spanL x r)) (by simp)
    show (x, spanL x r + 1) :: runsN f _ = (x, spanL x r + 1) :: runsN r.length _
    rw [h1, h2]
theorem runsOf_cons (x : Int) (r : List Int) : runsOf (x :: r) = (x, spanL x r + 1) :: runsOf (r.drop (spanL x r)) := by
  show (x, spanL x r + 1) :: runsN r.length _ = _
  rw [runsN_fuel r.length (r.drop (spanL x r)) (by simp)]
  rfl
theorem runsOf_step {rest : List Int} {m : Nat} (h0 : 0 < m) (hm : m ≤ rest.length) (hs : ∀ j (h : j < rest.length), j < m → rest[j] = rest[0]'(by omega)) (hn : ∀ h : m < rest.length, rest[m] ≠ rest[0]'(by omega)) :
    runsOf rest = (rest[0]'(by omega), m) :: runsOf (rest.drop m) := by
  match rest, hm with
  | x :: r, hm =>
    obtain ⟨m', rfl⟩ : ∃ k, m = k + 1 := ⟨m - 1, by omega⟩
    have e := spanL_of (x := x) (l := r) (m := m') (by simpa using hm) (fun j h hj => by have := hs (j + 1) (by simpa using h) (by omega); simpa using this) (fun h => by have := hn (by simpa using h); simpa using this)
    rw [runsOf_cons, e]
    simp
  | [], hm => simp at hm; omega

/-- what is left of the bytes, as the iterator's own cell tells it -/
def Rest (W : World) (n0 Bx : Nat) (A : Option Addr) (L c : Nat) (rest : List Int) : Prop :=
  L = rest.length ∧ L ≤ c ∧ c ≤ maxLen ∧ (0 < L → ∃ b o, A = some ⟨b, o, none⟩ ∧ b < n0 ∧ b ≠ Bx ∧ ∀ j (h : j < rest.length), W.cell? ⟨b, o + j, none⟩ = some (.int .u8 rest[j]))
theorem Rest.on {W W' : World} {n0 Bx : Nat} {A : Option Addr} {L c : Nat} {rest : List Int} (h : Rest W n0 Bx A L c rest) (hb : Below n0 W W') : Rest W' n0 Bx A L c rest := by
  obtain ⟨h1, h2, h3, h4⟩ := h
  refine ⟨h1, h2, h3, fun hL => ?_⟩
  obtain ⟨b, o, e, hb0, hne, hc⟩ := h4 hL
  exact ⟨b, o, e, hb0, hne, fun j hj => (hb.cell (p := ⟨b, o + j, none⟩) hb0).trans (hc j hj)⟩
theorem Rest.onX {W W' : World} {n0 Bx : Nat} {A : Option Addr} {L c : Nat} {rest : List Int} (h : Rest W n0 Bx A L c rest) (hb : BelowX n0 Bx W W') : Rest W' n0 Bx A L c rest := by
  obtain ⟨h1, h2, h3, h4⟩ := h
  refine ⟨h1, h2, h3, fun hL => ?_⟩
  obtain ⟨b, o, e, hb0, hne, hc⟩ := h4 hL
  exact ⟨b, o, e, hb0, hne, fun j hj => (hb.cell (p := ⟨b, o + j, none⟩) (.inl hb0)).trans (hc j hj)⟩
theorem Rest.set {W : World} {n0 Bx : Nat} {A : Option Addr} {L c : Nat} {rest : List Int} (h : Rest W n0 Bx A L c rest) (u : Value) : Rest (W.setCell ⟨Bx, 0, none⟩ u) n0 Bx A L c rest := by
  obtain ⟨h1, h2, h3, h4⟩ := h
  refine ⟨h1, h2, h3, fun hL => ?_⟩
  obtain ⟨b, o, e, hb0, hne, hc⟩ := h4 hL
  exact ⟨b, o, e, hb0, hne, fun j hj => by rw [World.cell?_setCell_other _ _ _ _ (by intro e2; exact hne (congrArg Addr.block e2).symm)]; exact hc j hj⟩
def boxLen (W : World) (Bx : Nat) : Nat := match W.cell? ⟨Bx, 0, none⟩ with | some (.slice _ L _) => L | _ => 0
end Go.Proofs.YtakiinghipjopaaGreatDoor
