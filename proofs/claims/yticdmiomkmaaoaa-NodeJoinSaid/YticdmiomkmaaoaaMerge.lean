/-
  A map laid over another one, entry by entry.
-/
import Derived.Test.YticdmiomkmaaoaaMapF
import Derived.Maps.Ext
namespace Go.Proofs.Yticdmiomkmaaoaa
open Go.RowKit
open Go.Maps (Keyed)

theorem has_key {w : World} {m s : Nat} {D : DataW Unit} (h : w.ownsMap Try.prog 23 R64 m s D) {k : Lit} (hk : Maps.has D k = true) : ∃ x, k = kl x ∧ IsU64 x := by
  obtain ⟨es, clock, hb, F, _, rfl⟩ := h
  obtain ⟨p, hp, hpk⟩ := List.any_eq_true.1 hk
  obtain ⟨x, hx, rfl⟩ := List.mem_map.1 (mem_sorted.1 hp)
  obtain ⟨y, hy⟩ := F.reads x hx
  obtain ⟨v, e1, e2, hw⟩ := Maps.keyOf_int_inv Try.underlying23 (WideElems.rd_key hy)
  have e3 := WideAt.sameKey_eq hpk
  rw [WideElems.rg_of hy] at e3
  exact ⟨v, by rw [← e3, e2]; rfl, u64_wf hw⟩
theorem MF.size_eq {w w' : World} {m m' s s' : Nat} {f : Int → Option Int} (h : MF w m f s) (h' : MF w' m' f s') : s = s' := by
  obtain ⟨D, h1, h2, h3⟩ := h
  obtain ⟨D', h1', h2', h3'⟩ := h'
  have e : D = D' := by
    refine Maps.ext (h1.canon kU64) (h1'.canon kU64) (fun k => ?_) (fun k z hk => ?_)
    · by_cases hk : Maps.has D k = true
      · obtain ⟨x, rfl, hx⟩ := has_key h1 hk
        rw [h3.has x hx, h3'.has x hx]
      · by_cases hk' : Maps.has D' k = true
        · obtain ⟨x, rfl, hx⟩ := has_key h1' hk'
          rw [h3.has x hx, h3'.has x hx]
        · simp only [Bool.not_eq_true] at hk hk'
          rw [hk, hk']
    · obtain ⟨x, rfl, hx⟩ := has_key h1 hk
      rw [h3.at_ x hx, h3'.at_ x hx]
  rw [← h2, ← h2', e]

/-- g laid over f -/
def funion (f g : Int → Option Int) : Int → Option Int := fun x => (g x).or (f x)
structure Merge (w wr : World) (ma mb r sb S : Nat) (D : DataW Unit) (f g : Int → Option Int) (left : Lit → Bool) (cnt : Nat) (f' : Int → Option Int) (s' : Nat) : Prop where
  mf : MF wr ma f' s'
  rg : wr.ranges Try.prog 23 R64 mb r sb D left cnt
  gr : w.grownBy wr (some ma)
  sz : s' + cnt ≤ S
  fx : ∀ x, IsU64 x → f' x = if left (kl x) = true then f x else (g x).or (f x)
  fd : ∀ x, ¬ IsU64 x → f x = none ∧ g x = none
  lt : ma < w.heap.size
  le : w.heap.size ≤ r
  ne : mb ≠ ma
section
variable {w wr w' : World} {ma mb r sb S s s' : Nat} {D : DataW Unit} {f g f' : Int → Option Int} {left : Lit → Bool} {cnt : Nat}
theorem Merge.start (hm : MF w ma f s) (hD : Holds D g) (hr : w'.ranges Try.prog 23 R64 mb w.heap.size sb D (Maps.has D) (Maps.size D)) (hg : w.grownBy w' none) (hne : mb ≠ ma) :
    Merge w w' ma mb w.heap.size sb (s + Maps.size D) D f g (Maps.has D) (Maps.size D) f s := by
  refine ⟨hm.kept hg (by simp), hr, hg.but _, Nat.le_refl _, fun x hx => ?_, fun x hx => ⟨?_, ?_⟩, hm.lt, Nat.le_refl _, hne⟩
  · rw [hD.has x hx]
    cases hgx : g x with
    | none => simp
    | some c => simp
  · obtain ⟨_, _, _, hf⟩ := hm
    cases hfx : f x with
    | none => rfl
    | some c => exact absurd (hf.dom x c hfx).1 hx
  · cases hgx : g x with
    | none => rfl
    | some c => exact absurd (hD.dom x c hgx).1 hx
theorem Merge.val {x c : Int} (hD : Holds D g) (hx : IsU64 x) (hat : ∀ zd, D.atKey (kl x) zd = .lit (.int .u64 c)) : g x = some c := by
  have h1 := hD.at_ x hx .nil
  rw [hat .nil] at h1
  cases hf : g x with
  | none => rw [hf] at h1; cases h1
  | some y => rw [hf] at h1; simp at h1; rw [h1]
theorem Merge.next (h : Merge w wr ma mb r sb S D f g left cnt f' s') {x : Int} {cnt' : Nat} (hrg : w'.ranges Try.prog 23 R64 mb r sb D (fun z => left z && !z.sameKey (kl x)) cnt') (hg : wr.grownBy w' (some r)) :
    MF w' ma f' s' ∧ w.grownBy w' (some ma) ∧ some mb ≠ some ma ∧ some r ≠ some ma := by
  have hr : some ma ≠ some r := by have := h.lt; have := h.le; intro e; cases e; omega
  exact ⟨h.mf.kept hg hr, h.gr.andThen hg (fun j e => by cases e; exact .inl h.le), by have := h.ne; intro e; cases e; exact this rfl, hr.symm⟩
theorem Merge.step (h : Merge w wr ma mb r sb S D f g left cnt f' s') {x c : Int} (hx : IsU64 x) (hgx : g x = some c) {cnt' : Nat} {w1 w2 : World}
    (hrg : w1.ranges Try.prog 23 R64 mb r sb D (fun z => left z && !z.sameKey (kl x)) cnt') (hlt : cnt' < cnt) (hg : wr.grownBy w1 (some r))
    (hm : MF w2 ma (fset f' x c) (if (f' x).isSome then s' else s' + 1)) (hg2 : w1.grownBy w2 (some ma)) :
    Merge w w2 ma mb r sb S D f g (fun z => left z && !z.sameKey (kl x)) cnt' (fset f' x c) (if (f' x).isSome then s' else s' + 1) := by
  obtain ⟨_, h2, h3, h4⟩ := h.next hrg hg
  have hsz := h.sz
  refine ⟨hm, hrg.kept hg2 h3 h4, h2.andThen hg2 (fun j e => .inr e), by split <;> omega, fun z hz => ?_, h.fd, h.lt, h.le, h.ne⟩
  by_cases e : z = x
  · subst e
    rw [WideAt.sameKey_self (isKey_kl hx)]
    simp [fset, hgx]
  · have e2 : (kl z).sameKey (kl x) = false := by
      cases hs : (kl z).sameKey (kl x) with
      | false => rfl
      | true => exact absurd (WideAt.sameKey_eq hs) (kl_ne e)
    simp only [fset, e, if_false, e2, Bool.not_false, Bool.and_true]
    exact h.fx z hz
theorem Merge.done (h : Merge w wr ma mb r sb S D f g left cnt f' s') (hl : ∀ k, left k = false) : MF wr ma (funion f g) s' := by
  have e : f' = funion f g := by
    funext x
    by_cases hx : IsU64 x
    · rw [h.fx x hx, hl]
      simp [funion]
    · obtain ⟨h1, h2⟩ := h.fd x hx
      obtain ⟨_, _, _, hf⟩ := h.mf
      cases hfx : f' x with
      | none => simp [funion, h1, h2]
      | some c => exact absurd (hf.dom x c hfx).1 hx
  rw [← e]; exact h.mf
end
end Go.Proofs.Yticdmiomkmaaoaa
