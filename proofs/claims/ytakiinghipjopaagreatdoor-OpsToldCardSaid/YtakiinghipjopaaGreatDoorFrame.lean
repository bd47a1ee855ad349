/-
  What arguments that came in read as: lists of what their elements read as; and a law's frame: arguments that nobody wrote to read as they did.
-/
import Derived.Test.YtakiinghipjopaaGreatDoorKit
import Derived.Test.YtakiinghipjopaaGreatDoorRows
import Derived.ProofKit
import Derived.OpenShut
import Derived.ShutString
import Derived.ChangeOld
import Derived.Below
import Derived.Deep.Slices
namespace Go.Proofs.YtakiinghipjopaaGreatDoor
open Go.ChangeShapes Go.WideShapes Go.ChangeAt Go.RowKit

/-- The slice value v reads as a list whose elements, of `size` cells each, are related to xs by Φ. -/
def Ls {α : Type} (w : World) (B size : Nat) (Φ : List Value → α → Prop) (v : Value) (xs : List α) : Prop :=
  ∃ css : List (List Value), css.length = xs.length ∧ Sl w B size v xs.length css.flatten ∧ ∀ (i : Nat) (cs : List Value) (x : α), css[i]? = some cs → xs[i]? = some x → cs.length = size ∧ Φ cs x

theorem flatten_get {size : Nat} : ∀ (css : List (List Value)), (∀ cs ∈ css, cs.length = size) → ∀ (i j : Nat) (cs : List Value), css[i]? = some cs → j < size → css.flatten[i * size + j]? = cs[j]?
  | [], _, i, j, cs, h, _ => by simp at h
  | c :: css, hl, 0, j, cs, h, hj => by
    simp at h; subst h
    have := hl c (by simp)
    simp only [List.flatten_cons, Nat.zero_mul, Nat.zero_add]
    rw [List.getElem?_append_left (by omega)]
  | c :: css, hl, i + 1, j, cs, h, hj => by
    have h0 := hl c (by simp)
    have := flatten_get css (fun x hx => hl x (by simp [hx])) i j cs (by simpa using h) hj
    simp only [List.flatten_cons]
    have hm : (i + 1) * size + j = c.length + (i * size + j) := by rw [Nat.succ_mul, h0]; omega
    rw [hm, List.getElem?_append_right (by omega)]
    simpa using this

theorem flatten_len {size : Nat} : ∀ (css : List (List Value)), (∀ cs ∈ css, cs.length = size) → css.flatten.length = css.length * size
  | [], _ => by simp
  | c :: css, hl => by
    have := flatten_len css (fun x hx => hl x (by simp [hx]))
    have h0 := hl c (by simp)
    simp only [List.flatten_cons, List.length_append, List.length_cons, this, h0, Nat.succ_mul]
    omega

section
variable {α : Type} {w w' : World} {B size : Nat} {Φ : List Value → α → Prop} {v : Value} {xs : List α}
theorem Ls.form (h : Ls w B size Φ v xs) : ∃ A c, v = .slice A xs.length c ∧ xs.length ≤ c ∧ c ≤ maxLen := by
  obtain ⟨css, _, hs, _⟩ := h
  exact hs.form
theorem Ls.at_ (h : Ls w B size Φ v xs) (k : Nat) (hk : k < xs.length) : ∃ b o c cs, v = .slice (some ⟨b, o, none⟩) xs.length c ∧ b < B ∧ cs.length = size ∧ Φ cs xs[k] ∧ ∀ j u, j < size → cs[j]? = some u → w.cell? ⟨b, o + k * size + j, none⟩ = some u := by
  obtain ⟨css, hl, hs, hx⟩ := h
  obtain ⟨b, o, c, hv, _, _, hr⟩ := hs.row (by omega)
  have hall : ∀ cs ∈ css, cs.length = size := by
    intro cs hcs
    obtain ⟨i, hi, rfl⟩ := List.getElem_of_mem hcs
    exact (hx i _ xs[i] (List.getElem?_eq_getElem hi) (List.getElem?_eq_getElem (by omega))).1
  have hk' : css[k]? = some css[k] := List.getElem?_eq_getElem (by omega)
  refine ⟨b, o, c, css[k], hv, hr.1, hall _ (List.getElem_mem _), (hx k _ _ hk' (List.getElem?_eq_getElem hk)).2, fun j u hj hu => ?_⟩
  rw [Nat.add_assoc]
  exact hr.2 _ u (by rw [flatten_get css hall k j _ hk' hj]; exact hu)
theorem Ls.mono {Ψ : List Value → α → Prop} (h : Ls w B size Φ v xs) (hΦ : ∀ cs x, Φ cs x → Ψ cs x) : Ls w B size Ψ v xs := by
  obtain ⟨css, hl, hs, hx⟩ := h
  exact ⟨css, hl, hs, fun i cs x h1 h2 => ⟨(hx i cs x h1 h2).1, hΦ _ _ (hx i cs x h1 h2).2⟩⟩
theorem Ls.keep (h : Ls w B size Φ v xs) (hk : ∀ p : Addr, p.block < B → w'.cell? p = w.cell? p) : Ls w' B size Φ v xs := by
  obtain ⟨css, hl, hs, hx⟩ := h
  exact ⟨css, hl, hs.keep hk, hx⟩
theorem Ls.more {B' : Nat} (h : Ls w B size Φ v xs) (hB : B ≤ B') : Ls w B' size Φ v xs := by
  obtain ⟨css, hl, hs, hx⟩ := h
  exact ⟨css, hl, hs.more hB, hx⟩
end

section
variable {H : Type} {enc : TypeId × Value → H} {P : Program} {w : World} {base : Nat} {spare : Nat → Bool} {held : Bool}

theorem open_list {α : Type} {t e : TypeId} {size fuel : Nat} {c : Value} {x : DataW H × List MemPlace} (Φ : List Value → α → Prop) (ht : P.underlying t = some (.slice e)) (hc : P.cellsOf e = size) (h0 : 0 < size)
    (hΦ : ∀ (n : Nat) (cs : List Value) (y : DataW H × List MemPlace), cs.length = size → DataW.trod enc P w base spare held n e cs = some y → ∃ a : α, Φ cs a)
    (h : DataW.trod enc P w base spare held fuel t [c] = some x) : ∃ xs : List α, Ls w w.heap.size size Φ c xs := by
  rcases Deep.open_slice ht h with ⟨hcs, _⟩ | ⟨a, len, cap, m, n, D, Pl, hcs, hb, hl, hm, hmm, _, hx⟩
  · simp at hcs; subst hcs
    exact ⟨[], [], rfl, sl_nil _ _ _, by simp⟩
  · simp at hcs; subst hcs
    rw [hc] at hx
    have hlm : len ≤ m := by rw [hmm]; split <;> omega
    have hone : ∀ k, k ≤ len → ∃ (css : List (List Value)) (xs : List α), css.length = k ∧ xs.length = k ∧ (∀ (i : Nat) (cs : List Value), css[i]? = some cs → ∀ j u, j < size → cs[j]? = some u → w.cell? (a.add (i * size + j)) = some u) ∧
        ∀ (i : Nat) (cs : List Value) (x : α), css[i]? = some cs → xs[i]? = some x → cs.length = size ∧ Φ cs x := by
      intro k
      induction k with
      | zero => intro _; exact ⟨[], [], rfl, rfl, by simp, by simp⟩
      | succ k ih =>
        intro hk
        obtain ⟨css, xs, h1, h2, h3, h4⟩ := ih (by omega)
        obtain ⟨cs', h5, h6⟩ := hx k (by omega)
        obtain ⟨_, h7, h8⟩ := World.cells?_some h5
        obtain ⟨y, hy⟩ := hΦ _ _ _ h7 h6
        refine ⟨css ++ [cs'], xs ++ [y], by simp [h1], by simp [h2], fun i cs hi j u hj hu => ?_, fun i cs x hi hx => ?_⟩
        · rcases Nat.lt_or_ge i k with h9 | h9
          · rw [List.getElem?_append_left (by omega)] at hi
            exact h3 i cs hi j u hj hu
          · rw [List.getElem?_append_right (by omega), h1] at hi
            have : i = k := by
              rcases Nat.lt_or_ge k i with h10 | h10
              · rw [List.getElem?_eq_none (by simp; omega)] at hi; cases hi
              · omega
            subst this
            simp at hi; subst hi
            rw [← add_of_add, h8 j hj]; exact hu
        · rcases Nat.lt_or_ge i k with h9 | h9
          · rw [List.getElem?_append_left (by omega)] at hi hx
            exact h4 i cs x hi hx
          · have : i = k := by
              rcases Nat.lt_or_ge k i with h10 | h10
              · rw [List.getElem?_eq_none (by simp; omega)] at hi; cases hi
              · omega
            subst this
            rw [List.getElem?_append_right (by omega), h1] at hi
            rw [List.getElem?_append_right (by omega), h2] at hx
            simp at hi hx; subst hi; subst hx
            exact ⟨h7, hy⟩
    obtain ⟨css, xs, h1, h2, h3, h4⟩ := hone len (Nat.le_refl _)
    have hall : ∀ cs ∈ css, cs.length = size := by
      intro cs hcs
      obtain ⟨i, hi, rfl⟩ := List.getElem_of_mem hcs
      exact (h4 i _ xs[i] (List.getElem?_eq_getElem hi) (List.getElem?_eq_getElem (by omega))).1
    refine ⟨xs, css, by omega, ⟨by rw [flatten_len css hall]; rw [h1, h2], some a, cap, by rw [h2], by omega, hm, (fun h => by cases h), fun hn => ?_⟩, h4⟩
    have hcell : ∀ j u, css.flatten[j]? = some u → w.cell? (a.add j) = some u := by
      intro j u hu
      have hj : j < css.length * size := by
        rcases Nat.lt_or_ge j (css.length * size) with h9 | h9
        · exact h9
        · rw [List.getElem?_eq_none (by rw [flatten_len css hall]; exact h9)] at hu; cases hu
      have hd : j / size < css.length := Nat.div_lt_of_lt_mul (by rw [Nat.mul_comm]; exact hj)
      have hj2 : j = j / size * size + j % size := by rw [Nat.mul_comm]; exact (Nat.div_add_mod j size).symm
      have hmod : j % size < size := Nat.mod_lt _ h0
      have e1 := flatten_get css hall (j / size) (j % size) css[j / size] (List.getElem?_eq_getElem hd) hmod
      rw [← hj2, hu] at e1
      have := h3 (j / size) css[j / size] (List.getElem?_eq_getElem hd) (j % size) u hmod e1.symm
      rwa [← hj2] at this
    have hc0 : ∃ u, css.flatten[0]? = some u := by
      have : 0 < css.flatten.length := by rw [flatten_len css hall]; exact Nat.mul_pos (by omega) h0
      exact ⟨_, List.getElem?_eq_getElem this⟩
    obtain ⟨u0, hu0⟩ := hc0
    have hcc := hcell 0 u0 hu0
    have hsp := World.cell?_spot hcc
    obtain ⟨b, o, sp⟩ := a
    have hsp' : sp = none := by simpa [Addr.add] using hsp
    subst hsp'
    refine ⟨b, o, rfl, ?_, fun j u hu => by have := hcell j u hu; rwa [add_mk] at this⟩
    have := World.block_lt_of_cell? _ _ hcc
    simpa [Addr.add] using this

theorem flatten_single {α : Type} (xs : List α) (f : α → Value) : (xs.map fun n => [f n]).flatten = xs.map f := by
  induction xs with
  | nil => rfl
  | cons y ys ih => simp [ih]

theorem bytes_of_trod {t e : TypeId} {fuel : Nat} {c : Value} {x : DataW H × List MemPlace} (ht : P.underlying t = some (.slice e)) (he : P.underlying e = some (.int .u8)) (hc : P.cellsOf e = 1)
    (h : DataW.trod enc P w base spare held fuel t [c] = some x) : ∃ bs, Bs w w.heap.size c bs := by
  obtain ⟨xs, css, h1, h2, h3⟩ := open_list (fun (cs : List Value) (n : Int) => cs = [.int .u8 n] ∧ IsByte n) ht hc (by omega) (fun n cs y hl hy => by
    obtain ⟨a, h1, _, h2⟩ := DataW.trod_int he hy
    refine ⟨a, h1, ?_⟩
    simp [Lit.wf, IntKind.min, IntKind.max, IntKind.signed, IntKind.bits] at h2
    unfold IsByte; omega) h
  have e : css.flatten = xs.map (.int .u8) := by
    have e1 : css = xs.map fun n => [.int .u8 n] := by
      refine List.ext_getElem (by simpa using h1) fun i hi hi' => ?_
      have := (h3 i css[i] (xs[i]'(by omega)) (List.getElem?_eq_getElem hi) (List.getElem?_eq_getElem (by omega))).2.1
      simpa using this
    rw [e1]
    exact flatten_single xs _
  rw [e] at h2
  refine ⟨xs, h2, fun n hn => ?_⟩
  obtain ⟨i, hi, rfl⟩ := List.getElem_of_mem hn
  exact (h3 i (css[i]'(by omega)) xs[i] (List.getElem?_eq_getElem (by omega)) (List.getElem?_eq_getElem hi)).2.2

theorem rows_of_trod {t e e2 : TypeId} {fuel : Nat} {c : Value} {x : DataW H × List MemPlace} (ht : P.underlying t = some (.slice e)) (he : P.underlying e = some (.slice e2)) (he2 : P.underlying e2 = some (.int .u8)) (hc : P.cellsOf e = 1) (hc2 : P.cellsOf e2 = 1)
    (h : DataW.trod enc P w base spare held fuel t [c] = some x) : ∃ bss : List (List Int), Ls w w.heap.size 1 (fun cs bs => ∃ v, cs = [v] ∧ Bs w w.heap.size v bs) c bss :=
  open_list _ ht hc (by omega) (fun n cs y hl hy => by
    match cs, hl with
    | [v], _ =>
      obtain ⟨bs, hbs⟩ := bytes_of_trod he he2 hc2 hy
      exact ⟨bs, v, rfl, hbs⟩) h
end

theorem ownKnob0 : ownKnob Tryz.prog.godebug = none := by kernel_rfl
theorem laidOut0 : laidOutB Tryz.prog = true := by kernel_rfl

theorem is_u64 {n : Int} (h : (Lit.int .u64 n).wf = true) : IsU64 n := by
  simp [Lit.wf, IntKind.min, IntKind.max, IntKind.signed, IntKind.bits] at h
  unfold IsU64; omega
theorem is_u8 {n : Int} (h : (Lit.int .u8 n).wf = true) : IsByte n := by
  simp [Lit.wf, IntKind.min, IntKind.max, IntKind.signed, IntKind.bits] at h
  unfold IsByte; omega
end Go.Proofs.YtakiinghipjopaaGreatDoor
