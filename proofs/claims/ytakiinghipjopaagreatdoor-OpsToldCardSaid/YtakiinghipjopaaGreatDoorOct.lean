/-
  Rows of bytes that may be written; octets.Put.
-/
import Derived.Test.YtakiinghipjopaaGreatDoorApp
namespace Go.Proofs.YtakiinghipjopaaGreatDoor
open Go.RowKit

/-- Block g holds the bytes bs from its head on, and they may be written. -/
def OwnB (w : World) (g : Nat) (bs : List Int) : Prop :=
  ∃ cs : Array Value, w.heap[g]? = some (.cells cs 5 (0, 0)) ∧ bs.length ≤ cs.size ∧ ∀ (i : Nat) (u : Value), (bs.map (Value.int .u8))[i]? = some u → cs[i]? = some u
theorem OwnB.lt {w : World} {g : Nat} {bs : List Int} (h : OwnB w g bs) : g < w.heap.size := by
  obtain ⟨cs, h, _⟩ := h
  exact (Array.getElem?_eq_some_iff.1 h).1
theorem OwnB.of_block {w w' : World} {g : Nat} {bs : List Int} (h : OwnB w g bs) (hb : w'.heap[g]? = w.heap[g]?) : OwnB w' g bs := by
  obtain ⟨cs, h0, h1⟩ := h
  exact ⟨cs, by rw [hb, h0], h1⟩
theorem OwnB.on {w w' : World} {g : Nat} {bs : List Int} (h : OwnB w g bs) (hb : Below w.heap.size w w') : OwnB w' g bs := h.of_block (hb.block g h.lt)
theorem OwnB.cell {w : World} {g : Nat} {bs : List Int} (h : OwnB w g bs) {i : Nat} (hi : i < bs.length) : w.cell? ⟨g, i, none⟩ = some (.int .u8 bs[i]) ∧ w.frozen? ⟨g, i, none⟩ = false := by
  obtain ⟨cs, h0, h1, h2⟩ := h
  refine ⟨?_, by simp [World.frozen?, h0]⟩
  rw [cell_of_row w g i _ _ _ h0]
  exact h2 i _ (by simp [hi])
theorem OwnB.set {w : World} {g : Nat} {bs : List Int} (h : OwnB w g bs) (i : Nat) (x : Int) : OwnB (w.setCell ⟨g, i, none⟩ (.int .u8 x)) g (bs.set i x) := by
  obtain ⟨cs, h0, h1, h2⟩ := h
  have hlt := (Array.getElem?_eq_some_iff.1 h0).1
  have h' : w.heap[g] = .cells cs 5 (0, 0) := by simpa [Array.getElem?_eq_getElem hlt] using h0
  refine ⟨cs.setIfInBounds i (.int .u8 x), ?_, by simpa using h1, fun j u hu => ?_⟩
  · show (w.heap.modify g _)[g]? = _
    rw [Array.getElem?_eq_getElem (by simpa using hlt), Array.getElem_modify_self, h']
    rfl
  · rw [Array.getElem?_setIfInBounds]
    rw [List.map_set, List.getElem?_set] at hu
    by_cases e : i = j
    · subst e
      rw [if_pos rfl] at hu ⊢
      split at hu
      · rename_i hl
        rw [if_pos (by simp at hl; omega)]
        exact hu
      · cases hu
    · rw [if_neg e] at hu ⊢
      exact h2 j u hu

/-- the k last bytes of a number of eight are laid -/
def putK (bs : List Int) (at_ : Nat) (n : Int) (k : Nat) : List Int := (List.range bs.length).map fun j => if at_ + 8 ≤ j + k ∧ j < at_ + 8 then n / 256 ^ (at_ + 7 - j) % 256 else bs.getD j 0
theorem putK_len (bs : List Int) (at_ : Nat) (n : Int) (k : Nat) : (putK bs at_ n k).length = bs.length := by simp [putK]
theorem putK_zero (bs : List Int) (at_ : Nat) (n : Int) : putK bs at_ n 0 = bs := by
  refine List.ext_getElem (by simp [putK]) fun j h1 h2 => ?_
  simp only [putK, List.getElem_map, List.getElem_range]
  rw [if_neg (by omega)]
  simp [h2]
theorem putK_succ {bs : List Int} {at_ : Nat} {n : Int} {k : Nat} (hk : k < 8) : (putK bs at_ n k).set (at_ + 7 - k) (n / 256 ^ k % 256) = putK bs at_ n (k + 1) := by
  refine List.ext_getElem (by simp [putK]) fun j h1 h2 => ?_
  rw [List.getElem_set]
  simp only [putK, List.getElem_map, List.getElem_range]
  by_cases e : at_ + 7 - k = j
  · rw [if_pos e, if_pos (by omega)]
    have : at_ + 7 - j = k := by omega
    rw [this]
  · rw [if_neg e]
    by_cases h3 : at_ + 8 ≤ j + k ∧ j < at_ + 8
    · rw [if_pos h3, if_pos (by omega)]
    · rw [if_neg h3, if_neg (by omega)]

set_option maxRecDepth 100000 in
theorem within_yes (w : World) (n at_ : Nat) (h : at_ + 8 ≤ n) (hn : n ≤ 100000) :
    Calls Tryz.prog 67 #[.int .i64 n, .int .i64 at_, .int .i64 8] w fun e w' => e = .returned (.bool true) ∧ w = w' := by
  have h1 : (at_ : Int) ≤ (n : Int) - 8 := by omega
  have h2 : IntKind.i64.wrap ((n : Int) - 8) = (n : Int) - 8 := by rw [IntKind.wrap_i64]; omega
  have h3 : RowKit.wrap64 ((n : Int) - 8) = (n : Int) - 8 := by unfold RowKit.wrap64; omega
  go_enter Tryz.func67, Tryz.ntmps67
  go_wp2_with fail
  go_ret
  exact ⟨rfl, rfl⟩

set_option maxRecDepth 100000 in
set_option maxHeartbeats 4000000 in
theorem put_any (w : World) (g L c at_ : Nat) (bs : List Int) (n : Int) (h : OwnB w g bs) (hL : L = bs.length) (hat : at_ + 8 ≤ L) (hl : L ≤ 100000) (hn : IsU64 n) :
    Calls Tryz.prog 29 #[.slice (some ⟨g, 0, none⟩) L c, .int .i64 at_, .int .i64 8, .int .u64 n] w fun e w' => e = .returned (.bool true) ∧ OwnB w' g (putK bs at_ n 8) ∧ w.grownBy w' (some g) ∧ w'.heap.size = w.heap.size := by
  have Hn := Lib.hid hn
  have H := Lib.hid h
  have HL : Hid (L = bs.length ∧ at_ + 8 ≤ L ∧ L ≤ 100000) := ⟨hL, hat, hl⟩
  clear h hL hat hl hn
  go_enter Tryz.func29, Tryz.ntmps29
  go_wp2_with fail
  refine (within_yes w L at_ HL.out.2.1 HL.out.2.2).mono ?_
  rintro e w' ⟨rfl, rfl⟩
  go_wp2_with fail
  go_loopw [28] (fun i wr => ∃ k : Nat, k ≤ 8 ∧ i = .int .i64 k ∧ Hid (OwnB wr g (putK bs at_ n k) ∧ w.grownBy wr (some g) ∧ wr.heap.size = w.heap.size)) (fun i _ => 8 - (intOf i).toNat)
  case atStart => exact ⟨0, by omega, rfl, by rw [putK_zero]; exact H.out, ⟨rfl, rfl, rfl, Nat.le_refl _, fun _ _ _ => rfl⟩, rfl⟩
  case round =>
    obtain ⟨k, hk, rfl, hK⟩ := hrel
    have K := Lib.hid hK.out
    clear hK
    by_cases hlt : k < 8
    · have hk0 : (0 : Int) ≤ (k : Int) := by omega
      have hk8 : (k : Int) < 8 := by omega
      obtain ⟨p, hp⟩ : ∃ p, p = at_ + 7 - k := ⟨_, rfl⟩
      have hpL : p < L := by have := HL.out; omega
      have hpn : (p : Int) < L := by omega
      have hp0 : (0 : Int) ≤ (p : Int) := by omega
      have hw1 : RowKit.wrap64 ((at_ : Int) + 8) = (at_ : Int) + 8 := by have := HL.out; unfold RowKit.wrap64; omega
      have hw2 : RowKit.wrap64 ((at_ : Int) + 8 - 1) = (at_ : Int) + 7 := by have := HL.out; unfold RowKit.wrap64; omega
      have hw3 : RowKit.wrap64 ((at_ : Int) + 7) = (at_ : Int) + 7 := by have := HL.out; unfold RowKit.wrap64; omega
      have hw4 : RowKit.wrap64 ((at_ : Int) + 7 - k) = (p : Int) := by have := HL.out; unfold RowKit.wrap64; omega
      obtain ⟨hc, hf⟩ := K.out.1.cell (i := p) (by rw [putK_len]; have := HL.out; omega)
      have Hlt := Lib.hid hlt
      have HK1 : Hid (OwnB (wr.setCell ⟨g, p, none⟩ (.int .u8 (n / 2 ^ (8 * k) % 256))) g (putK bs at_ n (k + 1))) := by
        have h1 := K.out.1.set (at_ + 7 - k) (n / 256 ^ k % 256)
        rw [putK_succ hlt, ← hp] at h1
        have e : (2 : Int) ^ (8 * k) = 256 ^ k := by rw [Int.pow_mul]; rfl
        rw [e]
        exact h1
      have HK2 : Hid (w.grownBy (wr.setCell ⟨g, p, none⟩ (.int .u8 (n / 2 ^ (8 * k) % 256))) (some g)) :=
        ⟨K.out.2.1.os, K.out.2.1.tape, K.out.2.1.output, by simpa using K.out.2.1.size, fun j hj hne => by
          rw [Below.heap_setCell _ _ _ _ (fun e => hne (by rw [e]))]
          exact K.out.2.1.block j hj hne⟩
      generalize (putK bs at_ n k)[p]'_ = u at hc
      clear hp hlt hk
      go_wp2_with fail
      go_roundw
      case rel => exact ⟨k + 1, Hlt.out, by go_num, HK1.out, HK2.out, by simpa using K.out.2.2⟩
      case measure => have := Hlt.out; simp [intOf]; omega
    · obtain rfl : k = 8 := by omega
      go_wp2_with fail
      go_ret
      exact ⟨rfl, K.out⟩
end Go.Proofs.YtakiinghipjopaaGreatDoor
