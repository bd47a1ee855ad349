/-
  ops.Read: the plain text, and that Bytes of what it reads is what it read.
-/
import Derived.Test.YtakiinghipjopaaGreatDoorRead27
namespace Go.Proofs.YtakiinghipjopaaGreatDoor
open Go.RowKit

def opOf (bs : List Int) : OpV := ⟨bs.getD 0 0, getN ((bs.drop 1).take 8), getN ((bs.drop 9).take 8), getN ((bs.drop 17).take 8), (bs.drop 26).take (bs.getD 25 0).toNat⟩
def readF : Nat → List Int → List OpV → List OpV × Int
  | 0, _, acc => (acc, 0)
  | f + 1, bs, acc => if bs.length = 0 then (acc, 0) else if bs.length < 26 ∨ (bs.length : Int) - 26 < bs.getD 25 0 then ([], 270) else readF f (bs.drop (26 + (bs.getD 25 0).toNat)) (acc ++ [opOf bs])
def readR (bs : List Int) : List OpV × Int := readF (bs.length + 1) bs []

theorem get8 (x1 x2 x3 x4 x5 x6 x7 x8 : Int) (h1 : IsByte x1) (h2 : IsByte x2) (h3 : IsByte x3) (h4 : IsByte x4) (h5 : IsByte x5) (h6 : IsByte x6) (h7 : IsByte x7) (h8 : IsByte x8) :
    ∀ n, n = getN [x1, x2, x3, x4, x5, x6, x7, x8] → n / 256 ^ 7 % 256 = x1 ∧ n / 256 ^ 6 % 256 = x2 ∧ n / 256 ^ 5 % 256 = x3 ∧ n / 256 ^ 4 % 256 = x4 ∧ n / 256 ^ 3 % 256 = x5 ∧ n / 256 ^ 2 % 256 = x6 ∧ n / 256 ^ 1 % 256 = x7 ∧ n / 256 ^ 0 % 256 = x8 := by
  intro n hn
  simp only [getN, List.foldl] at hn
  obtain ⟨a1, b1⟩ := h1
  obtain ⟨a2, b2⟩ := h2
  obtain ⟨a3, b3⟩ := h3
  obtain ⟨a4, b4⟩ := h4
  obtain ⟨a5, b5⟩ := h5
  obtain ⟨a6, b6⟩ := h6
  obtain ⟨a7, b7⟩ := h7
  obtain ⟨a8, b8⟩ := h8
  refine ⟨?_, ?_, ?_, ?_, ?_, ?_, ?_, ?_⟩ <;> simp <;> omega
section
variable (x0 x1 x2 x3 x4 x5 x6 x7 x8 x9 x10 x11 x12 x13 x14 x15 x16 x17 x18 x19 x20 x21 x22 x23 x24 x25 n : Int)
theorem put1 : putK [x0, x1, x2, x3, x4, x5, x6, x7, x8, x9, x10, x11, x12, x13, x14, x15, x16, x17, x18, x19, x20, x21, x22, x23, x24, x25] 1 n 8 =
    [x0, n / 256 ^ 7 % 256, n / 256 ^ 6 % 256, n / 256 ^ 5 % 256, n / 256 ^ 4 % 256, n / 256 ^ 3 % 256, n / 256 ^ 2 % 256, n / 256 ^ 1 % 256, n / 256 ^ 0 % 256, x9, x10, x11, x12, x13, x14, x15, x16, x17, x18, x19, x20, x21, x22, x23, x24, x25] := by rfl
theorem put9 : putK [x0, x1, x2, x3, x4, x5, x6, x7, x8, x9, x10, x11, x12, x13, x14, x15, x16, x17, x18, x19, x20, x21, x22, x23, x24, x25] 9 n 8 =
    [x0, x1, x2, x3, x4, x5, x6, x7, x8, n / 256 ^ 7 % 256, n / 256 ^ 6 % 256, n / 256 ^ 5 % 256, n / 256 ^ 4 % 256, n / 256 ^ 3 % 256, n / 256 ^ 2 % 256, n / 256 ^ 1 % 256, n / 256 ^ 0 % 256, x17, x18, x19, x20, x21, x22, x23, x24, x25] := by rfl
theorem put17 : putK [x0, x1, x2, x3, x4, x5, x6, x7, x8, x9, x10, x11, x12, x13, x14, x15, x16, x17, x18, x19, x20, x21, x22, x23, x24, x25] 17 n 8 =
    [x0, x1, x2, x3, x4, x5, x6, x7, x8, x9, x10, x11, x12, x13, x14, x15, x16, n / 256 ^ 7 % 256, n / 256 ^ 6 % 256, n / 256 ^ 5 % 256, n / 256 ^ 4 % 256, n / 256 ^ 3 % 256, n / 256 ^ 2 % 256, n / 256 ^ 1 % 256, n / 256 ^ 0 % 256, x25] := by rfl
end
theorem uncons (bs : List Int) (n : Nat) (h : n + 1 ≤ bs.length) : ∃ x r, bs = x :: r ∧ n ≤ r.length := by
  cases bs with
  | nil => simp at h
  | cons x r => exact ⟨x, r, rfl, by simpa using h⟩
set_option maxHeartbeats 1000000 in
theorem opB_opOf (bs : List Int) (h26 : 26 ≤ bs.length) (hn : ¬ (bs.length : Int) - 26 < bs.getD 25 0) (hb : ∀ x ∈ bs, IsByte x) : opB (opOf bs) = bs.take (26 + (bs.getD 25 0).toNat) := by
  obtain ⟨x0, b0, rfl, hh0⟩ := uncons bs _ h26
  obtain ⟨x1, b1, rfl, hh1⟩ := uncons b0 _ hh0
  obtain ⟨x2, b2, rfl, hh2⟩ := uncons b1 _ hh1
  obtain ⟨x3, b3, rfl, hh3⟩ := uncons b2 _ hh2
  obtain ⟨x4, b4, rfl, hh4⟩ := uncons b3 _ hh3
  obtain ⟨x5, b5, rfl, hh5⟩ := uncons b4 _ hh4
  obtain ⟨x6, b6, rfl, hh6⟩ := uncons b5 _ hh5
  obtain ⟨x7, b7, rfl, hh7⟩ := uncons b6 _ hh6
  obtain ⟨x8, b8, rfl, hh8⟩ := uncons b7 _ hh7
  obtain ⟨x9, b9, rfl, hh9⟩ := uncons b8 _ hh8
  obtain ⟨x10, b10, rfl, hh10⟩ := uncons b9 _ hh9
  obtain ⟨x11, b11, rfl, hh11⟩ := uncons b10 _ hh10
  obtain ⟨x12, b12, rfl, hh12⟩ := uncons b11 _ hh11
  obtain ⟨x13, b13, rfl, hh13⟩ := uncons b12 _ hh12
  obtain ⟨x14, b14, rfl, hh14⟩ := uncons b13 _ hh13
  obtain ⟨x15, b15, rfl, hh15⟩ := uncons b14 _ hh14
  obtain ⟨x16, b16, rfl, hh16⟩ := uncons b15 _ hh15
  obtain ⟨x17, b17, rfl, hh17⟩ := uncons b16 _ hh16
  obtain ⟨x18, b18, rfl, hh18⟩ := uncons b17 _ hh17
  obtain ⟨x19, b19, rfl, hh19⟩ := uncons b18 _ hh18
  obtain ⟨x20, b20, rfl, hh20⟩ := uncons b19 _ hh19
  obtain ⟨x21, b21, rfl, hh21⟩ := uncons b20 _ hh20
  obtain ⟨x22, b22, rfl, hh22⟩ := uncons b21 _ hh21
  obtain ⟨x23, b23, rfl, hh23⟩ := uncons b22 _ hh22
  obtain ⟨x24, b24, rfl, hh24⟩ := uncons b23 _ hh23
  obtain ⟨x25, b25, rfl, hh25⟩ := uncons b24 _ hh24
  have hx25 : IsByte x25 := hb _ (by simp)
  obtain ⟨k, hk⟩ : ∃ k : Nat, x25 = k := ⟨x25.toNat, by have := hx25.1; omega⟩
  subst hk
  have hkl : k ≤ b25.length := by
    simp only [List.length_cons] at hn
    have e : ([x0, x1, x2, x3, x4, x5, x6, x7, x8, x9, x10, x11, x12, x13, x14, x15, x16, x17, x18, x19, x20, x21, x22, x23, x24, (k : Int)] ++ b25).getD 25 0 = k := rfl
    simp only [List.cons_append, List.nil_append] at e
    rw [e] at hn
    omega
  obtain ⟨o, ho⟩ : ∃ o, o = opOf (x0 :: x1 :: x2 :: x3 :: x4 :: x5 :: x6 :: x7 :: x8 :: x9 :: x10 :: x11 :: x12 :: x13 :: x14 :: x15 :: x16 :: x17 :: x18 :: x19 :: x20 :: x21 :: x22 :: x23 :: x24 :: (k : Int) :: b25) := ⟨_, rfl⟩
  have e0 : o.code = x0 := by rw [ho]; rfl
  have e1 : o.vol = getN [x1, x2, x3, x4, x5, x6, x7, x8] := by rw [ho]; rfl
  have e2 : o.at_ = getN [x9, x10, x11, x12, x13, x14, x15, x16] := by rw [ho]; rfl
  have e3 : o.n = getN [x17, x18, x19, x20, x21, x22, x23, x24] := by rw [ho]; rfl
  have e4 : o.data = b25.take k := by rw [ho]; rfl
  have el : o.data.length = k := by rw [e4, List.length_take]; omega
  rw [← ho]
  have p1 := get8 x1 x2 x3 x4 x5 x6 x7 x8 (hb _ (by simp)) (hb _ (by simp)) (hb _ (by simp)) (hb _ (by simp)) (hb _ (by simp)) (hb _ (by simp)) (hb _ (by simp)) (hb _ (by simp)) _ e1
  have p2 := get8 x9 x10 x11 x12 x13 x14 x15 x16 (hb _ (by simp)) (hb _ (by simp)) (hb _ (by simp)) (hb _ (by simp)) (hb _ (by simp)) (hb _ (by simp)) (hb _ (by simp)) (hb _ (by simp)) _ e2
  have p3 := get8 x17 x18 x19 x20 x21 x22 x23 x24 (hb _ (by simp)) (hb _ (by simp)) (hb _ (by simp)) (hb _ (by simp)) (hb _ (by simp)) (hb _ (by simp)) (hb _ (by simp)) (hb _ (by simp)) _ e3
  have h0 : hdr0 o = [x0, 0, 0, 0, 0, 0, 0, 0, 0, 0, 0, 0, 0, 0, 0, 0, 0, 0, 0, 0, 0, 0, 0, 0, 0, (k : Int)] := by
    unfold hdr0
    rw [e0, el]
    rfl
  have hk3 : hdrK o 3 = [x0, x1, x2, x3, x4, x5, x6, x7, x8, x9, x10, x11, x12, x13, x14, x15, x16, x17, x18, x19, x20, x21, x22, x23, x24, (k : Int)] := by
    show putK (putK (putK (hdr0 o) 1 o.vol 8) 9 o.at_ 8) 17 o.n 8 = _
    rw [h0, put1, put9, put17]
    obtain ⟨q1, q2, q3, q4, q5, q6, q7, q8⟩ := p1
    obtain ⟨r1, r2, r3, r4, r5, r6, r7, r8⟩ := p2
    obtain ⟨s1, s2, s3, s4, s5, s6, s7, s8⟩ := p3
    rw [q1, q2, q3, q4, q5, q6, q7, q8, r1, r2, r3, r4, r5, r6, r7, r8, s1, s2, s3, s4, s5, s6, s7, s8]
  unfold opB
  rw [hk3, e4]
  show _ = List.take (26 + k) ([x0, x1, x2, x3, x4, x5, x6, x7, x8, x9, x10, x11, x12, x13, x14, x15, x16, x17, x18, x19, x20, x21, x22, x23, x24, (k : Int)] ++ b25)
  rw [show 26 + k = List.length [x0, x1, x2, x3, x4, x5, x6, x7, x8, x9, x10, x11, x12, x13, x14, x15, x16, x17, x18, x19, x20, x21, x22, x23, x24, (k : Int)] + k from rfl, List.take_length_add_append]
theorem opOf_data (bs : List Int) (hb : ∀ x ∈ bs, IsByte x) : (opOf bs).data.length ≤ 255 := by
  have h : (bs.getD 25 0).toNat ≤ 255 := by
    rw [List.getD_eq_getElem?_getD]
    cases he : bs[25]? with
    | none => simp
    | some x => have := (hb x (List.mem_of_getElem? he)).2; simp; omega
  show ((bs.drop 26).take _).length ≤ 255
  rw [List.length_take]
  omega
theorem readF_law : ∀ (f : Nat) (bs : List Int) (acc : List OpV), bs.length < f → (∀ x ∈ bs, IsByte x) → (∀ o ∈ acc, o.data.length ≤ 255) →
    ((readF f bs acc).2 = 0 ∧ (∀ o ∈ (readF f bs acc).1, o.data.length ≤ 255) ∧ bytesS (readF f bs acc).1 = bytesS acc ++ bs) ∨ readF f bs acc = ([], 270)
  | 0, _, _, h, _, _ => absurd h (Nat.not_lt_zero _)
  | f + 1, bs, acc, h, hb, ha => by
    unfold readF
    split
    · rename_i h0
      left
      rw [List.eq_nil_of_length_eq_zero h0]
      exact ⟨rfl, ha, by simp⟩
    · rename_i h0
      split
      · right; rfl
      · rename_i h1
        have h26 : 26 ≤ bs.length := by omega
        have hn : ¬ (bs.length : Int) - 26 < bs.getD 25 0 := fun h => h1 (.inr h)
        have hd := opB_opOf bs h26 hn hb
        have := readF_law f (bs.drop (26 + (bs.getD 25 0).toNat)) (acc ++ [opOf bs]) (by rw [List.length_drop]; omega) (fun x hx => hb x (List.mem_of_mem_drop hx)) (fun o ho => (List.mem_append.1 ho).elim (ha o) (fun h => by rw [List.mem_singleton.1 h]; exact opOf_data bs hb))
        refine this.imp (fun ⟨h1, h2, h3⟩ => ⟨h1, h2, ?_⟩) id
        have e1 : bytesS [opOf bs] = opB (opOf bs) := by simp [bytesS]
        rw [h3, bytesS_app, e1, hd, List.append_assoc, List.take_append_drop]
theorem readR_law (bs : List Int) (hb : ∀ x ∈ bs, IsByte x) : ((readR bs).2 = 0 ∧ bytesR (readR bs).1 = (bs, 0)) ∨ readR bs = ([], 270) := by
  refine (readF_law (bs.length + 1) bs [] (Nat.lt_succ_self _) hb (by simp)).imp (fun ⟨h1, h2, h3⟩ => ⟨h1, ?_⟩) id
  have h4 : bytesS (readR bs).1 = bs := h3
  have h5 : ∀ o ∈ (readR bs).1, o.data.length ≤ 255 := h2
  unfold bytesR
  rw [if_pos h5, h4]
end Go.Proofs.YtakiinghipjopaaGreatDoor
