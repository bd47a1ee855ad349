/-
  ops.Told; the law's own line.
-/
import Derived.Test.YtakiinghipjopaaGreatDoorParse
import Derived.Test.YtakiinghipjopaaGreatDoorExamples
namespace Go.Proofs.YtakiinghipjopaaGreatDoor
open Go.RowKit Go.Shelf

/-- a reply -/
structure RepV where
  err : Int
  vol : Int
  data : List Int
  count : Int
def toldR (c : Int) (r : RepV) : List UInt8 :=
  if r.err ≠ 0 then [101, 114, 114, 111, 114, 32] ++ Lib.itoa r.err else if c = 1 ∨ c = 3 then Lib.decDigits r.vol.toNat else if c = 4 then shownOf r.data else if c = 6 ∨ c = 9 then Lib.itoa r.count else if c = 2 ∨ c = 5 ∨ c = 7 ∨ c = 8 then [111, 107] else []
def repVal (r : RepV) (dv : Value) : Value := .agg #[.int .i64 r.err, .int .u64 r.vol, dv, .int .i64 r.count]
def IsI64 (x : Int) : Prop := -9223372036854775808 ≤ x ∧ x ≤ 9223372036854775807
theorem itoa_small (n : Int) (h : IsI64 n) : (Lib.itoa n).length ≤ 21 := by
  unfold IsI64 at h
  unfold Lib.itoa
  split
  · have := nDigits_le20 n.natAbs (by omega)
    rw [List.length_cons, Lib.decDigits_length]; omega
  · have := nDigits_le20 n.toNat (by omega)
    rw [Lib.decDigits_length]; omega
theorem cells4 {w : World} {g : Nat} {x0 x1 x2 x3 : Value} {t : TypeId} (h : w.heap[g]? = some (.cells #[x0, x1, x2, x3] t (0, 0))) :
    w.cell? ⟨g, 0, none⟩ = some x0 ∧ w.cell? ⟨g, 1, none⟩ = some x1 ∧ w.cell? ⟨g, 2, none⟩ = some x2 ∧ w.cell? ⟨g, 3, none⟩ = some x3 := by
  simp [World.cell?, h]
set_option maxRecDepth 100000 in
set_option maxHeartbeats 2000000 in
theorem told_reply (p : OpV × Value) (r : RepV) (dv : Value) (B : Nat) (w : World) (hp : OpOk w B p) (hB : B ≤ w.heap.size) (hd : Bs w B dv r.data) (hl : r.data.length ≤ 100000) (he : IsI64 r.err) (hv : IsU64 r.vol) (hc : IsI64 r.count) (hE : Env w) :
    Calls Tryz.prog 19 #[opVal p, repVal r dv] w fun e w' => e = .returned (.string ⟨(toldR p.1.code r).toArray⟩) ∧ Below w.heap.size w w' := by
  obtain ⟨⟨c, v, a, n, d⟩, ov⟩ := p
  obtain ⟨er, vo, da, co⟩ := r
  have hc0 : IsByte c := hp.2.1
  obtain ⟨c0, c1⟩ := hc0
  simp only [opVal, repVal]
  simp only at hd hl he hv hc
  obtain ⟨W2, hW2⟩ : ∃ W2, W2 = (w.alloc (.cells #[.int .u8 c, .int .u64 v, .int .u64 a, .int .u64 n, ov] 25)).alloc (.cells #[.int .i64 er, .int .u64 vo, dv, .int .i64 co] 29) := ⟨_, rfl⟩
  have HB : Hid (Below w.heap.size w W2) := by rw [hW2]; exact (bel1 _ _).alloc (by simp) _
  have HE2 := Lib.hid (hE.on' HB.out)
  have r1 : W2.heap[w.heap.size]? = some (.cells #[.int .u8 c, .int .u64 v, .int .u64 a, .int .u64 n, ov] 25 (0, 0)) := by rw [hW2]; exact two_old w _ _
  have r2 : W2.heap[w.heap.size + 1]? = some (.cells #[.int .i64 er, .int .u64 vo, dv, .int .i64 co] 29 (0, 0)) := by rw [hW2]; exact two_new w _ _
  obtain ⟨q0, -, -, -, -⟩ := cells5 r1
  obtain ⟨s0, s1, s2, s3⟩ := cells4 r2
  have HI := Lib.hid (itoa_any er he.1 he.2 W2 HE2.out)
  have HC := Lib.hid (itoa_any co hc.1 hc.2 W2 HE2.out)
  have HF := Lib.hid (fmt_any vo hv.1 hv.2 W2 HE2.out)
  have HS := Lib.hid (shown_any W2 B dv da ⟨hd.1.below (HB.out.mono hB), hd.2⟩ (Nat.le_trans hB HB.out.size) hl HE2.out)
  have hil := itoa_small er he
  have hWq := hW2.symm
  clear r1 r2 hW2 hp hd hl he hv hc hE hB
  by_cases hz : er = 0
  · have HT : Hid (∀ x, toldR c ⟨er, vo, da, co⟩ = x ↔ (if c = 1 ∨ c = 3 then Lib.decDigits vo.toNat else if c = 4 then shownOf da else if c = 6 ∨ c = 9 then Lib.itoa co else if c = 2 ∨ c = 5 ∨ c = 7 ∨ c = 8 then [111, 107] else []) = x) := fun x => by
      unfold toldR
      rw [if_neg (by simp [hz])]
    subst hz
    clear hil HI
    by_cases hr : c = 1 ∨ c = 2 ∨ c = 3 ∨ c = 4 ∨ c = 5 ∨ c = 6 ∨ c = 7 ∨ c = 8 ∨ c = 9
    · rcases hr with rfl | rfl | rfl | rfl | rfl | rfl | rfl | rfl | rfl
      all_goals
        have HR := Lib.hid ((HT.out _).2 rfl)
        go_enter Tryz.func19, Tryz.ntmps19
        go_wp2_with (first
          | (go_at_call 38; refine HC.out.mono ?_; rintro e W3 ⟨rfl, h3⟩; have H3 := Lib.hid (HB.out.trans (h3.mono HB.out.size)); clear h3)
          | (go_at_call 52; refine HF.out.mono ?_; rintro e W3 ⟨rfl, h3⟩; have H3 := Lib.hid (HB.out.trans (h3.mono HB.out.size)); clear h3)
          | (go_at_call 53; refine HS.out.mono ?_; rintro e W3 ⟨rfl, h3⟩; have H3 := Lib.hid (HB.out.trans (h3.mono HB.out.size)); clear h3))
        go_ret
        rw [HR.out]
        first | exact ⟨rfl, H3.out⟩ | exact ⟨rfl, HB.out⟩
    · have HR : Hid (toldR c ⟨0, vo, da, co⟩ = []) := (HT.out _).2 (by rw [if_neg (by omega), if_neg (by omega), if_neg (by omega), if_neg (by omega)])
      have n1 : ¬ c = 1 := by omega
      have n2 : ¬ c = 2 := by omega
      have n3 : ¬ c = 3 := by omega
      have n4 : ¬ c = 4 := by omega
      have n5 : ¬ c = 5 := by omega
      have n6 : ¬ c = 6 := by omega
      have n7 : ¬ c = 7 := by omega
      have n8 : ¬ c = 8 := by omega
      have n9 : ¬ c = 9 := by omega
      clear hr HT
      go_enter Tryz.func19, Tryz.ntmps19
      go_wp2_with fail
      go_ret
      rw [HR.out]
      exact ⟨rfl, HB.out⟩
  · have HR : Hid (toldR c ⟨er, vo, da, co⟩ = [101, 114, 114, 111, 114, 32] ++ Lib.itoa er) := by show _ = _; unfold toldR; rw [if_pos (by simpa using hz)]
    obtain ⟨ib, hib⟩ : ∃ ib : ByteArray, ib = ⟨(Lib.itoa er).toArray⟩ := ⟨_, rfl⟩
    have q1 : ∀ W', (Op.stringOp .add { data := #[101, 114, 114, 111, 114, 32] } ib).run Tryz.prog W' = .ok (.string ((⟨#[101, 114, 114, 111, 114, 32]⟩ : ByteArray) ++ ib)) W' := fun W' => run_string_add_sum W' _ _ (by
      have h1 : ib.size = (Lib.itoa er).length := by rw [hib, Lib.size_eq]
      show 6 + ib.size ≤ _
      omega)
    obtain ⟨S, hS⟩ : ∃ S, S = (⟨#[101, 114, 114, 111, 114, 32]⟩ : ByteArray) ++ ib := ⟨_, rfl⟩
    have HSs : Hid (S = ⟨(toldR c ⟨er, vo, da, co⟩).toArray⟩) := by
      show _ = _
      rw [hS, hib, HR.out]
      apply ByteArray.ext
      simp
    rw [← hS] at q1
    rw [← hib] at HI
    clear hib hS hil
    go_enter Tryz.func19, Tryz.ntmps19
    go_wp2_with (go_at_call 38; refine HI.out.mono ?_; rintro e W3 ⟨rfl, h3⟩; have H3 := Lib.hid (HB.out.trans (h3.mono HB.out.size)); clear h3)
    go_ret
    rw [← HSs.out]
    exact ⟨rfl, H3.out⟩

theorem OpOk.more' {w : World} {B B' : Nat} {p : OpV × Value} (h : OpOk w B p) (hB : B ≤ B') : OpOk w B' p := ⟨⟨h.1.1.more hB, h.1.2⟩, h.2⟩
/-! ### the law's line: an operation that has that line -/
set_option maxRecDepth 100000 in
set_option maxHeartbeats 1000000 in
theorem line_true (p : OpV × Value) (s : ByteArray) (B : Nat) (w : World) (hp : OpOk w B p) (hB : B ≤ w.heap.size) (hl : p.1.data.length ≤ 255) (hs : s.data.toList = textOf p.1) (hss : s.size ≤ 100000) (hE : Env w) :
    Calls Tryz.prog 28 #[opVal p, .string s] w fun e w' => e = .returned (.bool true) ∧ Below w.heap.size w w' := by
  have ht : textR p.1 = (textOf p.1, 0) := by unfold textR; rw [if_neg (by omega)]
  have hpr := parseR_text hp.opIn hl
  have e0 : (⟨(textOf p.1).toArray⟩ : ByteArray) = s := by
    apply ByteArray.ext
    apply Array.ext'
    exact hs.symm
  obtain ⟨W1, hW1⟩ : ∃ W1, W1 = w.alloc (.cells #[.int .u8 p.1.code, .int .u64 p.1.vol, .int .u64 p.1.at_, .int .u64 p.1.n, p.2] 25) := ⟨_, rfl⟩
  have HB : Hid (Below w.heap.size w W1) := by rw [hW1]; exact bel1 _ _
  have hbx : W1.heap[w.heap.size]? = some (.cells #[.int .u8 p.1.code, .int .u64 p.1.vol, .int .u64 p.1.at_, .int .u64 p.1.n, p.2] 25 (0, 0)) := by rw [hW1]; exact heap_alloc_new _ _
  have HE1 := Lib.hid (hE.on' HB.out)
  have HT := Lib.hid (text_any p B W1 (hp.on (HB.out.mono hB)) (Nat.le_trans hB HB.out.size) HE1.out)
  rw [ht] at HT
  simp only at HT
  rw [e0] at HT
  have HP : Hid (∀ W, Env W → Calls Tryz.prog 16 #[.string s] W fun e w' => (∃ dv, e = .returned (.tuple #[opVal (p.1, dv), .int .i64 0]) ∧ OpOk w' w'.heap.size (p.1, dv)) ∧ Below W.heap.size W w') := fun W hW => by
    have h := parse_any s hss W hW
    rw [hs, hpr] at h
    exact h
  have HBx := Lib.hid hbx
  have Hp := Lib.hid hp
  have HBB := Lib.hid hB
  have Hsame : Hid (∀ W dv, Below W1.heap.size W1 W → OpOk W W.heap.size (p.1, dv) → Calls Tryz.prog 18 #[opVal p, opVal (p.1, dv)] W fun e w' => e = .returned (.bool true) ∧ Below W.heap.size W w') := fun W dv hW hq => by
    have h1 : OpOk W W.heap.size p := by
      have h2 := (hp.on (HB.out.mono hB)).on (hW.mono (Nat.le_trans hB HB.out.size))
      exact ⟨⟨h2.1.1.more (Nat.le_trans hB (Nat.le_trans HB.out.size hW.size)), h2.1.2⟩, h2.2⟩
    have h := same_op W W.heap.size p (p.1, dv) h1 hq (Nat.le_refl _)
    rw [decide_eq_true rfl] at h
    exact h
  obtain ⟨⟨c, v, a, n, d⟩, ov⟩ := p
  simp only [opVal] at HT HP Hsame ⊢
  simp only at hbx
  obtain ⟨r0, r1, r2, r3, r4⟩ := cells5 hbx
  have hWq := hW1.symm
  simp only at hWq
  clear ht hpr e0 hW1 hbx hp hB hl hs hss hE
  go_enter Tryz.func28, Tryz.ntmps28
  go_upto_region 3 with (first
    | (go_at_call 14; go_must (refine HT.out.mono ?_); rintro e W2 ⟨rfl, h2⟩; have H2 := Lib.hid h2; clear h2)
    | (go_at_call 16; go_must (refine (HP.out _ (HE1.out.on' H2.out)).mono ?_); rintro e W3 ⟨⟨dv, rfl, ok3⟩, h3⟩; have H3 := Lib.hid h3; have hf3 : Bs W3 W3.heap.size dv d := ok3.1; obtain ⟨A3, k3, rfl, -, -⟩ := hf3.1.form; clear hf3; have O3 := Lib.hid ok3; clear h3 ok3))
  have HW3 : Hid (Below W1.heap.size W1 W3) := H2.out.trans (H3.out.mono H2.out.size)
  obtain ⟨W4, hW4⟩ : ∃ W4, W4 = W3.alloc (.cells #[.int .u8 c, .int .u64 v, .int .u64 a, .int .u64 n, .slice A3 d.length k3] 25) := ⟨_, rfl⟩
  have H4 : Hid (Below W3.heap.size W3 W4) := by rw [hW4]; exact bel1 _ _
  have h5 : W4.heap[W3.heap.size]? = some (.cells #[.int .u8 c, .int .u64 v, .int .u64 a, .int .u64 n, .slice A3 d.length k3] 25 (0, 0)) := by rw [hW4]; exact heap_alloc_new _ _
  have HW4 : Hid (Below W1.heap.size W1 W4) := HW3.out.trans (H4.out.mono HW3.out.size)
  have h6 := (HW4.out.block _ (Array.getElem?_eq_some_iff.1 HBx.out).1).trans HBx.out
  have HS := Lib.hid (Hsame.out W4 (.slice A3 d.length k3) HW4.out ((O3.out.on H4.out).more' H4.out.size))
  obtain ⟨y0, y1, y2, y3, y4⟩ := cells5 h5
  obtain ⟨z0, z1, z2, z3, z4⟩ := cells5 h6
  have hs0 : (s.toList == s.toList) = true := beq_self_eq_true _
  rw [← hW4]
  clear r0 r1 r2 r3 r4 hWq hW4 h5 h6
  go_wp2_with (go_at_call 18; go_must (refine HS.out.mono ?_); rintro e W5 ⟨rfl, h5⟩; have H5 := Lib.hid h5; clear h5)
  go_ret
  exact ⟨rfl, HB.out.trans ((HW4.out.trans (H5.out.mono HW4.out.size)).mono HB.out.size)⟩
end Go.Proofs.YtakiinghipjopaaGreatDoor
