/-
  The reference of layer 27: an operation's line.
-/
import Derived.Test.YtakiinghipjopaaGreatDoorRefC27
import Derived.Test.YtakiinghipjopaaGreatDoorWord
namespace Go.Proofs.YtakiinghipjopaaGreatDoor
open Go.RowKit Go.Shelf

/-! ### strings by their bytes -/
def strL (l : List UInt8) : ByteArray := ⟨l.toArray⟩
theorem strL_data (l : List UInt8) : (strL l).data.toList = l := by simp [strL]
theorem strL_size (l : List UInt8) : (strL l).size = l.length := by rw [Lib.size_eq, strL_data]
theorem strL_of (s : ByteArray) : s = strL s.data.toList := Go.WideShapes.bytes_inj (strL_data _).symm
theorem add_L (a : List UInt8) (T : ByteArray) (c : List UInt8) (hc : c = a ++ T.data.toList) (h : c.length ≤ 2000000) : ∀ W', (Op.stringOp .add (strL a) T).run Tryz.prog W' = .ok (.string (strL c)) W' := fun W' => by
  have e : strL a ++ T = strL c := by
    apply Go.WideShapes.bytes_inj
    rw [cat_list, strL_data, strL_data, hc]
  rw [← e]
  refine run_string_add_sum W' _ _ ?_
  have h1 := congrArg List.length hc
  rw [List.length_append] at h1
  rw [strL_size, Lib.size_eq T]
  omega
theorem shown_sm (d : List Int) (hl : d.length ≤ 400) : (shownOf d).length ≤ 20000 := by
  unfold shownOf
  split
  · simp
  · have h1 := join_len [46] 9 ((runsOf d).map runTxt) (fun x hx => by
      obtain ⟨p, hp, rfl⟩ := List.mem_map.1 hx
      exact runTxt_len p (by have := (runs_mem hp).2.2; omega))
    have h2 := runs_count d
    rw [List.length_map] at h1
    have : (runsOf d).length * (9 + [46].length) ≤ 400 * 10 := Nat.mul_le_mul (by omega) (by simp)
    omega
theorem dec_sm (n : Int) (h : IsU64 n) : (Lib.decDigits n.toNat).length ≤ 20 := by
  rw [Lib.decDigits_length]
  exact Lib.nDigits_le20 _ (by have := h.1; have := h.2; omega)

/-! ### in plain words -/
def plainR (o : OpV) : Bool := !((wordOf o.code).1.isEmpty || (!namesV o.code && !decide (o.vol = 0)) || (!namesA o.code && !decide (o.at_ = 0)) || (!namesN o.code && !decide (o.n = 0)) || (!namesD o.code && !o.data.isEmpty))
def fV (o : OpV) : Bool := !plainR o || namesV o.code
def fA (o : OpV) : Bool := !plainR o || namesA o.code
def fN (o : OpV) : Bool := !plainR o || namesN o.code
def fD (o : OpV) : Bool := !plainR o || namesD o.code
def s0R (o : OpV) : List UInt8 := if plainR o then (wordOf o.code).1 else [111, 112, 32] ++ Lib.decDigits o.code.toNat
def s1R (o : OpV) : List UInt8 := s0R o ++ (if fV o then 32 :: Lib.decDigits o.vol.toNat else [])
def s2R (o : OpV) : List UInt8 := s1R o ++ (if fA o then 32 :: Lib.decDigits o.at_.toNat else [])
def s3R (o : OpV) : List UInt8 := s2R o ++ (if fN o then 32 :: Lib.decDigits o.n.toNat else [])
def s4R (o : OpV) : List UInt8 := s3R o ++ (if fD o then 32 :: shownOf o.data else [])
theorem names_word : ∀ c : Fin 10, 1 ≤ c.val → namesV c.val = (wordOf c.val).2.contains 118 ∧ namesA c.val = (wordOf c.val).2.contains 97 ∧ namesN c.val = (wordOf c.val).2.contains 110 ∧ namesD c.val = (wordOf c.val).2.contains 100 := by decide +kernel
theorem plainR_eq (o : OpV) : plainR o = plainOf o := by
  by_cases h : o.code < 1 ∨ 9 < o.code
  · unfold plainR plainOf
    rw [word_none h]
    simp
  · obtain ⟨k, hk⟩ : ∃ k : Fin 10, o.code = k.val := ⟨⟨o.code.toNat, by omega⟩, by simp; omega⟩
    obtain ⟨h1, h2, h3, h4⟩ := names_word k (by omega)
    unfold plainR plainOf
    rw [hk, h1, h2, h3, h4]
    cases (wordOf (k.val : Int)).1.isEmpty <;> cases (wordOf (k.val : Int)).2.contains 118 <;> cases (wordOf (k.val : Int)).2.contains 97 <;> cases (wordOf (k.val : Int)).2.contains 110 <;> cases (wordOf (k.val : Int)).2.contains 100 <;> simp <;> grind
theorem s4R_eq (o : OpV) : s4R o = textOf o := by
  unfold s4R s3R s2R s1R textOf
  by_cases hp : plainOf o = true
  · have hc := plain_code hp
    have hr : plainR o = true := by rw [plainR_eq]; exact hp
    unfold fV fA fN fD s0R
    rw [if_pos hp, hr]
    have : o.code = 1 ∨ o.code = 2 ∨ o.code = 3 ∨ o.code = 4 ∨ o.code = 5 ∨ o.code = 6 ∨ o.code = 7 ∨ o.code = 8 ∨ o.code = 9 := by omega
    rcases this with e | e | e | e | e | e | e | e | e <;> rw [e] <;> simp [namesV, namesA, namesN, namesD, toldOf, fieldOf, wordOf, wordsL]
  · have hr : plainR o = false := by rw [plainR_eq]; simpa using hp
    unfold fV fA fN fD s0R
    rw [if_neg hp, hr]
    simp [toldOf, fieldOf]
/-! ### the walk -/
theorem word_len' (c : Int) : (wordOf c).1.length ≤ 6 := by
  by_cases h : c < 1 ∨ 9 < c
  · rw [word_none h]; simp
  · have : c = 1 ∨ c = 2 ∨ c = 3 ∨ c = 4 ∨ c = 5 ∨ c = 6 ∨ c = 7 ∨ c = 8 ∨ c = 9 := by omega
    rcases this with e | e | e | e | e | e | e | e | e <;> rw [e] <;> decide
theorem s0_len (o : OpV) (h : IsByte o.code) : (s0R o).length ≤ 30 := by
  unfold s0R
  split
  · have := word_len' o.code; omega
  · have h1 := dec_sm o.code ⟨h.1, by have := h.2; omega⟩
    simp only [List.length_append, List.length_cons, List.length_nil]
    omega
theorem isE (l : List UInt8) : (strL l).toList.isEmpty = l.isEmpty := by rw [ByteArray.toList_eq, strL_data]
set_option maxRecDepth 100000 in
set_option maxHeartbeats 8000000 in
theorem rtext_any (p : OpV × Value) (B : Nat) (w : World) (hp : OpOk w B p) (hB : B ≤ w.heap.size) :
    Calls Tryz.prog 15 #[opVal p] w fun e w' => e = .returned (.tuple #[.string ⟨(textR p.1).1.toArray⟩, .int .i64 (textR p.1).2]) ∧ Below w.heap.size w w' := by
  obtain ⟨⟨c, v, a, n, d⟩, ov⟩ := p
  obtain ⟨hd, hc, hv, ha, hn⟩ := hp
  simp only at hd hc hv ha hn
  obtain ⟨A, k, rfl, -, -⟩ := hd.1.form
  obtain ⟨m, hm⟩ : ∃ m, m = d.length := ⟨_, rfl⟩
  simp only [opVal]
  rw [← hm]
  obtain ⟨W1, hW1⟩ : ∃ W1, W1 = w.alloc (.cells #[.int .u8 c, .int .u64 v, .int .u64 a, .int .u64 n, .slice A m k] 25) := ⟨_, rfl⟩
  have HB1 : Hid (Below w.heap.size w W1) := by rw [hW1]; exact bel1 _ _
  have hbx : W1.heap[w.heap.size]? = some (.cells #[.int .u8 c, .int .u64 v, .int .u64 a, .int .u64 n, .slice A m k] 25 (0, 0)) := by rw [hW1]; exact heap_alloc_new _ _
  have Hbx := Lib.hid hbx
  have Hm := Lib.hid hm
  have Hd : Hid (∀ W, Below W1.heap.size W1 W → Bs W W.heap.size (.slice A m k) d) := fun W hW => by
    have h := hd.1.below' (HB1.out.trans (hW.mono HB1.out.size)) hB
    have h2 := h.more (Nat.le_trans hB (Nat.le_trans HB1.out.size hW.size))
    rw [← hm] at h2
    exact ⟨by rw [← hm]; exact h2, hd.2⟩
  have hWq := hW1.symm
  obtain ⟨r0, r1, r2, r3, r4⟩ := cells5 hbx
  have Hc := Lib.hid hc
  have Hv := Lib.hid hv
  have Ha := Lib.hid ha
  have Hn := Lib.hid hn
  have HT : Hid (∀ s q, s = (textR ⟨c, v, a, n, d⟩).1 → q = (textR ⟨c, v, a, n, d⟩).2 → Ending.returned (.tuple #[.string (strL s), .int .i64 q]) = .returned (.tuple #[.string ⟨(textR ⟨c, v, a, n, d⟩).1.toArray⟩, .int .i64 (textR ⟨c, v, a, n, d⟩).2])) := fun s q e1 e2 => by rw [e1, e2]; rfl
  clear hW1 hbx hm hd hc hv ha hn hB
  by_cases hbig : 255 < m
  · have hbig' : (255 : Int) < m := by omega
    have HR : Hid (textR ⟨c, v, a, n, d⟩ = ([], 3)) := by show _ = _; unfold textR; rw [if_pos (by simp only; have := Hm.out; omega)]
    clear hbig
    go_enter Tryz.func15, Tryz.ntmps15
    go_wp2_with fail
    go_ret2
    rw [HR.out]
    exact ⟨rfl, HB1.out⟩
  · have hbig' : ¬ (255 : Int) < m := by omega
    have HR : Hid (textR ⟨c, v, a, n, d⟩ = (textOf ⟨c, v, a, n, d⟩, 0)) := by show _ = _; unfold textR; rw [if_neg (by simp only; have := Hm.out; omega)]
    have Hml : Hid (m ≤ 255) := (show m ≤ 255 by omega)
    have HNm := Lib.hid (names_any c Hc.out W1)
    have HWd := Lib.hid (rword_any c Hc.out W1)
    have e0 : (⟨(wordOf c).1.toArray⟩ : ByteArray) = strL (wordOf c).1 := rfl
    rw [e0] at HWd
    obtain ⟨bV, hbV⟩ : ∃ b, b = namesV c := ⟨_, rfl⟩
    obtain ⟨bA, hbA⟩ : ∃ b, b = namesA c := ⟨_, rfl⟩
    obtain ⟨bN, hbN⟩ : ∃ b, b = namesN c := ⟨_, rfl⟩
    obtain ⟨bD, hbD⟩ : ∃ b, b = namesD c := ⟨_, rfl⟩
    obtain ⟨wl, hwl⟩ : ∃ l, l = (wordOf c).1 := ⟨_, rfl⟩
    rw [← hbV, ← hbA, ← hbN, ← hbD] at HNm
    rw [← hwl] at HWd
    obtain ⟨pl, hpl⟩ : ∃ b, b = plainR ⟨c, v, a, n, d⟩ := ⟨_, rfl⟩
    have HPl : Hid (pl = !(wl.isEmpty || (!bV && !decide (v = 0)) || (!bA && !decide (a = 0)) || (!bN && !decide (n = 0)) || (!bD && !decide (m = 0)))) := by
      show _ = _
      have e1 : decide (m = 0) = d.isEmpty := by
        rw [Hm.out]
        cases d <;> simp
      rw [hpl, e1, hwl, hbV, hbA, hbN, hbD]
      rfl
    have Hpl := Lib.hid hpl
    have HbV := Lib.hid hbV
    have HbA := Lib.hid hbA
    have HbN := Lib.hid hbN
    have HbD := Lib.hid hbD
    have Hwl := Lib.hid hwl
    clear hbV hbA hbN hbD hwl hpl e0 hbig
    have hm0 : (0 : Int) ≤ m := by omega
    go_enter Tryz.func15, Tryz.ntmps15
    go_upto_region 5 with (first
      | (go_at_call 39; go_must (refine HNm.out.mono ?_); rintro e W2 ⟨rfl, rfl⟩)
      | (go_at_call 40; go_must (refine HWd.out.mono ?_); rintro e W2 ⟨rfl, h2⟩; have HB2 := Lib.hid h2; clear h2))
    clear r0 r1 r2 r3 r4 hWq
    obtain ⟨r0, r1, r2, r3, r4⟩ := cells5 ((HB2.out.block w.heap.size (Array.getElem?_eq_some_iff.1 Hbx.out).1).trans Hbx.out)
    go_cut [62] from 24 to 62 (fun b wx => b = .bool (!pl) ∧ wx = W2)
    case first =>
      by_cases hE : wl.isEmpty = true
      · have hE1 : (strL wl).toList.isEmpty = true := by rw [isE]; exact hE
        have hE2 := Lib.hid hE
        clear hE
        have HPq : Hid (true = !pl) := by show _ = _; rw [HPl.out, hE2.out]; simp
        clear HPl
        go_wp2_with fail
        go_meet
        case rel => exact ⟨congrArg Value.bool HPq.out, rfl⟩
      · have hE0 : wl.isEmpty = false := by simpa using hE
        have hE1 : (strL wl).toList.isEmpty = false := by rw [isE]; exact hE0
        have hE2 := Lib.hid hE0
        clear hE hE0
        cases bV
        · by_cases hv : v = 0
          · have hv1 : (v == 0) = true := by rw [hv]; rfl
            have hv2 : (v != 0) = false := by rw [hv]; rfl
            have hv3 : Hid (decide (v = 0) = true) := decide_eq_true hv
            clear hv
            cases bA
            · by_cases ha : a = 0
              · have ha1 : (a == 0) = true := by rw [ha]; rfl
                have ha2 : (a != 0) = false := by rw [ha]; rfl
                have ha3 : Hid (decide (a = 0) = true) := decide_eq_true ha
                clear ha
                cases bN
                · by_cases hn : n = 0
                  · have hn1 : (n == 0) = true := by rw [hn]; rfl
                    have hn2 : (n != 0) = false := by rw [hn]; rfl
                    have hn3 : Hid (decide (n = 0) = true) := decide_eq_true hn
                    clear hn
                    cases bD
                    · by_cases hd : m = 0
                      · have hd1 : decide (0 < m) = false := decide_eq_false (by omega)
                        have hd3 : Hid (decide (m = 0) = true) := decide_eq_true hd
                        clear hd
                        have HPq : Hid (false = !pl) := by show _ = _; rw [HPl.out, hE2.out, hv3.out, ha3.out, hn3.out, hd3.out]; simp
                        clear HPl
                        go_wp2_with fail
                        go_meet
                        case rel => exact ⟨congrArg Value.bool HPq.out, rfl⟩
                      · have hd1 : decide (0 < m) = true := decide_eq_true (by omega)
                        have hd3 : Hid (decide (m = 0) = false) := decide_eq_false hd
                        clear hd
                        have HPq : Hid (true = !pl) := by show _ = _; rw [HPl.out, hE2.out, hv3.out, ha3.out, hn3.out, hd3.out]; simp
                        clear HPl
                        go_wp2_with fail
                        go_meet
                        case rel => exact ⟨congrArg Value.bool HPq.out, rfl⟩
                    · skip
                      have HPq : Hid (false = !pl) := by show _ = _; rw [HPl.out, hE2.out, hv3.out, ha3.out, hn3.out]; simp
                      clear HPl
                      go_wp2_with fail
                      go_meet
                      case rel => exact ⟨congrArg Value.bool HPq.out, rfl⟩
                  · have hn1 : (n == 0) = false := beq_false_of_ne hn
                    have hn2 : (n != 0) = true := bne_iff_ne.2 hn
                    have hn3 : Hid (decide (n = 0) = false) := decide_eq_false hn
                    clear hn
                    have HPq : Hid (true = !pl) := by show _ = _; rw [HPl.out, hE2.out, hv3.out, ha3.out, hn3.out]; simp
                    clear HPl
                    go_wp2_with fail
                    go_meet
                    case rel => exact ⟨congrArg Value.bool HPq.out, rfl⟩
                · skip
                  cases bD
                  · by_cases hd : m = 0
                    · have hd1 : decide (0 < m) = false := decide_eq_false (by omega)
                      have hd3 : Hid (decide (m = 0) = true) := decide_eq_true hd
                      clear hd
                      have HPq : Hid (false = !pl) := by show _ = _; rw [HPl.out, hE2.out, hv3.out, ha3.out, hd3.out]; simp
                      clear HPl
                      go_wp2_with fail
                      go_meet
                      case rel => exact ⟨congrArg Value.bool HPq.out, rfl⟩
                    · have hd1 : decide (0 < m) = true := decide_eq_true (by omega)
                      have hd3 : Hid (decide (m = 0) = false) := decide_eq_false hd
                      clear hd
                      have HPq : Hid (true = !pl) := by show _ = _; rw [HPl.out, hE2.out, hv3.out, ha3.out, hd3.out]; simp
                      clear HPl
                      go_wp2_with fail
                      go_meet
                      case rel => exact ⟨congrArg Value.bool HPq.out, rfl⟩
                  · skip
                    have HPq : Hid (false = !pl) := by show _ = _; rw [HPl.out, hE2.out, hv3.out, ha3.out]; simp
                    clear HPl
                    go_wp2_with fail
                    go_meet
                    case rel => exact ⟨congrArg Value.bool HPq.out, rfl⟩
              · have ha1 : (a == 0) = false := beq_false_of_ne ha
                have ha2 : (a != 0) = true := bne_iff_ne.2 ha
                have ha3 : Hid (decide (a = 0) = false) := decide_eq_false ha
                clear ha
                have HPq : Hid (true = !pl) := by show _ = _; rw [HPl.out, hE2.out, hv3.out, ha3.out]; simp
                clear HPl
                go_wp2_with fail
                go_meet
                case rel => exact ⟨congrArg Value.bool HPq.out, rfl⟩
            · skip
              cases bN
              · by_cases hn : n = 0
                · have hn1 : (n == 0) = true := by rw [hn]; rfl
                  have hn2 : (n != 0) = false := by rw [hn]; rfl
                  have hn3 : Hid (decide (n = 0) = true) := decide_eq_true hn
                  clear hn
                  cases bD
                  · by_cases hd : m = 0
                    · have hd1 : decide (0 < m) = false := decide_eq_false (by omega)
                      have hd3 : Hid (decide (m = 0) = true) := decide_eq_true hd
                      clear hd
                      have HPq : Hid (false = !pl) := by show _ = _; rw [HPl.out, hE2.out, hv3.out, hn3.out, hd3.out]; simp
                      clear HPl
                      go_wp2_with fail
                      go_meet
                      case rel => exact ⟨congrArg Value.bool HPq.out, rfl⟩
                    · have hd1 : decide (0 < m) = true := decide_eq_true (by omega)
                      have hd3 : Hid (decide (m = 0) = false) := decide_eq_false hd
                      clear hd
                      have HPq : Hid (true = !pl) := by show _ = _; rw [HPl.out, hE2.out, hv3.out, hn3.out, hd3.out]; simp
                      clear HPl
                      go_wp2_with fail
                      go_meet
                      case rel => exact ⟨congrArg Value.bool HPq.out, rfl⟩
                  · skip
                    have HPq : Hid (false = !pl) := by show _ = _; rw [HPl.out, hE2.out, hv3.out, hn3.out]; simp
                    clear HPl
                    go_wp2_with fail
                    go_meet
                    case rel => exact ⟨congrArg Value.bool HPq.out, rfl⟩
                · have hn1 : (n == 0) = false := beq_false_of_ne hn
                  have hn2 : (n != 0) = true := bne_iff_ne.2 hn
                  have hn3 : Hid (decide (n = 0) = false) := decide_eq_false hn
                  clear hn
                  have HPq : Hid (true = !pl) := by show _ = _; rw [HPl.out, hE2.out, hv3.out, hn3.out]; simp
                  clear HPl
                  go_wp2_with fail
                  go_meet
                  case rel => exact ⟨congrArg Value.bool HPq.out, rfl⟩
              · skip
                cases bD
                · by_cases hd : m = 0
                  · have hd1 : decide (0 < m) = false := decide_eq_false (by omega)
                    have hd3 : Hid (decide (m = 0) = true) := decide_eq_true hd
                    clear hd
                    have HPq : Hid (false = !pl) := by show _ = _; rw [HPl.out, hE2.out, hv3.out, hd3.out]; simp
                    clear HPl
                    go_wp2_with fail
                    go_meet
                    case rel => exact ⟨congrArg Value.bool HPq.out, rfl⟩
                  · have hd1 : decide (0 < m) = true := decide_eq_true (by omega)
                    have hd3 : Hid (decide (m = 0) = false) := decide_eq_false hd
                    clear hd
                    have HPq : Hid (true = !pl) := by show _ = _; rw [HPl.out, hE2.out, hv3.out, hd3.out]; simp
                    clear HPl
                    go_wp2_with fail
                    go_meet
                    case rel => exact ⟨congrArg Value.bool HPq.out, rfl⟩
                · skip
                  have HPq : Hid (false = !pl) := by show _ = _; rw [HPl.out, hE2.out, hv3.out]; simp
                  clear HPl
                  go_wp2_with fail
                  go_meet
                  case rel => exact ⟨congrArg Value.bool HPq.out, rfl⟩
          · have hv1 : (v == 0) = false := beq_false_of_ne hv
            have hv2 : (v != 0) = true := bne_iff_ne.2 hv
            have hv3 : Hid (decide (v = 0) = false) := decide_eq_false hv
            clear hv
            have HPq : Hid (true = !pl) := by show _ = _; rw [HPl.out, hE2.out, hv3.out]; simp
            clear HPl
            go_wp2_with fail
            go_meet
            case rel => exact ⟨congrArg Value.bool HPq.out, rfl⟩
        · skip
          cases bA
          · by_cases ha : a = 0
            · have ha1 : (a == 0) = true := by rw [ha]; rfl
              have ha2 : (a != 0) = false := by rw [ha]; rfl
              have ha3 : Hid (decide (a = 0) = true) := decide_eq_true ha
              clear ha
              cases bN
              · by_cases hn : n = 0
                · have hn1 : (n == 0) = true := by rw [hn]; rfl
                  have hn2 : (n != 0) = false := by rw [hn]; rfl
                  have hn3 : Hid (decide (n = 0) = true) := decide_eq_true hn
                  clear hn
                  cases bD
                  · by_cases hd : m = 0
                    · have hd1 : decide (0 < m) = false := decide_eq_false (by omega)
                      have hd3 : Hid (decide (m = 0) = true) := decide_eq_true hd
                      clear hd
                      have HPq : Hid (false = !pl) := by show _ = _; rw [HPl.out, hE2.out, ha3.out, hn3.out, hd3.out]; simp
                      clear HPl
                      go_wp2_with fail
                      go_meet
                      case rel => exact ⟨congrArg Value.bool HPq.out, rfl⟩
                    · have hd1 : decide (0 < m) = true := decide_eq_true (by omega)
                      have hd3 : Hid (decide (m = 0) = false) := decide_eq_false hd
                      clear hd
                      have HPq : Hid (true = !pl) := by show _ = _; rw [HPl.out, hE2.out, ha3.out, hn3.out, hd3.out]; simp
                      clear HPl
                      go_wp2_with fail
                      go_meet
                      case rel => exact ⟨congrArg Value.bool HPq.out, rfl⟩
                  · skip
                    have HPq : Hid (false = !pl) := by show _ = _; rw [HPl.out, hE2.out, ha3.out, hn3.out]; simp
                    clear HPl
                    go_wp2_with fail
                    go_meet
                    case rel => exact ⟨congrArg Value.bool HPq.out, rfl⟩
                · have hn1 : (n == 0) = false := beq_false_of_ne hn
                  have hn2 : (n != 0) = true := bne_iff_ne.2 hn
                  have hn3 : Hid (decide (n = 0) = false) := decide_eq_false hn
                  clear hn
                  have HPq : Hid (true = !pl) := by show _ = _; rw [HPl.out, hE2.out, ha3.out, hn3.out]; simp
                  clear HPl
                  go_wp2_with fail
                  go_meet
                  case rel => exact ⟨congrArg Value.bool HPq.out, rfl⟩
              · skip
                cases bD
                · by_cases hd : m = 0
                  · have hd1 : decide (0 < m) = false := decide_eq_false (by omega)
                    have hd3 : Hid (decide (m = 0) = true) := decide_eq_true hd
                    clear hd
                    have HPq : Hid (false = !pl) := by show _ = _; rw [HPl.out, hE2.out, ha3.out, hd3.out]; simp
                    clear HPl
                    go_wp2_with fail
                    go_meet
                    case rel => exact ⟨congrArg Value.bool HPq.out, rfl⟩
                  · have hd1 : decide (0 < m) = true := decide_eq_true (by omega)
                    have hd3 : Hid (decide (m = 0) = false) := decide_eq_false hd
                    clear hd
                    have HPq : Hid (true = !pl) := by show _ = _; rw [HPl.out, hE2.out, ha3.out, hd3.out]; simp
                    clear HPl
                    go_wp2_with fail
                    go_meet
                    case rel => exact ⟨congrArg Value.bool HPq.out, rfl⟩
                · skip
                  have HPq : Hid (false = !pl) := by show _ = _; rw [HPl.out, hE2.out, ha3.out]; simp
                  clear HPl
                  go_wp2_with fail
                  go_meet
                  case rel => exact ⟨congrArg Value.bool HPq.out, rfl⟩
            · have ha1 : (a == 0) = false := beq_false_of_ne ha
              have ha2 : (a != 0) = true := bne_iff_ne.2 ha
              have ha3 : Hid (decide (a = 0) = false) := decide_eq_false ha
              clear ha
              have HPq : Hid (true = !pl) := by show _ = _; rw [HPl.out, hE2.out, ha3.out]; simp
              clear HPl
              go_wp2_with fail
              go_meet
              case rel => exact ⟨congrArg Value.bool HPq.out, rfl⟩
          · skip
            cases bN
            · by_cases hn : n = 0
              · have hn1 : (n == 0) = true := by rw [hn]; rfl
                have hn2 : (n != 0) = false := by rw [hn]; rfl
                have hn3 : Hid (decide (n = 0) = true) := decide_eq_true hn
                clear hn
                cases bD
                · by_cases hd : m = 0
                  · have hd1 : decide (0 < m) = false := decide_eq_false (by omega)
                    have hd3 : Hid (decide (m = 0) = true) := decide_eq_true hd
                    clear hd
                    have HPq : Hid (false = !pl) := by show _ = _; rw [HPl.out, hE2.out, hn3.out, hd3.out]; simp
                    clear HPl
                    go_wp2_with fail
                    go_meet
                    case rel => exact ⟨congrArg Value.bool HPq.out, rfl⟩
                  · have hd1 : decide (0 < m) = true := decide_eq_true (by omega)
                    have hd3 : Hid (decide (m = 0) = false) := decide_eq_false hd
                    clear hd
                    have HPq : Hid (true = !pl) := by show _ = _; rw [HPl.out, hE2.out, hn3.out, hd3.out]; simp
                    clear HPl
                    go_wp2_with fail
                    go_meet
                    case rel => exact ⟨congrArg Value.bool HPq.out, rfl⟩
                · skip
                  have HPq : Hid (false = !pl) := by show _ = _; rw [HPl.out, hE2.out, hn3.out]; simp
                  clear HPl
                  go_wp2_with fail
                  go_meet
                  case rel => exact ⟨congrArg Value.bool HPq.out, rfl⟩
              · have hn1 : (n == 0) = false := beq_false_of_ne hn
                have hn2 : (n != 0) = true := bne_iff_ne.2 hn
                have hn3 : Hid (decide (n = 0) = false) := decide_eq_false hn
                clear hn
                have HPq : Hid (true = !pl) := by show _ = _; rw [HPl.out, hE2.out, hn3.out]; simp
                clear HPl
                go_wp2_with fail
                go_meet
                case rel => exact ⟨congrArg Value.bool HPq.out, rfl⟩
            · skip
              cases bD
              · by_cases hd : m = 0
                · have hd1 : decide (0 < m) = false := decide_eq_false (by omega)
                  have hd3 : Hid (decide (m = 0) = true) := decide_eq_true hd
                  clear hd
                  have HPq : Hid (false = !pl) := by show _ = _; rw [HPl.out, hE2.out, hd3.out]; simp
                  clear HPl
                  go_wp2_with fail
                  go_meet
                  case rel => exact ⟨congrArg Value.bool HPq.out, rfl⟩
                · have hd1 : decide (0 < m) = true := decide_eq_true (by omega)
                  have hd3 : Hid (decide (m = 0) = false) := decide_eq_false hd
                  clear hd
                  have HPq : Hid (true = !pl) := by show _ = _; rw [HPl.out, hE2.out, hd3.out]; simp
                  clear HPl
                  go_wp2_with fail
                  go_meet
                  case rel => exact ⟨congrArg Value.bool HPq.out, rfl⟩
              · skip
                have HPq : Hid (false = !pl) := by show _ = _; rw [HPl.out, hE2.out]; simp
                clear HPl
                go_wp2_with fail
                go_meet
                case rel => exact ⟨congrArg Value.bool HPq.out, rfl⟩
    case rest =>
      obtain ⟨rfl, hwc⟩ := hcut
      subst hwc
      obtain ⟨fv, hfv⟩ : ∃ b, b = fV ⟨c, v, a, n, d⟩ := ⟨_, rfl⟩
      obtain ⟨fa, hfa⟩ : ∃ b, b = fA ⟨c, v, a, n, d⟩ := ⟨_, rfl⟩
      obtain ⟨fn, hfn⟩ : ∃ b, b = fN ⟨c, v, a, n, d⟩ := ⟨_, rfl⟩
      obtain ⟨fd, hfd⟩ : ∃ b, b = fD ⟨c, v, a, n, d⟩ := ⟨_, rfl⟩
      obtain ⟨l0, hl0⟩ : ∃ l, l = s0R ⟨c, v, a, n, d⟩ := ⟨_, rfl⟩
      have Hl0 : Hid (l0.length ≤ 30) := by show _ ≤ _; rw [hl0]; exact s0_len _ Hc.out
      have HFv : Hid (fv = (!pl || bV)) := by show _ = _; rw [hfv, Hpl.out, HbV.out]; rfl
      have HFa : Hid (fa = (!pl || bA)) := by show _ = _; rw [hfa, Hpl.out, HbA.out]; rfl
      have HFn : Hid (fn = (!pl || bN)) := by show _ = _; rw [hfn, Hpl.out, HbN.out]; rfl
      have HFd : Hid (fd = (!pl || bD)) := by show _ = _; rw [hfd, Hpl.out, HbD.out]; rfl
      have HL0 : Hid (l0 = if pl then wl else [111, 112, 32] ++ Lib.decDigits c.toNat) := by show _ = _; rw [hl0, Hpl.out, Hwl.out]; rfl
      obtain ⟨l4, hl4⟩ : ∃ l, l = l0 ++ (if fv then 32 :: Lib.decDigits v.toNat else []) ++ (if fa then 32 :: Lib.decDigits a.toNat else []) ++ (if fn then 32 :: Lib.decDigits n.toNat else []) ++ (if fd then 32 :: shownOf d else []) := ⟨_, rfl⟩
      have H4 : Hid (l4 = textOf ⟨c, v, a, n, d⟩) := by
        show _ = _
        rw [← s4R_eq, hl4, hl0, hfv, hfa, hfn, hfd]
        rfl
      have Hl4 := Lib.hid hl4
      clear hfv hfa hfn hfd hl0 hl4
      obtain ⟨W2, hW2⟩ : ∃ y, y = wc := ⟨_, rfl⟩
      subst hW2
      have HB2' : Hid (Below w.heap.size w W2) := HB1.out.trans (HB2.out.mono HB1.out.size)
      go_upto_if 62 with fail
      go_cut [4, 5, 6, 7, 8] from 24 to 67 (fun x4 x5 x6 x7 x8 wx => x4 = .bool fv ∧ x5 = .bool fa ∧ x6 = .bool fn ∧ x7 = .bool fd ∧ x8 = .string (strL l0) ∧ Hid (Below W2.heap.size W2 wx))
      case first =>
        cases pl
        · have h1 : fv = true := HFv.out
          have h2 : fa = true := HFa.out
          have h3 : fn = true := HFn.out
          have h4 : fd = true := HFd.out
          have h5 : l0 = [111, 112, 32] ++ Lib.decDigits c.toNat := HL0.out
          have HN := Lib.hid (rnum_any c ⟨Hc.out.1, by have := Hc.out.2; omega⟩ W2)
          have e1 : (⟨(Lib.decDigits c.toNat).toArray⟩ : ByteArray) = strL (Lib.decDigits c.toNat) := rfl
          rw [e1] at HN
          have q1 := add_L [111, 112, 32] (strL (Lib.decDigits c.toNat)) l0 (by rw [h5, strL_data]) (by have := Hl0.out; omega)
          have e2 : strL [111, 112, 32] = ⟨#[111, 112, 32]⟩ := rfl
          rw [e2] at q1
          have hcw : IntKind.u64.wrap c = c := by have h1 := Hc.out.1; have h2 := Hc.out.2; apply IntWalk.u64_in; omega
          have HF : Hid (fv = true ∧ fa = true ∧ fn = true ∧ fd = true) := ⟨h1, h2, h3, h4⟩
          clear h1 h2 h3 h4 h5 e1 e2
          go_wp2_with (go_at_call 41; go_must (refine HN.out.mono ?_); rintro e W3 ⟨rfl, h3⟩; have HB3 := Lib.hid h3; clear h3)
          go_meet
          case rel => exact ⟨congrArg Value.bool HF.out.1.symm, congrArg Value.bool HF.out.2.1.symm, congrArg Value.bool HF.out.2.2.1.symm, congrArg Value.bool HF.out.2.2.2.symm, rfl, HB3.out⟩
        · have HF : Hid (fv = bV ∧ fa = bA ∧ fn = bN ∧ fd = bD ∧ l0 = wl) := ⟨HFv.out, HFa.out, HFn.out, HFd.out, HL0.out⟩
          go_wp2_with fail
          go_meet
          case rel => exact ⟨congrArg Value.bool HF.out.1.symm, congrArg Value.bool HF.out.2.1.symm, congrArg Value.bool HF.out.2.2.1.symm, congrArg Value.bool HF.out.2.2.2.1.symm, by rw [HF.out.2.2.2.2], Below.refl _ _⟩
      case rest =>
        obtain ⟨rfl, rfl, rfl, rfl, rfl, hw3⟩ := hcut
        have HW0 := Lib.hid hw3.out
        clear hw3 r0 r1 r2 r3 r4
        obtain ⟨l1, hl1⟩ : ∃ l, l = l0 ++ (if fv then 32 :: Lib.decDigits v.toNat else []) := ⟨_, rfl⟩
        have Hl1 : Hid (l1.length ≤ 51) := by
          have h1 := dec_sm v Hv.out
          have h2 := Hl0.out
          show _ ≤ _
          rw [hl1, List.length_append]
          split
          · simp only [List.length_cons]; omega
          · simp only [List.length_nil]; omega
        have HEl1 := Lib.hid hl1
        clear hl1
        obtain ⟨X0, hX⟩ : ∃ y, y = wc := ⟨_, rfl⟩
        subst hX
        go_upto_if 68 with fail
        go_cut [8] from 68 to 74 (fun x8 wx => x8 = .string (strL l1) ∧ Hid (Below W2.heap.size W2 wx))
        case first =>
          cases fv
          · have hq : Hid (l0 = l1) := by show _ = _; rw [HEl1.out]; simp
            go_wp2_with fail
            go_meet
            case rel => exact ⟨by rw [hq.out], HW0.out⟩
          · obtain ⟨r0, r1, r2, r3, r4⟩ := cells5 ((HW0.out.block w.heap.size (by have := HB2.out.size; have := (Array.getElem?_eq_some_iff.1 Hbx.out).1; omega)).trans ((HB2.out.block w.heap.size (Array.getElem?_eq_some_iff.1 Hbx.out).1).trans Hbx.out))
            have q1 := add_L l0 (⟨#[32]⟩ : ByteArray) (l0 ++ [32]) rfl (by have := Hl0.out; rw [List.length_append]; simp only [List.length_cons, List.length_nil]; omega)
            have HN := Lib.hid (rnum_any v Hv.out X0)
            have e1 : (⟨(Lib.decDigits v.toNat).toArray⟩ : ByteArray) = strL (Lib.decDigits v.toNat) := rfl
            rw [e1] at HN
            have q2 := add_L (l0 ++ [32]) (strL (Lib.decDigits v.toNat)) l1 (by rw [strL_data, HEl1.out]; simp) (by have := Hl1.out; omega)
            clear e1
            go_wp2_with (go_at_call 41; go_must (refine HN.out.mono ?_); rintro e W3 ⟨rfl, h3⟩; have HB3 := Lib.hid (HW0.out.trans (h3.mono HW0.out.size)); clear h3)
            go_meet
            case rel => exact ⟨rfl, HB3.out⟩
        case rest =>
          obtain ⟨rfl, hw3⟩ := hcut
          have HW1 := Lib.hid hw3.out
          clear hw3
          obtain ⟨l2, hl2⟩ : ∃ l, l = l1 ++ (if fa then 32 :: Lib.decDigits a.toNat else []) := ⟨_, rfl⟩
          have Hl2 : Hid (l2.length ≤ 72) := by
            have h1 := dec_sm a Ha.out
            have h2 := Hl1.out
            show _ ≤ _
            rw [hl2, List.length_append]
            split
            · simp only [List.length_cons]; omega
            · simp only [List.length_nil]; omega
          have HEl2 := Lib.hid hl2
          clear hl2
          obtain ⟨X1, hX⟩ : ∃ y, y = wc := ⟨_, rfl⟩
          subst hX
          go_upto_if 75 with fail
          go_cut [8] from 75 to 81 (fun x8 wx => x8 = .string (strL l2) ∧ Hid (Below W2.heap.size W2 wx))
          case first =>
            cases fa
            · have hq : Hid (l1 = l2) := by show _ = _; rw [HEl2.out]; simp
              go_wp2_with fail
              go_meet
              case rel => exact ⟨by rw [hq.out], HW1.out⟩
            · obtain ⟨r0, r1, r2, r3, r4⟩ := cells5 ((HW1.out.block w.heap.size (by have := HB2.out.size; have := (Array.getElem?_eq_some_iff.1 Hbx.out).1; omega)).trans ((HB2.out.block w.heap.size (Array.getElem?_eq_some_iff.1 Hbx.out).1).trans Hbx.out))
              have q1 := add_L l1 (⟨#[32]⟩ : ByteArray) (l1 ++ [32]) rfl (by have := Hl1.out; rw [List.length_append]; simp only [List.length_cons, List.length_nil]; omega)
              have HN := Lib.hid (rnum_any a Ha.out X1)
              have e1 : (⟨(Lib.decDigits a.toNat).toArray⟩ : ByteArray) = strL (Lib.decDigits a.toNat) := rfl
              rw [e1] at HN
              have q2 := add_L (l1 ++ [32]) (strL (Lib.decDigits a.toNat)) l2 (by rw [strL_data, HEl2.out]; simp) (by have := Hl2.out; omega)
              clear e1
              go_wp2_with (go_at_call 41; go_must (refine HN.out.mono ?_); rintro e W3 ⟨rfl, h3⟩; have HB3 := Lib.hid (HW1.out.trans (h3.mono HW1.out.size)); clear h3)
              go_meet
              case rel => exact ⟨rfl, HB3.out⟩
          case rest =>
            obtain ⟨rfl, hw3⟩ := hcut
            have HW2 := Lib.hid hw3.out
            clear hw3
            obtain ⟨l3, hl3⟩ : ∃ l, l = l2 ++ (if fn then 32 :: Lib.decDigits n.toNat else []) := ⟨_, rfl⟩
            have Hl3 : Hid (l3.length ≤ 93) := by
              have h1 := dec_sm n Hn.out
              have h2 := Hl2.out
              show _ ≤ _
              rw [hl3, List.length_append]
              split
              · simp only [List.length_cons]; omega
              · simp only [List.length_nil]; omega
            have HEl3 := Lib.hid hl3
            clear hl3
            obtain ⟨X2, hX⟩ : ∃ y, y = wc := ⟨_, rfl⟩
            subst hX
            go_upto_if 82 with fail
            go_cut [8] from 82 to 88 (fun x8 wx => x8 = .string (strL l3) ∧ Hid (Below W2.heap.size W2 wx))
            case first =>
              cases fn
              · have hq : Hid (l2 = l3) := by show _ = _; rw [HEl3.out]; simp
                go_wp2_with fail
                go_meet
                case rel => exact ⟨by rw [hq.out], HW2.out⟩
              · obtain ⟨r0, r1, r2, r3, r4⟩ := cells5 ((HW2.out.block w.heap.size (by have := HB2.out.size; have := (Array.getElem?_eq_some_iff.1 Hbx.out).1; omega)).trans ((HB2.out.block w.heap.size (Array.getElem?_eq_some_iff.1 Hbx.out).1).trans Hbx.out))
                have q1 := add_L l2 (⟨#[32]⟩ : ByteArray) (l2 ++ [32]) rfl (by have := Hl2.out; rw [List.length_append]; simp only [List.length_cons, List.length_nil]; omega)
                have HN := Lib.hid (rnum_any n Hn.out X2)
                have e1 : (⟨(Lib.decDigits n.toNat).toArray⟩ : ByteArray) = strL (Lib.decDigits n.toNat) := rfl
                rw [e1] at HN
                have q2 := add_L (l2 ++ [32]) (strL (Lib.decDigits n.toNat)) l3 (by rw [strL_data, HEl3.out]; simp) (by have := Hl3.out; omega)
                clear e1
                go_wp2_with (go_at_call 41; go_must (refine HN.out.mono ?_); rintro e W3 ⟨rfl, h3⟩; have HB3 := Lib.hid (HW2.out.trans (h3.mono HW2.out.size)); clear h3)
                go_meet
                case rel => exact ⟨rfl, HB3.out⟩
            case rest =>
              obtain ⟨rfl, hw3⟩ := hcut
              have HW3 := Lib.hid hw3.out
              clear hw3
              have HE4 : Hid (l4 = l3 ++ (if fd then 32 :: shownOf d else [])) := by show _ = _; rw [Hl4.out, HEl3.out, HEl2.out, HEl1.out]
              have HL4 : Hid (l4.length ≤ 30000) := by
                have h1 := shown_sm d (by have := Hml.out; have := Hm.out; omega)
                have h2 := Hl3.out
                show _ ≤ _
                rw [HE4.out, List.length_append]
                split
                · simp only [List.length_cons]; omega
                · simp only [List.length_nil]; omega
              obtain ⟨X3, hX⟩ : ∃ y, y = wc := ⟨_, rfl⟩
              subst hX
              cases fd
              · have hq : Hid (l3 = l4) := by show _ = _; rw [HE4.out]; simp
                go_wp2_with fail
                go_ret2
                exact ⟨HT.out _ _ (by rw [hq.out, H4.out, HR.out]) (by rw [HR.out]), HB2'.out.trans (HW3.out.mono HB2'.out.size)⟩
              · obtain ⟨r0, r1, r2, r3, r4⟩ := cells5 ((HW3.out.block w.heap.size (by have := HB2.out.size; have := (Array.getElem?_eq_some_iff.1 Hbx.out).1; omega)).trans ((HB2.out.block w.heap.size (Array.getElem?_eq_some_iff.1 Hbx.out).1).trans Hbx.out))
                have q1 := add_L l3 (⟨#[32]⟩ : ByteArray) (l3 ++ [32]) rfl (by have := Hl3.out; rw [List.length_append]; simp only [List.length_cons, List.length_nil]; omega)
                have HN := Lib.hid (rdata_any X3 X3.heap.size (.slice A m k) d (Hd.out X3 (HB2.out.trans (HW3.out.mono HB2.out.size))) (Nat.le_refl _) (by have := Hml.out; have := Hm.out; omega))
                have e1 : (⟨(shownOf d).toArray⟩ : ByteArray) = strL (shownOf d) := rfl
                rw [e1] at HN
                have q2 := add_L (l3 ++ [32]) (strL (shownOf d)) l4 (by rw [strL_data, HE4.out]; simp) (by have := HL4.out; omega)
                clear e1
                go_wp2_with (go_at_call 42; go_must (refine HN.out.mono ?_); rintro e W3 ⟨rfl, h3⟩; have HB3 := Lib.hid (HB2'.out.trans ((HW3.out.trans (h3.mono HW3.out.size)).mono HB2'.out.size)); clear h3)
                go_ret2
                exact ⟨HT.out _ _ (by rw [H4.out, HR.out]) (by rw [HR.out]), HB3.out⟩
end Go.Proofs.YtakiinghipjopaaGreatDoor
