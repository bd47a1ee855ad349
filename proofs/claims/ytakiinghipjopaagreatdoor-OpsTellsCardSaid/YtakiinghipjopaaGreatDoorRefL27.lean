/-
  The reference of layer 27: the parser.
-/
import Derived.Test.YtakiinghipjopaaGreatDoorRefK27
import Derived.Test.YtakiinghipjopaaGreatDoorReadW27
import Derived.Deep.LoopGhost
namespace Go.Proofs.YtakiinghipjopaaGreatDoor
open Go.RowKit Go.Shelf

/-- the reader, and the operation that is taken, as they stand -/
structure PrI (w wr : World) (s : ByteArray) (at_ : Nat) (o : OpV) (dv : Value) : Prop where
  res : wr.heap[w.heap.size]? = some (.cells #[.int .u8 0, .int .u64 0, .int .u64 0, .int .u64 0, .slice none 0 0] 25 (0, 0))
  rd : wr.heap[w.heap.size + 1]? = some (.cells #[.string s, .int .i64 at_] 91 (0, 0))
  op : wr.heap[w.heap.size + 2]? = some (.cells #[.int .u8 o.code, .int .u64 o.vol, .int .u64 o.at_, .int .u64 o.n, dv] 25 (0, 0))
  own : OwnY wr (w.heap.size + 3) dv o.data
  rng : OpIn o
  bel : Below w.heap.size w wr
theorem gb_off {w w' : World} {g k : Nat} {o : Obj} (h : w.grownBy w' (some g)) (hk : w.heap[k]? = some o) (hne : k ≠ g) : w'.heap[k]? = some o :=
  (h.block k (Array.getElem?_eq_some_iff.1 hk).1 (fun e => hne (Option.some.inj e))).trans hk
theorem gb_own {w w' : World} {g base : Nat} {v : Value} {xs : List Int} (h : w.grownBy w' (some g)) (ho : OwnY w base v xs) (hg : g < base) : OwnY w' base v xs :=
  own_apart ho h (fun k e => by cases e; exact hg)
/-- behind the reader's word -/
theorem PrI.word {w wr wr' : World} {s : ByteArray} {a a' : Nat} {o : OpV} {dv : Value} (h : PrI w wr s a o dv) (h1 : wr'.heap[w.heap.size + 1]? = some (.cells #[.string s, .int .i64 a'] 91 (0, 0))) (hg : wr.grownBy wr' (some (w.heap.size + 1))) : PrI w wr' s a' o dv :=
  ⟨gb_off hg h.res (by omega), h1, gb_off hg h.op (by omega), gb_own hg h.own (by omega), h.rng, h.bel.grown hg h.bel.size (fun k e => by cases e; omega)⟩
/-- behind what makes memory alone -/
theorem PrI.on {w wr wr' : World} {s : ByteArray} {a : Nat} {o : OpV} {dv : Value} (h : PrI w wr s a o dv) (hb : Below wr.heap.size wr wr') : PrI w wr' s a o dv :=
  ⟨(hb.block _ (Array.getElem?_eq_some_iff.1 h.res).1).trans h.res, (hb.block _ (Array.getElem?_eq_some_iff.1 h.rd).1).trans h.rd, (hb.block _ (Array.getElem?_eq_some_iff.1 h.op).1).trans h.op, h.own.on hb, h.rng, h.bel.trans (hb.mono h.bel.size)⟩
/-- a field of the operation is written -/
theorem PrI.set {w wr : World} {s : ByteArray} {a : Nat} {o o' : OpV} {dv dv' : Value} (h : PrI w wr s a o dv) (j : Nat) (u : Value)
    (hc : (#[.int .u8 o.code, .int .u64 o.vol, .int .u64 o.at_, .int .u64 o.n, dv] : Array Value).setIfInBounds j u = #[.int .u8 o'.code, .int .u64 o'.vol, .int .u64 o'.at_, .int .u64 o'.n, dv']) (ho : OwnY wr (w.heap.size + 3) dv' o'.data) (hr : OpIn o') :
    PrI w (wr.setCell ⟨w.heap.size + 2, j, none⟩ u) s a o' dv' := by
  refine ⟨?_, ?_, ?_, own_set ho (by show w.heap.size + 2 < _; omega) _, hr, h.bel.setCell (by show _ ≤ w.heap.size + 2; omega) _⟩
  · rw [Below.heap_setCell _ _ _ _ (by simp)]; exact h.res
  · rw [Below.heap_setCell _ _ _ _ (by simp)]; exact h.rd
  · have := set_here (j := j) h.op u
    rw [hc] at this
    exact this
theorem PrI.size {w wr : World} {s : ByteArray} {a : Nat} {o : OpV} {dv : Value} (h : PrI w wr s a o dv) : w.heap.size + 3 ≤ wr.heap.size := by
  have := (Array.getElem?_eq_some_iff.1 h.op).1
  omega
theorem rdW_le (l : List UInt8) (a : Nat) (h : a ≤ l.length + 1) : (rdW l a).2 ≤ l.length + 1 ∧ (rdW l a).1.length ≤ l.length := by
  unfold rdW
  split
  · exact ⟨h, by simp⟩
  · have h1 := (List.takeWhile_sublist (p := (· != 32)) (l := l.drop a)).length_le
    rw [List.length_drop] at h1
    refine ⟨?_, ?_⟩
    · show a + ((l.drop a).takeWhile (· != 32)).length + 1 ≤ _; omega
    · show ((l.drop a).takeWhile (· != 32)).length ≤ l.length; omega
/-- the reader's next word, at the state -/
theorem word_pr {w wr : World} {s : ByteArray} {a : Nat} {o : OpV} {dv : Value} (h : PrI w wr s a o dv) (hs : s.size ≤ 100000) (ha : a ≤ s.size + 1) :
    Calls Tryz.prog 49 #[.pointer (some ⟨w.heap.size + 1, 0, none⟩)] wr fun e w' => e = .returned (.string (strL (rdW s.data.toList a).1)) ∧ PrI w w' s (rdW s.data.toList a).2 o dv :=
  (word_rd (w.heap.size + 1) s a wr h.rd hs (by omega)).mono fun _ _ ⟨h1, h2, h3, _⟩ => ⟨h1, h.word h2 h3⟩
set_option maxRecDepth 100000 in
set_option maxHeartbeats 8000000 in
theorem rparse_any (s : ByteArray) (hs : s.size ≤ 100000) (w : World) :
    Calls Tryz.prog 17 #[.string s] w fun e w' => (∃ dv, e = .returned (.tuple #[opVal ((parseC s.data.toList).1, dv), .int .i64 (parseC s.data.toList).2]) ∧ OpOk w' w'.heap.size ((parseC s.data.toList).1, dv)) ∧ Below w.heap.size w w' := by
  obtain ⟨l, hl⟩ : ∃ l, l = s.data.toList := ⟨_, rfl⟩
  have Hl := Lib.hid hl
  have Hsz : Hid (s.size = l.length) := by show _ = _; rw [hl, Lib.size_eq]
  have hs1 : (s.size : Int) ≤ 100000 := by omega
  have Hs := Lib.hid hs
  rw [← hl]
  clear hl hs
  obtain ⟨W0, hW0⟩ : ∃ W, W = ((w.alloc (.cells #[.int .u8 0, .int .u64 0, .int .u64 0, .int .u64 0, .slice none 0 0] 25)).alloc (.cells #[.string s, .int .i64 0] 91)) := ⟨_, rfl⟩
  have hR0 : W0.heap[w.heap.size + 1]? = some (.cells #[.string s, .int .i64 (0 : Nat)] 91 (0, 0)) := by rw [hW0]; exact two_new w _ _
  have hA0 : W0.heap[w.heap.size]? = some (.cells #[.int .u8 0, .int .u64 0, .int .u64 0, .int .u64 0, .slice none 0 0] 25 (0, 0)) := by rw [hW0]; exact two_old w _ _
  have HB0 : Hid (Below w.heap.size w W0) := by rw [hW0]; exact (bel1 _ _).alloc (by simp) _
  have HZ0 : Hid (W0.heap.size = w.heap.size + 2) := by show _ = _; rw [hW0]; simp
  have HW := Lib.hid (word_rd (w.heap.size + 1) s 0 W0 hR0 Hs.out (by omega))
  rw [← Hl.out] at HW
  have HA0 := Lib.hid hA0
  have hWq := hW0.symm
  clear hW0 hR0 hA0
  go_enter Tryz.func17, Tryz.ntmps17
  go_upto_region 4 with (go_at_call 49; go_must (refine HW.out.mono ?_); rintro e W1 ⟨rfl, h1, h2, h3⟩)
  have e3 : W1.heap.size = w.heap.size + 2 := by rw [h3, HZ0.out]
  have hS : PrI w (W1.alloc (.cells #[.int .u8 0, .int .u64 0, .int .u64 0, .int .u64 0, .slice none 0 0] 25)) s (rdW l 0).2 ⟨0, 0, 0, 0, []⟩ (.slice none 0 0) := by
    have hb := bel1 W1 (.cells #[.int .u8 0, .int .u64 0, .int .u64 0, .int .u64 0, .slice none 0 0] 25)
    refine ⟨(hb.block _ (by omega)).trans (gb_off h2 HA0.out (by omega)), (hb.block _ (by omega)).trans h1, ?_, ownY_nil _ _, ⟨⟨by decide, by decide⟩, zero64, zero64, zero64, fun x hx => by cases hx⟩, (HB0.out.grown h2 HB0.out.size (fun k e => by cases e; omega)).trans (hb.mono (by omega))⟩
    have h := heap_alloc_new W1 (.cells #[.int .u8 0, .int .u64 0, .int .u64 0, .int .u64 0, .slice none 0 0] 25)
    rw [e3] at h
    exact h
  rw [HZ0.out]
  obtain ⟨W2, hW2⟩ : ∃ W, W = W1.alloc (.cells #[.int .u8 0, .int .u64 0, .int .u64 0, .int .u64 0, .slice none 0 0] 25) := ⟨_, rfl⟩
  rw [← hW2] at hS ⊢
  have HS := Lib.hid hS
  clear hWq hW2 h1 h2 h3 e3 hS
  obtain ⟨a0, ha0⟩ : ∃ x, x = (rdW l 0).2 := ⟨_, rfl⟩
  obtain ⟨w0, hw0⟩ : ∃ x, x = (rdW l 0).1 := ⟨_, rfl⟩
  rw [← ha0] at HS
  rw [← hw0]
  have Ha0 := Lib.hid ha0
  have Hw0 := Lib.hid hw0
  have Hle0 : Hid (a0 ≤ s.size + 1) := by show _ ≤ _; rw [ha0, Hsz.out]; exact (rdW_le l 0 (Nat.zero_le _)).1
  clear ha0 hw0
  go_upto_if 20 with fail
  obtain ⟨b0, hb0⟩ : ∃ b : Bool, b = decide (w0 = [111, 112]) := ⟨_, rfl⟩
  have hbe : ((strL w0).toList == [111, 112]) = b0 := by rw [ByteArray.toList_eq, strL_data, hb0, Bool.eq_iff_iff]; simp
  rw [hbe]
  have Hb0 := Lib.hid hb0
  clear hb0 hbe
  go_cut [7, 8, 9, 10] from 19 to 45 (fun b7 b8 b9 b10 wx => b7 = .bool (nV l) ∧ b8 = .bool (nA l) ∧ b9 = .bool (nN l) ∧ b10 = .bool (nD l) ∧ Hid (PrI w wx s (at0 l) ⟨cod0 l, 0, 0, 0, []⟩ (.slice none 0 0)))
  case first =>
    cases b0
    case true =>
      have hop : w0 = [111, 112] := of_decide_eq_true Hb0.out.symm
      have Hop : Hid (isOp l = true) := by show _ = _; unfold isOp; rw [← Hw0.out, hop]; rfl
      have HWd : Hid (∀ W, PrI w W s a0 ⟨0, 0, 0, 0, []⟩ (.slice none 0 0) → Calls Tryz.prog 49 #[.pointer (some ⟨w.heap.size + 1, 0, none⟩)] W fun e w' => e = .returned (.string (strL (rdW l a0).1)) ∧ PrI w w' s (rdW l a0).2 ⟨0, 0, 0, 0, []⟩ (.slice none 0 0)) := fun W h => by
        have h1 := word_pr h Hs.out Hle0.out
        rw [← Hl.out] at h1
        exact h1
      obtain ⟨w1, hw1⟩ : ∃ x, x = (rdW l a0).1 := ⟨_, rfl⟩
      obtain ⟨a1, ha1⟩ : ∃ x, x = (rdW l a0).2 := ⟨_, rfl⟩
      rw [← hw1, ← ha1] at HWd
      have HVa : Hid (∀ W, Calls Tryz.prog 50 #[.string (strL w1)] W fun e w' => e = .returned (.int .u64 (valR w1)) ∧ W = w') := fun W => by
        have h := value_any (strL w1) (by rw [strL_size, hw1]; have h1 := (rdW_le l a0 (by have := Hle0.out; have := Hsz.out; omega)).2; have := Hsz.out; have := Hs.out; omega) W
        rw [strL_data] at h
        exact h
      obtain ⟨v, hv⟩ : ∃ v, v = valR w1 := ⟨_, rfl⟩
      rw [← hv] at HVa
      have hvw : IntKind.u8.wrap v = v % 256 := IntKind.wrap_u8 v
      have hc : Hid (cod0 l = v % 256 ∧ at0 l = a1 ∧ nV l = true ∧ nA l = true ∧ nN l = true ∧ nD l = true) := by
        have e1 := Hop.out
        refine ⟨?_, ?_, ?_, ?_, ?_, ?_⟩
        · unfold cod0; rw [if_pos e1, ← Ha0.out, ← hw1, ← hv]
        · unfold at0; rw [if_pos e1, ← Ha0.out, ← ha1]
        · unfold nV; rw [e1]; rfl
        · unfold nA; rw [e1]; rfl
        · unfold nN; rw [e1]; rfl
        · unfold nD; rw [e1]; rfl
      have Hvb : Hid (IsByte (v % 256)) := ⟨Int.emod_nonneg _ (by decide), Int.emod_lt_of_pos _ (by decide)⟩
      clear hop hw1 ha1 hv
      go_wp2_with (first
        | (go_at_call 49; go_must ((with_reducible refine (HWd.out _ HS.out).mono ?_)); rintro e W3 ⟨rfl, h3⟩; have H3 := Lib.hid h3; obtain ⟨x0, x1, x2, x3, x4⟩ := cells5 h3.op; have xf := cells5_free h3.op 0; clear h3)
        | (go_at_call 50; go_must ((with_reducible refine (HVa.out _).mono ?_)); rintro e W4 ⟨rfl, rfl⟩))
      go_meet
      case rel =>
        obtain ⟨c1, c2, c3, c4, c5, c6⟩ := hc.out
        rw [c1, c2, c3, c4, c5, c6]
        exact ⟨rfl, rfl, rfl, rfl, H3.out.set 0 _ rfl (ownY_nil _ _) ⟨Hvb.out, zero64, zero64, zero64, fun x hx => by cases hx⟩⟩
    case false =>
      have hop : ¬ w0 = [111, 112] := of_decide_eq_false Hb0.out.symm
      have Hop : Hid (isOp l = false) := by show _ = _; unfold isOp; rw [← Hw0.out]; exact decide_eq_false hop
      clear hop
      go_wp2_with fail
      go_loopw [11] (fun c wr => ∃ k : Nat, c = .int .i64 (k + 1 : Nat) ∧ k ≤ 9 ∧ Hid (PrI w wr s a0 ⟨wcode w0 k, 0, 0, 0, []⟩ (.slice none 0 0))) (fun c _ => 10 - (intOf c).toNat)
      case atStart => exact ⟨0, rfl, by omega, HS.out⟩
      case round =>
        obtain ⟨k, rfl, hk, HK⟩ := hrel
        obtain ⟨q, hq⟩ : ∃ q, q = k + 1 := ⟨_, rfl⟩
        rw [← hq]
        have hq0 : (0 : Int) ≤ q := by omega
        have hqw : RowKit.wrap64 ((q : Int) + 1) = (q : Int) + 1 := by unfold RowKit.wrap64; omega
        have Hk := Lib.hid hk
        have Hq := Lib.hid hq
        by_cases h9 : q ≤ 9
        · have h9' : (q : Int) ≤ 9 := by omega
          have hq8 : IntKind.u8.wrap (q : Int) = (q : Int) := by apply IntWalk.u8_in; omega
          have HWo := Lib.hid (rword_any (q : Int) ⟨by omega, by omega⟩ wr)
          have e0 : (⟨(wordOf (q : Int)).1.toArray⟩ : ByteArray) = strL (wordOf (q : Int)).1 := rfl
          rw [e0] at HWo
          obtain ⟨wq, hwq⟩ : ∃ x, x = (wordOf (q : Int)).1 := ⟨_, rfl⟩
          rw [← hwq] at HWo
          have H9 := Lib.hid h9
          by_cases heq : wq = w0
          · have hb2 : ((strL wq).toList == (strL w0).toList) = true := by rw [heq]; exact beq_self_eq_true _
            have HC : Hid (wcode w0 q = (q : Int)) := by show _ = _; rw [hq, wcode, if_pos (by rw [← hq, ← hwq]; exact heq)]
            clear heq hwq hq hk h9 e0
            go_wp2_with (go_at_call 40; go_must ((with_reducible refine HWo.out.mono ?_)); rintro e W3 ⟨rfl, h3⟩; have H3 := Lib.hid (HK.out.on h3); obtain ⟨x0, x1, x2, x3, x4⟩ := cells5 H3.out.op; have xf := cells5_free H3.out.op 0; clear h3)
            go_roundw
            case rel =>
              refine ⟨q, by go_num, H9.out, ?_⟩
              have h := H3.out.set (o' := ⟨(q : Int), 0, 0, 0, []⟩) 0 (.int .u8 (q : Int)) rfl (ownY_nil _ _) ⟨⟨by show (0 : Int) ≤ (q : Int); omega, by show (q : Int) < 256; have := H9.out; omega⟩, zero64, zero64, zero64, fun x hx => by cases hx⟩
              rw [HC.out]
              exact h
            case measure => have := H9.out; simp [intOf]; omega
          · have hb2 : ((strL wq).toList == (strL w0).toList) = false := by rw [ByteArray.toList_eq, ByteArray.toList_eq, strL_data, strL_data]; exact beq_false_of_ne heq
            have HC : Hid (wcode w0 q = wcode w0 k) := by show _ = _; rw [hq, wcode, if_neg (by rw [← hq, ← hwq]; exact heq)]
            clear heq hwq hq hk h9 e0
            go_wp2_with (go_at_call 40; go_must ((with_reducible refine HWo.out.mono ?_)); rintro e W3 ⟨rfl, h3⟩; have H3 := Lib.hid (HK.out.on h3); clear h3)
            go_roundw
            case rel => exact ⟨q, by go_num, H9.out, by rw [HC.out]; exact H3.out⟩
            case measure => have := H9.out; simp [intOf]; omega
        · have h9' : ¬ (q : Int) ≤ 9 := by omega
          have hk9 : k = 9 := by omega
          obtain ⟨c, hc⟩ : ∃ c, c = wcode w0 k := ⟨_, rfl⟩
          rw [← hc] at HK
          have hcc : cod0 l = c := by unfold cod0; rw [Hop.out, ← Hw0.out, hc, hk9]; simp
          have hcb : IsByte c := by rw [← hcc]; exact cod0_byte l
          have Hrel : Hid (cod0 l = c ∧ at0 l = a0 ∧ nV l = namesV c ∧ nA l = namesA c ∧ nN l = namesN c ∧ nD l = namesD c) := by
            refine ⟨hcc, ?_, ?_, ?_, ?_, ?_⟩
            · unfold at0; rw [Hop.out, Ha0.out]; simp
            · unfold nV; rw [Hop.out, hcc]; rfl
            · unfold nA; rw [Hop.out, hcc]; rfl
            · unfold nN; rw [Hop.out, hcc]; rfl
            · unfold nD; rw [Hop.out, hcc]; rfl
          have HNm := Lib.hid (names_any c hcb wr)
          obtain ⟨x0, x1, x2, x3, x4⟩ := cells5 HK.out.op
          clear hc hcc hcb hk9 hq h9 hk
          go_wp2_with (go_at_call 39; go_must ((with_reducible refine HNm.out.mono ?_)); rintro e W3 ⟨rfl, rfl⟩)
          go_meet
          case rel =>
            obtain ⟨c1, c2, c3, c4, c5, c6⟩ := Hrel.out
            rw [c1, c2, c3, c4, c5, c6]
            exact ⟨rfl, rfl, rfl, rfl, HK.out⟩
  case rest =>
    obtain ⟨rfl, rfl, rfl, rfl, HP⟩ := hcut
    obtain ⟨bV, hbV⟩ : ∃ b, b = nV l := ⟨_, rfl⟩
    obtain ⟨bA, hbA⟩ : ∃ b, b = nA l := ⟨_, rfl⟩
    obtain ⟨bN, hbN⟩ : ∃ b, b = nN l := ⟨_, rfl⟩
    obtain ⟨bD, hbD⟩ : ∃ b, b = nD l := ⟨_, rfl⟩
    rw [← hbV, ← hbA, ← hbN, ← hbD]
    have HbV := Lib.hid hbV
    have HbA := Lib.hid hbA
    have HbN := Lib.hid hbN
    have HbD := Lib.hid hbD
    clear hbV hbA hbN hbD
    obtain ⟨y0, hy0⟩ : ∃ y : OpV × Nat, y = (⟨cod0 l, 0, 0, 0, []⟩, at0 l) := ⟨_, rfl⟩
    have Hy0 := Lib.hid hy0
    have HP0 : Hid (PrI w wc s y0.2 y0.1 (.slice none 0 0) ∧ y0.2 ≤ s.size + 1) := by
      rw [hy0]
      refine ⟨HP.out, ?_⟩
      show at0 l ≤ s.size + 1
      have h0 := rdW_le l 0 (Nat.zero_le _)
      unfold at0
      rw [Hsz.out]
      split
      · exact (rdW_le l _ h0.1).1
      · exact h0.1
    clear hy0 HP HS Ha0 Hw0 Hle0 HA0 HZ0 HW HB0
    obtain ⟨W3, hWe⟩ : ∃ y, y = wc := ⟨_, rfl⟩
    subst hWe
    obtain ⟨y1, hy1⟩ : ∃ y : OpV × Nat, y = putV l bV y0 := ⟨_, rfl⟩
    have Hy1 := Lib.hid hy1
    obtain ⟨t0, ht0⟩ : ∃ t, t = (bV && decide (y0.2 ≤ l.length)) := ⟨_, rfl⟩
    have HT0 := Lib.hid ht0
    have HLe0 : Hid (y0.2 ≤ s.size + 1 ∧ (rdW l y0.2).2 ≤ s.size + 1 ∧ (rdW l y0.2).1.length ≤ s.size) := by
      have h := rdW_le l y0.2 (by have := HP0.out.2; have := Hsz.out; omega)
      rw [← Hsz.out] at h
      exact ⟨HP0.out.2, h.1, h.2⟩
    clear hy1 ht0
    go_upto_region 13 with fail
    go_cut [55] from 46 to 101 (fun t wx => t = .bool t0 ∧ wx = W3)
    case first =>
      cases bV
      · have hq : Hid (false = t0) := by show _ = _; rw [HT0.out]; rfl
        go_wp2_with fail
        go_meet
        case rel => exact ⟨congrArg Value.bool hq.out, rfl⟩
      · obtain ⟨c0, c1, -⟩ := cells2 HP0.out.1.rd
        obtain ⟨a, ha⟩ : ∃ a, a = y0.2 := ⟨_, rfl⟩
        rw [← ha] at c1
        by_cases hle : a ≤ s.size
        · have hd : decide (a ≤ s.size) = true := decide_eq_true hle
          have hq : Hid (true = t0) := by show _ = _; rw [HT0.out, ← ha, ← Hsz.out, hd]; rfl
          clear ha hle
          go_wp2_with fail
          go_meet
          case rel => exact ⟨congrArg Value.bool hq.out, rfl⟩
        · have hd : decide (a ≤ s.size) = false := decide_eq_false hle
          have hq : Hid (false = t0) := by show _ = _; rw [HT0.out, ← ha, ← Hsz.out, hd]; rfl
          clear ha hle
          go_wp2_with fail
          go_meet
          case rel => exact ⟨congrArg Value.bool hq.out, rfl⟩
    case rest =>
      obtain ⟨rfl, hwc⟩ := hcut
      subst hwc
      obtain ⟨W3, hWe⟩ : ∃ y, y = wc := ⟨_, rfl⟩
      subst hWe
      go_upto_if 55 with fail
      go_cut [55] from 46 to 101 (fun _ wx => Hid (PrI w wx s y1.2 y1.1 (.slice none 0 0) ∧ y1.2 ≤ s.size + 1))
      case first =>
        cases t0
        · have he : Hid (y1 = y0) := by show _ = _; rw [Hy1.out]; unfold putV; rw [← HT0.out]; rfl
          go_wp2_with fail
          go_meet
          case rel => rw [he.out]; exact HP0.out
        · have he : Hid (y1 = ({ y0.1 with vol := valR (rdW l y0.2).1 }, (rdW l y0.2).2)) := by show _ = _; rw [Hy1.out]; unfold putV; rw [← HT0.out]; rfl
          have HWd : Hid (Calls Tryz.prog 49 #[.pointer (some ⟨w.heap.size + 1, 0, none⟩)] W3 fun e w' => e = .returned (.string (strL (rdW l y0.2).1)) ∧ PrI w w' s (rdW l y0.2).2 y0.1 (.slice none 0 0)) := by
            have h1 := word_pr HP0.out.1 Hs.out HLe0.out.1
            rw [← Hl.out] at h1
            exact h1
          obtain ⟨w1, hw1⟩ : ∃ x, x = (rdW l y0.2).1 := ⟨_, rfl⟩
          obtain ⟨a1, ha1⟩ : ∃ x, x = (rdW l y0.2).2 := ⟨_, rfl⟩
          rw [← hw1, ← ha1] at HWd he
          have hwl : w1.length ≤ 100000 := by have h1 := HLe0.out; have h2 := Hs.out; rw [hw1]; omega
          have Ha1 : Hid (a1 ≤ s.size + 1) := by show _ ≤ _; rw [ha1]; exact HLe0.out.2.1
          obtain ⟨o, ho⟩ : ∃ o, o = y0.1 := ⟨_, rfl⟩
          rw [← ho] at HWd he
          have HVa : Hid (∀ W, Calls Tryz.prog 50 #[.string (strL w1)] W fun e w' => e = .returned (.int .u64 (valR w1)) ∧ W = w') := fun W => by
            have h := value_any (strL w1) (by rw [strL_size]; exact hwl) W
            rw [strL_data] at h
            exact h
          obtain ⟨v, hv⟩ : ∃ v, v = valR w1 := ⟨_, rfl⟩
          rw [← hv] at HVa he
          have Hvr : Hid (IsU64 v) := by rw [hv]; exact valR_rng w1
          clear hw1 ha1 ho hwl hv
          go_wp2_with (first
            | (go_at_call 49; go_must ((with_reducible refine HWd.out.mono ?_)); rintro e W8 ⟨rfl, h3⟩; have H3 := Lib.hid h3; obtain ⟨x0, x1, x2, x3, x4⟩ := cells5 h3.op; have xf := cells5_free h3.op 1; clear h3)
            | (go_at_call 50; go_must ((with_reducible refine (HVa.out _).mono ?_)); rintro e W9 ⟨rfl, rfl⟩))
          go_meet
          case rel =>
            rw [he.out]
            exact ⟨H3.out.set (o' := { o with vol := v }) 1 _ rfl H3.out.own ⟨H3.out.rng.1, Hvr.out, H3.out.rng.2.2.1, H3.out.rng.2.2.2.1, H3.out.rng.2.2.2.2⟩, Ha1.out⟩
      case rest =>
        have HP1 := Lib.hid hcut.out
        clear hcut
        obtain ⟨W4, hWe⟩ : ∃ y, y = wc := ⟨_, rfl⟩
        subst hWe
        obtain ⟨y2, hy2⟩ : ∃ y : OpV × Nat, y = putA l bA y1 := ⟨_, rfl⟩
        have Hy2 := Lib.hid hy2
        obtain ⟨t1, ht1⟩ : ∃ t, t = (bA && decide (y1.2 ≤ l.length)) := ⟨_, rfl⟩
        have HT1 := Lib.hid ht1
        have HLe1 : Hid (y1.2 ≤ s.size + 1 ∧ (rdW l y1.2).2 ≤ s.size + 1 ∧ (rdW l y1.2).1.length ≤ s.size) := by
          have h := rdW_le l y1.2 (by have := HP1.out.2; have := Hsz.out; omega)
          rw [← Hsz.out] at h
          exact ⟨HP1.out.2, h.1, h.2⟩
        clear hy2 ht1
        go_upto_region 15 with fail
        go_cut [69] from 46 to 101 (fun t wx => t = .bool t1 ∧ wx = W4)
        case first =>
          cases bA
          · have hq : Hid (false = t1) := by show _ = _; rw [HT1.out]; rfl
            go_wp2_with fail
            go_meet
            case rel => exact ⟨congrArg Value.bool hq.out, rfl⟩
          · obtain ⟨c0, c1, -⟩ := cells2 HP1.out.1.rd
            obtain ⟨a, ha⟩ : ∃ a, a = y1.2 := ⟨_, rfl⟩
            rw [← ha] at c1
            by_cases hle : a ≤ s.size
            · have hd : decide (a ≤ s.size) = true := decide_eq_true hle
              have hq : Hid (true = t1) := by show _ = _; rw [HT1.out, ← ha, ← Hsz.out, hd]; rfl
              clear ha hle
              go_wp2_with fail
              go_meet
              case rel => exact ⟨congrArg Value.bool hq.out, rfl⟩
            · have hd : decide (a ≤ s.size) = false := decide_eq_false hle
              have hq : Hid (false = t1) := by show _ = _; rw [HT1.out, ← ha, ← Hsz.out, hd]; rfl
              clear ha hle
              go_wp2_with fail
              go_meet
              case rel => exact ⟨congrArg Value.bool hq.out, rfl⟩
        case rest =>
          obtain ⟨rfl, hwc⟩ := hcut
          subst hwc
          obtain ⟨W4, hWe⟩ : ∃ y, y = wc := ⟨_, rfl⟩
          subst hWe
          go_upto_if 69 with fail
          go_cut [69] from 46 to 101 (fun _ wx => Hid (PrI w wx s y2.2 y2.1 (.slice none 0 0) ∧ y2.2 ≤ s.size + 1))
          case first =>
            cases t1
            · have he : Hid (y2 = y1) := by show _ = _; rw [Hy2.out]; unfold putA; rw [← HT1.out]; rfl
              go_wp2_with fail
              go_meet
              case rel => rw [he.out]; exact HP1.out
            · have he : Hid (y2 = ({ y1.1 with at_ := valR (rdW l y1.2).1 }, (rdW l y1.2).2)) := by show _ = _; rw [Hy2.out]; unfold putA; rw [← HT1.out]; rfl
              have HWd : Hid (Calls Tryz.prog 49 #[.pointer (some ⟨w.heap.size + 1, 0, none⟩)] W4 fun e w' => e = .returned (.string (strL (rdW l y1.2).1)) ∧ PrI w w' s (rdW l y1.2).2 y1.1 (.slice none 0 0)) := by
                have h1 := word_pr HP1.out.1 Hs.out HLe1.out.1
                rw [← Hl.out] at h1
                exact h1
              obtain ⟨w1, hw1⟩ : ∃ x, x = (rdW l y1.2).1 := ⟨_, rfl⟩
              obtain ⟨a1, ha1⟩ : ∃ x, x = (rdW l y1.2).2 := ⟨_, rfl⟩
              rw [← hw1, ← ha1] at HWd he
              have hwl : w1.length ≤ 100000 := by have h1 := HLe1.out; have h2 := Hs.out; rw [hw1]; omega
              have Ha1 : Hid (a1 ≤ s.size + 1) := by show _ ≤ _; rw [ha1]; exact HLe1.out.2.1
              obtain ⟨o, ho⟩ : ∃ o, o = y1.1 := ⟨_, rfl⟩
              rw [← ho] at HWd he
              have HVa : Hid (∀ W, Calls Tryz.prog 50 #[.string (strL w1)] W fun e w' => e = .returned (.int .u64 (valR w1)) ∧ W = w') := fun W => by
                have h := value_any (strL w1) (by rw [strL_size]; exact hwl) W
                rw [strL_data] at h
                exact h
              obtain ⟨v, hv⟩ : ∃ v, v = valR w1 := ⟨_, rfl⟩
              rw [← hv] at HVa he
              have Hvr : Hid (IsU64 v) := by rw [hv]; exact valR_rng w1
              clear hw1 ha1 ho hwl hv
              go_wp2_with (first
                | (go_at_call 49; go_must ((with_reducible refine HWd.out.mono ?_)); rintro e W8 ⟨rfl, h3⟩; have H3 := Lib.hid h3; obtain ⟨x0, x1, x2, x3, x4⟩ := cells5 h3.op; have xf := cells5_free h3.op 2; clear h3)
                | (go_at_call 50; go_must ((with_reducible refine (HVa.out _).mono ?_)); rintro e W9 ⟨rfl, rfl⟩))
              go_meet
              case rel =>
                rw [he.out]
                exact ⟨H3.out.set (o' := { o with at_ := v }) 2 _ rfl H3.out.own ⟨H3.out.rng.1, H3.out.rng.2.1, Hvr.out, H3.out.rng.2.2.2.1, H3.out.rng.2.2.2.2⟩, Ha1.out⟩
          case rest =>
            have HP2 := Lib.hid hcut.out
            clear hcut
            obtain ⟨W5, hWe⟩ : ∃ y, y = wc := ⟨_, rfl⟩
            subst hWe
            obtain ⟨y3, hy3⟩ : ∃ y : OpV × Nat, y = putN l bN y2 := ⟨_, rfl⟩
            have Hy3 := Lib.hid hy3
            obtain ⟨t2, ht2⟩ : ∃ t, t = (bN && decide (y2.2 ≤ l.length)) := ⟨_, rfl⟩
            have HT2 := Lib.hid ht2
            have HLe2 : Hid (y2.2 ≤ s.size + 1 ∧ (rdW l y2.2).2 ≤ s.size + 1 ∧ (rdW l y2.2).1.length ≤ s.size) := by
              have h := rdW_le l y2.2 (by have := HP2.out.2; have := Hsz.out; omega)
              rw [← Hsz.out] at h
              exact ⟨HP2.out.2, h.1, h.2⟩
            clear hy3 ht2
            go_upto_region 17 with fail
            go_cut [83] from 46 to 101 (fun t wx => t = .bool t2 ∧ wx = W5)
            case first =>
              cases bN
              · have hq : Hid (false = t2) := by show _ = _; rw [HT2.out]; rfl
                go_wp2_with fail
                go_meet
                case rel => exact ⟨congrArg Value.bool hq.out, rfl⟩
              · obtain ⟨c0, c1, -⟩ := cells2 HP2.out.1.rd
                obtain ⟨a, ha⟩ : ∃ a, a = y2.2 := ⟨_, rfl⟩
                rw [← ha] at c1
                by_cases hle : a ≤ s.size
                · have hd : decide (a ≤ s.size) = true := decide_eq_true hle
                  have hq : Hid (true = t2) := by show _ = _; rw [HT2.out, ← ha, ← Hsz.out, hd]; rfl
                  clear ha hle
                  go_wp2_with fail
                  go_meet
                  case rel => exact ⟨congrArg Value.bool hq.out, rfl⟩
                · have hd : decide (a ≤ s.size) = false := decide_eq_false hle
                  have hq : Hid (false = t2) := by show _ = _; rw [HT2.out, ← ha, ← Hsz.out, hd]; rfl
                  clear ha hle
                  go_wp2_with fail
                  go_meet
                  case rel => exact ⟨congrArg Value.bool hq.out, rfl⟩
            case rest =>
              obtain ⟨rfl, hwc⟩ := hcut
              subst hwc
              obtain ⟨W5, hWe⟩ : ∃ y, y = wc := ⟨_, rfl⟩
              subst hWe
              go_upto_if 83 with fail
              go_cut [83] from 46 to 101 (fun _ wx => Hid (PrI w wx s y3.2 y3.1 (.slice none 0 0) ∧ y3.2 ≤ s.size + 1))
              case first =>
                cases t2
                · have he : Hid (y3 = y2) := by show _ = _; rw [Hy3.out]; unfold putN; rw [← HT2.out]; rfl
                  go_wp2_with fail
                  go_meet
                  case rel => rw [he.out]; exact HP2.out
                · have he : Hid (y3 = ({ y2.1 with n := valR (rdW l y2.2).1 }, (rdW l y2.2).2)) := by show _ = _; rw [Hy3.out]; unfold putN; rw [← HT2.out]; rfl
                  have HWd : Hid (Calls Tryz.prog 49 #[.pointer (some ⟨w.heap.size + 1, 0, none⟩)] W5 fun e w' => e = .returned (.string (strL (rdW l y2.2).1)) ∧ PrI w w' s (rdW l y2.2).2 y2.1 (.slice none 0 0)) := by
                    have h1 := word_pr HP2.out.1 Hs.out HLe2.out.1
                    rw [← Hl.out] at h1
                    exact h1
                  obtain ⟨w1, hw1⟩ : ∃ x, x = (rdW l y2.2).1 := ⟨_, rfl⟩
                  obtain ⟨a1, ha1⟩ : ∃ x, x = (rdW l y2.2).2 := ⟨_, rfl⟩
                  rw [← hw1, ← ha1] at HWd he
                  have hwl : w1.length ≤ 100000 := by have h1 := HLe2.out; have h2 := Hs.out; rw [hw1]; omega
                  have Ha1 : Hid (a1 ≤ s.size + 1) := by show _ ≤ _; rw [ha1]; exact HLe2.out.2.1
                  obtain ⟨o, ho⟩ : ∃ o, o = y2.1 := ⟨_, rfl⟩
                  rw [← ho] at HWd he
                  have HVa : Hid (∀ W, Calls Tryz.prog 50 #[.string (strL w1)] W fun e w' => e = .returned (.int .u64 (valR w1)) ∧ W = w') := fun W => by
                    have h := value_any (strL w1) (by rw [strL_size]; exact hwl) W
                    rw [strL_data] at h
                    exact h
                  obtain ⟨v, hv⟩ : ∃ v, v = valR w1 := ⟨_, rfl⟩
                  rw [← hv] at HVa he
                  have Hvr : Hid (IsU64 v) := by rw [hv]; exact valR_rng w1
                  clear hw1 ha1 ho hwl hv
                  go_wp2_with (first
                    | (go_at_call 49; go_must ((with_reducible refine HWd.out.mono ?_)); rintro e W8 ⟨rfl, h3⟩; have H3 := Lib.hid h3; obtain ⟨x0, x1, x2, x3, x4⟩ := cells5 h3.op; have xf := cells5_free h3.op 3; clear h3)
                    | (go_at_call 50; go_must ((with_reducible refine (HVa.out _).mono ?_)); rintro e W9 ⟨rfl, rfl⟩))
                  go_meet
                  case rel =>
                    rw [he.out]
                    exact ⟨H3.out.set (o' := { o with n := v }) 3 _ rfl H3.out.own ⟨H3.out.rng.1, H3.out.rng.2.1, H3.out.rng.2.2.1, Hvr.out, H3.out.rng.2.2.2.2⟩, Ha1.out⟩
              case rest =>
                have HP3 := Lib.hid hcut.out
                clear hcut
                obtain ⟨W6, hWe⟩ : ∃ y, y = wc := ⟨_, rfl⟩
                subst hWe
                obtain ⟨y4, hy4⟩ : ∃ y : OpV × Nat, y = putD l bD y3 := ⟨_, rfl⟩
                have Hy4 := Lib.hid hy4
                obtain ⟨t3, ht3⟩ : ∃ t, t = (bD && decide (y3.2 ≤ l.length)) := ⟨_, rfl⟩
                have HT3 := Lib.hid ht3
                have HLe3 : Hid (y3.2 ≤ s.size + 1 ∧ (rdW l y3.2).2 ≤ s.size + 1 ∧ (rdW l y3.2).1.length ≤ s.size) := by
                  have h := rdW_le l y3.2 (by have := HP3.out.2; have := Hsz.out; omega)
                  rw [← Hsz.out] at h
                  exact ⟨HP3.out.2, h.1, h.2⟩
                clear hy4 ht3
                go_upto_region 19 with fail
                go_cut [97] from 46 to 101 (fun t wx => t = .bool t3 ∧ wx = W6)
                case first =>
                  cases bD
                  · have hq : Hid (false = t3) := by show _ = _; rw [HT3.out]; rfl
                    go_wp2_with fail
                    go_meet
                    case rel => exact ⟨congrArg Value.bool hq.out, rfl⟩
                  · obtain ⟨c0, c1, -⟩ := cells2 HP3.out.1.rd
                    obtain ⟨a, ha⟩ : ∃ a, a = y3.2 := ⟨_, rfl⟩
                    rw [← ha] at c1
                    by_cases hle : a ≤ s.size
                    · have hd : decide (a ≤ s.size) = true := decide_eq_true hle
                      have hq : Hid (true = t3) := by show _ = _; rw [HT3.out, ← ha, ← Hsz.out, hd]; rfl
                      clear ha hle
                      go_wp2_with fail
                      go_meet
                      case rel => exact ⟨congrArg Value.bool hq.out, rfl⟩
                    · have hd : decide (a ≤ s.size) = false := decide_eq_false hle
                      have hq : Hid (false = t3) := by show _ = _; rw [HT3.out, ← ha, ← Hsz.out, hd]; rfl
                      clear ha hle
                      go_wp2_with fail
                      go_meet
                      case rel => exact ⟨congrArg Value.bool hq.out, rfl⟩
                case rest =>
                  obtain ⟨rfl, hwc⟩ := hcut
                  subst hwc
                  obtain ⟨W6, hWe⟩ : ∃ y, y = wc := ⟨_, rfl⟩
                  subst hWe
                  go_upto_if 97 with fail
                  go_cut [97] from 46 to 101 (fun _ wx => ∃ (A : Option Addr) (n c : Nat), Hid (PrI w wx s y4.2 y4.1 (.slice A n c)))
                  case first =>
                    cases t3
                    · have he : Hid (y4 = y3) := by show _ = _; rw [Hy4.out]; unfold putD; rw [← HT3.out]; rfl
                      go_wp2_with fail
                      go_meet
                      case rel => rw [he.out]; exact ⟨none, 0, 0, HP3.out.1⟩
                    · have he : Hid (y4 = ({ y3.1 with data := rbytes (rdW l y3.2).1 }, (rdW l y3.2).2)) := by show _ = _; rw [Hy4.out]; unfold putD; rw [← HT3.out]; rfl
                      have HWd : Hid (Calls Tryz.prog 49 #[.pointer (some ⟨w.heap.size + 1, 0, none⟩)] W6 fun e w' => e = .returned (.string (strL (rdW l y3.2).1)) ∧ PrI w w' s (rdW l y3.2).2 y3.1 (.slice none 0 0)) := by
                        have h1 := word_pr HP3.out.1 Hs.out HLe3.out.1
                        rw [← Hl.out] at h1
                        exact h1
                      obtain ⟨w1, hw1⟩ : ∃ x, x = (rdW l y3.2).1 := ⟨_, rfl⟩
                      obtain ⟨a1, ha1⟩ : ∃ x, x = (rdW l y3.2).2 := ⟨_, rfl⟩
                      rw [← hw1, ← ha1] at HWd he
                      have hwl : w1.length ≤ 100000 := by have h1 := HLe3.out; have h2 := Hs.out; rw [hw1]; omega
                      have Ha1 : Hid (a1 ≤ s.size + 1) := by show _ ≤ _; rw [ha1]; exact HLe3.out.2.1
                      obtain ⟨o, ho⟩ : ∃ o, o = y3.1 := ⟨_, rfl⟩
                      rw [← ho] at HWd he
                      have HVa : Hid (∀ W, Calls Tryz.prog 51 #[.string (strL w1)] W fun e w' => (∃ v, e = .returned v ∧ OwnY w' W.heap.size v (rbytes w1)) ∧ Below W.heap.size W w') := fun W => by
                        have h := bytes_rd (strL w1) (by rw [strL_size]; exact hwl) W
                        rw [strL_data] at h
                        exact h
                      obtain ⟨bs, hbs⟩ : ∃ v, v = rbytes w1 := ⟨_, rfl⟩
                      rw [← hbs] at HVa he
                      have Hbb : Hid (∀ x ∈ bs, IsByte x) := by rw [hbs]; exact rbytes_byte w1
                      clear hw1 ha1 ho hwl hbs
                      go_wp2_with (first
                        | (go_at_call 49; go_must ((with_reducible refine HWd.out.mono ?_)); rintro e W8 ⟨rfl, h3⟩; have H3 := Lib.hid h3; clear h3)
                        | (go_at_call 51; go_must ((with_reducible refine (HVa.out _).mono ?_)); rintro e W9 ⟨⟨v9, rfl, o9⟩, h9⟩; obtain ⟨A9, n9, c9, rfl⟩ := o9.formN; have O9 : Hid (OwnY W9 (w.heap.size + 3) (.slice A9 n9 c9) bs) := OwnY.less o9 H3.out.size; have H4 := Lib.hid (H3.out.on h9); obtain ⟨x0, x1, x2, x3, x4⟩ := cells5 H4.out.op; have xf := cells5_free H4.out.op 4; clear h9 o9))
                      go_meet
                      case rel =>
                        rw [he.out]
                        exact ⟨A9, n9, c9, H4.out.set (o' := { o with data := bs }) 4 _ rfl O9.out ⟨H4.out.rng.1, H4.out.rng.2.1, H4.out.rng.2.2.1, H4.out.rng.2.2.2.1, Hbb.out⟩⟩
                  case rest =>
                    obtain ⟨A, n, c, HPf⟩ := hcut
                    have Hc : Hid (y4.1 = candR l) := by
                      show _ = _
                      rw [Hy4.out, Hy3.out, Hy2.out, Hy1.out, Hy0.out, HbV.out, HbA.out, HbN.out, HbD.out]
                      rfl
                    obtain ⟨o, ho⟩ : ∃ o, o = y4.1 := ⟨_, rfl⟩
                    rw [← ho] at HPf Hc
                    obtain ⟨W7, hWe⟩ : ∃ y, y = wc := ⟨_, rfl⟩
                    subst hWe
                    have Hok : Hid (OpOk W7 W7.heap.size (o, .slice A n c)) := ⟨HPf.out.own.bs HPf.out.rng.2.2.2.2, HPf.out.rng.1, HPf.out.rng.2.1, HPf.out.rng.2.2.1, HPf.out.rng.2.2.2.1⟩
                    have HT := Lib.hid (rtext_any (o, .slice A n c) W7.heap.size W7 Hok.out (Nat.le_refl _))
                    simp only [opVal] at HT
                    obtain ⟨T1, hT1⟩ : ∃ T : ByteArray, T = ⟨(textR o).1.toArray⟩ := ⟨_, rfl⟩
                    obtain ⟨E1, hE1⟩ : ∃ e, e = (textR o).2 := ⟨_, rfl⟩
                    rw [← hT1, ← hE1] at HT
                    have HTd : Hid (T1.toList = (textR o).1) := by show _ = _; rw [ByteArray.toList_eq, hT1]
                    have HE1 := Lib.hid hE1
                    have Hsl : Hid (s.toList = l) := by show _ = _; rw [ByteArray.toList_eq, Hl.out]
                    obtain ⟨x0, x1, x2, x3, x4⟩ := cells5 HPf.out.op
                    have Hz : Hid (∀ W', Below W7.heap.size W7 W' → PrI w W' s y4.2 o (.slice A n c)) := fun W' h => HPf.out.on h
                    clear ho hT1 hE1
                    have hcase : E1 ≠ 0 ∨ (E1 = 0 ∧ ¬ T1.toList = s.toList) ∨ (E1 = 0 ∧ T1.toList = s.toList) := by
                      by_cases g1 : E1 = 0
                      · by_cases g2 : T1.toList = s.toList
                        · exact .inr (.inr ⟨g1, g2⟩)
                        · exact .inr (.inl ⟨g1, g2⟩)
                      · exact .inl g1
                    rcases hcase with g1 | ⟨g1, g2⟩ | ⟨g1, g2⟩
                    · have HR : Hid (parseC l = (op0, 270)) := by
                        show _ = _
                        unfold parseC
                        rw [← Hc.out, if_neg]
                        rintro ⟨h1, h2⟩
                        exact g1 (by rw [HE1.out]; unfold textR; rw [if_neg (by omega)])
                      have g1' : ¬ E1 = 0 := g1
                      clear g1
                      go_wp2_with (go_at_call 15; go_must ((with_reducible refine HT.out.mono ?_)); rintro e W2 ⟨rfl, h2⟩; have S2 := Lib.hid (Hz.out _ h2); obtain ⟨z0, z1, z2, z3, z4⟩ := cells5 S2.out.res; obtain ⟨q0, q1, q2, q3, q4⟩ := cells5 S2.out.op; have zf := cells5_free S2.out.res; clear h2)
                      refine bodyPost_ret (ret_cell2 rfl rfl (load_op (set5 S2.out.res))) rfl ?_
                      rw [HR.out]
                      exact ⟨⟨_, rfl, op0_ok _ _⟩, below_set5 S2.out.bel (Nat.le_refl _)⟩
                    · subst g1
                      have HR : Hid (parseC l = (op0, 270)) := by
                        show _ = _
                        unfold parseC
                        rw [← Hc.out, if_neg]
                        rintro ⟨h1, h2⟩
                        refine g2 ?_
                        rw [HTd.out, Hsl.out]
                        unfold textR
                        rw [if_neg (by omega)]
                        exact h2
                      have g3 : (T1.toList == s.toList) = false := beq_false_of_ne g2
                      clear g2
                      go_wp2_with (go_at_call 15; go_must ((with_reducible refine HT.out.mono ?_)); rintro e W2 ⟨rfl, h2⟩; have S2 := Lib.hid (Hz.out _ h2); obtain ⟨z0, z1, z2, z3, z4⟩ := cells5 S2.out.res; obtain ⟨q0, q1, q2, q3, q4⟩ := cells5 S2.out.op; have zf := cells5_free S2.out.res; clear h2)
                      refine bodyPost_ret (ret_cell2 rfl rfl (load_op (set5 S2.out.res))) rfl ?_
                      rw [HR.out]
                      exact ⟨⟨_, rfl, op0_ok _ _⟩, below_set5 S2.out.bel (Nat.le_refl _)⟩
                    · subst g1
                      have HR : Hid (parseC l = (o, 0)) := by
                        show _ = _
                        have h1 := HE1.out
                        have h2 := HTd.out
                        rw [g2, Hsl.out] at h2
                        unfold textR at h1 h2
                        split at h1
                        · cases h1
                        · rename_i hl
                          rw [if_neg hl] at h2
                          unfold parseC
                          rw [← Hc.out, if_pos ⟨by omega, h2.symm⟩]
                      have g3 : (T1.toList == s.toList) = true := by rw [g2]; exact beq_self_eq_true _
                      clear g2
                      go_wp2_with (go_at_call 15; go_must ((with_reducible refine HT.out.mono ?_)); rintro e W2 ⟨rfl, h2⟩; have S2 := Lib.hid (Hz.out _ h2); obtain ⟨z0, z1, z2, z3, z4⟩ := cells5 S2.out.res; obtain ⟨q0, q1, q2, q3, q4⟩ := cells5 S2.out.op; have zf := cells5_free S2.out.res; clear h2)
                      refine bodyPost_ret (ret_cell2 rfl rfl (load_op (set5 S2.out.res))) rfl ?_
                      rw [HR.out]
                      refine ⟨⟨_, rfl, ?_⟩, below_set5 S2.out.bel (Nat.le_refl _)⟩
                      have hR : w.heap.size < w.heap.size + 3 := by omega
                      have ho : OwnY (((((W2.setCell ⟨w.heap.size, 0, none⟩ (.int .u8 o.code)).setCell ⟨w.heap.size, 1, none⟩ (.int .u64 o.vol)).setCell ⟨w.heap.size, 2, none⟩ (.int .u64 o.at_)).setCell ⟨w.heap.size, 3, none⟩ (.int .u64 o.n)).setCell ⟨w.heap.size, 4, none⟩ (.slice A n c)) (w.heap.size + 3) (.slice A n c) o.data :=
                        own_set (own_set (own_set (own_set (own_set S2.out.own hR _) hR _) hR _) hR _) hR _
                      exact ⟨ho.bs S2.out.rng.2.2.2.2, S2.out.rng.1, S2.out.rng.2.1, S2.out.rng.2.2.1, S2.out.rng.2.2.2.1⟩
end Go.Proofs.YtakiinghipjopaaGreatDoor
