/-
  ops.Text: its contract.
-/
import Derived.Test.YtakiinghipjopaaGreatDoorWord
import Derived.Deep.Cut
namespace Go.Proofs.YtakiinghipjopaaGreatDoor
open Go.RowKit Go.Shelf Go.Sort

theorem idx_has (c : UInt8) : ∀ l : List UInt8, decide (0 ≤ Lib.indexByte l c) = l.contains c
  | [] => by simp [Lib.indexByte]
  | b :: r => by
    have ih := idx_has c r
    have hg := Lib.indexByte_ge r c
    rw [List.contains_cons, ← ih, Lib.indexByte]
    by_cases h : b = c
    · subst h; simp
    · have h2 : (c == b) = false := by simp [Ne.symm h]
      rw [h2, Bool.false_or]
      by_cases h3 : Lib.indexByte r c = -1
      · simp [h, h3]
      · have h4 : 0 ≤ Lib.indexByte r c := by omega
        simp [h, h3, h4]; omega
def numOf (o : OpV) (x : UInt8) : Int := if x = 118 then o.vol else if x = 97 then o.at_ else o.n
def letT (o : OpV) (L : List UInt8) (x : UInt8) : Bool := L.contains x || decide (numOf o x = 0)
def plain0 (o : OpV) (s L : List UInt8) : Bool := !s.isEmpty && (L.contains 100 || o.data.isEmpty)
def plainK (o : OpV) (s L : List UInt8) : Nat → Bool
  | 0 => plain0 o s L
  | k + 1 => plainK o s L k && letT o L (([118, 97, 110] : List UInt8).getD k 0)
theorem plain_k (o : OpV) : plainK o (wordOf o.code).1 (wordOf o.code).2 3 = plainOf o := by
  simp [plainK, plainOf, plain0, letT, numOf]
theorem word_small (code : Int) : (wordOf code).1.length ≤ 6 ∧ (wordOf code).2.length ≤ 3 ∧ ∀ x ∈ (wordOf code).2, x.toNat < 128 := by
  by_cases h : code < 1 ∨ 9 < code
  · rw [word_none h]; simp
  · have hc : code = 1 ∨ code = 2 ∨ code = 3 ∨ code = 4 ∨ code = 5 ∨ code = 6 ∨ code = 7 ∨ code = 8 ∨ code = 9 := by omega
    rcases hc with rfl | rfl | rfl | rfl | rfl | rfl | rfl | rfl | rfl <;> decide +kernel
def vanS : ByteArray := ⟨#[118, 97, 110]⟩
def vandS : ByteArray := ⟨#[118, 97, 110, 100]⟩
/-- Text, behind its words, ahead of its loop -/
def TextI (w wr : World) (cs : Array Value) : Prop := wr.heap[w.heap.size]? = some (.cells cs 25 (0, 0)) ∧ Below w.heap.size w wr
theorem TextI.on {w wr wr' : World} {cs : Array Value} (h : TextI w wr cs) (hb : Below wr.heap.size wr wr') : TextI w wr' cs :=
  ⟨(hb.block _ (Array.getElem?_eq_some_iff.1 h.1).1).trans h.1, h.2.trans (hb.mono h.2.size)⟩
set_option maxRecDepth 100000 in
set_option maxHeartbeats 2000000 in
theorem text_any (p : OpV × Value) (B : Nat) (w : World) (hp : OpOk w B p) (hB : B ≤ w.heap.size) (hE : Env w) :
    Calls Tryz.prog 14 #[opVal p] w fun e w' => e = .returned (.tuple #[.string ⟨(textR p.1).1.toArray⟩, .int .i64 (textR p.1).2]) ∧ Below w.heap.size w w' := by
  obtain ⟨⟨c, v, a, n, d⟩, dv⟩ := p
  have Hp := Lib.hid hp
  have hbs : Bs w B dv d := hp.1
  obtain ⟨Ad, cd, rfl, hcd, hmd⟩ := hbs.1.form
  have Hc : Hid (IsByte c) := hp.2.1
  have HE := Lib.hid hE
  have HBs := Lib.hid hB
  obtain ⟨dl, hdl⟩ : ∃ m, m = d.length := ⟨_, rfl⟩
  rw [← hdl] at hcd
  have Hdl := Lib.hid hdl
  simp only [opVal]
  rw [← hdl]
  have Hbs := Lib.hid hbs
  clear hp hE hB hbs hdl
  by_cases hbig : 255 < dl
  · have HR : Hid (textR ⟨c, v, a, n, d⟩ = ([], 3)) := by
      show _ = _
      unfold textR
      rw [if_pos (by have := Hdl.out; show 255 < d.length; omega)]
    have hbig' : (255 : Int) < dl := by omega
    clear hbig
    go_enter Tryz.func14, Tryz.ntmps14
    go_wp2_with fail
    go_ret2
    rw [HR.out]
    exact ⟨rfl, bel1 _ _⟩
  · have HR : Hid (textR ⟨c, v, a, n, d⟩ = (textOf ⟨c, v, a, n, d⟩, 0)) := by
      show _ = _
      unfold textR
      rw [if_neg (by have := Hdl.out; show ¬ 255 < d.length; omega)]
    have hbig' : ¬ (255 : Int) < dl := by omega
    have Hd255 : Hid (dl ≤ 255) := by show _ ≤ _; omega
    have Hl : Hid (d.length ≤ 100000) := by have := Hdl.out; have := Hd255.out; show _ ≤ _; omega
    clear hbig
    obtain ⟨W0, hW0⟩ : ∃ W0, W0 = w.alloc (.cells #[.int .u8 c, .int .u64 v, .int .u64 a, .int .u64 n, .slice Ad dl cd] 25) := ⟨_, rfl⟩
    have HT0 : Hid (TextI w W0 #[.int .u8 c, .int .u64 v, .int .u64 a, .int .u64 n, .slice Ad dl cd]) := by rw [hW0]; exact ⟨heap_alloc_new _ _, bel1 _ _⟩
    have HWd := Lib.hid (word_any c Hc.out W0 (HE.out.on' HT0.out.2))
    obtain ⟨ws, hws⟩ : ∃ x, x = (wordOf c).1 := ⟨_, rfl⟩
    obtain ⟨wl, hwl⟩ : ∃ x, x = (wordOf c).2 := ⟨_, rfl⟩
    have Hsm := Lib.hid (word_small c)
    rw [← hws, ← hwl] at HWd Hsm
    have Hpk := Lib.hid (plain_k ⟨c, v, a, n, d⟩)
    have Hws := Lib.hid hws
    have Hwl := Lib.hid hwl
    obtain ⟨r0, r1, r2, r3, r4⟩ := cells5 HT0.out.1
    have hWq := hW0.symm
    clear hws hwl hW0
    go_enter Tryz.func14, Tryz.ntmps14
    go_upto_region 4 with (go_at_call 34; refine HWd.out.mono ?_; rintro e W1 ⟨rfl, h1⟩)
    obtain ⟨sb, hsb⟩ : ∃ x : ByteArray, x = ⟨ws.toArray⟩ := ⟨_, rfl⟩
    obtain ⟨lb, hlb⟩ : ∃ x : ByteArray, x = ⟨wl.toArray⟩ := ⟨_, rfl⟩
    rw [← hsb, ← hlb]
    have HT1 := Lib.hid (HT0.out.on h1)
    have HE1 := Lib.hid ((HE.out.on' HT0.out.2).on' h1)
    obtain ⟨r0, r1, r2, r3, r4⟩ := cells5 HT1.out.1
    have Hsb := Lib.hid hsb
    have Hlb := Lib.hid hlb
    obtain ⟨b0, hb0⟩ : ∃ b, b = plain0 ⟨c, v, a, n, d⟩ ws wl := ⟨_, rfl⟩
    have Hb0 := Lib.hid hb0
    clear hWq h1 hsb hlb hb0
    go_cut [6] from 19 to 30 (fun b wx => b = .bool b0 ∧ wx = W1)
    case first =>
      have HC : Hid (Calls Tryz.prog 23 #[.string lb, .string ⟨#[100]⟩] W1 fun e w' => e = .returned (.bool (wl.contains 100)) ∧ W1 = w') := by
        have h := Tryz.strings_Contains_one lb 100 W1
        have e : lb.data.toList = wl := by rw [Hlb.out]
        rw [idx_has, e] at h
        exact h.mono fun _ _ ⟨x, y⟩ => ⟨x, y.symm⟩
      by_cases hw : ws = []
      · have hf : Hid (b0 = false) := by show _ = _; rw [Hb0.out, hw]; simp [plain0]
        have hse : sb = ⟨#[]⟩ := by rw [Hsb.out, hw]
        clear hw
        go_wp2_with fail
        go_meet
        exact ⟨by rw [hf.out], rfl⟩
      · have hse : sb.toList.isEmpty = false := by
          rw [← decide_eq_emptyBytes]
          refine decide_eq_false (fun h => hw ?_)
          have h2 : sb.data.toList = [] := by rw [h]; rfl
          rw [Hsb.out] at h2
          exact h2
        have hse2 : sb.toList ≠ [] := fun h => by rw [h] at hse; cases hse
        have hwe : ws.isEmpty = false := by cases ws with | nil => exact absurd rfl hw | cons _ _ => rfl
        obtain ⟨bc, hbc⟩ : ∃ b, b = wl.contains 100 := ⟨_, rfl⟩
        have Hf : Hid (b0 = (bc || d.isEmpty)) := by show _ = _; rw [Hb0.out, plain0, hwe, hbc]; rfl
        rw [← hbc] at HC
        clear hw hbc hwe
        cases bc
        · by_cases h0 : dl = 0
          · have hf : Hid (b0 = true) := by
              show _ = _
              rw [Hf.out]
              have : d = [] := List.eq_nil_of_length_eq_zero (by rw [← Hdl.out]; exact h0)
              rw [this]; rfl
            subst h0
            go_wp2_with (go_at_call 23; refine HC.out.mono ?_; rintro e w' ⟨rfl, rfl⟩)
            go_meet
            exact ⟨by rw [hf.out], rfl⟩
          · have hf : Hid (b0 = false) := by
              show _ = _
              rw [Hf.out]
              have : d ≠ [] := fun h => h0 (by rw [Hdl.out, h]; rfl)
              cases d with
              | nil => exact absurd rfl this
              | cons _ _ => rfl
            have h0' : ((dl : Int) == 0) = false := beq_false_of_ne (by omega)
            go_wp2_with (go_at_call 23; refine HC.out.mono ?_; rintro e w' ⟨rfl, rfl⟩)
            go_meet
            exact ⟨by rw [hf.out], rfl⟩
        · have hf : Hid (b0 = true) := by show _ = _; rw [Hf.out]; rfl
          go_wp2_with (go_at_call 23; refine HC.out.mono ?_; rintro e w' ⟨rfl, rfl⟩)
          go_meet
          exact ⟨by rw [hf.out], rfl⟩
    case rest =>
      obtain ⟨rfl, rfl⟩ := hcut
      go_wp2_with fail
      go_loopw [6] (fun b wr => ∃ k : Nat, k ≤ 3 ∧ b = .bool (plainK ⟨c, v, a, n, d⟩ ws wl k) ∧ Hid (wr.heap[wc.heap.size]? = some (.stringIter ⟨#[118, 97, 110]⟩ k) ∧ TextI w wr #[.int .u8 c, .int .u64 v, .int .u64 a, .int .u64 n, .slice Ad dl cd] ∧ Below wc.heap.size wc wr)) (fun _ wr => 3 - wr.iterPos wc.heap.size)
      case atStart => exact ⟨0, by omega, by rw [Hb0.out]; rfl, World.iter_heap _ _ _, HT1.out.on (bel1 _ _), bel1 _ _⟩
      case round =>
        obtain ⟨k, hk, rfl, HI⟩ := hrel
        clear r0 r1 r2 r3 r4
        obtain ⟨e2, e3, e4⟩ := HI.out
        by_cases hlt : k < 3
        · obtain ⟨x, hx⟩ : ∃ x : UInt8, x = ([118, 97, 110] : List UInt8).getD k 0 := ⟨_, rfl⟩
          have hxa : x = 118 ∨ x = 97 ∨ x = 110 := by
            rcases (show k = 0 ∨ k = 1 ∨ k = 2 by omega) with rfl | rfl | rfl
            · exact .inl hx
            · exact .inr (.inl hx)
            · exact .inr (.inr hx)
          have hxt : x.toNat < 128 := by rcases hxa with rfl | rfl | rfl <;> decide
          have hxg : (⟨#[118, 97, 110]⟩ : ByteArray)[k]'hlt = x := by
            rw [hx]
            rcases (show k = 0 ∨ k = 1 ∨ k = 2 by omega) with rfl | rfl | rfl <;> rfl
          have hnx : ∀ ty, (Instr.next (.pointer (some ⟨wc.heap.size, 0, none⟩)) true ty).run Tryz.prog wr = _ := fun ty => Lib.run_next_ascii_at wr wc.heap.size ⟨#[118, 97, 110]⟩ k ty e2 hlt (by rw [hxg]; exact hxt)
          rw [hxg] at hnx
          obtain ⟨W2, hW2⟩ : ∃ W2, W2 = wr.iterAt wc.heap.size ⟨#[118, 97, 110]⟩ (k + 1) := ⟨_, rfl⟩
          rw [← hW2] at hnx
          have g2 : W2.heap[wc.heap.size]? = some (.stringIter ⟨#[118, 97, 110]⟩ (k + 1)) := by rw [hW2]; exact Lib.iterAt_heap wr _ _ k (k + 1) e2
          have g4 : Below wc.heap.size wc W2 := by rw [hW2]; exact Lib.below_iterAt e4 (Nat.le_refl _) _ _
          have g3 : TextI w W2 #[.int .u8 c, .int .u64 v, .int .u64 a, .int .u64 n, .slice Ad dl cd] := HT1.out.on g4
          have Hend : Hid (W2.heap[wc.heap.size]? = some (.stringIter ⟨#[118, 97, 110]⟩ (k + 1)) ∧ TextI w W2 #[.int .u8 c, .int .u64 v, .int .u64 a, .int .u64 n, .slice Ad dl cd] ∧ Below wc.heap.size wc W2) := ⟨g2, g3, g4⟩
          have Hpos : Hid (wr.iterPos wc.heap.size = k) := iterPos_of e2
          have Hlt := Lib.hid hlt
          have hpn : plainK ⟨c, v, a, n, d⟩ ws wl (k + 1) = (plainK ⟨c, v, a, n, d⟩ ws wl k && letT ⟨c, v, a, n, d⟩ wl x) := by rw [plainK, ← hx]
          obtain ⟨r0, r1, r2, r3, r4⟩ := cells5 g3.1
          obtain ⟨u, hu⟩ : ∃ u : Int, u = numOf ⟨c, v, a, n, d⟩ x := ⟨_, rfl⟩
          have hcell : W2.cell? ⟨w.heap.size, fieldNo (x.toNat : Int), none⟩ = some (.int .u64 u) := by
            rw [hu]
            rcases hxa with rfl | rfl | rfl
            · exact r1
            · exact r2
            · exact r3
          have HC : Hid (Calls Tryz.prog 35 #[.string lb, .int .i32 x.toNat] W2 fun e w' => e = .returned (.bool (wl.contains x)) ∧ W2 = w') := by
            have h := Tryz.strings_ContainsRune_ascii lb (x.toNat : Int) W2 (by omega) (by omega)
            have e : lb.data.toList = wl := by rw [Hlb.out]
            have e5 : ((x.toNat : Int)).toNat.toUInt8 = x := by
              rw [Int.toNat_natCast]
              apply UInt8.toNat_inj.1
              rw [UInt8.toNat_ofNat']
              omega
            rw [e5, idx_has, e] at h
            exact h.mono fun _ _ ⟨x, y⟩ => ⟨x, y.symm⟩
          obtain ⟨bc, hbc⟩ : ∃ b, b = wl.contains x := ⟨_, rfl⟩
          have hlet : letT ⟨c, v, a, n, d⟩ wl x = (bc || decide (u = 0)) := by rw [letT, ← hbc, ← hu]
          rw [← hbc] at HC
          obtain ⟨pk, hpk⟩ : ∃ b, b = plainK ⟨c, v, a, n, d⟩ ws wl k := ⟨_, rfl⟩
          rw [← hpk] at hpn ⊢
          rw [hlet] at hpn
          have Hpn := Lib.hid hpn
          clear r0 r1 r2 r3 r4 e2 e3 e4 hpn hlet hbc hu hx hxa hW2 g2 g3 g4 hxt hxg hpk HI
          cases pk
          · have HF : Hid (plainK ⟨c, v, a, n, d⟩ ws wl (k + 1) = false) := by show _ = _; rw [Hpn.out]; rfl
            go_wp2_with fail
            go_roundw
            case rel => exact ⟨k + 1, Hlt.out, by rw [HF.out], Hend.out⟩
            case measure => have h1 := iterPos_of Hend.out.1; have h3 := Hpos.out; have h4 := Hlt.out; rw [h1, h3]; exact Nat.sub_succ_lt_self _ _ h4
          · cases bc
            · by_cases h0 : u = 0
              · have HF : Hid (plainK ⟨c, v, a, n, d⟩ ws wl (k + 1) = true) := by show _ = _; rw [Hpn.out, h0]; rfl
                subst h0
                go_wp2_with (first | (go_at_call 35; refine HC.out.mono ?_; rintro e w' ⟨rfl, rfl⟩) | (go_at_call 36; refine (number_any _ _ _).mono ?_; rintro e w' ⟨rfl, rfl⟩))
                go_roundw
                case rel => exact ⟨k + 1, Hlt.out, by rw [HF.out], Hend.out⟩
                case measure => have h1 := iterPos_of Hend.out.1; have h3 := Hpos.out; have h4 := Hlt.out; rw [h1, h3]; exact Nat.sub_succ_lt_self _ _ h4
              · have HF : Hid (plainK ⟨c, v, a, n, d⟩ ws wl (k + 1) = false) := by show _ = _; rw [Hpn.out, decide_eq_false h0]; rfl
                have h0' : (u == 0) = false := beq_false_of_ne h0
                go_wp2_with (first | (go_at_call 35; refine HC.out.mono ?_; rintro e w' ⟨rfl, rfl⟩) | (go_at_call 36; refine (number_any _ _ _).mono ?_; rintro e w' ⟨rfl, rfl⟩))
                go_roundw
                case rel => exact ⟨k + 1, Hlt.out, by rw [HF.out], Hend.out⟩
                case measure => have h1 := iterPos_of Hend.out.1; have h3 := Hpos.out; have h4 := Hlt.out; rw [h1, h3]; exact Nat.sub_succ_lt_self _ _ h4
            · have HF : Hid (plainK ⟨c, v, a, n, d⟩ ws wl (k + 1) = true) := by show _ = _; rw [Hpn.out]; rfl
              go_wp2_with (first | (go_at_call 35; refine HC.out.mono ?_; rintro e w' ⟨rfl, rfl⟩) | (go_at_call 36; refine (number_any _ _ _).mono ?_; rintro e w' ⟨rfl, rfl⟩))
              go_roundw
              case rel => exact ⟨k + 1, Hlt.out, by rw [HF.out], Hend.out⟩
              case measure => have h1 := iterPos_of Hend.out.1; have h3 := Hpos.out; have h4 := Hlt.out; rw [h1, h3]; exact Nat.sub_succ_lt_self _ _ h4
        · have hk' : k = 3 := by omega
          subst hk'
          have hnx : ∀ ty, (Instr.next (.pointer (some ⟨wc.heap.size, 0, none⟩)) true ty).run Tryz.prog wr = _ := fun ty => Lib.run_next_end_at wr wc.heap.size ⟨#[118, 97, 110]⟩ 3 ty e2 (by decide)
          have HT := Lib.hid e3
          have HEr := Lib.hid (HE1.out.on' e4)
          clear e2 e4 hlt hk HI
          obtain ⟨r0, r1, r2, r3, r4⟩ := cells5 e3.1
          clear e3
          have HOk : Hid (OpOk wr B (⟨c, v, a, n, d⟩, .slice Ad dl cd)) := by
            show OpOk _ _ _
            have := Hp.out.on (HT.out.2.mono HBs.out)
            rw [← Hdl.out] at this
            exact this
          have HBr : Hid (B ≤ wr.heap.size) := Nat.le_trans HBs.out HT.out.2.size
          rw [Hws.out, Hwl.out, Hpk.out]
          by_cases hp : plainOf ⟨c, v, a, n, d⟩ = true
          · have HTl := Lib.hid (told_any sb (by have := Hsm.out.1; rw [Lib.size_eq, Hsb.out]; show ws.length ≤ _; omega) (⟨c, v, a, n, d⟩, .slice Ad dl cd) B wr HOk.out HBr.out Hl.out lb (by have := Hsm.out.2.1; rw [Lib.size_eq, Hlb.out]; show wl.length ≤ _; omega) (by rw [Hlb.out]; exact Hsm.out.2.2) HEr.out)
            have Hres : Hid (toldOf sb.data.toList ⟨c, v, a, n, d⟩ lb.data.toList = textOf ⟨c, v, a, n, d⟩) := by
              show _ = _
              rw [textOf, if_pos hp, Hsb.out, Hlb.out, Hws.out, Hwl.out]
            rw [hp]
            clear hp
            go_wp2_with (go_at_call 37; go_must (refine HTl.out.mono ?_); rintro e w' ⟨rfl, h7⟩)
            go_ret2
            rw [HR.out, ← Hres.out]
            exact ⟨rfl, HT.out.2.trans (h7.mono HT.out.2.size)⟩
          · rw [Bool.eq_false_iff.2 hp]
            have Hres : Hid (textOf ⟨c, v, a, n, d⟩ = toldOf ([111, 112, 32] ++ Lib.decDigits c.toNat) ⟨c, v, a, n, d⟩ [118, 97, 110, 100]) := by
              show _ = _
              rw [textOf, if_neg hp]
            obtain ⟨ib, hib⟩ : ∃ x : ByteArray, x = ⟨(Lib.decDigits c.toNat).toArray⟩ := ⟨_, rfl⟩
            have hil : ib.size ≤ 20 := by
              rw [hib, Lib.size_eq]
              show (Lib.decDigits c.toNat).length ≤ _
              rw [Lib.decDigits_length]
              exact nDigits_le20 _ (by have := Hc.out.2; have := Hc.out.1; omega)
            have hit : (⟨(Lib.itoa c).toArray⟩ : ByteArray) = ib := by
              obtain ⟨k, rfl⟩ : ∃ k : Nat, c = k := ⟨c.toNat, by have := Hc.out.1; omega⟩
              rw [hib, Lib.itoa_nonneg, Int.toNat_natCast]
            have q1 : ∀ W', (Op.stringOp .add { data := #[111, 112, 32] } ib).run Tryz.prog W' = .ok (.string ((⟨#[111, 112, 32]⟩ : ByteArray) ++ ib)) W' := fun W' => run_string_add_sum W' _ _ (by show 3 + ib.size ≤ _; omega)
            obtain ⟨ob, hob⟩ : ∃ x, x = (⟨#[111, 112, 32]⟩ : ByteArray) ++ ib := ⟨_, rfl⟩
            have hol : ob.size ≤ 1000000 := by rw [hob, ByteArray.size_append]; show 3 + ib.size ≤ _; omega
            have hod : ob.data.toList = [111, 112, 32] ++ Lib.decDigits c.toNat := by rw [hob, hib]; simp
            rw [← hob] at q1
            have HcA : Hid (∀ d' os, Calls Tryz.prog 38 #[.int .i64 c] (grow (redrawn wr d') os) fun e w'' => e = .returned (.string ib) ∧ ∃ p : Regrown, w'' = grow (redrawn wr p.d) p.os) := fun d' os => by
              have h := itoa_any c (by have := Hc.out.1; omega) (by have := Hc.out.2; omega) (grow (redrawn wr d') os) (HEr.out.on' (below_regrown wr d' os))
              rw [hit] at h
              exact Calls.regrown_of h
            have HcB : Hid (∀ d' os, Calls Tryz.prog 37 #[.string ob, .agg #[.int .u8 c, .int .u64 v, .int .u64 a, .int .u64 n, .slice Ad dl cd], .string { data := #[118, 97, 110, 100] }] (grow (redrawn wr d') os) fun e w'' => e = .returned (.string ⟨(textOf ⟨c, v, a, n, d⟩).toArray⟩) ∧ ∃ p : Regrown, w'' = grow (redrawn wr p.d) p.os) := fun d' os => by
              have hb := below_regrown wr d' os
              have h := told_any ob hol (⟨c, v, a, n, d⟩, .slice Ad dl cd) B (grow (redrawn wr d') os) (HOk.out.on (hb.mono HBr.out)) (Nat.le_trans HBr.out hb.size) Hl.out ⟨#[118, 97, 110, 100]⟩ (by decide) (by decide) (HEr.out.on' hb)
              rw [hod] at h
              rw [Hres.out]
              exact Calls.regrown_of h
            have hcA := HcA.out
            have hcB := HcB.out
            have z0 := cell_regrown r0
            have z1 := cell_regrown r1
            have z2 := cell_regrown r2
            have z3 := cell_regrown r3
            have z4 := cell_regrown r4
            clear hp hib hil hit hob hol hod
            go_wp2_with fail
            have hcw : IntKind.i64.wrap c = c := by rw [IntKind.wrap_i64]; have := Hc.out.1; have := Hc.out.2; omega
            have hc0 : 0 ≤ c := Hc.out.1
            have hc1 : c < 256 := Hc.out.2
            clear r0 r1 r2 r3 r4
            refine wp_region_quiet_below (by kernel_rfl) (by kernel_rfl) ?_
            repeat (go_big_quiet_step (first | with_reducible exact hcA _ _ | with_reducible exact hcB _ _))
            refine wpQuiet_nil ?_
            intro _ hw'
            obtain ⟨⟨dq, osq⟩, hw''⟩ := hw'
            subst hw''
            clear hcA hcB z0 z1 z2 z3 z4
            go_wp2_with fail
            go_ret2
            rw [HR.out]
            exact ⟨rfl, HT.out.2.trans ((below_regrown wr dq osq).mono HT.out.2.size)⟩
end Go.Proofs.YtakiinghipjopaaGreatDoor
