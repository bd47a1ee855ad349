/-
  The reference of layer 27: bytes of a text, whatever it is.
-/
import Derived.Test.YtakiinghipjopaaGreatDoorRefF27
namespace Go.Proofs.YtakiinghipjopaaGreatDoor
open Go.RowKit Go.Shelf

def headR : List UInt8 → Int × List UInt8
  | [] => (1, [])
  | c :: r => if c = 120 then (valR (r.takeWhile (· != 46)), r.dropWhile (· != 46)) else (1, c :: r)
def xR (c1 c2 : UInt8) : Int := (nib c1 * 16 + nib c2) % 256
def rbGo : Nat → List UInt8 → List Int → List Int
  | 0, _, acc => acc
  | _ + 1, [], acc => acc
  | _ + 1, [_], acc => acc
  | f + 1, c1 :: c2 :: r, acc => if acc.length < 256 then rbGo f ((headR r).2.drop 1) (acc ++ List.replicate (min (headR r).1.toNat (256 - acc.length)) (xR c1 c2)) else acc
def rbytes (l : List UInt8) : List Int := if l = [45] then [] else rbGo (l.length + 1) l []
theorem headR_rng (r : List UInt8) : 0 ≤ (headR r).1 ∧ (headR r).1 < 18446744073709551616 := by
  unfold headR
  split
  · exact ⟨by decide, by decide⟩
  · split
    · exact valR_rng _
    · exact ⟨(by decide : (0 : Int) ≤ 1), (by decide : (1 : Int) < 18446744073709551616)⟩
theorem rbGo_stop (f : Nat) (l : List UInt8) (acc : List Int) (h : l.length ≤ 1 ∨ 256 ≤ acc.length) : rbGo f l acc = acc := by
  match f, l with
  | 0, _ => rfl
  | _ + 1, [] => rfl
  | _ + 1, [_] => rfl
  | f + 1, c1 :: c2 :: r =>
    have : ¬ acc.length < 256 := by
      rcases h with h | h
      · simp at h
      · omega
    rw [rbGo, if_neg this]
theorem drop_two (l : List UInt8) (k : Nat) (h : k + 1 < l.length) : l.drop k = l[k] :: l[k + 1] :: l.drop (k + 2) := by
  rw [List.drop_eq_getElem_cons (by omega), List.drop_eq_getElem_cons h]
/-- the outer loop as it stands -/
def RbI (w wr : World) (l : List UInt8) (k : Nat) (acc : List Int) (out : Value) : Prop :=
  OwnY wr w.heap.size out acc ∧ Below w.heap.size w wr ∧ acc.length ≤ 256 ∧ ∃ f, l.length < f + k ∧ rbytes l = rbGo f (l.drop k) acc
theorem RbI.fin {w wr : World} {l : List UInt8} {k : Nat} {acc : List Int} {out : Value} (h : RbI w wr l k acc out) (hs : ¬ k + 1 < l.length ∨ ¬ acc.length < 256) : rbytes l = acc := by
  obtain ⟨_, _, _, f, _, h2⟩ := h
  rw [h2]
  refine rbGo_stop f _ acc ?_
  rcases hs with hs | hs
  · left; rw [List.length_drop]; omega
  · right; omega
theorem RbI.next {w wr wr' : World} {l : List UInt8} {k q : Nat} {acc : List Int} {out out' : Value} {N : Int} (h : RbI w wr l k acc out) (h1 : k + 1 < l.length) (h2 : acc.length < 256) (hq : headR (l.drop (k + 2)) = (N, l.drop q)) (hkq : k + 2 ≤ q)
    (ho : OwnY wr' w.heap.size out' (acc ++ List.replicate (min N.toNat (256 - acc.length)) (xR (l.getD k 0) (l.getD (k + 1) 0)))) (hB : Below w.heap.size w wr') : RbI w wr' l (q + 1) (acc ++ List.replicate (min N.toNat (256 - acc.length)) (xR (l.getD k 0) (l.getD (k + 1) 0))) out' := by
  obtain ⟨_, _, _, f, h3, h4⟩ := h
  refine ⟨ho, hB, by rw [List.length_append, List.length_replicate]; omega, ?_⟩
  match f with
  | 0 => omega
  | f + 1 =>
    refine ⟨f, by omega, ?_⟩
    rw [h4, drop_two l k h1, rbGo, if_pos h2, hq]
    simp only [List.drop_drop]
    rw [List.getD_eq_getElem?_getD, List.getD_eq_getElem?_getD, List.getElem?_eq_getElem (by omega), List.getElem?_eq_getElem h1]
    rfl
theorem head_no (l : List UInt8) (k : Nat) (h : ¬ (k < l.length ∧ l.getD k 0 = 120)) : headR (l.drop k) = (1, l.drop k) := by
  by_cases hk : k < l.length
  · rw [List.drop_eq_getElem_cons hk]
    show (if l[k] = 120 then _ else _) = _
    rw [if_neg (fun e => h ⟨hk, by rw [List.getD_eq_getElem?_getD, List.getElem?_eq_getElem hk]; exact e⟩)]
  · rw [List.drop_eq_nil_of_le (by omega)]
    rfl
theorem head_yes (l : List UInt8) (k j : Nat) (hk : k < l.length) (hx : l.getD k 0 = 120) (hj : k + 1 + j ≤ l.length) (h1 : ∀ t, t < j → l.getD (k + 1 + t) 0 ≠ 46) (h2 : k + 1 + j < l.length → l.getD (k + 1 + j) 0 = 46) :
    headR (l.drop k) = (valR ((l.drop (k + 1)).take j), l.drop (k + 1 + j)) := by
  have e0 : l[k] = 120 := by
    rw [List.getD_eq_getElem?_getD, List.getElem?_eq_getElem hk] at hx
    exact hx
  have e := tw_of (· != 46) (l.drop (k + 1)) j (by rw [List.length_drop]; omega) (fun t ht htj => by
    have h3 := h1 t htj
    rw [List.length_drop] at ht
    rw [List.getD_eq_getElem?_getD, List.getElem?_eq_getElem (by omega)] at h3
    rw [List.getElem_drop]
    exact bne_iff_ne.2 h3) (fun h => by
    rw [List.length_drop] at h
    have h3 := h2 (by omega)
    rw [List.getD_eq_getElem?_getD, List.getElem?_eq_getElem (by omega)] at h3
    rw [List.getElem_drop]
    simpa using h3)
  have e2 : (l.drop (k + 1)).dropWhile (· != 46) = (l.drop (k + 1)).drop j := by
    have h3 := List.takeWhile_append_dropWhile (p := (· != 46)) (l := l.drop (k + 1))
    rw [e] at h3
    have h4 := List.take_append_drop j (l.drop (k + 1))
    exact List.append_cancel_left (h3.trans h4.symm)
  rw [List.drop_eq_getElem_cons hk]
  show (if l[k] = 120 then _ else _) = _
  rw [if_pos e0, e, e2, List.drop_drop]
theorem getD_at (s : ByteArray) (k : Nat) (h : k < s.size) : s.data.toList.getD k 0 = s[k] := by
  rw [List.getD_eq_getElem?_getD, List.getElem?_eq_getElem (by rw [← Lib.size_eq]; exact h)]
  rfl
set_option maxRecDepth 100000 in
set_option maxHeartbeats 8000000 in
theorem bytes_rd (s : ByteArray) (hs : s.size ≤ 100000) (w : World) :
    Calls Tryz.prog 51 #[.string s] w fun e w' => (∃ v, e = .returned v ∧ OwnY w' w.heap.size v (rbytes s.data.toList)) ∧ Below w.heap.size w w' := by
  have hs1 : (s.size : Int) ≤ 100000 := by omega
  have hs0 : (0 : Int) ≤ s.size := by omega
  have Hsz := Lib.hid (Lib.size_eq s)
  by_cases hm : s.data.toList = [45]
  · have h1 : (s.toList == [45]) = true := by rw [ByteArray.toList_eq, hm]; rfl
    have HR : Hid (rbytes s.data.toList = []) := by show _ = _; unfold rbytes; rw [if_pos hm]
    clear hm
    go_enter Tryz.func51, Tryz.ntmps51
    go_wp2_with fail
    go_ret
    rw [HR.out]
    exact ⟨⟨_, rfl, ownY_nil _ _⟩, Below.refl _ _⟩
  · have h1 : (s.toList == [45]) = false := by rw [ByteArray.toList_eq]; exact beq_false_of_ne hm
    have HR : Hid (rbytes s.data.toList = rbGo (s.data.toList.length + 1) s.data.toList []) := by show _ = _; unfold rbytes; rw [if_neg hm]
    clear hm
    obtain ⟨i0, hi, hz0, hz1, hz2⟩ := info_parts infoU8
    go_enter Tryz.func51, Tryz.ntmps51
    go_wp2_with fail
    go_loopw [3, 4] (fun out i wr => ∃ (k : Nat) (acc : List Int) (A : Option Addr) (n c : Nat), i = .int .i64 k ∧ out = .slice A n c ∧ k ≤ s.size + 1 ∧ n = acc.length ∧ Hid (RbI w wr s.data.toList k acc out)) (fun _ i _ => s.size + 1 - (intOf i).toNat)
    case atStart => exact ⟨0, [], none, 0, 0, rfl, rfl, by omega, rfl, ownY_nil _ _, Below.refl _ _, by simp, s.data.toList.length + 1, by omega, by rw [List.drop_zero]; exact HR.out⟩
    case round =>
      obtain ⟨k, acc, A, n, c, rfl, rfl, hk, hn, HI⟩ := hrel
      have Hn := Lib.hid hn
      have Hk := Lib.hid hk
      have hk0 : (0 : Int) ≤ k := by omega
      have hkn : (k : Int) ≤ 100001 := by omega
      have hn256 : n ≤ 256 := by rw [hn]; exact HI.out.2.2.1
      have hw1 : RowKit.wrap64 ((k : Int) + 1) = (k : Int) + 1 := by unfold RowKit.wrap64; omega
      clear hn hk
      by_cases g1 : k + 1 < s.size
      · have g1' : (k : Int) + 1 < s.size := by omega
        by_cases g2 : n < 256
        · have g2' : (n : Int) < 256 := by omega
          have G1 := Lib.hid g1
          have G2 := Lib.hid g2
          clear g1 g2 hn256
          obtain ⟨c1, hc1⟩ : ∃ x, x = s[k] := ⟨_, rfl⟩
          obtain ⟨p, hp⟩ : ∃ p, p = k + 1 := ⟨_, rfl⟩
          have hps : p < s.size := by have := G1.out; omega
          obtain ⟨c2, hc2⟩ : ∃ x, x = s[p] := ⟨_, rfl⟩
          have hx1 := hc1.symm
          have hx2 := hc2.symm
          have Hc1 : Hid (s.data.toList.getD k 0 = c1) := (getD_at s k (by have := G1.out; omega)).trans hx1
          have Hc2 : Hid (s.data.toList.getD (k + 1) 0 = c2) := by show _ = _; rw [← hp]; exact (getD_at s p hps).trans hx2
          have hn1 := quiet_same (P := Tryz.prog) (w := wr) (nibble_any c1)
          have hn2 := quiet_same (P := Tryz.prog) (w := wr) (nibble_any c2)
          obtain ⟨x, hx⟩ : ∃ x, x = xR c1 c2 := ⟨_, rfl⟩
          have e2 : IntKind.u8.wrap (IntKind.u8.wrap (nib c1 * 16) + nib c2) = x := by
            rw [hx]
            unfold xR
            rw [IntKind.wrap_u8, IntKind.wrap_u8]
            omega
          have e3 : (nib c1 * 16 % 256 + nib c2) % 256 = x := by rw [hx]; unfold xR; omega
          have Hx := Lib.hid hx
          have hxb : 0 ≤ x ∧ x < 256 := by rw [hx]; exact ⟨Int.emod_nonneg _ (by decide), Int.emod_lt_of_pos _ (by decide)⟩
          obtain ⟨y1, hy1⟩ : ∃ y, y = nib c1 := ⟨_, rfl⟩
          obtain ⟨y2, hy2⟩ : ∃ y, y = nib c2 := ⟨_, rfl⟩
          have hr1 := nib_rng c1
          have hr2 := nib_rng c2
          rw [← hy1] at hn1 e2 e3 hr1
          rw [← hy2] at hn2 e2 e3 hr2
          obtain ⟨r10, r11⟩ := hr1
          obtain ⟨r20, r21⟩ := hr2
          have hw1' : IntKind.i64.wrap ((k : Int) + 1) = (p : Int) := by rw [IntKind.wrap_i64]; omega
          have hk1n : (p : Int) < s.size := by omega
          have hk10 : (0 : Int) ≤ (p : Int) := by omega
          have Hp := Lib.hid hp
          have hkn' : (k : Int) < s.size := by omega
          clear hc1 hc2 hx hy1 hy2 hp
          go_upto_region 6 with fail
          go_quiet ((first | (go_at_call 78; with_reducible exact hn1 _) | (go_at_call 78; with_reducible exact hn2 _)))
          rw [e3]
          have B1 : Hid (Below w.heap.size w (wr.drewN nq)) := below_drewN HI.out.2.1 nq
          have O1 : Hid (OwnY (wr.drewN nq) w.heap.size (.slice A n c) acc) := HI.out.1
          generalize wr.drewN nq = W1 at *
          clear hn1 hn2 e2 e3 hw1' hx1 hx2 r10 r11 r20 r21 hps
          obtain ⟨hx0, hx255⟩ := hxb
          obtain ⟨k2, hk2⟩ : ∃ q, q = k + 2 := ⟨_, rfl⟩
          have Hk2 := Lib.hid hk2
          have hk2i : (k : Int) + 2 = k2 := by omega
          have hw2 : RowKit.wrap64 ((k : Int) + 2) = (k2 : Int) := by unfold RowKit.wrap64; omega
          have hk20 : (0 : Int) ≤ k2 := by omega
          have hk2n : (k2 : Int) ≤ s.size := by omega
          have hk2m : (k2 : Int) ≤ 100001 := by omega
          have Hk2s : Hid (k2 ≤ s.size) := by have := G1.out; show _ ≤ _; omega
          clear hk2
          obtain ⟨bx, hbx⟩ : ∃ b, b = (decide (k2 < s.size) && (s.data.toList.getD k2 0 == 120)) := ⟨_, rfl⟩
          have Hbx := Lib.hid hbx
          clear hbx
          go_upto_region 9 with fail
          go_cut [42] from 10 to 77 (fun b wx => b = .bool bx ∧ wx = W1)
          case first =>
            by_cases g3 : k2 < s.size
            · have g3' : (k2 : Int) < s.size := by omega
              obtain ⟨c3, hc3⟩ : ∃ x, x = s[k2] := ⟨_, rfl⟩
              have hx3 := hc3.symm
              have hgd := getD_at s k2 g3
              rw [hx3] at hgd
              by_cases h120 : c3 = 120
              · have hq : ((c3.toNat : Int) == 120) = true := by rw [h120]; rfl
                have HB : Hid (true = bx) := by show _ = _; rw [Hbx.out, hgd, h120, decide_eq_true g3]; rfl
                clear hc3 hgd h120
                go_wp2_with fail
                go_meet
                case rel => exact ⟨congrArg Value.bool HB.out, rfl⟩
              · have hq : ((c3.toNat : Int) == 120) = false := beq_false_of_ne (fun h => h120 (by
                  apply UInt8.toNat_inj.1
                  have : c3.toNat = 120 := by omega
                  rw [this]; rfl))
                have HB : Hid (false = bx) := by show _ = _; rw [Hbx.out, hgd, beq_false_of_ne h120, Bool.and_false]
                clear hc3 hgd h120
                go_wp2_with fail
                go_meet
                case rel => exact ⟨congrArg Value.bool HB.out, rfl⟩
            · have g3' : ¬ (k2 : Int) < s.size := by omega
              have HB : Hid (false = bx) := by show _ = _; rw [Hbx.out, decide_eq_false g3, Bool.false_and]
              clear g3
              go_wp2_with fail
              go_meet
              case rel => exact ⟨congrArg Value.bool HB.out, rfl⟩
          case rest =>
            obtain ⟨rfl, hwc⟩ := hcut
            subst hwc
            obtain ⟨W1, hW1⟩ : ∃ y, y = wc := ⟨_, rfl⟩
            subst hW1
            go_upto_if 42 with fail
            go_cut [4, 6] from 10 to 77 (fun i m wx => ∃ (q : Nat) (N : Int), i = .int .i64 q ∧ m = .int .u64 N ∧ Hid (headR (s.data.toList.drop k2) = (N, s.data.toList.drop q) ∧ k2 ≤ q ∧ q ≤ s.size ∧ Below W1.heap.size W1 wx))
            case first =>
              cases bx
              · have HH : Hid (headR (s.data.toList.drop k2) = (1, s.data.toList.drop k2)) := head_no _ _ (fun h => by
                  have h1 := Hbx.out
                  rw [h.2, decide_eq_true (by have := Hsz.out; omega : k2 < s.size)] at h1
                  exact absurd h1 (by decide))
                go_wp2_with fail
                go_meet
                case rel => exact ⟨k2, 1, rfl, rfl, HH.out, Nat.le_refl _, Hk2s.out, Below.refl _ _⟩
              · have HX : Hid (k2 < s.size ∧ s.data.toList.getD k2 0 = 120) := by
                  have h1 := Hbx.out.symm
                  rw [Bool.and_eq_true] at h1
                  exact ⟨of_decide_eq_true h1.1, by simpa using h1.2⟩
                obtain ⟨k3, hk3⟩ : ∃ q, q = k2 + 1 := ⟨_, rfl⟩
                have Hk3 := Lib.hid hk3
                have hk3i : (k2 : Int) + 1 = k3 := by omega
                have hk30 : (0 : Int) ≤ k3 := by omega
                have hk3m : (k3 : Int) ≤ 100002 := by omega
                clear hk3
                go_upto_block 2 with fail
                go_cut [4] from 10 to 77 (fun i wx => ∃ j : Nat, i = .int .i64 (k3 + j : Nat) ∧ Hid (k3 + j ≤ s.size ∧ (∀ t, t < j → s.data.toList.getD (k3 + t) 0 ≠ 46) ∧ (k3 + j < s.size → s.data.toList.getD (k3 + j) 0 = 46)) ∧ wx = W1)
                case first =>
                  go_wp2_with fail
                  go_loopw [4] (fun i wr => ∃ q j : Nat, i = .int .i64 q ∧ Hid (q = k3 + j ∧ q ≤ s.size ∧ (∀ t, t < j → s.data.toList.getD (k3 + t) 0 ≠ 46)) ∧ wr = W1) (fun i _ => s.size + 1 - (intOf i).toNat)
                  case atStart => exact ⟨k3, 0, rfl, ⟨rfl, by have := Hk3.out; have := HX.out.1; omega, fun t ht => absurd ht (by omega)⟩, rfl⟩
                  case round =>
                    obtain ⟨q, j, rfl, HJ, hwr⟩ := hrel
                    subst hwr
                    have hq0 : (0 : Int) ≤ q := by omega
                    have hqn : (q : Int) ≤ s.size := by have := HJ.out.2.1; omega
                    by_cases g4 : q < s.size
                    · have g4' : (q : Int) < s.size := by omega
                      obtain ⟨c4, hc4⟩ : ∃ x, x = s[q] := ⟨_, rfl⟩
                      have hx4 := hc4.symm
                      have hgd := getD_at s q g4
                      rw [hx4] at hgd
                      have Hgd := Lib.hid hgd
                      have G4 := Lib.hid g4
                      clear hc4 hgd
                      by_cases h46 : c4 = 46
                      · have hq : ((c4.toNat : Int) != 46) = false := by rw [h46]; rfl
                        have H46 := Lib.hid h46
                        clear h46
                        go_wp2_with fail
                        go_meet
                        case rel => exact ⟨j, congrArg (Value.int .i64) (show (q : Int) = ((k3 + j : Nat) : Int) by have := HJ.out.1; omega), ⟨by have := HJ.out.1; have := HJ.out.2.1; omega, HJ.out.2.2, fun _ => by rw [← HJ.out.1, Hgd.out]; exact H46.out⟩, rfl⟩
                      · have hq : ((c4.toNat : Int) != 46) = true := bne_iff_ne.2 (fun h => h46 (by
                          apply UInt8.toNat_inj.1
                          have : c4.toNat = 46 := by omega
                          rw [this]; rfl))
                        have H46 := Lib.hid h46
                        clear h46
                        go_wp2_with fail
                        go_roundw
                        case rel =>
                          refine ⟨q + 1, j + 1, by go_num, ⟨by rw [HJ.out.1]; rfl, by have := G4.out; omega, fun t ht => ?_⟩, by first | rfl | trivial⟩
                          by_cases htj : t < j
                          · exact HJ.out.2.2 t htj
                          · obtain rfl : t = j := by omega
                            rw [← HJ.out.1, Hgd.out]
                            exact H46.out
                        case measure => have := G4.out; simp [intOf]; omega
                    · have g4' : ¬ (q : Int) < s.size := by omega
                      have G4 := Lib.hid g4
                      clear g4
                      go_wp2_with fail
                      go_meet
                      case rel => exact ⟨j, congrArg (Value.int .i64) (show (q : Int) = ((k3 + j : Nat) : Int) by have := HJ.out.1; omega), ⟨by have := HJ.out.1; have := HJ.out.2.1; omega, HJ.out.2.2, fun h => absurd h (by have := HJ.out.1; have := G4.out; omega)⟩, rfl⟩
                case rest =>
                  obtain ⟨j, rfl, HJ, hwc⟩ := hcut
                  obtain ⟨q, hq⟩ : ∃ q, q = k3 + j := ⟨_, rfl⟩
                  rw [← hq]
                  have hq0 : (0 : Int) ≤ q := by omega
                  have hk3q : (k3 : Int) ≤ q := by omega
                  have hqn : (q : Int) ≤ s.size := by have := HJ.out.1; omega
                  have HV : Hid (headR (s.data.toList.drop k2) = (valR (s.extract k3 q).data.toList, s.data.toList.drop q)) := by
                    show _ = _
                    have h := head_yes s.data.toList k2 j (by have := HX.out.1; have := Hsz.out; omega) HX.out.2 (by have := HJ.out.1; have := Hk3.out; have := Hsz.out; omega) (fun t ht => by have h := HJ.out.2.1 t ht; rw [Hk3.out] at h; exact h) (fun h => by
                      have h2 := HJ.out.2.2 (by have := Hk3.out; have := Hsz.out; omega)
                      rw [Hk3.out] at h2
                      exact h2)
                    rw [h, Lib.extract_data, hq, Hk3.out]
                    congr 2
                    congr 1
                    omega
                  have HVa := Lib.hid (value_any (s.extract k3 q) (by rw [ByteArray.size_extract]; omega) wc)
                  have Hqs : Hid (k2 ≤ q ∧ q ≤ s.size) := ⟨by have := Hk3.out; omega, by omega⟩
                  have hWc := hwc
                  subst hwc
                  clear hq
                  go_wp2_with (go_at_call 50; go_must (refine HVa.out.mono ?_); rintro e W3 ⟨rfl, rfl⟩)
                  go_meet
                  case rel => exact ⟨q, _, rfl, rfl, by have h := HV.out; rw [Lib.extract_data] at h; exact h, Hqs.out.1, Hqs.out.2, Below.refl _ _⟩
            case rest =>
              obtain ⟨q, N, rfl, rfl, HQ⟩ := hcut
              have HN : Hid (0 ≤ N ∧ N < 18446744073709551616) := by
                have h := headR_rng (s.data.toList.drop k2)
                rw [HQ.out.1] at h
                exact h
              have B2 : Hid (Below w.heap.size w wc) := B1.out.trans (HQ.out.2.2.2.mono B1.out.size)
              have O2 := Lib.hid (O1.out.on HQ.out.2.2.2)
              have Hnx : Hid (∀ (W : World) (out : Value) (j : Nat), j = min N.toNat (256 - acc.length) → OwnY W w.heap.size out (acc ++ List.replicate j x) → Below w.heap.size w W → RbI w W s.data.toList (q + 1) (acc ++ List.replicate j x) out) := fun W out j hj ho hb => by
                have hx : x = xR (s.data.toList.getD k 0) (s.data.toList.getD (k + 1) 0) := by rw [Hx.out, Hc1.out, Hc2.out]
                rw [hj] at ho ⊢
                rw [hx] at ho ⊢
                refine HI.out.next (by have := G1.out; have := Hsz.out; omega) (by have := G2.out; have := Hn.out; omega) ?_ ?_ ho hb
                · rw [← Hk2.out]; exact HQ.out.1
                · rw [← Hk2.out]; exact HQ.out.2.1
              have hqn : (q : Int) ≤ 100001 := by have := HQ.out.2.2.1; omega
              have hq0 : (0 : Int) ≤ q := by omega
              have hwq : RowKit.wrap64 ((q : Int) + 1) = (q : Int) + 1 := by unfold RowKit.wrap64; omega
              have Hqk : Hid (k + 2 ≤ q ∧ q ≤ s.size) := ⟨by rw [← Hk2.out]; exact HQ.out.2.1, HQ.out.2.2.1⟩
              go_upto_block 4 with fail
              go_cut [3] from 10 to 77 (fun out wx => ∃ (A : Option Addr) (n c j : Nat), out = .slice A n c ∧ Hid (n = acc.length + j ∧ j = min N.toNat (256 - acc.length) ∧ OwnY wx w.heap.size (.slice A n c) (acc ++ List.replicate j x) ∧ Below w.heap.size w wx))
              case first =>
                have HG : Hid (n ≤ 256 ∧ n = acc.length) := ⟨by have := G2.out; omega, Hn.out⟩
                clear hk2i hk20 hk2n hk2m hx0 hx255 g1' g2' hk1n hk10 hkn' hk0 hkn hw1 h1 hqn hq0 hwq
                go_wp2_with fail
                go_loopw [3, 6] (fun out m wr => ∃ (A : Option Addr) (L c j : Nat) (M : Int), out = .slice A L c ∧ m = .int .u64 M ∧ M = N - j ∧ Hid (L = acc.length + j ∧ L ≤ 256 ∧ (j : Int) ≤ N ∧ OwnY wr w.heap.size (.slice A L c) (acc ++ List.replicate j x) ∧ Below w.heap.size w wr)) (fun _ m _ => (intOf m).toNat)
                case atStart => exact ⟨A, n, c, 0, N, rfl, rfl, by simp, HG.out.2, HG.out.1, HN.out.1, by simpa using O2.out, B2.out⟩
                case round =>
                  obtain ⟨A3, L3, c3, j, M, rfl, rfl, hM, HJ⟩ := hrel
                  have hM0 : 0 ≤ M := by have := HJ.out.2.2.1; omega
                  have hM1 : M < 18446744073709551616 := by have := HN.out.2; omega
                  have hL0 : (L3 : Int) ≤ 256 := by have := HJ.out.2.1; omega
                  have HM := Lib.hid hM
                  clear hM
                  by_cases g5 : 0 < M
                  · by_cases g6 : L3 < 256
                    · have g6' : (L3 : Int) < 256 := by omega
                      have hw3 : IntKind.u64.wrap (M - 1) = M - 1 := by apply IntWalk.u64_in; omega
                      have G5 := Lib.hid g5
                      have G6 := Lib.hid g6
                      have OJ := Lib.hid HJ.out.2.2.2.1
                      have BJ := Lib.hid HJ.out.2.2.2.2
                      have hlen : (acc ++ List.replicate j x).length = L3 := by rw [List.length_append, List.length_replicate]; exact HJ.out.1.symm
                      have Hlen := Lib.hid hlen
                      clear hlen
                      go_wp2_with (at_builtin; go_must (refine wpList_append_own _ rfl _ _ 23 rfl w.heap.size 5 i0 (.int .u8 0) 1 1 Tryz.underlying23 hi hz0 hz1 hz2 rfl (by decide) _ _ _ rfl (World.ownsRow.alloc OJ.out _) ⟨wr.heap.size, 0, none⟩ 1 1 [.int .u8 x] rfl rfl (cell_one_new _ _ _) (by simp [Value.oneCell']) (by have := Hlen.out; have := G6.out; unfold maxLen; omega) (by have := Hlen.out; have := G6.out; omega) (by have := BJ.out.size; simp; omega) ?_); intro v' w1 hown' hgrow _; obtain ⟨g', cap', rfl⟩ := ownsRow_succ hown'; have HO1 := Lib.hid hown'; have HG1 := Lib.hid hgrow; clear hown' hgrow)
                      go_roundw
                      case rel =>
                        refine ⟨_, acc.length + j + 1, _, j + 1, M - 1, rfl, rfl, by have := HM.out; rw [this]; omega, ?_, ?_, ?_, ?_, ?_⟩
                        · omega
                        · have := HJ.out.1; have := G6.out; omega
                        · have := HM.out; have := G5.out; omega
                        · rw [← drop_snoc_rep]
                          show World.ownsRow _ _ _ _ _ _ _
                          have e : (acc ++ List.replicate j x).length = acc.length + j := by simp
                          have h := HO1.out
                          rw [e] at h
                          rw [List.length_append, List.map_append, e]
                          exact h
                        · exact (BJ.out.trans ((bel1 _ _).mono BJ.out.size)).grown HG1.out (by have := BJ.out.size; simp; omega) (fun g hg => (World.ownsRow.lt OJ.out g hg).1)
                      case measure => have := G5.out; show (M - 1).toNat < M.toNat; omega
                    · have g6' : ¬ (L3 : Int) < 256 := by omega
                      have HF : Hid (j = min N.toNat (256 - acc.length)) := by have := HJ.out; show _ = _; omega
                      go_wp2_with fail
                      go_meet
                      case rel => exact ⟨A3, L3, c3, j, rfl, HJ.out.1, HF.out, HJ.out.2.2.2.1, HJ.out.2.2.2.2⟩
                  · have HF : Hid (j = min N.toNat (256 - acc.length)) := by have := HJ.out; have := HM.out; show _ = _; omega
                    go_wp2_with fail
                    go_meet
                    case rel => exact ⟨A3, L3, c3, j, rfl, HJ.out.1, HF.out, HJ.out.2.2.2.1, HJ.out.2.2.2.2⟩
              case rest =>
                obtain ⟨A3, n3, c3, j, rfl, HJ⟩ := hcut
                clear hk2i hk20 hk2n hk2m hx0 hx255 g1' g2' hk1n hk10 hkn' hk0 hkn hw1 h1
                go_wp2_with fail
                go_roundw
                case rel => exact ⟨q + 1, acc ++ List.replicate j x, A3, n3, c3, by go_num, rfl, by have := Hqk.out; omega, by rw [List.length_append, List.length_replicate]; exact HJ.out.1, Hnx.out _ _ _ HJ.out.2.1 HJ.out.2.2.1 HJ.out.2.2.2⟩
                case measure => have := Hqk.out; have := G1.out; simp [intOf]; omega
        · have g2' : ¬ (n : Int) < 256 := by omega
          have HF : Hid (rbytes s.data.toList = acc) := HI.out.fin (.inr (by have := Hn.out; omega))
          clear g1 g2 hn256
          go_wp2_with fail
          go_ret
          rw [HF.out]
          exact ⟨⟨_, rfl, HI.out.1⟩, HI.out.2.1⟩
      · have g1' : ¬ (k : Int) + 1 < s.size := by omega
        have HF : Hid (rbytes s.data.toList = acc) := HI.out.fin (.inl (by have := Hsz.out; omega))
        clear g1 hn256
        go_wp2_with fail
        go_ret
        rw [HF.out]
        exact ⟨⟨_, rfl, HI.out.1⟩, HI.out.2.1⟩
end Go.Proofs.YtakiinghipjopaaGreatDoor
