/-
  The reference of layer 27: the reader's words; bytes of a text.
-/
import Derived.Test.YtakiinghipjopaaGreatDoorRefD27
import Derived.Test.YtakiinghipjopaaGreatDoorParse
import Derived.Deep.LoopGhost
namespace Go.Proofs.YtakiinghipjopaaGreatDoor
open Go.RowKit Go.Shelf

/-! ### words -/
def rdW (l : List UInt8) (at_ : Nat) : List UInt8 × Nat := if l.length < at_ then ([], at_) else ((l.drop at_).takeWhile (· != 32), at_ + ((l.drop at_).takeWhile (· != 32)).length + 1)
theorem cells2 {w : World} {g : Nat} {x0 x1 : Value} {t : TypeId} (h : w.heap[g]? = some (.cells #[x0, x1] t (0, 0))) : w.cell? ⟨g, 0, none⟩ = some x0 ∧ w.cell? ⟨g, 1, none⟩ = some x1 ∧ w.frozen? ⟨g, 1, none⟩ = false := by
  simp [World.cell?, World.frozen?, h]
theorem tw_of (p : UInt8 → Bool) : ∀ (l : List UInt8) (j : Nat), j ≤ l.length → (∀ t (h : t < l.length), t < j → p l[t] = true) → (∀ h : j < l.length, p l[j] = false) → l.takeWhile p = l.take j
  | [], j, h, _, _ => by simp at h; subst h; rfl
  | c :: l, 0, _, _, h => by
    have := h (by simp)
    simp at this
    simp [this]
  | c :: l, j + 1, hj, h1, h2 => by
    have h0 := h1 0 (by simp) (by omega)
    simp at h0
    have ih := tw_of p l j (by simpa using hj) (fun t ht htj => by have := h1 (t + 1) (by simpa using ht) (by omega); simpa using this) (fun h => by have := h2 (by simpa using h); simpa using this)
    rw [List.takeWhile_cons, h0, if_pos rfl, ih]
    rfl
theorem quiet_same {P : Program} {f : FuncId} {args : Array Value} {w : World} {v : Value} (h : ∀ W, Calls P f args W fun e w' => e = .returned v ∧ W = w') (n : Nat) : Calls P f args (w.drewN n) fun e w'' => e = .returned v ∧ ∃ m, w'' = w.drewN m :=
  (h _).mono fun _ _ ⟨he, hm⟩ => ⟨he, n, hm.symm⟩
theorem gb_drewN {w w' : World} {row : Option Nat} (h : w.grownBy w' row) (n : Nat) : w.grownBy (w'.drewN n) row := ⟨h.os, h.tape, h.output, h.size, h.block⟩
theorem gb_set {w w' : World} {g j : Nat} (h : w.grownBy w' (some g)) (u : Value) : w.grownBy (w'.setCell ⟨g, j, none⟩ u) (some g) :=
  ⟨h.os, h.tape, h.output, by simpa using h.size, fun k hk hne => by
    rw [Below.heap_setCell _ _ _ _ (fun e => hne (by rw [e]))]
    exact h.block k hk hne⟩
theorem gb_refl (w : World) (row : Option Nat) : w.grownBy w row := ⟨rfl, rfl, rfl, Nat.le_refl _, fun _ _ _ => rfl⟩
set_option maxRecDepth 100000 in
set_option maxHeartbeats 4000000 in
theorem word_rd (R : Nat) (s : ByteArray) (at_ : Nat) (w : World) (hR : w.heap[R]? = some (.cells #[.string s, .int .i64 at_] 91 (0, 0))) (hs : s.size ≤ 100000) (ha : at_ ≤ 200000) :
    Calls Tryz.prog 49 #[.pointer (some ⟨R, 0, none⟩)] w fun e w' => e = .returned (.string (strL (rdW s.data.toList at_).1)) ∧ w'.heap[R]? = some (.cells #[.string s, .int .i64 ((rdW s.data.toList at_).2 : Nat)] 91 (0, 0)) ∧ w.grownBy w' (some R) ∧ w'.heap.size = w.heap.size := by
  obtain ⟨c0, c1, cf⟩ := cells2 hR
  have hs1 : (s.size : Int) ≤ 100000 := by omega
  have ha1 : (at_ : Int) ≤ 200000 := by omega
  have ha0 : (0 : Int) ≤ (at_ : Int) := by omega
  have HR := Lib.hid hR
  have Hsz := Lib.hid (Lib.size_eq s)
  by_cases hb : s.size < at_
  · have hbd : decide (s.size < at_) = true := decide_eq_true hb
    have HW : Hid (rdW s.data.toList at_ = ([], at_)) := by show _ = _; unfold rdW; rw [if_pos (by have := Hsz.out; omega)]
    clear hR hb
    go_enter Tryz.func49, Tryz.ntmps49
    go_wp2_with fail
    go_quiet (fail)
    clear c0 c1 cf
    go_wp2_with fail
    go_ret
    rw [HW.out]
    exact ⟨rfl, HR.out, gb_drewN (gb_refl _ _) _, rfl⟩
  · have hbd : decide (s.size < at_) = false := decide_eq_false hb
    have Hb := Lib.hid hb
    clear hR hb
    go_enter Tryz.func49, Tryz.ntmps49
    go_wp2_with fail
    go_quiet (fail)
    go_upto_block 0 with fail
    clear c0 c1 cf
    go_cut [3] from 19 to 47 (fun x3 wx => x3 = .int .i64 at_ ∧ ∃ j : Nat, Hid (at_ + j ≤ s.size ∧ (∀ t, t < j → s.data.toList.getD (at_ + t) 0 ≠ 32) ∧ (at_ + j < s.size → s.data.toList.getD (at_ + j) 0 = 32) ∧ wx.heap[R]? = some (.cells #[.string s, .int .i64 (at_ + j : Nat)] 91 (0, 0)) ∧ w.grownBy wx (some R) ∧ wx.heap.size = w.heap.size))
    case first =>
      go_wp2_with fail
      go_loopg [] (s.size - at_) (fun g wr => ∃ j : Nat, g = s.size - (at_ + j) ∧ Hid (at_ + j ≤ s.size ∧ (∀ t, t < j → s.data.toList.getD (at_ + t) 0 ≠ 32) ∧ wr.heap[R]? = some (.cells #[.string s, .int .i64 (at_ + j : Nat)] 91 (0, 0)) ∧ w.grownBy wr (some R) ∧ wr.heap.size = w.heap.size))
      case atStart => exact ⟨0, rfl, by have := Hb.out; omega, fun t ht => absurd ht (by omega), HR.out, gb_drewN (gb_refl _ _) _, rfl⟩
      case round =>
        obtain ⟨j, hgk, HJ⟩ := hrel
        have Hgk := Lib.hid hgk
        clear hgk
        obtain ⟨p, hp⟩ : ∃ p, p = at_ + j := ⟨_, rfl⟩
        have HP := Lib.hid hp
        rw [← hp] at HJ
        obtain ⟨c0, c1, cf⟩ := cells2 HJ.out.2.2.1
        have hp0 : (0 : Int) ≤ (p : Int) := by omega
        have hpn : (p : Int) ≤ s.size := by have := HJ.out.1; omega
        by_cases hlt : p < s.size
        · have hd : decide (p < s.size) = true := decide_eq_true hlt
          have hlt' : (p : Int) < s.size := by omega
          obtain ⟨x, hx⟩ : ∃ x, x = s[p] := ⟨_, rfl⟩
          have hxd : s.data.toList.getD p 0 = x := by
            rw [hx, List.getD_eq_getElem?_getD, List.getElem?_eq_getElem (by have := Hsz.out; omega)]
            rfl
          have hx' := hx.symm
          have Hxd := Lib.hid hxd
          have Hlt := Lib.hid hlt
          clear hp hx hxd
          by_cases h32 : x = 32
          · have H32 := Lib.hid h32
            have hq : ((x.toNat : Int) != 32) = false := by rw [h32]; rfl
            clear h32
            go_wp2_with fail
            go_quiet (fail)
            clear c0 c1 cf
            go_wp2_with fail
            go_meet
            case rel =>
              refine ⟨rfl, j, ?_, HJ.out.2.1, fun _ => ?_, ?_, gb_drewN HJ.out.2.2.2.1 _, HJ.out.2.2.2.2⟩
              · rw [← HP.out]; exact HJ.out.1
              · rw [← HP.out, Hxd.out]; exact H32.out
              · rw [← HP.out]; exact HJ.out.2.2.1
          · have H32 := Lib.hid h32
            have hq : ((x.toNat : Int) != 32) = true := bne_iff_ne.2 (fun h => h32 (by
              apply UInt8.toNat_inj.1
              have : x.toNat = 32 := by omega
              rw [this]; rfl))
            have hw1 : RowKit.wrap64 ((p : Int) + 1) = (p : Int) + 1 := by unfold RowKit.wrap64; omega
            have HS1 : Hid (∀ n, ((wr.drewN n).setCell ⟨R, 1, none⟩ (.int .i64 ((p : Int) + 1))).heap[R]? = some (.cells #[.string s, .int .i64 ((p : Int) + 1)] 91 (0, 0))) := fun n => set_here (w := wr.drewN n) HJ.out.2.2.1 _
            have HG1 : Hid (∀ n, w.grownBy ((wr.drewN n).setCell ⟨R, 1, none⟩ (.int .i64 ((p : Int) + 1))) (some R)) := fun n => gb_set (j := 1) (gb_drewN HJ.out.2.2.2.1 n) (.int .i64 ((p : Int) + 1))
            clear h32
            go_wp2_with fail
            go_quiet (fail)
            go_wp2_with fail
            go_roundg (s.size - (p + 1))
            case measure => have := Hgk.out; have := HP.out; have := Hlt.out; omega
            case rel =>
              refine ⟨j + 1, by rw [HP.out]; rfl, ?_, fun t ht => ?_, ?_, HG1.out _, by simpa using HJ.out.2.2.2.2⟩
              · have := HP.out; have := Hlt.out; omega
              · by_cases htj : t < j
                · exact HJ.out.2.1 t htj
                · obtain rfl : t = j := by omega
                  rw [← HP.out, Hxd.out]
                  exact H32.out
              · have e : ((p : Int) + 1) = ((at_ + (j + 1) : Nat) : Int) := by have := HP.out; omega
                rw [← e]
                exact HS1.out _
        · have hd : decide (p < s.size) = false := decide_eq_false hlt
          have Hlt := Lib.hid hlt
          clear hp hlt
          go_wp2_with fail
          go_quiet (fail)
          clear c0 c1 cf
          go_wp2_with fail
          go_meet
          case rel =>
            refine ⟨rfl, j, ?_, HJ.out.2.1, fun h => absurd h (by have := Hlt.out; have := HP.out; omega), ?_, gb_drewN HJ.out.2.2.2.1 _, HJ.out.2.2.2.2⟩
            · rw [← HP.out]; exact HJ.out.1
            · rw [← HP.out]; exact HJ.out.2.2.1
    case rest =>
      obtain ⟨rfl, j, HJ⟩ := hcut
      obtain ⟨p, hp⟩ : ∃ p, p = at_ + j := ⟨_, rfl⟩
      have HP := Lib.hid hp
      rw [← hp] at HJ
      obtain ⟨c0, c1, cf⟩ := cells2 HJ.out.2.2.2.1
      have hp0 : (0 : Int) ≤ (p : Int) := by omega
      have hpn : (p : Int) ≤ s.size := by have := HJ.out.1; omega
      have hap : (at_ : Int) ≤ p := by omega
      have hw1 : RowKit.wrap64 ((p : Int) + 1) = (p : Int) + 1 := by unfold RowKit.wrap64; omega
      have HW : Hid (rdW s.data.toList at_ = ((s.data.toList.drop at_).take j, p + 1)) := by
        show _ = _
        have hle : at_ + j ≤ s.data.toList.length := by have := HJ.out.1; have := Hsz.out; omega
        have e := tw_of (· != 32) (s.data.toList.drop at_) j (by rw [List.length_drop]; omega) (fun t ht htj => by
          have h1 := HJ.out.2.1 t htj
          rw [List.length_drop] at ht
          rw [List.getD_eq_getElem?_getD, List.getElem?_eq_getElem (by omega)] at h1
          rw [List.getElem_drop]
          exact bne_iff_ne.2 h1) (fun h => by
          rw [List.length_drop] at h
          have h1 := HJ.out.2.2.1 (by rw [HP.out]; have := Hsz.out; omega)
          rw [HP.out, List.getD_eq_getElem?_getD, List.getElem?_eq_getElem (by omega)] at h1
          rw [List.getElem_drop]
          simpa using h1)
        unfold rdW
        rw [if_neg (by omega), e, List.length_take, List.length_drop, HP.out, Nat.min_eq_left (by omega)]
      have HX : Hid (s.extract at_ p = strL (rdW s.data.toList at_).1) := by
        apply Go.WideShapes.bytes_inj
        rw [strL_data, HW.out, Lib.extract_data, HP.out]
        congr 1
        omega
      have HS1 : Hid ((wc.setCell ⟨R, 1, none⟩ (.int .i64 ((p : Int) + 1))).heap[R]? = some (.cells #[.string s, .int .i64 ((p : Int) + 1)] 91 (0, 0))) := set_here HJ.out.2.2.2.1 _
      have HG1 := Lib.hid (gb_set (j := 1) HJ.out.2.2.2.2.1 (.int .i64 ((p : Int) + 1)))
      clear hp
      go_upto_region 6 with fail
      go_quiet (fail)
      go_wp2_with fail
      go_ret
      rw [← HX.out, HW.out]
      exact ⟨rfl, HS1.out, gb_drewN HG1.out _, by simpa using HJ.out.2.2.2.2.2⟩
end Go.Proofs.YtakiinghipjopaaGreatDoor
