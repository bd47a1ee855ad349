/-
  runs: the iterator's walk.
-/
import Derived.Test.YtakiinghipjopaaGreatDoorRuns
namespace Go.Proofs.YtakiinghipjopaaGreatDoor
open Go.RowKit Go.Shelf
attribute [local go_sem] Oper.semAt_some

theorem run_at {l : List (Int × Nat)} {k : Nat} {p : Int × Nat} {r : List (Int × Nat)} (h : l.drop k = p :: r) : ∃ hk : k < l.length, l[k] = p := by
  have h1 : (l.drop k)[0]? = some p := by rw [h]; rfl
  rw [List.getElem?_drop, Nat.add_zero] at h1
  exact List.getElem?_eq_some_iff.1 h1
theorem run_next {l : List (Int × Nat)} {k : Nat} {p : Int × Nat} {r : List (Int × Nat)} (h : l.drop k = p :: r) : l.drop (k + 1) = r := by
  rw [← List.drop_drop, h]; rfl
theorem boxLen_eq {W : World} {Bx : Nat} {A : Option Addr} {L c : Nat} (h : W.cell? ⟨Bx, 0, none⟩ = some (.slice A L c)) : boxLen W Bx = L := by simp [boxLen, h]
theorem cell_drewN (w : World) (n : Nat) (p : Addr) : (w.drewN n).cell? p = w.cell? p := rfl
theorem frozen_drewN (w : World) (n : Nat) (p : Addr) : (w.drewN n).frozen? p = w.frozen? p := rfl
theorem size_drewN (w : World) (n : Nat) : (w.drewN n).heap.size = w.heap.size := rfl
theorem set_box {W : World} {Bx : Nat} {v u : Value} (h : W.cell? ⟨Bx, 0, none⟩ = some v) : (W.setCell ⟨Bx, 0, none⟩ u).cell? ⟨Bx, 0, none⟩ = some u := World.cell?_setCell_same' _ _ _ (by rw [h]; rfl)
theorem grown_box (W : World) (Bx : Nat) (u : Value) : W.grownBy (W.setCell ⟨Bx, 0, none⟩ u) (some Bx) :=
  ⟨rfl, rfl, rfl, by simp, fun k _ hne => Below.heap_setCell _ _ _ _ (fun e => hne (by rw [e]))⟩
theorem size_set (W : World) (p : Addr) (u : Value) : (W.setCell p u).heap.size = W.heap.size := by simp
theorem rest_zero {W : World} {n0 Bx m L : Nat} {A : Option Addr} {rest : List Int} (h : rest.length ≤ m) (hL : L = 0) : Rest W n0 Bx A L 0 (rest.drop m) :=
  ⟨by simp; omega, by omega, Nat.zero_le _, fun h => absurd h (by omega)⟩
theorem rest_le {W : World} {n0 Bx L c : Nat} {A : Option Addr} {rest : List Int} (h : Rest W n0 Bx A L c rest) : rest.length ≤ c ∧ L - c = 0 := ⟨by have := h.1; have := h.2.1; omega, by have := h.2.1; omega⟩
theorem drop_le {l : List Int} {N : Nat} (h : l.length ≤ N) (m : Nat) : (l.drop m).length ≤ N := by rw [List.length_drop]; omega
theorem rest_drop {W : World} {n0 Bx L c m b o : Nat} {rest : List Int} (h : Rest W n0 Bx (some ⟨b, o, none⟩) L c rest) (hm : m ≤ L) : Rest W n0 Bx (some ⟨b, o + m, none⟩) (L - m) (c - m) (rest.drop m) := by
  obtain ⟨h1, h2, h3, h4⟩ := h
  refine ⟨by simp; omega, by omega, by omega, fun hL => ?_⟩
  obtain ⟨b', o', e, hb0, hne, hc⟩ := h4 (by omega)
  cases e
  refine ⟨b, o + m, rfl, hb0, hne, fun j hj => ?_⟩
  have := hc (m + j) (by simp at hj; omega)
  rw [List.getElem_drop, Nat.add_assoc]
  exact this

set_option maxRecDepth 100000 in
set_option maxHeartbeats 2000000 in
theorem runs1_in (F : Fence) (n : Nat) (hF : F.fn 116) (hro : F.round = none) (hn : 1 ≤ n) (l n0 Bx : Nat) (bs : List Int) (hbs : bs.length ≤ 100000) (J : List (Int × Nat) → World → Prop)
    (hJ : ∀ pre A C, J pre A → A.grownBy C (some Bx) → J pre C)
    (hY : ∀ k (hk : k < (runsOf bs).length) W1, J ((runsOf bs).take k) W1 → YieldAt F (n - 1) Tryz.prog l #[.int .u8 (runsOf bs)[k].1, .int .i64 (runsOf bs)[k].2] W1 fun e W' => e = .returned (.bool true) ∧ J ((runsOf bs).take (k + 1)) W' ∧ BelowX n0 Bx W1 W')
    (W : World) (hn0 : Bx < W.heap.size) (A0 : Option Addr) (L0 c0 : Nat) (hcell : W.cell? ⟨Bx, 0, none⟩ = some (.slice A0 L0 c0)) (hfr : W.frozen? ⟨Bx, 0, none⟩ = false) (hR : Rest W n0 Bx A0 L0 c0 bs) (h0 : J [] W) :
    CallsIn F n Tryz.prog 116 #[.func (.yield l) #[] #[], .pointer (some ⟨Bx, 0, none⟩)] W fun e W' => (∃ v, e = .returned v) ∧ J (runsOf bs) W' := by
  refine callsIn_of_wp Tryz.func116 rfl hF ?_ hro
  simp only [Tryz.ntmps116, List.size_toArray, List.length_cons, List.length_nil, Nat.reduceAdd, Nat.reduceSub, Array.replicate_succ, Array.replicate_zero, List.push_toArray, List.append_toArray, List.nil_append, List.cons_append]
  gi_wp2
  gi_loopw [3] (fun _ wr => ∃ (k : Nat) (rest : List Int) (A : Option Addr) (L c : Nat), wr.cell? ⟨Bx, 0, none⟩ = some (.slice A L c) ∧ wr.frozen? ⟨Bx, 0, none⟩ = false ∧ Rest wr n0 Bx A L c rest ∧ (runsOf bs).drop k = runsOf rest ∧ J ((runsOf bs).take k) wr ∧ rest.length ≤ 100000 ∧ Bx < wr.heap.size) (fun _ wr => boxLen wr Bx)
  case atStart => exact ⟨0, bs, A0, L0, c0, hcell, hfr, hR, rfl, h0, hbs, hn0⟩
  case round =>
    clear hcell hfr hR h0
    obtain ⟨wo, hwo⟩ : ∃ x, x = wr := ⟨_, rfl⟩
    subst hwo
    obtain ⟨k, rest, A, L, c, hc, hf, hr, hd, hj, hl, hn1⟩ := hrel
    have Hr := Lib.hid hr
    have Hd := Lib.hid hd
    have Hj := Lib.hid hj
    have Hl := Lib.hid hl
    have Hn := Lib.hid hn1
    have hcell0 := hc
    clear hr hd hj hl hn1
    by_cases hL : L = 0
    · have hend : Hid (J (runsOf bs) wo) := by
        have h1 : rest = [] := List.eq_nil_of_length_eq_zero (by rw [← Hr.out.1]; exact hL)
        have h2 := Hd.out
        rw [h1] at h2
        have h3 : (runsOf bs).take k = runsOf bs := by
          have h4 := List.take_append_drop k (runsOf bs)
          rw [h2] at h4
          simpa [runsOf, runsN] using h4
        have h5 := Hj.out
        rwa [h3] at h5
      subst hL
      gi_wp2
      go_end0
      exact ⟨⟨_, rfl⟩, hend.out⟩
    · obtain ⟨b, o, rfl, hb0, hne, hcs⟩ := Hr.out.2.2.2 (by omega)
      have HLr : Hid (L = rest.length) := Hr.out.1
      have hL0 : (0 : Int) < L := by omega
      have hL1 : 0 < L := by omega
      have hcs0 := hcs 0 (by have := HLr.out; omega)
      obtain ⟨x, hx⟩ : ∃ x, x = rest[0]'(by have := HLr.out; omega) := ⟨_, rfl⟩
      rw [← hx, Nat.add_zero] at hcs0
      have Hx := Lib.hid hx
      have Hcs := Lib.hid hcs
      have hs1 : ∀ j (h : j < rest.length), j < 1 → rest[j] = rest[0]'(by omega) := by
        intro j h hj
        obtain rfl : j = 0 := by omega
        rfl
      clear hx hcs
      gi_wp2
      gi_loopw [3] (fun v wr => ∃ m d : Nat, 1 ≤ m ∧ m ≤ L ∧ v = .int .i64 m ∧ wr = wo.drewN d ∧ Hid (∀ j (h : j < rest.length), j < m → rest[j] = rest[0]'(by omega))) (fun v _ => L - (intOf v).toNat)
      case atStart => exact ⟨1, 0, Nat.le_refl _, by omega, rfl, rfl, hs1⟩
      case round =>
        obtain ⟨m, d, hm1, hm2, rfl, rfl, hs⟩ := hrel
        have HS := Lib.hid hs.out
        clear hs
        have hwm : RowKit.wrap64 ((m : Int) + 1) = (m : Int) + 1 := by have := HLr.out; have := Hl.out; unfold RowKit.wrap64; omega
        have hwm2 : IntKind.i64.wrap ((m : Int) + 1) = (m : Int) + 1 := by have := HLr.out; have := Hl.out; rw [IntKind.wrap_i64]; omega
        by_cases hmL : m < L
        · have hmi : (m : Int) < L := by omega
          have hm0 : (0 : Int) ≤ (m : Int) := by omega
          have hcm := Hcs.out m (by have := HLr.out; omega)
          by_cases heq : rest[m]'(by have := HLr.out; omega) = rest[0]'(by have := HLr.out; omega)
          · have Heq := Lib.hid heq
            rw [heq, ← Hx.out] at hcm
            clear heq
            gi_wp2
            refine wpIn_region_quiet_lit hro (by kernel_rfl) (by kernel_rfl) ?_
            repeat (gi_big_quiet_step (fail))
            refine wpQuietIn_nil ?_
            intro _ hw'
            obtain ⟨nq, hw''⟩ := hw'
            subst hw''
            rw [World.drewN_drewN]
            gi_wp2
            go_roundw
            case rel =>
              refine ⟨m + 1, d + nq, by omega, by omega, by go_num, rfl, fun j h hj => ?_⟩
              by_cases e : j = m
              · subst e; exact Heq.out
              · exact HS.out j h (by omega)
            case measure => simp [intOf]; omega
          · have Hneq := Lib.hid heq
            obtain ⟨y, hy0⟩ : ∃ y, y = rest[m]'(by have := HLr.out; omega) := ⟨_, rfl⟩
            have hyx : ¬ y = x := by rw [hy0, Hx.out]; exact heq
            have hyb : (y == x) = false := by simpa using hyx
            have hyd : decide (y = x) = false := by simpa using hyx
            rw [← hy0] at hcm
            clear heq hy0
            gi_wp2
            refine wpIn_region_quiet_lit hro (by kernel_rfl) (by kernel_rfl) ?_
            repeat (gi_big_quiet_step (fail))
            refine wpQuietIn_nil ?_
            intro _ hw'
            obtain ⟨nq, hw''⟩ := hw'
            subst hw''
            rw [World.drewN_drewN]
            have hGG : wo.grownBy (wo.drewN (d + nq)) (some Bx) := ⟨rfl, rfl, rfl, Nat.le_refl _, fun _ _ _ => rfl⟩
            have hDB : Below n0 wo (wo.drewN (d + nq)) := below_drewN (Below.refl _ _) _
            clear hcm hyx hyb hyd
            have hstep := Lib.hid (runsOf_step (rest := rest) (m := m) hm1 (by have := HLr.out; omega) (fun j h hj => HS.out j h hj) (fun _ => Hneq.out))
            obtain ⟨hk, hkx⟩ := run_at (Hd.out.trans hstep.out)
            obtain ⟨fn, tmps, assign, body, hy, hRd⟩ := hY k hk (wo.drewN (d + nq)) (hJ _ _ _ Hj.out hGG)
            simp only [hkx] at hy
            rw [← Hx.out] at hy
            gi_wp2
            refine hRd.mono ?_
            rintro e W3 ⟨rfl, hJ3, hb3⟩
            have Hc3 := ((hb3.cell (p := ⟨Bx, 0, none⟩) (.inr rfl)).trans (cell_drewN _ _ _)).trans hc
            have Hf3 := ((hb3.frozen (p := ⟨Bx, 0, none⟩) (.inr rfl)).trans (frozen_drewN _ _ _)).trans hf
            have Hr3 := Lib.hid ((Hr.out.on hDB).onX hb3)
            have HJ3 := Lib.hid hJ3
            have HB3 := Lib.hid hb3
            clear hy hRd hJ3 hb3 hcs0
            have hml : (m : Int) ≤ L := by omega
            have hmc : m ≤ c := by have := Hr.out.2.1; omega
            have hml2 : m ≤ L := by omega
            have Hdr := Lib.hid (run_next (Hd.out.trans hstep.out))
            by_cases hcm : c = m
            · subst hcm
              gi_wp2
              go_roundw
              case rel =>
                have hsz : wo.heap.size ≤ W3.heap.size := by have h := HB3.out.size; rwa [size_drewN] at h
                refine ⟨k + 1, rest.drop c, some ⟨b, o, none⟩, L - c, 0, ?_, ?_, ?_, Hdr.out, ?_, ?_, ?_⟩
                · exact set_box Hc3
                · rw [World.frozen?_setCell]; exact Hf3
                · exact rest_zero (rest_le Hr.out).1 (rest_le Hr.out).2
                · exact hJ _ _ _ HJ3.out (grown_box _ _ _)
                · exact drop_le Hl.out _
                · rw [size_set]; exact Nat.lt_of_lt_of_le Hn.out hsz
              case measure => rw [boxLen_eq (set_box Hc3), boxLen_eq hcell0]; exact Nat.sub_lt hL1 hm1
            · gi_wp2
              go_roundw
              case rel =>
                have hsz : wo.heap.size ≤ W3.heap.size := by have h := HB3.out.size; rwa [size_drewN] at h
                refine ⟨k + 1, rest.drop m, some ⟨b, o + m, none⟩, L - m, c - m, ?_, ?_, ?_, Hdr.out, ?_, ?_, ?_⟩
                · exact set_box Hc3
                · rw [World.frozen?_setCell]; exact Hf3
                · exact (rest_drop Hr3.out hml2).set _
                · exact hJ _ _ _ HJ3.out (grown_box _ _ _)
                · exact drop_le Hl.out _
                · rw [size_set]; exact Nat.lt_of_lt_of_le Hn.out hsz
              case measure => rw [boxLen_eq (set_box Hc3), boxLen_eq hcell0]; exact Nat.sub_lt hL1 hm1
        · have hmi : ¬ (m : Int) < L := by omega
          gi_wp2
          refine wpIn_region_quiet_lit hro (by kernel_rfl) (by kernel_rfl) ?_
          repeat (gi_big_quiet_step (fail))
          refine wpQuietIn_nil ?_
          intro _ hw'
          obtain ⟨nq, hw''⟩ := hw'
          subst hw''
          rw [World.drewN_drewN]
          have hGG : wo.grownBy (wo.drewN (d + nq)) (some Bx) := ⟨rfl, rfl, rfl, Nat.le_refl _, fun _ _ _ => rfl⟩
          have hDB : Below n0 wo (wo.drewN (d + nq)) := below_drewN (Below.refl _ _) _
          clear hmi
          have hstep := Lib.hid (runsOf_step (rest := rest) (m := m) hm1 (by have := HLr.out; omega) (fun j h hj => HS.out j h hj) (fun h => absurd h (by have := HLr.out; omega)))
          obtain ⟨hk, hkx⟩ := run_at (Hd.out.trans hstep.out)
          obtain ⟨fn, tmps, assign, body, hy, hRd⟩ := hY k hk (wo.drewN (d + nq)) (hJ _ _ _ Hj.out hGG)
          simp only [hkx] at hy
          rw [← Hx.out] at hy
          gi_wp2
          refine hRd.mono ?_
          rintro e W3 ⟨rfl, hJ3, hb3⟩
          have Hc3 := ((hb3.cell (p := ⟨Bx, 0, none⟩) (.inr rfl)).trans (cell_drewN _ _ _)).trans hc
          have Hf3 := ((hb3.frozen (p := ⟨Bx, 0, none⟩) (.inr rfl)).trans (frozen_drewN _ _ _)).trans hf
          have Hr3 := Lib.hid ((Hr.out.on hDB).onX hb3)
          have HJ3 := Lib.hid hJ3
          have HB3 := Lib.hid hb3
          clear hy hRd hJ3 hb3 hcs0
          have hml : (m : Int) ≤ L := by omega
          have hmc : m ≤ c := by have := Hr.out.2.1; omega
          have hml2 : m ≤ L := by omega
          have Hdr := Lib.hid (run_next (Hd.out.trans hstep.out))
          by_cases hcm : c = m
          · subst hcm
            gi_wp2
            go_roundw
            case rel =>
              have hsz : wo.heap.size ≤ W3.heap.size := by have h := HB3.out.size; rwa [size_drewN] at h
              refine ⟨k + 1, rest.drop c, some ⟨b, o, none⟩, L - c, 0, ?_, ?_, ?_, Hdr.out, ?_, ?_, ?_⟩
              · exact set_box Hc3
              · rw [World.frozen?_setCell]; exact Hf3
              · exact rest_zero (rest_le Hr.out).1 (rest_le Hr.out).2
              · exact hJ _ _ _ HJ3.out (grown_box _ _ _)
              · exact drop_le Hl.out _
              · rw [size_set]; exact Nat.lt_of_lt_of_le Hn.out hsz
            case measure => rw [boxLen_eq (set_box Hc3), boxLen_eq hcell0]; exact Nat.sub_lt hL1 hm1
          · gi_wp2
            go_roundw
            case rel =>
              have hsz : wo.heap.size ≤ W3.heap.size := by have h := HB3.out.size; rwa [size_drewN] at h
              refine ⟨k + 1, rest.drop m, some ⟨b, o + m, none⟩, L - m, c - m, ?_, ?_, ?_, Hdr.out, ?_, ?_, ?_⟩
              · exact set_box Hc3
              · rw [World.frozen?_setCell]; exact Hf3
              · exact (rest_drop Hr3.out hml2).set _
              · exact hJ _ _ _ HJ3.out (grown_box _ _ _)
              · exact drop_le Hl.out _
              · rw [size_set]; exact Nat.lt_of_lt_of_le Hn.out hsz
            case measure => rw [boxLen_eq (set_box Hc3), boxLen_eq hcell0]; exact Nat.sub_lt hL1 hm1
end Go.Proofs.YtakiinghipjopaaGreatDoor
