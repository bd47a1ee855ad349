/-
  The reference of layer 27: the bytes of operations.
-/
import Derived.Test.YtakiinghipjopaaGreatDoorRefB27
import Derived.Test.YtakiinghipjopaaGreatDoorBackMath27
import Derived.Deep.RegionHeld3
namespace Go.Proofs.YtakiinghipjopaaGreatDoor
open Go.RowKit Go.Shelf

section
variable {ops : Array Oper} {w : World} {Q : Exit → Act → World → Prop} {a : Act} {rest : List Oper} {dst : Option Tmp} {os ox : Operand} {ty : TypeId} {pos : String} {after : Array Edge}
/-- append of bytes -/
theorem wl_append_b {base : Nat} {v : Value} {xs : List Int} (hown : OwnY w base v xs) {B : Nat} {vx : Value} {m : Nat} {ys : List Int} (hx : Sl w B 1 vx m (ys.map (.int .u8)))
    (hb : xs.length + m ≤ 1000000000) (hbase : base ≤ w.heap.size) (hs : a.eval os = v) (hxx : a.eval ox = vx)
    (hK : ∀ A n c w', OwnY w' base (.slice A n c) (xs ++ ys) → w.grownBy w' v.ownBlock → ((Value.slice A n c).ownBlock = v.ownBlock ∨ (Value.slice A n c).ownBlock = some w.heap.size) → wpList Tryz.prog ops Q rest (a.put dst (.slice A n c)) w') :
    wpList Tryz.prog ops Q (⟨dst, .call { callee := .builtin .append, args := #[os, ox], argTypes := #[23, 23] }, ty, pos, after, none⟩ :: rest) a w := by
  refine wpList_plain rfl fun K hKK => ?_
  obtain ⟨A, n, c, w', hr, h2, h3, h4⟩ := run_append_bs ty hown hx hb hbase
  unfold Oper.wp execOp
  simp only [resolve, invoke, builtin, Sem.run_bind, Sem.run_pure, Result.andThen_ok, List.map_toArray, List.map_cons, List.map_nil, hs, hxx, hr]
  exact hKK _ _ (hK A n c w' h2 h3 h4)
end
theorem one_sl {W : World} {x : Int} {g : Nat} (h : W.heap[g]? = some (.cells #[.int .u8 x] 5 (0, 0))) : Sl W (g + 1) 1 (.slice (some ⟨g, 0, none⟩) 1 1) 1 ([x].map (.int .u8)) :=
  sl_mk rfl (Nat.le_refl _) (by unfold maxLen; omega) ⟨Nat.lt_succ_self _, fun j u hu => by
    match j, hu with
    | 0, hu =>
      rw [cell_of_row W g 0 #[.int .u8 x] _ _ h]
      exact hu⟩
/-- the slice's own block lies outside [lo, hi) -/
def Away (v : Value) (lo hi : Nat) : Prop := ∀ g, v.ownBlock = some g → g < lo ∨ hi ≤ g
theorem Away.next {v v' : Value} {lo hi : Nat} {s : Nat} (h : Away v lo hi) (hs : hi ≤ s) (hn : v'.ownBlock = v.ownBlock ∨ v'.ownBlock = some s) : Away v' lo hi := by
  intro g hg
  rcases hn with hn | hn
  · exact h g (hn ▸ hg)
  · rw [hn] at hg
    have := Option.some.inj hg
    right; omega
theorem Away.keep {v : Value} {lo hi g : Nat} {w w' : World} {o : Obj} (h : Away v lo hi) (hg : w.grownBy w' v.ownBlock) (h1 : lo ≤ g) (h2 : g < hi) (ho : w.heap[g]? = some o) : w'.heap[g]? = some o :=
  (hg.block g (Array.getElem?_eq_some_iff.1 ho).1 (fun e => by have := h g e.symm; omega)).trans ho
theorem Away.own {v : Value} {lo hi g : Nat} {w w' : World} {bs : List Int} (h : Away v lo hi) (hg : w.grownBy w' v.ownBlock) (h1 : lo ≤ g) (h2 : g < hi) (ho : OwnB w g bs) : OwnB w' g bs :=
  ho.of_block (hg.block g ho.lt (fun e => by have := h g e.symm; omega))
theorem len_app1 (X : List Int) (o : OpV) : (X ++ [o.code]).length = X.length + 1 := by simp
theorem len_app2 (X : List Int) (o : OpV) : ((X ++ [o.code]) ++ by8 o.vol).length = X.length + 9 := by simp [by8]
theorem len_app3 (X : List Int) (o : OpV) : (((X ++ [o.code]) ++ by8 o.vol) ++ by8 o.at_).length = X.length + 17 := by simp [by8]
theorem len_app4 (X : List Int) (o : OpV) : ((((X ++ [o.code]) ++ by8 o.vol) ++ by8 o.at_) ++ by8 o.n).length = X.length + 25 := by simp [by8]
theorem by8_len (n : Int) : (by8 n).length = 8 := rfl
theorem opB_by8 (o : OpV) : opB o = ((([o.code] ++ by8 o.vol) ++ by8 o.at_) ++ by8 o.n) ++ [(o.data.length : Int)] ++ o.data := by
  rw [opB_form]
  simp [by8]
set_option maxRecDepth 100000 in
set_option maxHeartbeats 8000000 in
theorem rbytesL_any (w : World) (B : Nat) (v : Value) (ps : List (OpV × Value)) (h : OpsAt w B v ps) (hB : B ≤ w.heap.size) (hl : ps.length ≤ 10000) :
    Calls Tryz.prog 9 #[v] w fun e w' => ∃ A n c, e = .returned (.tuple #[.slice A n c, .int .i64 (bytesR (ps.map (·.1))).2]) ∧ OwnY w' w.heap.size (.slice A n c) (bytesR (ps.map (·.1))).1 ∧ Below w.heap.size w w' := by
  obtain ⟨Av, cv, rfl, -, -⟩ := h.1.form
  obtain ⟨L, hL⟩ : ∃ L, L = ps.length := ⟨_, rfl⟩
  rw [← hL]
  have H := Lib.hid h
  have HL : Hid (L = ps.length ∧ L ≤ 10000 ∧ B ≤ w.heap.size) := ⟨hL, by omega, hB⟩
  have hL1 : (L : Int) ≤ 10000 := by omega
  rw [← hL] at hl
  clear hL h hl hB
  go_enter Tryz.func9, Tryz.ntmps9
  go_wp2_with fail
  go_loopw [4, 5] (fun out i wr => ∃ (k : Nat) (A : Option Addr) (n c : Nat), k ≤ L ∧ i = .int .i64 k ∧ out = .slice A n c ∧ Hid (OwnY wr w.heap.size (.slice A n c) (bytesS ((ps.take k).map (·.1))) ∧ Below w.heap.size w wr ∧ ∀ p ∈ ps.take k, p.1.data.length ≤ 255)) (fun _ i _ => L - (intOf i).toNat)
  case atStart => exact ⟨0, none, 0, 0, Nat.zero_le _, rfl, rfl, ownY_nil _ _, Below.refl _ _, by simp⟩
  case round =>
    obtain ⟨k, A, n, c, hk, rfl, rfl, hK⟩ := hrel
    obtain ⟨ho, hb, hs⟩ := hK.out
    have O := Lib.hid ho
    have HBw := Lib.hid hb
    have HS := Lib.hid hs
    clear hK ho hb hs
    obtain ⟨wo, hwo⟩ : ∃ x, x = wr := ⟨_, rfl⟩
    subst hwo
    by_cases hlt : k < L
    · have hlt' : k < ps.length := by have := HL.out; omega
      have hkn : (k : Int) < L := by omega
      have hk0 : (0 : Int) ≤ (k : Int) := by omega
      have h := H.out
      obtain ⟨b, o, c', hv, hbB, e0, e1, e2, e3, e4⟩ := OpsAt.cells h hlt'
      rw [← HL.out.1] at hv
      cases hv
      have Hok := Lib.hid (H.out.2 _ (List.getElem_mem hlt'))
      have Hsucc := Lib.hid (bytesS_succ hlt')
      have Htk : Hid (ps.take (k + 1) = ps.take k ++ [ps[k]]) := List.take_succ_eq_append_getElem hlt'
      have Hmem : Hid (ps[k] ∈ ps) := List.getElem_mem hlt'
      have hbw : b < w.heap.size := by have := HL.out; omega
      replace e0 := (HBw.out.cell (p := ⟨b, o + k * 5, none⟩) hbw).trans e0
      replace e1 := (HBw.out.cell (p := ⟨b, o + k * 5 + 1, none⟩) hbw).trans e1
      replace e2 := (HBw.out.cell (p := ⟨b, o + k * 5 + 2, none⟩) hbw).trans e2
      replace e3 := (HBw.out.cell (p := ⟨b, o + k * 5 + 3, none⟩) hbw).trans e3
      replace e4 := (HBw.out.cell (p := ⟨b, o + k * 5 + 4, none⟩) hbw).trans e4
      obtain ⟨pk, hpk⟩ : ∃ p, p = ps[k] := ⟨_, rfl⟩
      rw [← hpk] at e0 e1 e2 e3 e4 Hok Hsucc Htk Hmem
      obtain ⟨ov, dv⟩ := pk
      simp only at e0 e1 e2 e3 e4 Hok Hsucc Htk
      have hf : Sl w B 1 dv ov.data.length (ov.data.map (.int .u8)) := Hok.out.1.1
      obtain ⟨Ad, cd, rfl, hcd, hmd⟩ := hf.form
      obtain ⟨d, hd⟩ : ∃ d, d = ov.data.length := ⟨_, rfl⟩
      rw [← hd] at e4 hcd
      have Hd := Lib.hid hd
      have Hlt := Lib.hid hlt
      clear hf h hpk hbw hbB hcd hmd hd hk hlt hlt'
      by_cases hbig : 255 < d
      · have hbig' : (255 : Int) < d := by omega
        have HR : Hid (bytesR (ps.map (·.1)) = ([], 3)) := by
          show _ = _
          unfold bytesR
          rw [if_neg]
          intro hall
          have := hall ov (List.mem_map.2 ⟨_, Hmem.out, rfl⟩)
          have := Hd.out
          omega
        go_wp2_with fail
        go_ret2
        rw [HR.out]
        exact ⟨_, _, _, rfl, ownY_nil _ _, HBw.out.trans ((bel1 _ _).mono HBw.out.size)⟩
      · have hbig' : ¬ (255 : Int) < d := by omega
        have Hd255 : Hid (d ≤ 255) := (show d ≤ 255 by omega)
        have hb1 := bel1 wo (.cells #[.int .u8 ov.code, .int .u64 ov.vol, .int .u64 ov.at_, .int .u64 ov.n, .slice Ad d cd] 25)
        clear hbig
        obtain ⟨W0, hW0⟩ : ∃ y, y = wo.alloc (.cells #[.int .u8 ov.code, .int .u64 ov.vol, .int .u64 ov.at_, .int .u64 ov.n, .slice Ad d cd] 25) := ⟨_, rfl⟩
        have R0 : Hid (W0.heap[wo.heap.size]? = some (.cells #[.int .u8 ov.code, .int .u64 ov.vol, .int .u64 ov.at_, .int .u64 ov.n, .slice Ad d cd] 25 (0, 0))) := by show _ = _; rw [hW0]; exact heap_alloc_new _ _
        have B0 : Hid (Below wo.heap.size wo W0) := by rw [hW0]; exact bel1 _ _
        have Z0 : Hid (wo.heap.size + 1 = W0.heap.size) := by show _ = _; rw [hW0]; simp
        have HU1 : Hid (IsU64 ov.vol) := Hok.out.2.2.1
        have HU2 : Hid (IsU64 ov.at_) := Hok.out.2.2.2.1
        have HU3 : Hid (IsU64 ov.n) := Hok.out.2.2.2.2
        go_upto_region 8 with fail
        rw [← hW0]
        clear hW0 hb1 e0 e1 e2 e3 e4
        obtain ⟨x0, x1, x2, x3, x4⟩ := cells5 R0.out
        go_upto_region 9 with (go_at_call 30; go_must (with_reducible refine (rbytes_any ov.vol HU1.out W0).mono ?_); rintro e W1 ⟨⟨b1, rfl⟩, o1, h1⟩)
        clear x0 x1 x2 x3 x4
        obtain ⟨g1, hg1⟩ : ∃ g, g = W0.heap.size := ⟨_, rfl⟩
        rw [← hg1] at o1 ⊢
        have G1 := Lib.hid hg1
        have R1 := Lib.hid ((h1.block _ (Array.getElem?_eq_some_iff.1 R0.out).1).trans R0.out)
        have B1 := Lib.hid (B0.out.trans (h1.mono B0.out.size))
        have Q11 := Lib.hid o1
        have Z1 : Hid (W0.heap.size ≤ W1.heap.size) := h1.size
        clear h1 o1 hg1
        obtain ⟨x0, x1, x2, x3, x4⟩ := cells5 R1.out
        go_upto_region 10 with (go_at_call 30; go_must (with_reducible refine (rbytes_any ov.at_ HU2.out W1).mono ?_); rintro e W2 ⟨⟨b2, rfl⟩, o2, h2⟩)
        clear x0 x1 x2 x3 x4
        obtain ⟨g2, hg2⟩ : ∃ g, g = W1.heap.size := ⟨_, rfl⟩
        rw [← hg2] at o2 ⊢
        have G2 := Lib.hid hg2
        have R2 := Lib.hid ((h2.block _ (Array.getElem?_eq_some_iff.1 R1.out).1).trans R1.out)
        have B2 := Lib.hid (B1.out.trans (h2.mono B1.out.size))
        have Q22 := Lib.hid o2
        have Q12 := Lib.hid (Q11.out.on h2)
        have Z2 : Hid (W1.heap.size ≤ W2.heap.size) := h2.size
        clear h2 o2 hg2
        obtain ⟨x0, x1, x2, x3, x4⟩ := cells5 R2.out
        go_upto_region 11 with (go_at_call 30; go_must (with_reducible refine (rbytes_any ov.n HU3.out W2).mono ?_); rintro e W3 ⟨⟨b3, rfl⟩, o3, h3⟩)
        clear x0 x1 x2 x3 x4
        obtain ⟨g3, hg3⟩ : ∃ g, g = W2.heap.size := ⟨_, rfl⟩
        rw [← hg3] at o3 ⊢
        have G3 := Lib.hid hg3
        have R3 := Lib.hid ((h3.block _ (Array.getElem?_eq_some_iff.1 R2.out).1).trans R2.out)
        have B3 := Lib.hid (B2.out.trans (h3.mono B2.out.size))
        have Q33 := Lib.hid o3
        have Q13 := Lib.hid (Q12.out.on h3)
        have Q23 := Lib.hid (Q22.out.on h3)
        have Z3 : Hid (W2.heap.size ≤ W3.heap.size) := h3.size
        clear h3 o3 hg3
        have L1 : Hid (wo.heap.size ≤ g1 ∧ g1 < W3.heap.size) := ⟨by have := G1.out; have := Z0.out; omega, Q13.out.lt⟩
        have L2 : Hid (wo.heap.size ≤ g2 ∧ g2 < W3.heap.size) := ⟨by have := G2.out; have := Z0.out; have := Z1.out; omega, Q23.out.lt⟩
        have L3 : Hid (wo.heap.size ≤ g3 ∧ g3 < W3.heap.size) := ⟨by have := G3.out; have := Z0.out; have := Z1.out; have := Z2.out; omega, Q33.out.lt⟩
        have LR : Hid (wo.heap.size ≤ wo.heap.size ∧ wo.heap.size < W3.heap.size) := ⟨Nat.le_refl _, (Array.getElem?_eq_some_iff.1 R3.out).1⟩
        have hbA := bel1 W3 (.cells #[.int .u8 ov.code] 5)
        have OA : Hid (OwnY (W3.alloc (.cells #[.int .u8 ov.code] 5)) w.heap.size (.slice A n c) (bytesS ((ps.take k).map (·.1)))) := O.out.on (B3.out.trans (hbA.mono B3.out.size))
        have SA : Hid (Sl (W3.alloc (.cells #[.int .u8 ov.code] 5)) (W3.heap.size + 1) 1 (.slice (some ⟨W3.heap.size, 0, none⟩) 1 1) 1 ([ov.code].map (.int .u8))) := one_sl (heap_alloc_new _ _)
        have QA1 := Lib.hid (Q13.out.on hbA)
        have QA2 := Lib.hid (Q23.out.on hbA)
        have QA3 := Lib.hid (Q33.out.on hbA)
        have RA := Lib.hid ((hbA.block _ (Array.getElem?_eq_some_iff.1 R3.out).1).trans R3.out)
        have BA : Hid (Below w.heap.size w (W3.alloc (.cells #[.int .u8 ov.code] 5))) := HBw.out.trans ((B3.out.trans (hbA.mono B3.out.size)).mono HBw.out.size)
        have NA : Hid (Away (.slice A n c) wo.heap.size W3.heap.size) := fun g hg => .inl (World.ownsRow.lt O.out g hg).2
        have ZA : Hid (W3.heap.size ≤ (W3.alloc (.cells #[.int .u8 ov.code] 5)).heap.size) := by show _ ≤ _; simp
        have Hlen : Hid ((bytesS ((ps.take k).map (·.1))).length ≤ 2810000) := by
          have h1 := bytesS_le ((ps.take k).map (·.1)) (fun o ho => by obtain ⟨p, hp, rfl⟩ := List.mem_map.1 ho; exact HS.out p hp)
          rw [List.length_map, List.length_take] at h1
          have := HL.out
          show _ ≤ _
          omega
        obtain ⟨X0, hX0⟩ : ∃ x, x = bytesS ((ps.take k).map (·.1)) := ⟨_, rfl⟩
        rw [← hX0] at OA Hlen
        have HX0 := Lib.hid hX0
        obtain ⟨x0, x1, x2, x3, x4⟩ := cells5 R3.out
        clear hbA hX0
        go_upto_region 12 with (first
          | ((with_reducible refine wl_append_b (os := .tmp 45) (ox := .tmp 48) (base := w.heap.size) (xs := X0) (ys := [ov.code]) OA.out SA.out ?_ ?_ ?_ ?_ ?_); go_must ((· have := Hlen.out; omega); (· exact BA.out.size); (· rfl); (· rfl); intro A5 n5 c5 W5 ho hg hn; have OB5 := Lib.hid ho; have NB5 := Lib.hid (NA.out.next ZA.out hn); have BB5 : Hid (Below w.heap.size w W5) := BA.out.grown hg BA.out.size (fun j hj => (World.ownsRow.lt OA.out j hj).1); have ZB5 : Hid (W3.heap.size ≤ W5.heap.size) := Nat.le_trans ZA.out hg.size; have RB5 := Lib.hid (NA.out.keep hg LR.out.1 LR.out.2 RA.out); have QB51 := Lib.hid (NA.out.own hg L1.out.1 L1.out.2 QA1.out); have QB52 := Lib.hid (NA.out.own hg L2.out.1 L2.out.2 QA2.out); have QB53 := Lib.hid (NA.out.own hg L3.out.1 L3.out.2 QA3.out); clear ho hg hn))
          | ((with_reducible refine wl_append_b (os := .tmp 49) (ox := .tmp 50) (base := w.heap.size) (xs := (X0 ++ [ov.code])) (ys := by8 ov.vol) OB5.out (QB51.out.sl (by rw [by8_len]) (by unfold maxLen; omega)) ?_ ?_ ?_ ?_ ?_); go_must ((· have h1 := Hlen.out; have h2 := len_app1 X0 ov; omega); (· exact BB5.out.size); (· rfl); (· rfl); intro A6 n6 c6 W6 ho hg hn; have OB6 := Lib.hid ho; have NB6 := Lib.hid (NB5.out.next ZB5.out hn); have BB6 : Hid (Below w.heap.size w W6) := BB5.out.grown hg BB5.out.size (fun j hj => (World.ownsRow.lt OB5.out j hj).1); have ZB6 : Hid (W3.heap.size ≤ W6.heap.size) := Nat.le_trans ZB5.out hg.size; have RB6 := Lib.hid (NB5.out.keep hg LR.out.1 LR.out.2 RB5.out); have QB61 := Lib.hid (NB5.out.own hg L1.out.1 L1.out.2 QB51.out); have QB62 := Lib.hid (NB5.out.own hg L2.out.1 L2.out.2 QB52.out); have QB63 := Lib.hid (NB5.out.own hg L3.out.1 L3.out.2 QB53.out); clear ho hg hn))
          | ((with_reducible refine wl_append_b (os := .tmp 51) (ox := .tmp 52) (base := w.heap.size) (xs := ((X0 ++ [ov.code]) ++ by8 ov.vol)) (ys := by8 ov.at_) OB6.out (QB62.out.sl (by rw [by8_len]) (by unfold maxLen; omega)) ?_ ?_ ?_ ?_ ?_); go_must ((· have h1 := Hlen.out; have h2 := len_app2 X0 ov; omega); (· exact BB6.out.size); (· rfl); (· rfl); intro A7 n7 c7 W7 ho hg hn; have OB7 := Lib.hid ho; have NB7 := Lib.hid (NB6.out.next ZB6.out hn); have BB7 : Hid (Below w.heap.size w W7) := BB6.out.grown hg BB6.out.size (fun j hj => (World.ownsRow.lt OB6.out j hj).1); have ZB7 : Hid (W3.heap.size ≤ W7.heap.size) := Nat.le_trans ZB6.out hg.size; have RB7 := Lib.hid (NB6.out.keep hg LR.out.1 LR.out.2 RB6.out); have QB71 := Lib.hid (NB6.out.own hg L1.out.1 L1.out.2 QB61.out); have QB72 := Lib.hid (NB6.out.own hg L2.out.1 L2.out.2 QB62.out); have QB73 := Lib.hid (NB6.out.own hg L3.out.1 L3.out.2 QB63.out); clear ho hg hn))
          | ((with_reducible refine wl_append_b (os := .tmp 53) (ox := .tmp 54) (base := w.heap.size) (xs := (((X0 ++ [ov.code]) ++ by8 ov.vol) ++ by8 ov.at_)) (ys := by8 ov.n) OB7.out (QB73.out.sl (by rw [by8_len]) (by unfold maxLen; omega)) ?_ ?_ ?_ ?_ ?_); go_must ((· have h1 := Hlen.out; have h2 := len_app3 X0 ov; omega); (· exact BB7.out.size); (· rfl); (· rfl); intro A8 n8 c8 W8 ho hg hn; have OB8 := Lib.hid ho; have NB8 := Lib.hid (NB7.out.next ZB7.out hn); have BB8 : Hid (Below w.heap.size w W8) := BB7.out.grown hg BB7.out.size (fun j hj => (World.ownsRow.lt OB7.out j hj).1); have ZB8 : Hid (W3.heap.size ≤ W8.heap.size) := Nat.le_trans ZB7.out hg.size; have RB8 := Lib.hid (NB7.out.keep hg LR.out.1 LR.out.2 RB7.out); have QB81 := Lib.hid (NB7.out.own hg L1.out.1 L1.out.2 QB71.out); have QB82 := Lib.hid (NB7.out.own hg L2.out.1 L2.out.2 QB72.out); have QB83 := Lib.hid (NB7.out.own hg L3.out.1 L3.out.2 QB73.out); clear ho hg hn)))
        clear x0 x1 x2 x3 x4
        obtain ⟨x0, x1, x2, x3, x4⟩ := cells5 RB8.out
        clear x0 x1 x2 x3
        have hbD := bel1 W8 (.cells #[.int .u8 d] 5)
        have OBd : Hid (OwnY (W8.alloc (.cells #[.int .u8 d] 5)).drew w.heap.size (.slice A8 n8 c8) ((((X0 ++ [ov.code]) ++ by8 ov.vol) ++ by8 ov.at_) ++ by8 ov.n)) := OB8.out.on hbD.drew
        have SBd : Hid (Sl (W8.alloc (.cells #[.int .u8 d] 5)).drew (W8.heap.size + 1) 1 (.slice (some ⟨W8.heap.size, 0, none⟩) 1 1) 1 ([(d : Int)].map (.int .u8))) := one_sl (W := (W8.alloc (.cells #[.int .u8 d] 5)).drew) (heap_alloc_new _ _)
        have RBd : Hid ((W8.alloc (.cells #[.int .u8 d] 5)).drew.heap[wo.heap.size]? = some (.cells #[.int .u8 ov.code, .int .u64 ov.vol, .int .u64 ov.at_, .int .u64 ov.n, .slice Ad d cd] 25 (0, 0))) := (hbD.block _ (Array.getElem?_eq_some_iff.1 RB8.out).1).trans RB8.out
        have BBd : Hid (Below w.heap.size w (W8.alloc (.cells #[.int .u8 d] 5)).drew) := BB8.out.trans ((hbD.mono BB8.out.size).drew)
        have ZBd : Hid (W3.heap.size ≤ (W8.alloc (.cells #[.int .u8 d] 5)).drew.heap.size) := Nat.le_trans ZB8.out hbD.size
        have HD : Hid (∀ W, Below w.heap.size w W → Sl W B 1 (.slice Ad d cd) d (ov.data.map (.int .u8))) := fun W hW => by
          have h := Hok.out.1.1.below (hW.mono HL.out.2.2)
          simp only at h
          rw [← Hd.out] at h
          exact h
        have hdw : IntKind.u8.wrap (d : Int) = (d : Int) := by have := Hd255.out; apply IntWalk.u8_in; omega
        have hdm : (d : Int) % 256 = (d : Int) := by have := Hd255.out; omega
        clear hbD
        go_region_held3 (fun w' => w'.cell? ⟨wo.heap.size, 4, none⟩ = some (.slice Ad d cd))
          (first | with_reducible exact y10 | with_reducible exact y9 | go_keep)
          (first
            | ((with_reducible refine step_append_bs (os := .tmp 56) (ox := .tmp 61) (base := w.heap.size) (xs := ((((X0 ++ [ov.code]) ++ by8 ov.vol) ++ by8 ov.at_) ++ by8 ov.n)) (ys := [(d : Int)]) OBd.out SBd.out ?_ ?_ ?_ ?_ ?_); go_must ((· have h1 := Hlen.out; have h2 := len_app4 X0 ov; omega); (· exact BBd.out.size); (· rfl); (· rfl); intro A9 n9 c9 W9 ho hg hn; have OB9 := Lib.hid ho; have NB9 := Lib.hid (NB8.out.next ZBd.out hn); have BB9 : Hid (Below w.heap.size w W9) := BBd.out.grown hg BBd.out.size (fun j hj => (World.ownsRow.lt OBd.out j hj).1); have ZB9 : Hid (W3.heap.size ≤ W9.heap.size) := Nat.le_trans ZBd.out hg.size; have RB9 := Lib.hid (NB8.out.keep hg LR.out.1 LR.out.2 RBd.out); have y9 := (cells5 RB9.out).2.2.2.2; have HD9 := Lib.hid (HD.out W9 BB9.out); clear ho hg hn))
            | ((with_reducible refine step_append_bs (os := .tmp 62) (ox := .tmp 64) (base := w.heap.size) (xs := ((((X0 ++ [ov.code]) ++ by8 ov.vol) ++ by8 ov.at_) ++ by8 ov.n) ++ [(d : Int)]) (ys := ov.data) OB9.out HD9.out ?_ ?_ ?_ ?_ ?_); go_must ((· have h1 := Hlen.out; have h2 := len_app4 X0 ov; have h3 := Hd255.out; rw [List.length_append, List.length_singleton]; omega); (· exact BB9.out.size); (· rfl); (· rfl); intro A10 n10 c10 W10 ho hg hn; have OB10 := Lib.hid ho; have BB10 : Hid (Below w.heap.size w W10) := BB9.out.grown hg BB9.out.size (fun j hj => (World.ownsRow.lt OB9.out j hj).1); have y10 := (cells5 (NB9.out.keep hg LR.out.1 LR.out.2 RB9.out)).2.2.2.2; clear ho hg hn)))
        go_wp2_with fail
        go_roundw
        case rel =>
          refine ⟨k + 1, A10, n10, c10, Hlt.out, by go_num, rfl, ?_, BB10.out, ?_⟩
          · have e : bytesS ((ps.take (k + 1)).map (·.1)) = ((((((X0 ++ [ov.code]) ++ by8 ov.vol) ++ by8 ov.at_) ++ by8 ov.n) ++ [(d : Int)]) ++ ov.data) := by
              rw [Hsucc.out, List.append_assoc, show hdrK ov 3 ++ ov.data = _ from opB_by8 ov, ← HX0.out, ← Hd.out]
              simp only [List.append_assoc]
            rw [e]
            exact OB10.out
          · rw [Htk.out]
            intro p hp
            rcases List.mem_append.1 hp with h | h
            · exact HS.out p h
            · rw [List.mem_singleton.1 h]
              have := Hd.out
              have := Hd255.out
              simp only
              omega
        case measure => have := Hlt.out; simp [intOf]; omega
    · obtain rfl : k = L := by omega
      have hkn : ¬ ((k : Int) < k) := by omega
      have HR : Hid (bytesR (ps.map (·.1)) = (bytesS ((ps.take k).map (·.1)), 0)) := by
        show _ = _
        have e : ps.take k = ps := by rw [HL.out.1]; exact List.take_length
        unfold bytesR
        rw [e, if_pos]
        intro o ho
        obtain ⟨p, hp, rfl⟩ := List.mem_map.1 ho
        exact HS.out p (by rw [e]; exact hp)
      go_wp2_with fail
      go_ret2
      rw [HR.out]
      exact ⟨_, _, _, rfl, O.out, HBw.out⟩
end Go.Proofs.YtakiinghipjopaaGreatDoor
