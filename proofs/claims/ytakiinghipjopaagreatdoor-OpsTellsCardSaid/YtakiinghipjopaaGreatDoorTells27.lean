/-
  OpsTells: the law's walk.
-/
import Derived.Test.YtakiinghipjopaaGreatDoorRefL27
import Derived.Test.YtakiinghipjopaaGreatDoorRefI27
import Derived.Test.YtakiinghipjopaaGreatDoorRefE27
import Derived.Test.YtakiinghipjopaaGreatDoorSameOps27
namespace Go.Proofs.YtakiinghipjopaaGreatDoor
open Go.RowKit Go.Shelf

/-- what is asked, as a value -/
structure AskV where
  vL : Value
  qs : List (OpV × Value)
  vB : Value
  bs : List Int
  s : ByteArray
  r : RepV
  dv : Value
def askVal (x : AskV) : Value := .agg #[x.vL, x.vB, .string x.s, .int .i64 x.r.err, .int .u64 x.r.vol, x.dv, .int .i64 x.r.count]
structure AskOk (w : World) (B : Nat) (x : AskV) : Prop where
  ops : OpsAt w B x.vL x.qs
  byt : Bs w B x.vB x.bs
  dat : Bs w B x.dv x.r.data
  err : IsI64 x.r.err
  vol : IsU64 x.r.vol
  cnt : IsI64 x.r.count
theorem again_at (w : World) (B : Nat) (v : Value) (bs : List Int) (hv : Bs w B v bs) (hl : bs.length ≤ 100000) :
    Calls Tryz.prog 7 #[v] w fun e w' => (∃ c, e = .returned (.slice (some ⟨w.heap.size, 0, none⟩) bs.length c) ∧ Bs w' w'.heap.size (.slice (some ⟨w.heap.size, 0, none⟩) bs.length c) bs) ∧ Below w.heap.size w w' ∧ w.heap.size < w'.heap.size := by
  have c1 := hv.convert uBytes uByte uString
  obtain ⟨S, hS⟩ : ∃ S, S = strOfNums bs := ⟨_, rfl⟩
  rw [← hS] at c1
  have c2 := Lib.run_convert_string_bytes (P := Tryz.prog) w 9 23 5 S (u := .string) uString uBytes uByte
  obtain ⟨W1, hW1⟩ : ∃ W1, W1 = Lib.bytesWorld w 5 S := ⟨_, rfl⟩
  have hsz : S.size = bs.length := by rw [hS, strOfNums_size]
  have HB : Hid (Below w.heap.size w W1) := by rw [hW1]; exact below_bytesWorld _ _ _
  have HL : Hid (w.heap.size < W1.heap.size) := by show _ < _; rw [hW1, Lib.bytesWorld_size]; exact Nat.lt_succ_self _
  obtain ⟨q, hq⟩ : ∃ q, q = grownCap w S.size 0 5 := ⟨_, rfl⟩
  have hq1 : S.size ≤ q := by rw [hq]; exact grownCap_ge _ _ _ _
  have hq2 : q ≤ maxLen := by rw [hq]; exact grownCap_le_maxLen _ _ _ _ (by rw [hsz]; unfold maxLen; omega)
  rw [hsz] at c2 hq1
  have HR : Hid (Bs W1 W1.heap.size (.slice (some ⟨w.heap.size, 0, none⟩) bs.length q) bs) := by
    refine ⟨?_, hv.2⟩
    refine sl_mk (by simp) hq1 hq2 ⟨by rw [hW1, Lib.bytesWorld_size]; exact Nat.lt_succ_self _, fun j u hu => ?_⟩
    have hj : j < bs.length := by
      rcases Nat.lt_or_ge j bs.length with h | h
      · exact h
      · rw [List.getElem?_eq_none (by simpa using h)] at hu; cases hu
    rw [Nat.zero_add, hW1, Lib.bytesWorld_cell w _ S j (by omega), hS, strOfNums_getD bs hv.2 j hj]
    rw [List.getElem?_map, List.getElem?_eq_getElem hj] at hu
    exact hu
  have e2 : grownCap w bs.length 0 5 = q := by rw [hq, hsz]
  rw [← hW1, e2] at c2
  clear hv hS hW1 hsz hq hq1 hq2 hl e2
  go_enter Tryz.func7, Tryz.ntmps7
  go_wp2_with fail
  go_ret
  exact ⟨⟨_, rfl, HR.out⟩, HB.out, HL.out⟩
theorem cells7 {w : World} {g : Nat} {x0 x1 x2 x3 x4 x5 x6 : Value} {t : TypeId} (h : w.heap[g]? = some (.cells #[x0, x1, x2, x3, x4, x5, x6] t (0, 0))) :
    w.cell? ⟨g, 0, none⟩ = some x0 ∧ w.cell? ⟨g, 1, none⟩ = some x1 ∧ w.cell? ⟨g, 2, none⟩ = some x2 ∧ w.cell? ⟨g, 3, none⟩ = some x3 ∧ w.cell? ⟨g, 4, none⟩ = some x4 ∧ w.cell? ⟨g, 5, none⟩ = some x5 ∧ w.cell? ⟨g, 6, none⟩ = some x6 := by
  simp [World.cell?, h]
theorem len_take {qs : List (OpV × Value)} {k : Nat} (hk : k < qs.length) {c : Nat} (h : ∀ p ∈ qs.take k, p.1.data.length ≤ c) (he : qs[k].1.data.length ≤ c) : ∀ p ∈ qs.take (k + 1), p.1.data.length ≤ c := by
  rw [List.take_succ_eq_append_getElem hk]
  intro p hp
  rcases List.mem_append.1 hp with h1 | h1
  · exact h p h1
  · rw [List.mem_singleton.1 h1]; exact he
theorem bytesR_byte {os : List OpV} (h : ∀ o ∈ os, OpIn o) : ∀ x ∈ (bytesR os).1, IsByte x := by
  unfold bytesR
  split
  · rename_i h1
    exact bytesS_byte h h1
  · intro x hx
    cases hx
theorem bs_to {w w' : World} {v : Value} {bs : List Int} (h : Bs w w.heap.size v bs) (hb : Below w.heap.size w w') : Bs w' w'.heap.size v bs := ⟨(h.1.below hb).more hb.size, h.2⟩
theorem ops_to {w w' : World} {v : Value} {ps : List (OpV × Value)} (h : OpsAt w w.heap.size v ps) (hb : Below w.heap.size w w') : OpsAt w' w'.heap.size v ps := (h.on hb).more hb.size
set_option maxRecDepth 100000 in
set_option maxHeartbeats 16000000 in
theorem opsTells_walk (w : World) (po : OpV × Value) (ho : OpOk w w.heap.size po) (x : AskV) (hx : AskOk w w.heap.size x) (hE : Env w) :
    Calls Tryz.prog 3 #[opVal po, askVal x] w fun e w' => e = .returned (.bool true) ∧ Below w.heap.size w w' := by
  obtain ⟨⟨c, v, a, n, d⟩, ov⟩ := po
  obtain ⟨vL, qs, vB, bs, s, ⟨er, vo, da, co⟩, dv⟩ := x
  obtain ⟨hq, hb, hd, he, hv, hc⟩ := hx
  simp only at hq hb hd he hv hc
  obtain ⟨AL, cL, rfl, -, -⟩ := hq.1.form
  obtain ⟨AB, cB, rfl, -, -⟩ := hb.1.form
  obtain ⟨AD, cD, rfl, -, -⟩ := hd.1.form
  obtain ⟨AO, cO, hov, -, -⟩ := ho.1.1.form
  simp only at hov
  subst hov
  simp only [opVal, askVal]
  obtain ⟨nL, hnL⟩ : ∃ k, k = qs.length := ⟨_, rfl⟩
  obtain ⟨nB, hnB⟩ : ∃ k, k = bs.length := ⟨_, rfl⟩
  obtain ⟨nD, hnD⟩ : ∃ k, k = da.length := ⟨_, rfl⟩
  obtain ⟨nO, hnO⟩ : ∃ k, k = d.length := ⟨_, rfl⟩
  rw [← hnL] at hq ⊢
  rw [← hnB] at hb ⊢
  rw [← hnD] at hd ⊢
  rw [← hnO] at ho ⊢
  have HN : Hid (nL = qs.length ∧ nB = bs.length ∧ nD = da.length ∧ nO = d.length) := ⟨hnL, hnB, hnD, hnO⟩
  obtain ⟨W2, hW2⟩ : ∃ W2, W2 = (w.alloc (.cells #[.int .u8 c, .int .u64 v, .int .u64 a, .int .u64 n, .slice AO nO cO] 25)).alloc (.cells #[.slice AL nL cL, .slice AB nB cB, .string s, .int .i64 er, .int .u64 vo, .slice AD nD cD, .int .i64 co] 31) := ⟨_, rfl⟩
  have HB : Hid (Below w.heap.size w W2) := by rw [hW2]; exact (bel1 _ _).alloc (by simp) _
  have r1 : W2.heap[w.heap.size]? = some (.cells #[.int .u8 c, .int .u64 v, .int .u64 a, .int .u64 n, .slice AO nO cO] 25 (0, 0)) := by rw [hW2]; exact two_old w _ _
  have r2 : W2.heap[w.heap.size + 1]? = some (.cells #[.slice AL nL cL, .slice AB nB cB, .string s, .int .i64 er, .int .u64 vo, .slice AD nD cD, .int .i64 co] 31 (0, 0)) := by rw [hW2]; exact two_new w _ _
  have HF : Hid (∀ W, Below W2.heap.size W2 W → OpsAt W W.heap.size (.slice AL nL cL) qs ∧ Bs W W.heap.size (.slice AB nB cB) bs ∧ Bs W W.heap.size (.slice AD nD cD) da ∧ OpOk W W.heap.size (⟨c, v, a, n, d⟩, .slice AO nO cO) ∧ Env W ∧ W.heap[w.heap.size]? = some (.cells #[.int .u8 c, .int .u64 v, .int .u64 a, .int .u64 n, .slice AO nO cO] 25 (0, 0)) ∧ W.heap[w.heap.size + 1]? = some (.cells #[.slice AL nL cL, .slice AB nB cB, .string s, .int .i64 er, .int .u64 vo, .slice AD nD cD, .int .i64 co] 31 (0, 0)) ∧ Below w.heap.size w W) := fun W hW => by
    have h := HB.out.trans (hW.mono HB.out.size)
    exact ⟨(hq.on h).more h.size, ⟨(hb.1.below h).more h.size, hb.2⟩, ⟨(hd.1.below h).more h.size, hd.2⟩, (ho.on h).more' h.size, hE.on' h, (hW.block _ (Array.getElem?_eq_some_iff.1 r1).1).trans r1, (hW.block _ (Array.getElem?_eq_some_iff.1 r2).1).trans r2, h⟩
  obtain ⟨x0, x1, x2, x3, x4⟩ := cells5 r1
  obtain ⟨y0, y1, y2, y3, y4, y5, y6⟩ := cells7 r2
  have hWq := hW2.symm
  have HAw := Lib.hid (awake_true W2 (hE.on' HB.out))
  have He := Lib.hid he
  have Hv := Lib.hid hv
  have Hc := Lib.hid hc
  clear hW2 r1 r2 hq hb hd ho hE hnL hnB hnD hnO he hv hc
  by_cases g0 : (20 : Int) < nL
  · go_enter Tryz.func3, Tryz.ntmps3
    go_wp2_with (go_at_call 6; go_must (refine HAw.out.mono ?_); rintro e W1 ⟨rfl, h1⟩)
    go_ret
    exact ⟨rfl, HB.out.trans (h1.mono HB.out.size)⟩
  by_cases g1 : (600 : Int) < nB
  · go_enter Tryz.func3, Tryz.ntmps3
    go_wp2_with (go_at_call 6; go_must (refine HAw.out.mono ?_); rintro e W1 ⟨rfl, h1⟩)
    go_ret
    exact ⟨rfl, HB.out.trans (h1.mono HB.out.size)⟩
  by_cases g2 : (300 : Int) < s.size
  · go_enter Tryz.func3, Tryz.ntmps3
    go_wp2_with (go_at_call 6; go_must (refine HAw.out.mono ?_); rintro e W1 ⟨rfl, h1⟩)
    go_ret
    exact ⟨rfl, HB.out.trans (h1.mono HB.out.size)⟩
  by_cases g3 : (400 : Int) < nO
  · go_enter Tryz.func3, Tryz.ntmps3
    go_wp2_with (go_at_call 6; go_must (refine HAw.out.mono ?_); rintro e W1 ⟨rfl, h1⟩)
    go_ret
    exact ⟨rfl, HB.out.trans (h1.mono HB.out.size)⟩
  by_cases g4 : (400 : Int) < nD
  · go_enter Tryz.func3, Tryz.ntmps3
    go_wp2_with (go_at_call 6; go_must (refine HAw.out.mono ?_); rintro e W1 ⟨rfl, h1⟩)
    go_ret
    exact ⟨rfl, HB.out.trans (h1.mono HB.out.size)⟩
  by_cases g5 : co < 0
  · go_enter Tryz.func3, Tryz.ntmps3
    go_wp2_with (go_at_call 6; go_must (refine HAw.out.mono ?_); rintro e W1 ⟨rfl, h1⟩)
    go_ret
    exact ⟨rfl, HB.out.trans (h1.mono HB.out.size)⟩
  by_cases g6 : er < 0
  · go_enter Tryz.func3, Tryz.ntmps3
    go_wp2_with (go_at_call 6; go_must (refine HAw.out.mono ?_); rintro e W1 ⟨rfl, h1⟩)
    go_ret
    exact ⟨rfl, HB.out.trans (h1.mono HB.out.size)⟩
  have HG : Hid (nL ≤ 20 ∧ nB ≤ 600 ∧ s.size ≤ 300 ∧ nO ≤ 400 ∧ nD ≤ 400 ∧ 0 ≤ co ∧ 0 ≤ er) := ⟨by omega, by omega, by omega, by omega, by omega, by omega, by omega⟩
  go_enter Tryz.func3, Tryz.ntmps3
  go_upto_region 4 with fail
  clear g1 g2 g3 g4 g5 g6 x0 x1 x2 x3 x4 y1 y2 y3 y4 y5 y6 hWq HAw
  have hnL0 : (0 : Int) ≤ nL := by omega
  have hnL20 : (nL : Int) ≤ 20 := by omega
  clear g0
  go_wp2_with fail
  go_loopw [5, 70] (fun vin i wr => ∃ (k : Nat) (ps : List (OpV × Value)) (A : Option Addr) (m q : Nat), i = .int .i64 k ∧ vin = .slice A m q ∧ k ≤ nL ∧ Hid (OwnO wr W2.heap.size (.slice A m q) ps ∧ ps.map (·.1) = (qs.take k).map (·.1) ∧ Below W2.heap.size W2 wr ∧ ∀ p ∈ qs.take k, p.1.data.length ≤ 400)) (fun _ i _ => nL - (intOf i).toNat)
  case atStart => exact ⟨0, [], none, 0, 0, rfl, rfl, Nat.zero_le _, OwnO.nil _ _, rfl, Below.refl _ _, by simp⟩
  case round =>
    obtain ⟨k, ps, A, mi, qi, rfl, rfl, hk, HK⟩ := hrel
    have hk0 : (0 : Int) ≤ (k : Int) := by omega
    have hkn : (k : Int) ≤ nL := by omega
    obtain ⟨wo, hwo⟩ : ∃ y, y = wr := ⟨_, rfl⟩
    subst hwo
    have K1 := Lib.hid HK.out.1
    have K2 := Lib.hid HK.out.2.1
    have K3 := Lib.hid HK.out.2.2.1
    have K4 := Lib.hid HK.out.2.2.2
    clear HK
    by_cases hlt : k < nL
    · have hlt' : k < qs.length := by have := HN.out; omega
      have hkn' : (k : Int) < nL := by omega
      obtain ⟨f1, -, -, -, f5, -, -, f8⟩ := HF.out wo K3.out
      obtain ⟨b, o, c', hv, -, e0, e1, e2, e3, e4⟩ := OpsAt.cells f1 hlt'
      rw [← HN.out.1] at hv
      cases hv
      have Hok := Lib.hid (f1.2 _ (List.getElem_mem hlt'))
      have Htk : Hid (qs.take (k + 1) = qs.take k ++ [qs[k]]) := List.take_succ_eq_append_getElem hlt'
      have HAw := Lib.hid (awake_true wo f5)
      have Hlen4 := Lib.hid (fun h => len_take hlt' K4.out h)
      obtain ⟨pk, hpk⟩ : ∃ p, p = qs[k] := ⟨_, rfl⟩
      rw [← hpk] at e0 e1 e2 e3 e4 Hok Htk Hlen4
      obtain ⟨ov, dv⟩ := pk
      simp only at e0 e1 e2 e3 e4 Hok Htk Hlen4
      obtain ⟨Ad, cd, hdv, -, -⟩ := (show Sl wo wo.heap.size 1 dv ov.data.length (ov.data.map (.int .u8)) from Hok.out.1.1).form
      subst hdv
      obtain ⟨m, hm⟩ : ∃ m, m = ov.data.length := ⟨_, rfl⟩
      rw [← hm] at e4
      have Hm := Lib.hid hm
      have Hlt := Lib.hid hlt
      have BW := Lib.hid f8
      have hbA := bel1 wo (.cells #[.int .u8 ov.code, .int .u64 ov.vol, .int .u64 ov.at_, .int .u64 ov.n, .slice Ad m cd] 25)
      have HAw2 := Lib.hid (awake_true (wo.alloc (.cells #[.int .u8 ov.code, .int .u64 ov.vol, .int .u64 ov.at_, .int .u64 ov.n, .slice Ad m cd] 25)) (f5.on' hbA))
      clear f1 f5 f8 hpk hm hlt hlt' hk HAw
      by_cases hbig : (400 : Int) < m
      · go_wp2_with (go_at_call 6; go_must (refine HAw2.out.mono ?_); rintro e W1 ⟨rfl, h1⟩)
        go_ret
        exact ⟨rfl, BW.out.trans ((hbA.trans (h1.mono hbA.size)).mono BW.out.size)⟩
      · have Hm4 : Hid (m ≤ 400) := (show m ≤ 400 by omega)
        obtain ⟨W3, hW3⟩ : ∃ y, y = wo.alloc (.cells #[.int .u8 ov.code, .int .u64 ov.vol, .int .u64 ov.at_, .int .u64 ov.n, .slice Ad m cd] 25) := ⟨_, rfl⟩
        have R3 : Hid (W3.heap[wo.heap.size]? = some (.cells #[.int .u8 ov.code, .int .u64 ov.vol, .int .u64 ov.at_, .int .u64 ov.n, .slice Ad m cd] 25 (0, 0))) := by show _ = _; rw [hW3]; exact heap_alloc_new _ _
        have B3 : Hid (Below wo.heap.size wo W3) := by rw [hW3]; exact hbA
        go_upto_region 9 with fail
        rw [← hW3]
        clear hW3 hbA HAw2 e0 e1 e2 e3 e4
        have HAg := Lib.hid (again_at W3 wo.heap.size (.slice Ad m cd) ov.data ⟨by have h := Hok.out.1.1.below B3.out; rw [Hm.out]; exact h, Hok.out.1.2⟩ (by have := Hm4.out; have := Hm.out; omega))
        rw [← Hm.out] at HAg
        obtain ⟨x0, x1, x2, x3, x4⟩ := cells5 R3.out
        go_upto_region 10 with (go_at_call 7; go_must (refine HAg.out.mono ?_); rintro e W4 ⟨⟨ca, rfl, ba⟩, h4, l4⟩; have BA := Lib.hid ba; have L4 := Lib.hid l4; have H4 := Lib.hid h4; have R4 := Lib.hid ((h4.block _ (Array.getElem?_eq_some_iff.1 R3.out).1).trans R3.out); obtain ⟨z0, z1, z2, z3, z4⟩ := cells5 R4.out; have zf := cells5_free R4.out 4; clear h4 ba l4)
        clear x0 x1 x2 x3 x4 z0 z1 z2 z3 z4 zf
        have R5 : Hid ((W4.setCell ⟨wo.heap.size, 4, none⟩ (.slice (some ⟨W3.heap.size, 0, none⟩) m ca)).heap[wo.heap.size]? = some (.cells #[.int .u8 ov.code, .int .u64 ov.vol, .int .u64 ov.at_, .int .u64 ov.n, .slice (some ⟨W3.heap.size, 0, none⟩) m ca] 25 (0, 0))) := set_here (j := 4) R4.out _
        have B5 : Hid (Below wo.heap.size wo (W4.setCell ⟨wo.heap.size, 4, none⟩ (.slice (some ⟨W3.heap.size, 0, none⟩) m ca))) := (B3.out.trans (H4.out.mono B3.out.size)).setCell (Nat.le_refl _) _
        have BA5 : Hid (Bs (W4.setCell ⟨wo.heap.size, 4, none⟩ (.slice (some ⟨W3.heap.size, 0, none⟩) m ca)) (W4.setCell ⟨wo.heap.size, 4, none⟩ (.slice (some ⟨W3.heap.size, 0, none⟩) m ca)).heap.size (.slice (some ⟨W3.heap.size, 0, none⟩) m ca) ov.data) := BA.out.off (by simp) (fun b' o' x' e _ hx' => by
          cases e
          rw [World.cell?_setCell_other W4 _ _ _ (fun e2 => by have h := (Array.getElem?_eq_some_iff.1 R3.out).1; have h3 := congrArg Addr.block e2; simp at h3; omega)]
          exact hx')
        have L3 : Hid (wo.heap.size < W3.heap.size ∧ W3.heap.size < (W4.setCell ⟨wo.heap.size, 4, none⟩ (.slice (some ⟨W3.heap.size, 0, none⟩) m ca)).heap.size) := ⟨(Array.getElem?_eq_some_iff.1 R3.out).1, by simpa using L4.out⟩
        generalize (W4.setCell ⟨wo.heap.size, 4, none⟩ (.slice (some ⟨W3.heap.size, 0, none⟩) m ca)) = W5 at *
        clear R3 R4 H4 BA HAg B3 L4
        obtain ⟨pv, hpv⟩ : ∃ q : OpV × Value, q = (ov, .slice (some ⟨W3.heap.size, 0, none⟩) m ca) := ⟨_, rfl⟩
        have Hop : Hid (opCells pv = [.int .u8 ov.code, .int .u64 ov.vol, .int .u64 ov.at_, .int .u64 ov.n, .slice (some ⟨W3.heap.size, 0, none⟩) m ca]) := by show _ = _; rw [hpv]; rfl
        have Hpv1 : Hid (pv.1 = ov) := by show _ = _; rw [hpv]
        have Hok5 : Hid (OpOk W5 W5.heap.size pv) := by show OpOk W5 W5.heap.size pv; rw [hpv]; exact ⟨BA5.out, Hok.out.2⟩
        have Hblk : Hid (∀ g', pv.2.ownBlock = some g' → wo.heap.size ≤ g' ∧ g' < W5.heap.size) := fun g' hg' => by
          rw [hpv] at hg'
          have h3 := L3.out
          have h4 : W3.heap.size = g' := by simpa [Value.ownBlock] using hg'
          omega
        clear hpv BA5
        have hbA := bel1 W5 (.cells #[.int .u8 ov.code, .int .u64 ov.vol, .int .u64 ov.at_, .int .u64 ov.n, .slice (some ⟨W3.heap.size, 0, none⟩) m ca] 25)
        have KA : Hid (OwnO (W5.alloc (.cells #[.int .u8 ov.code, .int .u64 ov.vol, .int .u64 ov.at_, .int .u64 ov.n, .slice (some ⟨W3.heap.size, 0, none⟩) m ca] 25)) W2.heap.size (.slice A mi qi) ps) := K1.out.on (B5.out.trans (hbA.mono B5.out.size))
        have KA1 := Lib.hid KA.out.1
        have BAl : Hid (Below W2.heap.size W2 (W5.alloc (.cells #[.int .u8 ov.code, .int .u64 ov.vol, .int .u64 ov.at_, .int .u64 ov.n, .slice (some ⟨W3.heap.size, 0, none⟩) m ca] 25))) := K3.out.trans ((B5.out.trans (hbA.mono B5.out.size)).mono K3.out.size)
        have QA : Hid ((W5.alloc (.cells #[.int .u8 ov.code, .int .u64 ov.vol, .int .u64 ov.at_, .int .u64 ov.n, .slice (some ⟨W3.heap.size, 0, none⟩) m ca] 25)).heap[W5.heap.size]? = some (.cells (opCells pv).toArray 25 (0, 0))) := by
          show _ = _
          rw [Hop.out]
          exact heap_alloc_new _ _
        have OkA : Hid (OpOk (W5.alloc (.cells #[.int .u8 ov.code, .int .u64 ov.vol, .int .u64 ov.at_, .int .u64 ov.n, .slice (some ⟨W3.heap.size, 0, none⟩) m ca] 25)) (W5.alloc (.cells #[.int .u8 ov.code, .int .u64 ov.vol, .int .u64 ov.at_, .int .u64 ov.n, .slice (some ⟨W3.heap.size, 0, none⟩) m ca] 25)).heap.size pv) := (Hok5.out.on hbA).more' hbA.size
        have H1c : Hid (∀ u ∈ opCells pv, u.oneCell' = true) := by
          show ∀ u ∈ opCells pv, _
          rw [Hop.out]
          intro u hu
          simp only [List.mem_cons, List.mem_nil_iff, or_false] at hu
          rcases hu with rfl | rfl | rfl | rfl | rfl <;> rfl
        have HpsL : Hid (ps.length ≤ 100000) := by
          have h1 := congrArg List.length K2.out
          rw [List.length_map, List.length_map, List.length_take] at h1
          have h2 := HN.out.1
          have h3 := HG.out.1
          show _ ≤ _
          omega
        have Hpo : Hid (∀ g', pv.2.ownBlock = some g' → g' < (W5.alloc (.cells #[.int .u8 ov.code, .int .u64 ov.vol, .int .u64 ov.at_, .int .u64 ov.n, .slice (some ⟨W3.heap.size, 0, none⟩) m ca] 25)).heap.size ∧ (Value.slice A mi qi).ownBlock ≠ some g') := fun g' hg' => by
          have h1 := Hblk.out g' hg'
          refine ⟨by simp; omega, fun e => ?_⟩
          have h2 := (World.ownsRow.lt K1.out.1 g' e).2
          omega
        have HK2 : Hid ((ps ++ [pv]).map (·.1) = (qs.take (k + 1)).map (·.1)) := by
          show _ = _
          rw [List.map_append, K2.out, Htk.out, List.map_append, List.map_cons, List.map_nil, Hpv1.out, List.map_cons, List.map_nil]
        have HK4 := Lib.hid (Hlen4.out (by have := Hm.out; have := Hm4.out; omega))
        obtain ⟨x0, x1, x2, x3, x4⟩ := cells5 R5.out
        have hkw : IntKind.i64.wrap ((k : Int) + 1) = (k : Int) + 1 := by have := HG.out.1; rw [IntKind.wrap_i64]; omega
        have hkw2 : RowKit.wrap64 ((k : Int) + 1) = (k : Int) + 1 := by have := HG.out.1; unfold RowKit.wrap64; omega
        clear hbA hbig
        go_wp2_with (first
          | ((with_reducible refine wl_append_op (os := .tmp 83) (ox := .tmp 85) (base := W2.heap.size) (q := W5.heap.size) (p := pv) KA1.out QA.out H1c.out HpsL.out BAl.out.size ?_ ?_ ?_); go_must ((· rfl); (· rfl); intro A7 n7 c7 w7 ho hg hn; have HO7 := Lib.hid (KA.out.push OkA.out Hpo.out ho hg hn); have B7 : Hid (Below W2.heap.size W2 w7) := BAl.out.grown hg BAl.out.size (fun j hj => (World.ownsRow.lt KA1.out j hj).1); clear ho hg hn)))
        go_roundw
        case rel => exact ⟨k + 1, ps ++ [pv], A7, n7, c7, by go_num, rfl, Hlt.out, HO7.out, HK2.out, B7.out, HK4.out⟩
        case measure => have := Hlt.out; simp [intOf]; omega
    · obtain rfl : k = nL := by omega
      have hkn' : ¬ ((k : Int) < k) := by omega
      have BW := Lib.hid K3.out
      have HO : Hid (ps.map (·.1) = qs.map (·.1)) := by
        have h := K2.out
        rw [List.take_of_length_le (by have := HN.out; omega)] at h
        exact h
      have HPl : Hid (ps.length ≤ 20 ∧ qs.length ≤ 20) := by
        have h1 := congrArg List.length HO.out
        rw [List.length_map, List.length_map] at h1
        have h2 := HN.out.1
        have h3 := HG.out.1
        show _ ∧ _
        omega
      have KI := Lib.hid K1.out.at_
      have HX : Hid (∀ W, Below wo.heap.size wo W → OpsAt W W.heap.size (.slice A mi qi) ps ∧ OpsAt W W.heap.size (.slice AL k cL) qs ∧ Bs W W.heap.size (.slice AB nB cB) bs ∧ Bs W W.heap.size (.slice AD nD cD) da ∧ OpOk W W.heap.size (⟨c, v, a, n, d⟩, .slice AO nO cO) ∧ Env W ∧ Below w.heap.size w W) := fun W hW => by
        obtain ⟨f1, f2, f3, f4, f5, -, -, f8⟩ := HF.out W (BW.out.trans (hW.mono BW.out.size))
        exact ⟨ops_to KI.out hW, f1, f2, f3, f4, f5, f8⟩
      have HC : Hid (∀ W, Below wo.heap.size wo W → W.heap[w.heap.size]? = some (.cells #[.int .u8 c, .int .u64 v, .int .u64 a, .int .u64 n, .slice AO nO cO] 25 (0, 0)) ∧ W.heap[w.heap.size + 1]? = some (.cells #[.slice AL k cL, .slice AB nB cB, .string s, .int .i64 er, .int .u64 vo, .slice AD nD cD, .int .i64 co] 31 (0, 0))) := fun W hW => by
        obtain ⟨-, -, -, -, -, f6, f7, -⟩ := HF.out W (BW.out.trans (hW.mono BW.out.size))
        exact ⟨f6, f7⟩
      have HAg := Lib.hid (again_at wo wo.heap.size (.slice AB nB cB) bs (HX.out wo (Below.refl _ _)).2.2.1 (by have := HG.out; have := HN.out; omega))
      rw [← HN.out.2.1] at HAg
      obtain ⟨y0, y1, y2, y3, y4, y5, y6⟩ := cells7 (HC.out wo (Below.refl _ _)).2
      clear K1 K2 K3 K4 KI HF hk hlt
      go_upto_region 13 with (go_at_call 7; go_must (refine HAg.out.mono ?_); rintro e WA ⟨⟨ca, rfl, ba⟩, h4, -⟩; have BA := Lib.hid ba; have GA := Lib.hid h4; clear h4 ba)
      clear y0 y1 y2 y3 y4 y5 y6 HAg
      obtain ⟨A8, hA8⟩ : ∃ y, y = some (⟨wo.heap.size, 0, none⟩ : Addr) := ⟨_, rfl⟩
      rw [← hA8] at BA ⊢
      clear hA8
      obtain ⟨RB, hRB⟩ : ∃ y, y = bytesR (qs.map (·.1)) := ⟨_, rfl⟩
      have HRb : Hid (∀ x ∈ RB.1, IsByte x) := by
        show ∀ x ∈ RB.1, _
        rw [hRB]
        refine bytesR_byte fun o ho => ?_
        obtain ⟨p, hp, rfl⟩ := List.mem_map.1 ho
        exact ((HX.out wo (Below.refl _ _)).2.1.2 p hp).opIn
      have HBy : Hid (Calls Tryz.prog 8 #[.slice A mi qi] WA fun e w' => ∃ A n c, e = .returned (.tuple #[.slice A n c, .int .i64 RB.2]) ∧ OwnY w' WA.heap.size (.slice A n c) RB.1 ∧ Below WA.heap.size WA w') := by
        have h := bytes_any WA WA.heap.size (.slice A mi qi) ps (HX.out WA GA.out).1 (Nat.le_refl _) (by have := HPl.out; omega)
        rw [HO.out, ← hRB] at h
        exact h
      have HRby : Hid (∀ W, Below wo.heap.size wo W → Calls Tryz.prog 9 #[.slice AL k cL] W fun e w' => ∃ A n c, e = .returned (.tuple #[.slice A n c, .int .i64 RB.2]) ∧ OwnY w' W.heap.size (.slice A n c) RB.1 ∧ Below W.heap.size W w') := fun W hW => by
        have h := rbytesL_any W W.heap.size (.slice AL k cL) qs (HX.out W hW).2.1 (Nat.le_refl _) (by have := HPl.out; omega)
        rw [← hRB] at h
        exact h
      clear hRB
      go_upto_region 14 with (go_at_call 8; go_must (refine HBy.out.mono ?_); rintro e WB ⟨A1, n1, c1, rfl, ba, h4⟩; have BB := Lib.hid (ba.bs HRb.out); have GB := Lib.hid h4; have TB := Lib.hid (GA.out.trans (h4.mono GA.out.size)); clear h4 ba)
      clear HBy
      obtain ⟨y0, y1, y2, y3, y4, y5, y6⟩ := cells7 (HC.out WB TB.out).2
      go_upto_region 15 with (go_at_call 9; go_must (refine (HRby.out WB TB.out).mono ?_); rintro e WC ⟨A2, n2, c2, rfl, ba, h4⟩; have BC := Lib.hid (ba.bs HRb.out); have GC := Lib.hid h4; have TC := Lib.hid (TB.out.trans (h4.mono TB.out.size)); clear h4 ba)
      clear y0 y1 y2 y3 y4 y5 y6 HRby
      have BA8 := Lib.hid (bs_to (bs_to BA.out GB.out) GC.out)
      have BB1 := Lib.hid (bs_to BB.out GC.out)
      clear BA GB GC BB
      obtain ⟨RR, hRR⟩ : ∃ y, y = readR bs := ⟨_, rfl⟩
      have hRe : Hid (∀ W vv, Bs W W.heap.size vv bs → Calls Tryz.prog 10 #[vv] W fun e w' => ∃ A n c ps, e = .returned (.tuple #[.slice A n c, .int .i64 RR.2]) ∧ RR.1 = ps.map (·.1) ∧ OpsAt w' w'.heap.size (.slice A n c) ps ∧ ps.length ≤ bs.length ∧ Below W.heap.size W w') := fun W vv hb => by
        rw [hRR]
        exact read_any W W.heap.size vv bs hb (Nat.le_refl _) (by have := HG.out; have := HN.out; omega)
      have hRr : Hid (∀ W vv, Bs W W.heap.size vv bs → Calls Tryz.prog 11 #[vv] W fun e w' => ∃ A n c ps, e = .returned (.tuple #[.slice A n c, .int .i64 RR.2]) ∧ RR.1 = ps.map (·.1) ∧ OpsAt w' w'.heap.size (.slice A n c) ps ∧ ps.length ≤ bs.length ∧ Below W.heap.size W w') := fun W vv hb => by
        rw [hRR]
        exact rread_any W W.heap.size vv bs hb (Nat.le_refl _) (by have := HG.out; have := HN.out; omega)
      clear hRR
      go_upto_region 16 with (go_at_call 10; go_must (refine (hRe.out WC _ BA8.out).mono ?_); rintro e WD ⟨A3, n3, c3, p3, rfl, e3, o3, l3, h4⟩; have E3 := Lib.hid e3; have O3 := Lib.hid o3; have L3 := Lib.hid l3; have GD := Lib.hid h4; have TD := Lib.hid (TC.out.trans (h4.mono TC.out.size)); clear h4 o3 e3 l3)
      clear hRe
      obtain ⟨y0, y1, y2, y3, y4, y5, y6⟩ := cells7 (HC.out WD TD.out).2
      have hxB := Lib.hid (HX.out WD TD.out).2.2.1
      go_upto_region 17 with (go_at_call 11; go_must (refine (hRr.out WD _ hxB.out).mono ?_); rintro e WE ⟨A4, n4, c4, p4, rfl, e3, o3, -, h4⟩; have E4 := Lib.hid e3; have O4 := Lib.hid o3; have GE := Lib.hid h4; have TE := Lib.hid (TD.out.trans (h4.mono TD.out.size)); clear h4 o3 e3)
      clear y0 y1 y2 y3 y4 y5 y6 hRr hxB
      have H3 := Lib.hid (ops_to O3.out GE.out)
      have B8 := Lib.hid (bs_to (bs_to BA8.out GD.out) GE.out)
      have B1 := Lib.hid (bs_to (bs_to BB1.out GD.out) GE.out)
      have B2 := Lib.hid (bs_to (bs_to BC.out GD.out) GE.out)
      have HQ1 : Hid (Calls Tryz.prog 12 #[.slice A1 n1 c1, .slice A2 n2 c2] WE fun e w' => e = .returned (.bool true) ∧ WE = w') := by
        have h := equal_any WE WE.heap.size _ _ _ _ B1.out B2.out
        rw [decide_eq_true rfl] at h
        exact h
      have HQ2 : Hid (Calls Tryz.prog 13 #[.slice A3 n3 c3, .slice A4 n4 c4] WE fun e w' => e = .returned (.bool true) ∧ Below WE.heap.size WE w') := by
        have h := sameOps_any WE WE.heap.size _ _ _ _ H3.out O4.out (Nat.le_refl _) (by have := L3.out; have := HG.out; have := HN.out; omega)
        rw [decide_eq_true (E3.out.symm.trans E4.out)] at h
        exact h
      have HQ3 : Hid (∀ W, Below wo.heap.size wo W → Calls Tryz.prog 13 #[.slice A mi qi, .slice AL k cL] W fun e w' => e = .returned (.bool true) ∧ Below W.heap.size W w') := fun W hW => by
        have h := sameOps_any W W.heap.size _ _ _ _ (HX.out W hW).1 (HX.out W hW).2.1 (Nat.le_refl _) (by have := HPl.out; omega)
        rw [decide_eq_true HO.out] at h
        exact h
      have HQ4 : Hid (∀ W, Below WE.heap.size WE W → Calls Tryz.prog 12 #[.slice A8 nB ca, .slice AB nB cB] W fun e w' => e = .returned (.bool true) ∧ W = w') := fun W hW => by
        have h := equal_any W W.heap.size _ _ _ _ (bs_to B8.out hW) (HX.out W (TE.out.trans (hW.mono TE.out.size))).2.2.1
        rw [decide_eq_true rfl] at h
        exact h
      clear H3 B8 B1 B2 BA8 BB1 BC O3 O4 GD GE E3 E4 L3
      obtain ⟨y0, y1, y2, y3, y4, y5, y6⟩ := cells7 (HC.out WE TE.out).2
      go_upto_region 19 with (first
        | (go_at_call 12; (with_reducible refine HQ1.out.mono ?_); go_must (rintro e WE1 ⟨rfl, rfl⟩))
        | (go_at_call 13; (with_reducible refine HQ2.out.mono ?_); go_must (rintro e WF ⟨rfl, h6⟩; clear y0 y1 y2 y3 y4 y5 y6; have SF := Lib.hid h6; have TF := Lib.hid (TE.out.trans (h6.mono TE.out.size)); obtain ⟨y0, y1, y2, y3, y4, y5, y6⟩ := cells7 (HC.out WF TF.out).2; clear h6))
        | (go_at_call 13; (with_reducible refine (HQ3.out WF TF.out).mono ?_); go_must (rintro e WG ⟨rfl, h6⟩; clear y0 y1 y2 y3 y4 y5 y6; have SG := Lib.hid (SF.out.trans (h6.mono SF.out.size)); have TG := Lib.hid (TF.out.trans (h6.mono TF.out.size)); obtain ⟨y0, y1, y2, y3, y4, y5, y6⟩ := cells7 (HC.out WG TG.out).2; clear h6))
        | (go_at_call 12; (with_reducible refine (HQ4.out WG SG.out).mono ?_); go_must (rintro e WG1 ⟨rfl, rfl⟩)))
      clear y0 y1 y2 y3 y4 y5 y6 HQ1 HQ2 HQ3 HQ4 TF SF SG TE TD TC TB GA
      obtain ⟨RT, hRT⟩ : ∃ y, y = textR ⟨c, v, a, n, d⟩ := ⟨_, rfl⟩
      obtain ⟨S, hS⟩ : ∃ y : ByteArray, y = ⟨RT.1.toArray⟩ := ⟨_, rfl⟩
      have HT1 : Hid (∀ W, Below wo.heap.size wo W → Calls Tryz.prog 14 #[.agg #[.int .u8 c, .int .u64 v, .int .u64 a, .int .u64 n, .slice AO nO cO]] W fun e w' => e = .returned (.tuple #[.string S, .int .i64 RT.2]) ∧ Below W.heap.size W w') := fun W hW => by
        obtain ⟨-, -, -, -, f5, f6, -⟩ := HX.out W hW
        have h := text_any _ W.heap.size W f5 (Nat.le_refl _) f6
        rw [← hRT, ← hS] at h
        exact h
      have HT2 : Hid (∀ W, Below wo.heap.size wo W → Calls Tryz.prog 15 #[.agg #[.int .u8 c, .int .u64 v, .int .u64 a, .int .u64 n, .slice AO nO cO]] W fun e w' => e = .returned (.tuple #[.string S, .int .i64 RT.2]) ∧ Below W.heap.size W w') := fun W hW => by
        obtain ⟨-, -, -, -, f5, f6, -⟩ := HX.out W hW
        have h := rtext_any _ W.heap.size W f5 (Nat.le_refl _)
        rw [← hRT, ← hS] at h
        exact h
      clear hRT hS
      obtain ⟨PR, hPR⟩ : ∃ y, y = parseR s.data.toList := ⟨_, rfl⟩
      obtain ⟨⟨c1, v1, a1, b1, d1⟩, pe⟩ := PR
      have HP1 : Hid (∀ W, Below wo.heap.size wo W → Calls Tryz.prog 16 #[.string s] W fun e w' => (∃ A n cc, e = .returned (.tuple #[.agg #[.int .u8 c1, .int .u64 v1, .int .u64 a1, .int .u64 b1, .slice A n cc], .int .i64 pe]) ∧ OpOk w' w'.heap.size (⟨c1, v1, a1, b1, d1⟩, .slice A n cc)) ∧ Below W.heap.size W w') := fun W hW => by
        have h := parse_any s (by have := HG.out; omega) W (HX.out W hW).2.2.2.2.2.1
        rw [← hPR] at h
        refine h.mono ?_
        rintro e w' ⟨⟨dv, rfl, o⟩, b⟩
        obtain ⟨A, cc, hdv, -, -⟩ := (show Sl w' w'.heap.size 1 dv d1.length (d1.map (.int .u8)) from o.1.1).form
        subst hdv
        exact ⟨⟨_, _, _, rfl, o⟩, b⟩
      have HP2 : Hid (∀ W, Calls Tryz.prog 17 #[.string s] W fun e w' => (∃ A n cc, e = .returned (.tuple #[.agg #[.int .u8 c1, .int .u64 v1, .int .u64 a1, .int .u64 b1, .slice A n cc], .int .i64 pe]) ∧ OpOk w' w'.heap.size (⟨c1, v1, a1, b1, d1⟩, .slice A n cc)) ∧ Below W.heap.size W w') := fun W => by
        have h := rparse_any s (by have := HG.out; omega) W
        rw [parseC_eq, ← hPR] at h
        refine h.mono ?_
        rintro e w' ⟨⟨dv, rfl, o⟩, b⟩
        obtain ⟨A, cc, hdv, -, -⟩ := (show Sl w' w'.heap.size 1 dv d1.length (d1.map (.int .u8)) from o.1.1).form
        subst hdv
        exact ⟨⟨_, _, _, rfl, o⟩, b⟩
      clear hPR
      obtain ⟨x0, x1, x2, x3, x4⟩ := cells5 (HC.out WG TG.out).1
      go_upto_region 20 with (go_at_call 14; (with_reducible refine (HT1.out WG TG.out).mono ?_); go_must (rintro e WH ⟨rfl, h6⟩; have TH := Lib.hid (TG.out.trans (h6.mono TG.out.size)); clear h6))
      clear x0 x1 x2 x3 x4 TG
      obtain ⟨x0, x1, x2, x3, x4⟩ := cells5 (HC.out WH TH.out).1
      go_upto_region 21 with (go_at_call 15; (with_reducible refine (HT2.out WH TH.out).mono ?_); go_must (rintro e WI ⟨rfl, h6⟩; have TI := Lib.hid (TH.out.trans (h6.mono TH.out.size)); clear h6))
      clear x0 x1 x2 x3 x4 TH HT1 HT2
      obtain ⟨y0, y1, y2, y3, y4, y5, y6⟩ := cells7 (HC.out WI TI.out).2
      go_upto_region 22 with (go_at_call 16; (with_reducible refine (HP1.out WI TI.out).mono ?_); go_must (rintro e WK ⟨⟨Ap, np, cp, rfl, o⟩, h6⟩; have OK1 := Lib.hid o; have TK := Lib.hid (TI.out.trans (h6.mono TI.out.size)); clear h6 o))
      clear y0 y1 y2 y3 y4 y5 y6 TI HP1
      have hbp := bel1 WK (.cells #[.int .u8 c1, .int .u64 v1, .int .u64 a1, .int .u64 b1, .slice Ap np cp] 25)
      obtain ⟨WL, hWL⟩ : ∃ y, y = WK.alloc (.cells #[.int .u8 c1, .int .u64 v1, .int .u64 a1, .int .u64 b1, .slice Ap np cp] 25) := ⟨_, rfl⟩
      have TL : Hid (Below wo.heap.size wo WL) := by show Below _ _ _; rw [hWL]; exact TK.out.trans (hbp.mono TK.out.size)
      have RP : Hid (WL.heap[WK.heap.size]? = some (.cells #[.int .u8 c1, .int .u64 v1, .int .u64 a1, .int .u64 b1, .slice Ap np cp] 25 (0, 0))) := by show _ = _; rw [hWL]; exact heap_alloc_new _ _
      have OP1 : Hid (OpOk WL WL.heap.size (⟨c1, v1, a1, b1, d1⟩, .slice Ap np cp)) := by show OpOk WL WL.heap.size _; rw [hWL]; exact (OK1.out.on hbp).more' hbp.size
      rw [← hWL]
      obtain ⟨gp, hgp⟩ : ∃ y, y = WK.heap.size := ⟨_, rfl⟩
      rw [← hgp] at RP ⊢
      clear hWL hbp OK1 TK hgp
      obtain ⟨y0, y1, y2, y3, y4, y5, y6⟩ := cells7 (HC.out WL TL.out).2
      go_upto_region 23 with (go_at_call 17; (with_reducible refine (HP2.out WL).mono ?_); go_must (rintro e WM ⟨⟨Aq, nq, cq, rfl, o⟩, h6⟩; have OK2 := Lib.hid o; have TM := Lib.hid (TL.out.trans (h6.mono TL.out.size)); have RP2 := Lib.hid ((h6.block _ (Array.getElem?_eq_some_iff.1 RP.out).1).trans RP.out); have OP2 := Lib.hid ((OP1.out.on h6).more' h6.size); clear h6 o))
      clear y0 y1 y2 y3 y4 y5 y6 TL HP2 RP OP1
      have hbp := bel1 WM (.cells #[.int .u8 c1, .int .u64 v1, .int .u64 a1, .int .u64 b1, .slice Aq nq cq] 25)
      obtain ⟨WN, hWN⟩ : ∃ y, y = WM.alloc (.cells #[.int .u8 c1, .int .u64 v1, .int .u64 a1, .int .u64 b1, .slice Aq nq cq] 25) := ⟨_, rfl⟩
      have TN : Hid (Below wo.heap.size wo WN) := by show Below _ _ _; rw [hWN]; exact TM.out.trans (hbp.mono TM.out.size)
      have RQ : Hid (WN.heap[WM.heap.size]? = some (.cells #[.int .u8 c1, .int .u64 v1, .int .u64 a1, .int .u64 b1, .slice Aq nq cq] 25 (0, 0))) := by show _ = _; rw [hWN]; exact heap_alloc_new _ _
      have RP3 : Hid (WN.heap[gp]? = some (.cells #[.int .u8 c1, .int .u64 v1, .int .u64 a1, .int .u64 b1, .slice Ap np cp] 25 (0, 0))) := by show _ = _; rw [hWN]; exact (hbp.block _ (Array.getElem?_eq_some_iff.1 RP2.out).1).trans RP2.out
      have OP3 : Hid (OpOk WN WN.heap.size (⟨c1, v1, a1, b1, d1⟩, .slice Ap np cp)) := by show OpOk WN WN.heap.size _; rw [hWN]; exact (OP2.out.on hbp).more' hbp.size
      have OQ3 : Hid (OpOk WN WN.heap.size (⟨c1, v1, a1, b1, d1⟩, .slice Aq nq cq)) := by show OpOk WN WN.heap.size _; rw [hWN]; exact (OK2.out.on hbp).more' hbp.size
      rw [← hWN]
      obtain ⟨gq, hgq⟩ : ∃ y, y = WM.heap.size := ⟨_, rfl⟩
      rw [← hgq] at RQ ⊢
      clear hWN hbp OK2 TM hgq RP2 OP2
      have HGr : Hid (∀ dd os, Below wo.heap.size wo (Sort.grow (redrawn WN dd) os)) := fun dd os => TN.out.trans ((below_regrown WN dd os).mono TN.out.size)
      have cS : ∀ dd os, Calls Tryz.prog 18 #[.agg #[.int .u8 c1, .int .u64 v1, .int .u64 a1, .int .u64 b1, .slice Ap np cp], .agg #[.int .u8 c1, .int .u64 v1, .int .u64 a1, .int .u64 b1, .slice Aq nq cq]] (Sort.grow (redrawn WN dd) os) fun e w'' => e = .returned (.bool true) ∧ ∃ p : Regrown, w'' = Sort.grow (redrawn WN p.d) p.os := fun dd os => by
        have hg := below_regrown WN dd os
        have h := same_op (Sort.grow (redrawn WN dd) os) WN.heap.size (⟨c1, v1, a1, b1, d1⟩, .slice Ap np cp) (⟨c1, v1, a1, b1, d1⟩, .slice Aq nq cq) (OP3.out.on hg) (OQ3.out.on hg) hg.size
        rw [decide_eq_true rfl] at h
        exact Calls.regrown_of h
      obtain ⟨T, hT⟩ : ∃ y : ByteArray, y = ⟨(toldR c ⟨er, vo, da, co⟩).toArray⟩ := ⟨_, rfl⟩
      have cT : ∀ dd os, Calls Tryz.prog 19 #[.agg #[.int .u8 c, .int .u64 v, .int .u64 a, .int .u64 n, .slice AO nO cO], .agg #[.int .i64 er, .int .u64 vo, .slice AD nD cD, .int .i64 co]] (Sort.grow (redrawn WN dd) os) fun e w'' => e = .returned (.string T) ∧ ∃ p : Regrown, w'' = Sort.grow (redrawn WN p.d) p.os := fun dd os => by
        obtain ⟨-, -, -, f4, f5, f6, -⟩ := HX.out _ (HGr.out dd os)
        have h := told_reply (⟨c, v, a, n, d⟩, .slice AO nO cO) ⟨er, vo, da, co⟩ (.slice AD nD cD) _ _ f5 (Nat.le_refl _) f4 (by have := HG.out; have := HN.out; simp only; omega) He.out Hv.out Hc.out f6
        rw [← hT] at h
        exact Calls.regrown_of h
      have cR : ∀ dd os, Calls Tryz.prog 20 #[.agg #[.int .u8 c, .int .u64 v, .int .u64 a, .int .u64 n, .slice AO nO cO], .agg #[.int .i64 er, .int .u64 vo, .slice AD nD cD, .int .i64 co]] (Sort.grow (redrawn WN dd) os) fun e w'' => e = .returned (.string T) ∧ ∃ p : Regrown, w'' = Sort.grow (redrawn WN p.d) p.os := fun dd os => by
        obtain ⟨-, -, -, f4, f5, f6, -⟩ := HX.out _ (HGr.out dd os)
        have h := rtold_any (⟨c, v, a, n, d⟩, .slice AO nO cO) ⟨er, vo, da, co⟩ (.slice AD nD cD) _ _ f5 (Nat.le_refl _) f4 (by have := HG.out; have := HN.out; simp only; omega) ⟨HG.out.2.2.2.2.2.2, by have h := He.out; have h2 := h.2; omega⟩ Hv.out ⟨HG.out.2.2.2.2.2.1, by have h := Hc.out; have h2 := h.2; omega⟩
        rw [← hT] at h
        exact Calls.regrown_of h
      have cA : ∀ dd os, Calls Tryz.prog 6 #[] (Sort.grow (redrawn WN dd) os) fun e w'' => e = .returned (.bool true) ∧ ∃ p : Regrown, w'' = Sort.grow (redrawn WN p.d) p.os := fun dd os => Calls.regrown_of (awake_true _ (HX.out _ (HGr.out dd os)).2.2.2.2.2.1)
      clear hT OP3 OQ3
      obtain ⟨x0, x1, x2, x3, x4⟩ := cells5 (HC.out WN TN.out).1
      obtain ⟨y0, y1, y2, y3, y4, y5, y6⟩ := cells7 (HC.out WN TN.out).2
      obtain ⟨p0, p1, p2, p3, p4⟩ := cells5 RP3.out
      obtain ⟨q0, q1, q2, q3, q4⟩ := cells5 RQ.out
      replace x0 := cell_regrown x0
      replace x1 := cell_regrown x1
      replace x2 := cell_regrown x2
      replace x3 := cell_regrown x3
      replace x4 := cell_regrown x4
      replace y3 := cell_regrown y3
      replace y4 := cell_regrown y4
      replace y5 := cell_regrown y5
      replace y6 := cell_regrown y6
      replace p0 := cell_regrown p0
      replace p1 := cell_regrown p1
      replace p2 := cell_regrown p2
      replace p3 := cell_regrown p3
      replace p4 := cell_regrown p4
      replace q0 := cell_regrown q0
      replace q1 := cell_regrown q1
      replace q2 := cell_regrown q2
      replace q3 := cell_regrown q3
      replace q4 := cell_regrown q4
      clear y0 y1 y2
      refine wp_region_quiet_below (by kernel_rfl) (by kernel_rfl) ?_
      repeat (go_big_quiet_step (first | with_reducible exact cS _ _ | with_reducible exact cT _ _ | with_reducible exact cR _ _ | with_reducible exact cA _ _))
      refine wpQuiet_nil ?_
      intro _ hw'
      obtain ⟨⟨dq, osq⟩, hw''⟩ := hw'
      subst hw''
      have b8 := (HX.out _ (HGr.out dq osq)).2.2.2.2.2.2
      generalize Sort.grow (redrawn WN dq) osq = W8 at *
      go_wp2_with fail
      go_ret
      exact ⟨rfl, b8⟩
end Go.Proofs.YtakiinghipjopaaGreatDoor
