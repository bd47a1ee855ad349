/-
  The reference of layer 27: operations read of bytes.
-/
import Derived.Test.YtakiinghipjopaaGreatDoorRefH27
namespace Go.Proofs.YtakiinghipjopaaGreatDoor
open Go.RowKit Go.Shelf

/-- eight bytes of a row -/
theorem bs_cut8 {w : World} {B : Nat} {b o n c : Nat} {bs : List Int} (h : Bs w B (.slice (some ⟨b, o, none⟩) n c) bs) (hn : n = bs.length) (p : Nat) (hp : p + 8 ≤ n) :
    Bs w B (.slice (some ⟨b, o + p, none⟩) 8 (c - p)) ((bs.drop p).take 8) := by
  have h1 := h.1
  rw [← hn] at h1
  have h4 := Sl.cut h1 (lo := p) (hi := p + 8) (a' := some ⟨b, o + p, none⟩) (by omega) hp (fun _ => by simp [add_mk]) (fun h => by cases h)
  have e1 : p + 8 - p = 8 := by omega
  have e2 : ((bs.map (Value.int .u8)).take (p + 8)).drop p = ((bs.drop p).take 8).map (.int .u8) := by
    rw [List.drop_take, List.map_take, List.map_drop, e1]
  rw [e1, e2] at h4
  refine ⟨?_, fun x hx => h.2 x (List.mem_of_mem_drop (List.mem_of_mem_take hx))⟩
  have e3 : ((bs.drop p).take 8).length = 8 := by rw [List.length_take, List.length_drop]; omega
  rw [e3]
  exact h4
theorem num8 {w : World} {B : Nat} {b o n c : Nat} {bs : List Int} (h : Bs w B (.slice (some ⟨b, o, none⟩) n c) bs) (hn : n = bs.length) (hB : B ≤ w.heap.size) (p : Nat) (hp : p + 8 ≤ n) (W : World) (hW : Below w.heap.size w W) :
    Calls Tryz.prog 33 #[.slice (some ⟨b, o + p, none⟩) 8 (c - p)] W fun e w' => e = .returned (.int .u64 (getN ((bs.drop p).take 8))) ∧ W = w' := by
  have h1 := bs_cut8 h hn p hp
  exact rnumber_any W B _ _ ⟨h1.1.below (hW.mono hB), h1.2⟩ (by rw [List.length_take]; omega)
section
variable {ops : Array Oper} {w : World} {Q : Exit → Act → World → Prop} {a : Act} {rest : List Oper} {dst : Option Tmp} {os ox : Operand} {ty : TypeId} {pos : String} {after : Array Edge}
/-- append of an operation -/
theorem wl_append_op {base : Nat} {v : Value} {ps : List (OpV × Value)} (hown : w.ownsRow base 25 5 v ps.length (ps.flatMap opCells)) {q : Nat} {p : OpV × Value} (hq : w.heap[q]? = some (.cells (opCells p).toArray 25 (0, 0)))
    (h1 : ∀ u ∈ opCells p, u.oneCell' = true) (hb : ps.length ≤ 100000) (hbase : base ≤ w.heap.size) (hs : a.eval os = v) (hxx : a.eval ox = .slice (some ⟨q, 0, none⟩) 1 1)
    (hK : ∀ A n c w', w'.ownsRow base 25 5 (.slice A n c) (ps.length + 1) (ps.flatMap opCells ++ opCells p) → w.grownBy w' v.ownBlock → ((Value.slice A n c).ownBlock = v.ownBlock ∨ (Value.slice A n c).ownBlock = some w.heap.size) → wpList Tryz.prog ops Q rest (a.put dst (.slice A n c)) w') :
    wpList Tryz.prog ops Q (⟨dst, .call { callee := .builtin .append, args := #[os, ox], argTypes := #[26, 26] }, ty, pos, after, none⟩ :: rest) a w := by
  refine wpList_plain rfl fun K hKK => ?_
  obtain ⟨A, n, c, w', hr, h2, h3, h4⟩ := run_append_op ty hown hq h1 hb hbase
  unfold Oper.wp execOp
  simp only [resolve, invoke, builtin, Sem.run_bind, Sem.run_pure, Result.andThen_ok, List.map_toArray, List.map_cons, List.map_nil, hs, hxx, hr]
  exact hKK _ _ (hK A n c w' h2 h3 h4)
end
set_option maxRecDepth 100000 in
set_option maxHeartbeats 8000000 in
theorem rread_any (w : World) (B : Nat) (v : Value) (bs : List Int) (hv : Bs w B v bs) (hB : B ≤ w.heap.size) (hl : bs.length ≤ 100000) :
    Calls Tryz.prog 11 #[v] w fun e w' => ∃ A n c ps, e = .returned (.tuple #[.slice A n c, .int .i64 (readR bs).2]) ∧ (readR bs).1 = ps.map (·.1) ∧ OpsAt w' w'.heap.size (.slice A n c) ps ∧ ps.length ≤ bs.length ∧ Below w.heap.size w w' := by
  obtain ⟨Av, cv, rfl, -, -⟩ := hv.1.form
  obtain ⟨L, hL⟩ : ∃ L, L = bs.length := ⟨_, rfl⟩
  have HV := Lib.hid hv
  rw [← hL] at HV ⊢
  have HL : Hid (L = bs.length ∧ L ≤ 100000 ∧ B ≤ w.heap.size) := ⟨hL, by omega, hB⟩
  have hL1 : (L : Int) ≤ 100000 := by omega
  clear hv hL hB hl
  go_enter Tryz.func11, Tryz.ntmps11
  go_wp2_with fail
  go_loopw [4, 5] (fun vl va wr => ∃ (f at_ : Nat) (ps : List (OpV × Value)) (Al : Option Addr) (nl cl : Nat), va = .int .i64 at_ ∧ vl = .slice Al nl cl ∧ Hid (at_ ≤ L ∧ L - at_ < f ∧ readF f (bs.drop at_) (ps.map (·.1)) = readR bs ∧ OwnO wr w.heap.size (.slice Al nl cl) ps ∧ Below w.heap.size w wr ∧ ps.length ≤ at_)) (fun _ va _ => L - (intOf va).toNat)
  case atStart => exact ⟨bs.length + 1, 0, [], none, 0, 0, rfl, rfl, Nat.zero_le _, by have := HL.out; omega, rfl, OwnO.nil _ _, Below.refl _ _, Nat.zero_le _⟩
  case round =>
    obtain ⟨f, p, ps, Al, nl, cl, rfl, rfl, hK⟩ := hrel
    obtain ⟨k1, k2, k3, k4, k5, k6⟩ := hK.out
    have K1 := Lib.hid k1
    have K2 := Lib.hid k2
    have K3 := Lib.hid k3
    have K4 := Lib.hid k4
    have K5 := Lib.hid k5
    have K6 := Lib.hid k6
    have hp0 : (0 : Int) ≤ p := by omega
    have hpL : (p : Int) ≤ L := by omega
    clear hK k1 k2 k3 k4 k5 k6
    obtain ⟨wo, hwo⟩ : ∃ x, x = wr := ⟨_, rfl⟩
    subst hwo
    obtain ⟨f', hf'⟩ : ∃ f', f = f' + 1 := ⟨f - 1, by have := K2.out; omega⟩
    subst hf'
    by_cases hlt : p < L
    · have hlt' : (p : Int) < L := by omega
      have hdl : (bs.drop p).length = L - p := by rw [List.length_drop, HL.out.1]
      obtain ⟨cur, hcur⟩ : ∃ c, c = bs.drop p := ⟨_, rfl⟩
      rw [← hcur] at hdl K3
      have Hcur := Lib.hid hcur
      have Hdl := Lib.hid hdl
      have hne : ¬ cur.length = 0 := by omega
      have Hne := Lib.hid hne
      clear hcur hdl hne
      by_cases h26 : L < p + 26
      · have h26' : (L : Int) < p + 26 := by omega
        have HR : Hid (readR bs = ([], 270)) := by
          have e := K3.out
          unfold readF at e
          rw [if_neg Hne.out, if_pos (.inl (by have := Hdl.out; omega))] at e
          exact e.symm
        clear hlt h26
        go_wp2_with fail
        go_ret2
        rw [HR.out]
        exact ⟨_, _, _, [], rfl, rfl, (OwnO.nil wo wo.heap.size).at_, Nat.zero_le _, K5.out⟩
      · have h26' : ¬ (L : Int) < p + 26 := by omega
        have hv := HV.out
        obtain ⟨b, o, cb, hAb, hcb, hmb, hrow⟩ := (show Sl w B 1 (.slice Av L cv) L (bs.map (.int .u8)) by have h := hv.1; rw [← HL.out.1] at h; exact h).row (by omega)
        cases hAb
        have hcell : ∀ j, j < L → ∀ W, Below w.heap.size w W → W.cell? ⟨b, o + j, none⟩ = some (.int .u8 (bs.getD j 0)) := fun j hj W hW => by
          refine (hW.cell (p := ⟨b, o + j, none⟩) (Nat.lt_of_lt_of_le hrow.1 HL.out.2.2)).trans (hrow.2 j _ ?_)
          rw [List.getElem?_map, List.getElem?_eq_getElem (by rw [← HL.out.1]; exact hj), List.getD_eq_getElem?_getD, List.getElem?_eq_getElem (by rw [← HL.out.1]; exact hj)]
          rfl
        have Hcell := Lib.hid hcell
        have hgd : ∀ j, cur.getD j 0 = bs.getD (p + j) 0 := fun j => by
          rw [Hcur.out, List.getD_eq_getElem?_getD, List.getElem?_drop, List.getD_eq_getElem?_getD]
        have Hgd := Lib.hid hgd
        have hb25 : IsByte (bs.getD (p + 25) 0) := by
          rw [List.getD_eq_getElem?_getD, List.getElem?_eq_getElem (by have := HL.out; omega)]
          exact HV.out.2 _ (List.getElem_mem _)
        obtain ⟨d, hd⟩ : ∃ d : Nat, bs.getD (p + 25) 0 = d := ⟨(bs.getD (p + 25) 0).toNat, by have := hb25.1; omega⟩
        have hd255 : (d : Int) ≤ 255 := by have := hb25.2; omega
        have hd0 : (0 : Int) ≤ d := by omega
        obtain ⟨p25, hp25⟩ : ∃ q, q = p + 25 := ⟨_, rfl⟩
        have y25 := hcell (p + 25) (by omega) wo K5.out
        rw [hd, ← hp25] at y25
        have hp25i : (p : Int) + 25 = p25 := by omega
        have hp25L : (p25 : Int) < L := by omega
        have hp250 : (0 : Int) ≤ p25 := by omega
        have hw25 : RowKit.wrap64 ((p : Int) + 25) = (p25 : Int) := by unfold RowKit.wrap64; omega
        have hw26 : RowKit.wrap64 ((p : Int) + 26) = (p : Int) + 26 := by unfold RowKit.wrap64; omega
        have hw26d : RowKit.wrap64 ((p : Int) + 26 + d) = (p : Int) + 26 + d := by unfold RowKit.wrap64; omega
        have Hd : Hid (cur.getD 25 0 = (d : Int)) := (hgd 25).trans hd
        have Hcb : Hid (L ≤ cv) := hcb
        have Hp25 := Lib.hid hp25
        clear hv hcell hgd hb25 hd hp25 hmb hrow hcb
        by_cases hsh : L < p + 26 + d
        · have hsh' : (L : Int) < p + 26 + d := by omega
          have HR : Hid (readR bs = ([], 270)) := by
            have e := K3.out
            unfold readF at e
            rw [if_neg Hne.out, if_pos (.inr (by rw [Hd.out]; have := Hdl.out; omega))] at e
            exact e.symm
          clear hlt h26 hsh
          go_wp2_with fail
          go_ret2
          rw [HR.out]
          exact ⟨_, _, _, rfl, [], rfl, (OwnO.nil wo wo.heap.size).at_, Nat.zero_le _, K5.out⟩
        · have hsh' : ¬ (L : Int) < p + 26 + d := by omega
          have HF : Hid (p < L ∧ p + 26 + d ≤ L) := ⟨hlt, by omega⟩
          clear hlt h26 hsh
          go_upto_region 6 with fail
          clear hw25 hw26 hw26d hp25i y25
          have hp25 := Hp25.out
          obtain ⟨q1, hq1⟩ : ∃ q, q = p + 1 := ⟨_, rfl⟩
          obtain ⟨q9, hq9⟩ : ∃ q, q = p + 9 := ⟨_, rfl⟩
          obtain ⟨q17, hq17⟩ : ∃ q, q = p + 17 := ⟨_, rfl⟩
          have i1 : IntKind.i64.wrap ((p : Int) + 1) = (q1 : Int) := by rw [IntKind.wrap_i64]; omega
          have i9 : IntKind.i64.wrap ((p : Int) + 9) = (q9 : Int) := by rw [IntKind.wrap_i64]; omega
          have i17 : IntKind.i64.wrap ((p : Int) + 17) = (q17 : Int) := by rw [IntKind.wrap_i64]; omega
          have i25 : IntKind.i64.wrap ((p : Int) + 25) = (p25 : Int) := by rw [IntKind.wrap_i64]; omega
          have j1 : q1 ≤ q9 := by omega
          have j9 : q9 ≤ q17 := by omega
          have j17 : q17 ≤ p25 := by omega
          have c1 : q1 < cv := by have := Hcb.out; have := HF.out; omega
          have c9 : q9 < cv := by have := Hcb.out; have := HF.out; omega
          have c17 : q17 < cv := by have := Hcb.out; have := HF.out; omega
          have n1 : ¬ cv = q1 := by omega
          have n9 : ¬ cv = q9 := by omega
          have n17 : ¬ cv = q17 := by omega
          have c9' : q9 ≤ cv := by omega
          have c17' : q17 ≤ cv := by omega
          have c25 : p25 ≤ cv := by have := Hcb.out; have := HF.out; omega
          have m1 : (0 : Int) ≤ q1 := by omega
          have m9 : (0 : Int) ≤ q9 := by omega
          have m17 : (0 : Int) ≤ q17 := by omega
          have s1 : q9 - q1 = 8 := by omega
          have s9 : q17 - q9 = 8 := by omega
          have s17 : p25 - q17 = 8 := by omega
          obtain ⟨x0, hx0⟩ : ∃ x, x = bs.getD p 0 := ⟨_, rfl⟩
          have y0 := Hcell.out p HF.out.1 wo K5.out
          rw [← hx0] at y0
          have HS : Hid (∀ W, Below wo.heap.size wo W → W.cell? ⟨b, o + p, none⟩ = some (.int .u8 x0)) := fun W hW => by
            rw [hx0]
            exact Hcell.out p HF.out.1 W (K5.out.trans (hW.mono K5.out.size))
          obtain ⟨V1, hV1⟩ : ∃ V, V = getN ((bs.drop q1).take 8) := ⟨_, rfl⟩
          obtain ⟨V9, hV9⟩ : ∃ V, V = getN ((bs.drop q9).take 8) := ⟨_, rfl⟩
          obtain ⟨V17, hV17⟩ : ∃ V, V = getN ((bs.drop q17).take 8) := ⟨_, rfl⟩
          have HVs : Hid (V1 = getN ((bs.drop q1).take 8) ∧ V9 = getN ((bs.drop q9).take 8) ∧ V17 = getN ((bs.drop q17).take 8) ∧ x0 = bs.getD p 0) := ⟨hV1, hV9, hV17, hx0⟩
          have Hqs : Hid (q1 = p + 1 ∧ q9 = p + 9 ∧ q17 = p + 17) := ⟨hq1, hq9, hq17⟩
          have HN1 : Hid (∀ W, Below wo.heap.size wo W → Calls Tryz.prog 33 #[.slice (some ⟨b, o + q1, none⟩) 8 (cv - q1)] W fun e w' => e = .returned (.int .u64 V1) ∧ W = w') := fun W hW => by
            rw [hV1]
            exact num8 HV.out HL.out.1 HL.out.2.2 q1 (by have := HF.out; omega) W (K5.out.trans (hW.mono K5.out.size))
          have HN9 : Hid (∀ W, Below wo.heap.size wo W → Calls Tryz.prog 33 #[.slice (some ⟨b, o + q9, none⟩) 8 (cv - q9)] W fun e w' => e = .returned (.int .u64 V9) ∧ W = w') := fun W hW => by
            rw [hV9]
            exact num8 HV.out HL.out.1 HL.out.2.2 q9 (by have := HF.out; omega) W (K5.out.trans (hW.mono K5.out.size))
          have HN17 : Hid (∀ W, Below wo.heap.size wo W → Calls Tryz.prog 33 #[.slice (some ⟨b, o + q17, none⟩) 8 (cv - q17)] W fun e w' => e = .returned (.int .u64 V17) ∧ W = w') := fun W hW => by
            rw [hV17]
            exact num8 HV.out HL.out.1 HL.out.2.2 q17 (by have := HF.out; omega) W (K5.out.trans (hW.mono K5.out.size))
          have HA1 : Hid (Below wo.heap.size wo wo.drew) := (Below.refl _ _).drew
          have HA2 : Hid (Below wo.heap.size wo (wo.alloc (.cells #[.int .u8 0, .int .u64 0, .int .u64 0, .int .u64 0, .slice none 0 0] 25)).drew) := (bel1 _ _).drew
          have HA3 : Hid (Below wo.heap.size wo (wo.alloc (.cells #[.int .u8 x0, .int .u64 V1, .int .u64 V9, .int .u64 V17, .slice none 0 0] 25)).drew) := (bel1 _ _).drew
          clear hx0 hV1 hV9 hV17 hq1 hq9 hq17 hp25
          go_cut [6] from 12 to 79 (fun v6 wx => v6 = .pointer (some ⟨wo.heap.size, 0, none⟩) ∧ Hid (wx.heap[wo.heap.size]? = some (.cells #[.int .u8 x0, .int .u64 V1, .int .u64 V9, .int .u64 V17, .slice none 0 0] 25 (0, 0)) ∧ Below wo.heap.size wo wx))
          case first =>
            go_region_held3 (fun w' => w'.cell? ⟨b, o + p, none⟩ = some (.int .u8 x0)) (first | with_reducible exact HS.out _ HA1.out | with_reducible exact HS.out _ HA2.out | with_reducible exact HS.out _ HA3.out | go_keep)
              (first
                | ((go_at_call 33); (with_reducible refine (HN1.out _ HA1.out).mono ?_); rintro e w3 ⟨rfl, rfl⟩)
                | ((go_at_call 33); (with_reducible refine (HN9.out _ HA1.out).mono ?_); rintro e w3 ⟨rfl, rfl⟩)
                | ((go_at_call 33); (with_reducible refine (HN17.out _ HA1.out).mono ?_); rintro e w3 ⟨rfl, rfl⟩)
                | ((go_at_call 33); (with_reducible refine (HN1.out _ HA2.out).mono ?_); rintro e w3 ⟨rfl, rfl⟩)
                | ((go_at_call 33); (with_reducible refine (HN9.out _ HA2.out).mono ?_); rintro e w3 ⟨rfl, rfl⟩)
                | ((go_at_call 33); (with_reducible refine (HN17.out _ HA2.out).mono ?_); rintro e w3 ⟨rfl, rfl⟩))
            all_goals (
              go_wp2_with fail
              go_meet
              case rel => exact ⟨rfl, heap_alloc_new _ _, HA3.out⟩)
          case rest =>
            obtain ⟨rfl, hG⟩ := hcut
            obtain ⟨Wg, hWg⟩ : ∃ y, y = wc := ⟨_, rfl⟩
            subst hWg
            obtain ⟨g, hg⟩ : ∃ g, g = wo.heap.size := ⟨_, rfl⟩
            rw [← hg] at hG ⊢
            have Hg := Lib.hid hg
            have BG : Hid (Below w.heap.size w Wg) := K5.out.trans (by have h := hG.out.2; rw [Hg.out] at h; exact h.mono K5.out.size)
            have BGo : Hid (Below wo.heap.size wo Wg) := by have h := hG.out.2; rw [Hg.out] at h; exact h
            have RG := Lib.hid hG.out.1
            clear i1 i9 i17 i25 j1 j9 j17 c1 c9 c17 n1 n9 n17 c9' c17' c25 m1 m9 m17 s1 s9 s17 y0 hg hG
            obtain ⟨m26, hm26⟩ : ∃ q, q = p + 26 := ⟨_, rfl⟩
            obtain ⟨m, hm⟩ : ∃ q, q = m26 + d := ⟨_, rfl⟩
            have y25 := Hcell.out p25 (by have := HF.out; have := Hp25.out; omega) Wg BG.out
            have e25 : bs.getD p25 0 = (d : Int) := by rw [Hp25.out, ← Hgd.out 25]; exact Hd.out
            rw [e25] at y25
            have a1 : RowKit.wrap64 ((p : Int) + 26) = (m26 : Int) := by unfold RowKit.wrap64; omega
            have a1' : (p : Int) + 26 = (m26 : Int) := by omega
            have a2 : RowKit.wrap64 ((m26 : Int) + d) = (m : Int) := by unfold RowKit.wrap64; omega
            have a2' : (m26 : Int) + d = (m : Int) := by omega
            have a3 : RowKit.wrap64 ((p : Int) + 25) = (p25 : Int) := by have := Hp25.out; unfold RowKit.wrap64; omega
            have a3' : (p : Int) + 25 = (p25 : Int) := by have := Hp25.out; omega
            have Hm : Hid (m26 = p + 26 ∧ m = p + 26 + d) := ⟨hm26, by omega⟩
            clear e25 hm26 hm
            go_upto_region 8 with fail
            clear y25 a1 a1' a2 a2' a3 a3'
            have hmm : m26 ≤ m := by have := Hm.out; omega
            have hmL : m ≤ cv := by have := Hm.out; have := HF.out; have := Hcb.out; omega
            have hmd : m - m26 = d := by have := Hm.out; omega
            have HSl : Hid (∀ W, Below w.heap.size w W → ∀ a', (0 < d → some ⟨b, o + m26, none⟩ = a') → (a' = none → cv - m26 = 0) → Sl W B 1 (.slice a' d (cv - m26)) d ((opOf cur).data.map (.int .u8))) := fun W hW a' h1 h2 => by
              have h3 := HV.out.1
              rw [← HL.out.1] at h3
              have h4 := (h3.below (hW.mono HL.out.2.2)).cut (lo := m26) (hi := m) (a' := a') hmm (by have := Hm.out; have := HF.out; omega) (fun h => by rw [← h1 (by omega)]; simp [add_mk]) h2
              have e2 : ((bs.map (Value.int .u8)).take m).drop m26 = (opOf cur).data.map (.int .u8) := by
                show _ = ((cur.drop 26).take (cur.getD 25 0).toNat).map _
                rw [Hd.out, Int.toNat_natCast, List.drop_take, List.map_take, hmd, Hcur.out, List.drop_drop, Hm.out.1, List.map_drop]
              rw [hmd, e2] at h4
              exact h4
            obtain ⟨x1, x2, x3, x4, x5⟩ := cells5 RG.out
            clear x1 x2 x3 x4
            have i26 : IntKind.i64.wrap ((p : Int) + 26) = (m26 : Int) := by have := Hm.out; rw [IntKind.wrap_i64]; omega
            have h26 : (0 : Int) ≤ m26 := by omega
            have Hgw : Hid (g < Wg.heap.size) := (Array.getElem?_eq_some_iff.1 RG.out).1
            have BGd : Hid (Below w.heap.size w Wg.drew) := BG.out.drew
            have hdat : Hid ((opOf cur).data.length = d) := by
              show ((cur.drop 26).take (cur.getD 25 0).toNat).length = d
              rw [Hd.out, Int.toNat_natCast, List.length_take, List.length_drop]
              have := Hdl.out
              have := HF.out
              omega
            go_cut [6] from 12 to 79 (fun v6 wx => v6 = .pointer (some ⟨g, 0, none⟩) ∧ ∃ A3 c3, Hid (wx.heap[g]? = some (.cells #[.int .u8 x0, .int .u64 V1, .int .u64 V9, .int .u64 V17, .slice A3 d c3] 25 (0, 0)) ∧ OwnY wx Wg.heap.size (.slice A3 d c3) (opOf cur).data ∧ Below wo.heap.size wo wx ∧ Wg.heap.size ≤ wx.heap.size))
            case first =>
              by_cases hcc : cv = m26
              · have hd00 : d = 0 := by have := Hm.out; have := HF.out; have := Hcb.out; omega
                have hmm0 : m = m26 := by omega
                have HS0 : Hid (Sl Wg.drew B 1 (.slice (some ⟨b, o, none⟩) 0 0) 0 ((opOf cur).data.map (.int .u8))) := by
                  have h := HSl.out Wg.drew BGd.out (some ⟨b, o, none⟩) (fun h => absurd h (by omega)) (fun h => by cases h)
                  rw [hd00, hcc, Nat.sub_self] at h
                  exact h
                subst hmm0
                subst hcc
                subst hd00
                go_region_law (first
                  | ((with_reducible refine step_append_bs (os := .tmp 67) (ox := .tmp 72) (base := Wg.heap.size) (v := .slice none 0 0) (xs := []) (ys := (opOf cur).data) (ownY_nil _ _) HS0.out ?_ ?_ ?_ ?_ ?_); go_must ((· have := hdat.out; simp only [List.length_nil]; omega); (· exact Nat.le_refl _); (· rfl); (· rfl); intro A3 n3 c3 W3 ho hg hn; have OB := Lib.hid ho; have RB := Lib.hid ((hg.block g Hgw.out (by simp [Value.ownBlock])).trans RG.out); obtain ⟨z0, z1, z2, z3, z4⟩ := cells5 RB.out; have zf := cells5_free RB.out 4; have SB : Hid (Wg.heap.size ≤ W3.heap.size) := hg.size; have BB : Hid (Below wo.heap.size wo W3) := BGo.out.drew.grown hg (by show _ ≤ Wg.heap.size; exact BGo.out.size) (fun j hj => by cases hj); clear ho hg hn)))
                clear z0 z1 z2 z3 z4 zf x5
                go_wp2_with fail
                go_meet
                case rel =>
                  have hn3 : n3 = (opOf cur).data.length := OwnY.len OB.out
                  rw [hdat.out] at hn3
                  subst hn3
                  exact ⟨rfl, A3, c3, set_here RB.out _, OwnY.setOff OB.out Hgw.out, BB.out.setCell (by rw [Hg.out]; exact Nat.le_refl _) _, by simpa using SB.out⟩
              · have hcc' : m26 < cv := by have := hmm; omega
                have HS0 : Hid (Sl Wg.drew B 1 (.slice (some ⟨b, o + m26, none⟩) d (cv - m26)) d ((opOf cur).data.map (.int .u8))) := HSl.out Wg.drew BGd.out _ (fun _ => rfl) (fun h => by cases h)
                go_region_law (first
                  | ((with_reducible refine step_append_bs (os := .tmp 67) (ox := .tmp 72) (base := Wg.heap.size) (v := .slice none 0 0) (xs := []) (ys := (opOf cur).data) (ownY_nil _ _) HS0.out ?_ ?_ ?_ ?_ ?_); go_must ((· have := hdat.out; simp only [List.length_nil]; omega); (· exact Nat.le_refl _); (· rfl); (· rfl); intro A3 n3 c3 W3 ho hg hn; have OB := Lib.hid ho; have RB := Lib.hid ((hg.block g Hgw.out (by simp [Value.ownBlock])).trans RG.out); obtain ⟨z0, z1, z2, z3, z4⟩ := cells5 RB.out; have zf := cells5_free RB.out 4; have SB : Hid (Wg.heap.size ≤ W3.heap.size) := hg.size; have BB : Hid (Below wo.heap.size wo W3) := BGo.out.drew.grown hg (by show _ ≤ Wg.heap.size; exact BGo.out.size) (fun j hj => by cases hj); clear ho hg hn)))
                clear z0 z1 z2 z3 z4 zf x5
                go_wp2_with fail
                go_meet
                case rel =>
                  have hn3 : n3 = (opOf cur).data.length := OwnY.len OB.out
                  rw [hdat.out] at hn3
                  subst hn3
                  exact ⟨rfl, A3, c3, set_here RB.out _, OwnY.setOff OB.out Hgw.out, BB.out.setCell (by rw [Hg.out]; exact Nat.le_refl _) _, by simpa using SB.out⟩
            case rest =>
              obtain ⟨rfl, A3, c3, hQ⟩ := hcut
              obtain ⟨W3, hW3⟩ : ∃ y, y = wc := ⟨_, rfl⟩
              subst hW3
              have R3 := Lib.hid hQ.out.1
              have O3 := Lib.hid hQ.out.2.1
              have B3 := Lib.hid hQ.out.2.2.1
              have S3 := Lib.hid hQ.out.2.2.2
              clear hQ x5 i26 hmm hmL hmd
              have BW : Hid (Below w.heap.size w W3) := K5.out.trans (B3.out.mono K5.out.size)
              obtain ⟨pv, hpv⟩ : ∃ q : OpV × Value, q = (opOf cur, .slice A3 d c3) := ⟨_, rfl⟩
              have Hop : Hid (opCells pv = [.int .u8 x0, .int .u64 V1, .int .u64 V9, .int .u64 V17, .slice A3 d c3]) := by
                show _ = _
                rw [hpv]
                have h1 := HVs.out
                have h2 := Hqs.out
                have e0 : (opOf cur).code = x0 := by show cur.getD 0 0 = x0; rw [Hgd.out, h1.2.2.2]; rfl
                have e1 : (opOf cur).vol = V1 := by show getN ((cur.drop 1).take 8) = V1; rw [h1.1, Hcur.out, List.drop_drop, h2.1]
                have e2 : (opOf cur).at_ = V9 := by show getN ((cur.drop 9).take 8) = V9; rw [h1.2.1, Hcur.out, List.drop_drop, h2.2.1]
                have e3 : (opOf cur).n = V17 := by show getN ((cur.drop 17).take 8) = V17; rw [h1.2.2.1, Hcur.out, List.drop_drop, h2.2.2]
                simp only [opCells, e0, e1, e2, e3]
              have Hpv1 : Hid (pv.1 = opOf cur ∧ pv.2 = .slice A3 d c3) := by rw [hpv]; exact ⟨rfl, rfl⟩
              have hcb : ∀ x ∈ cur, IsByte x := fun x hx => by rw [Hcur.out] at hx; exact HV.out.2 x (List.mem_of_mem_drop hx)
              have Hok : Hid (OpOk W3 W3.heap.size pv) := by
                have hby : ∀ x ∈ (opOf cur).data, IsByte x := fun x hx => hcb x (List.mem_of_mem_drop (List.mem_of_mem_take hx))
                have hg8 : ∀ k, IsU64 (getN ((cur.drop k).take 8)) := fun k => by
                  have h1 := getN_rng ((cur.drop k).take 8) (fun x hx => hcb x (List.mem_of_mem_drop (List.mem_of_mem_take hx)))
                  have h2 : ((cur.drop k).take 8).length ≤ 8 := by rw [List.length_take]; omega
                  exact ⟨h1.1, Int.lt_of_lt_of_le h1.2 (pow8_le _ h2)⟩
                have hx0b : IsByte (cur.getD 0 0) := by
                  rw [List.getD_eq_getElem?_getD, List.getElem?_eq_getElem (by have := Hdl.out; have := HF.out; omega)]
                  exact hcb _ (List.getElem_mem _)
                show OpOk W3 W3.heap.size pv
                rw [hpv]
                exact ⟨O3.out.bs hby, hx0b, hg8 1, hg8 9, hg8 17⟩
              have Hblk : Hid (∀ g', pv.2.ownBlock = some g' → Wg.heap.size ≤ g' ∧ g' < W3.heap.size) := fun g' hg' => by
                rw [hpv] at hg'
                exact World.ownsRow.lt O3.out g' hg'
              clear hpv hcb
              have hbA := bel1 W3 (.cells #[.int .u8 x0, .int .u64 V1, .int .u64 V9, .int .u64 V17, .slice A3 d c3] 25)
              have KA : Hid (OwnO (W3.alloc (.cells #[.int .u8 x0, .int .u64 V1, .int .u64 V9, .int .u64 V17, .slice A3 d c3] 25)) w.heap.size (.slice Al nl cl) ps) := K4.out.on (B3.out.trans (hbA.mono B3.out.size))
              have KA1 := Lib.hid KA.out.1
              have BA : Hid (Below w.heap.size w (W3.alloc (.cells #[.int .u8 x0, .int .u64 V1, .int .u64 V9, .int .u64 V17, .slice A3 d c3] 25))) := BW.out.trans (hbA.mono BW.out.size)
              have QA : Hid ((W3.alloc (.cells #[.int .u8 x0, .int .u64 V1, .int .u64 V9, .int .u64 V17, .slice A3 d c3] 25)).heap[W3.heap.size]? = some (.cells (opCells pv).toArray 25 (0, 0))) := by
                show _ = _
                rw [Hop.out]
                exact heap_alloc_new _ _
              have OkA : Hid (OpOk (W3.alloc (.cells #[.int .u8 x0, .int .u64 V1, .int .u64 V9, .int .u64 V17, .slice A3 d c3] 25)) (W3.alloc (.cells #[.int .u8 x0, .int .u64 V1, .int .u64 V9, .int .u64 V17, .slice A3 d c3] 25)).heap.size pv) := (Hok.out.on hbA).more' hbA.size
              have H1c : Hid (∀ u ∈ opCells pv, u.oneCell' = true) := by
                show ∀ u ∈ opCells pv, _
                rw [Hop.out]
                intro u hu
                simp only [List.mem_cons, List.mem_nil_iff, or_false] at hu
                rcases hu with rfl | rfl | rfl | rfl | rfl <;> rfl
              have HpsL : Hid (ps.length ≤ 100000) := by
                have := K6.out
                have := HL.out
                show _ ≤ _
                omega
              have Hpo : Hid (∀ g', pv.2.ownBlock = some g' → g' < (W3.alloc (.cells #[.int .u8 x0, .int .u64 V1, .int .u64 V9, .int .u64 V17, .slice A3 d c3] 25)).heap.size ∧ (Value.slice Al nl cl).ownBlock ≠ some g') := fun g' hg' => by
                have h1 := Hblk.out g' hg'
                refine ⟨by simp; omega, fun e => ?_⟩
                have h2 := (World.ownsRow.lt K4.out.1 g' e).2
                have h3 := BGo.out.size
                omega
              have HK : Hid (readF f' (bs.drop m) ((ps ++ [pv]).map (·.1)) = readR bs) := by
                have e := K3.out
                unfold readF at e
                have hx : ¬ (cur.length < 26 ∨ (cur.length : Int) - 26 < cur.getD 25 0) := by
                  rw [Hd.out]
                  have := Hdl.out
                  have := HF.out
                  omega
                rw [if_neg Hne.out, if_neg hx, Hd.out, Int.toNat_natCast] at e
                show _ = _
                rw [← e, List.map_append, List.map_cons, List.map_nil, Hpv1.out.1, Hcur.out, List.drop_drop]
                have hmm : m = p + (26 + d) := by have := Hm.out; omega
                rw [hmm]
              obtain ⟨x1, x2, x3, x4, x5⟩ := cells5 R3.out
              clear hbA
              go_wp2_with (first
                | ((with_reducible refine wl_append_op (os := .tmp 75) (ox := .tmp 77) (base := w.heap.size) (q := W3.heap.size) (p := pv) KA1.out QA.out H1c.out HpsL.out BA.out.size ?_ ?_ ?_); go_must ((· rfl); (· rfl); intro A7 n7 c7 w7 ho hg hn; have HO7 := Lib.hid (KA.out.push OkA.out Hpo.out ho hg hn); have B7 : Hid (Below w.heap.size w w7) := BA.out.grown hg BA.out.size (fun j hj => (World.ownsRow.lt KA1.out j hj).1); clear ho hg hn)))
              go_roundw
              case rel =>
                refine ⟨f', m, ps ++ [pv], A7, n7, c7, rfl, rfl, ?_, ?_, HK.out, HO7.out, B7.out, ?_⟩
                · have := Hm.out; have := HF.out; omega
                · have := K2.out; have := Hm.out; have := HF.out; omega
                · rw [List.length_append, List.length_singleton]; have := K6.out; have := Hm.out; omega
              case measure => have := Hm.out; have := HF.out; show L - (m : Int).toNat < L - (p : Int).toNat; omega
    · obtain rfl : p = L := by omega
      have hlt' : ¬ (p : Int) < p := by omega
      have HR : Hid (readR bs = (ps.map (·.1), 0)) := by
        have e := K3.out
        have e0 : (bs.drop p).length = 0 := by rw [List.length_drop, HL.out.1]; omega
        unfold readF at e
        rw [if_pos e0] at e
        exact e.symm
      clear hlt
      go_wp2_with fail
      go_ret2
      rw [HR.out]
      first | exact ⟨_, _, _, ps, rfl, rfl, K4.out.at_, by have := K6.out; have := HL.out; omega, K5.out⟩ | exact ⟨_, _, _, rfl, ps, rfl, K4.out.at_, by have := K6.out; have := HL.out; omega, K5.out⟩
end Go.Proofs.YtakiinghipjopaaGreatDoor
