/-
  ops.Read: the walk.
-/
import Derived.Test.YtakiinghipjopaaGreatDoorReadMath27
import Derived.Test.YtakiinghipjopaaGreatDoorJoinA27
namespace Go.Proofs.YtakiinghipjopaaGreatDoor
open Go.RowKit

def sliceLen : Value → Nat
  | .slice _ n _ => n
  | _ => 0
/-- bytes stay, if the cells of their block do -/
theorem Bs.off {w w' : World} {B B' : Nat} {v : Value} {bs : List Int} (h : Bs w B v bs) (hB : B ≤ B') (hk : ∀ b o x, v.ownBlock = some b → b < B → w.cell? ⟨b, o, none⟩ = some x → w'.cell? ⟨b, o, none⟩ = some x) : Bs w' B' v bs := by
  obtain ⟨⟨hl, A, c, rfl, hc, hm, hz, hr⟩, hb⟩ := h
  refine ⟨⟨hl, A, c, rfl, hc, hm, hz, fun hp => ?_⟩, hb⟩
  obtain ⟨b, o, rfl, h1, h2⟩ := hr hp
  exact ⟨b, o, rfl, Nat.lt_of_lt_of_le h1 hB, fun j u hu => hk b _ u rfl h1 (h2 j u hu)⟩
/-- the operations that a list of its own holds, its own row apart from their data -/
def OwnO (w : World) (base : Nat) (v : Value) (ps : List (OpV × Value)) : Prop :=
  w.ownsRow base 25 5 v ps.length (ps.flatMap opCells) ∧ ∀ p ∈ ps, OpOk w w.heap.size p ∧ ∀ g, p.2.ownBlock = some g → g < w.heap.size ∧ v.ownBlock ≠ some g
theorem OwnO.nil (w : World) (base : Nat) : OwnO w base (.slice none 0 0) [] := ⟨World.ownsRow_nil _ _ _ _, fun p hp => by cases hp⟩
theorem OwnO.on {w w' : World} {base : Nat} {v : Value} {ps : List (OpV × Value)} (h : OwnO w base v ps) (hb : Below w.heap.size w w') : OwnO w' base v ps :=
  ⟨ownsRow_on h.1 hb, fun p hp => ⟨((h.2 p hp).1.on hb).more' hb.size, fun g hg => ⟨Nat.lt_of_lt_of_le ((h.2 p hp).2 g hg).1 hb.size, ((h.2 p hp).2 g hg).2⟩⟩⟩
theorem OwnO.at_ {w : World} {base : Nat} {v : Value} {ps : List (OpV × Value)} (h : OwnO w base v ps) : OpsAt w w.heap.size v ps := ⟨Sl.of_own h.1, fun p hp => (h.2 p hp).1⟩
theorem OwnO.push {w w' : World} {base : Nat} {v v' : Value} {ps : List (OpV × Value)} {p : OpV × Value} (h : OwnO w base v ps) (hp : OpOk w w.heap.size p) (hpo : ∀ g, p.2.ownBlock = some g → g < w.heap.size ∧ v.ownBlock ≠ some g)
    (hown : w'.ownsRow base 25 5 v' (ps.length + 1) (ps.flatMap opCells ++ opCells p)) (hg : w.grownBy w' v.ownBlock) (hn : v'.ownBlock = v.ownBlock ∨ v'.ownBlock = some w.heap.size) : OwnO w' base v' (ps ++ [p]) := by
  refine ⟨?_, fun q hq => ?_⟩
  · rw [List.length_append, List.flatMap_append]
    simpa using hown
  · have hq' : OpOk w w.heap.size q ∧ ∀ g, q.2.ownBlock = some g → g < w.heap.size ∧ v.ownBlock ≠ some g := by
      rcases List.mem_append.1 hq with h1 | h1
      · exact h.2 q h1
      · rw [List.mem_singleton.1 h1]; exact ⟨hp, hpo⟩
    refine ⟨⟨hq'.1.1.off hg.size (fun b o x e _ hx => hg.cell (a := ⟨b, o, none⟩) hx (fun e2 => (hq'.2 b e).2 e2.symm)), hq'.1.2⟩, fun g e => ⟨Nat.lt_of_lt_of_le (hq'.2 g e).1 hg.size, fun e2 => ?_⟩⟩
    rcases hn with h1 | h1
    · exact (hq'.2 g e).2 (h1.symm.trans e2)
    · have h3 := (hq'.2 g e).1
      have := Option.some.inj (h1.symm.trans e2)
      omega
theorem infoOpi : ∃ i, Tryz.prog.info? 25 = some i ∧ i.zero = some (.agg #[.int .u8 0, .int .u64 0, .int .u64 0, .int .u64 0, .slice none 0 0]) ∧ i.size = 5 ∧ i.bytes = 56 := by
  have h := infoOp
  cases hq : Tryz.prog.info? 25 with
  | none => simp [hq] at h
  | some i => simp [hq] at h; exact ⟨i, rfl, h⟩
theorem run_append_op {w : World} {base : Nat} {v : Value} {ps : List (OpV × Value)} (ty : TypeId) (hown : w.ownsRow base 25 5 v ps.length (ps.flatMap opCells)) {q : Nat} {p : OpV × Value} (hq : w.heap[q]? = some (.cells (opCells p).toArray 25 (0, 0)))
    (h1 : ∀ u ∈ opCells p, u.oneCell' = true) (hb : ps.length ≤ 100000) (hbase : base ≤ w.heap.size) :
    ∃ A n c w', (Builtin.append_ #[26, 26] ty #[v, .slice (some ⟨q, 0, none⟩) 1 1]).run Tryz.prog w = .ok (.slice A n c) w' ∧ w'.ownsRow base 25 5 (.slice A n c) (ps.length + 1) (ps.flatMap opCells ++ opCells p) ∧ w.grownBy w' v.ownBlock ∧ ((Value.slice A n c).ownBlock = v.ownBlock ∨ (Value.slice A n c).ownBlock = some w.heap.size) := by
  obtain ⟨i, hi, hz, hsz, hby⟩ := infoOpi
  obtain ⟨Av, cv, rfl⟩ := own_form hown
  obtain ⟨v', w', hr2, h2, h3, _, h4⟩ := run_append_own_at (P := Tryz.prog) w base 26 ty 25 i _ 5 56 Tryz.underlying26 hi hz hsz hby rfl (by omega) _ ps.length _ hown ⟨q, 0, none⟩ 1 1 (opCells p) rfl
    (fun j u hu => by
      rw [add_mk, Nat.zero_add, cell_of_row w q j _ _ _ hq]
      simpa using hu) h1 (by unfold maxLen; omega) (by omega) hbase
  obtain ⟨A', c', rfl⟩ := own_form h2
  exact ⟨A', _, c', w', hr2, h2, h3, h4⟩
section
variable {ops : Array Oper} {w : World} {Q : Exit → Act → World → Prop} {a : Act} {dst : Option Tmp} {os ox : Operand} {ty : TypeId} {pos : String} {after : Array Edge}
theorem step_append_op {E : Prop} {K : Act → World → Prop} {base : Nat} {v : Value} {ps : List (OpV × Value)} (hown : w.ownsRow base 25 5 v ps.length (ps.flatMap opCells)) {q : Nat} {p : OpV × Value} (hq : w.heap[q]? = some (.cells (opCells p).toArray 25 (0, 0)))
    (h1 : ∀ u ∈ opCells p, u.oneCell' = true) (hb : ps.length ≤ 100000) (hbase : base ≤ w.heap.size) (hs : a.eval os = v) (hxx : a.eval ox = .slice (some ⟨q, 0, none⟩) 1 1)
    (hK : ∀ A n c w', w'.ownsRow base 25 5 (.slice A n c) (ps.length + 1) (ps.flatMap opCells ++ opCells p) → w.grownBy w' v.ownBlock → ((Value.slice A n c).ownBlock = v.ownBlock ∨ (Value.slice A n c).ownBlock = some w.heap.size) → K (a.put dst (.slice A n c)) w') :
    if Region.wanted ⟨dst, .call { callee := .builtin .append, args := #[os, ox], argTypes := #[26, 26] }, ty, pos, after, none⟩ (yielded ops a.tmps) = true then
      Oper.wp Tryz.prog ⟨dst, .call { callee := .builtin .append, args := #[os, ox], argTypes := #[26, 26] }, ty, pos, after, none⟩ a w K Q else E := by
  simp only [Region.wanted, if_true]
  obtain ⟨A, n, c, w', hr, h2, h3, h4⟩ := run_append_op ty hown hq h1 hb hbase
  unfold Oper.wp execOp
  simp only [resolve, invoke, builtin, Sem.run_bind, Sem.run_pure, Result.andThen_ok, List.map_toArray, List.map_cons, List.map_nil, hs, hxx, hr]
  exact hK A n c w' h2 h3 h4
end
theorem Sl.cut {w : World} {B n : Nat} {A : Option Addr} {c lo hi : Nat} {xs : List Value} (h : Sl w B 1 (.slice A n c) n xs) (hlo : lo ≤ hi) (hhi : hi ≤ n) {a' : Option Addr} (ha : (lo < hi → A.map (fun a => a.add lo) = a') ) (hz : a' = none → c - lo = 0) :
    Sl w B 1 (.slice a' (hi - lo) (c - lo)) (hi - lo) ((xs.take hi).drop lo) := by
  obtain ⟨hl, A1, c1, hv, hc, hm, hn, hr⟩ := h
  cases hv
  refine ⟨by simp; omega, a', c - lo, rfl, by omega, by omega, hz, fun hp => ?_⟩
  obtain ⟨b, o, rfl, hrow⟩ := hr (by omega)
  refine ⟨b, o + lo, by rw [← ha (by omega)]; simp [add_mk], hrow.1, fun j u hu => ?_⟩
  rw [List.getElem?_drop, List.getElem?_take] at hu
  split at hu
  · rw [Nat.add_assoc]; exact hrow.2 _ u hu
  · cases hu
theorem pow8_le : ∀ n : Nat, n ≤ 8 → (256 : Int) ^ n ≤ 18446744073709551616 := by
  intro n hn
  rcases (show n = 0 ∨ n = 1 ∨ n = 2 ∨ n = 3 ∨ n = 4 ∨ n = 5 ∨ n = 6 ∨ n = 7 ∨ n = 8 by omega) with rfl | rfl | rfl | rfl | rfl | rfl | rfl | rfl | rfl <;> decide
theorem cloneB_at (wo w' : World) (B : Nat) (v : Value) (xs : List Int) (d : Nat) (hd : d = xs.length) (hv : Bs wo B v xs) (hB : B ≤ wo.heap.size) (hl : xs.length ≤ 100000) (hb : Below wo.heap.size wo w') :
    Calls Tryz.prog 31 #[v] w' fun e w3 => ∃ A3 c3, e = .returned (.slice A3 d c3) ∧ OwnY w3 w'.heap.size (.slice A3 d c3) xs ∧ Below w'.heap.size w' w3 ∧ Below wo.heap.size wo w3 := by
  subst hd
  refine (cloneB_any w' B v xs ⟨hv.1.below (hb.mono hB), hv.2⟩ (Nat.le_trans hB hb.size) hl).mono ?_
  rintro e w3 ⟨v', rfl, h1, h2⟩
  obtain ⟨A, n, c, rfl⟩ := h1.formN
  have hn := h1.len
  subst hn
  exact ⟨A, c, rfl, h1, h2, hb.trans (h2.mono hb.size)⟩
theorem OwnY.setOff {w : World} {base g j : Nat} {v u : Value} {xs : List Int} (h : OwnY w base v xs) (hg : g < base) : OwnY (w.setCell ⟨g, j, none⟩ u) base v xs := by
  obtain ⟨h1, h2 | ⟨g', cap, cur, hv, hb, h3, h4⟩⟩ := h
  · exact ⟨h1, .inl h2⟩
  · exact ⟨h1, .inr ⟨g', cap, cur, hv, hb, by rw [Below.heap_setCell _ _ _ _ (by simp; omega)]; exact h3, h4⟩⟩
theorem OwnY.less {w : World} {base B : Nat} {v : Value} {xs : List Int} (h : OwnY w base v xs) (hb : B ≤ base) : OwnY w B v xs := by
  obtain ⟨h1, h2 | ⟨g, cap, cur, hv, hg, h3⟩⟩ := h
  · exact ⟨h1, .inl h2⟩
  · exact ⟨h1, .inr ⟨g, cap, cur, hv, Nat.le_trans hb hg, h3⟩⟩
def fK (j k : Nat) (x : Int) : Int := if k ≤ j then x else 0
theorem OwnY.setNe {w : World} {base g j : Nat} {v u : Value} {xs : List Int} (h : OwnY w base v xs) (hg : v.ownBlock ≠ some g) : OwnY (w.setCell ⟨g, j, none⟩ u) base v xs := by
  obtain ⟨h1, h2 | ⟨g', cap, cur, rfl, hb, h3, h4⟩⟩ := h
  · exact ⟨h1, .inl h2⟩
  · exact ⟨h1, .inr ⟨g', cap, cur, rfl, hb, by rw [Below.heap_setCell _ _ _ _ (fun e => hg (by rw [e]; rfl))]; exact h3, h4⟩⟩
theorem end_one {wo w3 : World} {x0 : Int} {d : Nat} {A3 : Option Addr} {c3 : Nat} {data : List Int} (o3 : OwnY w3 wo.heap.size (.slice A3 d c3) data) (b3 : Below wo.heap.size wo w3) :
    ∃ g A c, Value.pointer (some ⟨w3.heap.size, 0, none⟩) = .pointer (some ⟨g, 0, none⟩) ∧ Hid ((w3.alloc (.cells #[.int .u8 x0, .int .u64 0, .int .u64 0, .int .u64 0, .slice A3 d c3] 25)).heap[g]? = some (.cells #[.int .u8 x0, .int .u64 0, .int .u64 0, .int .u64 0, .slice A d c] 25 (0, 0)) ∧
      OwnY (w3.alloc (.cells #[.int .u8 x0, .int .u64 0, .int .u64 0, .int .u64 0, .slice A3 d c3] 25)) wo.heap.size (.slice A d c) data ∧ (Value.slice A d c).ownBlock ≠ some g ∧ Below wo.heap.size wo (w3.alloc (.cells #[.int .u8 x0, .int .u64 0, .int .u64 0, .int .u64 0, .slice A3 d c3] 25)) ∧ wo.heap.size ≤ g) :=
  ⟨_, A3, c3, rfl, heap_alloc_new _ _, World.ownsRow.alloc o3 _, fun e => by have := (World.ownsRow.lt o3 _ e).2; omega, b3.alloc b3.size _, b3.size⟩
theorem end_two {wo w3 : World} {x0 : Int} {d : Nat} {A3 : Option Addr} {c3 : Nat} {data : List Int} {z0 z1 z2 z3 z4 : Value} (o3 : OwnY w3 (wo.heap.size + 1) (.slice A3 d c3) data) (b3 : Below wo.heap.size wo w3) (hz : w3.heap[wo.heap.size]? = some (.cells #[z0, z1, z2, z3, z4] 25 (0, 0))) :
    ∃ g A c, Value.pointer (some ⟨wo.heap.size, 0, none⟩) = .pointer (some ⟨g, 0, none⟩) ∧ Hid ((((((w3.setCell ⟨wo.heap.size, 0, none⟩ (.int .u8 x0)).setCell ⟨wo.heap.size, 1, none⟩ (.int .u64 0)).setCell ⟨wo.heap.size, 2, none⟩ (.int .u64 0)).setCell ⟨wo.heap.size, 3, none⟩ (.int .u64 0)).setCell ⟨wo.heap.size, 4, none⟩ (.slice A3 d c3)).heap[g]? = some (.cells #[.int .u8 x0, .int .u64 0, .int .u64 0, .int .u64 0, .slice A d c] 25 (0, 0)) ∧
      OwnY (((((w3.setCell ⟨wo.heap.size, 0, none⟩ (.int .u8 x0)).setCell ⟨wo.heap.size, 1, none⟩ (.int .u64 0)).setCell ⟨wo.heap.size, 2, none⟩ (.int .u64 0)).setCell ⟨wo.heap.size, 3, none⟩ (.int .u64 0)).setCell ⟨wo.heap.size, 4, none⟩ (.slice A3 d c3)) wo.heap.size (.slice A d c) data ∧ (Value.slice A d c).ownBlock ≠ some g ∧ Below wo.heap.size wo (((((w3.setCell ⟨wo.heap.size, 0, none⟩ (.int .u8 x0)).setCell ⟨wo.heap.size, 1, none⟩ (.int .u64 0)).setCell ⟨wo.heap.size, 2, none⟩ (.int .u64 0)).setCell ⟨wo.heap.size, 3, none⟩ (.int .u64 0)).setCell ⟨wo.heap.size, 4, none⟩ (.slice A3 d c3)) ∧ wo.heap.size ≤ g) :=
  ⟨_, A3, c3, rfl, set5 hz, (((((o3.setOff (Nat.lt_succ_self _)).setOff (Nat.lt_succ_self _)).setOff (Nat.lt_succ_self _)).setOff (Nat.lt_succ_self _)).setOff (Nat.lt_succ_self _)).less (Nat.le_succ _), fun e => by have := (World.ownsRow.lt o3 _ e).1; omega, below_set5 b3 (Nat.le_refl _), Nat.le_refl _⟩
set_option maxRecDepth 100000 in
set_option maxHeartbeats 2000000 in
theorem read_any (w : World) (B : Nat) (v : Value) (bs : List Int) (hv : Bs w B v bs) (hB : B ≤ w.heap.size) (hl : bs.length ≤ 100000) :
    Calls Tryz.prog 10 #[v] w fun e w' => ∃ A n c ps, e = .returned (.tuple #[.slice A n c, .int .i64 (readR bs).2]) ∧ (readR bs).1 = ps.map (·.1) ∧ OpsAt w' w'.heap.size (.slice A n c) ps ∧ ps.length ≤ bs.length ∧ Below w.heap.size w w' := by
  obtain ⟨Av, cv, rfl, -, -⟩ := hv.1.form
  obtain ⟨L, hL⟩ : ∃ L, L = bs.length := ⟨_, rfl⟩
  have HV := Lib.hid hv
  rw [← hL] at HV ⊢
  have HL : Hid (L = bs.length ∧ L ≤ 100000 ∧ B ≤ w.heap.size) := ⟨hL, by omega, hB⟩
  clear hv hL hB hl
  go_enter Tryz.func10, Tryz.ntmps10
  go_wp2_with fail
  go_loopw [0, 4] (fun vb vl wr => ∃ (f : Nat) (cur : List Int) (ps : List (OpV × Value)) (Ab : Option Addr) (nb cb : Nat) (Al : Option Addr) (nl cl : Nat), vb = .slice Ab nb cb ∧ vl = .slice Al nl cl ∧ Hid (nb = cur.length ∧ nb < f ∧ Bs w B (.slice Ab nb cb) cur ∧ readF f cur (ps.map (·.1)) = readR bs ∧ OwnO wr w.heap.size (.slice Al nl cl) ps ∧ Below w.heap.size w wr ∧ ps.length + nb ≤ L)) (fun vb _ _ => sliceLen vb)
  case atStart => exact ⟨bs.length + 1, bs, [], Av, L, cv, none, 0, 0, rfl, rfl, HL.out.1, by have := HL.out.1; omega, HV.out, rfl, OwnO.nil _ _, Below.refl _ _, by simp⟩
  case round =>
    obtain ⟨f, cur, ps, Ab, nb, cb, Al, nl, cl, rfl, rfl, hK⟩ := hrel
    obtain ⟨k1, k2, k3, k4, k5, k6, k7⟩ := hK.out
    have K1 := Lib.hid k1
    have K2 := Lib.hid k2
    have K3 := Lib.hid k3
    have K4 := Lib.hid k4
    have K5 := Lib.hid k5
    have K6 := Lib.hid k6
    have K7 := Lib.hid k7
    clear hK k1 k2 k3 k4 k5 k6 k7
    obtain ⟨wo, hwo⟩ : ∃ x, x = wr := ⟨_, rfl⟩
    subst hwo
    by_cases h0 : nb = 0
    · subst h0
      go_wp2_with fail
      go_ret2
      have hc : cur = [] := List.eq_nil_of_length_eq_zero K1.out.symm
      obtain ⟨f', rfl⟩ : ∃ f', f = f' + 1 := ⟨f - 1, by have := K2.out; omega⟩
      have e := K4.out
      rw [hc] at e
      unfold readF at e
      rw [← e]
      exact ⟨_, _, _, ps, rfl, rfl, K5.out.at_, by have := K7.out; have := HL.out; omega, K6.out⟩
    · have hpos : (0 : Int) < nb := by omega
      obtain ⟨f', hf'⟩ : ∃ f', f = f' + 1 := ⟨f - 1, by have := K2.out; omega⟩
      subst hf'
      have hnbL : nb ≤ 100000 := by have := K7.out; have := HL.out; omega
      by_cases h26 : nb < 26
      · have h26' : (nb : Int) < 26 := by omega
        have HR : Hid (readR bs = ([], 270)) := by
          have e := K4.out
          unfold readF at e
          rw [if_neg (by rw [← K1.out]; exact h0), if_pos (.inl (by rw [← K1.out]; exact h26))] at e
          exact e.symm
        clear h0
        go_wp2_with fail
        go_ret2
        rw [HR.out]
        exact ⟨_, _, _, [], rfl, rfl, (OwnO.nil wo wo.heap.size).at_, Nat.zero_le _, K6.out⟩
      · have h26' : ¬ (nb : Int) < 26 := by omega
        have hs3 := K3.out.1
        rw [← K1.out] at hs3
        obtain ⟨b, o, cb', hAb, hcb, hmb, hrow⟩ := hs3.row (by omega)
        cases hAb
        have hcell : ∀ j, j < nb → wo.cell? ⟨b, o + j, none⟩ = some (.int .u8 (cur.getD j 0)) := fun j hj => by
          refine (K6.out.cell (p := ⟨b, o + j, none⟩) (Nat.lt_of_lt_of_le hrow.1 HL.out.2.2)).trans (hrow.2 j _ ?_)
          rw [List.getElem?_map, List.getElem?_eq_getElem (by rw [← K1.out]; exact hj), List.getD_eq_getElem?_getD, List.getElem?_eq_getElem (by rw [← K1.out]; exact hj)]
          rfl
        have y25 := hcell 25 (by omega)
        have HbB : Hid (b < wo.heap.size) := Nat.lt_of_lt_of_le hrow.1 (Nat.le_trans HL.out.2.2 K6.out.size)
        have HBo : Hid (B ≤ wo.heap.size) := Nat.le_trans HL.out.2.2 K6.out.size
        have y0 : wo.cell? ⟨b, o, none⟩ = some (.int .u8 (cur.getD 0 0)) := hcell 0 (by omega)
        have hb25 : IsByte (cur.getD 25 0) := by
          rw [List.getD_eq_getElem?_getD, List.getElem?_eq_getElem (by have := K1.out; omega)]
          exact K3.out.2 _ (List.getElem_mem _)
        obtain ⟨d, hd⟩ : ∃ d : Nat, cur.getD 25 0 = d := ⟨(cur.getD 25 0).toNat, by have := hb25.1; omega⟩
        have hd255 : d ≤ 255 := by have := hb25.2; omega
        rw [hd] at y25
        have Hd := Lib.hid hd
        obtain ⟨x0, hx0⟩ : ∃ x, x = cur.getD 0 0 := ⟨_, rfl⟩
        rw [← hx0] at y0
        have Hx0 := Lib.hid hx0
        have hw26 : RowKit.wrap64 ((nb : Int) - 26) = (nb : Int) - 26 := by unfold RowKit.wrap64; omega
        have Hmb := Lib.hid hmb
        have Hcb := Lib.hid hcb
        have h0' := Lib.hid h0
        clear hcell hd hx0 hb25 hmb hrow h0 h26 hs3
        by_cases hsh : (nb : Int) - 26 < d
        · have HR : Hid (readR bs = ([], 270)) := by
            have e := K4.out
            unfold readF at e
            rw [if_neg (by rw [← K1.out]; exact h0'.out), if_pos (.inr (by rw [← K1.out, Hd.out]; exact hsh))] at e
            exact e.symm
          go_wp2_with fail
          go_ret2
          rw [HR.out]
          exact ⟨_, _, _, rfl, [], rfl, (OwnO.nil wo wo.heap.size).at_, Nat.zero_le _, K6.out⟩
        · have hfit : 26 + d ≤ nb := by omega
          have h52 : nb ≤ cb := Hcb.out
          have Hsub : Hid (∀ a', (0 < d → some ⟨b, o + 26, none⟩ = a') → (a' = none → cb - 26 = 0) → Bs wo B (.slice a' d (cb - 26)) (opOf cur).data) := fun a' h1 h2 => by
            have h3 := K3.out.1
            rw [← K1.out] at h3
            have h4 := (h3.below (K6.out.mono HL.out.2.2)).cut (lo := 26) (hi := 26 + d) (a' := a') (by omega) hfit (fun h => by rw [← h1 (by omega)]; simp [add_mk]) h2
            have e1 : 26 + d - 26 = d := by omega
            have e2 : ((cur.map (Value.int .u8)).take (26 + d)).drop 26 = (opOf cur).data.map (.int .u8) := by
              show _ = ((cur.drop 26).take (cur.getD 25 0).toNat).map _
              rw [Hd.out, Int.toNat_natCast, List.drop_take, List.map_take, List.map_drop, e1]
            rw [e1, e2] at h4
            have e3 : d = (opOf cur).data.length := by have := h4.1; simpa using this.symm
            rw [e3] at h4
            refine ⟨?_, fun x hx => K3.out.2 x (List.mem_of_mem_drop (List.mem_of_mem_take hx))⟩
            rw [← e3] at h4 ⊢
            exact h4
          have Hdl : Hid (d = (opOf cur).data.length) := by
            show d = ((cur.drop 26).take (cur.getD 25 0).toNat).length
            rw [Hd.out, Int.toNat_natCast, List.length_take, List.length_drop]
            have := K1.out
            omega
          have hw5 : RowKit.wrap64 (26 + (d : Int)) = 26 + (d : Int) := by unfold RowKit.wrap64; omega
          have hdec : decide (0 < nb) = true := decide_eq_true (by omega)
          go_upto_region 6 with fail
          clear hdec
          have hm : (26 : Int) + (d : Int) = ((26 + d : Nat) : Int) := by omega
          rw [hm]
          obtain ⟨m, hmm⟩ : ∃ m, m = 26 + d := ⟨_, rfl⟩
          rw [← hmm]
          have Hmm := Lib.hid hmm
          have hfm : m ≤ nb := by omega
          have hm26n : 26 ≤ m := by omega
          have hm26 : (26 : Int) ≤ (m : Int) := by omega
          have hmcb : m ≤ cb := by omega
          have hmd : m - 26 = d := by omega
          clear hm hw5 hmm
          go_cut [6] from 6 to 6 (fun v6 wx => ∃ g A3 c3, v6 = .pointer (some ⟨g, 0, none⟩) ∧ Hid (wx.heap[g]? = some (.cells #[.int .u8 x0, .int .u64 0, .int .u64 0, .int .u64 0, .slice A3 d c3] 25 (0, 0)) ∧ OwnY wx wo.heap.size (.slice A3 d c3) (opOf cur).data ∧ (Value.slice A3 d c3).ownBlock ≠ some g ∧ Below wo.heap.size wo wx ∧ wo.heap.size ≤ g))
          case first =>
            have HS : Hid (∀ w', Below wo.heap.size wo w' → w'.cell? ⟨b, o, none⟩ = some (.int .u8 x0)) := fun w' hb => (hb.cell (p := ⟨b, o, none⟩) HbB.out).trans y0
            have HA1 : Hid (Below wo.heap.size wo wo.drew) := (Below.refl _ _).drew
            have HA2 : Hid (Below wo.heap.size wo (wo.alloc (.cells #[.int .u8 0, .int .u64 0, .int .u64 0, .int .u64 0, .slice none 0 0] 25)).drew) := (bel1 _ _).drew
            have HZ : Hid ((wo.alloc (.cells #[.int .u8 0, .int .u64 0, .int .u64 0, .int .u64 0, .slice none 0 0] 25)).drew.heap[wo.heap.size]? = some (.cells #[.int .u8 0, .int .u64 0, .int .u64 0, .int .u64 0, .slice none 0 0] 25 (0, 0))) := heap_alloc_new wo _
            by_cases hcc : cb = 26
            · subst hcc
              have hnn : nb = 26 := by omega
              have hdd : d = 0 := by omega
              have hm26' : m = 26 := by have := Hmm.out; omega
              subst hnn
              subst hdd
              subst hm26'
              have Hcl : Hid (∀ w', Below wo.heap.size wo w' → Calls Tryz.prog 31 #[.slice (some ⟨b, o, none⟩) 0 0] w' fun e w3 => ∃ A3 c3, e = .returned (.slice A3 0 c3) ∧ OwnY w3 w'.heap.size (.slice A3 0 c3) (opOf cur).data ∧ Below w'.heap.size w' w3 ∧ Below wo.heap.size wo w3) :=
                fun w' hb => cloneB_at wo w' B _ _ 0 Hdl.out (Hsub.out _ (by simp) (by simp)) HBo.out (by have := Hdl.out; omega) hb
              go_region_held3 (fun w' => w'.cell? ⟨b, o, none⟩ = some (.int .u8 x0)) (first | with_reducible exact HS.out _ b3 | with_reducible exact HS.out _ (b3.alloc b3.size _) | with_reducible exact HS.out _ (below_set5 b3 (Nat.le_refl _)) | with_reducible exact HS.out _ (below_set5 (b3.alloc b3.size _) b3.size) | with_reducible exact HS.out _ HA1.out | with_reducible exact HS.out _ HA2.out | go_keep)
                (first
                  | ((go_at_call 31); (with_reducible refine (Hcl.out _ HA1.out).mono ?_); rintro e w3 ⟨A3, c3, rfl, o3, b3', b3⟩; have hE := Lib.hid (end_one (wo := wo) (x0 := x0) o3 b3))
                  | ((go_at_call 31); (with_reducible refine (Hcl.out _ HA2.out).mono ?_); rintro e w3 ⟨A3, c3, rfl, o3, b3', b3⟩; have hz := (b3'.block wo.heap.size (by simp)).trans HZ.out; obtain ⟨z0, z1, z2, z3, z4⟩ := cells5 hz; have y0' := cells5_free hz 0; have y1' := cells5_free hz 1; have y2' := cells5_free hz 2; have y3' := cells5_free hz 3; have y4' := cells5_free hz 4; have hE := Lib.hid (end_two (wo := wo) (x0 := x0) (by simpa using o3) b3 hz)))
              all_goals (
                go_wp2_with fail
                go_meet
                exact hE.out)
            · have hcc' : 26 < cb := by omega
              have hposN : 0 < nb := by omega
              have Hcl : Hid (∀ w', Below wo.heap.size wo w' → Calls Tryz.prog 31 #[.slice (some ⟨b, o + 26, none⟩) d (cb - 26)] w' fun e w3 => ∃ A3 c3, e = .returned (.slice A3 d c3) ∧ OwnY w3 w'.heap.size (.slice A3 d c3) (opOf cur).data ∧ Below w'.heap.size w' w3 ∧ Below wo.heap.size wo w3) :=
                fun w' hb => cloneB_at wo w' B _ _ d Hdl.out (Hsub.out _ (by simp) (by simp)) HBo.out (by have := Hdl.out; omega) hb
              go_region_held3 (fun w' => w'.cell? ⟨b, o, none⟩ = some (.int .u8 x0)) (first | with_reducible exact HS.out _ b3 | with_reducible exact HS.out _ (b3.alloc b3.size _) | with_reducible exact HS.out _ (below_set5 b3 (Nat.le_refl _)) | with_reducible exact HS.out _ (below_set5 (b3.alloc b3.size _) b3.size) | with_reducible exact HS.out _ HA1.out | with_reducible exact HS.out _ HA2.out | go_keep)
                (first
                  | ((go_at_call 31); (with_reducible refine (Hcl.out _ HA1.out).mono ?_); rintro e w3 ⟨A3, c3, rfl, o3, b3', b3⟩; have hE := Lib.hid (end_one (wo := wo) (x0 := x0) o3 b3))
                  | ((go_at_call 31); (with_reducible refine (Hcl.out _ HA2.out).mono ?_); rintro e w3 ⟨A3, c3, rfl, o3, b3', b3⟩; have hz := (b3'.block wo.heap.size (by simp)).trans HZ.out; obtain ⟨z0, z1, z2, z3, z4⟩ := cells5 hz; have y0' := cells5_free hz 0; have y1' := cells5_free hz 1; have y2' := cells5_free hz 2; have y3' := cells5_free hz 3; have y4' := cells5_free hz 4; have hE := Lib.hid (end_two (wo := wo) (x0 := x0) (by simpa using o3) b3 hz)))
              all_goals (
                go_wp2_with fail
                go_meet
                exact hE.out)
          case rest =>
            obtain ⟨g, A3, c3, rfl, hG⟩ := hcut
            obtain ⟨g1, g2, g3, g4, g5⟩ := hG.out
            have G1 := Lib.hid g1
            have G2 := Lib.hid g2
            have G3 := Lib.hid g3
            have G4 := Lib.hid g4
            have G5 := Lib.hid g5
            clear hG g1 g2 g3 g4 g5 y0 y25
            go_wp2_with fail
            have HP0 : Hid ((wc.alloc (.cells #[.pointer (some ⟨g, 1, none⟩), .pointer (some ⟨g, 2, none⟩), .pointer (some ⟨g, 3, none⟩)] 63)).heap[wc.heap.size]? = some (.cells #[.pointer (some ⟨g, 1, none⟩), .pointer (some ⟨g, 2, none⟩), .pointer (some ⟨g, 3, none⟩)] 63 (0, 0))) := heap_alloc_new _ _
            have Hgl : Hid (g < wc.heap.size) := (Array.getElem?_eq_some_iff.1 G1.out).1
            have HG0 : Hid ((wc.alloc (.cells #[.pointer (some ⟨g, 1, none⟩), .pointer (some ⟨g, 2, none⟩), .pointer (some ⟨g, 3, none⟩)] 63)).heap[g]? = some (.cells #[.int .u8 x0, .int .u64 0, .int .u64 0, .int .u64 0, .slice A3 d c3] 25 (0, 0))) := ((bel1 wc _).block g Hgl.out).trans G1.out
            have HY0 := Lib.hid (World.ownsRow.alloc G2.out (.cells #[.pointer (some ⟨g, 1, none⟩), .pointer (some ⟨g, 2, none⟩), .pointer (some ⟨g, 3, none⟩)] 63))
            have HB0 := Lib.hid (G4.out.alloc G4.out.size (.cells #[.pointer (some ⟨g, 1, none⟩), .pointer (some ⟨g, 2, none⟩), .pointer (some ⟨g, 3, none⟩)] 63))
            generalize (wc.alloc (.cells #[.pointer (some ⟨g, 1, none⟩), .pointer (some ⟨g, 2, none⟩), .pointer (some ⟨g, 3, none⟩)] 63)) = W4 at *
            obtain ⟨gp, hgp⟩ : ∃ gp, gp = wc.heap.size := ⟨_, rfl⟩
            rw [← hgp] at HP0 Hgl ⊢
            clear G1 G2 G4 hgp
            have HV3 : Hid (Bs w B (.slice (some ⟨b, o, none⟩) nb cb) cur) := K3.out
            have Hn26 : Hid (26 ≤ cur.length ∧ cur.length ≤ 100000) := by
              have := K1.out
              show _ ∧ _
              omega
            obtain ⟨Vo, hVo⟩ : ∃ V, V = getN ((cur.drop 1).take 8) := ⟨_, rfl⟩
            obtain ⟨Ao, hAo⟩ : ∃ V, V = getN ((cur.drop 9).take 8) := ⟨_, rfl⟩
            obtain ⟨No, hNo⟩ : ∃ V, V = getN ((cur.drop 17).take 8) := ⟨_, rfl⟩
            have HVAN := Lib.hid (And.intro hVo (And.intro hAo hNo))
            clear hVo hAo hNo
            go_loopw [43] (fun i wr => ∃ j : Nat, j ≤ 3 ∧ i = .int .i64 j ∧ Hid (wr.heap[g]? = some (.cells #[.int .u8 x0, .int .u64 (fK j 1 Vo), .int .u64 (fK j 2 Ao), .int .u64 (fK j 3 No), .slice A3 d c3] 25 (0, 0)) ∧ wr.heap[gp]? = some (.cells #[.pointer (some ⟨g, 1, none⟩), .pointer (some ⟨g, 2, none⟩), .pointer (some ⟨g, 3, none⟩)] 63 (0, 0)) ∧ OwnY wr wo.heap.size (.slice A3 d c3) (opOf cur).data ∧ Below wo.heap.size wo wr)) (fun i _ => 3 - (intOf i).toNat)
            case atStart => exact ⟨0, by omega, rfl, HG0.out, HP0.out, HY0.out, HB0.out⟩
            case round =>
              obtain ⟨j, hj, rfl, hJ⟩ := hrel
              obtain ⟨i1, i2, i3, i4⟩ := hJ.out
              have J1 := Lib.hid i1
              have J2 := Lib.hid i2
              have J3 := Lib.hid i3
              have J4 := Lib.hid i4
              clear hJ i1 i2 i3 i4 HG0 HP0 HY0 HB0
              have HBs : Hid (Bs wr B (.slice (some ⟨b, o, none⟩) nb cb) cur) := ⟨HV3.out.1.below (K6.out.trans (J4.out.mono K6.out.size) |>.mono HL.out.2.2), HV3.out.2⟩
              rcases (show j = 0 ∨ j = 1 ∨ j = 2 ∨ j = 3 by omega) with rfl | rfl | rfl | rfl
              · obtain ⟨p0, p1, p2⟩ := cells3w J2.out
                obtain ⟨q0, q1, q2, q3, q4⟩ := cells5 J1.out
                have r1 := cells5_free J1.out 1
                go_wp2_with fail
                refine (get_any wr B _ cur HBs.out 1 (by have := Hn26.out; omega) Hn26.out.2).mono ?_
                rintro e w5 ⟨rfl, rfl⟩
                rw [← HVAN.out.1]
                go_wp2_with fail
                go_roundw
                case rel => exact ⟨1, by omega, rfl, set_here J1.out _, (Below.heap_setCell _ _ _ _ (Nat.ne_of_gt Hgl.out)).trans J2.out, J3.out.setNe G3.out, J4.out.setCell G5.out _⟩
                case measure => simp [intOf]
              · obtain ⟨p0, p1, p2⟩ := cells3w J2.out
                obtain ⟨q0, q1, q2, q3, q4⟩ := cells5 J1.out
                have r1 := cells5_free J1.out 2
                go_wp2_with fail
                refine (get_any wr B _ cur HBs.out 9 (by have := Hn26.out; omega) Hn26.out.2).mono ?_
                rintro e w5 ⟨rfl, rfl⟩
                rw [← HVAN.out.2.1]
                go_wp2_with fail
                go_roundw
                case rel => exact ⟨2, by omega, rfl, set_here J1.out _, (Below.heap_setCell _ _ _ _ (Nat.ne_of_gt Hgl.out)).trans J2.out, J3.out.setNe G3.out, J4.out.setCell G5.out _⟩
                case measure => simp [intOf]
              · obtain ⟨p0, p1, p2⟩ := cells3w J2.out
                obtain ⟨q0, q1, q2, q3, q4⟩ := cells5 J1.out
                have r1 := cells5_free J1.out 3
                go_wp2_with fail
                refine (get_any wr B _ cur HBs.out 17 (by have := Hn26.out; omega) Hn26.out.2).mono ?_
                rintro e w5 ⟨rfl, rfl⟩
                rw [← HVAN.out.2.2]
                go_wp2_with fail
                go_roundw
                case rel => exact ⟨3, by omega, rfl, set_here J1.out _, (Below.heap_setCell _ _ _ _ (Nat.ne_of_gt Hgl.out)).trans J2.out, J3.out.setNe G3.out, J4.out.setCell G5.out _⟩
                case measure => simp [intOf]
              · have R1 : Hid (wr.heap[g]? = some (.cells #[.int .u8 x0, .int .u64 Vo, .int .u64 Ao, .int .u64 No, .slice A3 d c3] 25 (0, 0))) := J1.out
                have Hop : Hid (opCells (opOf cur, .slice A3 d c3) = [.int .u8 x0, .int .u64 Vo, .int .u64 Ao, .int .u64 No, .slice A3 d c3]) := by
                  show _ = _
                  rw [Hx0.out, HVAN.out.1, HVAN.out.2.1, HVAN.out.2.2]
                  rfl
                clear J1
                obtain ⟨q0, q1, q2, q3, q4⟩ := cells5 R1.out
                obtain ⟨pv, hpv⟩ : ∃ p : OpV × Value, p = (opOf cur, .slice A3 d c3) := ⟨_, rfl⟩
                have Hpv := Lib.hid hpv
                rw [← hpv] at Hop
                clear hpv
                have HO4 : Hid (OwnO wr w.heap.size (.slice Al nl cl) ps) := K5.out.on J4.out
                have HB4 : Hid (Below w.heap.size w wr) := K6.out.trans (J4.out.mono K6.out.size)
                have HrR : Hid ((wr.alloc (.cells #[.int .u8 x0, .int .u64 Vo, .int .u64 Ao, .int .u64 No, .slice A3 d c3] 25)).drew.heap[wr.heap.size]? = some (.cells (opCells pv).toArray 25 (0, 0))) := by
                  show _ = _
                  rw [Hop.out]
                  exact heap_alloc_new wr _
                have HbA := bel1 wr (.cells #[.int .u8 x0, .int .u64 Vo, .int .u64 Ao, .int .u64 No, .slice A3 d c3] 25)
                have HO5 : Hid (OwnO (wr.alloc (.cells #[.int .u8 x0, .int .u64 Vo, .int .u64 Ao, .int .u64 No, .slice A3 d c3] 25)).drew w.heap.size (.slice Al nl cl) ps) := HO4.out.on HbA.drew
                have HB5 : Hid (Below w.heap.size w (wr.alloc (.cells #[.int .u8 x0, .int .u64 Vo, .int .u64 Ao, .int .u64 No, .slice A3 d c3] 25)).drew) := HB4.out.trans (HbA.drew.mono HB4.out.size)
                have HR5 := Lib.hid HO5.out.1
                have H1c : Hid (∀ u ∈ opCells pv, u.oneCell' = true) := by
                  show ∀ u ∈ opCells pv, _
                  rw [Hop.out]
                  intro u hu
                  simp only [List.mem_cons, List.mem_nil_iff, or_false] at hu
                  rcases hu with rfl | rfl | rfl | rfl | rfl <;> rfl
                have HpsL : Hid (ps.length ≤ 100000) := by
                  have := K7.out
                  have := HL.out
                  show _ ≤ _
                  omega
                have HgK : Hid (∀ w7, (wr.alloc (.cells #[.int .u8 x0, .int .u64 Vo, .int .u64 Ao, .int .u64 No, .slice A3 d c3] 25)).drew.grownBy w7 (Value.slice Al nl cl).ownBlock → w7.heap[g]? = wr.heap[g]?) := fun w7 hg => by
                  have hgl : g < wr.heap.size := (Array.getElem?_eq_some_iff.1 R1.out).1
                  refine (hg.block g (by rw [World.size_drew, World.size_alloc]; omega) (fun e => ?_)).trans (HbA.drew.block g hgl)
                  have h1 := (World.ownsRow.lt K5.out.1 g e.symm).2
                  have := G5.out
                  omega
                have hcut : ∀ a', (26 + d < nb → some ⟨b, o + (26 + d), none⟩ = a') → (a' = none → cb - (26 + d) = 0) → Bs w B (.slice a' (nb - (26 + d)) (cb - (26 + d))) (cur.drop (26 + d)) := fun a' h1 h2 => by
                  have h3 := HV3.out.1
                  rw [← K1.out] at h3
                  have h4 := Sl.cut h3 (lo := 26 + d) (hi := nb) (a' := a') hfit (Nat.le_refl _) (fun h => by rw [← h1 h]; simp [add_mk]) h2
                  have e2 : ((cur.map (Value.int .u8)).take nb).drop (26 + d) = (cur.drop (26 + d)).map (.int .u8) := by
                    rw [List.take_of_length_le (by rw [List.length_map, K1.out]; exact Nat.le_refl _), List.map_drop]
                  rw [e2] at h4
                  refine ⟨?_, fun x hx => HV3.out.2 x (List.mem_of_mem_drop hx)⟩
                  rw [List.length_drop, ← K1.out]
                  exact h4
                have Hcut := Lib.hid hcut
                have HK4 : Hid (readF f' (cur.drop (26 + d)) ((ps ++ [pv]).map (·.1)) = readR bs) := by
                  have e := K4.out
                  unfold readF at e
                  have hx : ¬ (cur.length < 26 ∨ (cur.length : Int) - 26 < cur.getD 25 0) := by
                    rw [← K1.out, Hd.out]
                    omega
                  rw [if_neg (by rw [← K1.out]; exact h0'.out), if_neg hx, Hd.out, Int.toNat_natCast] at e
                  show _ = _
                  rw [← e, List.map_append, Hpv.out]
                  rfl
                have HpOk : Hid (OpOk wr wr.heap.size pv) := by
                  have hby : ∀ x ∈ (opOf cur).data, IsByte x := fun x hx => HV3.out.2 x (List.mem_of_mem_drop (List.mem_of_mem_take hx))
                  have hg8 : ∀ k, IsU64 (getN ((cur.drop k).take 8)) := fun k => by
                    have h1 := getN_rng ((cur.drop k).take 8) (fun x hx => HV3.out.2 x (List.mem_of_mem_drop (List.mem_of_mem_take hx)))
                    have h2 : ((cur.drop k).take 8).length ≤ 8 := by rw [List.length_take]; omega
                    exact ⟨h1.1, Int.lt_of_lt_of_le h1.2 (pow8_le _ h2)⟩
                  have hx0b : IsByte (cur.getD 0 0) := by
                    rw [List.getD_eq_getElem?_getD, List.getElem?_eq_getElem (by have := Hn26.out; omega)]
                    exact HV3.out.2 _ (List.getElem_mem _)
                  show OpOk wr wr.heap.size pv
                  rw [Hpv.out]
                  exact ⟨J3.out.bs hby, hx0b, hg8 1, hg8 9, hg8 17⟩
                have Hpo : Hid (∀ g', pv.2.ownBlock = some g' → g' < wr.heap.size ∧ (Value.slice Al nl cl).ownBlock ≠ some g') := fun g' hg' => by
                  rw [Hpv.out] at hg'
                  have h1 := World.ownsRow.lt J3.out g' hg'
                  refine ⟨h1.2, fun e => ?_⟩
                  have h2 := (World.ownsRow.lt K5.out.1 g' e).2
                  omega
                have HpOk5 := Lib.hid ((HpOk.out.on HbA.drew).more' HbA.drew.size)
                have Hpo5 : Hid (∀ g', pv.2.ownBlock = some g' → g' < (wr.alloc (.cells #[.int .u8 x0, .int .u64 Vo, .int .u64 Ao, .int .u64 No, .slice A3 d c3] 25)).drew.heap.size ∧ (Value.slice Al nl cl).ownBlock ≠ some g') := fun g' hg' => ⟨Nat.lt_of_lt_of_le (Hpo.out g' hg').1 HbA.drew.size, (Hpo.out g' hg').2⟩
                clear HbA hcut
                go_wp2_with fail
                rw [← Hmm.out] at Hcut HK4
                clear hw26 hsh h26' hpos hm26n hm26 hmcb hmd hfit
                have hmL : m ≤ 100000 := by omega
                have hfit := hfm
                clear hfm
                have hm0 : (0 : Int) ≤ (m : Int) := by omega
                by_cases hcc : cb = m
                · have hnn : nb = m := by omega
                  subst hcc
                  subst hnn
                  go_region_held3 (fun w' => w'.cell? ⟨g, 0, none⟩ = some (.int .u8 x0) ∧ w'.cell? ⟨g, 1, none⟩ = some (.int .u64 Vo) ∧ w'.cell? ⟨g, 2, none⟩ = some (.int .u64 Ao) ∧ w'.cell? ⟨g, 3, none⟩ = some (.int .u64 No) ∧ w'.cell? ⟨g, 4, none⟩ = some (.slice A3 d c3)) (first | with_reducible exact qq7 | go_keep)
                    (first
                      | ((with_reducible refine step_append_op (os := .tmp 59) (ox := .tmp 61) (base := w.heap.size) (q := wr.heap.size) (p := pv) HR5.out HrR.out H1c.out HpsL.out HB5.out.size ?_ ?_ ?_); go_must ((· rfl); (· rfl); intro A7 n7 c7 w7 ho hg hn; have qq7 := cells5 ((HgK.out w7 hg).trans R1.out); have HO7 := Lib.hid ho; have G7 := Lib.hid hg; have N7 := Lib.hid hn; clear ho hg hn)))
                  go_wp2_with fail
                  go_roundw
                  case rel =>
                    refine ⟨f', cur.drop nb, ps ++ [pv], some ⟨b, o, none⟩, 0, 0, A7, n7, c7, rfl, rfl, ?_, ?_, ?_, HK4.out, HO5.out.push HpOk5.out Hpo5.out HO7.out G7.out N7.out, HB5.out.grown G7.out HB5.out.size (fun j hj => (World.ownsRow.lt HR5.out j hj).1), ?_⟩
                    · rw [List.length_drop, ← K1.out]; exact (Nat.sub_self nb).symm
                    · have := K2.out; have := Hmm.out; omega
                    · have := Hcut.out (some ⟨b, o, none⟩) (by simp) (by simp)
                      simpa using this
                    · have := K7.out; have := Hmm.out; rw [List.length_append]; simp only [List.length_cons, List.length_nil]; omega
                  case measure => have := Hmm.out; simp [sliceLen]; omega
                · have hcc' : m < cb := by omega
                  go_region_held3 (fun w' => w'.cell? ⟨g, 0, none⟩ = some (.int .u8 x0) ∧ w'.cell? ⟨g, 1, none⟩ = some (.int .u64 Vo) ∧ w'.cell? ⟨g, 2, none⟩ = some (.int .u64 Ao) ∧ w'.cell? ⟨g, 3, none⟩ = some (.int .u64 No) ∧ w'.cell? ⟨g, 4, none⟩ = some (.slice A3 d c3)) (first | with_reducible exact qq7 | go_keep)
                    (first
                      | ((with_reducible refine step_append_op (os := .tmp 59) (ox := .tmp 61) (base := w.heap.size) (q := wr.heap.size) (p := pv) HR5.out HrR.out H1c.out HpsL.out HB5.out.size ?_ ?_ ?_); go_must ((· rfl); (· rfl); intro A7 n7 c7 w7 ho hg hn; have qq7 := cells5 ((HgK.out w7 hg).trans R1.out); have HO7 := Lib.hid ho; have G7 := Lib.hid hg; have N7 := Lib.hid hn; clear ho hg hn)))
                  go_wp2_with fail
                  go_roundw
                  case rel =>
                    refine ⟨f', cur.drop m, ps ++ [pv], some ⟨b, o + m, none⟩, nb - m, cb - m, A7, n7, c7, rfl, rfl, ?_, ?_, ?_, HK4.out, HO5.out.push HpOk5.out Hpo5.out HO7.out G7.out N7.out, HB5.out.grown G7.out HB5.out.size (fun j hj => (World.ownsRow.lt HR5.out j hj).1), ?_⟩
                    · rw [List.length_drop, ← K1.out]
                    · have := K2.out; have := Hmm.out; omega
                    · exact Hcut.out (some ⟨b, o + m, none⟩) (fun _ => rfl) (by simp)
                    · have := K7.out; have := Hmm.out; rw [List.length_append]; simp only [List.length_cons, List.length_nil]; omega
                  case measure => have := Hmm.out; simp [sliceLen]; omega
end Go.Proofs.YtakiinghipjopaaGreatDoor
