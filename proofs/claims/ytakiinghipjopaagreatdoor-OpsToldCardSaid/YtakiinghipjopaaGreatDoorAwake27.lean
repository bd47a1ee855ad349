/-
  The law's own awake: the chapter's examples.
-/
import Derived.Test.YtakiinghipjopaaGreatDoorTold27
namespace Go.Proofs.YtakiinghipjopaaGreatDoor
open Go.RowKit Go.Shelf

/-- awake's variable w: its data's bytes, its fields -/
structure AwI (w wr : World) (Ob : Nat) (ds : List Int) (dv : Value) : Prop where
  fill : OwnB wr w.heap.size ds
  op : wr.heap[Ob]? = some (.cells #[.int .u8 5, .int .u64 1, .int .u64 3, .int .u64 0, dv] 25 (0, 0))
  env : Env wr
  bel : Below w.heap.size w wr
  obl : w.heap.size < Ob
theorem AwI.on {w wr wr' : World} {Ob : Nat} {ds : List Int} {dv : Value} (h : AwI w wr Ob ds dv) (hb : Below wr.heap.size wr wr') : AwI w wr' Ob ds dv :=
  ⟨h.fill.on hb, (hb.block _ (Array.getElem?_eq_some_iff.1 h.op).1).trans h.op, h.env.on' hb, h.bel.trans (hb.mono h.bel.size), h.obl⟩
def badC : Array Value := #[.string { data := #[119, 114, 105, 116, 101, 32, 49, 32, 51] }, .string { data := #[119, 114, 105, 116, 101, 32, 49, 32, 51, 32, 48, 49, 120, 49] }, .string { data := #[119, 114, 105, 116, 101, 32, 49, 32, 51, 32, 48, 49, 46, 48, 49] },
  .string { data := #[119, 114, 105, 116, 101, 32, 48, 49, 32, 51, 32, 45] }, .string { data := #[111, 112, 32, 55, 32, 48, 32, 48, 32, 48, 32, 45] },
  .string { data := #[114, 101, 97, 100, 32, 49, 32, 49, 56, 52, 52, 54, 55, 52, 52, 48, 55, 51, 55, 48, 57, 53, 53, 49, 54, 49, 54] }, .string { data := #[] }, .string { data := #[109, 97, 107, 101, 32] }, .string { data := #[119, 114, 105, 116, 101, 32, 49, 32, 51, 32, 48, 49, 120, 50, 53, 54] }]
theorem bad_cell (w : World) {k : Nat} (hk : k < 9) : (w.alloc (.cells badC 9)).cell? ⟨w.heap.size, k, none⟩ = some (.string ⟨(badL.getD k []).toArray⟩) := by
  rw [World.cell?_alloc_new]
  rcases (show k = 0 ∨ k = 1 ∨ k = 2 ∨ k = 3 ∨ k = 4 ∨ k = 5 ∨ k = 6 ∨ k = 7 ∨ k = 8 by omega) with rfl | rfl | rfl | rfl | rfl | rfl | rfl | rfl | rfl <;> rfl
theorem bad_len : ∀ k : Fin 9, (badL.getD k.val []).length ≤ 100 := by decide +kernel
def z256 : Array Value := (List.replicate 256 (Value.int .u8 0)).toArray
theorem make256 (w : World) : (Instr.makeSlice 23 (.int .i64 256) (.int .i64 256)).run Tryz.prog w = .ok (.slice (some ⟨w.heap.size, 0, none⟩) 256 256) (w.alloc (.cells z256 5)) := by kernel_rfl
theorem zero_byte (x : Int) (h : x ∈ List.replicate 256 (0 : Int)) : IsByte x := by rw [List.eq_of_mem_replicate h]; exact ⟨by decide, by decide⟩
theorem op0_in {d : List Int} (h : ∀ x ∈ d, IsByte x) : OpIn ⟨0, 0, 0, 0, d⟩ := ⟨(⟨by decide, by decide⟩ : IsByte 0), (⟨by decide, by decide⟩ : IsU64 0), (⟨by decide, by decide⟩ : IsU64 0), (⟨by decide, by decide⟩ : IsU64 0), h⟩
theorem ops_new (W : World) (ps : List (OpV × Value)) (hl : ps.length ≤ 1000) (h : ∀ p ∈ ps, OpOk W W.heap.size p) :
    OpsAt (W.alloc (.cells (ps.flatMap opCells).toArray 25)) (W.alloc (.cells (ps.flatMap opCells).toArray 25)).heap.size (.slice (some ⟨W.heap.size, 0, none⟩) ps.length ps.length) ps := by
  refine ⟨sl_mk (cells_len ps) (Nat.le_refl _) (by unfold maxLen; omega) ?_, fun p hp => ?_⟩
  · rw [World.size_alloc]
    exact row_new W _ _
  · exact ((h p hp).on (bel1 _ _)).more' (bel1 W _).size
def ex28 : List Int := [6, 0, 0, 0, 0, 0, 0, 0, 0, 0, 0, 0, 0, 0, 0, 0, 0, 0, 0, 0, 0, 0, 0, 1, 2, 2, 0, 0]
theorem ex28_eq : bytesR [(⟨6, 0, 0, 258, [0, 0]⟩ : OpV)] = (ex28, 0) := by decide +kernel
theorem exErr : toldR 5 ⟨200, 0, [], 0⟩ = [101, 114, 114, 111, 114, 32, 50, 48, 48] := by
  delta toldR Lib.itoa
  rw [dec_fun]
  decide +kernel
theorem OwnB.pre {w : World} {g : Nat} {bs : List Int} (h : OwnB w g bs) {k c : Nat} (hk : k ≤ bs.length) (hc : k ≤ c) (hm : c ≤ maxLen) (hb : ∀ x ∈ bs.take k, IsByte x) : Bs w w.heap.size (.slice (some ⟨g, 0, none⟩) k c) (bs.take k) := by
  have hl : (bs.take k).length = k := by rw [List.length_take]; omega
  refine ⟨?_, hb⟩
  rw [hl]
  refine sl_mk (by simp; omega) hc hm ⟨h.lt, fun j u hu => ?_⟩
  obtain ⟨cs, h0, h1, h2⟩ := h
  rw [Nat.zero_add, cell_of_row w g j cs _ _ h0]
  have hj := (List.getElem?_eq_some_iff.1 hu).1
  rw [List.length_map, hl] at hj
  rw [List.map_take, List.getElem?_take_of_lt hj] at hu
  exact h2 j u hu
theorem OwnY.cells {w : World} {base n c : Nat} {A : Option Addr} {xs : List Int} (h : OwnY w base (.slice A n c) xs) (h0 : 0 < xs.length) :
    ∃ g, A = some ⟨g, 0, none⟩ ∧ n = xs.length ∧ n ≤ c ∧ ∀ j (hj : j < xs.length), w.cell? ⟨g, j, none⟩ = some (.int .u8 xs[j]) := by
  rcases h.2 with ⟨e, h1⟩ | ⟨g, cap, cur, e, a1, a2, a3, a4, a5, a6⟩
  · omega
  · cases e
    refine ⟨g, rfl, rfl, by omega, fun j hj => ?_⟩
    have h3 : (cur.toList.take (xs.length * 1))[j]? = some (.int .u8 xs[j]) := by rw [a6]; simp [hj]
    rw [List.getElem?_take_of_lt (by omega)] at h3
    rw [cell_of_row w g j cur _ _ a2]
    simpa using h3
theorem exW_in (d : List Int) (h : ∀ x ∈ d, IsByte x) : OpIn (exW d) := ⟨(⟨by decide, by decide⟩ : IsByte 5), (⟨by decide, by decide⟩ : IsU64 1), (⟨by decide, by decide⟩ : IsU64 3), (⟨by decide, by decide⟩ : IsU64 0), h⟩
theorem ops_ok {w : World} {B : Nat} {c v a n : Int} {d : List Int} {dv : Value} (h : Bs w B dv d) (hi : OpIn ⟨c, v, a, n, d⟩) : OpOk w B (⟨c, v, a, n, d⟩, dv) := ⟨h, hi.1, hi.2.1, hi.2.2.1, hi.2.2.2.1⟩
theorem op_in {c v a n : Int} (h1 : 0 ≤ c ∧ c < 256) (h2 : 0 ≤ v ∧ v < 18446744073709551616) (h3 : 0 ≤ a ∧ a < 18446744073709551616) (h4 : 0 ≤ n ∧ n < 18446744073709551616) : OpIn ⟨c, v, a, n, []⟩ := ⟨h1, h2, h3, h4, fun x hx => by cases hx⟩
theorem bs_nil (w : World) (B : Nat) : Bs w B (.slice none 0 0) [] := ⟨sl_nil w B 1, fun x hx => by cases hx⟩
theorem fill_byte (x : Int) (h : x ∈ List.replicate 128 (1 : Int)) : IsByte x := by rw [List.eq_of_mem_replicate h]; exact ⟨by decide, by decide⟩
theorem fill0_byte (x : Int) (h : x ∈ (List.replicate 128 (1 : Int)).set 0 0) : IsByte x := by
  rcases List.mem_or_eq_of_mem_set h with h | h
  · exact fill_byte x h
  · subst h; exact ⟨by decide, by decide⟩
theorem OwnB.bs {w : World} {g : Nat} {bs : List Int} (h : OwnB w g bs) {L : Nat} (hL : L = bs.length) (hm : L ≤ maxLen) (hb : ∀ x ∈ bs, IsByte x) : Bs w w.heap.size (.slice (some ⟨g, 0, none⟩) L L) bs := by
  have := h.sl hL hm
  subst hL
  exact ⟨this, hb⟩
set_option maxRecDepth 100000 in
set_option maxHeartbeats 8000000 in
theorem awake_true (w : World) (hE : Env w) :
    Calls Tryz.prog 6 #[] w fun e w' => e = .returned (.bool true) ∧ Below w.heap.size w w' := by
  have HE := Lib.hid hE
  clear hE
  go_enter Tryz.func6, Tryz.ntmps6
  go_wp2_with fail
  refine (filled_any 1 w).mono ?_
  rintro e W1 ⟨rfl, o1, b1⟩
  have O1 := Lib.hid o1
  have B1 := Lib.hid b1
  clear o1 b1
  obtain ⟨W2, hW2⟩ : ∃ W2, W2 = W1.alloc (.cells #[.int .u8 5, .int .u64 1, .int .u64 3, .int .u64 0, .slice (some ⟨w.heap.size, 0, none⟩) 128 128] 25) := ⟨_, rfl⟩
  have hW2' := hW2.symm
  have r2 : W2.heap[W1.heap.size]? = some (.cells #[.int .u8 5, .int .u64 1, .int .u64 3, .int .u64 0, .slice (some ⟨w.heap.size, 0, none⟩) 128 128] 25 (0, 0)) := by rw [hW2]; exact heap_alloc_new _ _
  have b2 : Below W1.heap.size W1 W2 := by rw [hW2]; exact bel1 _ _
  obtain ⟨Ob, hOb⟩ : ∃ x, x = W1.heap.size := ⟨_, rfl⟩
  rw [← hOb] at r2
  have S2 : Hid (AwI w W2 Ob (List.replicate 128 1) (.slice (some ⟨w.heap.size, 0, none⟩) 128 128)) :=
    ⟨O1.out.on b2, r2, (HE.out.on' B1.out).on' b2, B1.out.trans (b2.mono B1.out.size), by rw [hOb]; exact O1.out.lt⟩
  have hOb' := hOb.symm
  clear hW2 hOb b2
  obtain ⟨q0, q1, q2, q3, q4⟩ := cells5 r2
  clear r2
  go_wp2_with fail
  refine (line_true (exW (List.replicate 128 1), .slice (some ⟨w.heap.size, 0, none⟩) 128 128) ⟨#[119, 114, 105, 116, 101, 32, 49, 32, 51, 32, 48, 49, 120, 49, 50, 56]⟩ W2.heap.size W2 (ops_ok (S2.out.fill.bs (by simp) (by unfold maxLen; omega) fill_byte) (exW_in _ fill_byte)) (Nat.le_refl _) (by simp [exW]) exText.symm (by decide) S2.out.env).mono ?_
  rintro e W3 ⟨rfl, h3⟩
  have S3 := Lib.hid (S2.out.on h3)
  clear h3 q0 q1 q2 q3 q4 hOb' hW2'
  go_wp2_with fail
  refine (line_true (⟨7, 5, 0, 0, []⟩, .slice none 0 0) ⟨#[111, 112, 32, 55, 32, 53, 32, 48, 32, 48, 32, 45]⟩ W3.heap.size W3 (ops_ok (bs_nil _ _) (op_in (by decide) (by decide) (by decide) (by decide))) (Nat.le_refl _) (by decide) exCommit.symm (by decide) S3.out.env).mono ?_
  rintro e W4 ⟨rfl, h4⟩
  have S4 := Lib.hid (S3.out.on h4)
  clear h4
  go_wp2_with fail
  refine (line_true (⟨99, 0, 0, 0, []⟩, .slice none 0 0) ⟨#[111, 112, 32, 57, 57, 32, 48, 32, 48, 32, 48, 32, 45]⟩ W4.heap.size W4 (ops_ok (bs_nil _ _) (op_in (by decide) (by decide) (by decide) (by decide))) (Nat.le_refl _) (by decide) ex99.symm (by decide) S4.out.env).mono ?_
  rintro e W5 ⟨rfl, h5⟩
  have S5 := Lib.hid (S4.out.on h5)
  clear h5
  obtain ⟨q0, q1, q2, q3, q4⟩ := cells5 S5.out.op
  obtain ⟨f0, ff⟩ := S5.out.fill.cell (i := 0) (by simp)
  rw [List.getElem_replicate] at f0
  go_upto_region 5 with fail
  obtain ⟨W6, hW6⟩ : ∃ W6, W6 = W5.setCell ⟨w.heap.size, 0, none⟩ (.int .u8 0) := ⟨_, rfl⟩
  have S6 : Hid (AwI w W6 Ob ((List.replicate 128 1).set 0 0) (.slice (some ⟨w.heap.size, 0, none⟩) 128 128)) := by
    have hb : Below w.heap.size W5 W6 := by rw [hW6]; exact (Below.refl _ _).setCell (p := ⟨w.heap.size, 0, none⟩) (Nat.le_refl _) _
    refine ⟨by rw [hW6]; exact S5.out.fill.set 0 0, ?_, S5.out.env.of_blocks fun k hk => hb.block k (by have := HE.out.size; omega), S5.out.bel.trans hb, S5.out.obl⟩
    rw [hW6, Below.heap_setCell _ _ _ _ (by have := S5.out.obl; show Ob ≠ w.heap.size; omega)]
    exact S5.out.op
  rw [← hW6]
  clear hW6 q0 q1 q2 q3 q4 f0 ff
  obtain ⟨q0, q1, q2, q3, q4⟩ := cells5 S6.out.op
  go_wp2_with fail
  refine (line_true (exW ((List.replicate 128 1).set 0 0), .slice (some ⟨w.heap.size, 0, none⟩) 128 128) ⟨#[119, 114, 105, 116, 101, 32, 49, 32, 51, 32, 48, 48, 46, 48, 49, 120, 49, 50, 55]⟩ W6.heap.size W6 (ops_ok (S6.out.fill.bs (by simp) (by unfold maxLen; omega) fill0_byte) (exW_in _ fill0_byte)) (Nat.le_refl _) (by simp [exW]) exText0.symm (by decide) S6.out.env).mono ?_
  rintro e W7 ⟨rfl, h7⟩
  have S7 := Lib.hid (S6.out.on h7)
  clear h7 q0 q1 q2 q3 q4
  obtain ⟨q0, q1, q2, q3, q4⟩ := cells5 S7.out.op
  have qf := cells5_free S7.out.op
  go_upto_region 8 with fail
  obtain ⟨W8, hW8⟩ : ∃ W8, W8 = W7.setCell ⟨Ob, 4, none⟩ (.slice none 0 0) := ⟨_, rfl⟩
  have S8 : Hid (AwI w W8 Ob ((List.replicate 128 1).set 0 0) (.slice none 0 0)) := by
    have hne := S7.out.obl
    have hb : Below w.heap.size W7 W8 := by rw [hW8]; exact (Below.refl _ _).setCell (Nat.le_of_lt hne) _
    refine ⟨?_, by rw [hW8]; exact set_here S7.out.op _, S7.out.env.of_blocks fun k hk => hb.block k (by have := HE.out.size; omega), S7.out.bel.trans hb, hne⟩
    obtain ⟨cs, h0, h1, h2⟩ := S7.out.fill
    exact ⟨cs, by rw [hW8, Below.heap_setCell _ _ _ _ (by show w.heap.size ≠ Ob; omega)]; exact h0, h1, h2⟩
  rw [← hW8]
  clear hW8 q0 q1 q2 q3 q4 qf
  obtain ⟨q0, q1, q2, q3, q4⟩ := cells5 S8.out.op
  go_wp2_with fail
  refine (line_true (exW [], .slice none 0 0) ⟨#[119, 114, 105, 116, 101, 32, 49, 32, 51, 32, 45]⟩ W8.heap.size W8 (ops_ok (bs_nil _ _) (exW_in _ (fun x hx => by cases hx))) (Nat.le_refl _) (by decide) exNone.symm (by decide) S8.out.env).mono ?_
  rintro e W9 ⟨rfl, h9⟩
  have S9 := Lib.hid (S8.out.on h9)
  clear h9 q0 q1 q2 q3 q4
  go_wp2_with fail
  obtain ⟨W10, hW10⟩ : ∃ W10, W10 = W9.alloc (.cells badC 9) := ⟨_, rfl⟩
  have S10 : Hid (AwI w W10 Ob ((List.replicate 128 1).set 0 0) (.slice none 0 0)) := by rw [hW10]; exact S9.out.on (bel1 _ _)
  have Hbad : Hid (∀ k, k < 9 → W10.cell? ⟨W9.heap.size, k, none⟩ = some (.string ⟨(badL.getD k []).toArray⟩)) := fun k hk => by
    rw [hW10]
    exact bad_cell W9 hk
  have e10 : (.cells badC 9 : Obj) = .cells badC 9 := rfl
  unfold badC at hW10
  rw [← hW10]
  clear hW10 e10
  obtain ⟨Bb, hBb⟩ : ∃ x, x = W9.heap.size := ⟨_, rfl⟩
  rw [← hBb] at Hbad ⊢
  have HBb : Hid (Bb < W10.heap.size) := block_lt_of_cell (Hbad.out 0 (by omega))
  clear hBb
  go_loopw [40] (fun i wr => ∃ k : Nat, k ≤ 9 ∧ i = .int .i64 k ∧ Hid (Below W10.heap.size W10 wr)) (fun i _ => 9 - (intOf i).toNat)
  case atStart => exact ⟨0, by omega, rfl, Below.refl _ _⟩
  case round =>
    obtain ⟨k, hk, rfl, HB⟩ := hrel
    have Sr := Lib.hid (S10.out.on HB.out)
    by_cases hlt : k < 9
    · have hc := (HB.out.cell (p := ⟨Bb, k, none⟩) HBb.out).trans (Hbad.out k hlt)
      have hpr := bad_all ⟨k, hlt⟩
      simp only at hpr
      have hlen := bad_len ⟨k, hlt⟩
      simp only at hlen
      obtain ⟨t, ht⟩ : ∃ t : ByteArray, t = ⟨(badL.getD k []).toArray⟩ := ⟨_, rfl⟩
      have htd : t.data.toList = badL.getD k [] := by rw [ht]
      have HP := Lib.hid (parse_any t (by rw [Lib.size_eq, htd]; omega) wr Sr.out.env)
      rw [htd, hpr] at HP
      rw [← ht] at hc
      have hkn : (k : Int) < 9 := by omega
      have Hlt := Lib.hid hlt
      clear hpr hlen ht htd hlt hk
      obtain ⟨wz, hwz⟩ : ∃ x, x = wr := ⟨_, rfl⟩
      subst hwz
      go_wp2_with fail
      refine HP.out.mono ?_
      rintro e W11 ⟨⟨dv, rfl, ok⟩, h11⟩
      have hf : Bs W11 W11.heap.size dv [] := ok.1
      obtain ⟨A1, c1, rfl, -, -⟩ := hf.1.form
      obtain ⟨W12, hW12⟩ : ∃ W12, W12 = W11.alloc (.cells #[.int .u8 0, .int .u64 0, .int .u64 0, .int .u64 0, .slice A1 0 c1] 25) := ⟨_, rfl⟩
      have hb12 : Below W11.heap.size W11 W12 := by rw [hW12]; exact bel1 _ _
      have hop : W12.heap[W11.heap.size]? = some (.cells #[.int .u8 0, .int .u64 0, .int .u64 0, .int .u64 0, .slice A1 0 c1] 25 (0, 0)) := by rw [hW12]; exact heap_alloc_new _ _
      have HS : Hid (Calls Tryz.prog 18 #[.agg #[.int .u8 0, .int .u64 0, .int .u64 0, .int .u64 0, .slice A1 0 c1], .agg #[.int .u8 0, .int .u64 0, .int .u64 0, .int .u64 0, .slice none 0 0]] W12 fun e w' => e = .returned (.bool true) ∧ Below W12.heap.size W12 w') := by
        have h := same_op W12 W12.heap.size (op0, .slice A1 0 c1) (op0, .slice none 0 0) ((ok.on hb12).more' hb12.size) (op0_ok _ _) (Nat.le_refl _)
        rw [decide_eq_true rfl] at h
        exact h
      have HB12 : Hid (Below W10.heap.size W10 W12) := HB.out.trans ((h11.trans (hb12.mono h11.size)).mono HB.out.size)
      obtain ⟨z0, z1, z2, z3, z4⟩ := cells5 hop
      have hW12' := hW12.symm
      clear hc h11 ok hf hop hb12 hW12
      have e1 : opVal (op0, Value.slice A1 0 c1) = .agg #[.int .u8 0, .int .u64 0, .int .u64 0, .int .u64 0, .slice A1 0 c1] := rfl
      rw [show (opVal (op0, Value.slice A1 [].length c1)) = .agg #[.int .u8 0, .int .u64 0, .int .u64 0, .int .u64 0, .slice A1 0 c1] from rfl]
      clear e1
      go_wp2_with (go_at_call 18; go_must (refine HS.out.mono ?_); rintro e W13 ⟨rfl, h13⟩; have H13 := Lib.hid (HB12.out.trans (h13.mono HB12.out.size)); clear h13)
      go_roundw
      case rel => exact ⟨k + 1, Hlt.out, by go_num, H13.out⟩
      case measure => have := Hlt.out; simp [intOf]; omega
    · obtain rfl : k = 9 := by omega
      clear hlt hk
      have hmk := make256
      obtain ⟨W14, hW14⟩ : ∃ W14, W14 = wr.alloc (.cells z256 5) := ⟨_, rfl⟩
      have hW14' := hW14.symm
      obtain ⟨Lg, hLg⟩ : ∃ x, x = wr.heap.size := ⟨_, rfl⟩
      have O14 : Hid (OwnB W14 Lg (List.replicate 256 (0 : Int))) := by
        rw [hLg, hW14]
        exact ⟨z256, heap_alloc_new _ _, by simp [z256], fun i u hu => by
          rw [List.map_replicate] at hu
          simpa [z256] using hu⟩
      have S14 : Hid (AwI w W14 Ob ((List.replicate 128 1).set 0 0) (.slice none 0 0)) := by rw [hW14]; exact Sr.out.on (bel1 _ _)
      have hLg' := hLg.symm
      clear hW14 hLg HB
      go_wp2_with fail
      refine (text_any (⟨0, 0, 0, 0, List.replicate 256 0⟩, .slice (some ⟨Lg, 0, none⟩) 256 256) W14.heap.size W14 (ops_ok (O14.out.bs (by simp) (by unfold maxLen; omega) zero_byte) (op0_in zero_byte)) (Nat.le_refl _) S14.out.env).mono ?_
      rintro e W15 ⟨rfl, h15⟩
      have S15 := Lib.hid (S14.out.on h15)
      have O15 := Lib.hid (O14.out.on h15)
      have etx : textR (⟨0, 0, 0, 0, List.replicate 256 0⟩ : OpV) = ([], 3) := by unfold textR; rw [if_pos (by simp)]
      have etx1 : (textR ((⟨0, 0, 0, 0, List.replicate 256 0⟩ : OpV), Value.slice (some ⟨Lg, 0, none⟩) 256 256).1).1 = [] := by show (textR (⟨0, 0, 0, 0, List.replicate 256 0⟩ : OpV)).1 = _; rw [etx]
      have etx2 : (textR ((⟨0, 0, 0, 0, List.replicate 256 0⟩ : OpV), Value.slice (some ⟨Lg, 0, none⟩) 256 256).1).2 = 3 := by show (textR (⟨0, 0, 0, 0, List.replicate 256 0⟩ : OpV)).2 = _; rw [etx]
      rw [etx1, etx2]
      clear h15 etx etx1 etx2 hmk hW14' hLg'
      go_wp2_with fail
      obtain ⟨W16, hW16⟩ : ∃ W16, W16 = W15.alloc (.cells #[.int .u8 0, .int .u64 0, .int .u64 0, .int .u64 0, .slice none 0 0, .int .u8 0, .int .u64 0, .int .u64 0, .int .u64 0, .slice (some ⟨Lg, 0, none⟩) 256 256] 25) := ⟨_, rfl⟩
      have H16 : Hid (OpsAt W16 W16.heap.size (.slice (some ⟨W15.heap.size, 0, none⟩) 2 2) [(op0, .slice none 0 0), (⟨0, 0, 0, 0, List.replicate 256 0⟩, .slice (some ⟨Lg, 0, none⟩) 256 256)]) := by
        have h := ops_new W15 [(op0, .slice none 0 0), (⟨0, 0, 0, 0, List.replicate 256 0⟩, .slice (some ⟨Lg, 0, none⟩) 256 256)] (by simp) (fun p hp => by
          rcases List.mem_cons.1 hp with rfl | hp
          · exact op0_ok _ _
          · rw [List.mem_singleton.1 hp]
            exact ops_ok (O15.out.bs (by simp) (by unfold maxLen; omega) zero_byte) (op0_in zero_byte))
        rw [hW16]
        exact h
      have S16 : Hid (AwI w W16 Ob ((List.replicate 128 1).set 0 0) (.slice none 0 0)) := by rw [hW16]; exact S15.out.on (bel1 _ _)
      have O16 : Hid (OwnB W16 Lg (List.replicate 256 (0 : Int))) := by rw [hW16]; exact O15.out.on (bel1 _ _)
      rw [← hW16]
      clear hW16
      refine (bytes_any W16 W16.heap.size _ _ H16.out (Nat.le_refl _) (by simp)).mono ?_
      rintro e W17 ⟨A17, n17, c17, rfl, o17, h17⟩
      have S17 := Lib.hid (S16.out.on h17)
      have O17 := Lib.hid (O16.out.on h17)
      have eb : (bytesR ([(op0, Value.slice none 0 0), ((⟨0, 0, 0, 0, List.replicate 256 0⟩ : OpV), Value.slice (some ⟨Lg, 0, none⟩) 256 256)].map (·.1))).2 = 3 := by
        unfold bytesR
        rw [if_neg]
        intro h
        have := h ⟨0, 0, 0, 0, List.replicate 256 0⟩ (by simp)
        simp at this
      rw [eb]
      clear h17 o17 eb H16
      go_wp2_with fail
      obtain ⟨W18, hW18⟩ : ∃ W18, W18 = W17.alloc (.cells #[.int .u8 6, .int .u64 0, .int .u64 0, .int .u64 258, .slice (some ⟨Lg, 0, none⟩) 2 256] 25) := ⟨_, rfl⟩
      have H18 : Hid (OpsAt W18 W18.heap.size (.slice (some ⟨W17.heap.size, 0, none⟩) 1 1) [(⟨6, 0, 0, 258, [0, 0]⟩, .slice (some ⟨Lg, 0, none⟩) 2 256)]) := by
        have h := ops_new W17 [(⟨6, 0, 0, 258, [0, 0]⟩, .slice (some ⟨Lg, 0, none⟩) 2 256)] (by simp) (fun p hp => by
          rw [List.mem_singleton.1 hp]
          refine ops_ok (O17.out.pre (k := 2) (c := 256) (by simp) (by omega) (by unfold maxLen; omega) ?_) ⟨(⟨by decide, by decide⟩ : IsByte 6), (⟨by decide, by decide⟩ : IsU64 0), (⟨by decide, by decide⟩ : IsU64 0), (⟨by decide, by decide⟩ : IsU64 258), ?_⟩
          · intro x hx; exact zero_byte x (List.mem_of_mem_take hx)
          · intro x hx
            have : x = 0 := by simpa using hx
            subst this; exact ⟨by decide, by decide⟩)
        rw [hW18]
        exact h
      have S18 : Hid (AwI w W18 Ob ((List.replicate 128 1).set 0 0) (.slice none 0 0)) := by rw [hW18]; exact S17.out.on (bel1 _ _)
      rw [← hW18]
      clear hW18
      refine (bytes_any W18 W18.heap.size _ _ H18.out (Nat.le_refl _) (by simp)).mono ?_
      rintro e W19 ⟨A19, n19, c19, rfl, o19, h19⟩
      have S19 := Lib.hid (S18.out.on h19)
      have eb : bytesR ([((⟨6, 0, 0, 258, [0, 0]⟩ : OpV), Value.slice (some ⟨Lg, 0, none⟩) 2 256)].map (·.1)) = (ex28, 0) := ex28_eq
      rw [eb] at o19 ⊢
      obtain ⟨g, rfl, rfl, hc19, cells⟩ := o19.cells (by decide)
      have x0 : W19.cell? ⟨g, 0, none⟩ = some (.int .u8 6) := cells 0 (by decide)
      have x23 : W19.cell? ⟨g, 23, none⟩ = some (.int .u8 1) := cells 23 (by decide)
      have x24 : W19.cell? ⟨g, 24, none⟩ = some (.int .u8 2) := cells 24 (by decide)
      have x25 : W19.cell? ⟨g, 25, none⟩ = some (.int .u8 2) := cells 25 (by decide)
      have e28 : ex28.length = 28 := by decide
      rw [e28]
      clear h19 o19 eb cells H18 e28
      have HFl := Lib.hid (filled_any 1 W19)
      have HT1 : Hid (∀ W, Env W → OwnB W W19.heap.size (List.replicate 128 1) → Calls Tryz.prog 19 #[.agg #[.int .u8 4, .int .u64 0, .int .u64 0, .int .u64 0, .slice none 0 0], .agg #[.int .i64 0, .int .u64 0, .slice (some ⟨W19.heap.size, 0, none⟩) 128 128, .int .i64 0]] W fun e w' => e = .returned (.string ⟨#[48, 49, 120, 49, 50, 56]⟩) ∧ Below W.heap.size W w') := fun W hW ho => by
        have h := told_reply (⟨4, 0, 0, 0, []⟩, .slice none 0 0) ⟨0, 0, List.replicate 128 1, 0⟩ (.slice (some ⟨W19.heap.size, 0, none⟩) 128 128) W.heap.size W (ops_ok (bs_nil _ _) (op_in (by decide) (by decide) (by decide) (by decide))) (Nat.le_refl _) (ho.bs (by simp) (by unfold maxLen; omega) fill_byte) (by simp) ⟨by decide, by decide⟩ ⟨by decide, by decide⟩ ⟨by decide, by decide⟩ hW
        have e1 : toldR 4 ⟨0, 0, List.replicate 128 1, 0⟩ = [48, 49, 120, 49, 50, 56] := exShown
        simp only at h
        rw [e1] at h
        exact h
      have HT2 : Hid (∀ W, Env W → Calls Tryz.prog 19 #[.agg #[.int .u8 5, .int .u64 1, .int .u64 3, .int .u64 0, .slice none 0 0], .agg #[.int .i64 200, .int .u64 0, .slice none 0 0, .int .i64 0]] W fun e w' => e = .returned (.string ⟨#[101, 114, 114, 111, 114, 32, 50, 48, 48]⟩) ∧ Below W.heap.size W w') := fun W hW => by
        have h := told_reply (⟨5, 1, 3, 0, []⟩, .slice none 0 0) ⟨200, 0, [], 0⟩ (.slice none 0 0) W.heap.size W (ops_ok (bs_nil _ _) (op_in (by decide) (by decide) (by decide) (by decide))) (Nat.le_refl _) (bs_nil _ _) (by simp) ⟨by decide, by decide⟩ ⟨by decide, by decide⟩ ⟨by decide, by decide⟩ hW
        have e1 : toldR 5 ⟨200, 0, [], 0⟩ = [101, 114, 114, 111, 114, 32, 50, 48, 48] := exErr
        simp only at h
        rw [e1] at h
        exact h
      go_wp2_with (first
        | (go_at_call 27; go_must (refine HFl.out.mono ?_); rintro e W20 ⟨rfl, o20, h20⟩; have O20 := Lib.hid o20; have S20 := Lib.hid (S19.out.on h20); clear o20 h20)
        | (go_at_call 19; (with_reducible refine (HT1.out _ S20.out.env O20.out).mono ?_); rintro e W21 ⟨rfl, h21⟩; have S21 := Lib.hid (S20.out.on h21); obtain ⟨q0, q1, q2, q3, q4⟩ := cells5 S21.out.op; clear h21)
        | (go_at_call 19; (with_reducible refine (HT2.out _ S21.out.env).mono ?_); rintro e W22 ⟨rfl, h22⟩; have S22 := Lib.hid (S21.out.on h22); clear h22))
      go_ret
      exact ⟨rfl, S22.out.bel⟩
end Go.Proofs.YtakiinghipjopaaGreatDoor
