/-
  OpsData: the law's walk.
-/
import Derived.Test.YtakiinghipjopaaGreatDoorAwake27
import Derived.Test.YtakiinghipjopaaGreatDoorDataMath
import Derived.Shelf.Strings.SlTrimAscii
import Derived.Laws.MakeOwn
namespace Go.Proofs.YtakiinghipjopaaGreatDoor
open Go.RowKit Go.Shelf

/-! ### strings.Trim at the law's letters -/
theorem trim_any (s : ByteArray) (w : World) (hs : s.size ≤ 100000) :
    Calls Tryz.prog 26 #[.string s, .string ⟨#[48, 49, 50, 51, 52, 53, 54, 55, 56, 57, 97, 98, 99, 100, 101, 102, 120, 46, 45]⟩] w fun e w' => e = .returned (.string ⟨(Lib.trimS s.data.toList trimC).toArray⟩) ∧ Below w.heap.size w w' :=
  Any.strings_Trim_laid Tryz.lays160 (by kernel_rfl) s _ w (by omega) (by decide) (ascii_of_all (by decide))

theorem shown_small (d : List Int) (hl : d.length ≤ 400) : (shownOf d).length ≤ 20000 := by
  unfold shownOf
  split
  · simp
  · have h1 := join_len [46] 9 ((runsOf d).map runTxt) (fun x hx => by
      obtain ⟨p, hp, rfl⟩ := List.mem_map.1 hx
      exact runTxt_len p (by have := (runs_mem hp).2.2; omega))
    have h2 := runs_count d
    rw [List.length_map] at h1
    have : (runsOf d).length * (9 + [46].length) ≤ 400 * 10 := Nat.mul_le_mul (by omega) (by simp)
    omega
/-! ### a new row of so many bytes -/
theorem info_u8 : ∃ i, Tryz.prog.info? 5 = some i ∧ i.zero = some (.int .u8 0) ∧ i.size = 1 ∧ i.bytes = 1 := by
  obtain ⟨i0, hi, hz0, hz1, hz2⟩ := info_parts infoU8
  exact ⟨i0, hi, hz0, hz1, hz2⟩
theorem made_one (n : Nat) : madeCells (Value.int .u8 0).cells (n * 1) = (List.replicate n (Value.int .u8 0)).toArray := by
  apply Array.ext'
  apply List.ext_getElem
  · simp [madeCells]
  · intro i h1 h2
    simp [madeCells, Value.cells, Nat.mod_one]
theorem make_u8 (n : Nat) (hn : n ≤ 100000) (w : World) : (Instr.makeSlice 23 (.int .i64 n) (.int .i64 n)).run Tryz.prog w = .ok (.slice (some ⟨w.heap.size, 0, none⟩) n n) (w.alloc (.cells (List.replicate n (Value.int .u8 0)).toArray 5)) := by
  obtain ⟨i0, hi, hz0, hz1, hz2⟩ := info_u8
  have h := run_makeSlice (P := Tryz.prog) w 23 5 i0 (.int .u8 0) Tryz.underlying23 hi hz0 .i64 .i64 n n (by omega) (Int.le_refl _) (by rw [hz1, Int.toNat_natCast]; omega) (by rw [hz2]; omega) (by omega)
  rw [hz1, Int.toNat_natCast, made_one] at h
  exact h
theorem ownB_make (w : World) (n : Nat) : OwnB (w.alloc (.cells (List.replicate n (Value.int .u8 0)).toArray 5)) w.heap.size (List.replicate n 0) :=
  ⟨_, heap_alloc_new _ _, by simp, fun i u hu => by
    rw [List.map_replicate] at hu
    rw [List.getElem?_toArray]
    exact hu⟩
theorem rep_set (x : Int) (n k : Nat) (hk : k < n) : (List.replicate k x ++ List.replicate (n - k) 0).set k x = List.replicate (k + 1) x ++ List.replicate (n - (k + 1)) 0 := by
  rw [List.set_append_right _ _ (by simp)]
  have e : n - k = (n - (k + 1)) + 1 := by omega
  rw [e, List.replicate_succ]
  simp [List.replicate_succ']

theorem is_u16 {n : Int} (h : (Lit.int .u16 n).wf = true) : 0 ≤ n ∧ n < 65536 := by
  simp [Lit.wf, IntKind.min, IntKind.max, IntKind.signed, IntKind.bits] at h
  omega
theorem i64_0 : IsI64 0 := ⟨by decide, by decide⟩
theorem u64_0 : IsU64 0 := ⟨by decide, by decide⟩
theorem toldR_read (d : List Int) : toldR 4 ⟨0, 0, d, 0⟩ = shownOf d := rfl
theorem arr_inj {a b : List UInt8} : (⟨a.toArray⟩ : ByteArray) = ⟨b.toArray⟩ ↔ a = b := by
  constructor
  · intro h
    have := congrArg (fun x : ByteArray => x.data.toList) h
    simpa using this
  · rintro rfl; rfl
theorem beq_str (x y : ByteArray) {b : Bool} (h : x = y ↔ b = true) : (x.toList == y.toList) = b := by
  rw [Bool.eq_iff_iff, beq_iff_eq, ← h]
  exact ⟨fun e => by rw [ByteArray.toList_eq, ByteArray.toList_eq] at e; exact Go.WideShapes.bytes_inj e, fun e => by rw [e]⟩
set_option maxRecDepth 100000 in
set_option maxHeartbeats 4000000 in
theorem opsData_walk (w : World) (v0 : Value) (a : List Int) (h0 : Bs w w.heap.size v0 a) (v1 : Value) (b : List Int) (h1 : Bs w w.heap.size v1 b) (x : Int) (hx : IsByte x) (n : Int) (hn : 0 ≤ n ∧ n < 65536) (hE : Env w) :
    Calls Tryz.prog 5 #[v0, v1, .int .u8 x, .int .u16 n] w fun e w' => e = .returned (.bool true) ∧ Below w.heap.size w w' := by
  obtain ⟨A0, c0, rfl, -, -⟩ := h0.1.form
  obtain ⟨A1, c1, rfl, -, -⟩ := h1.1.form
  obtain ⟨m0, hm0⟩ : ∃ m, m = a.length := ⟨_, rfl⟩
  obtain ⟨m1, hm1⟩ : ∃ m, m = b.length := ⟨_, rfl⟩
  rw [← hm0] at h0 ⊢
  rw [← hm1] at h1 ⊢
  have M0 := Lib.hid hm0
  have M1 := Lib.hid hm1
  have H0 := Lib.hid h0
  have H1 := Lib.hid h1
  have HE := Lib.hid hE
  have HX := Lib.hid hx
  clear hm0 hm1 h0 h1 hE hx
  by_cases hb : 400 < m0 ∨ 400 < m1
  · have HA := Lib.hid (awake_true w HE.out)
    by_cases hc : 400 < m0
    · have hc' : (400 : Int) < m0 := by omega
      go_enter Tryz.func5, Tryz.ntmps5
      go_wp2_with (go_at_call 6; go_must (refine HA.out.mono ?_); rintro e W1 ⟨rfl, g1⟩)
      go_ret
      exact ⟨rfl, g1⟩
    · have hc' : ¬ (400 : Int) < m0 := by omega
      have hb' : (400 : Int) < m1 := by omega
      go_enter Tryz.func5, Tryz.ntmps5
      go_wp2_with (go_at_call 6; go_must (refine HA.out.mono ?_); rintro e W1 ⟨rfl, g1⟩)
      go_ret
      exact ⟨rfl, g1⟩
  have hc' : ¬ (400 : Int) < m0 := by omega
  have hb' : ¬ (400 : Int) < m1 := by omega
  have HL : Hid (m0 ≤ 400 ∧ m1 ≤ 400) := ⟨by omega, by omega⟩
  clear hb
  obtain ⟨S, hS⟩ : ∃ x : ByteArray, x = ⟨(shownOf a).toArray⟩ := ⟨_, rfl⟩
  obtain ⟨T, hT⟩ : ∃ x : ByteArray, x = ⟨(shownOf b).toArray⟩ := ⟨_, rfl⟩
  have Sd : Hid (S.data.toList = shownOf a) := by show _ = _; rw [hS]
  have HS := Lib.hid hS
  have HT := Lib.hid hT
  obtain ⟨W1, hW1⟩ : ∃ W1, W1 = w.alloc (.cells #[.int .u8 4, .int .u64 0, .int .u64 0, .int .u64 0, .slice none 0 0] 25) := ⟨_, rfl⟩
  have B1 : Hid (Below w.heap.size w W1) := by rw [hW1]; exact bel1 _ _
  have hbx : W1.heap[w.heap.size]? = some (.cells #[.int .u8 4, .int .u64 0, .int .u64 0, .int .u64 0, .slice none 0 0] 25 (0, 0)) := by rw [hW1]; exact heap_alloc_new _ _
  obtain ⟨r0, r1, r2, r3, r4⟩ := cells5 hbx
  have HR := Lib.hid hbx
  have HE1 := Lib.hid (HE.out.on' B1.out)
  have Htold : Hid (∀ W, Below W1.heap.size W1 W → ∀ (d : List Int) (dv : Value), Bs W W.heap.size dv d → d.length ≤ 100000 →
      Calls Tryz.prog 19 #[.agg #[.int .u8 4, .int .u64 0, .int .u64 0, .int .u64 0, .slice none 0 0], .agg #[.int .i64 0, .int .u64 0, dv, .int .i64 0]] W fun e w' => e = .returned (.string ⟨(shownOf d).toArray⟩) ∧ Below W.heap.size W w') := fun W hW d dv hd hl => by
    have h := told_reply (⟨4, 0, 0, 0, []⟩, .slice none 0 0) ⟨0, 0, d, 0⟩ dv W.heap.size W ⟨⟨sl_nil _ _ _, fun x h => by cases h⟩, ⟨by decide, by decide⟩, u64_0, u64_0, u64_0⟩ (Nat.le_refl _) hd hl i64_0 u64_0 i64_0 (HE1.out.on' hW)
    rw [toldR_read] at h
    exact h
  have cA : ∀ d os, Calls Tryz.prog 19 #[.agg #[.int .u8 4, .int .u64 0, .int .u64 0, .int .u64 0, .slice none 0 0], .agg #[.int .i64 0, .int .u64 0, .slice A0 m0 c0, .int .i64 0]] (Sort.grow (redrawn W1 d) os) fun e w'' => e = .returned (.string S) ∧ ∃ p : Regrown, w'' = Sort.grow (redrawn W1 p.d) p.os := fun d os => by
    have hB := below_regrown W1 d os
    rw [hS]
    exact Calls.regrown_of (Htold.out _ hB a _ ⟨(H0.out.1.below (B1.out.trans (hB.mono B1.out.size))).more (Nat.le_trans B1.out.size hB.size), H0.out.2⟩ (by have := HL.out; have := M0.out; omega))
  have cB : ∀ d os, Calls Tryz.prog 19 #[.agg #[.int .u8 4, .int .u64 0, .int .u64 0, .int .u64 0, .slice none 0 0], .agg #[.int .i64 0, .int .u64 0, .slice A1 m1 c1, .int .i64 0]] (Sort.grow (redrawn W1 d) os) fun e w'' => e = .returned (.string T) ∧ ∃ p : Regrown, w'' = Sort.grow (redrawn W1 p.d) p.os := fun d os => by
    have hB := below_regrown W1 d os
    rw [hT]
    exact Calls.regrown_of (Htold.out _ hB b _ ⟨(H1.out.1.below (B1.out.trans (hB.mono B1.out.size))).more (Nat.le_trans B1.out.size hB.size), H1.out.2⟩ (by have := HL.out; have := M1.out; omega))
  clear hbx hS hT
  have z0 := cell_regrown r0
  have z1 := cell_regrown r1
  have z2 := cell_regrown r2
  have z3 := cell_regrown r3
  have z4 := cell_regrown r4
  go_enter Tryz.func5, Tryz.ntmps5
  clear r0 r1 r2 r3 r4
  go_upto_region 4 with fail
  rw [← hW1]
  clear hW1
  refine wp_region_quiet_below (by kernel_rfl) (by kernel_rfl) ?_
  repeat (go_big_quiet_step (first | with_reducible exact cA _ _ | with_reducible exact cB _ _))
  refine wpQuiet_nil ?_
  intro _ hw'
  obtain ⟨⟨dq, osq⟩, hw''⟩ := hw'
  subst hw''
  clear cA cB z0 z1 z2 z3 z4
  have b2 := below_regrown W1 dq osq
  generalize Sort.grow (redrawn W1 dq) osq = W2 at *
  have B12 := Lib.hid b2
  have B2 : Hid (Below w.heap.size w W2) := B1.out.trans (b2.mono B1.out.size)
  have HQ := Lib.hid (equal_any W2 W2.heap.size (.slice A0 m0 c0) (.slice A1 m1 c1) a b ⟨(H0.out.1.below B2.out).more B2.out.size, H0.out.2⟩ ⟨(H1.out.1.below B2.out).more B2.out.size, H1.out.2⟩)
  have hne : S.toList ≠ [] := fun h => by
    rw [ByteArray.toList_eq, Sd.out] at h
    exact shown_ne a H0.out.2 h
  have hne1 : S.toList.isEmpty = false := by simpa using hne
  have hne2 : (S.toList == []) = false := beq_false_of_ne hne
  have HTr : Hid (Calls Tryz.prog 26 #[.string S, .string ⟨#[48, 49, 50, 51, 52, 53, 54, 55, 56, 57, 97, 98, 99, 100, 101, 102, 120, 46, 45]⟩] W2 fun e w' => e = .returned (.string ⟨#[]⟩) ∧ Below W2.heap.size W2 w') := by
    have h := trim_any S W2 (by
      have h1 := shown_small a (by have := HL.out; have := M0.out; omega)
      rw [Lib.size_eq, Sd.out]
      omega)
    rw [Sd.out, trim_shown a H0.out.2] at h
    exact h
  have hst := beq_str S T (b := decide (a = b)) (by
    rw [HS.out, HT.out, arr_inj, decide_eq_true_iff]
    exact ⟨fun h => shown_inj a b H0.out.2 H1.out.2 (by have := HL.out; have := M0.out; omega) (by have := HL.out; have := M1.out; omega) h, fun h => by rw [h]⟩)
  clear b2
  obtain ⟨rb, hrb⟩ : ∃ x, x = decide (a = b) := ⟨_, rfl⟩
  rw [← hrb] at hst HQ
  clear hrb hne
  obtain ⟨hn0, hn1⟩ := hn
  obtain ⟨q, hq⟩ : ∃ q : Nat, 1 + n % 400 = q := ⟨(1 + n % 400).toNat, by omega⟩
  have Hq : Hid (1 ≤ q ∧ q ≤ 400) := by show _ ∧ _; omega
  cases rb
  all_goals
    go_upto_region 8 with (first
      | (go_at_call 12; go_must (refine HQ.out.mono ?_); rintro e W3 ⟨rfl, rfl⟩)
      | (go_at_call 26; go_must (refine HTr.out.mono ?_); rintro e W3 ⟨rfl, h3⟩; have B3 := Lib.hid (B12.out.trans (h3.mono B12.out.size)); clear h3))
    have hmk := make_u8 q (by have := Hq.out; omega)
    go_wp2_with fail
    obtain ⟨g, hg⟩ : ∃ g, g = W3.heap.size := ⟨_, rfl⟩
    have Hg := Lib.hid hg
    rw [← hg]
    clear hmk hst hne1 hne2 hg
    go_loopw [58] (fun i wr => ∃ k : Nat, k ≤ q ∧ i = .int .i64 k ∧ Hid (OwnB wr g (List.replicate k x ++ List.replicate (q - k) 0) ∧ Below W3.heap.size W3 wr)) (fun i _ => q - (intOf i).toNat)
    case atStart => exact ⟨0, Nat.zero_le _, rfl, by rw [Hg.out]; exact ownB_make W3 q, bel1 _ _⟩
    case round =>
      obtain ⟨k, hk, rfl, HK⟩ := hrel
      by_cases hlt : k < q
      · have hk0 : (0 : Int) ≤ (k : Int) := by omega
        have hkq : (k : Int) < q := by omega
        have HK1 := Lib.hid (HK.out.1.set k x)
        have HK2 : Hid (Below W3.heap.size W3 (wr.setCell ⟨g, k, none⟩ (.int .u8 x))) := HK.out.2.setCell (by rw [Hg.out]; exact Nat.le_refl _) _
        obtain ⟨hc, hf⟩ := HK.out.1.cell (i := k) (by simp; omega)
        have Hlt := Lib.hid hlt
        generalize (List.replicate k x ++ List.replicate (q - k) 0)[k]'_ = u at hc
        clear hlt hk
        go_wp2_with fail
        go_roundw
        case rel =>
          refine ⟨k + 1, Hlt.out, by go_num, ?_, HK2.out⟩
          have h := HK1.out
          rw [rep_set x q k Hlt.out] at h
          exact h
        case measure => have := Hlt.out; simp [intOf]; omega
      · obtain rfl : k = q := by omega
        have hkq : ¬ ((k : Int) < k) := by omega
        have B4 : Hid (Below W1.heap.size W1 wr) := B3.out.trans (HK.out.2.mono B3.out.size)
        have O4 : Hid (OwnB wr g (List.replicate k x)) := by show OwnB _ _ _; have h := HK.out.1; simpa using h
        obtain ⟨r0, r1, r2, r3, r4⟩ := cells5 ((B4.out.block w.heap.size (by have h := HR.out; exact (Array.getElem?_eq_some_iff.1 h).1)).trans HR.out)
        obtain ⟨U, hU⟩ : ∃ u : ByteArray, u = ⟨(shownOf (List.replicate k x)).toArray⟩ := ⟨_, rfl⟩
        have Ud : U.data.toList = shownOf (List.replicate k x) := by rw [hU]
        have hlen := like_len x k Hq.out.1 Hq.out.2
        rw [← Ud, ← Lib.size_eq] at hlen
        have hu6 : (U.size : Int) ≤ 6 := by omega
        have HCo : Hid (∀ W, Calls Tryz.prog 23 #[.string U, .string ⟨#[46]⟩] W fun e w' => e = .returned (.bool false) ∧ W = w') := fun W => by
          have h := Tryz.strings_Contains_one U 46 W
          rw [idx_has, Ud, show (shownOf (List.replicate k x)).contains 46 = false by
            rw [List.contains_eq_mem, decide_eq_false (like_dot x k Hq.out.1 HX.out)]] at h
          exact h.mono fun _ _ ⟨x, y⟩ => ⟨x, y.symm⟩
        have HTo := Lib.hid (Htold.out wr B4.out (List.replicate k x) (.slice (some ⟨g, 0, none⟩) k k) (O4.out.bs (by simp) (by have := Hq.out; unfold maxLen; omega) (fun y hy => by rw [List.eq_of_mem_replicate hy]; exact HX.out)) (by have := Hq.out; simp; omega))
        rw [← hU] at HTo
        have HAw : Hid (∀ W, Below W1.heap.size W1 W → Calls Tryz.prog 6 #[] W fun e w' => e = .returned (.bool true) ∧ Below W.heap.size W w') := fun W hW => awake_true W (HE1.out.on' hW)
        have Hlen := Lib.hid hlen.2
        clear hU Ud hlen hlt hk hq
        by_cases hk1 : k = 1
        · have hu2 : U.size = 2 := Hlen.out.2 hk1
          have hu2' : (U.size : Int) = 2 := by omega
          have hk1' : (k : Int) = 1 := by omega
          have e1 : ((k : Int) == 1) = true := by rw [hk1']; rfl
          have e2 : ((U.size : Int) == 2) = true := by rw [hu2']; rfl
          clear hu2 hu2' hk1 hk1'
          go_wp2_with (first
            | (go_at_call 19; go_must ((with_reducible refine HTo.out.mono ?_)); rintro e W5 ⟨rfl, h5⟩; have B5 := Lib.hid (B4.out.trans (h5.mono B4.out.size)); clear h5)
            | (go_at_call 23; go_must (refine (HCo.out _).mono ?_); rintro e W6 ⟨rfl, rfl⟩)
            | (go_at_call 6; go_must (refine (HAw.out _ B5.out).mono ?_); rintro e W7 ⟨rfl, h7⟩; have B7 := Lib.hid (B5.out.trans (h7.mono B5.out.size)); clear h7))
          go_ret
          exact ⟨rfl, B1.out.trans (B7.out.mono B1.out.size)⟩
        · have hu2 : ¬ (U.size : Int) = 2 := fun h => hk1 (Hlen.out.1 (by omega))
          have hk1' : ¬ (k : Int) = 1 := by omega
          clear hk1
          have e1 : ((k : Int) == 1) = false := beq_false_of_ne hk1'
          have e2 : ((U.size : Int) == 2) = false := beq_false_of_ne hu2
          go_wp2_with (first
            | (go_at_call 19; go_must ((with_reducible refine HTo.out.mono ?_)); rintro e W5 ⟨rfl, h5⟩; have B5 := Lib.hid (B4.out.trans (h5.mono B4.out.size)); clear h5)
            | (go_at_call 23; go_must (refine (HCo.out _).mono ?_); rintro e W6 ⟨rfl, rfl⟩)
            | (go_at_call 6; go_must (refine (HAw.out _ B5.out).mono ?_); rintro e W7 ⟨rfl, h7⟩; have B7 := Lib.hid (B5.out.trans (h7.mono B5.out.size)); clear h7))
          go_ret
          exact ⟨rfl, B1.out.trans (B7.out.mono B1.out.size)⟩
end Go.Proofs.YtakiinghipjopaaGreatDoor
