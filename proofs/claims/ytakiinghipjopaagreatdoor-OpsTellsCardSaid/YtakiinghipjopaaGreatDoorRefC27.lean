/-
  The reference of layer 27: data as a text.
-/
import Derived.Test.YtakiinghipjopaaGreatDoorRefB27
import Derived.Deep.CutBlock
import Derived.Deep.CutRange
import Derived.Deep.RegionHeld3
namespace Go.Proofs.YtakiinghipjopaaGreatDoor
open Go.RowKit Go.Shelf

/-- the outer loop as it stands: k bytes are told -/
def RdI (w wr : World) (bs : List Int) (k : Nat) (S : ByteArray) : Prop :=
  k ≤ bs.length ∧ Below w.heap.size w wr ∧ ∃ pre : List (Int × Nat), runsOf bs = pre ++ runsOf (bs.drop k) ∧ S.data.toList = Lib.join (pre.map runTxt) [46] ∧ (pre = [] ↔ k = 0)
theorem join_snoc (c : UInt8) (xs : List (List UInt8)) (y : List UInt8) : Lib.join (xs ++ [y]) [c] = Lib.join xs [c] ++ (if xs = [] then [] else [c]) ++ y := by
  cases xs with
  | nil => simp [join_words, Lib.join_nil]
  | cons x r => rw [List.cons_append, join_words, join_words]; simp
theorem RdI.small {w wr : World} {bs : List Int} {k : Nat} {S : ByteArray} (h : RdI w wr bs k S) (hl : bs.length ≤ 100000) : S.size ≤ 1000000 := by
  obtain ⟨_, _, pre, h1, h2, _⟩ := h
  have h3 : pre.length ≤ bs.length := by
    have := congrArg List.length h1
    rw [List.length_append] at this
    have := runs_count bs
    omega
  rw [Lib.size_eq, h2]
  have h4 := join_len [46] 9 (pre.map runTxt) (fun x hx => by
    obtain ⟨p, hp, rfl⟩ := List.mem_map.1 hx
    exact runTxt_len p (by
      have : p ∈ runsOf bs := by rw [h1]; exact List.mem_append.2 (.inl hp)
      have := (runs_mem this).2.2
      omega))
  rw [List.length_map] at h4
  have : pre.length * (9 + [46].length) ≤ 100000 * 10 := Nat.mul_le_mul (by omega) (by simp)
  omega
/-- one run more -/
theorem RdI.next {w wr wr' : World} {bs : List Int} {k m : Nat} {S S' : ByteArray} (h : RdI w wr bs k S) (hB : Below w.heap.size w wr') (h0 : 0 < m) (hk : k + m ≤ bs.length)
    (hs : ∀ t, t < m → bs.getD (k + t) 0 = bs.getD k 0) (hn : k + m < bs.length → bs.getD (k + m) 0 ≠ bs.getD k 0)
    (hS : S'.data.toList = S.data.toList ++ (if 0 < k then [46] else []) ++ runTxt (bs.getD k 0, m)) : RdI w wr' bs (k + m) S' := by
  obtain ⟨_, _, pre, h1, h2, h3⟩ := h
  have hlen : 0 < (bs.drop k).length := by rw [List.length_drop]; omega
  have get : ∀ j (hj : j < (bs.drop k).length), (bs.drop k)[j] = bs.getD (k + j) 0 := fun j hj => by
    have : k + j < bs.length := by rw [List.length_drop] at hj; omega
    rw [List.getElem_drop, List.getD_eq_getElem?_getD, List.getElem?_eq_getElem this]
    rfl
  have e := runsOf_step (rest := bs.drop k) (m := m) h0 (by rw [List.length_drop]; omega) (fun j hj hjm => by rw [get j hj, get 0 hlen, Nat.add_zero]; exact hs j hjm) (fun hm => by rw [get m hm, get 0 hlen, Nat.add_zero]; exact hn (by rw [List.length_drop] at hm; omega))
  rw [get 0 hlen, Nat.add_zero, List.drop_drop] at e
  refine ⟨hk, hB, pre ++ [(bs.getD k 0, m)], by rw [h1, e]; simp, ?_, by simp; omega⟩
  rw [hS, List.map_append, List.map_cons, List.map_nil, join_snoc, h2]
  congr 2
  by_cases hk0 : k = 0
  · rw [if_neg (by omega), if_pos (by simp [h3.2 hk0])]
  · rw [if_pos (by omega), if_neg (by simp; exact fun hp => hk0 (h3.1 hp))]
theorem RdI.fin {w wr : World} {bs : List Int} {S : ByteArray} (h : RdI w wr bs bs.length S) (h0 : bs ≠ []) : S = ⟨(shownOf bs).toArray⟩ ∧ Below w.heap.size w wr := by
  obtain ⟨_, hb, pre, h1, h2, _⟩ := h
  refine ⟨?_, hb⟩
  apply Go.WideShapes.bytes_inj
  rw [List.drop_length] at h1
  have e : runsOf [] = [] := rfl
  rw [e, List.append_nil] at h1
  rw [h2]
  unfold shownOf
  rw [if_neg h0, h1]
theorem cat_list (S T : ByteArray) : (S ++ T).data.toList = S.data.toList ++ T.data.toList := by simp
set_option maxRecDepth 100000 in
set_option maxHeartbeats 8000000 in
theorem rdata_any (w : World) (B : Nat) (v : Value) (bs : List Int) (hb : Bs w B v bs) (hB : B ≤ w.heap.size) (hl : bs.length ≤ 100000) :
    Calls Tryz.prog 42 #[v] w fun e w' => e = .returned (.string ⟨(shownOf bs).toArray⟩) ∧ Below w.heap.size w w' := by
  by_cases h0 : bs = []
  · subst h0
    obtain ⟨A, c, rfl, -, -⟩ := hb.1.form
    clear hb
    go_enter Tryz.func42, Tryz.ntmps42
    go_wp2_with fail
    go_ret
    exact ⟨rfl, Below.refl _ _⟩
  · have hpos : 0 < bs.length := List.length_pos_iff.2 h0
    obtain ⟨b, o, c, rfl, -, -, hr⟩ := hb.1.row hpos
    obtain ⟨L, hL⟩ : ∃ L, L = bs.length := ⟨_, rfl⟩
    have HC : Hid (∀ k, k < L → ∀ W, Below w.heap.size w W → W.cell? ⟨b, o + k, none⟩ = some (.int .u8 (bs.getD k 0))) := fun k hk W hW => by
      rw [hW.cell (p := ⟨b, o + k, none⟩) (Nat.lt_of_lt_of_le hr.1 hB)]
      refine hr.2 k _ ?_
      rw [List.getElem?_map, List.getElem?_eq_getElem (by omega), List.getD_eq_getElem?_getD, List.getElem?_eq_getElem (by omega)]
      rfl
    have HY : Hid (∀ k, k < L → IsByte (bs.getD k 0)) := fun k hk => by
      rw [List.getD_eq_getElem?_getD, List.getElem?_eq_getElem (by omega)]
      exact hb.2 _ (List.getElem_mem _)
    have HL := Lib.hid hL
    have H0 := Lib.hid h0
    have hL1 : (L : Int) ≤ 100000 := by omega
    have hL0 : (0 : Int) < L := by omega
    have hLz : ((L : Int) == 0) = false := beq_false_of_ne (by omega)
    rw [← hL]
    clear hr hL hpos h0 hb hB hl
    go_enter Tryz.func42, Tryz.ntmps42
    go_wp2_with fail
    go_loopw [3, 4] (fun s i wr => ∃ (k : Nat) (S : ByteArray), i = .int .i64 k ∧ s = .string S ∧ Hid (RdI w wr bs k S)) (fun _ i _ => L - (intOf i).toNat)
    case atStart => exact ⟨0, ByteArray.empty, rfl, rfl, Nat.zero_le _, Below.refl _ _, [], by simp, rfl, by simp⟩
    case round =>
      obtain ⟨k, S, rfl, rfl, HI⟩ := hrel
      have hk0 : (0 : Int) ≤ (k : Int) := by omega
      have HkL : Hid (k ≤ L) := by have h := HI.out.1; rw [← HL.out] at h; exact h
      have hkn : (k : Int) ≤ L := by have := HkL.out; omega
      by_cases hlt : k < L
      · have hlt' : (k : Int) < L := by omega
        have HLT := Lib.hid hlt
        have HS := Lib.hid (HI.out.small (by have := HL.out; omega))
        obtain ⟨x, hx⟩ : ∃ x, x = bs.getD k 0 := ⟨_, rfl⟩
        have hxb := HY.out k hlt
        rw [← hx] at hxb
        obtain ⟨x0, x1⟩ := hxb
        have Hx := Lib.hid hx
        have HB := Lib.hid HI.out.2.1
        clear hx hlt
        obtain ⟨wo, hwo⟩ : ∃ y, y = wr := ⟨_, rfl⟩
        subst hwo
        go_upto_block 2 with fail
        go_cut [5] from 9 to 64 (fun n wx => ∃ m : Nat, n = .int .i64 m ∧ Hid (0 < m ∧ k + m ≤ L ∧ (∀ t, t < m → bs.getD (k + t) 0 = x) ∧ (k + m < L → bs.getD (k + m) 0 ≠ x) ∧ Below w.heap.size w wx))
        case first =>
          go_wp2_with fail
          go_loopw [5] (fun n wr => ∃ j : Nat, n = .int .i64 j ∧ Hid (k + j ≤ L ∧ (∀ t, t < j → bs.getD (k + t) 0 = x) ∧ Below w.heap.size w wr)) (fun n _ => L - (intOf n).toNat)
          case atStart => exact ⟨0, rfl, by have := HLT.out; omega, fun t ht => absurd ht (by omega), HB.out⟩
          case round =>
            obtain ⟨j, rfl, HJ⟩ := hrel
            obtain ⟨p, hp⟩ : ∃ p, p = k + j := ⟨_, rfl⟩
            have hpL : (p : Int) ≤ L := by have := HJ.out.1; omega
            have hw : IntKind.i64.wrap ((k : Int) + j) = (p : Int) := by rw [IntKind.wrap_i64]; omega
            have hw2 : RowKit.wrap64 ((k : Int) + j) = (p : Int) := by unfold RowKit.wrap64; omega
            have hp0 : (0 : Int) ≤ p := by omega
            have hj0 : (0 : Int) ≤ j := by omega
            have hjL : (j : Int) ≤ L := by omega
            have hc0 := HC.out k HLT.out wr HJ.out.2.2
            rw [← Hx.out] at hc0
            have HP := Lib.hid hp
            by_cases h1 : p < L
            · have h1' : (p : Int) < L := by omega
              have hc1 := HC.out p h1 wr HJ.out.2.2
              obtain ⟨x1, hx1⟩ : ∃ y, y = bs.getD p 0 := ⟨_, rfl⟩
              rw [← hx1] at hc1
              have HX1 := Lib.hid hx1
              have H1 := Lib.hid h1
              clear hx1 hp h1
              by_cases hxx : x1 = x
              · have HXX := Lib.hid hxx
                have hb1 : (x1 == x) = true := by rw [hxx]; exact beq_self_eq_true _
                clear hxx
                go_wp2_with fail
                go_quiet (fail)
                clear hc0 hc1
                go_wp2_with fail
                go_roundw
                case rel =>
                  refine ⟨j + 1, by go_num, ?_, fun t ht => ?_, below_drewN HJ.out.2.2 _⟩
                  · have := H1.out; have := HP.out; omega
                  · by_cases htj : t < j
                    · exact HJ.out.2.1 t htj
                    · obtain rfl : t = j := by omega
                      rw [← HP.out, ← HX1.out]
                      exact HXX.out
                case measure => have := H1.out; have := HP.out; simp [intOf]; omega
              · have HXX := Lib.hid hxx
                have hb1 : (x1 == x) = false := beq_false_of_ne hxx
                clear hxx
                go_wp2_with fail
                go_quiet (fail)
                clear hc0 hc1
                go_wp2_with fail
                go_meet
                case rel =>
                  refine ⟨j, rfl, ?_, by have := H1.out; have := HP.out; omega, HJ.out.2.1, fun _ => ?_, below_drewN HJ.out.2.2 _⟩
                  · rcases Nat.eq_zero_or_pos j with h | h
                    · subst h
                      have h2 := HXX.out
                      rw [HX1.out, HP.out, Nat.add_zero, ← Hx.out] at h2
                      exact absurd rfl h2
                    · exact h
                  · rw [← HP.out, ← HX1.out]
                    exact HXX.out
            · have h1' : ¬ (p : Int) < L := by omega
              have hd : decide (p < L) = false := decide_eq_false h1
              clear hc0 hp h1
              go_wp2_with fail
              go_quiet (fail)
              go_wp2_with fail
              go_meet
              case rel =>
                refine ⟨j, rfl, ?_, HJ.out.1, HJ.out.2.1, fun h => absurd h (by have := HP.out; omega), below_drewN HJ.out.2.2 _⟩
                have := HLT.out
                have := HP.out
                omega
        case rest =>
          obtain ⟨m, rfl, HM⟩ := hcut
          have hmb : (m : Int) ≤ 100000 := by have := HM.out.2.1; omega
          have hm0 : (0 : Int) < m := by have := HM.out.1; omega
          have HBc := Lib.hid HM.out.2.2.2.2
          obtain ⟨W, hW⟩ : ∃ y, y = wc := ⟨_, rfl⟩
          subst hW
          -- the point
          obtain ⟨S1, hS1⟩ : ∃ T : ByteArray, T.data.toList = S.data.toList ++ (if 0 < k then [46] else []) := ⟨⟨(S.data.toList ++ (if 0 < k then [46] else [])).toArray⟩, by simp⟩
          have HS1 := Lib.hid hS1
          have hS1z : S1.size ≤ 1000001 := by
            rw [Lib.size_eq, hS1, List.length_append]
            have := HS.out
            have h2 := Lib.size_eq S
            split <;> simp <;> omega
          have HS1z := Lib.hid hS1z
          clear hS1 hS1z
          go_upto_if 35 with fail
          go_cut [3] from 9 to 64 (fun s wx => s = .string S1 ∧ wx = W)
          case first =>
            by_cases hk : 0 < k
            · have hk' : (0 : Int) < k := by omega
              have q0 : ∀ W', (Op.stringOp .add S ⟨#[46]⟩).run Tryz.prog W' = .ok (.string (S ++ ⟨#[46]⟩)) W' := fun W' => run_string_add_sum W' _ _ (by
                have := HS.out
                show S.size + 1 ≤ _
                omega)
              have e1 : S ++ ⟨#[46]⟩ = S1 := by
                apply Go.WideShapes.bytes_inj
                rw [HS1.out, if_pos hk, cat_list]
              rw [e1] at q0
              clear e1 hk
              go_wp2_with fail
              go_meet
              case rel => exact ⟨rfl, rfl⟩
            · have hk' : ¬ (0 : Int) < k := by omega
              have e1 : Hid (S = S1) := by
                apply Go.WideShapes.bytes_inj
                rw [HS1.out, if_neg hk, List.append_nil]
              clear hk
              go_wp2_with fail
              go_meet
              case rel => exact ⟨by rw [e1.out], rfl⟩
          case rest =>
            obtain ⟨rfl, rfl⟩ := hcut
            obtain ⟨W, hW⟩ : ∃ y, y = wc := ⟨_, rfl⟩
            subst hW
            have HCk : Hid (∀ W', Below W.heap.size W W' → W'.cell? ⟨b, o + k, none⟩ = some (.int .u8 x)) := fun W' hW => by
              rw [Hx.out]
              exact HC.out k HLT.out W' (HBc.out.trans (hW.mono HBc.out.size))
            obtain ⟨a, ha⟩ : ∃ a, a = hexd (x.toNat / 16) := ⟨_, rfl⟩
            obtain ⟨d, hd⟩ : ∃ d, d = hexd (x.toNat % 16) := ⟨_, rfl⟩
            have HA : Hid (∀ W, Calls Tryz.prog 71 #[.int .u8 (x / 16)] W fun e w' => e = .returned (.int .u8 a.toNat) ∧ W = w') := fun W => by
              have h := rhex_any (x / 16) (by omega) (by omega) W
              rw [show (x / 16).toNat = x.toNat / 16 by omega, ← ha] at h
              exact h
            have HD : Hid (∀ W, Calls Tryz.prog 71 #[.int .u8 (x % 16)] W fun e w' => e = .returned (.int .u8 d.toNat) ∧ W = w') := fun W => by
              have h := rhex_any (x % 16) (by omega) (by omega) W
              rw [show (x % 16).toNat = x.toNat % 16 by omega, ← hd] at h
              exact h
            have hq1 : IntKind.u8.wrap (x.tdiv 16) = x / 16 := IntWalk.u8_quo x 16 ⟨x0, by omega, by omega⟩
            have hq2 : x.tmod 16 = x % 16 := IntWalk.rem_in x 16 x0
            have q1 : ∀ W', (Op.stringOp .add S1 ⟨#[a, d]⟩).run Tryz.prog W' = .ok (.string (S1 ++ ⟨#[a, d]⟩)) W' := fun W' => run_string_add_sum W' _ _ (by
              have := HS1z.out
              show S1.size + 2 ≤ _
              omega)
            have q2 := two_str W a d
            obtain ⟨S2, hS2⟩ : ∃ T, T = S1 ++ ⟨#[a, d]⟩ := ⟨_, rfl⟩
            have hS2d : S2.data.toList = S1.data.toList ++ [a, d] := by rw [hS2, cat_list]
            rw [← hS2] at q1
            have hS2z : S2.size ≤ 1000003 := by
              have h1 := HS1z.out
              have h2 := Lib.size_eq S1
              rw [Lib.size_eq, hS2d, List.length_append]
              simp; omega
            have HS2 := Lib.hid hS2d
            have HS2z := Lib.hid hS2z
            have Ha := Lib.hid ha
            have Hd := Lib.hid hd
            clear hS2 hS2d hS2z ha hd
            have hx0 : 0 ≤ x / 16 := by omega
            have hx1 : 0 ≤ x % 16 := by omega
            go_upto_region 11 with fail
            go_region_held (fun w' => w'.cell? ⟨b, o + k, none⟩ = some (.int .u8 x)) (first | with_reducible exact HCk.out _ (Below.refl _ _).drew | with_reducible exact HCk.out _ (bel1 W _).drew | go_keep)
              (first
                | ((go_at_call 71); (with_reducible refine (HA.out _).mono ?_); rintro e w3 ⟨rfl, rfl⟩)
                | ((go_at_call 71); (with_reducible refine (HD.out _).mono ?_); rintro e w3 ⟨rfl, rfl⟩))
            have b2 : Below W.heap.size W (W.alloc (.cells #[.int .u8 a.toNat, .int .u8 d.toNat] 5)).drew := (bel1 W _).drew
            generalize (W.alloc (.cells #[.int .u8 a.toNat, .int .u8 d.toNat] 5)).drew = W2 at *
            have HB2 : Hid (Below w.heap.size w W2) := HBc.out.trans (b2.mono HBc.out.size)
            have Hnext : Hid (∀ (W' : World) (T : ByteArray), Below w.heap.size w W' → T.data.toList = S2.data.toList ++ (if 1 < m then 120 :: Lib.decDigits m else []) → RdI w W' bs (k + m) T) := fun W' T hW hT => by
              obtain ⟨m1, m2, m3, m4, _⟩ := HM.out
              rw [Hx.out] at m3 m4
              refine HI.out.next hW m1 (by rw [← HL.out]; exact m2) m3 (by rw [← HL.out]; exact m4) ?_
              rw [hT, HS2.out, HS1.out, Ha.out, Hd.out, ← Hx.out]
              unfold runTxt
              simp
            clear b2 q1 q2 hq1 hq2 hx0 hx1 HA HD HCk
            by_cases hm1 : 1 < m
            · have hm1' : (1 : Int) < m := by omega
              have HN := Lib.hid (rnum_any (m : Int) ⟨by omega, by omega⟩ W2)
              rw [Int.toNat_natCast] at HN
              have hdl : (Lib.decDigits m).length ≤ 20 := by
                rw [Lib.decDigits_length]
                exact Lib.nDigits_le20 m (by omega)
              obtain ⟨N, hN⟩ : ∃ T : ByteArray, T = ⟨(Lib.decDigits m).toArray⟩ := ⟨_, rfl⟩
              have hNd : N.data.toList = Lib.decDigits m := by rw [hN]
              rw [← hN] at HN
              have q3 : ∀ W', (Op.stringOp .add S2 ⟨#[120]⟩).run Tryz.prog W' = .ok (.string (S2 ++ ⟨#[120]⟩)) W' := fun W' => run_string_add_sum W' _ _ (by
                have := HS2z.out
                show S2.size + 1 ≤ _
                omega)
              obtain ⟨S3, hS3⟩ : ∃ T, T = S2 ++ ⟨#[120]⟩ := ⟨_, rfl⟩
              have hS3d : S3.data.toList = S2.data.toList ++ [120] := by rw [hS3, cat_list]
              rw [← hS3] at q3
              have q4 : ∀ W', (Op.stringOp .add S3 N).run Tryz.prog W' = .ok (.string (S3 ++ N)) W' := fun W' => run_string_add_sum W' _ _ (by
                have h1 := HS2z.out
                have h2 : S3.size = S2.size + 1 := by rw [Lib.size_eq, hS3d, List.length_append, ← Lib.size_eq]; rfl
                have h3 : N.size ≤ 20 := by rw [Lib.size_eq, hNd]; exact hdl
                omega)
              obtain ⟨S4, hS4⟩ : ∃ T, T = S3 ++ N := ⟨_, rfl⟩
              have hS4d : S4.data.toList = S2.data.toList ++ (if 1 < m then 120 :: Lib.decDigits m else []) := by rw [hS4, cat_list, hS3d, hNd, if_pos hm1]; simp
              rw [← hS4] at q4
              have HS4 := Lib.hid hS4d
              have hmw : IntKind.u64.wrap (m : Int) = m := by apply IntWalk.u64_in; omega
              clear hS4 hS4d hS3 hS3d hN hNd hdl hm1
              go_wp2_with (go_at_call 41; go_must (refine HN.out.mono ?_); rintro e W3 ⟨rfl, h3⟩; have HB3 := Lib.hid (HB2.out.trans (h3.mono HB2.out.size)); clear h3)
              go_roundw
              case rel => exact ⟨k + m, S4, by go_num, rfl, Hnext.out _ _ HB3.out HS4.out⟩
              case measure => have := HM.out.1; have := HM.out.2.1; simp [intOf]; omega
            · have hm1' : ¬ (1 : Int) < m := by omega
              have HS4 : Hid (S2.data.toList = S2.data.toList ++ (if 1 < m then 120 :: Lib.decDigits m else [])) := by show _ = _; rw [if_neg hm1, List.append_nil]
              clear hm1
              go_wp2_with fail
              go_roundw
              case rel => exact ⟨k + m, S2, by go_num, rfl, Hnext.out _ _ HB2.out HS4.out⟩
              case measure => have := HM.out.1; have := HM.out.2.1; simp [intOf]; omega
      · obtain rfl : k = L := by omega
        have hkn' : ¬ (k : Int) < k := by omega
        have HF : Hid (S = ⟨(shownOf bs).toArray⟩ ∧ Below w.heap.size w wr) := by
          have h := HI.out
          rw [HL.out] at h
          exact h.fin H0.out
        clear hlt
        go_wp2_with fail
        go_ret
        exact ⟨by rw [HF.out.1]; rfl, HF.out.2⟩
end Go.Proofs.YtakiinghipjopaaGreatDoor
