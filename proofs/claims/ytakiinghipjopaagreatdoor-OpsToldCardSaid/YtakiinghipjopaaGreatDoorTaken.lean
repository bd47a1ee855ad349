/-
  ops.taken: its contract; strings.Split.
-/
import Derived.Test.YtakiinghipjopaaGreatDoorText
import Derived.Test.YtakiinghipjopaaGreatDoorHex
namespace Go.Proofs.YtakiinghipjopaaGreatDoor
open Go.RowKit Go.Shelf

/-! ### strings.Split -/
/-- the pieces, as strings -/
def pieces (s sep : ByteArray) : List ByteArray := Lib.splitB sep 0 (Lib.countB s sep) s
theorem pieces_data (s sep : ByteArray) : (pieces s sep).map (·.data.toList) = Lib.split s.data.toList sep.data.toList := Lib.splitB_data sep 0 _ s
theorem splitB_small (sep : ByteArray) : ∀ (k : Nat) (s : ByteArray), ∀ p ∈ Lib.splitB sep 0 k s, p.size ≤ s.size
  | 0, s, p, h => by rw [Lib.splitB_zero, List.mem_singleton] at h; rw [h]; exact Nat.le_refl _
  | k + 1, s, p, h => by
    rcases Lib.indexB_cases s sep with hix | ⟨i, hix, hroom⟩
    · rw [Lib.splitB_miss _ _ _ _ hix, List.mem_singleton] at h; rw [h]; exact Nat.le_refl _
    · rw [Lib.splitB_hit _ _ _ _ _ hix] at h
      rcases List.mem_cons.1 h with rfl | h
      · rw [ByteArray.size_extract]; omega
      · have := splitB_small sep k _ p h
        rw [ByteArray.size_extract] at this
        omega
theorem pieces_small {s sep p : ByteArray} (h : p ∈ pieces s sep) : p.size ≤ s.size := splitB_small sep _ s p h
theorem pieces_len (s sep : ByteArray) (h1 : 1 ≤ sep.size) : (pieces s sep).length = Lib.countB s sep + 1 ∧ (pieces s sep).length ≤ s.size + 1 := by
  have h2 := Lib.splitB_all sep h1 0 _ s rfl
  have h3 := Lib.countB_le sep h1 s.size s (Nat.le_refl _)
  exact ⟨h2, by unfold pieces; omega⟩
theorem split_any (s sep : ByteArray) (hs : s.size < 4294967281) (h1 : 1 ≤ sep.size) (w : World) (hE : Env w) :
    Calls Tryz.prog 43 #[.string s, .string sep] w fun e w' => e = .returned (.slice (some ⟨w.heap.size, 0, none⟩) (pieces s sep).length (pieces s sep).length) ∧ w' = w.alloc (.cells ((pieces s sep).map Value.string).toArray 9) := by
  obtain ⟨m, hm⟩ := hE.max
  have h := Tryz.strings_Split s sep m w hs hm h1
  rw [← (pieces_len s sep h1).1] at h
  exact h
theorem piece_cell (w : World) (ps : List ByteArray) {k : Nat} (hk : k < ps.length) : (w.alloc (.cells (ps.map Value.string).toArray 9)).cell? ⟨w.heap.size, k, none⟩ = some (.string ps[k]) := by
  rw [World.cell?_alloc_new]
  simp [hk]

/-! ### what a hexadecimal text is worth -/
theorem hexGo_le : ∀ (l : List UInt8) (acc v : Nat), acc ≤ 255 → hexGo acc l = .ok v → v ≤ 255
  | [], acc, v, ha, h => by simp [hexGo] at h; omega
  | c :: r, acc, v, ha, h => by
    simp only [hexGo] at h
    split at h
    · exact absurd h (noNum_ok v)
    · split at h
      · cases h
      · exact hexGo_le r _ v (by omega) h
theorem hexV_byte (l : List UInt8) : IsByte (hexV l) := by
  unfold hexV hex8 IsByte
  split
  · rw [noNum_v]; exact ⟨by decide, by decide⟩
  · cases hq : hexGo 0 l with
    | ok v =>
      have := hexGo_le l 0 v (by omega) hq
      simp only [numV]
      omega
    | range => simp [numV]
    | _ => simp [numV]
theorem takenRun_byte {run : List UInt8} {a : List Int} (h : takenRun run = some a) : (∀ x ∈ a, IsByte x) ∧ a.length ≤ 255 := by
  obtain ⟨n, hn⟩ : ∃ n : Int, n = (if (Lib.cut run [120]).2.2 = true then numI (Lib.cut run [120]).2.1 else 1) := ⟨_, rfl⟩
  unfold takenRun at h
  rw [← hn] at h
  by_cases hc : hexNo (Lib.cut run [120]).1 = true ∨ n < 1 ∨ 255 < n
  · rw [if_pos hc] at h; cases h
  · rw [if_neg hc] at h
    have h := Option.some.inj h
    subst h
    refine ⟨fun x hx => ?_, ?_⟩
    · rw [List.eq_of_mem_replicate hx]; exact hexV_byte _
    · rw [List.length_replicate]
      have h1 : ¬ 255 < n := fun h => hc (.inr (.inr h))
      omega
theorem takenGo_byte : ∀ (l : List (List UInt8)) (a : List Int), takenGo l = some a → (∀ x ∈ a, IsByte x) ∧ a.length ≤ l.length * 255
  | [], a, h => by simp [takenGo] at h; subst h; simp
  | run :: r, a, h => by
    simp only [takenGo] at h
    split at h
    · cases h
    · rename_i b hb
      split at h
      · cases h
      · rename_i c hc
        have h := Option.some.inj h
        subst h
        have h1 := takenRun_byte hb
        have h2 := takenGo_byte r c hc
        refine ⟨fun x hx => ?_, ?_⟩
        · rcases List.mem_append.1 hx with hx | hx
          · exact h1.1 x hx
          · exact h2.1 x hx
        · rw [List.length_append, List.length_cons]; omega
theorem takenOf_byte (s : List UInt8) : ∀ x ∈ takenOf s, IsByte x := by
  unfold takenOf
  cases hq : takenGo (Lib.split s [46]) with
  | none => simp
  | some a => exact (takenGo_byte _ _ hq).1
theorem takenGo_step {ps : List (List UInt8)} {k : Nat} (hk : k < ps.length) {all : Option (List Int)} {acc : List Int}
    (h : all = match takenGo (ps.drop k) with | none => none | some b => some (acc ++ b)) :
    (takenRun ps[k] = none → all = none) ∧ ∀ a, takenRun ps[k] = some a → all = match takenGo (ps.drop (k + 1)) with | none => none | some b => some (acc ++ a ++ b) := by
  rw [List.drop_eq_getElem_cons hk, takenGo] at h
  constructor
  · intro h1; rw [h1] at h; exact h
  · intro a h1
    rw [h1] at h
    rw [h]
    cases takenGo (ps.drop (k + 1)) with
    | none => rfl
    | some b => simp
theorem hex_run (s : ByteArray) (hl : s.size ≤ 281474976710656) (w : World) (hE : Env w) (no : Bool) (hno : hexNo s.data.toList = no) :
    Calls Tryz.prog 44 #[.string s, .int .i64 16, .int .i64 8] w fun e w' => (∃ a, e = .returned (.tuple #[.int .u64 (hexV s.data.toList), if no = true then .iface 144 a else .nilIface])) ∧ Below w.heap.size w w' := by
  refine (hex_any s hl w hE).mono ?_
  rintro e w' ⟨⟨x, rfl, hx⟩, hb⟩
  refine ⟨?_, hb⟩
  rw [hno] at hx
  rcases hx with ⟨h1, rfl⟩ | ⟨h1, a, rfl⟩
  · subst h1; exact ⟨default, rfl⟩
  · subst h1; exact ⟨a, rfl⟩

/-! ### taken -/
theorem drop_snoc_rep (acc : List Int) (j : Nat) (x : Int) : (acc ++ List.replicate j x) ++ [x] = acc ++ List.replicate (j + 1) x := by
  rw [List.append_assoc, List.replicate_succ']
/-- the outer loop as it stands -/
def TakenI (W0 wr : World) (all : Option (List Int)) (ps : List (List UInt8)) (k : Nat) (out : Value) (acc : List Int) : Prop :=
  OwnY wr W0.heap.size out acc ∧ Below W0.heap.size W0 wr ∧ acc.length ≤ k * 255 ∧ all = match takenGo (ps.drop k) with | none => none | some b => some (acc ++ b)
theorem cut_small (s sep : List UInt8) : (Lib.cut s sep).1.length ≤ s.length ∧ (Lib.cut s sep).2.1.length ≤ s.length := by
  unfold Lib.cut
  split
  · simp only [List.length_take, List.length_drop]; omega
  · simp
set_option maxRecDepth 100000 in
set_option maxHeartbeats 4000000 in
theorem taken_any (s : ByteArray) (hs : s.size ≤ 100000) (w : World) (hE : Env w) :
    Calls Tryz.prog 48 #[.string s] w fun e w' => (∃ v, e = .returned v ∧ OwnY w' w.heap.size v (takenOf s.data.toList)) ∧ Below w.heap.size w w' := by
  obtain ⟨i0, hi, hz0, hz1, hz2⟩ := info_parts infoU8
  have HS := Lib.hid ((split_any s ⟨#[46]⟩ (by omega) (by decide) w hE).mono (R' := fun e w' => e = .returned (.slice (some ⟨w.heap.size, 0, none⟩) (pieces s ⟨#[46]⟩).length (pieces s ⟨#[46]⟩).length) ∧ w.alloc (.cells ((pieces s ⟨#[46]⟩).map Value.string).toArray 9) = w') fun _ _ ⟨a, b⟩ => ⟨a, b.symm⟩)
  obtain ⟨bs, hbs⟩ : ∃ x, x = pieces s ⟨#[46]⟩ := ⟨_, rfl⟩
  rw [← hbs] at HS
  have Hd : Hid (bs.map (·.data.toList) = Lib.split s.data.toList [46]) := by show _ = _; rw [hbs]; exact pieces_data s _
  have Hsm : Hid (∀ p ∈ bs, p.size ≤ 100000) := fun p hp => by rw [hbs] at hp; exact Nat.le_trans (pieces_small hp) hs
  have hm : bs.length ≤ 100001 := by rw [hbs]; have := (pieces_len s ⟨#[46]⟩ (by decide)).2; omega
  obtain ⟨m, hmm⟩ : ∃ m, m = bs.length := ⟨_, rfl⟩
  rw [← hmm] at HS hm
  have Hm := Lib.hid hmm
  obtain ⟨ps, hps⟩ : ∃ ps : List (List UInt8), ps = bs.map (·.data.toList) := ⟨_, rfl⟩
  have Hps := Lib.hid hps
  obtain ⟨all, hall⟩ : ∃ a, a = takenGo ps := ⟨_, rfl⟩
  have Hall := Lib.hid hall
  obtain ⟨W0, hW0⟩ : ∃ W0, W0 = w.alloc (.cells (bs.map Value.string).toArray 9) := ⟨_, rfl⟩
  have HE0 : Hid (Env W0) := by rw [hW0]; exact hE.on' (bel1 _ _)
  have Hsz : Hid (W0.heap.size = w.heap.size + 1) := by rw [hW0]; exact World.size_alloc _ _
  have Hbel : Hid (Below w.heap.size w W0) := by rw [hW0]; exact bel1 _ _
  have Hcell : Hid (∀ k (hk : k < bs.length), W0.cell? ⟨w.heap.size, k, none⟩ = some (.string bs[k])) := fun k hk => by rw [hW0]; exact piece_cell w bs hk
  rw [← hW0] at HS
  clear hbs hmm hps hall hW0 hE hs
  go_enter Tryz.func48, Tryz.ntmps48
  go_wp2_with (go_at_call 43; refine HS.out.mono ?_; rintro e w' ⟨rfl, rfl⟩)
  go_loopw [3, 15] (fun out i wr => ∃ (k : Nat) (acc : List Int) (A : Option Addr) (n c : Nat), k ≤ m ∧ i = .int .i64 k ∧ out = .slice A n c ∧ Hid (TakenI W0 wr all ps k out acc)) (fun _ i _ => m - (intOf i).toNat)
  case atStart =>
    refine ⟨0, [], none, 0, 0, Nat.zero_le _, rfl, rfl, ownY_nil _ _, Below.refl _ _, by simp, ?_⟩
    rw [List.drop_zero, Hall.out]
    cases takenGo ps <;> simp
  case round =>
    obtain ⟨k, acc, A, n, c, hk, rfl, rfl, HI⟩ := hrel
    by_cases hlt : k < m
    · have hkb : k < bs.length := by have := Hm.out; omega
      obtain ⟨i1, i2, i3, i4⟩ := HI.out
      have hcell : wr.cell? ⟨w.heap.size, k, none⟩ = some (.string bs[k]) := (i2.cell (p := ⟨w.heap.size, k, none⟩) (by have := Hsz.out; show w.heap.size < W0.heap.size; omega)).trans (Hcell.out k hkb)
      have HP := Lib.hid (Hsm.out _ (List.getElem_mem hkb))
      have hkp : k < ps.length := by rw [Hps.out, List.length_map]; exact hkb
      have hpk : ps[k] = bs[k].data.toList := by
        have : ps[k]? = some bs[k].data.toList := by rw [Hps.out]; simp [hkb]
        exact (List.getElem?_eq_some_iff.1 this).2
      have Hst := Lib.hid (takenGo_step hkp i4)
      rw [hpk] at Hst
      obtain ⟨P, hP⟩ : ∃ P, P = bs[k] := ⟨_, rfl⟩
      rw [← hP] at hcell HP Hst
      have HEr : Hid (Env wr) := HE0.out.on' i2
      have HC := Lib.hid (cut_any P ⟨#[120]⟩ (by have := HP.out; omega) wr HEr.out)
      obtain ⟨xb, hxb⟩ : ∃ x : ByteArray, x = ⟨(Lib.cut P.data.toList [120]).1.toArray⟩ := ⟨_, rfl⟩
      obtain ⟨mb, hmb⟩ : ∃ x : ByteArray, x = ⟨(Lib.cut P.data.toList [120]).2.1.toArray⟩ := ⟨_, rfl⟩
      obtain ⟨mo, hmo⟩ : ∃ x : Bool, x = (Lib.cut P.data.toList [120]).2.2 := ⟨_, rfl⟩
      have ed : (ByteArray.mk #[120]).data.toList = [120] := rfl
      rw [ed, ← hxb, ← hmb, ← hmo] at HC
      have Hxb : Hid (xb.data.toList = (Lib.cut P.data.toList [120]).1) := by show _ = _; rw [hxb]
      have Hmb : Hid (mb.data.toList = (Lib.cut P.data.toList [120]).2.1) := by show _ = _; rw [hmb]
      have Hmo := Lib.hid hmo
      have Hsz2 : Hid (xb.size ≤ 281474976710656 ∧ mb.size ≤ 281474976710656) := by
        have h1 := cut_small P.data.toList [120]
        have h2 := HP.out
        rw [Lib.size_eq] at h2
        refine ⟨?_, ?_⟩
        · rw [Lib.size_eq, Hxb.out]; omega
        · rw [Lib.size_eq, Hmb.out]; omega
      have O := Lib.hid i1
      have HB := Lib.hid i2
      have HL3 := Lib.hid i3
      have Hlt := Lib.hid hlt
      have hkn : (k : Int) < m := by omega
      have hkN : (k : Int) ≤ 100001 := by omega
      clear i1 i2 i3 i4 hP hpk hxb hmb hmo ed HI hkb hkp hlt
      obtain ⟨wo, hwo⟩ : ∃ x, x = wr := ⟨_, rfl⟩
      subst hwo
      go_upto_if 25 with (go_at_call 68; refine HC.out.mono ?_; rintro e W1 ⟨rfl, h1⟩; have H1 := Lib.hid h1; clear h1)
      obtain ⟨N, hN⟩ : ∃ N : Int, N = (if mo = true then numI mb.data.toList else 1) := ⟨_, rfl⟩
      have HN := Lib.hid hN
      have HE1 := Lib.hid (HEr.out.on' H1.out)
      clear hN
      go_cut [9] from 26 to 30 (fun n wx => n = .int .i64 N ∧ Hid (Below W1.heap.size W1 wx))
      case first =>
        cases mo
        · have hf : Hid (N = 1) := HN.out
          go_wp2_with fail
          go_meet
          exact ⟨by rw [hf.out], Below.refl _ _⟩
        · have hf : Hid (N = numI mb.data.toList) := HN.out
          go_wp2_with (go_at_call 77; refine (atoi_any mb Hsz2.out.2 W1 HE1.out).mono ?_; rintro e W2 ⟨⟨x, rfl⟩, h2⟩; have H2 := Lib.hid h2; clear h2)
          go_meet
          exact ⟨by rw [hf.out], H2.out⟩
      case rest =>
        obtain ⟨rfl, H2⟩ := hcut
        have HE2 := Lib.hid (HE1.out.on' H2.out)
        obtain ⟨no, hno⟩ : ∃ b, b = hexNo xb.data.toList := ⟨_, rfl⟩
        have HX := Lib.hid (hex_run xb Hsz2.out.1 wc HE2.out no hno.symm)
        obtain ⟨b, hb⟩ : ∃ b, b = hexV xb.data.toList := ⟨_, rfl⟩
        rw [← hb] at HX
        have HR : Hid (takenRun P.data.toList = if no = true ∨ N < 1 ∨ 255 < N then none else some (List.replicate N.toNat b)) := by
          show _ = _
          rw [takenRun, ← Hxb.out, ← Hmb.out, ← Hmo.out, ← HN.out, ← hno, ← hb]
        have Hbb : Hid (IsByte b) := by rw [hb]; exact hexV_byte _
        have HB2 : Hid (Below W0.heap.size W0 wc) := HB.out.trans ((H1.out.trans (H2.out.mono H1.out.size)).mono HB.out.size)
        have O2 : Hid (OwnY wc W0.heap.size (.slice A n c) acc) := (O.out.on H1.out).on H2.out
        have HnoR : Hid (takenRun P.data.toList = none → takenOf s.data.toList = []) := fun h => by
          have h1 := Hst.out.1 h
          rw [Hall.out] at h1
          unfold takenOf
          rw [← Hd.out, ← Hps.out, h1]
          rfl
        clear hno hb
        cases no
        · by_cases hn1 : N < 1
          · have hnil : Hid (takenOf s.data.toList = []) := HnoR.out (by rw [HR.out, if_pos (.inr (.inl hn1))])
            go_wp2_with (go_at_call 44; refine HX.out.mono ?_; rintro e W3 ⟨⟨x, rfl⟩, h3⟩; have H3 := Lib.hid h3; clear h3)
            go_ret
            exact ⟨⟨_, rfl, by rw [hnil.out]; exact ownY_nil _ _⟩, Hbel.out.trans ((HB2.out.trans (H3.out.mono HB2.out.size)).mono (by have := Hsz.out; omega))⟩
          · by_cases hn2 : 255 < N
            · have hnil : Hid (takenOf s.data.toList = []) := HnoR.out (by rw [HR.out, if_pos (.inr (.inr hn2))])
              go_wp2_with (go_at_call 44; refine HX.out.mono ?_; rintro e W3 ⟨⟨x, rfl⟩, h3⟩; have H3 := Lib.hid h3; clear h3)
              go_ret
              exact ⟨⟨_, rfl, by rw [hnil.out]; exact ownY_nil _ _⟩, Hbel.out.trans ((HB2.out.trans (H3.out.mono HB2.out.size)).mono (by have := Hsz.out; omega))⟩
            · obtain ⟨q, rfl⟩ : ∃ q : Nat, N = q := ⟨N.toNat, by omega⟩
              have hnot : ¬ (false = true ∨ (q : Int) < 1 ∨ 255 < (q : Int)) := by
                rintro (h | h | h)
                · cases h
                · omega
                · omega
              have hsome : takenRun P.data.toList = some (List.replicate q b) := by rw [HR.out, if_neg hnot, Int.toNat_natCast]
              have Hnext := Lib.hid (Hst.out.2 _ hsome)
              have hq : q ≤ 255 := by omega
              clear hsome hnot
              go_wp2_with (go_at_call 44; refine HX.out.mono ?_; rintro e W3 ⟨⟨x, rfl⟩, h3⟩; have H3 := Lib.hid h3; clear h3)
              have HB3 : Hid (Below W0.heap.size W0 W3) := HB2.out.trans (H3.out.mono HB2.out.size)
              have O3 : Hid (OwnY W3 W0.heap.size (.slice A n c) acc) := O2.out.on H3.out
              have hbw : b % 256 = b := by have := Hbb.out.1; have := Hbb.out.2; omega
              have hbw2 : IntKind.u8.wrap b = b := by simp [IntKind.wrap, IntKind.signed, IntKind.bits]; have := Hbb.out.1; have := Hbb.out.2; omega
              clear HX
              obtain ⟨wz, hwz⟩ : ∃ x, x = W3 := ⟨_, rfl⟩
              subst hwz
              go_loopw [3, 47] (fun out i wr => ∃ (j : Nat) (A : Option Addr) (n c : Nat), j ≤ q ∧ i = .int .i64 j ∧ out = .slice A n c ∧ Hid (OwnY wr W0.heap.size out (acc ++ List.replicate j b) ∧ Below W0.heap.size W0 wr)) (fun _ i _ => q - (intOf i).toNat)
              case atStart => exact ⟨0, A, n, c, Nat.zero_le _, rfl, rfl, by simpa using O3.out, HB3.out⟩
              case round =>
                obtain ⟨j, A1, n1, c1, hj, rfl, rfl, HJ⟩ := hrel
                by_cases hjq : j < q
                · have hjn : (j : Int) < q := by omega
                  have OJ := Lib.hid HJ.out.1
                  have BJ := Lib.hid HJ.out.2
                  have hlen : (acc ++ List.replicate j b).length ≤ 30000000 := by
                    rw [List.length_append, List.length_replicate]
                    have := HL3.out
                    omega
                  have Hlen := Lib.hid hlen
                  have Hjq := Lib.hid hjq
                  clear HJ hlen hjq
                  go_wp2_with (at_builtin; go_must (refine wpList_append_own _ rfl _ _ 23 rfl W0.heap.size 5 i0 (.int .u8 0) 1 1 Tryz.underlying23 hi hz0 hz1 hz2 rfl (by decide) _ _ _ rfl (World.ownsRow.alloc OJ.out _) ⟨wr.heap.size, 0, none⟩ 1 1 [.int .u8 b] rfl rfl (cell_one_new _ _ _) (by simp [Value.oneCell']) (by have := Hlen.out; unfold maxLen; omega) (by have := Hlen.out; omega) (by have := BJ.out.size; simp; omega) ?_); intro v' w1 hown' hgrow _; obtain ⟨g', cap', rfl⟩ := ownsRow_succ hown'; have HO1 := Lib.hid hown'; have HG1 := Lib.hid hgrow; clear hown' hgrow)
                  go_roundw
                  case rel =>
                    refine ⟨j + 1, _, _, _, Hjq.out, by go_num, rfl, ?_, ?_⟩
                    · rw [← drop_snoc_rep]
                      show World.ownsRow _ _ _ _ _ _ _
                      have e : (acc ++ List.replicate j b).length = acc.length + j := by simp
                      have h := HO1.out
                      rw [e] at h
                      rw [List.length_append, List.map_append, e]
                      exact h
                    · exact (BJ.out.trans ((bel1 _ _).mono BJ.out.size)).grown HG1.out (by have := BJ.out.size; simp; omega) (fun g hg => (World.ownsRow.lt OJ.out g hg).1)
                  case measure => have := Hjq.out; simp [intOf]; omega
                · obtain rfl : j = q := by omega
                  have hjn : ¬ ((j : Int) < j) := by omega
                  have OJ := Lib.hid HJ.out.1
                  have BJ := Lib.hid HJ.out.2
                  clear HJ hjq
                  go_wp2_with fail
                  go_roundw
                  case rel =>
                    refine ⟨k + 1, acc ++ List.replicate j b, A1, n1, c1, Hlt.out, by go_num, rfl, OJ.out, BJ.out, ?_, Hnext.out⟩
                    rw [List.length_append, List.length_replicate]
                    have := HL3.out
                    omega
                  case measure => have := Hlt.out; simp [intOf]; omega
        · have hnil : Hid (takenOf s.data.toList = []) := HnoR.out (by rw [HR.out, if_pos (.inl rfl)])
          go_wp2_with (go_at_call 44; refine HX.out.mono ?_; rintro e W3 ⟨⟨x, rfl⟩, h3⟩; have H3 := Lib.hid h3; clear h3)
          go_ret
          exact ⟨⟨_, rfl, by rw [hnil.out]; exact ownY_nil _ _⟩, Hbel.out.trans ((HB2.out.trans (H3.out.mono HB2.out.size)).mono (by have := Hsz.out; omega))⟩
    · obtain rfl : k = m := by omega
      have hkn : ¬ ((k : Int) < k) := by omega
      obtain ⟨i1, i2, i3, i4⟩ := HI.out
      have HF : Hid (takenOf s.data.toList = acc) := by
        have e : ps.drop k = [] := List.drop_eq_nil_of_le (by rw [Hps.out, List.length_map, Hm.out]; exact Nat.le_refl _)
        rw [e] at i4
        have i5 : all = some acc := by simpa [takenGo] using i4
        show _ = _
        unfold takenOf
        rw [← Hd.out, ← Hps.out, ← Hall.out, i5]
        rfl
      have O := Lib.hid i1
      have HB := Lib.hid i2
      clear i1 i2 i3 i4 HI hlt hk
      go_wp2_with fail
      go_ret
      refine ⟨⟨_, rfl, ?_⟩, Hbel.out.trans (HB.out.mono (by have := Hsz.out; omega))⟩
      rw [HF.out]
      exact own_mono O.out (by have := Hsz.out; omega)
end Go.Proofs.YtakiinghipjopaaGreatDoor
