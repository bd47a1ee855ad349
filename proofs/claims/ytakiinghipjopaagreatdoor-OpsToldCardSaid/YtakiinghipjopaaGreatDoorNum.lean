/-
  strconv.FormatUint at base 10; strconv's other functions in one word each.
-/
import Derived.Test.YtakiinghipjopaaGreatDoorEnv
import Derived.Test.YtakiinghipjopaaGreatDoorOpsMath
namespace Go.Proofs.YtakiinghipjopaaGreatDoor
open Go.RowKit Go.Shelf Go.Sort Go.Lib

theorem fin_zero (w : World) (o : Obj) (dk : Array UInt8) (k : Nat) : ∃ os, (putRow (fun (b : UInt8) => Value.int .u8 (b.toNat : Int)) (w.alloc o) w.heap.size 0 dk).drewN k = grow (w.drewN k) os := by
  rw [alloc_eq_grow]
  obtain ⟨os', _, e⟩ := putRow_grow_new (fun (b : UInt8) => Value.int .u8 (b.toNat : Int)) w #[o] w.heap.size 0 dk (Nat.le_refl _)
  exact ⟨os', by rw [e]; rfl⟩

set_option maxHeartbeats 6400000 in
set_option maxRecDepth 100000 in
theorem fmtIn (u : Nat) (hu64 : u < 18446744073709551616) (w : World) (htab : TabIs Tryz.prog w "internal/strconv.uint64pow10" .u64 pow10Tab) :
    Calls Tryz.prog 79 #[.int .u64 u, .int .i64 10] w fun e w' => e = .returned (.string ⟨(decDigits u).toArray⟩) ∧ Below w.heap.size w w' := by
  by_cases hs : u < 100
  · go_enter Tryz.func79, Tryz.ntmps79
    have hcv : (u : Int) < 100 := by omega
    have hw : IntKind.i64.wrap (u : Int) = (u : Int) := by rw [IntKind.wrap_i64]; omega
    go_wp2_with (go_at_call 112; refine (Tryz.internal_strconv_small u hs _).mono ?_; rintro e w' ⟨rfl, rfl⟩)
    go_ret
    exact ⟨rfl, Below.refl _ _⟩
  · have hu1 : 1 ≤ u := by omega
    have hcv : ¬ (u : Int) < 100 := by omega
    have hnd20 : nDigits u ≤ 20 := by have := numDigits_eq u hu1 hu64; split at this <;> omega
    have hal : Tryz.prog.arrayLen 153 = 24 := by kernel_rfl
    have hsl : ∀ W, (Instr.sliceAt 153 (.pointer (some ⟨w.heap.size, 0, none⟩)) none (some (.int .i64 (nDigits u : Int))) none).run Tryz.prog W = .ok (.slice (some ⟨w.heap.size, 0, none⟩) (nDigits u) 24) W := fun W => by
      rw [run_sliceAt_array_h W 153 ⟨w.heap.size, 0, none⟩ (by kernel_rfl) .i64 (nDigits u : Int) (by omega) (by rw [hal]; omega)]
      go_simp
    have hH0 := holds_zero0 w 153 (nDigits u) (by omega)
    have hfmt := Tryz.internal_strconv_formatBase10 w.heap.size 0 24 u (Array.replicate (nDigits u) 0) (w.alloc (.cells zeros24 153)) hH0 (by rw [Array.size_replicate]; exact lt_pow_nDigits u) hu64 (by rw [Array.size_replicate]; omega)
    rw [Array.size_replicate] at hfmt
    have HH0 := Lib.hid hH0
    clear hH0 hal
    go_enter Tryz.func79, Tryz.ntmps79
    go_wp2_with (first
      | (go_at_call 113; refine (Tryz.internal_strconv_numDigits u hu1 hu64 _ (tabIs_alloc htab _)).mono ?_; rintro e w' ⟨rfl, rfl⟩))
    go_at_call 114
    refine hfmt.mono ?_
    rintro e w' ⟨rfl, k, v', dk, rfl, hF⟩
    have hcv : (convert 23 9 (.slice (some ⟨w.heap.size, 0, none⟩) (nDigits u) 24)).run Tryz.prog ((putRow (fun (b : UInt8) => Value.int .u8 (b.toNat : Int)) (w.alloc (.cells zeros24 153)) w.heap.size 0 dk).drewN k) = .ok (.string ⟨(decDigits u).toArray⟩) ((putRow (fun (b : UInt8) => Value.int .u8 (b.toNat : Int)) (w.alloc (.cells zeros24 153)) w.heap.size 0 dk).drewN k) := by
      have h := run_convert_bytes_back (P := Tryz.prog) ((putRow (fun (b : UInt8) => Value.int .u8 (b.toNat : Int)) (w.alloc (.cells zeros24 153)) w.heap.size 0 dk).drewN k) 23 9 5 ⟨w.heap.size, 0, none⟩ 24 (decDigits u) uBytes uByte uString (fun j hj => by
        rw [row_is_numeral hF j hj, add_plain, World.cell?_drewN]
        exact cell?_putRow (fun (b : UInt8) => Value.int .u8 (b.toNat : Int)) _ w.heap.size 0 _ dk HH0.out (by rw [hF.size, Array.size_replicate]) j (by rw [hF.size]; rw [decDigits_length] at hj; exact hj))
      rw [decDigits_length] at h
      exact h
    go_wp2
    go_ret
    obtain ⟨os, eo⟩ := fin_zero w (.cells zeros24 153) dk k
    refine ⟨rfl, ?_⟩
    rw [eo]
    exact below_grow _ _ _

set_option maxRecDepth 100000 in
theorem fmt_any (u : Int) (h0 : 0 ≤ u) (hu64 : u < 18446744073709551616) (w : World) (hE : Env w) :
    Calls Tryz.prog 52 #[.int .u64 u, .int .i64 10] w fun e w' => e = .returned (.string ⟨(decDigits u.toNat).toArray⟩) ∧ Below w.heap.size w w' := by
  obtain ⟨n, rfl⟩ : ∃ n : Nat, u = n := ⟨u.toNat, by omega⟩
  have hI := fmtIn n (by omega) w hE.pow
  rw [Int.toNat_natCast]
  clear hE
  go_enter Tryz.func52, Tryz.ntmps52
  go_wp2_with (go_at_call 79; refine hI.mono ?_; rintro e W1 ⟨rfl, hW⟩)
  go_wp2
  go_ret
  exact ⟨rfl, hW⟩

theorem itoa_any (n : Int) (h0 : -9223372036854775808 ≤ n) (h1 : n ≤ 9223372036854775807) (w : World) (hE : Env w) :
    Calls Tryz.prog 38 #[.int .i64 n] w fun e w' => e = .returned (.string ⟨(itoa n).toArray⟩) ∧ Below w.heap.size w w' := by
  refine (Tryz.strconv_Itoa n h0 h1 w hE.pow).mono ?_
  rintro e w' ⟨rfl, k, os, rfl⟩
  exact ⟨rfl, below_grow _ _ _⟩

theorem atoi_any (s : ByteArray) (hl : s.size ≤ 281474976710656) (w : World) (hE : Env w) :
    Calls Tryz.prog 77 #[.string s] w fun e w' => (∃ x, e = .returned (.tuple #[.int .i64 (numI s.data.toList), x])) ∧ Below w.heap.size w w' := by
  obtain ⟨e1, h1, h2⟩ := hE.syn
  obtain ⟨e2, h3, h4⟩ := hE.rng
  cases hc : atoiAll s.data.toList with
  | ok v =>
    refine (Tryz.strconv_Atoi_ok s (by omega) v hc w).mono ?_
    rintro e w' ⟨rfl, hW⟩
    exact ⟨⟨_, by rw [numI, hc]⟩, below_bytesOr' hW⟩
  | range =>
    refine (Tryz.strconv_Atoi_range s hl hc e2 w h3 h4).mono ?_
    rintro e w' ⟨N, rfl, _, _, hW⟩
    exact ⟨⟨_, by rw [numI, hc]⟩, hW⟩
  | _ =>
    refine (Tryz.strconv_Atoi_syntax s hl hc e1 w h1 h2).mono ?_
    rintro e w' ⟨N, rfl, _, _, hW⟩
    exact ⟨⟨_, by rw [numI, hc]⟩, hW⟩
theorem pu64_any (s : ByteArray) (hl : s.size ≤ 281474976710656) (w : World) (hE : Env w) :
    Calls Tryz.prog 44 #[.string s, .int .i64 10, .int .i64 64] w fun e w' => (∃ x, e = .returned (.tuple #[.int .u64 (numV 18446744073709551615 (parseUintB 64 s.data.toList)), x])) ∧ Below w.heap.size w w' := by
  obtain ⟨e1, h1, h2⟩ := hE.syn
  obtain ⟨e2, h3, h4⟩ := hE.rng
  cases hc : parseUintB 64 s.data.toList with
  | ok v =>
    refine (Tryz.strconv_ParseUint_10_at64_ok s (by omega) v hc w).mono ?_
    rintro e w' ⟨rfl, hW⟩
    exact ⟨⟨_, rfl⟩, below_bytesOr hW⟩
  | range =>
    refine (Tryz.strconv_ParseUint_10_at64_range s hl hc e2 w h3 h4).mono ?_
    rintro e w' ⟨N, rfl, _, _, hW⟩
    exact ⟨⟨_, rfl⟩, hW⟩
  | _ =>
    refine (Tryz.strconv_ParseUint_10_at64_syntax s hl hc e1 w h1 h2).mono ?_
    rintro e w' ⟨N, rfl, _, _, hW⟩
    exact ⟨⟨_, rfl⟩, hW⟩
theorem pu8_any (s : ByteArray) (hl : s.size ≤ 281474976710656) (w : World) (hE : Env w) :
    Calls Tryz.prog 44 #[.string s, .int .i64 10, .int .i64 8] w fun e w' => (∃ x, e = .returned (.tuple #[.int .u64 (numV 255 (parseUintB 8 s.data.toList)), x])) ∧ Below w.heap.size w w' := by
  obtain ⟨e1, h1, h2⟩ := hE.syn
  obtain ⟨e2, h3, h4⟩ := hE.rng
  cases hc : parseUintB 8 s.data.toList with
  | ok v =>
    refine (Tryz.strconv_ParseUint_10_at8_ok s (by omega) v hc w).mono ?_
    rintro e w' ⟨rfl, hW⟩
    exact ⟨⟨_, rfl⟩, below_bytesOr hW⟩
  | range =>
    refine (Tryz.strconv_ParseUint_10_at8_range s hl hc e2 w h3 h4).mono ?_
    rintro e w' ⟨N, rfl, _, _, hW⟩
    exact ⟨⟨_, rfl⟩, hW⟩
  | _ =>
    refine (Tryz.strconv_ParseUint_10_at8_syntax s hl hc e1 w h1 h2).mono ?_
    rintro e w' ⟨N, rfl, _, _, hW⟩
    exact ⟨⟨_, rfl⟩, hW⟩
end Go.Proofs.YtakiinghipjopaaGreatDoor
