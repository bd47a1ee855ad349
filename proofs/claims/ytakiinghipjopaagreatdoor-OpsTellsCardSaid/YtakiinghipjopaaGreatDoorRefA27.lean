/-
  The reference of layer 27: its small functions.
-/
import Derived.Test.YtakiinghipjopaaGreatDoorEnv
import Derived.Test.YtakiinghipjopaaGreatDoorOpsMath
import Derived.Test.YtakiinghipjopaaGreatDoorRead27
import Derived.IntWalk
import Derived.Lib.ItoaLen
namespace Go.Proofs.YtakiinghipjopaaGreatDoor
open Go.RowKit Go.Shelf

theorem hexd_nat (k : Nat) (hk : k < 16) : ((hexd k).toNat : Int) = if k < 10 then 48 + k else 87 + k := by
  have h : ∀ k : Fin 16, ((hexd k.val).toNat : Int) = if k.val < 10 then 48 + k.val else 87 + k.val := by decide +kernel
  exact h ⟨k, hk⟩
set_option maxHeartbeats 400000 in
theorem rhex_any (q : Int) (h0 : 0 ≤ q) (h1 : q < 16) (w : World) :
    Calls Tryz.prog 71 #[.int .u8 q] w fun e w' => e = .returned (.int .u8 (hexd q.toNat).toNat) ∧ w = w' := by
  have hh := hexd_nat q.toNat (by omega)
  have Hh := Lib.hid hh
  clear hh
  by_cases hq : q < 10
  · have e1 : IntKind.u8.wrap (48 + q) = 48 + q := by simp [IntKind.wrap, IntKind.bits, IntKind.signed]; omega
    go_enter Tryz.func71, Tryz.ntmps71
    go_wp2
    go_ret
    exact ⟨ret_int (by rw [Hh.out, if_pos (by omega)]; omega), rfl⟩
  · have e1 : IntKind.u8.wrap (97 + q) = 97 + q := by simp [IntKind.wrap, IntKind.bits, IntKind.signed]; omega
    have e2 : IntKind.u8.wrap (97 + q - 10) = 87 + q := by simp [IntKind.wrap, IntKind.bits, IntKind.signed]; omega
    go_enter Tryz.func71, Tryz.ntmps71
    go_wp2
    go_ret
    exact ⟨ret_int (by rw [Hh.out, if_neg (by omega)]; omega), rfl⟩

def nib (c : UInt8) : Int := if 97 ≤ c.toNat then (c.toNat : Int) - 87 else c.toNat % 16
theorem nib_rng (c : UInt8) : 0 ≤ nib c ∧ nib c < 256 := by
  have := c.toNat_lt
  unfold nib
  split <;> omega
set_option maxHeartbeats 400000 in
theorem nibble_any (c : UInt8) (w : World) :
    Calls Tryz.prog 78 #[.int .u8 c.toNat] w fun e w' => e = .returned (.int .u8 (nib c)) ∧ w = w' := by
  have hc := c.toNat_lt
  obtain ⟨n, hn⟩ : ∃ n, n = c.toNat := ⟨_, rfl⟩
  have Hn := Lib.hid hn
  rw [← hn] at hc ⊢
  clear hn
  by_cases hq : 97 ≤ n
  · have hq' : (97 : Int) ≤ n := by omega
    have e1 : IntKind.u8.wrap ((n : Int) - 97) = n - 97 := by simp [IntKind.wrap, IntKind.bits, IntKind.signed]; omega
    have e2 : IntKind.u8.wrap ((n : Int) - 97 + 10) = n - 87 := by simp [IntKind.wrap, IntKind.bits, IntKind.signed]; omega
    go_enter Tryz.func78, Tryz.ntmps78
    go_wp2
    go_ret
    exact ⟨ret_int (by unfold nib; rw [if_pos (by have := Hn.out; omega), ← Hn.out]), rfl⟩
  · have hq' : ¬ (97 : Int) ≤ n := by omega
    have h0 : (0 : Int) ≤ n := by omega
    go_enter Tryz.func78, Tryz.ntmps78
    go_wp2
    go_ret
    exact ⟨ret_int (by unfold nib; rw [if_neg (by have := Hn.out; omega), ← Hn.out]), rfl⟩

/-! ### value -/
def valR (l : List UInt8) : Int := l.foldl (fun (n : Int) c => (n * 10 + (c.toNat % 16 : Nat)) % 18446744073709551616) 0
theorem valR_snoc (l : List UInt8) (c : UInt8) : valR (l ++ [c]) = (valR l * 10 + (c.toNat % 16 : Nat)) % 18446744073709551616 := by simp [valR]
theorem valR_rng (l : List UInt8) : 0 ≤ valR l ∧ valR l < 18446744073709551616 := by
  rcases List.eq_nil_or_concat l with rfl | ⟨r, c, rfl⟩
  · exact ⟨by decide, by decide⟩
  · rw [List.concat_eq_append, valR_snoc]
    exact ⟨Int.emod_nonneg _ (by decide), Int.emod_lt_of_pos _ (by decide)⟩
theorem take_snocB (s : ByteArray) (k : Nat) (h : k < s.size) : s.data.toList.take (k + 1) = s.data.toList.take k ++ [s[k]] := by
  rw [List.take_succ_eq_append_getElem (by simpa using h)]; rfl
set_option maxHeartbeats 1000000 in
theorem value_any (s : ByteArray) (hs : s.size ≤ 100000) (w : World) :
    Calls Tryz.prog 50 #[.string s] w fun e w' => e = .returned (.int .u64 (valR s.data.toList)) ∧ w = w' := by
  go_enter Tryz.func50, Tryz.ntmps50
  go_wp2
  go_loop [3, 4] (fun n i => ∃ k : Nat, k ≤ s.size ∧ i = .int .i64 k ∧ n = .int .u64 (valR (s.data.toList.take k))) (fun _ i => s.size - (intOf i).toNat)
  case atStart => exact ⟨0, Nat.zero_le _, rfl, rfl⟩
  case round =>
    obtain ⟨k, hk, rfl, rfl⟩ := hrel
    by_cases hlt : k < s.size
    · have HS : Hid (valR (s.data.toList.take (k + 1)) = (valR (s.data.toList.take k) * 10 + (s[k].toNat % 16 : Nat)) % 18446744073709551616) := by show _ = _; rw [take_snocB s k hlt, valR_snoc]
      go_wp2
      go_round
      case rel =>
        refine ⟨k + 1, by omega, by go_num, ?_⟩
        rw [HS.out]
        congr 1
        simp [IntKind.wrap, IntKind.bits, IntKind.signed]
        try omega
      case measure => simp [intOf]; omega
    · go_wp2
      go_ret
      exact ⟨ret_int (by rw [List.take_of_length_le (by simp; omega)]), rfl⟩

/-! ### a number's bytes, and back -/
theorem getN_small (l : List Int) (h : ∀ x ∈ l, IsByte x) (hl : l.length < 8) : 0 ≤ getN l ∧ getN l < 72057594037927936 := by
  obtain ⟨h0, h1⟩ := getN_rng l h
  refine ⟨h0, Int.lt_of_lt_of_le h1 ?_⟩
  have : ∀ k : Nat, k < 8 → (256 : Int) ^ k ≤ 72057594037927936 := by decide
  exact this _ hl
set_option maxHeartbeats 1000000 in
theorem rnumber_any (w : World) (B : Nat) (v : Value) (bs : List Int) (hv : Bs w B v bs) (hl : bs.length ≤ 8) :
    Calls Tryz.prog 33 #[v] w fun e w' => e = .returned (.int .u64 (getN bs)) ∧ w = w' := by
  obtain ⟨A, c, rfl, -, -⟩ := hv.1.form
  obtain ⟨m, hm⟩ : ∃ m, m = bs.length := ⟨_, rfl⟩
  have Hm := Lib.hid hm
  rw [← hm]
  have HV := Lib.hid hv
  have Hl := Lib.hid hl
  clear hm hv hl
  go_enter Tryz.func33, Tryz.ntmps33
  go_wp2_with fail
  go_loop [3, 4] (fun n i => ∃ k : Nat, k ≤ m ∧ i = .int .i64 k ∧ n = .int .u64 (getN (bs.take k))) (fun _ i => m - (intOf i).toNat)
  case atStart => exact ⟨0, Nat.zero_le _, rfl, rfl⟩
  case round =>
    obtain ⟨k, hk, rfl, rfl⟩ := hrel
    by_cases hlt : k < m
    · have hkb : k < bs.length := by have := Hm.out; omega
      obtain ⟨b, o, c', hv', -, -, hr⟩ := HV.out.1.row (by omega)
      cases hv'
      have hcell : w.cell? ⟨b, o + k, none⟩ = some (.int .u8 bs[k]) := hr.2 k _ (by simp [hkb])
      have hsn : Hid (getN (bs.take (k + 1)) = getN (bs.take k) * 256 + bs[k]) := by show _ = _; rw [List.take_succ_eq_append_getElem hkb, getN_snoc]
      have hx := HV.out.2 _ (List.getElem_mem hkb)
      obtain ⟨x, hxe⟩ : ∃ x, x = bs[k] := ⟨_, rfl⟩
      rw [← hxe] at hcell hx hsn
      have hg := getN_small (bs.take k) (fun y hy => HV.out.2 y (List.mem_of_mem_take hy)) (by rw [List.length_take]; have := Hl.out; omega)
      obtain ⟨y, hy⟩ : ∃ y, y = getN (bs.take k) := ⟨_, rfl⟩
      rw [← hy] at hg hsn ⊢
      obtain ⟨x0, x1⟩ := hx
      obtain ⟨y0, y1⟩ := hg
      have Hk := Lib.hid hkb
      have e1 : IntKind.u64.wrap (y * 256) = y * 256 := by apply IntWalk.u64_in; omega
      have e2 : IntKind.u64.wrap x = x := by apply IntWalk.u64_in; omega
      have e3 : IntKind.u64.wrap (y * 256 + x) = y * 256 + x := by apply IntWalk.u64_in; omega
      have hkm : (k : Int) < m := by omega
      have hk0 : (0 : Int) ≤ k := by omega
      have hk8 : (k : Int) ≤ 8 := by have := Hl.out; have := Hm.out; omega
      have Hlt := Lib.hid hlt
      clear hxe hy hkb hlt hk
      go_wp2_with fail
      go_round
      case rel => exact ⟨k + 1, Hlt.out, by go_num, by rw [hsn.out]⟩
      case measure => have := Hlt.out; simp [intOf]; omega
    · obtain rfl : k = m := by omega
      have hkm : ¬ (k : Int) < k := by omega
      clear hlt hk
      go_wp2_with fail
      go_ret
      exact ⟨ret_int (by rw [List.take_of_length_le (by have := Hm.out; omega)]), rfl⟩

/-! ### what an operation's line names -/
def namesV (c : Int) : Bool := decide (2 ≤ c) && decide (c ≤ 6)
def namesA (c : Int) : Bool := decide (4 ≤ c) && decide (c ≤ 6)
def namesN (c : Int) : Bool := decide (c = 6)
def namesD (c : Int) : Bool := decide (c = 5)
theorem tup4 {a b c d a' b' c' d' : Bool} (h1 : a = a') (h2 : b = b') (h3 : c = c') (h4 : d = d') : Ending.returned (.tuple #[.bool a, .bool b, .bool c, .bool d]) = Ending.returned (.tuple #[.bool a', .bool b', .bool c', .bool d']) := by rw [h1, h2, h3, h4]
set_option maxHeartbeats 1000000 in
theorem names_any (c : Int) (hc : IsByte c) (w : World) :
    Calls Tryz.prog 39 #[.int .u8 c] w fun e w' => e = .returned (.tuple #[.bool (namesV c), .bool (namesA c), .bool (namesN c), .bool (namesD c)]) ∧ w = w' := by
  obtain ⟨c0, c1⟩ := hc
  obtain ⟨k, hk⟩ : ∃ k : Fin 256, c = k.val := ⟨⟨c.toNat, by omega⟩, by simp; omega⟩
  have h1 : namesV c = decide (2 ≤ c ∧ c ≤ 6) := by unfold namesV; rw [← Bool.decide_and]
  have h2 : namesA c = decide (4 ≤ c ∧ c ≤ 6) := by unfold namesA; rw [← Bool.decide_and]
  have H : Hid (∀ a b d f, a = decide (2 ≤ c ∧ c ≤ 6) → b = decide (4 ≤ c ∧ c ≤ 6) → d = decide (c = 6) → f = decide (c = 5) → Ending.returned (.tuple #[.bool a, .bool b, .bool d, .bool f]) = .returned (.tuple #[.bool (namesV c), .bool (namesA c), .bool (namesN c), .bool (namesD c)])) := fun a b d f e1 e2 e3 e4 => by
    rw [e1, e2, e3, e4, h1, h2]; rfl
  clear hk h1 h2
  by_cases g2 : 2 ≤ c
  · by_cases g4 : 4 ≤ c
    · go_enter Tryz.func39, Tryz.ntmps39
      go_wp2_with fail
      exact bodyPost_ret (v := .tuple #[.bool (decide (c ≤ 6)), .bool (decide (c ≤ 6)), .bool (c == 6), .bool (c == 5)]) (by simp [results, Tryz.results39, go_sem]) rfl ⟨H.out _ _ _ _ (decide_eq_decide.2 (by omega)) (decide_eq_decide.2 (by omega)) rfl rfl, rfl⟩
    · go_enter Tryz.func39, Tryz.ntmps39
      go_wp2_with fail
      exact bodyPost_ret (v := .tuple #[.bool (decide (c ≤ 6)), .bool false, .bool (c == 6), .bool (c == 5)]) (by simp [results, Tryz.results39, go_sem]) rfl ⟨H.out _ _ _ _ (decide_eq_decide.2 (by omega)) (decide_eq_false (by omega)).symm rfl rfl, rfl⟩
  · go_enter Tryz.func39, Tryz.ntmps39
    go_wp2_with fail
    exact bodyPost_ret (v := .tuple #[.bool false, .bool false, .bool (c == 6), .bool (c == 5)]) (by simp [results, Tryz.results39, go_sem]) rfl ⟨H.out _ _ _ _ (decide_eq_false (by omega)).symm (decide_eq_false (by omega)).symm rfl rfl, rfl⟩

/-! ### numbers as texts -/
theorem dec_last (u : Nat) (h : 10 ≤ u) : Lib.decDigits u = Lib.decDigits (u / 10) ++ [UInt8.ofNat (48 + u % 10)] := by
  rw [Lib.decDigits, dif_neg (by omega)]
theorem dec_one (u : Nat) (h : u < 10) : Lib.decDigits u = [UInt8.ofNat (48 + u)] := by
  rw [Lib.decDigits, dif_pos h]
theorem one_str (W : World) (a : UInt8) : (convert 23 9 (.slice (some ⟨W.heap.size, 0, none⟩) 1 1)).run Tryz.prog (W.alloc (.cells #[.int .u8 a.toNat] 5)) = .ok (.string ⟨#[a]⟩) (W.alloc (.cells #[.int .u8 a.toNat] 5)) :=
  run_convert_bytes_back (P := Tryz.prog) _ 23 9 5 ⟨W.heap.size, 0, none⟩ 1 [a] uBytes uByte uString (fun j hj => by
    match j, hj with
    | 0, _ => rw [Lib.add_plain, World.cell?_alloc_new]; rfl)
theorem cat_one (a : UInt8) (t : List UInt8) : (⟨#[a]⟩ : ByteArray) ++ (⟨t.toArray⟩ : ByteArray) = ⟨(a :: t).toArray⟩ := by
  apply ByteArray.ext
  simp
set_option maxRecDepth 100000 in
set_option maxHeartbeats 2000000 in
theorem rnum_any (u : Int) (hu : IsU64 u) (w : World) :
    Calls Tryz.prog 41 #[.int .u64 u] w fun e w' => e = .returned (.string ⟨(Lib.decDigits u.toNat).toArray⟩) ∧ Below w.heap.size w w' := by
  obtain ⟨n, rfl⟩ : ∃ n : Nat, u = n := ⟨u.toNat, by have := hu.1; omega⟩
  have hn : n < 18446744073709551616 := by have := hu.2; omega
  rw [Int.toNat_natCast]
  have Hn := Lib.hid hn
  have h20 := Lib.nDigits_le20 n hn
  rw [← Lib.decDigits_length] at h20
  have H20 := Lib.hid h20
  clear hu hn h20
  go_enter Tryz.func41, Tryz.ntmps41
  go_wp2_with fail
  go_loopw [0, 3] (fun x s wr => ∃ (k : Nat) (S : ByteArray), x = .int .u64 k ∧ s = .string S ∧ Hid (k ≤ n ∧ Lib.decDigits n = Lib.decDigits k ++ S.data.toList ∧ Below w.heap.size w wr)) (fun x _ _ => (intOf x).toNat)
  case atStart => exact ⟨n, ByteArray.empty, rfl, rfl, Nat.le_refl _, by simp, Below.refl _ _⟩
  case round =>
    obtain ⟨k, S, rfl, rfl, HK⟩ := hrel
    have hS : S.size ≤ 20 := by
      have h := congrArg List.length HK.out.2.1
      rw [List.length_append] at h
      rw [Lib.size_eq]
      have := H20.out
      omega
    have hk0 : (0 : Int) ≤ (k : Int) := by omega
    have hk1 : (k : Int) < 18446744073709551616 := by have := HK.out.1; have := Hn.out; omega
    obtain ⟨a, ha⟩ : ∃ a : UInt8, a = UInt8.ofNat (48 + k % 10) := ⟨_, rfl⟩
    have han : (a.toNat : Int) = 48 + (k : Int) % 10 := by rw [ha, UInt8.toNat_ofNat']; omega
    have q1 : ∀ W', (Op.stringOp .add ⟨#[a]⟩ S).run Tryz.prog W' = .ok (.string ((⟨#[a]⟩ : ByteArray) ++ S)) W' := fun W' => run_string_add_sum W' _ _ (by
      show 1 + S.size ≤ _
      omega)
    obtain ⟨T, hT⟩ : ∃ T, T = (⟨#[a]⟩ : ByteArray) ++ S := ⟨_, rfl⟩
    have hTd : T.data.toList = a :: S.data.toList := by
      rw [hT]
      simp
    rw [← hT] at q1
    have q2 := one_str wr a
    have HT := Lib.hid hTd
    have Ha := Lib.hid ha
    have hB := Lib.hid (HK.out.2.2.trans ((bel1 wr (.cells #[.int .u8 a.toNat] 5)).mono HK.out.2.2.size))
    clear hT hTd ha hS
    by_cases h9 : 9 < k
    · have h9' : (9 : Int) < k := by omega
      have e1 : IntKind.u8.wrap ((k : Int) % 10) = (k : Int) % 10 := by apply IntWalk.u8_in; omega
      have e2 : IntKind.u8.wrap (48 + (k : Int) % 10) = (a.toNat : Int) := by rw [han]; apply IntWalk.u8_in; omega
      have Hk9 := Lib.hid h9
      clear han h9
      go_wp2_with fail
      go_roundw
      case rel =>
        refine ⟨k / 10, T, by go_num, rfl, ?_, ?_, hB.out⟩
        · have := HK.out.1; omega
        · rw [HK.out.2.1, dec_last k (by have := Hk9.out; omega), HT.out, Ha.out]
          simp
      case measure => have := Hk9.out; show ((k : Int) / 10).toNat < (k : Int).toNat; omega
    · have h9' : ¬ (9 : Int) < k := by omega
      have hmod : (k : Int) % 10 = k := by omega
      have e1 : IntKind.u8.wrap (k : Int) = (k : Int) := by apply IntWalk.u8_in; omega
      have e2 : IntKind.u8.wrap (48 + (k : Int)) = (a.toNat : Int) := by rw [han, hmod]; apply IntWalk.u8_in; omega
      have Hk9 : Hid (k < 10) := (show k < 10 by omega)
      clear han h9 hmod
      go_wp2_with fail
      go_ret
      refine ⟨?_, hB.out⟩
      have e : T = ⟨(Lib.decDigits n).toArray⟩ := by
        apply Go.WideShapes.bytes_inj
        rw [HT.out, Ha.out, HK.out.2.1, dec_one k Hk9.out, Nat.mod_eq_of_lt Hk9.out]
        simp
      exact congrArg (fun x => Ending.returned (Value.string x)) e

/-! ### words -/
set_option maxRecDepth 100000 in
set_option maxHeartbeats 2000000 in
theorem rword_any (c : Int) (hc : IsByte c) (w : World) :
    Calls Tryz.prog 40 #[.int .u8 c] w fun e w' => e = .returned (.string ⟨(wordOf c).1.toArray⟩) ∧ Below w.heap.size w w' := by
  obtain ⟨c0, c1⟩ := hc
  by_cases h : 10 ≤ c
  · have hw : (wordOf c).1 = [] := by unfold wordOf; rw [if_pos (by omega)]
    have Hw := Lib.hid hw
    have e1 : IntKind.i64.wrap c = c := by apply IntWalk.i64_in; omega
    clear hw
    go_enter Tryz.func40, Tryz.ntmps40
    go_wp2_with fail
    go_ret
    rw [Hw.out]
    exact ⟨rfl, bel1 _ _⟩
  · have hcs : c = 0 ∨ c = 1 ∨ c = 2 ∨ c = 3 ∨ c = 4 ∨ c = 5 ∨ c = 6 ∨ c = 7 ∨ c = 8 ∨ c = 9 := by omega
    clear c0 c1 h
    rcases hcs with rfl | rfl | rfl | rfl | rfl | rfl | rfl | rfl | rfl | rfl
    all_goals
      go_enter Tryz.func40, Tryz.ntmps40
      go_wp2_with fail
      go_ret
      exact ⟨rfl, bel1 _ _⟩
end Go.Proofs.YtakiinghipjopaaGreatDoor
