/-
  ops.number, ops.word, ops.told: their contracts.
-/
import Derived.Test.YtakiinghipjopaaGreatDoorShown
import Derived.Lib.OthersKept
import Derived.Lib.QuietBelow
namespace Go.Proofs.YtakiinghipjopaaGreatDoor
open Go.RowKit Go.Shelf

/-! ### strings.Cut, strings.Split -/
theorem below_drew (w : World) (n : Nat) : Below w.heap.size w (w.drewN n) := ⟨rfl, rfl, rfl, Nat.le_refl _, fun _ _ => rfl⟩
theorem cut_any (s sep : ByteArray) (hs : s.size < 4294967281) (w : World) (hE : Env w) :
    Calls Tryz.prog 68 #[.string s, .string sep] w fun e w' => e = .returned (.tuple #[.string ⟨(Lib.cut s.data.toList sep.data.toList).1.toArray⟩, .string ⟨(Lib.cut s.data.toList sep.data.toList).2.1.toArray⟩, .bool (Lib.cut s.data.toList sep.data.toList).2.2]) ∧ Below w.heap.size w w' := by
  obtain ⟨m, hm⟩ := hE.max
  refine (Tryz.strings_Cut s sep m w hs hm).mono ?_
  rintro e w' ⟨rfl, n, rfl⟩
  exact ⟨rfl, below_drew _ _⟩

theorem nDigits_le20 (u : Nat) (h : u < 18446744073709551616) : Lib.nDigits u ≤ 20 := by
  by_cases h0 : u = 0
  · subst h0; rw [Lib.nDigits_small (by omega)]; omega
  · have := Lib.numDigits_eq u (by omega) h
    split at this <;> omega

/-! ### number -/
def fieldNo (x : Int) : Nat := if x = 118 then 1 else if x = 97 then 2 else 3
theorem number_any (b : Nat) (x : Int) (w : World) :
    Calls Tryz.prog 36 #[.pointer (some ⟨b, 0, none⟩), .int .i32 x] w fun e w' => e = .returned (.pointer (some ⟨b, fieldNo x, none⟩)) ∧ w = w' := by
  by_cases h1 : x = 118
  · subst h1
    go_enter Tryz.func36, Tryz.ntmps36
    go_wp2_with fail
    go_ret
    exact ⟨rfl, rfl⟩
  · by_cases h2 : x = 97
    · subst h2
      go_enter Tryz.func36, Tryz.ntmps36
      go_wp2_with fail
      go_ret
      exact ⟨rfl, rfl⟩
    · have Hn : Hid (fieldNo x = 3) := by show _ = _; unfold fieldNo; rw [if_neg h1, if_neg h2]
      go_enter Tryz.func36, Tryz.ntmps36
      go_wp2_with fail
      go_ret
      rw [Hn.out]
      exact ⟨rfl, rfl⟩

/-! ### word -/
def wordsS : ByteArray := ⟨#[109, 97, 107, 101, 47, 32, 100, 114, 111, 112, 47, 118, 32, 115, 110, 97, 112, 47, 118, 32, 114, 101, 97, 100, 47, 118, 97, 32, 119, 114, 105, 116, 101, 47, 118, 97, 100, 32, 116, 114, 105, 109, 47, 118, 97, 110, 32, 99, 111, 109, 109, 105, 116, 47, 32, 115, 99, 114, 117, 98, 47, 32, 115, 116, 97, 116, 117, 115, 47]⟩
theorem words_fields : Lib.fields wordsS.data.toList = wordsF := by decide +kernel
def wordCells : Array Value := (wordsF.map fun l => Value.string ⟨l.toArray⟩).toArray
theorem fields_words (w : World) (hE : Env w) :
    Calls Tryz.prog 46 #[.string wordsS] w fun e w' => e = .returned (.slice (some ⟨w.heap.size, 0, none⟩) 9 9) ∧ w' = w.alloc (.cells wordCells 9) := by
  have h := Tryz.strings_Fields_laid wordsS w (by decide +kernel) (by
    have : ∀ j : Fin 80, ((wordsS.data.toList[j.val]?).all fun b => b.toNat < 128) = true := by decide +kernel
    intro j b hb
    have hl := (List.getElem?_eq_some_iff.1 hb).1
    have h2 := this ⟨j, Nat.lt_of_lt_of_le hl (by decide +kernel)⟩
    simp only [hb, Option.all_some, decide_eq_true_eq] at h2
    exact h2) hE.sp
  rw [words_fields] at h
  exact h
theorem cut_words : ∀ k : Fin 9, Lib.cut (wordsF.getD k.val []) [47] = ((wordOf (k.val + 1)).1, (wordOf (k.val + 1)).2, true) := by decide +kernel
theorem word_cell (w : World) {k : Nat} (hk : k < 9) : (w.alloc (.cells wordCells 9)).cell? ⟨w.heap.size, k, none⟩ = some (.string ⟨(wordsF.getD k []).toArray⟩) := by
  rw [World.cell?_alloc_new]
  have hl : wordsF.length = 9 := by decide +kernel
  simp only [wordCells, List.getElem?_toArray, List.getElem?_map, List.getElem?_eq_getElem (show k < wordsF.length by omega), Option.map_some]
  rw [List.getD_eq_getElem?_getD, List.getElem?_eq_getElem (show k < wordsF.length by omega)]
  rfl
theorem wordF_len : ∀ k : Fin 9, (wordsF.getD k.val []).length ≤ 20 := by decide +kernel
set_option maxRecDepth 100000 in
set_option maxHeartbeats 1000000 in
theorem word_any (code : Int) (hc : IsByte code) (w : World) (hE : Env w) :
    Calls Tryz.prog 34 #[.int .u8 code] w fun e w' => e = .returned (.tuple #[.string ⟨(wordOf code).1.toArray⟩, .string ⟨(wordOf code).2.toArray⟩]) ∧ Below w.heap.size w w' := by
  obtain ⟨c0, c1⟩ := hc
  have hF := Lib.hid (fields_words w hE)
  have hB := Lib.hid (bel1 w (.cells wordCells 9))
  by_cases h : code < 1 ∨ 9 < code
  · have HW := Lib.hid (word_none h)
    rcases h with h | h
    · go_enter Tryz.func34, Tryz.ntmps34
      go_wp2_with (go_at_call 46; refine hF.out.mono ?_; rintro e w' ⟨rfl, rfl⟩)
      go_ret2
      rw [HW.out]
      exact ⟨rfl, hB.out⟩
    · have h' : ¬ code < 1 := by omega
      have h9 : (9 : Int) < code := h
      go_enter Tryz.func34, Tryz.ntmps34
      go_wp2_with (go_at_call 46; refine hF.out.mono ?_; rintro e w' ⟨rfl, rfl⟩)
      go_ret2
      rw [HW.out]
      exact ⟨rfl, hB.out⟩
  · obtain ⟨k, rfl⟩ : ∃ k : Nat, code = k + 1 := ⟨(code - 1).toNat, by omega⟩
    have hk : k < 9 := by omega
    have hcell := word_cell w hk
    have Hcut := Lib.hid (cut_words ⟨k, hk⟩)
    have Hlen := Lib.hid (wordF_len ⟨k, hk⟩)
    obtain ⟨f, hf⟩ : ∃ f : List UInt8, f = wordsF.getD k [] := ⟨_, rfl⟩
    simp only at Hcut Hlen
    rw [← hf] at Hcut Hlen hcell
    have HC : Hid (∀ W : World, Env W → Calls Tryz.prog 68 #[.string ⟨f.toArray⟩, .string ⟨#[47]⟩] W fun e w' => e = .returned (.tuple #[.string ⟨(wordOf (k + 1)).1.toArray⟩, .string ⟨(wordOf (k + 1)).2.toArray⟩, .bool true]) ∧ Below W.heap.size W w') := by
      intro W hW
      have h1 := cut_any ⟨f.toArray⟩ ⟨#[47]⟩ (by have := Hlen.out; rw [Lib.size_eq]; simp; omega) W hW
      have h2 : Lib.cut (ByteArray.mk f.toArray).data.toList (ByteArray.mk #[47]).data.toList = ((wordOf (k + 1)).1, (wordOf (k + 1)).2, true) := Hcut.out
      rw [h2] at h1
      exact h1
    have HE1 := Lib.hid (hE.on' hB.out)
    clear hE
    clear hf h
    go_enter Tryz.func34, Tryz.ntmps34
    go_wp2_with (first | (go_at_call 46; refine hF.out.mono ?_; rintro e w' ⟨rfl, rfl⟩) | (go_at_call 68; refine (HC.out _ HE1.out).mono ?_; rintro e w' ⟨rfl, h7⟩))
    go_ret2
    exact ⟨rfl, hB.out.trans (h7.mono (by simp))⟩

/-! ### told -/
theorem iterPos_of {w : World} {k : Nat} {s : ByteArray} {p : Nat} (h : w.heap[k]? = some (.stringIter s p)) : w.iterPos k = p := by simp [World.iterPos, h]
theorem field_len (o : OpV) (hi : OpIn o) (hl : o.data.length ≤ 100000) (x : UInt8) : (fieldOf o x).length ≤ 1000000 := by
  unfold fieldOf
  split
  · unfold shownOf
    split
    · simp
    · have h := runs_count o.data
      have h2 := join_len [46] 9 ((runsOf o.data).map runTxt) (fun y hy => by
        obtain ⟨p, hp, rfl⟩ := List.mem_map.1 hy
        exact runTxt_len p (Nat.le_trans (runs_mem hp).2.2 hl))
      rw [List.length_map] at h2
      have h3 : ([46] : List UInt8).length = 1 := rfl
      rw [h3] at h2
      omega
  · have h1 := Lib.decDigits_length (if x = 118 then o.vol else if x = 97 then o.at_ else o.n).toNat
    have h2 : (if x = 118 then o.vol else if x = 97 then o.at_ else o.n).toNat < 18446744073709551616 := by
      obtain ⟨_, h2, h3, h4, _⟩ := hi
      unfold IsU64 at h2 h3 h4
      split
      · omega
      · split <;> omega
    have h3 := nDigits_le20 _ h2
    omega
theorem told_len (s : List UInt8) (o : OpV) (hi : OpIn o) (hl : o.data.length ≤ 100000) : ∀ L : List UInt8, (toldOf s o L).length ≤ s.length + L.length * 1000001
  | [] => by simp [toldOf]
  | x :: r => by
    have h := told_len s o hi hl r
    have h2 := field_len o hi hl x
    unfold toldOf at h ⊢
    rw [List.length_append] at h ⊢
    rw [List.flatMap_cons, List.length_append, List.length_cons, List.length_cons]
    omega
theorem told_snoc (s : List UInt8) (o : OpV) (L : List UInt8) (x : UInt8) : toldOf s o (L ++ [x]) = toldOf s o L ++ 32 :: fieldOf o x := by
  unfold toldOf
  rw [List.flatMap_append]
  simp
theorem cat_two (a b : List UInt8) (c : UInt8) : (⟨a.toArray⟩ : ByteArray) ++ ((⟨#[c]⟩ : ByteArray) ++ (⟨b.toArray⟩ : ByteArray)) = ⟨(a ++ c :: b).toArray⟩ := by
  apply ByteArray.ext
  simp
theorem OpOk.opIn {w : World} {B : Nat} {p : OpV × Value} (h : OpOk w B p) : OpIn p.1 := ⟨h.2.1, h.2.2.1, h.2.2.2.1, h.2.2.2.2, h.1.2⟩
/-- told's loop, as it stands -/
def ToldI (w wr : World) (s : List UInt8) (o : OpV) (L : ByteArray) (k : Nat) (S : ByteArray) (cs : Array Value) : Prop :=
  S = ⟨(toldOf s o (L.data.toList.take k)).toArray⟩ ∧ wr.heap[w.heap.size + 1]? = some (.stringIter L k) ∧ wr.heap[w.heap.size]? = some (.cells cs 25 (0, 0)) ∧ Below w.heap.size w wr
set_option maxRecDepth 100000 in
set_option maxHeartbeats 2000000 in
theorem told_any (s : ByteArray) (hs : s.size ≤ 1000000) (p : OpV × Value) (B : Nat) (w : World) (hp : OpOk w B p) (hB : B ≤ w.heap.size) (hl : p.1.data.length ≤ 100000) (L : ByteArray) (hL : L.size ≤ 4) (hA : ∀ x ∈ L.data.toList, x.toNat < 128) (hE : Env w) :
    Calls Tryz.prog 37 #[.string s, opVal p, .string L] w fun e w' => e = .returned (.string ⟨(toldOf s.data.toList p.1 L.data.toList).toArray⟩) ∧ Below w.heap.size w w' := by
  obtain ⟨⟨c, v, a, n, d⟩, dv⟩ := p
  have Hin := Lib.hid hp.opIn
  have Hlen := Lib.hid (told_len s.data.toList ⟨c, v, a, n, d⟩ hp.opIn hl)
  have Hfl := Lib.hid (field_len ⟨c, v, a, n, d⟩ hp.opIn hl)
  have Hbs : Hid (Bs w B dv d) := hp.1
  have Hl : Hid (d.length ≤ 100000) := hl
  have HA := Lib.hid hA
  have HE := Lib.hid hE
  have HBs := Lib.hid hB
  have Hs := Lib.hid hs
  clear hp hl hA hE hB hs
  simp only [opVal]
  go_enter Tryz.func37, Tryz.ntmps37
  go_wp2_with fail
  have H0 : Hid (ToldI w ((w.alloc (.cells #[.int .u8 c, .int .u64 v, .int .u64 a, .int .u64 n, dv] 25)).iter L 0) s.data.toList ⟨c, v, a, n, d⟩ L 0 s #[.int .u8 c, .int .u64 v, .int .u64 a, .int .u64 n, dv]) := by
    refine ⟨?_, ?_, ?_, ?_⟩
    · simp [toldOf]
    · have := World.iter_heap (w.alloc (.cells #[.int .u8 c, .int .u64 v, .int .u64 a, .int .u64 n, dv] 25)) L 0
      rwa [World.size_alloc] at this
    · exact two_old w _ _
    · exact (bel1 _ _).alloc (by simp) _
  have hs0 := Hs
  clear Hs
  go_loopw [0] (fun x wr => ∃ (k : Nat) (S : ByteArray), k ≤ L.size ∧ x = .string S ∧ Hid (ToldI w wr s.data.toList ⟨c, v, a, n, d⟩ L k S #[.int .u8 c, .int .u64 v, .int .u64 a, .int .u64 n, dv])) (fun _ wr => L.size - wr.iterPos (w.heap.size + 1))
  case atStart => exact ⟨0, s, Nat.zero_le _, rfl, H0⟩
  case round =>
    obtain ⟨k, S, hk, rfl, HI⟩ := hrel
    clear H0
    by_cases hlt : k < L.size
    · obtain ⟨x, hx⟩ : ∃ x : UInt8, x = L[k]'hlt := ⟨_, rfl⟩
      have hxm : x ∈ L.data.toList := by rw [hx]; exact Array.getElem_mem_toList _
      have hxk : L.data.toList.take (k + 1) = L.data.toList.take k ++ [x] := by
        rw [List.take_succ_eq_append_getElem (by rw [← Lib.size_eq]; exact hlt), hx]
        rfl
      obtain ⟨e1, e2, e3, e4⟩ := HI.out
      have hnx : ∀ ty, (Instr.next (.pointer (some ⟨w.heap.size + 1, 0, none⟩)) true ty).run Tryz.prog wr = _ := fun ty => Lib.run_next_ascii_at wr (w.heap.size + 1) L k ty e2 hlt (by rw [← hx]; exact HA.out x hxm)
      rw [← hx] at hnx
      obtain ⟨W1, hW1⟩ : ∃ W1, W1 = wr.iterAt (w.heap.size + 1) L (k + 1) := ⟨_, rfl⟩
      rw [← hW1] at hnx
      have g2 : W1.heap[w.heap.size + 1]? = some (.stringIter L (k + 1)) := by rw [hW1]; exact Lib.iterAt_heap wr _ L k (k + 1) e2
      have g3 : W1.heap[w.heap.size]? = some (.cells #[.int .u8 c, .int .u64 v, .int .u64 a, .int .u64 n, dv] 25 (0, 0)) := by rw [hW1, Lib.iterAt_other _ _ _ _ _ (by omega)]; exact e3
      have G4 : Hid (Below w.heap.size w W1) := by rw [hW1]; exact Lib.below_iterAt e4 (by omega) L (k + 1)
      have G2 := Lib.hid g2
      have G3 := Lib.hid g3
      have HE1 : Hid (Env W1) := HE.out.on' G4.out
      have Hpos : Hid (wr.iterPos (w.heap.size + 1) = k) := iterPos_of e2
      have HS : Hid (S = ⟨(toldOf s.data.toList ⟨c, v, a, n, d⟩ (L.data.toList.take k)).toArray⟩) := e1
      have Hxk := Lib.hid hxk
      have Hss : Hid (S.size ≤ 5000010) := by
        show _ ≤ _
        have h1 := Hlen.out (L.data.toList.take k)
        have h2 : (L.data.toList.take k).length ≤ 4 := by rw [List.length_take]; omega
        have h3 : s.data.toList.length ≤ 1000000 := by rw [← Lib.size_eq]; exact hs0.out
        rw [HS.out, Lib.size_eq]
        show (toldOf _ _ _).length ≤ _
        omega
      obtain ⟨r0, r1, r2, r3, r4⟩ := cells5 g3
      clear e1 e2 e3 e4 hW1 g2 g3 hxk hx HI
      obtain ⟨sh, hsh⟩ : ∃ sh : ByteArray, sh = ⟨(fieldOf ⟨c, v, a, n, d⟩ x).toArray⟩ := ⟨_, rfl⟩
      have hshl : sh.size ≤ 1000000 := by rw [hsh, Lib.size_eq]; exact Hfl.out x
      have q1 : ∀ W', (Op.stringOp .add { data := #[32] } sh).run Tryz.prog W' = .ok (.string ((⟨#[32]⟩ : ByteArray) ++ sh)) W' := fun W' => run_string_add_sum W' _ _ (by show 1 + sh.size ≤ _; omega)
      have q2 : ∀ W', (Op.stringOp .add S ((⟨#[32]⟩ : ByteArray) ++ sh)).run Tryz.prog W' = .ok (.string (S ++ ((⟨#[32]⟩ : ByteArray) ++ sh))) W' := fun W' => run_string_add_sum W' _ _ (by rw [ByteArray.size_append]; have := Hss.out; show _ + (1 + sh.size) ≤ _; omega)
      obtain ⟨tl, htl⟩ : ∃ tl, tl = (⟨#[32]⟩ : ByteArray) ++ sh := ⟨_, rfl⟩
      obtain ⟨S2, hS2⟩ : ∃ S2, S2 = S ++ tl := ⟨_, rfl⟩
      have HS2 : Hid (S2 = ⟨(toldOf s.data.toList ⟨c, v, a, n, d⟩ (L.data.toList.take (k + 1))).toArray⟩) := by
        show _ = _
        rw [hS2, htl, hsh, HS.out, Hxk.out, told_snoc]
        exact cat_two _ _ 32
      rw [← htl] at q1 q2
      rw [← hS2] at q2
      have Hsh := Lib.hid hsh
      have Hend : Hid (∀ W2, Below W1.heap.size W1 W2 → ToldI w W2 s.data.toList ⟨c, v, a, n, d⟩ L (k + 1) S2 #[.int .u8 c, .int .u64 v, .int .u64 a, .int .u64 n, dv]) := fun W2 h2 =>
        ⟨HS2.out, (h2.block _ (Array.getElem?_eq_some_iff.1 G2.out).1).trans G2.out, (h2.block _ (Array.getElem?_eq_some_iff.1 G3.out).1).trans G3.out, G4.out.trans (h2.mono G4.out.size)⟩
      have Hlt := Lib.hid hlt
      clear hshl htl hS2 hsh hxm
      by_cases hd : x = 100
      · subst hd
        have HC := Lib.hid (shown_any W1 B dv d ⟨Hbs.out.1.below (G4.out.mono HBs.out), Hbs.out.2⟩ (Nat.le_trans HBs.out G4.out.size) Hl.out HE1.out)
        have e1 : (⟨(shownOf d).toArray⟩ : ByteArray) = sh := Hsh.out.symm
        rw [e1] at HC
        clear e1
        go_wp2_with (go_at_call 53; refine HC.out.mono ?_; rintro e W2 ⟨rfl, h2⟩; have H2 := Lib.hid h2; clear h2)
        go_roundw
        case rel => exact ⟨k + 1, S2, Hlt.out, rfl, Hend.out _ H2.out⟩
        case measure => have h1 := iterPos_of (Hend.out _ H2.out).2.1; have h3 := Hpos.out; have h4 := Hlt.out; rw [h1, h3]; exact Nat.sub_succ_lt_self _ _ h4
      · have hd' : ¬ (x.toNat : Int) = 100 := fun h => hd (by apply UInt8.toNat_inj.1; show x.toNat = 100; omega)
        obtain ⟨u, hu⟩ : ∃ u : Int, u = if x = 118 then v else if x = 97 then a else n := ⟨_, rfl⟩
        have hcell : W1.cell? ⟨w.heap.size, fieldNo (x.toNat : Int), none⟩ = some (.int .u64 u) := by
          unfold fieldNo
          rw [hu]
          by_cases h1 : x = 118
          · rw [if_pos h1, if_pos (by rw [h1]; rfl)]; exact r1
          · rw [if_neg h1, if_neg (fun h => h1 (by apply UInt8.toNat_inj.1; show x.toNat = 118; omega))]
            by_cases h2 : x = 97
            · rw [if_pos h2, if_pos (by rw [h2]; rfl)]; exact r2
            · rw [if_neg h2, if_neg (fun h => h2 (by apply UInt8.toNat_inj.1; show x.toNat = 97; omega))]; exact r3
        have hur : 0 ≤ u ∧ u < 18446744073709551616 := by
          obtain ⟨_, h2, h3, h4, _⟩ := Hin.out
          rw [hu]
          by_cases g1 : x = 118
          · rw [if_pos g1]; exact h2
          · rw [if_neg g1]
            by_cases g2 : x = 97
            · rw [if_pos g2]; exact h3
            · rw [if_neg g2]; exact h4
        have HC := Lib.hid (fmt_any u hur.1 hur.2 W1 HE1.out)
        have e1 : (⟨(Lib.decDigits u.toNat).toArray⟩ : ByteArray) = sh := by
          rw [Hsh.out, fieldOf, if_neg hd, hu]
        rw [e1] at HC
        clear e1 hur hu hd r0 r1 r2 r3 r4
        go_wp2_with (first | (go_at_call 36; refine (number_any _ _ _).mono ?_; rintro e w' ⟨rfl, rfl⟩) | (go_at_call 52; refine HC.out.mono ?_; rintro e W2 ⟨rfl, h2⟩; have H2 := Lib.hid h2; clear h2))
        go_roundw
        case rel => exact ⟨k + 1, S2, Hlt.out, rfl, Hend.out _ H2.out⟩
        case measure => have h1 := iterPos_of (Hend.out _ H2.out).2.1; have h3 := Hpos.out; have h4 := Hlt.out; rw [h1, h3]; exact Nat.sub_succ_lt_self _ _ h4
    · have hk' : k = L.size := by omega
      obtain ⟨e1, e2, e3, e4⟩ := HI.out
      have hnx : ∀ ty, (Instr.next (.pointer (some ⟨w.heap.size + 1, 0, none⟩)) true ty).run Tryz.prog wr = _ := fun ty => Lib.run_next_end_at wr (w.heap.size + 1) L k ty e2 (by omega)
      have HF : Hid (S = ⟨(toldOf s.data.toList ⟨c, v, a, n, d⟩ L.data.toList).toArray⟩) := by
        show _ = _
        rw [e1, List.take_of_length_le (by rw [← Lib.size_eq]; omega)]
      have H4 := Lib.hid e4
      clear e1 e2 e3 e4 hlt hk hk' HI
      go_wp2_with fail
      go_ret
      exact ⟨by rw [HF.out]; rfl, H4.out⟩
end Go.Proofs.YtakiinghipjopaaGreatDoor
