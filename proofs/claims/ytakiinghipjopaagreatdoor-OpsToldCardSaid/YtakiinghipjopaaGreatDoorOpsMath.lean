/-
  The texts of data and of operations in plain words, and what is read back of them.
-/
import Derived.Test.YtakiinghipjopaaGreatDoorRuns
import Derived.Lib.SplitLaws
import Derived.Lib.Join
import Derived.Lib.ItoaMem
import Derived.Lib.ParseIntB
import Derived.Lib.AtoiAll
namespace Go.Proofs.YtakiinghipjopaaGreatDoor
open Go.Lib (NumEnd decDigits itoa)

/-! ### cutting at one letter -/
theorem index_mid (c : UInt8) (t : List UInt8) : ∀ w : List UInt8, c ∉ w → Lib.index (w ++ c :: t) [c] = (w.length : Int)
  | [], _ => by simp [Lib.index, List.isPrefixOf]
  | b :: r, h => by
    have hb : c ≠ b := fun e => h (by simp [e])
    have ih := index_mid c t r (fun m => h (by simp [m]))
    have hp : ([c] : List UInt8).isPrefixOf (b :: (r ++ c :: t)) = false := by simp [List.isPrefixOf, hb]
    rw [List.cons_append, Lib.index, ih, hp, if_neg (by simp), if_neg (by simp), List.length_cons]
    omega
theorem index_no (c : UInt8) : ∀ w : List UInt8, c ∉ w → Lib.index w [c] = -1
  | [], _ => by simp [Lib.index]
  | b :: r, h => by
    have hb : c ≠ b := fun e => h (by simp [e])
    have hp : ([c] : List UInt8).isPrefixOf (b :: r) = false := by simp [List.isPrefixOf, hb]
    rw [Lib.index, index_no c r (fun m => h (by simp [m])), hp]
    simp
theorem split_cons (c : UInt8) (w t : List UInt8) (h : c ∉ w) : Lib.split (w ++ c :: t) [c] = w :: Lib.split t [c] := by
  have hi := index_mid c t w h
  have hd : (w ++ c :: t).drop (w.length + [c].length) = t := by simp
  have hc := Lib.count_hit (s := w ++ c :: t) (sub := [c]) (by simp) hi
  rw [hd, Nat.add_comm] at hc
  unfold Lib.split
  rw [hc, Lib.splitK, hi, if_neg (by simp)]
  have e : ((w.length : Nat) : Int).toNat = w.length := by omega
  rw [e, hd]
  simp
theorem split_one (c : UInt8) (w : List UInt8) (h : c ∉ w) : Lib.split w [c] = [w] := by
  unfold Lib.split
  rw [Lib.count_miss (index_no c w h)]
  rfl
theorem split_ne (s sep : List UInt8) : Lib.split s sep ≠ [] := by
  unfold Lib.split
  cases Lib.count s sep with
  | zero => simp [Lib.splitK]
  | succ k => unfold Lib.splitK; split <;> simp
theorem cut_mid (c : UInt8) (w t : List UInt8) (h : c ∉ w) : Lib.cut (w ++ c :: t) [c] = (w, t, true) := by
  have hi := index_mid c t w h
  unfold Lib.cut
  rw [hi, if_pos (by omega)]
  have e : ((w.length : Nat) : Int).toNat = w.length := by omega
  rw [e]
  simp
theorem cut_no (c : UInt8) (w : List UInt8) (h : c ∉ w) : Lib.cut w [c] = (w, [], false) := by
  unfold Lib.cut
  rw [index_no c w h]
  rfl
/-- words, each but the first one behind the letter -/
theorem split_words {α : Type} (c : UInt8) (f : α → List UInt8) : ∀ (ls : List α) (w : List UInt8), c ∉ w → (∀ x ∈ ls, c ∉ f x) → Lib.split (w ++ ls.flatMap fun x => c :: f x) [c] = w :: ls.map f
  | [], w, h, _ => by simpa using split_one c w h
  | x :: r, w, h, hf => by
    rw [List.flatMap_cons, List.cons_append, split_cons c w _ h, split_words c f r (f x) (hf x (by simp)) (fun y hy => hf y (by simp [hy]))]
    rfl
theorem join_words (c : UInt8) : ∀ (r : List (List UInt8)) (x : List UInt8), Lib.join (x :: r) [c] = x ++ r.flatMap fun y => c :: y
  | [], x => by rw [Lib.join_one]; simp
  | y :: r, x => by
    rw [Lib.join_cons]
    simp [Lib.joinTail, List.flatMap]

/-! ### numbers -/
theorem parseM_snoc (M : Nat) (c : UInt8) : ∀ (l : List UInt8) (acc a : Nat), Lib.parseUintM M acc l = .ok a → Lib.parseUintM M acc (l ++ [c]) = Lib.parseUintM M a [c]
  | [], acc, a, h => by simp [Lib.parseUintM] at h; subst h; rfl
  | x :: r, acc, a, h => by
    simp only [Lib.parseUintM] at h
    rw [List.cons_append, Lib.parseUintM]
    split at h
    · split at h
      · cases h
      · split at h
        · cases h
        · rename_i h1 h2 h3
          rw [if_pos h1, if_neg h2, if_neg h3]
          exact parseM_snoc M c r _ a h
    · cases h
theorem digit_of (k : Nat) (h : k < 10) : (UInt8.ofNat (48 + k)).toNat = 48 + k := by
  rw [UInt8.toNat_ofNat']; omega
theorem parseM_dec (M : Nat) (hM : M ≤ 18446744073709551615) (u : Nat) : u ≤ M → Lib.parseUintM M 0 (decDigits u) = .ok u := by
  induction u using Nat.strongRecOn with
  | _ u ih =>
    intro h
    by_cases h1 : u < 10
    · rw [Lib.decDigits_one h1]
      simp only [Lib.parseUintM, digit_of u h1]
      rw [if_pos (by omega), if_neg (by omega), if_neg (by omega)]
      congr 1
      omega
    · rw [decDigits, dif_neg h1, parseM_snoc M _ _ _ _ (ih (u / 10) (by omega) (by omega))]
      simp only [Lib.parseUintM, digit_of (u % 10) (by omega)]
      rw [if_pos (by omega), if_neg (by omega), if_neg (by omega)]
      congr 1
      omega
theorem dec_ne (u : Nat) : decDigits u ≠ [] := fun h => by
  have h1 := Lib.decDigits_length u
  have h2 := Lib.nDigits_pos u
  rw [h] at h1
  simp at h1
  omega
theorem dec_digits (u : Nat) : ∀ c ∈ decDigits u, 48 ≤ c.toNat ∧ c.toNat ≤ 57 := by
  induction u using Nat.strongRecOn with
  | _ u ih =>
    intro c hc
    by_cases h1 : u < 10
    · rw [Lib.decDigits_one h1, List.mem_singleton] at hc
      subst hc
      rw [digit_of u h1]
      omega
    · rw [decDigits, dif_neg h1, List.mem_append, List.mem_singleton] at hc
      rcases hc with hc | rfl
      · exact ih (u / 10) (by omega) c hc
      · rw [digit_of _ (by omega)]
        omega
theorem dec_notin (u : Nat) (c : UInt8) (h : c.toNat < 48 ∨ 57 < c.toNat) : c ∉ decDigits u := fun hc => by
  have := dec_digits u c hc
  omega
/-- the number beside whatever error -/
def numV (M : Nat) : NumEnd Nat → Nat
  | .ok v => v
  | .range => M
  | _ => 0
/-- how it ends where there is no number -/
def noNum : NumEnd Nat := Lib.parseUintB 64 []
theorem noNum_ok (v : Nat) : noNum ≠ .ok v := by unfold noNum Lib.parseUintB; simp
theorem noNum_v (M : Nat) : numV M noNum = 0 := rfl
def numI (s : List UInt8) : Int :=
  match Lib.atoiAll s with
  | .ok v => v
  | .range => Lib.atoiSat s
  | _ => 0
def u64Of (t : List UInt8) : Int := (numV 18446744073709551615 (Lib.parseUintB 64 t) : Nat)
def u8Of (t : List UInt8) : Int := (numV 255 (Lib.parseUintB 8 t) : Nat)
theorem u64_dec {n : Int} (h0 : 0 ≤ n) (h1 : n < 18446744073709551616) : u64Of (decDigits n.toNat) = n := by
  unfold u64Of Lib.parseUintB
  rw [if_neg (dec_ne _), parseM_dec _ (by decide) _ (by omega)]
  show ((n.toNat : Nat) : Int) = n
  omega
theorem u8_dec {n : Int} (h0 : 0 ≤ n) (h1 : n < 256) : u8Of (decDigits n.toNat) = n := by
  unfold u8Of Lib.parseUintB
  rw [if_neg (dec_ne _), parseM_dec _ (by decide) _ (by omega)]
  show ((n.toNat : Nat) : Int) = n
  omega
theorem p10_eq : ∀ (l : List UInt8) (acc : Nat), Lib.parseUint10 acc l = Lib.parseUintM 18446744073709551615 acc l
  | [], _ => rfl
  | c :: r, acc => by
    simp only [Lib.parseUint10, Lib.parseUintM, p10_eq r, ← Nat.succ_le_iff]
theorem numI_dec (n : Nat) (h : n < 9223372036854775808) : numI (decDigits n) = n := by
  have h1 : Lib.atoiAll (decDigits n) = .ok (n : Int) := by
    have hne := dec_ne n
    have hp := parseM_dec 18446744073709551615 (by decide) n (by omega)
    have hd := dec_digits n
    unfold Lib.atoiAll
    cases hq : decDigits n with
    | nil => exact absurd hq hne
    | cons c r =>
      have hc := hd c (by rw [hq]; simp)
      have e1 : ¬ (c.toNat = 43 ∨ c.toNat = 45) := by omega
      have e2 : ¬ c.toNat = 45 := by omega
      have hm : Lib.parseMag (c :: r) = .ok n := by
        unfold Lib.parseMag
        rw [if_neg (by simp), p10_eq, ← hq, hp]
      simp only [if_neg e1, hm]
      rw [if_neg (by omega), if_neg (by omega), if_neg e2]
  unfold numI
  rw [h1]

/-! ### hexadecimal -/
/-- a hexadecimal digit -/
def dig16 (c : UInt8) : Option Nat :=
  if 48 ≤ c.toNat ∧ c.toNat ≤ 57 then some (c.toNat - 48) else if 97 ≤ (c.toNat ||| 32) ∧ (c.toNat ||| 32) ≤ 102 then some ((c.toNat ||| 32) - 87) else none
def hexGo (acc : Nat) : List UInt8 → NumEnd Nat
  | [] => .ok acc
  | c :: r =>
    match dig16 c with
    | none => noNum
    | some d => if 255 < acc * 16 + d then .range else hexGo (acc * 16 + d) r
def hex8 (l : List UInt8) : NumEnd Nat := if l = [] then noNum else hexGo 0 l
/-- the number, and whether there is an error -/
def hexV (l : List UInt8) : Int := (numV 255 (hex8 l) : Nat)
def hexNo (l : List UInt8) : Bool := match hex8 l with
  | .ok _ => false
  | _ => true
def hexd (k : Nat) : UInt8 := if k < 10 then UInt8.ofNat (48 + k) else UInt8.ofNat (87 + k)
theorem hexd_fin : ∀ k : Fin 16, hexd k.val ≠ 120 ∧ hexd k.val ≠ 46 ∧ hexd k.val ≠ 32 := by decide +kernel
theorem hexd_ne {k : Nat} (h : k < 16) : hexd k ≠ 120 ∧ hexd k ≠ 46 ∧ hexd k ≠ 32 := hexd_fin ⟨k, h⟩
theorem hex_fin : ∀ x : Fin 256, hex8 [hexd (x.val / 16), hexd (x.val % 16)] = .ok x.val := by decide +kernel

/-! ### data -/
def runTxt (p : Int × Nat) : List UInt8 := [hexd (p.1.toNat / 16), hexd (p.1.toNat % 16)] ++ (if 1 < p.2 then 120 :: decDigits p.2 else [])
def shownOf (bs : List Int) : List UInt8 := if bs = [] then [45] else Lib.join ((runsOf bs).map runTxt) [46]
theorem runsN_mem : ∀ (f : Nat) (l : List Int) (p : Int × Nat), p ∈ runsN f l → p.1 ∈ l ∧ 1 ≤ p.2 ∧ p.2 ≤ l.length
  | 0, _, _, h => by simp [runsN] at h
  | _ + 1, [], _, h => by simp [runsN] at h
  | f + 1, x :: r, p, h => by
    simp only [runsN, List.mem_cons] at h
    rcases h with rfl | h
    · have := spanL_le x r
      simp; omega
    · obtain ⟨h1, h2, h3⟩ := runsN_mem f _ p h
      refine ⟨List.mem_cons_of_mem _ (List.mem_of_mem_drop h1), h2, ?_⟩
      simp at h3 ⊢
      omega
theorem runs_mem {l : List Int} {p : Int × Nat} (h : p ∈ runsOf l) : p.1 ∈ l ∧ 1 ≤ p.2 ∧ p.2 ≤ l.length := runsN_mem _ _ _ h
theorem span_take (x : Int) : ∀ r : List Int, List.replicate (spanL x r) x ++ r.drop (spanL x r) = r
  | [] => rfl
  | y :: r => by
    by_cases h : y = x
    · subst h
      simp [spanL, List.replicate_succ, span_take y r]
    · simp [spanL, h]
theorem runsN_flat : ∀ (f : Nat) (l : List Int), l.length ≤ f → ((runsN f l).flatMap fun p => List.replicate p.2 p.1) = l
  | 0, [], _ => rfl
  | _ + 1, [], _ => rfl
  | f + 1, x :: r, h => by
    rw [runsN, List.flatMap_cons, runsN_flat f _ (by simp at h ⊢; omega)]
    simp [List.replicate_succ, span_take x r]
theorem runs_flat (l : List Int) : ((runsOf l).flatMap fun p => List.replicate p.2 p.1) = l := runsN_flat _ _ (Nat.le_refl _)
theorem runs_ne {l : List Int} (h : l ≠ []) : runsOf l ≠ [] := by
  intro e
  have := runs_flat l
  rw [e] at this
  exact h this.symm
theorem runTxt_notin (c : UInt8) (hc : c.toNat < 48 ∨ 57 < c.toNat) (p : Int × Nat) (hb : IsByte p.1) (h1 : c ≠ 120) (h2 : ∀ k, k < 16 → hexd k ≠ c) : c ∉ runTxt p := by
  have g1 := h2 (p.1.toNat / 16) (by have := hb.2; have := hb.1; omega)
  have g2 := h2 (p.1.toNat % 16) (by omega)
  have g3 := dec_notin p.2 c hc
  unfold runTxt
  intro hm
  rcases List.mem_append.1 hm with hm | hm
  · simp at hm
    rcases hm with e | e
    · exact g1 e.symm
    · exact g2 e.symm
  · split at hm
    · rcases List.mem_cons.1 hm with e | e
      · exact h1 e
      · exact g3 e
    · simp at hm
/-- what is taken of one run; none: it is no run -/
def takenRun (run : List UInt8) : Option (List Int) :=
  if hexNo (Lib.cut run [120]).1 = true ∨ (if (Lib.cut run [120]).2.2 = true then numI (Lib.cut run [120]).2.1 else 1) < 1 ∨ 255 < (if (Lib.cut run [120]).2.2 = true then numI (Lib.cut run [120]).2.1 else 1) then none
  else some (List.replicate (if (Lib.cut run [120]).2.2 = true then numI (Lib.cut run [120]).2.1 else 1).toNat (hexV (Lib.cut run [120]).1))
def takenGo : List (List UInt8) → Option (List Int)
  | [] => some []
  | run :: r => match takenRun run with
    | none => none
    | some a => match takenGo r with
      | none => none
      | some b => some (a ++ b)
def takenOf (s : List UInt8) : List Int := (takenGo (Lib.split s [46])).getD []
theorem takenRun_txt (p : Int × Nat) (hb : IsByte p.1) (h1 : 1 ≤ p.2) (h2 : p.2 ≤ 255) : takenRun (runTxt p) = some (List.replicate p.2 p.1) := by
  obtain ⟨x, n⟩ := p
  simp only at hb h1 h2 ⊢
  obtain ⟨k, rfl⟩ : ∃ k : Nat, x = k := ⟨x.toNat, by have := hb.1; omega⟩
  have hk : k < 256 := by have := hb.2; omega
  have hx : hex8 [hexd (k / 16), hexd (k % 16)] = .ok k := hex_fin ⟨k, hk⟩
  have hv : hexV [hexd (k / 16), hexd (k % 16)] = k := by unfold hexV; rw [hx]; rfl
  have hn : hexNo [hexd (k / 16), hexd (k % 16)] = false := by unfold hexNo; rw [hx]
  have g1 := (hexd_ne (k := k / 16) (by omega)).1
  have g2 := (hexd_ne (k := k % 16) (by omega)).1
  have hno : (120 : UInt8) ∉ [hexd (k / 16), hexd (k % 16)] := by simp [Ne.symm g1, Ne.symm g2]
  unfold takenRun runTxt
  simp only [Int.toNat_natCast]
  by_cases h : 1 < n
  · rw [if_pos h, cut_mid 120 _ _ hno]
    simp only [if_true, hn, hv, numI_dec n (by omega)]
    rw [if_neg (by simp; omega)]
    simp
  · have : n = 1 := by omega
    subst this
    rw [if_neg h, List.append_nil, cut_no 120 _ hno]
    simp [hn, hv]
theorem takenGo_txt : ∀ rs : List (Int × Nat), (∀ p ∈ rs, IsByte p.1 ∧ 1 ≤ p.2 ∧ p.2 ≤ 255) → takenGo (rs.map runTxt) = some (rs.flatMap fun p => List.replicate p.2 p.1)
  | [], _ => rfl
  | p :: r, h => by
    obtain ⟨h1, h2, h3⟩ := h p (by simp)
    rw [List.map_cons, takenGo, takenRun_txt p h1 h2 h3, takenGo_txt r (fun q hq => h q (by simp [hq]))]
    rfl
theorem taken_shown (d : List Int) (hb : ∀ x ∈ d, IsByte x) (hl : d.length ≤ 255) : takenOf (shownOf d) = d := by
  by_cases hd : d = []
  · subst hd
    decide +kernel
  · have hr := runs_ne hd
    have hm : ∀ p ∈ runsOf d, IsByte p.1 ∧ 1 ≤ p.2 ∧ p.2 ≤ 255 := fun p hp => by
      obtain ⟨h1, h2, h3⟩ := runs_mem hp
      exact ⟨hb _ h1, h2, by omega⟩
    have hdot : ∀ p ∈ runsOf d, (46 : UInt8) ∉ runTxt p := fun p hp => runTxt_notin 46 (by decide) p (hm p hp).1 (by decide) (fun k hk => (hexd_ne hk).2.1)
    unfold takenOf shownOf
    rw [if_neg hd]
    have hs : Lib.split (Lib.join ((runsOf d).map runTxt) [46]) [46] = (runsOf d).map runTxt := by
      cases hq : runsOf d with
      | nil => exact absurd hq hr
      | cons p r =>
        rw [hq] at hdot
        rw [List.map_cons, join_words]
        have := split_words 46 id (r.map runTxt) (runTxt p) (hdot p (by simp)) (fun x hx => by
          obtain ⟨q, hq2, rfl⟩ := List.mem_map.1 hx
          exact hdot q (by simp [hq2]))
        simpa using this
    rw [hs, takenGo_txt _ hm, runs_flat]
    rfl
theorem shown_notin (d : List Int) (hb : ∀ x ∈ d, IsByte x) : (32 : UInt8) ∉ shownOf d := by
  unfold shownOf
  split
  · decide
  · have hm : ∀ p ∈ runsOf d, (32 : UInt8) ∉ runTxt p := fun p hp => runTxt_notin 32 (by decide) p (hb _ (runs_mem hp).1) (by decide) (fun k hk => (hexd_ne hk).2.2)
    cases hq : runsOf d with
    | nil => simp [Lib.join_nil]
    | cons p r =>
      rw [hq] at hm
      rw [List.map_cons, join_words]
      intro h
      rcases List.mem_append.1 h with h | h
      · exact hm p (by simp) h
      · obtain ⟨x, hx, hxx⟩ := List.mem_flatMap.1 h
        obtain ⟨q, hq2, rfl⟩ := List.mem_map.1 hx
        rcases List.mem_cons.1 hxx with e | e
        · exact absurd e (by decide)
        · exact hm q (by simp [hq2]) e

/-! ### operations -/
def fieldOf (o : OpV) (x : UInt8) : List UInt8 := if x = 100 then shownOf o.data else decDigits (if x = 118 then o.vol else if x = 97 then o.at_ else o.n).toNat
def toldOf (s : List UInt8) (o : OpV) (ls : List UInt8) : List UInt8 := s ++ ls.flatMap fun x => 32 :: fieldOf o x
/-- the words, each with the letters of what stands behind it -/
def wordsL : List (List UInt8 × List UInt8) := [([109, 97, 107, 101], []), ([100, 114, 111, 112], [118]), ([115, 110, 97, 112], [118]), ([114, 101, 97, 100], [118, 97]), ([119, 114, 105, 116, 101], [118, 97, 100]), ([116, 114, 105, 109], [118, 97, 110]), ([99, 111, 109, 109, 105, 116], []), ([115, 99, 114, 117, 98], []), ([115, 116, 97, 116, 117, 115], [])]
def wordsF : List (List UInt8) := wordsL.map fun p => p.1 ++ 47 :: p.2
def wordOf (code : Int) : List UInt8 × List UInt8 := if code < 1 ∨ 9 < code then ([], []) else wordsL.getD (code.toNat - 1) ([], [])
def plainOf (o : OpV) : Bool :=
  !(wordOf o.code).1.isEmpty && ((wordOf o.code).2.contains 100 || o.data.isEmpty) && ((wordOf o.code).2.contains 118 || decide (o.vol = 0)) && ((wordOf o.code).2.contains 97 || decide (o.at_ = 0)) && ((wordOf o.code).2.contains 110 || decide (o.n = 0))
def textOf (o : OpV) : List UInt8 := if plainOf o = true then toldOf (wordOf o.code).1 o (wordOf o.code).2 else toldOf ([111, 112, 32] ++ decDigits o.code.toNat) o [118, 97, 110, 100]
def textR (o : OpV) : List UInt8 × Int := if 255 < o.data.length then ([], 3) else (textOf o, 0)
def firstI (q : List UInt8 → Bool) : Nat → List (List UInt8) → Int
  | _, [] => -1
  | k, x :: r => if q x then (k : Int) else firstI q (k + 1) r
def codeOf (w : List UInt8) : Int := 1 + firstI (fun f => Lib.hasPrefix f (w ++ [47])) 0 wordsF
def setF (o : OpV) (x : UInt8) (t : List UInt8) : OpV := if x = 100 then { o with data := takenOf t } else if x = 118 then { o with vol := u64Of t } else if x = 97 then { o with at_ := u64Of t } else { o with n := u64Of t }
def parseGo : OpV → List UInt8 → List (List UInt8) → Option OpV
  | o, [], _ => some o
  | _, _ :: _, [] => none
  | o, x :: ls, t :: ts => parseGo (setF o x t) ls ts
def op0 : OpV := ⟨0, 0, 0, 0, []⟩
def parseL : List (List UInt8) → Option OpV
  | [] => none
  | w :: ts => if w = [111, 112] ∧ ts ≠ [] then parseGo { op0 with code := u8Of (ts.headD []) } [118, 97, 110, 100] ts.tail else parseGo { op0 with code := codeOf w } (wordOf (codeOf w)).2 ts
def parse0 (s : List UInt8) : Option OpV := parseL (Lib.split s [32])
def parseR (s : List UInt8) : OpV × Int := match parse0 s with
  | none => (op0, 270)
  | some o => if textR o = (s, 0) then (o, 0) else (op0, 270)
/-- an operation whose fields are in their ranges -/
def OpIn (o : OpV) : Prop := IsByte o.code ∧ IsU64 o.vol ∧ IsU64 o.at_ ∧ IsU64 o.n ∧ ∀ x ∈ o.data, IsByte x
theorem field_notin (o : OpV) (hi : OpIn o) (x : UInt8) : (32 : UInt8) ∉ fieldOf o x := by
  unfold fieldOf
  split
  · exact shown_notin _ hi.2.2.2.2
  · exact dec_notin _ _ (by decide)
theorem told_split (o : OpV) (hi : OpIn o) (w : List UInt8) (hw : (32 : UInt8) ∉ w) (ls : List UInt8) : Lib.split (toldOf w o ls) [32] = w :: ls.map (fieldOf o) :=
  split_words 32 (fieldOf o) ls w hw (fun x _ => field_notin o hi x)
def copyF (o p : OpV) (x : UInt8) : OpV := if x = 100 then { p with data := o.data } else if x = 118 then { p with vol := o.vol } else if x = 97 then { p with at_ := o.at_ } else { p with n := o.n }
theorem setF_field (o : OpV) (hi : OpIn o) (hl : o.data.length ≤ 255) (p : OpV) (x : UInt8) : setF p x (fieldOf o x) = copyF o p x := by
  obtain ⟨h1, h2, h3, h4, h5⟩ := hi
  unfold setF fieldOf copyF
  by_cases e1 : x = 100
  · rw [if_pos e1, if_pos e1, if_pos e1, taken_shown _ h5 hl]
  · rw [if_neg e1, if_neg e1, if_neg e1]
    by_cases e2 : x = 118
    · rw [if_pos e2, if_pos e2, if_pos e2, u64_dec h2.1 h2.2]
    · rw [if_neg e2, if_neg e2, if_neg e2]
      by_cases e3 : x = 97
      · rw [if_pos e3, if_pos e3, if_pos e3, u64_dec h3.1 h3.2]
      · rw [if_neg e3, if_neg e3, if_neg e3, u64_dec h4.1 h4.2]
theorem parseGo_fields (o : OpV) (hi : OpIn o) (hl : o.data.length ≤ 255) : ∀ (L : List UInt8) (p : OpV), parseGo p L (L.map (fieldOf o)) = some (L.foldl (copyF o) p)
  | [], _ => rfl
  | x :: r, p => by
    rw [List.map_cons, parseGo, setF_field o hi hl, parseGo_fields o hi hl r]
    rfl
theorem code_word : ∀ c : Fin 10, 1 ≤ c.val → codeOf (wordOf c.val).1 = c.val ∧ (32 : UInt8) ∉ (wordOf c.val).1 ∧ (wordOf c.val).1 ≠ [111, 112] := by decide +kernel
theorem word_none {c : Int} (h : c < 1 ∨ 9 < c) : wordOf c = ([], []) := by unfold wordOf; rw [if_pos h]
theorem plain_code {o : OpV} (hp : plainOf o = true) : 1 ≤ o.code ∧ o.code ≤ 9 := by
  by_cases h : o.code < 1 ∨ 9 < o.code
  · unfold plainOf at hp
    rw [word_none h] at hp
    simp at hp
  · omega
theorem parse_text (o : OpV) (hi : OpIn o) (hl : o.data.length ≤ 255) : parse0 (textOf o) = some o := by
  unfold parse0 textOf
  by_cases hp : plainOf o = true
  · rw [if_pos hp]
    obtain ⟨g1, g2⟩ := plain_code hp
    obtain ⟨k, hk⟩ : ∃ k : Nat, o.code = k := ⟨o.code.toNat, by omega⟩
    obtain ⟨c1, c2, c3⟩ := code_word ⟨k, by omega⟩ (by show 1 ≤ k; omega)
    simp only at c1 c2 c3
    rw [hk, told_split o hi _ c2]
    simp only [parseL]
    rw [if_neg (fun h => c3 h.1), c1, parseGo_fields o hi hl]
    unfold plainOf at hp
    obtain ⟨c, v, a, n, d⟩ := o
    simp only at hk hp g1 g2 ⊢
    subst hk
    have hc : k = 1 ∨ k = 2 ∨ k = 3 ∨ k = 4 ∨ k = 5 ∨ k = 6 ∨ k = 7 ∨ k = 8 ∨ k = 9 := by omega
    rcases hc with rfl | rfl | rfl | rfl | rfl | rfl | rfl | rfl | rfl <;> simp [wordOf, wordsL] at hp <;> simp [wordOf, wordsL, copyF, op0, hp]
  · rw [if_neg hp]
    have e : toldOf ([111, 112, 32] ++ decDigits o.code.toNat) o [118, 97, 110, 100] = [111, 112] ++ 32 :: (toldOf (decDigits o.code.toNat) o [118, 97, 110, 100]) := by simp [toldOf]
    rw [e, split_cons 32 _ _ (by decide), told_split o hi _ (dec_notin _ _ (by decide))]
    simp only [parseL]
    rw [if_pos ⟨trivial, by simp⟩, List.headD_cons, List.tail_cons, u8_dec hi.1.1 hi.1.2, parseGo_fields o hi hl]
    simp [copyF, op0]
theorem text_inj {a b : OpV} (ha : OpIn a) (hb : OpIn b) (la : a.data.length ≤ 255) (lb : b.data.length ≤ 255) (h : textOf a = textOf b) : a = b := by
  have h1 := parse_text a ha la
  rw [h, parse_text b hb lb] at h1
  exact (Option.some.inj h1).symm
theorem parseR_text {o : OpV} (hi : OpIn o) (hl : o.data.length ≤ 255) : parseR (textOf o) = (o, 0) := by
  have ht : textR o = (textOf o, 0) := by unfold textR; rw [if_neg (by omega)]
  unfold parseR
  rw [parse_text o hi hl]
  simp only
  rw [if_pos ht]
end Go.Proofs.YtakiinghipjopaaGreatDoor
