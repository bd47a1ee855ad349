/-
  The reference of layer 27: what its parser takes from a line is the operation whose line it is.
-/
import Derived.Test.YtakiinghipjopaaGreatDoorRefG27
namespace Go.Proofs.YtakiinghipjopaaGreatDoor
open Go.RowKit Go.Shelf

/-! ### what may stand there -/
def putV (s : List UInt8) (b : Bool) (x : OpV × Nat) : OpV × Nat := if b && decide (x.2 ≤ s.length) then ({ x.1 with vol := valR (rdW s x.2).1 }, (rdW s x.2).2) else x
def putA (s : List UInt8) (b : Bool) (x : OpV × Nat) : OpV × Nat := if b && decide (x.2 ≤ s.length) then ({ x.1 with at_ := valR (rdW s x.2).1 }, (rdW s x.2).2) else x
def putN (s : List UInt8) (b : Bool) (x : OpV × Nat) : OpV × Nat := if b && decide (x.2 ≤ s.length) then ({ x.1 with n := valR (rdW s x.2).1 }, (rdW s x.2).2) else x
def putD (s : List UInt8) (b : Bool) (x : OpV × Nat) : OpV × Nat := if b && decide (x.2 ≤ s.length) then ({ x.1 with data := rbytes (rdW s x.2).1 }, (rdW s x.2).2) else x
/-- the last code of that word; 0: there is none -/
def wcode (w : List UInt8) : Nat → Int
  | 0 => 0
  | k + 1 => if (wordOf (k + 1 : Nat)).1 = w then ((k + 1 : Nat) : Int) else wcode w k
def isOp (s : List UInt8) : Bool := decide ((rdW s 0).1 = [111, 112])
def cod0 (s : List UInt8) : Int := if isOp s then valR (rdW s (rdW s 0).2).1 % 256 else wcode (rdW s 0).1 9
def at0 (s : List UInt8) : Nat := if isOp s then (rdW s (rdW s 0).2).2 else (rdW s 0).2
def nV (s : List UInt8) : Bool := isOp s || namesV (cod0 s)
def nA (s : List UInt8) : Bool := isOp s || namesA (cod0 s)
def nN (s : List UInt8) : Bool := isOp s || namesN (cod0 s)
def nD (s : List UInt8) : Bool := isOp s || namesD (cod0 s)
def candR (s : List UInt8) : OpV := (putD s (nD s) (putN s (nN s) (putA s (nA s) (putV s (nV s) (⟨cod0 s, 0, 0, 0, []⟩, at0 s))))).1

/-! ### numbers and data are taken back -/
theorem valR_dec : ∀ u : Nat, u < 18446744073709551616 → valR (Lib.decDigits u) = u := by
  intro u
  induction u using Nat.strongRecOn with
  | ind u ih =>
    intro hu
    have hd : ∀ k, k < 10 → ((UInt8.ofNat (48 + k)).toNat % 16 : Nat) = k := fun k hk => by
      rw [digit_of k hk]; omega
    by_cases h : u < 10
    · rw [dec_one u h]
      have := valR_snoc [] (UInt8.ofNat (48 + u))
      rw [List.nil_append] at this
      rw [this, hd u h]
      have e : valR [] = 0 := rfl
      rw [e]
      omega
    · rw [dec_last u (by omega), valR_snoc, ih (u / 10) (by omega) (by omega), hd (u % 10) (by omega)]
      omega
theorem nib_hexd : ∀ k : Fin 16, nib (hexd k.val) = k.val := by decide +kernel
theorem xR_hex (x : Int) (hx : IsByte x) : xR (hexd (x.toNat / 16)) (hexd (x.toNat % 16)) = x := by
  obtain ⟨h0, h1⟩ := hx
  have e1 := nib_hexd ⟨x.toNat / 16, by omega⟩
  have e2 := nib_hexd ⟨x.toNat % 16, by omega⟩
  simp only at e1 e2
  unfold xR
  rw [e1, e2]
  omega
theorem tw_app (p : UInt8 → Bool) (a t : List UInt8) (ha : ∀ c ∈ a, p c = true) (ht : t = [] ∨ ∃ c r, t = c :: r ∧ p c = false) : (a ++ t).takeWhile p = a ∧ (a ++ t).dropWhile p = t := by
  induction a with
  | nil =>
    rcases ht with rfl | ⟨c, r, rfl, hc⟩
    · exact ⟨rfl, rfl⟩
    · simp [hc]
  | cons x a ih =>
    have h1 := ha x (by simp)
    have h2 := ih (fun c hc => ha c (by simp [hc]))
    simp [h1, h2.1, h2.2]
theorem headR_run (n : Nat) (hn : 1 ≤ n) (hm : n < 100000) (t : List UInt8) (ht : t = [] ∨ ∃ r, t = 46 :: r) : headR ((if 1 < n then 120 :: Lib.decDigits n else []) ++ t) = ((n : Int), t) := by
  by_cases h : 1 < n
  · rw [if_pos h]
    have h2 := tw_app (· != 46) (Lib.decDigits n) t (fun c hc => by
      have := dec_digits n c hc
      refine bne_iff_ne.2 (fun e => ?_)
      rw [e] at this
      exact absurd this.1 (by decide)) (by
      rcases ht with rfl | ⟨r, rfl⟩
      · exact .inl rfl
      · exact .inr ⟨46, r, rfl, rfl⟩)
    have e : headR (120 :: (Lib.decDigits n ++ t)) = (valR ((Lib.decDigits n ++ t).takeWhile (· != 46)), (Lib.decDigits n ++ t).dropWhile (· != 46)) := rfl
    rw [List.cons_append, e, h2.1, h2.2, valR_dec n (by omega)]
  · rw [if_neg h, List.nil_append]
    have : n = 1 := by omega
    subst this
    rcases ht with rfl | ⟨r, rfl⟩
    · rfl
    · rfl
theorem rbGo_runs : ∀ (rs : List (Int × Nat)) (p : Int × Nat) (f : Nat) (acc : List Int), (∀ q ∈ p :: rs, IsByte q.1 ∧ 1 ≤ q.2) → rs.length < f → acc.length + ((p :: rs).flatMap fun q => List.replicate q.2 q.1).length ≤ 255 →
    rbGo f (runTxt p ++ rs.flatMap fun q => 46 :: runTxt q) acc = acc ++ (p :: rs).flatMap fun q => List.replicate q.2 q.1 := by
  intro rs
  induction rs with
  | nil =>
    intro p f acc hb hf hl
    obtain ⟨hx, hn⟩ := hb p (by simp)
    obtain ⟨f', rfl⟩ : ∃ g, f = g + 1 := ⟨f - 1, by simp at hf; omega⟩
    simp only [List.flatMap_cons, List.flatMap_nil, List.append_nil, List.length_replicate] at hl ⊢
    unfold runTxt
    simp only [List.cons_append, List.nil_append]
    rw [rbGo, if_pos (by omega)]
    have h := headR_run p.2 hn (by omega) [] (.inl rfl)
    rw [List.append_nil] at h
    rw [h, xR_hex p.1 hx]
    simp only [Int.toNat_natCast, List.drop_nil]
    rw [rbGo_stop _ _ _ (.inl (by simp)), Nat.min_eq_left (by omega)]
  | cons q rs ih =>
    intro p f acc hb hf hl
    obtain ⟨hx, hn⟩ := hb p (by simp)
    obtain ⟨f', rfl⟩ : ∃ g, f = g + 1 := ⟨f - 1, by simp at hf; omega⟩
    rw [List.flatMap_cons, List.length_append, List.length_replicate] at hl
    have hq := ih q f' (acc ++ List.replicate p.2 p.1) (fun x hx => hb x (List.mem_cons_of_mem _ hx)) (by simp at hf; omega) (by rw [List.length_append, List.length_replicate]; omega)
    have e : (runTxt p ++ (q :: rs).flatMap fun q => 46 :: runTxt q) = hexd (p.1.toNat / 16) :: hexd (p.1.toNat % 16) :: ((if 1 < p.2 then 120 :: Lib.decDigits p.2 else []) ++ 46 :: (runTxt q ++ rs.flatMap fun q => 46 :: runTxt q)) := by
      rw [List.flatMap_cons]
      have e2 : runTxt p = hexd (p.1.toNat / 16) :: hexd (p.1.toNat % 16) :: (if 1 < p.2 then 120 :: Lib.decDigits p.2 else []) := rfl
      rw [e2]
      simp
    rw [e, rbGo, if_pos (by omega), headR_run p.2 hn (by omega) _ (.inr ⟨_, rfl⟩), xR_hex p.1 hx]
    simp only [Int.toNat_natCast, List.drop_succ_cons, List.drop_zero]
    rw [Nat.min_eq_left (by omega), hq]
    simp
theorem flat_ge : ∀ r : List (Int × Nat), r.length ≤ (r.flatMap fun q => 46 :: runTxt q).length
  | [] => by simp
  | x :: r => by
    have := flat_ge r
    rw [List.flatMap_cons, List.length_append, List.length_cons, List.length_cons]
    omega
theorem rbytes_shown (d : List Int) (hb : ∀ x ∈ d, IsByte x) (hl : d.length ≤ 255) : rbytes (shownOf d) = d := by
  by_cases hd : d = []
  · subst hd; decide +kernel
  · have hr := runs_ne hd
    have hf := runs_flat d
    unfold rbytes
    cases hq : runsOf d with
    | nil => exact absurd hq hr
    | cons p r =>
      have hm : ∀ q ∈ p :: r, IsByte q.1 ∧ 1 ≤ q.2 := fun q hq' => by
        rw [← hq] at hq'
        obtain ⟨h1, h2, _⟩ := runs_mem hq'
        exact ⟨hb _ h1, h2⟩
      have e : shownOf d = runTxt p ++ r.flatMap fun q => 46 :: runTxt q := by
        unfold shownOf
        rw [if_neg hd, hq, List.map_cons, join_words, List.flatMap_map]
      have hlen : 2 ≤ (runTxt p).length := by unfold runTxt; simp
      rw [if_neg (fun h => by rw [e] at h; have := congrArg List.length h; rw [List.length_append] at this; simp at this; omega), e]
      rw [hq] at hf
      rw [rbGo_runs r p _ [] hm (by
        have h1 := runs_count d
        rw [hq] at h1
        have h2 : r.length ≤ (r.flatMap fun q => 46 :: runTxt q).length := by
          exact flat_ge r
        rw [List.length_append]; omega) (by rw [hf]; simpa using hl), List.nil_append, hf]

/-! ### fields -/
def At (s : List UInt8) (a : Nat) : List (List UInt8) → Prop
  | [] => a = s.length + 1
  | f :: fs => a ≤ s.length ∧ s.drop a = f ++ fs.flatMap fun x => 32 :: x
theorem At.read {s : List UInt8} {a : Nat} {f : List UInt8} {fs : List (List UInt8)} (h : At s a (f :: fs)) (hf : (32 : UInt8) ∉ f) : (rdW s a).1 = f ∧ At s (rdW s a).2 fs ∧ a ≤ s.length := by
  obtain ⟨h1, h2⟩ := h
  have hl : (s.drop a).length = s.length - a := List.length_drop
  have ht := tw_app (· != 32) f (fs.flatMap fun x => 32 :: x) (fun c hc => bne_iff_ne.2 (fun e => hf (e ▸ hc))) (by
    cases fs with
    | nil => exact .inl rfl
    | cons x r => exact .inr ⟨32, x ++ r.flatMap fun x => 32 :: x, by simp, rfl⟩)
  have e : rdW s a = (f, a + f.length + 1) := by
    unfold rdW
    rw [if_neg (by omega), h2, ht.1]
  rw [e]
  refine ⟨rfl, ?_, h1⟩
  cases fs with
  | nil =>
    rw [h2] at hl
    simp only [List.flatMap_nil, List.append_nil] at hl
    show a + f.length + 1 = s.length + 1
    omega
  | cons x r =>
    have h3 := congrArg List.length h2
    rw [hl, List.length_append, List.flatMap_cons, List.length_append, List.length_cons] at h3
    refine ⟨?_, ?_⟩
    · show a + f.length + 1 ≤ s.length
      omega
    · show s.drop (a + f.length + 1) = _
      rw [show a + f.length + 1 = a + (f.length + 1) by omega, ← List.drop_drop, h2, ← List.drop_drop, List.drop_left, List.flatMap_cons]
      rfl
theorem putV_yes {s : List UInt8} {o : OpV} {a : Nat} {v : Int} {fs : List (List UInt8)} (hv : IsU64 v) (h : At s a (Lib.decDigits v.toNat :: fs)) : ∃ a', putV s true (o, a) = ({ o with vol := v }, a') ∧ At s a' fs := by
  obtain ⟨h1, h2, h3⟩ := h.read (dec_notin _ _ (by decide))
  refine ⟨_, ?_, h2⟩
  unfold putV
  rw [if_pos (by simp [h3]), h1, valR_dec _ (by have := hv.1; have := hv.2; omega)]
  have := hv.1
  rw [Int.toNat_of_nonneg this]
theorem putA_yes {s : List UInt8} {o : OpV} {a : Nat} {v : Int} {fs : List (List UInt8)} (hv : IsU64 v) (h : At s a (Lib.decDigits v.toNat :: fs)) : ∃ a', putA s true (o, a) = ({ o with at_ := v }, a') ∧ At s a' fs := by
  obtain ⟨h1, h2, h3⟩ := h.read (dec_notin _ _ (by decide))
  refine ⟨_, ?_, h2⟩
  unfold putA
  rw [if_pos (by simp [h3]), h1, valR_dec _ (by have := hv.1; have := hv.2; omega)]
  have := hv.1
  rw [Int.toNat_of_nonneg this]
theorem putN_yes {s : List UInt8} {o : OpV} {a : Nat} {v : Int} {fs : List (List UInt8)} (hv : IsU64 v) (h : At s a (Lib.decDigits v.toNat :: fs)) : ∃ a', putN s true (o, a) = ({ o with n := v }, a') ∧ At s a' fs := by
  obtain ⟨h1, h2, h3⟩ := h.read (dec_notin _ _ (by decide))
  refine ⟨_, ?_, h2⟩
  unfold putN
  rw [if_pos (by simp [h3]), h1, valR_dec _ (by have := hv.1; have := hv.2; omega)]
  have := hv.1
  rw [Int.toNat_of_nonneg this]
theorem putD_yes {s : List UInt8} {o : OpV} {a : Nat} {d : List Int} {fs : List (List UInt8)} (hb : ∀ x ∈ d, IsByte x) (hl : d.length ≤ 255) (h : At s a (shownOf d :: fs)) : ∃ a', putD s true (o, a) = ({ o with data := d }, a') ∧ At s a' fs := by
  obtain ⟨h1, h2, h3⟩ := h.read (shown_notin d hb)
  refine ⟨_, ?_, h2⟩
  unfold putD
  rw [if_pos (by simp [h3]), h1, rbytes_shown d hb hl]
theorem putV_no (s : List UInt8) (x : OpV × Nat) : putV s false x = x := by unfold putV; simp
theorem putA_no (s : List UInt8) (x : OpV × Nat) : putA s false x = x := by unfold putA; simp
theorem putN_no (s : List UInt8) (x : OpV × Nat) : putN s false x = x := by unfold putN; simp
theorem putD_no (s : List UInt8) (x : OpV × Nat) : putD s false x = x := by unfold putD; simp
theorem wcode_word : ∀ c : Fin 10, 1 ≤ c.val → wcode (wordOf c.val).1 9 = c.val := by decide +kernel
theorem told_at (w : List UInt8) (o : OpV) (ls : List UInt8) : At (toldOf w o ls) 0 (w :: ls.map (fieldOf o)) := by
  refine ⟨Nat.zero_le _, ?_⟩
  rw [List.drop_zero]
  unfold toldOf
  rw [List.flatMap_map]
theorem cand_op (o : OpV) (hi : OpIn o) (hl : o.data.length ≤ 255) (h : ¬ plainOf o = true) : candR (textOf o) = o := by
  obtain ⟨s, hs⟩ : ∃ s, s = textOf o := ⟨_, rfl⟩
  have h0 : At s 0 ([111, 112] :: Lib.decDigits o.code.toNat :: Lib.decDigits o.vol.toNat :: Lib.decDigits o.at_.toNat :: Lib.decDigits o.n.toNat :: [shownOf o.data]) := by
    refine ⟨Nat.zero_le _, ?_⟩
    rw [List.drop_zero, hs]
    unfold textOf
    rw [if_neg h]
    simp [toldOf, fieldOf]
  obtain ⟨a1, a2, _⟩ := h0.read (by decide)
  obtain ⟨b1, b2, _⟩ := a2.read (dec_notin _ _ (by decide))
  have e0 : isOp s = true := by unfold isOp; rw [a1]; rfl
  have e1 : cod0 s = o.code := by
    unfold cod0
    rw [if_pos e0, b1, valR_dec _ (by have := hi.1.1; have := hi.1.2; omega)]
    have := hi.1.1
    have := hi.1.2
    omega
  have e2 : at0 s = (rdW s (rdW s 0).2).2 := by unfold at0; rw [if_pos e0]
  rw [← hs]
  unfold candR nV nA nN nD
  rw [e0, e1, e2]
  simp only [Bool.true_or]
  obtain ⟨c1, c2, c3⟩ := putV_yes (o := ⟨o.code, 0, 0, 0, []⟩) hi.2.1 b2
  rw [c2]
  obtain ⟨d1, d2, d3⟩ := putA_yes (o := { (⟨o.code, 0, 0, 0, []⟩ : OpV) with vol := o.vol }) hi.2.2.1 c3
  rw [d2]
  obtain ⟨f1, f2, f3⟩ := putN_yes (o := { ({ (⟨o.code, 0, 0, 0, []⟩ : OpV) with vol := o.vol } : OpV) with at_ := o.at_ }) hi.2.2.2.1 d3
  rw [f2]
  obtain ⟨g1, g2, _⟩ := putD_yes (o := { ({ ({ (⟨o.code, 0, 0, 0, []⟩ : OpV) with vol := o.vol } : OpV) with at_ := o.at_ } : OpV) with n := o.n }) hi.2.2.2.2 hl f3
  rw [g2]
theorem putV_step {s : List UInt8} {o : OpV} {a : Nat} {v : Int} {fs : List (List UInt8)} (b : Bool) (hv : IsU64 v) (h0 : b = false → v = o.vol) (h : At s a ((if b then [Lib.decDigits v.toNat] else []) ++ fs)) : ∃ a', putV s b (o, a) = ({ o with vol := v }, a') ∧ At s a' fs := by
  cases b
  · exact ⟨a, by rw [putV_no, h0 rfl], h⟩
  · exact putV_yes hv h
theorem putA_step {s : List UInt8} {o : OpV} {a : Nat} {v : Int} {fs : List (List UInt8)} (b : Bool) (hv : IsU64 v) (h0 : b = false → v = o.at_) (h : At s a ((if b then [Lib.decDigits v.toNat] else []) ++ fs)) : ∃ a', putA s b (o, a) = ({ o with at_ := v }, a') ∧ At s a' fs := by
  cases b
  · exact ⟨a, by rw [putA_no, h0 rfl], h⟩
  · exact putA_yes hv h
theorem putN_step {s : List UInt8} {o : OpV} {a : Nat} {v : Int} {fs : List (List UInt8)} (b : Bool) (hv : IsU64 v) (h0 : b = false → v = o.n) (h : At s a ((if b then [Lib.decDigits v.toNat] else []) ++ fs)) : ∃ a', putN s b (o, a) = ({ o with n := v }, a') ∧ At s a' fs := by
  cases b
  · exact ⟨a, by rw [putN_no, h0 rfl], h⟩
  · exact putN_yes hv h
theorem putD_step {s : List UInt8} {o : OpV} {a : Nat} {d : List Int} {fs : List (List UInt8)} (b : Bool) (hb : ∀ x ∈ d, IsByte x) (hl : d.length ≤ 255) (h0 : b = false → d = o.data) (h : At s a ((if b then [shownOf d] else []) ++ fs)) : ∃ a', putD s b (o, a) = ({ o with data := d }, a') ∧ At s a' fs := by
  cases b
  · exact ⟨a, by rw [putD_no, h0 rfl], h⟩
  · exact putD_yes hb hl h
theorem fields_word (o : OpV) (h1 : 1 ≤ o.code) (h9 : o.code ≤ 9) : (wordOf o.code).2.map (fieldOf o) = (if namesV o.code then [Lib.decDigits o.vol.toNat] else []) ++ ((if namesA o.code then [Lib.decDigits o.at_.toNat] else []) ++ ((if namesN o.code then [Lib.decDigits o.n.toNat] else []) ++ ((if namesD o.code then [shownOf o.data] else []) ++ []))) := by
  have : o.code = 1 ∨ o.code = 2 ∨ o.code = 3 ∨ o.code = 4 ∨ o.code = 5 ∨ o.code = 6 ∨ o.code = 7 ∨ o.code = 8 ∨ o.code = 9 := by omega
  rcases this with e | e | e | e | e | e | e | e | e <;> rw [e] <;> simp [namesV, namesA, namesN, namesD, fieldOf, wordOf, wordsL]
theorem cand_plain (o : OpV) (hi : OpIn o) (hl : o.data.length ≤ 255) (h : plainOf o = true) : candR (textOf o) = o := by
  obtain ⟨h1, h9⟩ := plain_code h
  obtain ⟨k, hk⟩ : ∃ k : Fin 10, o.code = k.val := ⟨⟨o.code.toNat, by omega⟩, by simp; omega⟩
  have hk1 : 1 ≤ k.val := by omega
  obtain ⟨w1, w2, w3⟩ := code_word k hk1
  obtain ⟨n1, n2, n3, n4⟩ := names_word k hk1
  rw [← hk] at w2 w3 n1 n2 n3 n4
  have hwc := wcode_word k hk1
  rw [← hk] at hwc
  have hp := h
  unfold plainOf at hp
  simp only [Bool.and_eq_true] at hp
  obtain ⟨⟨⟨⟨p0, p1⟩, p2⟩, p3⟩, p4⟩ := hp
  rw [← n1] at p2
  rw [← n2] at p3
  rw [← n3] at p4
  rw [← n4] at p1
  obtain ⟨s, hs⟩ : ∃ s, s = textOf o := ⟨_, rfl⟩
  have h0 := told_at (wordOf o.code).1 o (wordOf o.code).2
  have es : toldOf (wordOf o.code).1 o (wordOf o.code).2 = s := by rw [hs]; unfold textOf; rw [if_pos h]
  rw [es, fields_word o h1 h9] at h0
  obtain ⟨a1, a2, _⟩ := h0.read w2
  have e0 : isOp s = false := by unfold isOp; rw [a1]; exact decide_eq_false w3
  have e1 : cod0 s = o.code := by
    unfold cod0
    rw [e0]
    simp only [Bool.false_eq_true, if_false]
    rw [a1, hwc]
  have e2 : at0 s = (rdW s 0).2 := by unfold at0; rw [e0]; simp
  rw [← hs]
  unfold candR nV nA nN nD
  rw [e0, e1, e2]
  simp only [Bool.false_or]
  obtain ⟨b1, b2, b3⟩ := putV_step (o := ⟨o.code, 0, 0, 0, []⟩) (namesV o.code) hi.2.1 (fun hf => by rw [hf] at p2; simpa using p2) a2
  rw [b2]
  obtain ⟨c1, c2, c3⟩ := putA_step (o := { (⟨o.code, 0, 0, 0, []⟩ : OpV) with vol := o.vol }) (namesA o.code) hi.2.2.1 (fun hf => by rw [hf] at p3; simpa using p3) b3
  rw [c2]
  obtain ⟨d1, d2, d3⟩ := putN_step (o := { ({ (⟨o.code, 0, 0, 0, []⟩ : OpV) with vol := o.vol } : OpV) with at_ := o.at_ }) (namesN o.code) hi.2.2.2.1 (fun hf => by rw [hf] at p4; simpa using p4) c3
  rw [d2]
  obtain ⟨f1, f2, _⟩ := putD_step (o := { ({ ({ (⟨o.code, 0, 0, 0, []⟩ : OpV) with vol := o.vol } : OpV) with at_ := o.at_ } : OpV) with n := o.n }) (namesD o.code) hi.2.2.2.2 hl (fun hf => by rw [hf] at p1; simpa using p1) d3
  rw [f2]
/-- what the parser takes from an operation's line is that operation -/
theorem cand_text (o : OpV) (hi : OpIn o) (hl : o.data.length ≤ 255) : candR (textOf o) = o := by
  by_cases h : plainOf o = true
  · exact cand_plain o hi hl h
  · exact cand_op o hi hl h
/-- the reference's answer, by what its parser takes -/
def parseC (s : List UInt8) : OpV × Int := if (candR s).data.length ≤ 255 ∧ textOf (candR s) = s then (candR s, 0) else (op0, 270)
theorem rbGo_byte : ∀ (f : Nat) (l : List UInt8) (acc : List Int), (∀ x ∈ acc, IsByte x) → ∀ x ∈ rbGo f l acc, IsByte x
  | 0, _, _, h => h
  | _ + 1, [], _, h => h
  | _ + 1, [_], _, h => h
  | f + 1, c1 :: c2 :: r, acc, h => by
    rw [rbGo]
    split
    · refine rbGo_byte f _ _ (fun x hx => ?_)
      rcases List.mem_append.1 hx with hx | hx
      · exact h x hx
      · rw [List.eq_of_mem_replicate hx]
        exact ⟨Int.emod_nonneg _ (by decide), Int.emod_lt_of_pos _ (by decide)⟩
    · exact h
theorem rbytes_byte (l : List UInt8) : ∀ x ∈ rbytes l, IsByte x := by
  unfold rbytes
  split
  · intro x hx; cases hx
  · exact rbGo_byte _ _ _ (fun x hx => by cases hx)
theorem wcode_rng (w : List UInt8) : ∀ k : Nat, k ≤ 9 → 0 ≤ wcode w k ∧ wcode w k ≤ 9
  | 0, _ => ⟨(by decide : (0 : Int) ≤ 0), (by decide : (0 : Int) ≤ 9)⟩
  | k + 1, h => by
    rw [wcode]
    split
    · omega
    · exact wcode_rng w k (by omega)
theorem cod0_byte (s : List UInt8) : IsByte (cod0 s) := by
  unfold cod0
  split
  · exact ⟨Int.emod_nonneg _ (by decide), Int.emod_lt_of_pos _ (by decide)⟩
  · have := wcode_rng (rdW s 0).1 9 (by omega)
    exact ⟨by omega, by omega⟩
theorem put_in {s : List UInt8} {b : Bool} {x : OpV × Nat} (h : OpIn x.1) : OpIn (putV s b x).1 ∧ OpIn (putA s b x).1 ∧ OpIn (putN s b x).1 ∧ OpIn (putD s b x).1 := by
  obtain ⟨h1, h2, h3, h4, h5⟩ := h
  refine ⟨?_, ?_, ?_, ?_⟩
  · unfold putV; split
    · exact ⟨h1, valR_rng _, h3, h4, h5⟩
    · exact ⟨h1, h2, h3, h4, h5⟩
  · unfold putA; split
    · exact ⟨h1, h2, valR_rng _, h4, h5⟩
    · exact ⟨h1, h2, h3, h4, h5⟩
  · unfold putN; split
    · exact ⟨h1, h2, h3, valR_rng _, h5⟩
    · exact ⟨h1, h2, h3, h4, h5⟩
  · unfold putD; split
    · exact ⟨h1, h2, h3, h4, rbytes_byte _⟩
    · exact ⟨h1, h2, h3, h4, h5⟩
theorem zero64 : IsU64 0 := ⟨by decide, by decide⟩
theorem base_in (s : List UInt8) : OpIn (⟨cod0 s, 0, 0, 0, []⟩ : OpV) := ⟨cod0_byte s, zero64, zero64, zero64, fun x hx => by cases hx⟩
theorem candR_in (s : List UInt8) : OpIn (candR s) :=
  (put_in (put_in (put_in (put_in (x := (⟨cod0 s, 0, 0, 0, []⟩, at0 s)) (base_in s)).1).2.1).2.2.1).2.2.2
theorem parseGo_in : ∀ (L : List UInt8) (ts : List (List UInt8)) (o p : OpV), OpIn o → parseGo o L ts = some p → OpIn p
  | [], _, o, p, h, e => by cases e; exact h
  | _ :: _, [], o, p, h, e => by cases e
  | x :: L, t :: ts, o, p, h, e => parseGo_in L ts (setF o x t) p (setF_in h x t) e
theorem parse0_in {s : List UInt8} {o : OpV} (h : parse0 s = some o) : OpIn o := by
  unfold parse0 at h
  cases hq : Lib.split s [32] with
  | nil => rw [hq] at h; cases h
  | cons w ts =>
    rw [hq] at h
    simp only [parseL] at h
    split at h
    · exact parseGo_in _ _ _ _ ⟨u8_byte _, zero64, zero64, zero64, fun x hx => by cases hx⟩ h
    · have := code_rng w
      exact parseGo_in _ _ _ _ ⟨⟨by show 0 ≤ codeOf w; omega, by show codeOf w < 256; omega⟩, zero64, zero64, zero64, fun x hx => by cases hx⟩ h
theorem parseC_eq (s : List UInt8) : parseC s = parseR s := by
  unfold parseC
  by_cases h : (candR s).data.length ≤ 255 ∧ textOf (candR s) = s
  · rw [if_pos h]
    have h1 := parseR_text (candR_in s) h.1
    rw [h.2] at h1
    exact h1.symm
  · rw [if_neg h]
    unfold parseR
    cases hq : parse0 s with
    | none => rfl
    | some o =>
      simp only
      split
      · rename_i ht
        exfalso
        apply h
        unfold textR at ht
        split at ht
        · cases ht
        · rename_i hl
          have hs : textOf o = s := (Prod.mk.inj ht).1
          have hc := cand_text o (parse0_in hq) (by omega)
          rw [hs] at hc
          rw [hc]
          exact ⟨by omega, hs⟩
      · rfl
end Go.Proofs.YtakiinghipjopaaGreatDoor
