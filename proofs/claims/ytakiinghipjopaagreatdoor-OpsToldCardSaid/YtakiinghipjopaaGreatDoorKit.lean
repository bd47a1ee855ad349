/-
  Plain words for memory, over any program: what a slice reads as, what a map holds. Nothing here names a function of the program.
-/
import Derived.Test.YtakiinghipjopaaGreatDoorProg
import Derived.WalkKit
import Derived.WalkSpells
import Derived.WalkLawsBesides
import Derived.Maps.Own
import Derived.Deep.QuietTactic
import Derived.BigQuiet
import Derived.Deep.Draws
import Derived.Maps.RangeWalk
import Derived.Lib.Hide
import Derived.StillTailTactics
import Derived.Lib.ConvBytes
import Derived.Deep.WholeRow
namespace Go.Proofs.YtakiinghipjopaaGreatDoor
open Go.RowKit
open Go.Maps (Keyed)

theorem block_of_add (a : Addr) (n : Nat) : (a.add n).block = a.block := by unfold Addr.add; split <;> rfl
theorem add_of_add (a : Addr) (i j : Nat) : (a.add i).add j = a.add (i + j) := by
  unfold Addr.add
  by_cases hi : i = 0 <;> by_cases hj : j = 0 <;> simp [hi, hj, Nat.add_assoc]
theorem add_mk (b o j : Nat) : (Addr.mk b o none).add j = ⟨b, o + j, none⟩ := by
  unfold Addr.add; split <;> simp_all

/-- The cells from ⟨b, o⟩ on, all below block B, are xs. -/
def Row (w : World) (B b o : Nat) (xs : List Value) : Prop :=
  b < B ∧ ∀ j u, xs[j]? = some u → w.cell? ⟨b, o + j, none⟩ = some u

/-- The slice value v, of n elements of `size` cells each, reads as the cells xs, all below block B. -/
def Sl (w : World) (B size : Nat) (v : Value) (n : Nat) (xs : List Value) : Prop :=
  xs.length = n * size ∧ ∃ A c, v = .slice A n c ∧ n ≤ c ∧ c ≤ maxLen ∧ (A = none → c = 0) ∧ (0 < n → ∃ b o, A = some ⟨b, o, none⟩ ∧ Row w B b o xs)

theorem row_new (w : World) (xs : List Value) (t : TypeId) : Row (w.alloc (.cells xs.toArray t)) (w.heap.size + 1) w.heap.size 0 xs :=
  ⟨Nat.lt_succ_self _, fun j u hu => by rw [Nat.zero_add, World.cell?_alloc_new]; simpa using hu⟩

section
variable {w w' : World} {B B' size n b o : Nat} {v : Value} {xs : List Value}

theorem Row.keep (h : Row w B b o xs) (hk : ∀ p : Addr, p.block < B → w'.cell? p = w.cell? p) : Row w' B b o xs :=
  ⟨h.1, fun j u hu => (hk _ h.1).trans (h.2 j u hu)⟩
theorem Sl.keep (h : Sl w B size v n xs) (hk : ∀ p : Addr, p.block < B → w'.cell? p = w.cell? p) : Sl w' B size v n xs := by
  obtain ⟨hl, A, c, hv, hc, hm, hz, hr⟩ := h
  refine ⟨hl, A, c, hv, hc, hm, hz, fun hn => ?_⟩
  obtain ⟨b, o, hA, hr⟩ := hr hn
  exact ⟨b, o, hA, hr.keep hk⟩
theorem Sl.more (h : Sl w B size v n xs) (hB : B ≤ B') : Sl w B' size v n xs := by
  obtain ⟨hl, A, c, hv, hc, hm, hz, hr⟩ := h
  refine ⟨hl, A, c, hv, hc, hm, hz, fun hn => ?_⟩
  obtain ⟨b, o, hA, hr⟩ := hr hn
  exact ⟨b, o, hA, Nat.lt_of_lt_of_le hr.1 hB, hr.2⟩
theorem sl_nil (w : World) (B size : Nat) : Sl w B size (.slice none 0 0) 0 [] := ⟨by simp, none, 0, rfl, Nat.le_refl _, Nat.zero_le _, fun _ => rfl, fun h => absurd h (by omega)⟩
theorem sl_mk (hl : xs.length = n * size) {c : Nat} (hc : n ≤ c) (hm : c ≤ maxLen) (hr : Row w B b o xs) : Sl w B size (.slice (some ⟨b, o, none⟩) n c) n xs :=
  ⟨hl, _, c, rfl, hc, hm, (fun h => by cases h), fun _ => ⟨b, o, rfl, hr⟩⟩
theorem Sl.below (h : Sl w B size v n xs) (hb : Below B w w') : Sl w' B size v n xs := h.keep fun _ hp => hb.cell hp
theorem Sl.below' (h : Sl w B size v n xs) (hb : Below B' w w') (hB : B ≤ B') : Sl w' B size v n xs := h.keep fun _ hp => hb.cell (by omega)
theorem Sl.drew (h : Sl w B size v n xs) : Sl w.drew B size v n xs := h
theorem Sl.drewN (h : Sl w B size v n xs) (k : Nat) : Sl (w.drewN k) B size v n xs := h
theorem Sl.alloc (h : Sl w B size v n xs) (hB : B ≤ w.heap.size) (x : Obj) : Sl (w.alloc x) B size v n xs := h.keep fun p hp => World.cell?_alloc_lt w x p (by omega)
theorem Sl.setCell (h : Sl w B size v n xs) {p : Addr} (hB : B ≤ p.block) (u : Value) : Sl (w.setCell p u) B size v n xs :=
  h.keep fun q hq => World.cell?_setCell_other w p q u (fun e => by subst e; omega)
theorem Sl.grown (h : Sl w B size v n xs) {row : Option Nat} (hg : w.grownBy w' row) (hB : B ≤ w.heap.size) (hr : ∀ g, row = some g → B ≤ g) : Sl w' B size v n xs :=
  h.keep fun p hp => World.cell?_of_block (hg.block p.block (by omega) (fun e => by have := hr _ e.symm; omega))
/-- what a slice is, as a value -/
theorem Sl.form (h : Sl w B size v n xs) : ∃ A c, v = .slice A n c ∧ n ≤ c ∧ c ≤ maxLen := by
  obtain ⟨_, A, c, hv, hc, hm, _⟩ := h
  exact ⟨A, c, hv, hc, hm⟩
theorem Sl.row (h : Sl w B size v n xs) (hn : 0 < n) : ∃ b o c, v = .slice (some ⟨b, o, none⟩) n c ∧ n ≤ c ∧ c ≤ maxLen ∧ Row w B b o xs := by
  obtain ⟨_, A, c, hv, hc, hm, _, hr⟩ := h
  obtain ⟨b, o, rfl, hr2⟩ := hr hn
  exact ⟨b, o, c, hv, hc, hm, hr2⟩
end

theorem below_of_drew {B : Nat} {w w' : World} (h : Below B w.drew w') : Below B w w' := ⟨h.os, h.tape, h.output, h.size, h.block⟩
theorem grown_of_below {w w' : World} (h : Below w.heap.size w w') (row : Option Nat) : w.grownBy w' row := ⟨h.os, h.tape, h.output, h.size, fun k hk _ => h.block k hk⟩
theorem ownsRow_on {w w' : World} {base : Nat} {e : TypeId} {size : Nat} {v : Value} {n : Nat} {xs : List Value} (h : w.ownsRow base e size v n xs) (hb : Below w.heap.size w w') : w'.ownsRow base e size v n xs :=
  h.kept (grown_of_below hb none) (by cases v.ownBlock <;> simp)
theorem below_drewN {B : Nat} {w w' : World} (h : Below B w w') (n : Nat) : Below B w (w'.drewN n) := ⟨h.os, h.tape, h.output, h.size, h.block⟩

theorem ret_bool {a b : Bool} (h : a = b) : Ending.returned (.bool a) = Ending.returned (.bool b) := by rw [h]
theorem ret_int {k : IntKind} {a b : Int} (h : a = b) : Ending.returned (.int k a) = Ending.returned (.int k b) := by rw [h]
theorem ret_ib {k : IntKind} {a b : Int} {c d : Bool} (h : a = b) (h' : c = d) : Ending.returned (.tuple #[.int k a, .bool c]) = Ending.returned (.tuple #[.int k b, .bool d]) := by rw [h, h']
theorem ret_ints {k k' : IntKind} {a b a' b' : Int} (h : a = b) (h' : a' = b') : Ending.returned (.tuple #[.int k a, .int k' a']) = Ending.returned (.tuple #[.int k b, .int k' b']) := by rw [h, h']

/-! ### arms for a quiet region -/
section
variable {P : Program} {ops : Array Oper} {C : World → Prop} {Q : Act → Prop} {a : Act} {rest : List Oper} {dst : Option Tmp} {x : Operand} {t ty : TypeId} {pos : String} {after : Array Edge}
theorem qload (p v : Value) (hx : a.eval x = p) (h : ∀ w, C w → (Instr.loadAt t p).run P w = .ok v w) (hk : wpQuiet P ops C Q rest (a.put dst v)) :
    wpQuiet P ops C Q (⟨dst, .load t x, ty, pos, after, none⟩ :: rest) a :=
  BigFrame.wpQuiet_want rfl fun K hK => ⟨v, fun w hw => by
    unfold Oper.quietAt
    have h1 := h w hw
    rw [← hx] at h1
    simp [execOp, h1, Result.andThen, Oper.quietUpon], hK _ hk⟩
end

section
variable {P : Program} {ops : Array Oper} {w : World} {Q : Act → Prop} {a : Act} {rest : List Oper} {dst : Option Tmp} {x : Operand} {t ty : TypeId} {pos : String} {after : Array Edge}
/-- a load, in the still part of a region -/
theorem st_load (p v : Value) (hx : a.eval x = p) (h : (Instr.loadAt t p).run P w = .ok v w) (hk : wpStill P ops w Q rest (a.put dst v)) :
    wpStill P ops w Q (⟨dst, .load t x, ty, pos, after, none⟩ :: rest) a :=
  wpStill_step fun K hK => by
    simp only [Region.wanted, if_true]
    unfold Oper.still
    rw [← hx] at h
    simp [execOp, h, Result.andThen, Oper.stillUpon]
    exact hK _ hk
end
section
variable {P : Program} {ops : Array Oper} {w : World} {Q : Exit → Act → World → Prop} {a : Act} {rest : List Oper} {dst : Option Tmp} {x : Operand} {t ty : TypeId} {pos : String} {after : Array Edge}
/-- a load -/
theorem wl_load (p v : Value) (hx : a.eval x = p) (h : (Instr.loadAt t p).run P w = .ok v w) (hk : wpList P ops Q rest (a.put dst v) w) :
    wpList P ops Q (⟨dst, .load t x, ty, pos, after, none⟩ :: rest) a w :=
  wpList_plain rfl fun K hK => by
    unfold Oper.wp
    rw [← hx] at h
    simp [execOp, h, Result.andThen]
    exact hK _ _ hk
/-- a new variable of an array type, and what is stored into it at once -/
theorem wl_new_arr {d : Tmp} {ty2 : TypeId} {pos2 : String} {after2 : Array Edge} {z : Array Value} (cs : Array Value) (hi : (P.info? t).map (fun i => (i.zero, i.size)) = some (some (.agg z), cs.size)) (hz : z.size = cs.size)
    (h1 : cs.all (·.oneCell') = true) (hx : ((a.put (some d) (.pointer (some ⟨w.heap.size, 0, none⟩))).eval x) = .agg cs) (hd : ((a.put (some d) (.pointer (some ⟨w.heap.size, 0, none⟩))).eval (.tmp d)) = .pointer (some ⟨w.heap.size, 0, none⟩))
    (hk : wpList P ops Q rest ((a.put (some d) (.pointer (some ⟨w.heap.size, 0, none⟩))).put none undef) (w.alloc (.cells cs t))) :
    wpList P ops Q (⟨some d, .alloc t, ty, pos, after, none⟩ :: ⟨none, .store t (.tmp d) x, ty2, pos2, after2, none⟩ :: rest) a w := by
  have hsz : (P.info? t).map (·.size) = some cs.size := by
    cases hq : P.info? t with
    | none => simp [hq] at hi
    | some i => simp [hq] at hi; simp [hi.2]
  refine wpList_plain rfl fun K hK => ?_
  have ha : (Instr.alloc t true (.tuple #[])).run P w = .ok (.pointer (some ⟨w.heap.size, 0, none⟩)) (w.alloc (.cells z t)) := by
    have hz0 := (zero_of_info hi).1
    simp [Instr.alloc, hz0, newVar, newRow, Result.andThen, Value.cells]
  unfold Oper.wp
  simp [execOp, ha, Result.andThen]
  refine hK _ _ ?_
  refine wpList_plain rfl fun K2 hK2 => ?_
  have hs := run_storeAt_new (P := P) w t z cs hsz hz h1
  unfold Oper.wp
  simp only [execOp]
  rw [hd, hx]
  simp [hs, Result.andThen]
  exact hK2 _ _ hk
end

/-! ### maps -/

/-- put into a list of pairs: in its place, if the key is there; else at the end -/
def aput {α β : Type} [DecidableEq α] : List (α × β) → α → β → List (α × β)
  | [], a, b => [(a, b)]
  | (x, y) :: r, a, b => if x = a then (a, b) :: r else (x, y) :: aput r a b

def aget {α β : Type} [DecidableEq α] : List (α × β) → α → Option β
  | [], _ => none
  | (x, y) :: r, a => if x = a then some y else aget r a

section
variable {α β : Type} [DecidableEq α]
theorem aput_fresh (l : List (α × β)) (a : α) (b : β) (h : ∀ p ∈ l, p.1 ≠ a) : aput l a b = l ++ [(a, b)] := by
  induction l with
  | nil => rfl
  | cons x r ih =>
    obtain ⟨x, y⟩ := x
    have h1 : x ≠ a := h (x, y) (by simp)
    simp only [aput, if_neg h1, List.cons_append]
    rw [ih (fun p hp => h p (by simp [hp]))]
theorem aget_none (l : List (α × β)) (a : α) : aget l a = none ↔ ∀ p ∈ l, p.1 ≠ a := by
  induction l with
  | nil => simp [aget]
  | cons x r ih =>
    obtain ⟨x, y⟩ := x
    unfold aget
    split
    · rename_i h; simp [h]
    · rename_i h; rw [ih]; simp [h]
theorem aput_set (l : List (α × β)) (a : α) (b : β) (hn : (l.map Prod.fst).Nodup) (j : Nat) (x : α × β) (hj : l[j]? = some x) (hx : x.1 = a) : aput l a b = l.set j (a, b) := by
  induction l generalizing j with
  | nil => simp at hj
  | cons y r ih =>
    obtain ⟨y1, y2⟩ := y
    cases j with
    | zero =>
      simp at hj; subst hj
      simp only at hx
      simp [aput, hx]
    | succ j =>
      simp at hj
      have hne : y1 ≠ a := by
        intro e
        have : y1 ∉ r.map Prod.fst := (List.nodup_cons.1 hn).1
        exact this (List.mem_map.2 ⟨x, List.mem_of_getElem? hj, by rw [hx, e]⟩)
      simp only [aput, if_neg hne, List.set_cons_succ]
      rw [ih (List.nodup_cons.1 hn).2 j hj]
theorem aget_of_mem (l : List (α × β)) (hn : (l.map Prod.fst).Nodup) {a : α} {b : β} (h : (a, b) ∈ l) : aget l a = some b := by
  induction l with
  | nil => simp at h
  | cons y r ih =>
    obtain ⟨y1, y2⟩ := y
    rcases List.mem_cons.1 h with e | h
    · cases e; simp [aget]
    · have hne : y1 ≠ a := by
        intro e
        exact (List.nodup_cons.1 hn).1 (List.mem_map.2 ⟨(a, b), h, by rw [e]⟩)
      simp only [aget, if_neg hne]
      exact ih (List.nodup_cons.1 hn).2 h
theorem aput_keys_mem (l : List (α × β)) (a : α) (b : β) (x : α) : x ∈ (aput l a b).map Prod.fst ↔ x ∈ l.map Prod.fst ∨ x = a := by
  induction l with
  | nil => simp [aput]
  | cons y r ih =>
    obtain ⟨y1, y2⟩ := y
    unfold aput
    split
    · rename_i h; subst h; simp; grind
    · simp only [List.map_cons, List.mem_cons, ih]; grind
theorem aput_mem (l : List (α × β)) (a : α) (b : β) (p : α × β) (h : p ∈ aput l a b) : p ∈ l ∨ p = (a, b) := by
  induction l with
  | nil => simp [aput] at h; exact .inr h
  | cons y r ih =>
    obtain ⟨y1, y2⟩ := y
    unfold aput at h
    split at h
    · rcases List.mem_cons.1 h with h | h
      · exact .inr h
      · exact .inl (by simp [h])
    · rcases List.mem_cons.1 h with h | h
      · exact .inl (by simp [h])
      · rcases ih h with h | h
        · exact .inl (by simp [h])
        · exact .inr h
theorem aget_mem (l : List (α × β)) (a : α) (b : β) (h : aget l a = some b) : (a, b) ∈ l := by
  induction l with
  | nil => simp [aget] at h
  | cons y r ih =>
    obtain ⟨y1, y2⟩ := y
    unfold aget at h
    split at h
    · rename_i e; cases h; subst e; simp
    · exact List.mem_cons_of_mem _ (ih h)
theorem aput_nodup (l : List (α × β)) (a : α) (b : β) (hn : (l.map Prod.fst).Nodup) : ((aput l a b).map Prod.fst).Nodup := by
  induction l with
  | nil => simp [aput]
  | cons y r ih =>
    obtain ⟨y1, y2⟩ := y
    have hn' := List.nodup_cons.1 hn
    unfold aput
    split
    · rename_i h; subst h; exact hn
    · rename_i h
      simp only [List.map_cons]
      refine List.nodup_cons.2 ⟨fun hm => ?_, ih hn'.2⟩
      rcases (aput_keys_mem r a b y1).1 hm with h1 | h1
      · exact hn'.1 h1
      · exact h h1
theorem aget_aput (l : List (α × β)) (a x : α) (b : β) : aget (aput l a b) x = if x = a then some b else aget l x := by
  induction l with
  | nil =>
    simp only [aput, aget]
    by_cases h : a = x
    · simp [h]
    · simp [h, Ne.symm h]
  | cons y r ih =>
    obtain ⟨y1, y2⟩ := y
    unfold aput
    by_cases h : y1 = a
    · rw [if_pos h]; subst h
      simp only [aget]
      by_cases h2 : y1 = x <;> simp [h2]
      intro e; exact absurd e.symm h2
    · rw [if_neg h]
      simp only [aget]
      by_cases h2 : y1 = x
      · subst h2; simp [h]
      · rw [if_neg h2, if_neg h2, ih]
end

section
variable {α β : Type} [DecidableEq α]
theorem aget_append (l r : List (α × β)) (a : α) (h : ∀ p ∈ l, p.1 ≠ a) : aget (l ++ r) a = aget r a := by
  induction l with
  | nil => rfl
  | cons y l ih =>
    obtain ⟨y1, y2⟩ := y
    have h1 : y1 ≠ a := h (y1, y2) (by simp)
    simp only [List.cons_append, aget, if_neg h1]
    exact ih (fun p hp => h p (by simp [hp]))
theorem aget_first {l : List (α × β)} {a : α} {b : β} {k : Nat} (hk : k < l.length) (hl : l[k] = (a, b)) (h : ∀ p ∈ l.take k, p.1 ≠ a) : aget l a = some b := by
  have e : l = l.take k ++ l[k] :: l.drop (k + 1) := by rw [← List.drop_eq_getElem_cons, List.take_append_drop]
  rw [e, aget_append _ _ _ h, hl]
  simp [aget]
omit [DecidableEq α] in
theorem take_more_ne {l : List (α × β)} {a x : α} {b : β} {k : Nat} (hk : k < l.length) (hl : l[k] = (a, b)) (hne : ¬ a = x) (h : ∀ p ∈ l.take k, p.1 ≠ x) : ∀ p ∈ l.take (k + 1), p.1 ≠ x := by
  rw [List.take_succ_eq_append_getElem hk, hl]
  intro p hp
  rcases List.mem_append.1 hp with hp | hp
  · exact h p hp
  · simp at hp; subst hp; exact hne
end

/-- Block m of w is a map whose entries, in the order in which their keys came, are kv; keys are told by ek, values by ev. -/
def MapOf {α β : Type} (w : World) (P : Program) (k : TypeId) (m : Nat) (ek : α → Value) (ev : β → Value) (kv : List (α × β)) : Prop :=
  ∃ es clock, w.heap[m]? = some (.map es clock) ∧ es.toList.map (fun e => (e.key, e.val)) = kv.map (fun p => (ek p.1, ev p.2)) ∧
    (∀ p ∈ kv, ∃ l, keyOf P k (ek p.1) = some l) ∧ (kv.map Prod.fst).Nodup

section
variable {α β : Type} {w w' : World} {P : Program} {k t e : TypeId} {m : Nat} {ek : α → Value} {ev : β → Value} {kv : List (α × β)}

theorem MapOf.lt (h : MapOf w P k m ek ev kv) : m < w.heap.size := by
  obtain ⟨es, c, h, _⟩ := h
  rcases Nat.lt_or_ge m w.heap.size with h1 | h1
  · exact h1
  · simp [Array.getElem?_eq_none h1] at h
theorem MapOf.size (h : MapOf w P k m ek ev kv) : ∃ es clock, w.heap[m]? = some (.map es clock) ∧ es.size = kv.length := by
  obtain ⟨es, c, h, he, _⟩ := h
  refine ⟨es, c, h, ?_⟩
  have := congrArg List.length he
  simpa using this
theorem MapOf.len (h : MapOf w P k m ek ev kv) (ht : P.underlying t = some (.map k e)) (ty : TypeId) : (Builtin.len_ #[t] ty #[.map (some m)]).run P w = .ok (.int .i64 kv.length) w := by
  obtain ⟨es, c, hb, hs⟩ := h.size
  simp [Builtin.len_, run_underlying ht, MapKept.run_getObj_map hb, goInt, Result.andThen, hs]
theorem MapOf.of_block (h : MapOf w P k m ek ev kv) (hb : w'.heap[m]? = w.heap[m]?) : MapOf w' P k m ek ev kv := by
  obtain ⟨es, c, h0, h1⟩ := h
  exact ⟨es, c, by rw [hb, h0], h1⟩
theorem MapOf.drew (h : MapOf w P k m ek ev kv) : MapOf w.drew P k m ek ev kv := h
theorem MapOf.drewN (h : MapOf w P k m ek ev kv) (n : Nat) : MapOf (w.drewN n) P k m ek ev kv := h
theorem MapOf.alloc (h : MapOf w P k m ek ev kv) (o : Obj) : MapOf (w.alloc o) P k m ek ev kv := h.of_block (Below.heap_alloc w o m h.lt)
theorem MapOf.below {B : Nat} (h : MapOf w P k m ek ev kv) (hb : Below B w w') (hm : m < B) : MapOf w' P k m ek ev kv := h.of_block (hb.block m hm)
theorem MapOf.grown {row : Option Nat} (h : MapOf w P k m ek ev kv) (hg : w.grownBy w' row) (hne : some m ≠ row) : MapOf w' P k m ek ev kv := h.of_block (hg.block m h.lt hne)
theorem MapOf.setCell (h : MapOf w P k m ek ev kv) {a : Addr} (hne : m ≠ a.block) (u : Value) : MapOf (w.setCell a u) P k m ek ev kv := h.of_block (Below.heap_setCell w a u m hne)
theorem mapOf_made (w : World) (P : Program) (k : TypeId) (ek : α → Value) (ev : β → Value) : MapOf (w.alloc (.map #[] 0)) P k w.heap.size ek ev [] :=
  ⟨#[], 0, (MapKept.heap_alloc w _).1, rfl, by simp, by simp⟩

variable [DecidableEq α]
theorem MapOf.find (K : Keyed P k) (hinj : ∀ a b, ek a = ek b → a = b) {es : Array MapEntry} {kv : List (α × β)}
    (he : es.toList.map (fun e => (e.key, e.val)) = kv.map (fun p => (ek p.1, ev p.2))) (hk : ∀ p ∈ kv, ∃ l, keyOf P k (ek p.1) = some l) (hn : (kv.map Prod.fst).Nodup) (W : World)
    {a : α} {l : Lit} (ha : keyOf P k (ek a) = some l) :
    ((Instr.findKey k (ek a) es.toList).run P W = .ok none W ∧ aget kv a = none) ∨
    ∃ j e0 b, (Instr.findKey k (ek a) es.toList).run P W = .ok (some (j, ev b)) W ∧ es.toList[j]? = some e0 ∧ e0.key = ek a ∧ e0.val = ev b ∧ kv[j]? = some (a, b) ∧ aget kv a = some b := by
  have hkeys : ∀ e ∈ es.toList, ∃ l, keyOf P k e.key = some l := by
    intro e hm
    have : (e.key, e.val) ∈ kv.map (fun p => (ek p.1, ev p.2)) := by rw [← he]; exact List.mem_map.2 ⟨e, hm, rfl⟩
    obtain ⟨p, hp, hpe⟩ := List.mem_map.1 this
    obtain ⟨l, hl⟩ := hk p hp
    have h4 : ek p.1 = e.key := congrArg Prod.fst hpe
    exact ⟨l, by rw [← h4, hl]⟩
  rcases K.find W ha es.toList hkeys with ⟨h1, h2⟩ | ⟨j, e0, h1, h2, h3⟩
  · refine .inl ⟨h1, (aget_none _ _).2 fun p hp e => ?_⟩
    have : (ek p.1, ev p.2) ∈ es.toList.map (fun e => (e.key, e.val)) := by rw [he]; exact List.mem_map.2 ⟨p, hp, rfl⟩
    obtain ⟨e0, hm, hpe⟩ := List.mem_map.1 this
    refine h2 e0 hm ?_
    have := congrArg Prod.fst hpe
    simp only at this
    rw [this, e]
  · have hj : (es.toList.map (fun e => (e.key, e.val)))[j]? = some (e0.key, e0.val) := by simp [h2]
    rw [he] at hj
    simp only [List.getElem?_map, Option.map_eq_some_iff] at hj
    obtain ⟨p, hp, hpe⟩ := hj
    have h4 : ek p.1 = e0.key := congrArg Prod.fst hpe
    have h5 : ev p.2 = e0.val := congrArg Prod.snd hpe
    have h6 : p.1 = a := hinj _ _ (h4.trans h3)
    refine .inr ⟨j, e0, p.2, by rw [h1, h5], h2, h3, h5.symm, by rw [hp, ← h6], ?_⟩
    refine aget_of_mem _ hn ?_
    rw [← h6]
    exact List.mem_of_getElem? hp

theorem MapOf.look (c : Bool) (h : MapOf w P k m ek ev kv) (K : Keyed P k) (hinj : ∀ a b, ek a = ek b → a = b) (ht : P.underlying t = some (.map k e)) {z : Value} (hz : (zeroValue e).run P w = .ok z w)
    {a : α} {l : Lit} (ha : keyOf P k (ek a) = some l) :
    (Instr.lookup t (.map (some m)) (ek a) c).run P w = .ok (if c then .tuple #[((aget kv a).map ev).getD z, .bool (aget kv a).isSome] else ((aget kv a).map ev).getD z) w := by
  obtain ⟨es, clock, hb, he, hk, hn⟩ := h
  rcases MapOf.find K hinj he hk hn w ha with ⟨h1, h2⟩ | ⟨j, e0, b, h1, h2, h3, h4, h5, h6⟩
  · rw [h2]
    simp [Instr.lookup, run_underlying ht, MapKept.run_getObj_map hb, K.check w _ ha, h1, hz, Result.andThen]
  · rw [h6]
    simp [Instr.lookup, run_underlying ht, MapKept.run_getObj_map hb, K.check w _ ha, h1, Result.andThen]

theorem MapOf.look_yes (h : MapOf w P k m ek ev kv) (K : Keyed P k) (hinj : ∀ a b, ek a = ek b → a = b) (ht : P.underlying t = some (.map k e)) {z : Value} (hz : (zeroValue e).run P w = .ok z w)
    {a : α} {l : Lit} (ha : keyOf P k (ek a) = some l) {b : β} (hg : aget kv a = some b) :
    (Instr.lookup t (.map (some m)) (ek a) true).run P w = .ok (.tuple #[ev b, .bool true]) w := by
  have := h.look true K hinj ht hz ha
  simpa [hg] using this
theorem MapOf.look_no (h : MapOf w P k m ek ev kv) (K : Keyed P k) (hinj : ∀ a b, ek a = ek b → a = b) (ht : P.underlying t = some (.map k e)) {z : Value} (hz : (zeroValue e).run P w = .ok z w)
    {a : α} {l : Lit} (ha : keyOf P k (ek a) = some l) (hg : aget kv a = none) :
    (Instr.lookup t (.map (some m)) (ek a) true).run P w = .ok (.tuple #[z, .bool false]) w := by
  have := h.look true K hinj ht hz ha
  simpa [hg] using this
theorem MapOf.look_one (h : MapOf w P k m ek ev kv) (K : Keyed P k) (hinj : ∀ a b, ek a = ek b → a = b) (ht : P.underlying t = some (.map k e)) {z : Value} (hz : (zeroValue e).run P w = .ok z w)
    {a : α} {l : Lit} (ha : keyOf P k (ek a) = some l) {v : Value} (hv : ((aget kv a).map ev).getD z = v) :
    (Instr.lookup t (.map (some m)) (ek a) false).run P w = .ok v w := by
  have := h.look false K hinj ht hz ha
  simpa [hv] using this

theorem MapOf.update (h : MapOf w P k m ek ev kv) (K : Keyed P k) (hinj : ∀ a b, ek a = ek b → a = b) (ht : P.underlying t = some (.map k e))
    {a : α} {l : Lit} (ha : keyOf P k (ek a) = some l) (b : β) :
    ∃ w', (Instr.mapUpdate t (.map (some m)) (ek a) (ev b)).run P w = .ok () w' ∧ MapOf w' P k m ek ev (aput kv a b) ∧ w.grownBy w' (some m) := by
  obtain ⟨es, clock, hb, he, hk, hn⟩ := h
  have hlt : m < w.heap.size := by
    rcases Nat.lt_or_ge m w.heap.size with h1 | h1
    · exact h1
    · simp [Array.getElem?_eq_none h1] at hb
  have hkeys : ∀ p ∈ aput kv a b, ∃ l, keyOf P k (ek p.1) = some l := by
    intro p hp
    rcases (aput_keys_mem kv a b p.1).1 (List.mem_map.2 ⟨p, hp, rfl⟩) with h1 | h1
    · obtain ⟨q, hq, hqe⟩ := List.mem_map.1 h1
      rw [← hqe]; exact hk q hq
    · rw [h1]; exact ⟨l, ha⟩
  rcases MapOf.find K hinj he hk hn w ha with ⟨h1, h2⟩ | ⟨j, e0, b0, h1, h2, h3, h4, h5, h6⟩
  · refine ⟨ChangeMaps.setBlock w m (.map (es.push ⟨ek a, ev b, clock⟩) (clock + 1)), ?_, ⟨_, _, ChangeMaps.heap_setBlock_same hb _, ?_, hkeys, aput_nodup _ _ _ hn⟩,
      ⟨rfl, rfl, rfl, by simp [ChangeMaps.setBlock], fun i _ hi => ChangeMaps.heap_setBlock_other hb _ (fun e => hi (by rw [e]))⟩⟩
    · simp [Instr.mapUpdate, run_underlying ht, MapKept.run_getObj_map hb, K.check w false ha, h1, MapKept.run_setObj_map _ hb, Result.andThen, ChangeMaps.setBlock]
    · rw [aput_fresh _ _ _ ((aget_none _ _).1 h2)]
      simp [he]
  · have hj : es[j]? = some e0 := by simpa using h2
    refine ⟨ChangeMaps.setBlock w m (.map (es.modify j fun e' => { e' with key := ek a, val := ev b }) clock), ?_, ⟨_, _, ChangeMaps.heap_setBlock_same hb _, ?_, hkeys, aput_nodup _ _ _ hn⟩,
      ⟨rfl, rfl, rfl, by simp [ChangeMaps.setBlock], fun i _ hi => ChangeMaps.heap_setBlock_other hb _ (fun e => hi (by rw [e]))⟩⟩
    · simp [Instr.mapUpdate, run_underlying ht, MapKept.run_getObj_map hb, K.check w false ha, h1, hj, h3, K.stays w ha, MapKept.run_setObj_map _ hb, Result.andThen, ChangeMaps.setBlock]
    · rw [aput_set _ _ _ hn j _ h5 rfl, Array.toList_modify, ChangeMaps.modify_eq_set _ _ _ _ h2, List.map_set, List.map_set, he]
end

section
variable {α β : Type} [DecidableEq α] {w : World} {P : Program} {k t e : TypeId} {m : Nat} {ek : α → Value} {ev : β → Value} {kv : List (α × β)}
variable {ops : Array Oper} {Q : Exit → Act → World → Prop} {a : Act} {rest : List Oper} {dst : Option Tmp} {om ok ov : Operand} {ty : TypeId} {pos : String} {after : Array Edge}
theorem wl_update (K : Keyed P k) (hinj : ∀ a b, ek a = ek b → a = b) (ht : P.underlying t = some (.map k e)) (h : MapOf w P k m ek ev kv) (x : α) (y : β) (hx : ∃ l, keyOf P k (ek x) = some l)
    (hm : a.eval om = .map (some m)) (hk : a.eval ok = ek x) (hv : a.eval ov = ev y)
    (hK : ∀ w', MapOf w' P k m ek ev (aput kv x y) → w.grownBy w' (some m) → wpList P ops Q rest (a.put dst undef) w') :
    wpList P ops Q (⟨dst, .mapUpdate t om ok ov, ty, pos, after, none⟩ :: rest) a w := by
  refine wpList_plain rfl fun K' hK' => ?_
  obtain ⟨l, hl⟩ := hx
  obtain ⟨w', hrun, r1, r2⟩ := h.update K hinj ht hl y
  unfold Oper.wp
  simp [execOp, hm, hk, hv, hrun, Result.andThen]
  exact hK' _ _ (hK w' r1 r2)
theorem wl_insert (K : Keyed P k) (hinj : ∀ a b, ek a = ek b → a = b) (ht : P.underlying t = some (.map k e)) (h : MapOf w P k m ek ev kv) (x : α) (y : β) (hx : ∃ l, keyOf P k (ek x) = some l)
    (hm : a.eval om = .map (some m)) (hk : a.eval ok = ek x) (hv : a.eval ov = ev y)
    (hK : ∀ w', MapOf w' P k m ek ev (aput kv x y) → w.grownBy w' (some m) → wpList P ops Q rest (a.put dst undef) w') :
    wpList P ops Q (⟨dst, .insert t om ok ov, ty, pos, after, none⟩ :: rest) a w := by
  refine wpList_plain rfl fun K' hK' => ?_
  obtain ⟨l, hl⟩ := hx
  obtain ⟨w', hrun, r1, r2⟩ := h.update K hinj ht hl y
  unfold Oper.wp
  simp [execOp, hm, hk, hv, hrun, Result.andThen]
  exact hK' _ _ (hK w' r1 r2)
end

/-! ### bytes -/

def IsByte (x : Int) : Prop := 0 ≤ x ∧ x < 256
def IsU64 (x : Int) : Prop := 0 ≤ x ∧ x < 18446744073709551616

/-- The value v reads as the bytes bs. -/
def Bs (w : World) (B : Nat) (v : Value) (bs : List Int) : Prop := Sl w B 1 v bs.length (bs.map (.int .u8)) ∧ ∀ x ∈ bs, IsByte x

theorem strOfNums_inj : ∀ (xs ys : List Int), (∀ x ∈ xs, IsByte x) → (∀ x ∈ ys, IsByte x) → strOfNums xs = strOfNums ys → xs = ys := by
  have key : ∀ (xs ys : List Int), (∀ x ∈ xs, IsByte x) → (∀ x ∈ ys, IsByte x) → (xs.map fun n => UInt8.ofNat n.toNat) = (ys.map fun n => UInt8.ofNat n.toNat) → xs = ys := by
    intro xs
    induction xs with
    | nil => intro ys _ _ h; cases ys <;> simp_all
    | cons x xs ih =>
      intro ys hx hy h
      cases ys with
      | nil => simp at h
      | cons y ys =>
        simp only [List.map_cons, List.cons.injEq] at h
        have h1 := hx x (by simp)
        have h2 := hy y (by simp)
        unfold IsByte at h1 h2
        have h3 : x = y := by
          have := congrArg UInt8.toNat h.1
          simp at this
          omega
        rw [h3, ih ys (fun z hz => hx z (by simp [hz])) (fun z hz => hy z (by simp [hz])) h.2]
  intro xs ys hx hy h
  refine key xs ys hx hy ?_
  have := congrArg (fun s : ByteArray => s.data.toList) h
  simpa [strOfNums_data] using this

theorem run_convert_bytes_any {P : Program} (w : World) (A : Option Addr) (c : Nat) (bs : List Int) {src e dst : TypeId} (hs : P.underlying src = some (.slice e)) (he : P.underlying e = some (.int .u8)) (hd : P.underlying dst = some .string)
    (hr : 0 < bs.length → ∃ b o, A = some ⟨b, o, none⟩ ∧ ∀ j u, (bs.map (Value.int .u8))[j]? = some u → w.cell? ⟨b, o + j, none⟩ = some u) :
    (convert src dst (.slice A bs.length c)).run P w = .ok (.string (strOfNums bs)) w := by
  by_cases hn : 0 < bs.length
  · obtain ⟨b, o, rfl, hr2⟩ := hr hn
    exact run_convert_bytes_arg w src e hs he b o bs.length c bs rfl (fun i hi => hr2 i _ (by simp [List.getD, List.getElem?_eq_getElem hi])) dst hd
  · have : bs = [] := List.eq_nil_of_length_eq_zero (by omega)
    subst this
    cases A with
    | none => exact run_convert_bytes_nil w src e hs he 0 c dst hd
    | some a =>
      have hl : (loadCells a 0).run P w = .ok (([] : List Int).map (Value.int .u8)).toArray w := rfl
      have := run_bytesToString (P := P) w a 0 c [] (by simpa using hl)
      rw [run_convert_bytes_string w src dst e (some a) _ c hs he hd]
      exact this

theorem Bs.convert {P : Program} {w : World} {B : Nat} {v : Value} {bs : List Int} (h : Bs w B v bs) {src e dst : TypeId} (hs : P.underlying src = some (.slice e)) (he : P.underlying e = some (.int .u8)) (hd : P.underlying dst = some .string) :
    (convert src dst v).run P w = .ok (.string (strOfNums bs)) w := by
  obtain ⟨⟨hl, A, c, rfl, hc, hm, hz, hr⟩, hb⟩ := h
  refine run_convert_bytes_any w A c bs hs he hd fun hn => ?_
  obtain ⟨b, o, hA, hr⟩ := hr hn
  exact ⟨b, o, hA, hr.2⟩

theorem str_beq (a b : ByteArray) : (a == b) = decide (a = b) := by
  cases a with | mk a => cases b with | mk b =>
  show (a == b) = _
  rw [Bool.eq_iff_iff]
  simp

theorem str_eq {xs ys : List Int} (hx : ∀ x ∈ xs, IsByte x) (hy : ∀ x ∈ ys, IsByte x) : (strOfNums xs == strOfNums ys) = decide (xs = ys) := by
  rw [str_beq]
  exact decide_eq_decide.2 ⟨fun h => strOfNums_inj xs ys hx hy h, fun h => by rw [h]⟩
theorem str_eqL {xs ys : List Int} (hx : ∀ x ∈ xs, IsByte x) (hy : ∀ x ∈ ys, IsByte x) : ((strOfNums xs).toList == (strOfNums ys).toList) = decide (xs = ys) := by
  rw [← beq_toListBytes, str_eq hx hy]
end Go.Proofs.YtakiinghipjopaaGreatDoor
