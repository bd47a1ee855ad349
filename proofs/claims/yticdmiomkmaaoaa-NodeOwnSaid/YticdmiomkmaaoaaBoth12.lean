/-
  The document's own answer: Both.
-/
import Derived.Test.YticdmiomkmaaoaaPart12
namespace Go.Proofs.Yticdmiomkmaaoaa
open Go.RowKit

theorem run_append_us {w : World} {base : Nat} {v : Value} {xs : List Int} (ty : TypeId) (hown : OwnU w base v xs) {B : Nat} {vx : Value} {ys : List Int} (hx : Us w B vx ys) (hb : xs.length + ys.length ≤ 1000000) (hbase : base ≤ w.heap.size) :
    ∃ A n c w', (Builtin.append_ #[51, 51] ty #[v, vx]).run Try.prog w = .ok (.slice A n c) w' ∧ OwnU w' base (.slice A n c) (xs ++ ys) ∧ w.grownBy w' v.ownBlock ∧ ((Value.slice A n c).ownBlock = v.ownBlock ∨ (Value.slice A n c).ownBlock = some w.heap.size) := by
  obtain ⟨i, hi, hz, hsz, hby⟩ := infoU64i
  obtain ⟨Av, nv, cv, rfl⟩ := hown.formN
  obtain ⟨A, c, rfl, hc, hm, hz2⟩ := hx.form
  cases A with
  | none =>
    have hc0 := hz2 rfl
    have hy : ys = [] := List.eq_nil_of_length_eq_zero (by omega)
    subst hy
    subst hc0
    have := run_append_owned_none (P := Try.prog) (w := w) base 51 ty 23 i 1 Try.underlying51 hi _ xs.length _ hown
    exact ⟨_, _, _, w, this, by simpa using hown, ⟨rfl, rfl, rfl, Nat.le_refl _, fun _ _ _ => rfl⟩, .inl rfl⟩
  | some ad =>
    obtain ⟨v', w', hr, h2, h3, _, h4⟩ := run_append_own_at (P := Try.prog) w base 51 ty 23 i (.int .u64 0) 1 8 Try.underlying51 hi hz hsz hby rfl (by omega) _ xs.length _ hown ad ys.length c (ys.map (.int .u64)) (by simp)
      (fun j u hu => by
        have hn : 0 < ys.length := by
          rcases Nat.eq_zero_or_pos ys.length with h | h
          · simp [List.eq_nil_of_length_eq_zero h] at hu
          · exact h
        obtain ⟨b, o, c2, hv, _, _, hr⟩ := hx.1.row hn
        cases hv
        rw [add_mk]; exact hr.2 j u hu) (u64s_one ys) (by unfold maxLen; omega) (by omega) hbase
    have h5 : OwnU w' base v' (xs ++ ys) := by unfold OwnU; rw [List.length_append, List.map_append]; exact h2
    obtain ⟨A', n', c', rfl⟩ := h5.formN
    exact ⟨A', n', c', w', hr, h5, h3, h4⟩
section
variable {ops : Array Oper} {w : World} {Q : Exit → Act → World → Prop} {a : Act} {rest : List Oper} {dst : Option Tmp} {os ox : Operand} {ty : TypeId} {pos : String} {after : Array Edge}
theorem wl_append_us {base : Nat} {v : Value} {xs : List Int} (hown : OwnU w base v xs) {B : Nat} {vx : Value} {ys : List Int} (hx : Us w B vx ys)
    (hb : xs.length + ys.length ≤ 1000000) (hbase : base ≤ w.heap.size) (hs : a.eval os = v) (hxx : a.eval ox = vx)
    (hK : ∀ A n c w', OwnU w' base (.slice A n c) (xs ++ ys) → w.grownBy w' v.ownBlock → ((Value.slice A n c).ownBlock = v.ownBlock ∨ (Value.slice A n c).ownBlock = some w.heap.size) → wpList Try.prog ops Q rest (a.put dst (.slice A n c)) w') :
    wpList Try.prog ops Q (⟨dst, .call { callee := .builtin .append, args := #[os, ox], argTypes := #[51, 51] }, ty, pos, after, none⟩ :: rest) a w := by
  refine wpList_plain rfl fun K hKK => ?_
  obtain ⟨A, n, c, w', hr, h2, h3, h4⟩ := run_append_us ty hown hx hb hbase
  unfold Oper.wp execOp
  simp only [resolve, invoke, builtin, Sem.run_bind, Sem.run_pure, Result.andThen_ok, List.map_toArray, List.map_cons, List.map_nil, hs, hxx, hr]
  exact hKK _ _ (hK A n c w' h2 h3 h4)
end
theorem own_keep1 {w : World} {base b i : Nat} {v u : Value} {xs : List Int} (h : OwnU w base v xs) (hne : some b ≠ v.ownBlock) : OwnU (w.setCell ⟨b, i, none⟩ u) base v xs := by
  refine World.ownsRow.kept (row := some b) h ⟨rfl, rfl, rfl, by simp, fun k hk hk2 => ?_⟩ ?_
  · have hkb : k ≠ b := fun e => hk2 (by rw [e])
    rw [Below.heap_setCell _ _ _ _ hkb]
  · cases hv : v.ownBlock with
    | none => exact .inl rfl
    | some k => exact .inr (fun e => hne (by rw [hv]; exact e.symm))
/-- two rows of a node, apart -/
structure Two (w : World) (base : Nat) (s1 s2 : Value) (l1 l2 : List Int) : Prop where
  o1 : OwnU w base s1 l1
  o2 : OwnU w base s2 l2
  ne : ∀ g, s2.ownBlock = some g → s1.ownBlock ≠ some g
theorem Two.app1 {w w' : World} {base : Nat} {s1 s2 s : Value} {l1 l2 l : List Int} (h : Two w base s1 s2 l1 l2) (ho : OwnU w' base s l) (hg : w.grownBy w' s1.ownBlock) (hn : s.ownBlock = s1.ownBlock ∨ s.ownBlock = some w.heap.size) : Two w' base s s2 l l2 := by
  refine ⟨ho, World.ownsRow.kept h.o2 hg ?_, fun g hg2 hg3 => ?_⟩
  · cases hv : s2.ownBlock with
    | none => exact .inl rfl
    | some g => exact .inr (fun e => h.ne g hv e.symm)
  · rcases hn with e | e
    · exact h.ne g hg2 (e ▸ hg3)
    · rw [e] at hg3
      have := (h.o2.lt g hg2).2
      cases hg3
      omega
theorem Two.app2 {w w' : World} {base : Nat} {s1 s2 s : Value} {l1 l2 l : List Int} (h : Two w base s1 s2 l1 l2) (ho : OwnU w' base s l) (hg : w.grownBy w' s2.ownBlock) (hn : s.ownBlock = s2.ownBlock ∨ s.ownBlock = some w.heap.size) : Two w' base s1 s l1 l := by
  refine ⟨World.ownsRow.kept h.o1 hg ?_, ho, fun g hg2 hg3 => ?_⟩
  · cases hv : s1.ownBlock with
    | none => exact .inl rfl
    | some g => exact .inr (fun e => h.ne g e.symm hv)
  · rcases hn with e | e
    · exact h.ne g (e ▸ hg2) hg3
    · rw [e] at hg2
      have := (h.o1.lt g hg3).2
      cases hg2
      omega

set_option maxRecDepth 100000 in
set_option maxHeartbeats 4000000 in
theorem both_any (w : World) (B : Nat) (va vb : Value) (a b : Nd) (ha : NdAt w B va a) (hb : NdAt w B vb b) (hB : B ≤ w.heap.size) (hl : a.ks.length = a.vs.length) (hla : a.ks.length ≤ 500) (hlb : b.ks.length ≤ 500 ∧ b.vs.length ≤ 500) :
    Calls Try.prog 51 #[va, vb] w fun e w' => ∃ A1 n1 c1 A2 n2 c2, e = .returned (.agg #[.bool a.leaf, .slice A1 n1 c1, .slice A2 n2 c2]) ∧ NdOf w' w.heap.size ⟨a.leaf, a.ks ++ b.ks, a.vs ++ b.vs⟩ A1 n1 c1 A2 n2 c2 ∧ (∀ g, (Value.slice A2 n2 c2).ownBlock = some g → (Value.slice A1 n1 c1).ownBlock ≠ some g) ∧ Below w.heap.size w w' := by
  obtain ⟨la, ka, xa⟩ := a
  obtain ⟨lb, kb, xb⟩ := b
  obtain ⟨v1, v2, rfl, h1, h2⟩ := ha
  obtain ⟨v3, v4, rfl, h3, h4⟩ := hb
  obtain ⟨Aa, ca, rfl, -⟩ := h1.form
  obtain ⟨Ba, da, rfl, -⟩ := h2.form
  obtain ⟨Ab, cb, rfl, -⟩ := h3.form
  obtain ⟨Bb, db, rfl, -⟩ := h4.form
  simp only at h1 h2 h3 h4 hl hla hlb
  obtain ⟨na, hna⟩ : ∃ n, n = ka.length := ⟨_, rfl⟩
  obtain ⟨ma, hma⟩ : ∃ n, n = xa.length := ⟨_, rfl⟩
  obtain ⟨nb, hnb⟩ : ∃ n, n = kb.length := ⟨_, rfl⟩
  obtain ⟨mb, hmb⟩ : ∃ n, n = xb.length := ⟨_, rfl⟩
  simp only
  rw [← hna] at h1 ⊢
  rw [← hma] at h2 ⊢
  rw [← hnb] at h3 ⊢
  rw [← hmb] at h4 ⊢
  have HL : Hid (na = ka.length ∧ na = xa.length ∧ na ≤ 500 ∧ kb.length ≤ 500 ∧ xb.length ≤ 500) := ⟨hna, by omega, by omega, hlb.1, hlb.2⟩
  have VA0 : Nv (w.alloc (.cells #[.bool la, .slice Aa na ca, .slice Ba ma da] 53)) w.heap.size (.slice Aa na ca) (.slice Ba ma da) ⟨la, ka, xa⟩ := ⟨heap_alloc_new w _, (h1.alloc hB _).more (by simp; omega), (h2.alloc hB _).more (by simp; omega)⟩
  have VB0 : Nv ((w.alloc (.cells #[.bool la, .slice Aa na ca, .slice Ba ma da] 53)).alloc (.cells #[.bool lb, .slice Ab nb cb, .slice Bb mb db] 53)) (w.heap.size + 1) (.slice Ab nb cb) (.slice Bb mb db) ⟨lb, kb, xb⟩ := ⟨heap_alloc_new2 w _ _, ((h3.alloc hB _).alloc (by simp; omega) _).more (by simp; omega), ((h4.alloc hB _).alloc (by simp; omega) _).more (by simp; omega)⟩
  have VA : Hid (Nv (((w.alloc (.cells #[.bool la, .slice Aa na ca, .slice Ba ma da] 53)).alloc (.cells #[.bool lb, .slice Ab nb cb, .slice Bb mb db] 53)).alloc (.cells #[.bool false, .slice none 0 0, .slice none 0 0] 53)) w.heap.size (.slice Aa na ca) (.slice Ba ma da) ⟨la, ka, xa⟩) := (VA0.on (bel1 _ _)).on (bel1 _ _)
  have VB : Hid (Nv (((w.alloc (.cells #[.bool la, .slice Aa na ca, .slice Ba ma da] 53)).alloc (.cells #[.bool lb, .slice Ab nb cb, .slice Bb mb db] 53)).alloc (.cells #[.bool false, .slice none 0 0, .slice none 0 0] 53)) (w.heap.size + 1) (.slice Ab nb cb) (.slice Bb mb db) ⟨lb, kb, xb⟩) := VB0.on (bel1 _ _)
  have R4 : Hid ((((w.alloc (.cells #[.bool la, .slice Aa na ca, .slice Ba ma da] 53)).alloc (.cells #[.bool lb, .slice Ab nb cb, .slice Bb mb db] 53)).alloc (.cells #[.bool false, .slice none 0 0, .slice none 0 0] 53)).heap[w.heap.size + 1 + 1]? = some (.cells #[.bool false, .slice none 0 0, .slice none 0 0] 53 (0, 0))) := heap_alloc_new3 w _ _ _
  have HB3 : Hid (Below w.heap.size w (((w.alloc (.cells #[.bool la, .slice Aa na ca, .slice Ba ma da] 53)).alloc (.cells #[.bool lb, .slice Ab nb cb, .slice Bb mb db] 53)).alloc (.cells #[.bool false, .slice none 0 0, .slice none 0 0] 53)) ∧ w.heap.size + 1 + 1 < (((w.alloc (.cells #[.bool la, .slice Aa na ca, .slice Ba ma da] 53)).alloc (.cells #[.bool lb, .slice Ab nb cb, .slice Bb mb db] 53)).alloc (.cells #[.bool false, .slice none 0 0, .slice none 0 0] 53)).heap.size) := ⟨((bel1 _ _).alloc (by simp) _).alloc (by simp; omega) _, by simp⟩
  clear h1 h2 h3 h4 hna hma hnb hmb hl hla hlb VA0 VB0 hB
  go_enter Try.func51, Try.ntmps51
  go_wp2_with fail
  generalize (((w.alloc (.cells #[.bool la, .slice Aa na ca, .slice Ba ma da] 53)).alloc (.cells #[.bool lb, .slice Ab nb cb, .slice Bb mb db] 53)).alloc (.cells #[.bool false, .slice none 0 0, .slice none 0 0] 53)) = W3 at *
  refine (part_any W3 W3.heap.size _ ⟨la, ka, xa⟩ 0 na VA.out.at (Nat.le_refl _) (Nat.zero_le _) (by have := HL.out; simp only; omega) (by have := HL.out; simp only; omega) (by have := HL.out; omega)).mono ?_
  rintro e w4 ⟨A1, n1, c1, A2, n2, c2, rfl, O, hne, b4⟩
  have T0 : Two w4 W3.heap.size (.slice A1 n1 c1) (.slice A2 n2 c2) ka xa := by
    refine ⟨?_, ?_, hne⟩
    · have := O.1; simp only at this; rwa [List.take_of_length_le (by have := HL.out; omega), List.drop_zero] at this
    · have := O.2; simp only at this; rwa [List.take_of_length_le (by have := HL.out; omega), List.drop_zero] at this
  have hb5 := b4.trans ((bel1 w4 (.cells #[.bool la, .slice A1 n1 c1, .slice A2 n2 c2] 53)).mono b4.size)
  have T1 : Hid (Two (w4.alloc (.cells #[.bool la, .slice A1 n1 c1, .slice A2 n2 c2] 53)) W3.heap.size (.slice A1 n1 c1) (.slice A2 n2 c2) ka xa) := ⟨T0.o1.alloc _, T0.o2.alloc _, T0.ne⟩
  have R5 : Hid ((w4.alloc (.cells #[.bool la, .slice A1 n1 c1, .slice A2 n2 c2] 53)).heap[w4.heap.size]? = some (.cells #[.bool la, .slice A1 n1 c1, .slice A2 n2 c2] 53 (0, 0))) := heap_alloc_new w4 _
  have Hp1 : Hid (some w4.heap.size ≠ (Value.slice A1 n1 c1).ownBlock) := fun e => by have := (T0.o1.lt _ e.symm).2; omega
  have Hp2 : Hid (some w4.heap.size ≠ (Value.slice A2 n2 c2).ownBlock) := fun e => by have := (T0.o2.lt _ e.symm).2; omega
  have Hp4 : Hid (W3.heap.size ≤ w4.heap.size) := b4.size
  have Hs5 : Hid ((w4.alloc (.cells #[.bool la, .slice A1 n1 c1, .slice A2 n2 c2] 53)).heap.size = w4.heap.size + 1) := by show _ = _; simp
  have HB5 := Lib.hid hb5
  obtain ⟨s0, s1, s2, -⟩ := cells3 (VB.out.on hb5).1
  have US : Hid (Us (w4.alloc (.cells #[.bool la, .slice A1 n1 c1, .slice A2 n2 c2] 53)) W3.heap.size (.slice Ab nb cb) kb) := VB.out.2.1.on hb5
  clear O hne b4 hb5 T0 VA
  generalize hW5 : (w4.alloc (.cells #[.bool la, .slice A1 n1 c1, .slice A2 n2 c2] 53)) = W5 at *
  obtain ⟨r0, r1, r2, rf0, rf1, rf2⟩ := cells3 R5.out
  go_wp2_with (first
    | ((with_reducible refine wl_append_us (os := .tmp 12) (ox := .tmp 14) (base := W3.heap.size) (xs := ka) T1.out.o1 US.out ?_ ?_ ?_ ?_ ?_); go_must ((· have := HL.out; omega); (· exact HB5.out.size); (· rfl); (· rfl); intro A3 n3 c3 w6 ho6 hg6 hn6; have T2 := Lib.hid (T1.out.app1 ho6 hg6 hn6); have R7 : Hid ((w6.setCell ⟨w4.heap.size, 1, none⟩ (.slice A3 n3 c3)).heap[w4.heap.size]? = some (.cells #[.bool la, .slice A3 n3 c3, .slice A2 n2 c2] 53 (0, 0))) := (set_row3_1 (row_grown R5.out hg6 Hp1.out)); have Hp3 : Hid (some w4.heap.size ≠ (Value.slice A3 n3 c3).ownBlock) := (fun e => by rcases hn6 with h | h; exact Hp1.out (e.trans h); (rw [h] at e; have := Hs5.out; have e2 := Option.some.inj e; omega)); have HB7 : Hid (Below W3.heap.size W3 (w6.setCell ⟨w4.heap.size, 1, none⟩ (.slice A3 n3 c3))) := ((HB5.out.grown hg6 HB5.out.size T1.out.o1.own_le).setCell Hp4.out _); have T3 : Hid (Two (w6.setCell ⟨w4.heap.size, 1, none⟩ (.slice A3 n3 c3)) W3.heap.size (.slice A3 n3 c3) (.slice A2 n2 c2) (ka ++ kb) xa) := (⟨own_keep1 T2.out.o1 Hp3.out, own_keep1 T2.out.o2 Hp2.out, T2.out.ne⟩); have US2 : Hid (Us (w6.setCell ⟨w4.heap.size, 1, none⟩ (.slice A3 n3 c3)) W3.heap.size (.slice Bb mb db) xb) := (VB.out.2.2.on HB7.out); have R6 := Lib.hid (row_grown R5.out hg6 Hp1.out); (obtain ⟨_, x1, _, _, xf1, _⟩ := cells3 R6.out); (obtain ⟨t0, t1, t2, tf0, tf1, tf2⟩ := cells3 R7.out); (obtain ⟨u0, u1, u2, -⟩ := cells3 (VB.out.on HB7.out).1); clear ho6 hg6 hn6))
    | ((with_reducible refine wl_append_us (os := .tmp 18) (ox := .tmp 20) (base := W3.heap.size) (xs := xa) T3.out.o2 US2.out ?_ ?_ ?_ ?_ ?_); go_must ((· have := HL.out; omega); (· exact HB7.out.size); (· rfl); (· rfl); intro A5 n5 c5 w8 ho8 hg8 hn8; have T4 := Lib.hid (T3.out.app2 ho8 hg8 hn8); have R9 : Hid ((w8.setCell ⟨w4.heap.size, 2, none⟩ (.slice A5 n5 c5)).heap[w4.heap.size]? = some (.cells #[.bool la, .slice A3 n3 c3, .slice A5 n5 c5] 53 (0, 0))) := (set_row3_2 (row_grown R7.out hg8 Hp2.out)); have Hp5 : Hid (some w4.heap.size ≠ (Value.slice A5 n5 c5).ownBlock) := (fun e => by rcases hn8 with h | h; exact Hp2.out (e.trans h); (rw [h] at e; have := HB7.out.size; have := Hs5.out; have h9 := (Array.getElem?_eq_some_iff.1 R7.out).1; have e2 := Option.some.inj e; omega)); have HB9 : Hid (Below W3.heap.size W3 (w8.setCell ⟨w4.heap.size, 2, none⟩ (.slice A5 n5 c5))) := ((HB7.out.grown hg8 HB7.out.size T3.out.o2.own_le).setCell Hp4.out _); have T5 : Hid (Two (w8.setCell ⟨w4.heap.size, 2, none⟩ (.slice A5 n5 c5)) W3.heap.size (.slice A3 n3 c3) (.slice A5 n5 c5) (ka ++ kb) (xa ++ xb)) := (⟨own_keep1 T4.out.o1 Hp3.out, own_keep1 T4.out.o2 Hp5.out, T4.out.ne⟩); have R49 := Lib.hid ((HB9.out.block _ HB3.out.2).trans R4.out); have R8 := Lib.hid (row_grown R7.out hg8 Hp2.out); (obtain ⟨_, _, x2, _, _, xf2⟩ := cells3 R8.out); (obtain ⟨t0', t1', t2', tf0', tf1', tf2'⟩ := cells3 R9.out); (obtain ⟨g0, g1, g2, gf0, gf1, gf2⟩ := cells3 R49.out); clear ho8 hg8 hn8)))
  refine bodyPost_ret (ret_cell1 rfl rfl (set3_load R49.out)) rfl ?_
  have hs3 := HB3.out.2
  exact ⟨_, _, _, _, _, _, rfl, ⟨(own_set3 T5.out.o1 (by omega)).less HB3.out.1.size, (own_set3 T5.out.o2 (by omega)).less HB3.out.1.size⟩, T5.out.ne, below_set3 (HB3.out.1.trans (HB9.out.mono HB3.out.1.size)) (by omega)⟩
end Go.Proofs.Yticdmiomkmaaoaa
