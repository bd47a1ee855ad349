/-
  The contracts of table's small functions and of the references' comparison of bytes.
-/
import Derived.Test.YticdmiomkmaaoaaKit
import Derived.DeepKeys4
namespace Go.Proofs.Yticdmiomkmaaoaa
open Go.RowKit
open Go.Maps (Keyed)

theorem uBytes : Try.prog.underlying 26 = some (.slice 5) := Try.underlying26
theorem uByte : Try.prog.underlying 5 = some (.int .u8) := Try.underlying5
theorem uString : Try.prog.underlying 9 = some .string := Try.underlying9

theorem equal_any (w : World) (B : Nat) (x y : Value) (xs ys : List Int) (hx : Bs w B x xs) (hy : Bs w B y ys) :
    Calls Try.prog 18 #[x, y] w fun e w' => e = .returned (.bool (decide (xs = ys))) ∧ w = w' := by
  have c1 := hx.convert uBytes uByte uString
  have c2 := hy.convert uBytes uByte uString
  have c3 := str_eqL hx.2 hy.2
  clear hx hy
  go_enter Try.func18, Try.ntmps18
  go_wp2
  go_ret
  exact ⟨rfl, rfl⟩

theorem tnone_nil (w : World) :
    Calls Try.prog 45 #[.pointer none] w fun e w' => e = .returned (.bool true) ∧ w = w' := by
  go_enter Try.func45, Try.ntmps45
  go_wp2
  go_ret
  exact ⟨rfl, rfl⟩

theorem tnone_some (w : World) (t : Nat) (m : Option Nat) (h : w.cell? ⟨t, 0, none⟩ = some (.map m)) :
    Calls Try.prog 45 #[.pointer (some ⟨t, 0, none⟩)] w fun e w' => e = .returned (.bool m.isNone) ∧ w = w' := by
  have q := fun (w : World) (r : Option Nat) => run_eql_map_nil (P := Try.prog) w 45 81 23 r Try.underlying45
  go_enter Try.func45, Try.ntmps45
  go_wp2
  go_ret
  exact ⟨rfl, rfl⟩

theorem tnone_yes (w : World) (t : Nat) (h : w.cell? ⟨t, 0, none⟩ = some (.map none)) :
    Calls Try.prog 45 #[.pointer (some ⟨t, 0, none⟩)] w fun e w' => e = .returned (.bool true) ∧ w = w' := tnone_some w t none h
theorem tnone_no (w : World) (t m : Nat) (h : w.cell? ⟨t, 0, none⟩ = some (.map (some m))) :
    Calls Try.prog 45 #[.pointer (some ⟨t, 0, none⟩)] w fun e w' => e = .returned (.bool false) ∧ w = w' := tnone_some w t (some m) h

/-! ### the table in memory -/

theorem mapM_some {α β : Type} {f : α → Option β} {l : List α} (h : ∀ x ∈ l, ∃ y, f x = some y) : ∃ ys, l.mapM f = some ys := by
  induction l with
  | nil => exact ⟨[], rfl⟩
  | cons x r ih =>
    obtain ⟨y, hy⟩ := h x (by simp)
    obtain ⟨ys, hys⟩ := ih (fun z hz => h z (by simp [hz]))
    exact ⟨y :: ys, by simp [List.mapM_cons, hy, hys]⟩

theorem uBlock : Try.prog.underlying 81 = some (.array 128 5) := Try.underlying81
theorem uBlockCells : Try.prog.cellsOf 81 = 128 := by kernel_rfl
theorem uByteCells : Try.prog.cellsOf 5 = 1 := by kernel_rfl

/-- how a block's bytes are as a key -/
def ekBlock (bs : List Int) : Value := .agg (bs.map (.int .u8)).toArray
def eu64 (n : Int) : Value := .int .u64 n
def ei64 (n : Int) : Value := .int .i64 n
theorem ekBlock_inj (a b : List Int) (h : ekBlock a = ekBlock b) : a = b := by
  unfold ekBlock at h
  simp only [Value.agg.injEq] at h
  have h1 : a.map (Value.int .u8) = b.map (Value.int .u8) := by simpa using congrArg Array.toList h
  exact (List.map_inj_right (fun x y e => by cases e; rfl)).1 h1
theorem eu64_inj (a b : Int) (h : eu64 a = eu64 b) : a = b := by cases h; rfl

theorem kBlock : Keyed Try.prog 81 := by
  have h : WideMaps.KeyLaw Try.prog 81 := Go.deep_law_laid (P := Try.prog) (by kernel_rfl) (m := 2) (by omega) (of_decide_eq_true (by kernel_rfl)) (by kernel_rfl) (by rw [uBlock])
  exact Keyed.of_law h
theorem kU64 : Keyed Try.prog 23 := Maps.int_keyed Try.underlying23

theorem keyOf_block (bs : List Int) (hl : bs.length = 128) (hb : ∀ x ∈ bs, IsByte x) : ∃ l, keyOf Try.prog 81 (ekBlock bs) = some l := by
  have hlits : ∃ ls, Try.prog.keyLits (Try.prog.types.size + 1) 81 (bs.map (.int .u8)) = some ls := by
    obtain ⟨n, hn⟩ : ∃ n, Try.prog.types.size + 1 = n + 2 := ⟨Try.prog.types.size - 1, by have : 1 < Try.prog.types.size := of_decide_eq_true (by kernel_rfl); omega⟩
    rw [hn]
    unfold Program.keyLits
    rw [uBlock]
    simp only [uBlockCells, uByteCells, List.length_map, hl, ↓reduceIte]
    obtain ⟨ls, h⟩ := mapM_some (f := fun i => Try.prog.keyLits (n + 1) 5 (((bs.map (.int .u8)).drop (i * 1)).take 1)) (l := List.range 128) (fun i hi => by
      have hi' : i < bs.length := by have := List.mem_range.1 hi; omega
      have hx := hb bs[i] (List.getElem_mem hi')
      have e : ((bs.map (Value.int .u8)).drop (i * 1)).take 1 = [.int .u8 bs[i]] := by
        rw [Nat.mul_one, List.drop_eq_getElem_cons (by simpa using hi')]
        simp
      refine ⟨[.int .u8 bs[i]], ?_⟩
      rw [e]
      unfold Program.keyLits
      rw [uByte]
      unfold IsByte at hx
      simp [Lit.wf, IntKind.min, IntKind.max, IntKind.signed, IntKind.bits]
      omega)
    rw [h]
    exact ⟨_, rfl⟩
  obtain ⟨ls, h⟩ := hlits
  have ht : Try.prog.keyType 81 = true := by kernel_rfl
  have hf : (ekBlock bs).formed Try.prog 81 = true := by
    simp [ekBlock, Value.formed, uBlockCells, hl]
  refine ⟨.string (keyBytes ls), ?_⟩
  unfold keyOf
  rw [uBlock]
  simp only [ht, hf, Bool.and_self, if_true]
  have : (ekBlock bs).cells.toList = bs.map (.int .u8) := by simp [ekBlock, Value.cells]
  rw [this, h]
  rfl
theorem keyOf_u64 (n : Int) (h : IsU64 n) : ∃ l, keyOf Try.prog 23 (eu64 n) = some l :=
  ⟨_, Maps.keyOf_int_mk Try.underlying23 (by unfold IsU64 at h; simp [Lit.wf, IntKind.min, IntKind.max, IntKind.signed, IntKind.bits]; omega)⟩


theorem run_arrayAt (w : World) (a : Option Addr) (c : Nat) : (Instr.arrayAt 81 (.slice a 128 c)).run Try.prog w = .ok (.pointer a) w := by
  simp [Instr.arrayAt, run_underlying uBlock]
theorem run_load_block (w : World) (B b o : Nat) (bs : List Int) (hl : bs.length = 128) (h : Row w B b o (bs.map (.int .u8))) :
    (Instr.loadAt 81 (.pointer (some ⟨b, o, none⟩))).run Try.prog w = .ok (ekBlock bs) w := by
  have h1 := run_loadCells_list (P := Try.prog) w ⟨b, o, none⟩ (bs.map (.int .u8)) (fun j v hj => by rw [add_mk]; exact h.2 j v hj)
  simp only [List.length_map, hl] at h1
  have h2 : (isAgg 81).run Try.prog w = .ok true w := by kernel_rfl
  have h3 : (sizeOf 81).run Try.prog w = .ok 128 w := by kernel_rfl
  have h4 : (Instr.sureAddr (.pointer (some ⟨b, o, none⟩))).run Try.prog w = .ok ⟨b, o, none⟩ w := rfl
  simp [Instr.loadAt, loadVar, h1, h2, h3, h4, ekBlock, Result.andThen]

theorem infoBlock : (Try.prog.info? 81).map (fun i => (i.zero, i.size)) = some (some (.agg (Array.replicate 128 (.int .u8 0))), 128) := by kernel_rfl
theorem infoBlock' (bs : List Int) (h : bs.length = 128) : (Try.prog.info? 81).map (fun i => (i.zero, i.size)) = some (some (.agg (Array.replicate 128 (.int .u8 0))), (bs.map (Value.int .u8)).toArray.size) := by
  simp only [List.size_toArray, List.length_map, h]
  exact infoBlock
theorem oneBlock (bs : List Int) : ((bs.map (Value.int .u8)).toArray).all (·.oneCell') = true := by
  rw [Array.all_eq_true]
  intro i hi
  simp [Value.oneCell']
theorem run_load_new_block (w : World) (bs : List Int) (h : bs.length = 128) :
    (Instr.loadAt 81 (.pointer (some ⟨w.heap.size, 0, none⟩))).run Try.prog (w.alloc (.cells (bs.map (Value.int .u8)).toArray 81)) = .ok (ekBlock bs) (w.alloc (.cells (bs.map (Value.int .u8)).toArray 81)) :=
  run_loadAt_new w _ _ 128 _ uBlock (zero_of_info (infoBlock' bs h)).2

/-- Block t is a Table with these pairs, these counts and this rest. -/
def TabAt (w : World) (t m1 m2 : Nat) (kv : List (List Int × Int)) (ov : List (Int × Int)) (rest : Int) : Prop :=
  w.heap[t]? = some (.cells #[.map (some m1), .map (some m2), .int .u64 rest] 48 (0, 0)) ∧
    MapOf w Try.prog 81 m1 ekBlock eu64 kv ∧ MapOf w Try.prog 23 m2 eu64 ei64 ov

theorem zero_u64 (w : World) : (zeroValue 23).run Try.prog w = .ok (.int .u64 0) w := by kernel_rfl
theorem zero_int (w : World) : (zeroValue 3).run Try.prog w = .ok (.int .i64 0) w := by kernel_rfl

theorem print_nil (w : World) (v : Value) :
    Calls Try.prog 19 #[.pointer none, v] w fun e w' => e = .returned (.tuple #[.int .u64 0, .int .i64 1]) ∧ w = w' := by
  go_enter Try.func19, Try.ntmps19
  go_wp2_with (go_at_call 45; refine (tnone_nil _).mono ?_; rintro e w' ⟨rfl, rfl⟩)
  go_ret2
  exact ⟨rfl, rfl⟩

theorem print_empty (w : World) (t : Nat) (v : Value) (h : w.cell? ⟨t, 0, none⟩ = some (.map none)) :
    Calls Try.prog 19 #[.pointer (some ⟨t, 0, none⟩), v] w fun e w' => e = .returned (.tuple #[.int .u64 0, .int .i64 1]) ∧ w = w' := by
  go_enter Try.func19, Try.ntmps19
  go_wp2_with (go_at_call 45; refine (tnone_some _ _ _ h).mono ?_; rintro e w' ⟨rfl, rfl⟩)
  go_ret2
  exact ⟨rfl, rfl⟩

theorem print_any (w : World) (B t m1 m2 : Nat) (kv : List (List Int × Int)) (ov : List (Int × Int)) (rest : Int) (v : Value) (bs : List Int) (hv : Bs w B v bs) (ht : TabAt w t m1 m2 kv ov rest) :
    Calls Try.prog 19 #[.pointer (some ⟨t, 0, none⟩), v] w fun e w' =>
      e = .returned (.tuple #[.int .u64 (if bs.length = 128 then (aget kv bs).getD rest else 0), .int .i64 (if bs.length = 128 then 0 else 2)]) ∧ ∃ n, w' = w.drewN n := by
  obtain ⟨htb, hm1, hm2⟩ := ht
  have t0 : w.cell? ⟨t, 0, none⟩ = some (.map (some m1)) := by simp [World.cell?, htb]
  have t2 : w.cell? ⟨t, 2, none⟩ = some (.int .u64 rest) := by simp [World.cell?, htb]
  obtain ⟨A, c, rfl, hc, hmx⟩ := hv.1.form
  clear hmx
  by_cases hl : bs.length = 128
  · simp only [hl, ↓reduceIte]
    obtain ⟨kl, hkl⟩ := keyOf_block bs hl hv.2
    obtain ⟨vb, vo, vc, hvv, hvc, hvm, hrow⟩ := hv.1.row (by omega)
    cases hvv
    have harr := fun w => run_arrayAt w (some ⟨vb, vo, none⟩) c
    have hload := fun n => run_load_block (w.drewN n) B vb vo bs hl (by exact hrow)
    have hl' : ((bs.length : Int) == 128) = true := by simp; omega
    have hl2 : ((bs.length : Int) != 128) = false := by simp; omega
    cases hg : aget kv bs
    · have hlook := fun n => MapOf.look_no (hm1.drewN n) kBlock ekBlock_inj Try.underlying45 (zero_u64 _) hkl hg
      clear hl hrow hv hm1 hm2 htb hkl hc hvc hvm hg
      simp only [Option.getD_none]
      go_enter Try.func19, Try.ntmps19
      go_wp2_with (go_at_call 45; refine (tnone_some _ _ _ t0).mono ?_; rintro e w' ⟨rfl, rfl⟩)
      refine wp_region_quiet_lit (by kernel_rfl) (by kernel_rfl) ?_
      repeat (first | ((with_reducible refine qload (t := 81) (.pointer (some ⟨vb, vo, none⟩)) (ekBlock bs) ?_ ?_ ?_); (· rfl); (· rintro _ ⟨n, rfl⟩; exact hload n); go_frame) | go_big_quiet_step (fail))
      refine wpQuiet_nil ?_
      rintro _ ⟨nq, rfl⟩
      go_wp2
      go_ret2
      exact ⟨rfl, _, rfl⟩
    · rename_i x
      have hlook := fun n => MapOf.look_yes (hm1.drewN n) kBlock ekBlock_inj Try.underlying45 (zero_u64 _) hkl hg
      clear hl hrow hv hm1 hm2 htb hkl hc hvc hvm hg
      simp only [Option.getD_some]
      unfold eu64 at hlook
      go_enter Try.func19, Try.ntmps19
      go_wp2_with (go_at_call 45; refine (tnone_some _ _ _ t0).mono ?_; rintro e w' ⟨rfl, rfl⟩)
      refine wp_region_quiet_lit (by kernel_rfl) (by kernel_rfl) ?_
      repeat (first | ((with_reducible refine qload (t := 81) (.pointer (some ⟨vb, vo, none⟩)) (ekBlock bs) ?_ ?_ ?_); (· rfl); (· rintro _ ⟨n, rfl⟩; exact hload n); go_frame) | go_big_quiet_step (fail))
      refine wpQuiet_nil ?_
      rintro _ ⟨nq, rfl⟩
      go_wp2
      go_ret2
      exact ⟨rfl, _, rfl⟩
  · simp only [hl, ↓reduceIte]
    have hl' : ((bs.length : Int) == 128) = false := by simp; omega
    have hl2 : ((bs.length : Int) != 128) = true := by simp; omega
    clear hm1 hm2 hv htb
    go_enter Try.func19, Try.ntmps19
    go_wp2_with (go_at_call 45; refine (tnone_some _ _ _ t0).mono ?_; rintro e w' ⟨rfl, rfl⟩)
    go_ret2
    exact ⟨rfl, 0, rfl⟩


theorem len_nil (w : World) :
    Calls Try.prog 21 #[.pointer none] w fun e w' => e = .returned (.int .i64 0) ∧ w = w' := by
  go_enter Try.func21, Try.ntmps21
  go_wp2_with (go_at_call 45; refine (tnone_nil _).mono ?_; rintro e w' ⟨rfl, rfl⟩)
  go_ret
  exact ⟨rfl, rfl⟩
theorem len_empty (w : World) (t : Nat) (h : w.cell? ⟨t, 0, none⟩ = some (.map none)) :
    Calls Try.prog 21 #[.pointer (some ⟨t, 0, none⟩)] w fun e w' => e = .returned (.int .i64 0) ∧ w = w' := by
  go_enter Try.func21, Try.ntmps21
  go_wp2_with (go_at_call 45; refine (tnone_some _ _ _ h).mono ?_; rintro e w' ⟨rfl, rfl⟩)
  go_ret
  exact ⟨rfl, rfl⟩
theorem len_any (w : World) (t m1 m2 : Nat) (kv : List (List Int × Int)) (ov : List (Int × Int)) (rest : Int) (ht : TabAt w t m1 m2 kv ov rest) :
    Calls Try.prog 21 #[.pointer (some ⟨t, 0, none⟩)] w fun e w' => e = .returned (.int .i64 kv.length) ∧ w = w' := by
  obtain ⟨htb, hm1, hm2⟩ := ht
  have t0 : w.cell? ⟨t, 0, none⟩ = some (.map (some m1)) := by simp [World.cell?, htb]
  have h1 := hm1.len Try.underlying45
  clear htb hm1 hm2
  go_enter Try.func21, Try.ntmps21
  go_wp2_with (go_at_call 45; refine (tnone_some _ _ _ t0).mono ?_; rintro e w' ⟨rfl, rfl⟩)
  go_ret
  exact ⟨rfl, rfl⟩

theorem unlike_nil (w : World) :
    Calls Try.prog 22 #[.pointer none] w fun e w' => e = .returned (.bool false) ∧ ∃ n, w' = w.drewN n := by
  go_enter Try.func22, Try.ntmps22
  go_wp2_with fail
  go_quiet ((go_at_call 45; exact Calls.quiet_of_same ((tnone_nil _).mono fun _ _ h => ⟨h.1, h.2.symm⟩)))
  go_wp2
  go_ret
  exact ⟨rfl, _, rfl⟩
theorem unlike_empty (w : World) (t : Nat) (h : w.cell? ⟨t, 0, none⟩ = some (.map none)) :
    Calls Try.prog 22 #[.pointer (some ⟨t, 0, none⟩)] w fun e w' => e = .returned (.bool false) ∧ ∃ n, w' = w.drewN n := by
  go_enter Try.func22, Try.ntmps22
  go_wp2_with fail
  go_quiet ((go_at_call 45; exact Calls.quiet_of_same ((tnone_yes _ _ (by exact h)).mono fun _ _ h => ⟨h.1, h.2.symm⟩)))
  go_wp2
  go_ret
  exact ⟨rfl, _, rfl⟩
theorem unlike_any (w : World) (t m1 m2 : Nat) (kv : List (List Int × Int)) (ov : List (Int × Int)) (rest : Int) (ht : TabAt w t m1 m2 kv ov rest) (hk : kv.length < 1000000) :
    Calls Try.prog 22 #[.pointer (some ⟨t, 0, none⟩)] w fun e w' => e = .returned (.bool (decide (ov.length = kv.length + 1))) ∧ ∃ n, w' = w.drewN n := by
  obtain ⟨htb, hm1, hm2⟩ := ht
  have t0 : w.cell? ⟨t, 0, none⟩ = some (.map (some m1)) := by simp [World.cell?, htb]
  have t1 : w.cell? ⟨t, 1, none⟩ = some (.map (some m2)) := by simp [World.cell?, htb]
  have h1 := fun n => (hm1.drewN n).len Try.underlying45
  have h2 := fun n => (hm2.drewN n).len Try.underlying46
  clear htb hm1 hm2
  go_enter Try.func22, Try.ntmps22
  go_wp2_with fail
  go_quiet ((go_at_call 45; exact Calls.quiet_of_same ((tnone_no _ _ m1 (by exact t0)).mono fun _ _ h => ⟨h.1, h.2.symm⟩)))
  go_wp2
  go_ret
  refine ⟨ret_bool ?_, _, rfl⟩
  rw [Bool.eq_iff_iff]; simp; omega
end Go.Proofs.Yticdmiomkmaaoaa
