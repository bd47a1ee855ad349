/-
  The contract of table.New.
-/
import Derived.Test.YticdmiomkmaaoaaTab
namespace Go.Proofs.Yticdmiomkmaaoaa
open Go.RowKit
open Go.Maps (Keyed)

/-- The value v, of n pairs, reads as ps. -/
def PairsAt (w : World) (B : Nat) (v : Value) (ps : List (List Int × Int)) : Prop :=
  ∃ vs : List Value, vs.length = ps.length ∧ Sl w B 2 v ps.length ((vs.zip ps).flatMap fun (x : Value × List Int × Int) => [x.1, Value.int .u64 x.2.2]) ∧
    ∀ (i : Nat) (x : Value × List Int × Int), (vs.zip ps)[i]? = some x → Bs w B x.1 x.2.1 ∧ IsU64 x.2.2

/-- how often each fingerprint is there, the rest once -/
def often (rest : Int) (ps : List (List Int × Int)) : List (Int × Int) :=
  ps.foldl (fun ov p => aput ov p.2 ((aget ov p.2).getD 0 + 1)) [(rest, 1)]

def Good (ps : List (List Int × Int)) : Prop := (∀ p ∈ ps, p.1.length = 128) ∧ (ps.map Prod.fst).Nodup
instance (ps : List (List Int × Int)) : Decidable (Good ps) := by unfold Good; infer_instance

def newErr (ps : List (List Int × Int)) : Int := if 1000 < ps.length then 3 else if Good ps then 0 else 70

theorem flat2 (l : List (Value × List Int × Int)) (k : Nat) (x : Value × List Int × Int) (h : l[k]? = some x) :
    (l.flatMap fun (x : Value × List Int × Int) => [x.1, Value.int .u64 x.2.2])[k * 2]? = some x.1 ∧ (l.flatMap fun (x : Value × List Int × Int) => [x.1, Value.int .u64 x.2.2])[k * 2 + 1]? = some (Value.int .u64 x.2.2) := by
  induction l generalizing k with
  | nil => simp at h
  | cons y r ih =>
    cases k with
    | zero => simp at h; subst h; simp
    | succ k =>
      have := ih k (by simpa using h)
      simp only [List.flatMap_cons]
      constructor
      · rw [List.getElem?_append_right (by simp; omega)]
        have e : (k + 1) * 2 - [y.1, Value.int IntKind.u64 y.2.2].length = k * 2 := by simp; omega
        rw [e]; exact this.1
      · rw [List.getElem?_append_right (by simp; omega)]
        have e : (k + 1) * 2 + 1 - [y.1, Value.int IntKind.u64 y.2.2].length = k * 2 + 1 := by simp; omega
        rw [e]; exact this.2

theorem pair_at {w : World} {B : Nat} {A : Option Addr} {c : Nat} {ps : List (List Int × Int)} {vs : List Value} (hvl : vs.length = ps.length)
    (hs : Sl w B 2 (.slice A ps.length c) ps.length ((vs.zip ps).flatMap fun (x : Value × List Int × Int) => [x.1, Value.int .u64 x.2.2]))
    (hps : ∀ (i : Nat) (x : Value × List Int × Int), (vs.zip ps)[i]? = some x → Bs w B x.1 x.2.1 ∧ IsU64 x.2.2) (k : Nat) (hk : k < ps.length) :
    ∃ b o vk, A = some ⟨b, o, none⟩ ∧ b < B ∧ w.cell? ⟨b, o + k * 2, none⟩ = some vk ∧ w.cell? ⟨b, o + k * 2 + 1, none⟩ = some (.int .u64 ps[k].2) ∧ Bs w B vk ps[k].1 ∧ IsU64 ps[k].2 := by
  obtain ⟨b, o, c', hv, _, _, hr⟩ := hs.row (by omega)
  cases hv
  have hz : (vs.zip ps)[k]? = some (vs[k], ps[k]) := by
    rw [List.getElem?_eq_getElem (by simp; omega)]; simp
  have h2 := flat2 _ _ _ hz
  obtain ⟨h3, h4⟩ := hps k _ hz
  exact ⟨b, o, vs[k], rfl, hr.1, hr.2 _ _ h2.1, by rw [Nat.add_assoc]; exact hr.2 _ _ h2.2, h3, h4⟩

theorem new_long (w : World) (B : Nat) (v : Value) (ps : List (List Int × Int)) (rest : Int) (hv : PairsAt w B v ps) (hl : 1000 < ps.length) :
    Calls Try.prog 16 #[v, .int .u64 rest] w fun e w' => e = .returned (.tuple #[.pointer none, .int .i64 3]) ∧ w = w' := by
  obtain ⟨vs, _, hs, _⟩ := hv
  obtain ⟨A, c, rfl, _, _⟩ := hs.form
  clear hs
  have hl' : (1000 : Int) < ps.length := by omega
  go_enter Try.func16, Try.ntmps16
  go_wp2
  go_ret2
  exact ⟨rfl, rfl⟩

/-- what holds at the head of a round -/
def NewRel (w wr : World) (t : Nat) (rest : Int) (ps : List (List Int × Int)) (k : Nat) : Prop :=
  Good (ps.take k) ∧ Below w.heap.size w wr ∧ TabAt wr t w.heap.size (w.heap.size + 1) (ps.take k) (often rest (ps.take k)) rest

theorem often_bound_aux : ∀ (ps : List (List Int × Int)) (ov : List (Int × Int)) (N : Int), (∀ p ∈ ov, 0 ≤ p.2 ∧ p.2 ≤ N) → 0 ≤ N →
    ∀ p ∈ ps.foldl (fun ov p => aput ov p.2 ((aget ov p.2).getD 0 + 1)) ov, 0 ≤ p.2 ∧ p.2 ≤ N + ps.length
  | [], ov, N, h, _ => by simpa using h
  | q :: ps, ov, N, h, hN => by
    have h1 : ∀ p ∈ aput ov q.2 ((aget ov q.2).getD 0 + 1), 0 ≤ p.2 ∧ p.2 ≤ N + 1 := by
      intro p hp
      rcases aput_mem _ _ _ _ hp with h2 | rfl
      · have := h p h2; omega
      · cases hg : aget ov q.2 with
        | none => simp; omega
        | some x => have := h _ (aget_mem _ _ _ hg); simp at this ⊢; omega
    have h2 := often_bound_aux ps _ _ h1 (by omega)
    intro p hp
    have := h2 p hp
    simp only [List.length_cons]
    omega

theorem often_bound (rest : Int) (ps : List (List Int × Int)) (n : Int) : 0 ≤ (aget (often rest ps) n).getD 0 ∧ (aget (often rest ps) n).getD 0 ≤ 1 + ps.length := by
  cases hg : aget (often rest ps) n with
  | none => simp; omega
  | some x => exact often_bound_aux ps [(rest, 1)] 1 (by simp) (by omega) _ (aget_mem _ _ _ hg)

def NewPost (w : World) (ps : List (List Int × Int)) (rest : Int) (e : Ending) (w' : World) : Prop :=
  ((newErr ps = 0 ∧ ∃ t m1 m2, e = .returned (.tuple #[.pointer (some ⟨t, 0, none⟩), .int .i64 0]) ∧ w.heap.size ≤ t ∧ w.heap.size ≤ m1 ∧ w.heap.size ≤ m2 ∧ TabAt w' t m1 m2 ps (often rest ps) rest) ∨
       (newErr ps = 70 ∧ e = .returned (.tuple #[.pointer none, .int .i64 70]))) ∧ Below w.heap.size w w'

theorem NewRel.fin {w wr : World} {t : Nat} {rest : Int} {ps : List (List Int × Int)} (h : NewRel w wr t rest ps ps.length) (ht : w.heap.size ≤ t) (hl : ps.length ≤ 1000) :
    NewPost w ps rest (.returned (.tuple #[.pointer (some ⟨t, 0, none⟩), .int .i64 0])) wr := by
  obtain ⟨h1, h2, h3⟩ := h
  rw [List.take_length] at h1 h3
  refine ⟨.inl ⟨?_, t, _, _, rfl, ht, Nat.le_refl _, Nat.le_succ _, h3⟩, h2⟩
  unfold newErr
  rw [if_neg (by omega), if_pos h1]

theorem NewRel.bad {w wr wr' : World} {t : Nat} {rest : Int} {ps : List (List Int × Int)} {k : Nat} (h : NewRel w wr t rest ps k) (hb : Below w.heap.size wr wr') (hl : ps.length ≤ 1000) (hg : ¬ Good ps) :
    NewPost w ps rest (.returned (.tuple #[.pointer none, .int .i64 70])) wr' := by
  obtain ⟨h1, h2, h3⟩ := h
  refine ⟨.inr ⟨?_, rfl⟩, h2.trans hb⟩
  unfold newErr
  rw [if_neg (by omega), if_neg hg]

theorem bad_len {ps : List (List Int × Int)} {k : Nat} {hlt : k < ps.length} {bs : List Int} {n : Int} (h : ps[k] = (bs, n)) (h1 : ¬ bs.length = 128) : ¬ Good ps := by
  intro hg
  have := hg.1 ps[k] (List.getElem_mem hlt)
  rw [h] at this
  exact h1 this

theorem bad_twice {ps : List (List Int × Int)} {k : Nat} {hlt : k < ps.length} {bs : List Int} {n x : Int} (h : ps[k] = (bs, n)) (h1 : aget (ps.take k) bs = some x) : ¬ Good ps := by
  intro hg
  have h2 := hg.2
  have h3 : ps = ps.take k ++ ps[k] :: ps.drop (k + 1) := by rw [← List.drop_eq_getElem_cons, List.take_append_drop]
  rw [h3, h] at h2
  simp only [List.map_append, List.map_cons, List.nodup_append] at h2
  have h4 : ∃ p ∈ ps.take k, p.1 = bs := by
    refine Classical.byContradiction fun hn => ?_
    have : aget (ps.take k) bs = none := (aget_none _ _).2 (fun p hp e => hn ⟨p, hp, e⟩)
    rw [this] at h1; cases h1
  obtain ⟨p, hp, rfl⟩ := h4
  exact h2.2.2 p.1 (List.mem_map.2 ⟨p, hp, rfl⟩) p.1 (by simp) rfl

theorem good_more {ps : List (List Int × Int)} {k : Nat} {hlt : k < ps.length} {bs : List Int} {n : Int} (h : ps[k] = (bs, n)) (h0 : Good (ps.take k)) (h1 : aget (ps.take k) bs = none) (h2 : bs.length = 128) :
    Good (ps.take (k + 1)) ∧ ps.take (k + 1) = aput (ps.take k) bs n := by
  have h3 : ps.take (k + 1) = ps.take k ++ [(bs, n)] := by rw [List.take_succ_eq_append_getElem hlt, h]
  have h4 := (aget_none _ _).1 h1
  rw [h3, aput_fresh _ _ _ h4]
  refine ⟨⟨fun p hp => ?_, ?_⟩, rfl⟩
  · rcases List.mem_append.1 hp with hp | hp
    · exact h0.1 p hp
    · simp at hp; subst hp; exact h2
  · simp only [List.map_append, List.map_cons, List.map_nil, List.nodup_append]
    refine ⟨h0.2, by simp, fun a ha b hb => ?_⟩
    obtain ⟨p, hp, rfl⟩ := List.mem_map.1 ha
    simp at hb; subst hb
    exact h4 p hp

theorem often_more {ps : List (List Int × Int)} {k : Nat} {hlt : k < ps.length} {bs : List Int} {n rest : Int} (h : ps[k] = (bs, n)) :
    often rest (ps.take (k + 1)) = aput (often rest (ps.take k)) n ((aget (often rest (ps.take k)) n).getD 0 + 1) := by
  have h3 : ps.take (k + 1) = ps.take k ++ [(bs, n)] := by rw [List.take_succ_eq_append_getElem hlt, h]
  rw [h3]
  simp [often]

set_option maxRecDepth 100000 in
set_option maxHeartbeats 1000000 in
theorem new_any (w : World) (B : Nat) (v : Value) (ps : List (List Int × Int)) (rest : Int) (hr : IsU64 rest) (hv : PairsAt w B v ps) (hB : B ≤ w.heap.size) (hl : ps.length ≤ 1000) :
    Calls Try.prog 16 #[v, .int .u64 rest] w (NewPost w ps rest) := by
  obtain ⟨vs, hvl, hs, hps⟩ := hv
  obtain ⟨A, c, rfl, hc, hm⟩ := hs.form
  clear hm
  have hl' : ¬ (1000 : Int) < ps.length := by omega
  have Hp : Hid (∀ k (hk : k < ps.length), ∃ b o vk, A = some ⟨b, o, none⟩ ∧ b < B ∧ w.cell? ⟨b, o + k * 2, none⟩ = some vk ∧ w.cell? ⟨b, o + k * 2 + 1, none⟩ = some (.int .u64 ps[k].2) ∧ Bs w B vk ps[k].1 ∧ IsU64 ps[k].2) := pair_at hvl hs hps
  have Hr := Lib.hid hr
  have Hl := Lib.hid hl
  clear hs hps hr hvl hl hc
  have Hm1 : Hid (MapOf (w.alloc (.map #[] 0)) Try.prog 81 w.heap.size ekBlock eu64 []) := mapOf_made w _ _ _ _
  have Hm2 : Hid (MapOf ((w.alloc (.map #[] 0)).alloc (.map #[] 0)) Try.prog 23 (w.heap.size + 1) eu64 ei64 []) := by
    have := mapOf_made (w.alloc (.map #[] 0)) Try.prog 23 eu64 ei64
    rwa [World.size_alloc] at this
  have hmm := @run_makeMap Try.prog
  go_enter Try.func16, Try.ntmps16
  go_wp2_with ((with_reducible refine wl_insert (t := 46) (ek := eu64) (ev := ei64) kU64 eu64_inj Try.underlying46 Hm2.out rest 1 (keyOf_u64 rest Hr.out) ?_ ?_ ?_ ?_); (· rfl); (· rfl); (· rfl); intro w1 hm2 hg1)
  have Hg : Hid (MapOf w1 Try.prog 81 w.heap.size ekBlock eu64 [] ∧ Below w.heap.size w w1 ∧ w.heap.size + 2 ≤ w1.heap.size ∧ MapOf w1 Try.prog 23 (w.heap.size + 1) eu64 ei64 [(rest, 1)]) := by
    refine ⟨(Hm1.out.alloc _).grown hg1 (by simp), ?_, ?_, hm2⟩
    · exact (((Below.refl _ _).alloc (Nat.le_refl _) _).alloc (by simp) _).grown hg1 (by simp; omega) (by intro k hk; cases hk; omega)
    · have := hg1.size; simpa using this
  clear hm2 hg1 Hm1 Hm2
  have Hb : Hid (Below w.heap.size w (w1.alloc (.cells #[.map (some w.heap.size), .map (some (w.heap.size + 1)), .int .u64 rest] 48)) ∧
      TabAt (w1.alloc (.cells #[.map (some w.heap.size), .map (some (w.heap.size + 1)), .int .u64 rest] 48)) w1.heap.size w.heap.size (w.heap.size + 1) [] [(rest, 1)] rest) := by
    obtain ⟨h1, h2, h3, h4⟩ := Hg.out
    exact ⟨h2.alloc (by omega) _, heap_alloc_new _ _, h1.alloc _, h4.alloc _⟩
  have Ht : Hid (w.heap.size + 2 ≤ w1.heap.size) := Hg.out.2.2.1
  clear Hg
  go_loopw [24] (fun i wr => ∃ k : Nat, k ≤ ps.length ∧ i = .int .i64 k ∧ Hid (NewRel w wr w1.heap.size rest ps k)) (fun i _ => ps.length - (intOf i).toNat)
  case atStart => exact ⟨0, Nat.zero_le _, rfl, by
    obtain ⟨h1, h2⟩ := Hb.out
    exact ⟨⟨by simp, by simp⟩, h1, h2⟩⟩
  case round =>
    clear Hb
    obtain ⟨k, hk, rfl, Hrel⟩ := hrel
    by_cases hlt : k < ps.length
    · obtain ⟨b, o, vk, rfl, hb, hc0, hc1, hbs, hu⟩ := Hp.out k hlt
      clear Hp
      generalize hpk : ps[k] = pk at *
      obtain ⟨bs, n⟩ := pk
      simp only at hc1 hbs hu
      obtain ⟨A', c', rfl, hcc, hmm'⟩ := hbs.1.form
      clear hmm'
      have hcell0 : wr.cell? ⟨b, o + k * 2, none⟩ = some (.slice A' bs.length c') := by rw [Hrel.out.2.1.cell (by show b < _; omega)]; exact hc0
      have hcell1 : wr.cell? ⟨b, o + k * 2 + 1, none⟩ = some (.int .u64 n) := by rw [Hrel.out.2.1.cell (by show b < _; omega)]; exact hc1
      have Hbs : Hid (Bs wr B (.slice A' bs.length c') bs) := ⟨hbs.1.keep (fun p hp => Hrel.out.2.1.cell (by omega)), hbs.2⟩
      have Hu := Lib.hid hu
      have Hby : Hid (∀ x ∈ bs, IsByte x) := hbs.2
      have Hpk := Lib.hid hpk
      clear hbs hu hc0 hc1 hcc hpk
      by_cases h128 : bs.length = 128
      · have hl1 : ((bs.length : Int) == 128) = true := by simp; omega
        have hl2 : ((bs.length : Int) != 128) = false := by simp; omega
        have ht0 : wr.cell? ⟨w1.heap.size, 0, none⟩ = some (.map (some w.heap.size)) := by simp [World.cell?, Hrel.out.2.2.1]
        have ht1 : wr.cell? ⟨w1.heap.size, 1, none⟩ = some (.map (some (w.heap.size + 1))) := by simp [World.cell?, Hrel.out.2.2.1]
        have htl : w1.heap.size < wr.heap.size := World.block_lt_of_cell? _ _ ht0
        obtain ⟨vb, vo, vc, hvv, _, _, hrow⟩ := Hbs.out.1.row (by omega)
        cases hvv
        have harr := fun w => run_arrayAt w (some ⟨vb, vo, none⟩) c'
        have Hload : Hid ((Instr.loadAt 81 (.pointer (some ⟨vb, vo, none⟩))).run Try.prog (wr.alloc (.cells #[.slice (some ⟨vb, vo, none⟩) bs.length c', .int .u64 n] 28)) = .ok (ekBlock bs) (wr.alloc (.cells #[.slice (some ⟨vb, vo, none⟩) bs.length c', .int .u64 n] 28))) :=
          run_load_block _ _ vb vo bs h128 (hrow.keep fun p hp => World.cell?_alloc_lt _ _ _ (Nat.lt_of_lt_of_le hp (Nat.le_trans hB Hrel.out.2.1.size)))
        have H128 := Lib.hid h128
        have HB := Lib.hid hB
        rw [h128] at hcell0 Hload
        clear h128 hrow hb hB hl1 hl2
        go_wp2_with (first
          | ((with_reducible refine wl_load (t := 81) (.pointer (some ⟨vb, vo, none⟩)) (ekBlock bs) ?_ Hload.out ?_); (· rfl); go_frame)
          | ((with_reducible refine wl_new_arr (t := 81) (bs.map (Value.int .u8)).toArray (infoBlock' bs H128.out) ?_ (oneBlock bs) ?_ ?_ ?_); (· simp [H128.out]); (· rfl); (· rfl); go_frame))
        simp only [World.size_alloc]
        obtain ⟨W2, hW2⟩ : ∃ W2, W2 = (wr.alloc (.cells #[.slice (some ⟨vb, vo, none⟩) 128 c', .int .u64 n] 28)).alloc (.cells (bs.map (Value.int .u8)).toArray 81) := ⟨_, rfl⟩
        rw [← hW2]
        have f0 : W2.cell? ⟨w1.heap.size, 0, none⟩ = some (.map (some w.heap.size)) := by
          rw [hW2, World.cell?_alloc_lt _ _ _ (by simp; omega), World.cell?_alloc_lt _ _ _ htl]; exact ht0
        have f1 : W2.cell? ⟨w1.heap.size, 1, none⟩ = some (.map (some (w.heap.size + 1))) := by
          rw [hW2, World.cell?_alloc_lt _ _ _ (by simp; omega), World.cell?_alloc_lt _ _ _ htl]; exact ht1
        have f2 : W2.cell? ⟨wr.heap.size, 1, none⟩ = some (.int .u64 n) := by
          rw [hW2, World.cell?_alloc_lt _ _ _ (by simp), World.cell?_alloc_new]; rfl
        have F3 : Hid (Row W2 (wr.heap.size + 2) (wr.heap.size + 1) 0 (bs.map (.int .u8))) := by
          have := row_new (wr.alloc (.cells #[.slice (some ⟨vb, vo, none⟩) 128 c', .int .u64 n] 28)) (bs.map (Value.int .u8)) 81
          rw [World.size_alloc] at this
          rw [hW2]; exact this
        have F4 : Hid (NewRel w W2 w1.heap.size rest ps k ∧ Below w.heap.size wr W2 ∧ wr.heap.size + 2 ≤ W2.heap.size) := by
          have hb2 : Below wr.heap.size wr W2 := by rw [hW2]; exact ((Below.refl _ _).alloc (Nat.le_refl _) _).alloc (by simp) _
          obtain ⟨r1, r2, r3, r4, r5⟩ := Hrel.out
          refine ⟨⟨r1, r2.trans (hb2.mono r2.size), ?_, r4.below hb2 r4.lt, r5.below hb2 r5.lt⟩, hb2.mono r2.size, by rw [hW2]; simp⟩
          rw [hb2.block _ htl]; exact r3
        clear hW2 ht0 ht1 Hload Hbs hcell0 hcell1 harr
        cases hg : aget (ps.take k) bs
        · have Hg := Lib.hid hg
          obtain ⟨kl, hkl⟩ := keyOf_block bs H128.out Hby.out
          have Hkl := Lib.hid hkl
          have hlook := fun n => MapOf.look_no (F4.out.1.2.2.2.1.drewN n) kBlock ekBlock_inj Try.underlying45 (zero_u64 _) hkl hg
          clear hg hkl
          refine wp_region_quiet_lit (by kernel_rfl) (by kernel_rfl) ?_
          repeat (first | ((with_reducible refine qload (t := 81) (.pointer (some ⟨wr.heap.size + 1, 0, none⟩)) (ekBlock bs) ?_ ?_ ?_); (· rfl); (· rintro _ ⟨n, rfl⟩; exact run_load_block _ _ _ _ _ H128.out (by exact F3.out)); go_frame) | go_big_quiet_step (fail))
          refine wpQuiet_nil ?_
          rintro _ ⟨nq, rfl⟩
          clear hlook
          go_wp2
          refine wp_region_still_tail 7 (by kernel_rfl) (by kernel_rfl) ?_
          simp only [List.take_succ_cons, List.take_zero, List.drop_succ_cons, List.drop_zero]
          change wpStill _ _ (World.drew (W2.drewN nq)) (fun a' => wpList _ _ _ _ a' (World.drew (W2.drewN nq))) _ _
          repeat (first | ((with_reducible refine st_load (t := 81) (.pointer (some ⟨wr.heap.size + 1, 0, none⟩)) (ekBlock bs) ?_ ?_ ?_); (· rfl); (· exact run_load_block _ _ _ _ _ H128.out (by exact F3.out)); go_frame) | still_step)
          refine wpStill_nil ?_
          (with_reducible refine wl_update (t := 45) (ek := ekBlock) (ev := eu64) (m := w.heap.size) (kv := ps.take k) kBlock ekBlock_inj Try.underlying45 ?_ bs n ⟨_, Hkl.out⟩ ?_ ?_ ?_ ?_)
          · exact F4.out.1.2.2.2.1
          · rfl
          · rfl
          · rfl
          intro w3 hm3 hg3
          have g1 : w3.cell? ⟨w1.heap.size, 1, none⟩ = some (.map (some (w.heap.size + 1))) := hg3.cell (by exact f1) (by have := Ht.out; simp; omega)
          have g2 : w3.cell? ⟨wr.heap.size, 1, none⟩ = some (.int .u64 n) := hg3.cell (by exact f2) (by have := Ht.out; simp; omega)
          have hx := often_bound rest (ps.take k) n
          have Hm4 : Hid (MapOf w3 Try.prog 23 (w.heap.size + 1) eu64 ei64 (often rest (ps.take k))) := MapOf.grown (row := some w.heap.size) (by exact F4.out.1.2.2.2.2) hg3 (by simp)
          have Hx : Hid ((aget (often rest (ps.take k)) n).getD 0 = (aget (often rest (ps.take k)) n).getD 0) := rfl
          obtain ⟨kn, hkn⟩ := keyOf_u64 n Hu.out
          have Hkn := Lib.hid hkn
          have hlook := MapOf.look_one (w := w3.drew) Hm4.out kU64 eu64_inj Try.underlying46 (zero_int _) hkn (v := .int .i64 ((aget (often rest (ps.take k)) n).getD 0)) (by cases aget (often rest (ps.take k)) n <;> rfl)
          unfold eu64 at hlook
          have hlen := List.length_take_le k ps
          generalize hxx : (aget (often rest (ps.take k)) n).getD 0 = xx at *
          have hx0 : 0 ≤ xx := hx.1
          have hx1 : xx ≤ 2000 := by have := hx.2; omega
          have Hxx := Lib.hid hxx
          have hw : IntKind.i64.wrap (xx + 1) = xx + 1 := IntWalk.i64_in _ (by omega)
          have Hm3 := Lib.hid hm3
          have Hg3 := Lib.hid hg3
          clear hx hxx hkn hm3 hg3 f0 f1 f2 hlen
          go_wp2
          refine wp_region_still_tail 8 (by kernel_rfl) (by kernel_rfl) ?_
          simp only [List.take_succ_cons, List.take_zero, List.drop_succ_cons, List.drop_zero]
          change wpStill _ _ (World.drew w3) (fun a' => wpList _ _ _ _ a' (World.drew w3)) _ _
          repeat still_step
          refine wpStill_nil ?_
          (with_reducible refine wl_update (t := 46) (ek := eu64) (ev := ei64) (m := w.heap.size + 1) (kv := often rest (ps.take k)) kU64 eu64_inj Try.underlying46 ?_ n (xx + 1) ⟨_, Hkn.out⟩ ?_ ?_ ?_ ?_)
          · exact Hm4.out
          · rfl
          · rfl
          · rfl
          intro w4 hm5 hg5
          have Hn : Hid (NewRel w w4 w1.heap.size rest ps (k + 1)) := by
            obtain ⟨⟨r1, r2, r3, r4, r5⟩, r6, r7⟩ := F4.out
            obtain ⟨q1, q2⟩ := good_more (hlt := hlt) Hpk.out r1 Hg.out H128.out
            have q3 := often_more (rest := rest) (hlt := hlt) Hpk.out
            have s1 := Hg3.out.size
            have s2 := Ht.out
            refine ⟨q1, ?_, ?_, ?_, ?_⟩
            · refine (((below_drewN r2 nq).drew.grown (w' := w3) (row := some w.heap.size) ?_ ?_ ?_).drew).grown hg5 ?_ ?_
              · exact Hg3.out
              · exact r2.size
              · intro k hk; cases hk; exact Nat.le_refl _
              · exact Nat.le_trans r2.size s1
              · intro k hk; cases hk; exact Nat.le_succ _
            · have e1 : w3.heap[w1.heap.size]? = W2.heap[w1.heap.size]? := Hg3.out.block _ (by show w1.heap.size < W2.heap.size; omega) (by simp; omega)
              have e2 : w4.heap[w1.heap.size]? = w3.heap[w1.heap.size]? := hg5.block _ (by show w1.heap.size < w3.heap.size; have : W2.heap.size ≤ w3.heap.size := s1; omega) (by simp; omega)
              rw [e2, e1]; exact r3
            · rw [q2]
              exact MapOf.grown (w := w3.drew) (row := some (w.heap.size + 1)) Hm3.out hg5 (by simp)
            · rw [q3, Hxx.out]; exact hm5
          clear hm5 hg5 hlook g1 g2 hw
          go_wp2
          go_roundw
          case rel => exact ⟨k + 1, by omega, by go_num, Hn⟩
          case measure => simp [intOf]; omega
        · rename_i x
          have Hg := Lib.hid hg
          obtain ⟨kl, hkl⟩ := keyOf_block bs H128.out Hby.out
          have hlook := fun n => MapOf.look_yes (F4.out.1.2.2.2.1.drewN n) kBlock ekBlock_inj Try.underlying45 (zero_u64 _) hkl hg
          unfold eu64 at hlook
          clear hg hkl
          refine wp_region_quiet_lit (by kernel_rfl) (by kernel_rfl) ?_
          repeat (first | ((with_reducible refine qload (t := 81) (.pointer (some ⟨wr.heap.size + 1, 0, none⟩)) (ekBlock bs) ?_ ?_ ?_); (· rfl); (· rintro _ ⟨n, rfl⟩; exact run_load_block _ _ _ _ _ H128.out (by exact F3.out)); go_frame) | go_big_quiet_step (fail))
          refine wpQuiet_nil ?_
          rintro _ ⟨nq, rfl⟩
          go_wp2
          go_ret2
          exact Hrel.out.bad (below_drewN F4.out.2.1 _) Hl.out (bad_twice Hpk.out Hg.out)
      · have hl1 : ((bs.length : Int) == 128) = false := by simp; omega
        have hl2 : ((bs.length : Int) != 128) = true := by simp; omega
        have Hn := Lib.hid h128
        clear h128
        go_wp2
        go_ret2
        exact Hrel.out.bad ((Below.refl _ _).alloc Hrel.out.2.1.size _) Hl.out (bad_len Hpk.out Hn.out)
    · have hk' : k = ps.length := by omega
      subst hk'
      clear hlt hk
      go_wp2
      go_ret2
      exact Hrel.out.fin (Nat.le_trans (Nat.le_add_right _ 2) Ht.out) Hl.out
end Go.Proofs.Yticdmiomkmaaoaa
