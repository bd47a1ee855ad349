/-
  The examples of the table's chapter hold.
-/
import Derived.Test.YticdmiomkmaaoaaRefs
import Derived.Test.YticdmiomkmaaoaaLow
namespace Go.Proofs.Yticdmiomkmaaoaa
open Go.RowKit

theorem newErr_good {ps : List (List Int × Int)} (hl : ps.length ≤ 1000) (hg : Good ps) : newErr ps = 0 := by
  unfold newErr; rw [if_neg (by omega), if_pos hg]
theorem newErr_bad {ps : List (List Int × Int)} (hl : ps.length ≤ 1000) (hg : ¬ Good ps) : newErr ps = 70 := by
  unfold newErr; rw [if_neg (by omega), if_neg hg]

def Made (w : World) (ps : List (List Int × Int)) (rest : Int) (e : Ending) (w' : World) : Prop :=
  ∃ t m1 m2, e = .returned (.tuple #[.pointer (some ⟨t, 0, none⟩), .int .i64 0]) ∧ w.heap.size ≤ t ∧ w.heap.size ≤ m1 ∧ w.heap.size ≤ m2 ∧ TabAt w' t m1 m2 ps (often rest ps) rest ∧ Below w.heap.size w w'

theorem new_good (w : World) (B : Nat) (v : Value) (ps : List (List Int × Int)) (rest : Int) (hr : IsU64 rest) (hv : PairsAt w B v ps) (hB : B ≤ w.heap.size) (hl : ps.length ≤ 1000) (hg : Good ps) :
    Calls Try.prog 16 #[v, .int .u64 rest] w (Made w ps rest) :=
  (new_any w B v ps rest hr hv hB hl).mono fun e w' ⟨h, hb⟩ => by
    rcases h with ⟨_, t, m1, m2, h1, h2, h3, h4, h5⟩ | ⟨h, _⟩
    · exact ⟨t, m1, m2, h1, h2, h3, h4, h5, hb⟩
    · rw [newErr_good hl hg] at h; cases h

theorem new_bad (w : World) (B : Nat) (v : Value) (ps : List (List Int × Int)) (rest : Int) (hr : IsU64 rest) (hv : PairsAt w B v ps) (hB : B ≤ w.heap.size) (hl : ps.length ≤ 1000) (hg : ¬ Good ps) :
    Calls Try.prog 16 #[v, .int .u64 rest] w fun e w' => e = .returned (.tuple #[.pointer none, .int .i64 70]) ∧ Below w.heap.size w w' :=
  (new_any w B v ps rest hr hv hB hl).mono fun e w' ⟨h, hb⟩ => by
    rcases h with ⟨h, _⟩ | ⟨_, h⟩
    · rw [newErr_bad hl hg] at h; cases h
    · exact ⟨h, hb⟩

theorem pairsAt_nil (w : World) (B : Nat) : PairsAt w B (.slice none 0 0) [] := ⟨[], rfl, sl_nil _ _ _, by simp⟩
theorem pairsAt_one (w : World) (v : Value) (bs : List Int) (n : Int) (hv : Bs w w.heap.size v bs) (hn : IsU64 n) :
    PairsAt (w.alloc (.cells #[v, .int .u64 n] 28)) (w.heap.size + 1) (.slice (some ⟨w.heap.size, 0, none⟩) 1 1) [(bs, n)] := by
  refine ⟨[v], rfl, sl_mk rfl (Nat.le_refl _) (by unfold maxLen; omega) ?_, ?_⟩
  · exact row_new w [v, .int .u64 n] _
  · intro i x hx
    cases i with
    | zero => simp at hx; subst hx; exact ⟨⟨(hv.1.alloc (Nat.le_refl _) _).more (Nat.le_succ _), hv.2⟩, hn⟩
    | succ i => simp at hx
theorem pairsAt_two (w : World) (v v' : Value) (bs bs' : List Int) (n n' : Int) (hv : Bs w w.heap.size v bs) (hn : IsU64 n) (hv' : Bs w w.heap.size v' bs') (hn' : IsU64 n') :
    PairsAt (w.alloc (.cells #[v, .int .u64 n, v', .int .u64 n'] 28)) (w.heap.size + 1) (.slice (some ⟨w.heap.size, 0, none⟩) 2 2) [(bs, n), (bs', n')] := by
  refine ⟨[v, v'], rfl, sl_mk rfl (Nat.le_refl _) (by unfold maxLen; omega) ?_, ?_⟩
  · exact row_new w [v, .int .u64 n, v', .int .u64 n'] _
  · intro i x hx
    cases i with
    | zero => simp at hx; subst hx; exact ⟨⟨(hv.1.alloc (Nat.le_refl _) _).more (Nat.le_succ _), hv.2⟩, hn⟩
    | succ i =>
      cases i with
      | zero => simp at hx; subst hx; exact ⟨⟨(hv'.1.alloc (Nat.le_refl _) _).more (Nat.le_succ _), hv'.2⟩, hn'⟩
      | succ i => simp at hx

theorem filled' (b : Int) (w : World) : Calls Try.prog 24 #[.int .u8 b] w fun e w' =>
    ∃ g, e = .returned (.slice (some ⟨g, 0, none⟩) 128 128) ∧ Hid (OwnB w' g (List.replicate 128 b) ∧ w.heap.size ≤ g ∧ Below w.heap.size w w') :=
  (filled_any b w).mono fun e w' ⟨h1, h2⟩ => ⟨w.heap.size, h1, by rw [h2]; exact ownB_filled w b 128, Nat.le_refl _, by rw [h2]; exact (Below.refl _ _).alloc (Nat.le_refl _) _⟩

theorem isByte_rep {n : Nat} {b : Int} (h : IsByte b) : ∀ x ∈ List.replicate n b, IsByte x := fun x hx => by rw [List.eq_of_mem_replicate hx]; exact h
theorem bs_filled {w : World} {g : Nat} {b : Int} (h : OwnB w g (List.replicate 128 b)) (hb : IsByte b) : Bs w w.heap.size (.slice (some ⟨g, 0, none⟩) 128 128) (List.replicate 128 b) := by
  have := h.bs (isByte_rep hb) (c := 128) (by simp) (by unfold maxLen; omega)
  simpa using this
theorem bs_filled_tail {w : World} {g : Nat} {b : Int} (h : OwnB w g (List.replicate 128 b)) (hb : IsByte b) : Bs w w.heap.size (.slice (some ⟨g, 1, none⟩) 127 127) (List.replicate 127 b) := by
  obtain ⟨b', o, c, hv, hc, hm, hr⟩ := (bs_filled h hb).1.row (by simp)
  cases hv
  refine ⟨sl_mk (by simp) (by simp) (by unfold maxLen; omega) ⟨hr.1, fun j u hu => ?_⟩, isByte_rep hb⟩
  have := hr.2 (1 + j) u (by
    have e : (List.replicate 128 b) = b :: List.replicate 127 b := List.replicate_succ
    rw [e, List.map_cons, Nat.add_comm 1 j, List.getElem?_cons_succ]; exact hu)
  rwa [Nat.zero_add] at this

theorem rep_ne {a b : Int} (h : a ≠ b) : List.replicate 128 a ≠ List.replicate 128 b := by
  intro e
  have : List.replicate (127 + 1) a = List.replicate (127 + 1) b := e
  rw [List.replicate_succ, List.replicate_succ] at this
  exact h (List.cons.inj this).1

theorem good1 (bs : List Int) (n : Int) (h : bs.length = 128) : Good [(bs, n)] := ⟨by simp [h], by simp⟩
theorem good2 (bs bs' : List Int) (n n' : Int) (h : bs.length = 128) (h' : bs'.length = 128) (hne : bs ≠ bs') : Good [(bs, n), (bs', n')] := ⟨by simp [h, h'], by simp [hne]⟩
theorem bad2 (bs : List Int) (n n' : Int) : ¬ Good [(bs, n), (bs, n')] := fun h => by
  have := h.2
  simp at this

theorem TabAt.keep {w w' : World} {B t m1 m2 : Nat} {kv : List (List Int × Int)} {ov : List (Int × Int)} {rest : Int} (h : TabAt w t m1 m2 kv ov rest) (hb : Below B w w') (ht : t < B) (h1 : m1 < B) (h2 : m2 < B) : TabAt w' t m1 m2 kv ov rest :=
  ⟨by rw [hb.block t ht]; exact h.1, h.2.1.below hb h1, h.2.2.below hb h2⟩
theorem TabAt.alloc {w : World} {t m1 m2 : Nat} {kv : List (List Int × Int)} {ov : List (Int × Int)} {rest : Int} (h : TabAt w t m1 m2 kv ov rest) (o : Obj) : TabAt (w.alloc o) t m1 m2 kv ov rest := by
  have ht : t < w.heap.size := by
    rcases Nat.lt_or_ge t w.heap.size with h1 | h1
    · exact h1
    · have := h.1; simp [Array.getElem?_eq_none h1] at this
  exact ⟨by rw [Below.heap_alloc w o t ht]; exact h.1, h.2.1.alloc o, h.2.2.alloc o⟩
theorem TabAt.lt {w : World} {t m1 m2 : Nat} {kv : List (List Int × Int)} {ov : List (Int × Int)} {rest : Int} (h : TabAt w t m1 m2 kv ov rest) : t < w.heap.size ∧ m1 < w.heap.size ∧ m2 < w.heap.size :=
  ⟨by
    rcases Nat.lt_or_ge t w.heap.size with h1 | h1
    · exact h1
    · have := h.1; simp [Array.getElem?_eq_none h1] at this, h.2.1.lt, h.2.2.lt⟩
/-- kept over what keeps all that there is -/
theorem TabAt.on {w w' : World} {t m1 m2 : Nat} {kv : List (List Int × Int)} {ov : List (Int × Int)} {rest : Int} (h : TabAt w t m1 m2 kv ov rest) (hb : Below w.heap.size w w') : TabAt w' t m1 m2 kv ov rest :=
  h.keep hb h.lt.1 h.lt.2.1 h.lt.2.2
theorem OwnB.on {w w' : World} {g : Nat} {bs : List Int} (h : OwnB w g bs) (hb : Below w.heap.size w w') : OwnB w' g bs := h.below hb h.lt

def Awake (w : World) (e : Ending) (w' : World) : Prop := e = .returned (.bool true) ∧ Below w.heap.size w w'

structure Tb where
  t : Nat
  a : Nat
  b : Nat
  kv : List (List Int × Int)
  rest : Int
/-- what awake has so far -/
def St (w wr : World) (g1 g2 : Nat) (ts : List Tb) : Prop :=
  Below w.heap.size w wr ∧ OwnB wr g1 (List.replicate 128 1) ∧ OwnB wr g2 (List.replicate 128 2) ∧ ∀ x ∈ ts, TabAt wr x.t x.a x.b x.kv (often x.rest x.kv) x.rest
theorem St.on {w wr wr' : World} {g1 g2 : Nat} {ts : List Tb} (h : St w wr g1 g2 ts) (hb : Below wr.heap.size wr wr') : St w wr' g1 g2 ts :=
  ⟨h.1.trans (hb.mono h.1.size), h.2.1.on hb, h.2.2.1.on hb, fun x hx => (h.2.2.2 x hx).on hb⟩
theorem St.made {w wr wr' : World} {g1 g2 : Nat} {ts : List Tb} (h : St w wr g1 g2 ts) {o : Obj} {ps : List (List Int × Int)} {rest : Int} {t a b : Nat} 
    (q : (wr.alloc o).heap.size ≤ t ∧ (wr.alloc o).heap.size ≤ a ∧ (wr.alloc o).heap.size ≤ b ∧ TabAt wr' t a b ps (often rest ps) rest ∧ Below (wr.alloc o).heap.size (wr.alloc o) wr') : St w wr' g1 g2 (⟨t, a, b, ps, rest⟩ :: ts) := by
  have hb := ((Below.refl wr.heap.size wr).alloc (Nat.le_refl _) o).trans (q.2.2.2.2.mono (by simp))
  have := h.on hb
  refine ⟨this.1, this.2.1, this.2.2.1, fun x hx => ?_⟩
  rcases List.mem_cons.1 hx with rfl | hx
  · exact q.2.2.2.1
  · exact this.2.2.2 x hx
theorem St.made0 {w wr wr' : World} {g1 g2 : Nat} {ts : List Tb} (h : St w wr g1 g2 ts) {ps : List (List Int × Int)} {rest : Int} {t a b : Nat} 
    (q : wr.heap.size ≤ t ∧ wr.heap.size ≤ a ∧ wr.heap.size ≤ b ∧ TabAt wr' t a b ps (often rest ps) rest ∧ Below wr.heap.size wr wr') : St w wr' g1 g2 (⟨t, a, b, ps, rest⟩ :: ts) := by
  have := h.on q.2.2.2.2
  refine ⟨this.1, this.2.1, this.2.2.1, fun x hx => ?_⟩
  rcases List.mem_cons.1 hx with rfl | hx
  · exact q.2.2.2.1
  · exact this.2.2.2 x hx
theorem St.drewN {w wr : World} {g1 g2 : Nat} {ts : List Tb} (h : St w wr g1 g2 ts) (n : Nat) : St w (wr.drewN n) g1 g2 ts := h.on (below_drewN (Below.refl _ _) n)

set_option maxRecDepth 100000 in
set_option maxHeartbeats 4000000 in
theorem awake07 (w : World) : Calls Try.prog 14 #[] w (Awake w) := by
  go_enter Try.func14, Try.ntmps14
  go_wp2_with fail
  refine (filled' _ _).mono ?_; rintro e w1 ⟨g1, rfl, H1⟩
  go_wp2_with fail
  refine (filled' _ _).mono ?_; rintro e w2 ⟨g2, rfl, H2⟩
  have K2 : Hid (St w w2 g1 g2 []) :=
    ⟨H1.out.2.2.trans (H2.out.2.2.mono H1.out.2.2.size), H1.out.1.on H2.out.2.2, H2.out.1, by simp⟩
  clear H1 H2
  go_wp2_with fail
  refine (new_good (w2.alloc (.cells #[.slice (some ⟨g1, 0, none⟩) 128 128, .int .u64 5] 28)) _ _ [(List.replicate 128 1, 5)] 9 (by unfold IsU64; omega)
    (pairsAt_one w2 _ _ 5 (bs_filled K2.out.2.1 (by unfold IsByte; omega)) (by unfold IsU64; omega)) (by simp) (by simp) (good1 _ _ (by simp))).mono ?_
  rintro e w3 ⟨t1, a1, b1, rfl, Q1⟩
  have K3 := Lib.hid (St.made K2.out Q1)
  clear Q1 K2
  go_wp2_with fail
  refine (new_good (w3.alloc (.cells #[.slice (some ⟨g1, 0, none⟩) 128 128, .int .u64 5, .slice (some ⟨g2, 0, none⟩) 128 128, .int .u64 5] 28)) _ _ [(List.replicate 128 1, 5), (List.replicate 128 2, 5)] 9 (by unfold IsU64; omega)
    (pairsAt_two w3 _ _ _ _ 5 5 (bs_filled K3.out.2.1 (by unfold IsByte; omega)) (by unfold IsU64; omega) (bs_filled K3.out.2.2.1 (by unfold IsByte; omega)) (by unfold IsU64; omega)) (by simp) (by simp) (good2 _ _ _ _ (by simp) (by simp) (rep_ne (by omega)))).mono ?_
  rintro e w4 ⟨t2, a2, b2, rfl, Q1⟩
  have K4 := Lib.hid (St.made K3.out Q1)
  clear Q1 K3
  go_wp2_with fail
  refine (new_good (w4.alloc (.cells #[.slice (some ⟨g1, 0, none⟩) 128 128, .int .u64 5] 28)) _ _ [(List.replicate 128 1, 5)] 5 (by unfold IsU64; omega)
    (pairsAt_one w4 _ _ 5 (bs_filled K4.out.2.1 (by unfold IsByte; omega)) (by unfold IsU64; omega)) (by simp) (by simp) (good1 _ _ (by simp))).mono ?_
  rintro e w5 ⟨t3, a3, b3, rfl, Q1⟩
  have K5 := Lib.hid (St.made K4.out Q1)
  clear Q1 K4
  go_wp2_with fail
  refine (new_bad (w5.alloc (.cells #[.slice (some ⟨g1, 0, none⟩) 128 128, .int .u64 5, .slice (some ⟨g1, 0, none⟩) 128 128, .int .u64 6] 28)) _ _ [(List.replicate 128 1, 5), (List.replicate 128 1, 6)] 9 (by unfold IsU64; omega)
    (pairsAt_two w5 _ _ _ _ 5 6 (bs_filled K5.out.2.1 (by unfold IsByte; omega)) (by unfold IsU64; omega) (bs_filled K5.out.2.1 (by unfold IsByte; omega)) (by unfold IsU64; omega)) (by simp) (by simp) (bad2 _ _ _)).mono ?_
  rintro e w6 ⟨rfl, Q1⟩
  have K6 := Lib.hid (K5.out.on (((Below.refl w5.heap.size w5).alloc (Nat.le_refl _) (.cells #[.slice (some ⟨g1, 0, none⟩) 128 128, .int .u64 5, .slice (some ⟨g1, 0, none⟩) 128 128, .int .u64 6] 28)).trans (Q1.mono (by simp))))
  clear Q1 K5
  go_wp2_with fail
  refine (new_good w6 w6.heap.size _ [] 0 (by unfold IsU64; omega) (pairsAt_nil w6 _) (by simp) (by simp) ⟨by simp, by simp⟩).mono ?_
  rintro e w7 ⟨t5, a5, b5, rfl, Q1⟩
  have K7 := Lib.hid (St.made0 K6.out Q1)
  clear Q1 K6
  go_wp2_with fail
  refine (print_any w7 w7.heap.size t1 a1 b1 [(List.replicate 128 1, 5)] (often 9 [(List.replicate 128 1, 5)]) 9 _ (List.replicate 128 1) (bs_filled K7.out.2.1 (by unfold IsByte; omega)) (K7.out.2.2.2 ⟨t1, a1, b1, _, _⟩ (by simp))).mono ?_
  rintro e w' ⟨he, n8, rfl⟩
  simp only [List.length_replicate, if_true, aget, Option.getD_some] at he
  subst he
  go_wp2_with fail
  refine (print_any (w7.drewN n8) w7.heap.size t1 a1 b1 [(List.replicate 128 1, 5)] (often 9 [(List.replicate 128 1, 5)]) 9 _ (List.replicate 128 2) (bs_filled K7.out.2.2.1 (by unfold IsByte; omega)) (K7.out.2.2.2 ⟨t1, a1, b1, _, _⟩ (by simp))).mono ?_
  rintro e w' ⟨he, n9, rfl⟩
  simp only [List.length_replicate, if_true, aget, if_neg (rep_ne (show (1 : Int) ≠ 2 by omega)), Option.getD_none] at he
  subst he
  go_wp2_with fail
  refine (print_any (w7.drewN (n8 + n9)) w7.heap.size t1 a1 b1 [(List.replicate 128 1, 5)] (often 9 [(List.replicate 128 1, 5)]) 9 _ (List.replicate 127 1) (bs_filled_tail K7.out.2.1 (by unfold IsByte; omega)) (K7.out.2.2.2 ⟨t1, a1, b1, _, _⟩ (by simp))).mono ?_
  rintro e w' ⟨he, n10, rfl⟩
  simp only [List.length_replicate, show ¬ (127 : Nat) = 128 by omega, if_false] at he
  subst he
  go_wp2_with fail
  refine (len_any (w7.drewN (n8 + n9 + n10)) t1 a1 b1 [(List.replicate 128 1, 5)] (often 9 [(List.replicate 128 1, 5)]) 9 (K7.out.2.2.2 ⟨t1, a1, b1, _, _⟩ (by simp))).mono ?_
  rintro e w' ⟨rfl, rfl⟩
  go_wp2_with fail
  refine (unlike_any (w7.drewN (n8 + n9 + n10)) t1 a1 b1 [(List.replicate 128 1, 5)] (often 9 [(List.replicate 128 1, 5)]) 9 (K7.out.2.2.2 ⟨t1, a1, b1, _, _⟩ (by simp)) (by simp)).mono ?_
  rintro e w' ⟨he, n11, rfl⟩
  rw [decide_eq_true (by simp [often, aput, aget])] at he
  subst he
  go_wp2_with fail
  refine (unlike_any (w7.drewN (n8 + n9 + n10 + n11)) t2 a2 b2 [(List.replicate 128 1, 5), (List.replicate 128 2, 5)] (often 9 [(List.replicate 128 1, 5), (List.replicate 128 2, 5)]) 9 (K7.out.2.2.2 ⟨t2, a2, b2, _, _⟩ (by simp)) (by simp)).mono ?_
  rintro e w' ⟨he, n12, rfl⟩
  rw [decide_eq_false (by simp [often, aput, aget])] at he
  subst he
  go_wp2_with fail
  refine (unlike_any (w7.drewN (n8 + n9 + n10 + n11 + n12)) t3 a3 b3 [(List.replicate 128 1, 5)] (often 5 [(List.replicate 128 1, 5)]) 5 (K7.out.2.2.2 ⟨t3, a3, b3, _, _⟩ (by simp)) (by simp)).mono ?_
  rintro e w' ⟨he, n13, rfl⟩
  rw [decide_eq_false (by simp [often, aput, aget])] at he
  subst he
  go_wp2_with fail
  refine (unlike_any (w7.drewN (n8 + n9 + n10 + n11 + n12 + n13)) t5 a5 b5 [] (often 0 []) 0 (K7.out.2.2.2 ⟨t5, a5, b5, _, _⟩ (by simp)) (by simp)).mono ?_
  rintro e w' ⟨he, n14, rfl⟩
  rw [decide_eq_true (by simp [often])] at he
  subst he
  go_wp2_with fail
  go_ret
  exact ⟨rfl, (K7.out.drewN _).1⟩
end Go.Proofs.Yticdmiomkmaaoaa
