/-
  The walk of TableLimits.
-/
import Derived.Test.YticdmiomkmaaoaaTells07
namespace Go.Proofs.Yticdmiomkmaaoaa
open Go.RowKit

theorem OwnB.set {w : World} {g : Nat} {bs : List Int} (h : OwnB w g bs) (i : Nat) (x : Int) : OwnB (w.setCell ⟨g, i, none⟩ (.int .u8 x)) g (bs.set i x) := by
  obtain ⟨cs, fr, h1, h2, h3, h4⟩ := h
  refine ⟨_, fr, heap_setCell_at w g i cs _ fr _ h1, by simpa using h2, by simpa using h3, fun j u hu => ?_⟩
  rw [List.map_set] at hu
  by_cases e : i = j
  · subst e
    have hi : i < bs.length := by
      rcases Nat.lt_or_ge i bs.length with h | h
      · exact h
      · rw [List.getElem?_eq_none (by simpa using h)] at hu; cases hu
    rw [List.getElem?_set_self (by simpa using hi)] at hu
    cases hu
    have : i < cs.size := by omega
    simp [Array.getElem?_setIfInBounds, this]
  · rw [List.getElem?_set_ne e] at hu
    rw [Array.getElem?_setIfInBounds_ne e]
    exact h4 j u hu
theorem OwnB.at_ {w : World} {g : Nat} {bs : List Int} (h : OwnB w g bs) (i : Nat) (hi : i < bs.length) : w.cell? ⟨g, i, none⟩ = some (.int .u8 bs[i]) ∧ w.frozen? ⟨g, i, none⟩ = false := by
  obtain ⟨cs, fr, h1, h2, h3, h4⟩ := h
  refine ⟨by rw [cell_of_row w g i cs _ fr h1]; exact h4 i _ (by simp [List.getElem?_eq_getElem hi]), ?_⟩
  have := h3 i hi
  obtain ⟨lo, hi'⟩ := fr
  simp only [World.frozen?, h1]
  simp only at this
  simp; omega

def lb (k : Nat) : List Int := ((List.replicate 128 ((k : Int) % 256)).set 0 ((k : Int) / 256)).set 1 77
def lps (k : Nat) : List (List Int × Int) := (List.range k).map fun i => (lb i, (i : Int))

theorem lps_succ (k : Nat) : lps (k + 1) = lps k ++ [(lb k, (k : Int))] := by simp [lps, List.range_succ]
theorem lps_len (k : Nat) : (lps k).length = k := by simp [lps]
theorem lb_len (k : Nat) : (lb k).length = 128 := by simp [lb]
theorem lb_byte (k : Nat) (h : k < 1001) : ∀ x ∈ lb k, IsByte x := by
  intro x hx
  unfold lb at hx
  unfold IsByte
  rcases List.mem_or_eq_of_mem_set hx with hx | rfl
  · rcases List.mem_or_eq_of_mem_set hx with hx | rfl
    · have := List.eq_of_mem_replicate hx; omega
    · omega
  · omega
theorem lb_inj {i j : Nat} (h : lb i = lb j) : i = j := by
  have h0 : (lb i)[0]? = (lb j)[0]? := by rw [h]
  have h2 : (lb i)[2]? = (lb j)[2]? := by rw [h]
  simp [lb] at h0 h2
  omega
theorem lps_nodup (k : Nat) : ((lps k).map Prod.fst).Nodup := by
  unfold lps
  rw [List.map_map, List.Nodup, List.pairwise_map]
  exact List.Pairwise.imp (fun h e => h (lb_inj e)) (List.nodup_range (n := k))
theorem lps_good (k : Nat) : Good ((lps k).drop 1) := by
  refine ⟨fun p hp => ?_, ?_⟩
  · have := List.mem_of_mem_drop hp
    obtain ⟨i, _, rfl⟩ := List.mem_map.1 this
    exact lb_len i
  · rw [← List.drop_eq_drop_iff.2 rfl, List.map_drop]
    exact List.Nodup.sublist (List.drop_sublist _ _) (lps_nodup k)
theorem lps_unl (rest : Int) (hr : IsU64 rest) : Unl rest ((lps 1001).drop 1) ↔ (rest = 0 ∨ 1000 < rest) := by
  have hm : ((lps 1001).drop 1).map Prod.snd = ((List.range 1001).map fun (i : Nat) => (i : Int)).drop 1 := by
    unfold lps
    rw [← List.map_drop, ← List.map_drop, List.map_map]
    rfl
  have hn : (((List.range 1001).map fun (i : Nat) => (i : Int)).drop 1).Nodup := by
    refine List.Nodup.sublist (List.drop_sublist _ _) ?_
    rw [List.Nodup, List.pairwise_map]
    exact List.Pairwise.imp (fun h e => h (by omega)) (List.nodup_range (n := 1001))
  unfold Unl
  rw [hm, List.nodup_cons]
  have hmem : rest ∈ ((List.range 1001).map fun (i : Nat) => (i : Int)).drop 1 ↔ 1 ≤ rest ∧ rest ≤ 1000 := by
    generalize hN : (1001 : Nat) = N
    have hN' : (1000 : Int) = N - 1 := by omega
    rw [hN']
    clear hN hN'
    constructor
    · intro h
      obtain ⟨i, hi, e⟩ := List.getElem_of_mem h
      simp at hi e
      omega
    · rintro ⟨h1, h2⟩
      rw [List.mem_iff_getElem]
      refine ⟨rest.toNat - 1, by simp; omega, ?_⟩
      simp
      omega
  unfold IsU64 at hr
  rw [hmem]
  constructor
  · rintro ⟨h, _⟩; omega
  · intro h; exact ⟨by omega, hn⟩

theorem filled2 (b : Int) (w : World) : Calls Try.prog 24 #[.int .u8 b] w fun e w' =>
    e = .returned (.slice (some ⟨w.heap.size, 0, none⟩) 128 128) ∧ Hid (OwnB w' w.heap.size (List.replicate 128 b) ∧ Below w.heap.size w w') :=
  (filled_any b w).mono fun e w' ⟨h1, h2⟩ => ⟨h1, by rw [h2]; exact ownB_filled w b 128, by rw [h2]; exact (Below.refl _ _).alloc (Nat.le_refl _) _⟩

theorem pairCells_drop (us : List Value) (ps : List (List Int × Int)) : pairCells (us.drop 1) (ps.drop 1) = (pairCells us ps).drop 2 := by
  cases us with
  | nil => simp [pairCells]
  | cons u us => cases ps with
    | nil => simp [pairCells]
    | cons p ps => simp [pairCells]

theorem pairsIn_tail {w : World} {B g n c : Nat} {us : List Value} {ps : List (List Int × Int)} (h : PairsIn w B (.slice (some ⟨g, 0, none⟩) n c) us ps) (hn : ps.length = n) (h1 : 1 < n) (hc : n ≤ c) (hm : c ≤ maxLen) :
    PairsIn w B (.slice (some ⟨g, 2, none⟩) (n - 1) (c - 1)) (us.drop 1) (ps.drop 1) := by
  subst hn
  refine ⟨by simp [h.len], ?_, fun i x hx => ?_⟩
  · rw [pairCells_drop]
    obtain ⟨b, o, c', hv, _, _, hr⟩ := h.sl.row (by omega)
    cases hv
    have hl := h.sl.1
    rw [List.length_drop]
    refine sl_mk (by rw [List.length_drop, hl]; omega) (by omega) (by omega) ⟨hr.1, fun j u hu => ?_⟩
    rw [List.getElem?_drop] at hu
    have := hr.2 _ u hu
    rwa [Nat.zero_add] at this
  · have : (us.drop 1).zip (ps.drop 1) = (us.zip ps).drop 1 := by cases us <;> cases ps <;> simp
    rw [this, List.getElem?_drop] at hx
    exact h.el _ x hx

set_option maxRecDepth 100000 in
set_option maxHeartbeats 4000000 in
theorem tableLimits_walk (W : World) (rest : Int) (hr : IsU64 rest) (v1 : Value) (b1 : List Int) (o1 : Bs W W.heap.size v1 b1) :
    Calls Try.prog 7 #[.int .u64 rest, v1] W (Awake W) := by
  obtain ⟨A1, c1, rfl, _⟩ := o1.1.form
  clear o1
  have Hr := Lib.hid hr
  clear hr
  go_enter Try.func7, Try.ntmps7
  go_wp2_with fail
  go_loopw [5, 17] (fun cp i wr => ∃ k : Nat, k ≤ 1001 ∧ i = .int .i64 k ∧ Hid (∃ gs us, wr.ownsRow W.heap.size 28 2 cp k (pairCells us (lps k)) ∧ Copied W wr gs us (lps k) ∧ Below W.heap.size W wr)) (fun _ i _ => 1001 - (intOf i).toNat)
  case atStart => exact ⟨0, Nat.zero_le _, rfl, [], [], World.ownsRow_nil _ _ _ _, ⟨by simp [lps], by simp [lps], by simp, by simp, by simp [lps]⟩, Below.refl _ _⟩
  case round =>
    obtain ⟨k, hk, rfl, K1⟩ := hrel
    by_cases hlt : k < 1001
    · obtain ⟨gs, us, K3⟩ := K1.out
      have K3 := Lib.hid K3
      clear K1
      go_wp2_with fail
      refine (filled2 _ _).mono ?_; rintro e w2 ⟨rfl, K2⟩
      obtain ⟨hc0, hf0⟩ := K2.out.1.at_ 0 (by simp)
      obtain ⟨hc1, hf1⟩ := K2.out.1.at_ 1 (by simp)
      have K4 : Hid (OwnB ((w2.setCell ⟨wr.heap.size, 0, none⟩ (.int .u8 ((k : Int) / 256))).setCell ⟨wr.heap.size, 1, none⟩ (.int .u8 77)) wr.heap.size (lb k) ∧ Below wr.heap.size wr ((w2.setCell ⟨wr.heap.size, 0, none⟩ (.int .u8 ((k : Int) / 256))).setCell ⟨wr.heap.size, 1, none⟩ (.int .u8 77))) :=
        ⟨(K2.out.1.set 0 _).set 1 _, (K2.out.2.setCell (Nat.le_refl _) _).setCell (Nat.le_refl _) _⟩
      have Hrow : Hid (Sl (((w2.setCell ⟨wr.heap.size, 0, none⟩ (.int .u8 ((k : Int) / 256))).setCell ⟨wr.heap.size, 1, none⟩ (.int .u8 77)).alloc (.cells #[.slice (some ⟨wr.heap.size, 0, none⟩) 128 128, .int .u64 k] 28)) (w2.heap.size + 1) 2 (.slice (some ⟨w2.heap.size, 0, none⟩) 1 1) 1 [.slice (some ⟨wr.heap.size, 0, none⟩) 128 128, .int .u64 k]) := by
        refine sl_mk rfl (Nat.le_refl 1) (by unfold maxLen; omega) ?_
        have := row_new ((w2.setCell ⟨wr.heap.size, 0, none⟩ (.int .u8 ((k : Int) / 256))).setCell ⟨wr.heap.size, 1, none⟩ (.int .u8 77)) [.slice (some ⟨wr.heap.size, 0, none⟩) 128 128, .int .u64 k] 28
        simpa using this
      go_wp2_with ((with_reducible refine wl_append_pair (os := .tmp 30) (ox := .tmp 35) (base := W.heap.size) (v := u5) (n := k) (xs := pairCells us (lps k)) (B := w2.heap.size + 1) (vx := .slice (some ⟨w2.heap.size, 0, none⟩) 1 1) (m := 1) (news := [.slice (some ⟨wr.heap.size, 0, none⟩) 128 128, .int .u64 k]) ?_ ?_ ?_ ?_ ?_ ?_ ?_ ?_); go_must ((· exact World.ownsRow.alloc (ownsRow_on K3.out.1 K4.out.2) _); (· exact Hrow.out); (· intro u hu; simp at hu; rcases hu with rfl | rfl <;> rfl); (· omega); (· have h1 := K2.out.2.size; have h2 := K3.out.2.2.size; simp; omega); (· rfl); (· rfl); intro v4 w4 hown4 hg4; have H4 := Lib.hid hown4; have G4 := Lib.hid hg4; clear hown4 hg4))
      have K5 : Hid (∃ gs us, w4.ownsRow W.heap.size 28 2 v4 (k + 1) (pairCells us (lps (k + 1))) ∧ Copied W w4 gs us (lps (k + 1)) ∧ Below W.heap.size W w4) := by
        rw [lps_succ]
        refine tell_step (cc := 128) K3.out.1 K3.out.2.1 K3.out.2.2 (by rw [lb_len]; omega) (by unfold maxLen; omega) K4.out.1 K4.out.2 G4.out ?_ (lb_byte k hlt) (by unfold IsU64; omega)
        rw [lb_len]
        exact H4.out
      clear K2 K3 K4 H4 G4 hc0 hc1 hf0 hf1
      go_wp2_with fail
      go_roundw
      case rel => exact ⟨k + 1, by omega, by go_num, K5⟩
      case measure => simp [intOf]; omega
    · have hk' : k = 1001 := by omega
      subst hk'
      clear hlt hk
      obtain ⟨gs, us, K3⟩ := K1.out
      have hform : ∃ g c, u5 = .slice (some ⟨g, 0, none⟩) 1001 c ∧ 1001 ≤ c ∧ c ≤ maxLen := by
        obtain ⟨_, ⟨_, hz⟩ | ⟨g', cap, cur, hv, _, _, hn, hm, _⟩⟩ := K3.1
        · cases hz
        · exact ⟨g', cap, hv, hn, hm⟩
      obtain ⟨g, c, rfl, hc1, hc2⟩ := hform
      have K4 : Hid (PairsIn wr wr.heap.size (.slice (some ⟨g, 0, none⟩) 1001 c) us (lps 1001) ∧ Below W.heap.size W wr) := ⟨K3.2.1.pairs (by rw [lps_len]; exact K3.1), K3.2.2⟩
      have K5 : Hid (PairsIn wr wr.heap.size (.slice (some ⟨g, 2, none⟩) 1000 (c - 1)) (us.drop 1) ((lps 1001).drop 1)) := pairsIn_tail K4.out.1 (lps_len _) (by omega) hc1 hc2
      clear K1 K3
      have hcne : ¬ c = 1 := by omega
      have hc3 : (1 : Int) ≤ (c : Int) := by omega
      go_wp2_with fail
      refine (new_good wr wr.heap.size _ _ rest Hr.out K5.out.at_ (Nat.le_refl _) (by rw [List.length_drop, lps_len]; omega) (lps_good _)).mono ?_
      rintro e w2 ⟨t, m1, m2, rfl, Q⟩
      have K6 : Hid (Below W.heap.size W w2 ∧ TabAt w2 t m1 m2 ((lps 1001).drop 1) (often rest ((lps 1001).drop 1)) rest ∧ PairsAt w2 wr.heap.size (.slice (some ⟨g, 0, none⟩) 1001 c) (lps 1001)) :=
        ⟨K4.out.2.trans (Q.2.2.2.2.mono K4.out.2.size), Q.2.2.2.1, (K4.out.1.on Q.2.2.2.2).at_⟩
      clear Q K4 K5
      go_wp2_with fail
      refine (new_long w2 wr.heap.size _ _ rest K6.out.2.2 (by rw [lps_len]; omega)).mono ?_
      rintro e w' ⟨rfl, rfl⟩
      go_wp2_with fail
      refine (len_any w2 t m1 m2 _ _ rest K6.out.2.1).mono ?_
      rintro e w' ⟨he, rfl⟩
      have e1000 : ((lps 1001).drop 1).length = 1000 := by rw [List.length_drop, lps_len]
      rw [e1000] at he
      subst he
      go_wp2_with fail
      refine (unlike_any w2 t m1 m2 _ _ rest K6.out.2.1 (by rw [e1000]; omega)).mono ?_
      rintro e w' ⟨he, n3, rfl⟩
      rw [often_dec] at he
      obtain ⟨ub, z, gt, hu, hz, hgt, hcase⟩ : ∃ ub z gt : Bool, decide (Unl rest ((lps 1001).drop 1)) = ub ∧ (rest == 0) = z ∧ decide ((1000 : Int) < rest) = gt ∧ ((ub = true ∧ z = true) ∨ (ub = true ∧ z = false ∧ gt = true) ∨ (ub = false ∧ z = false ∧ gt = false)) := by
        refine ⟨_, _, _, rfl, rfl, rfl, ?_⟩
        have hu := lps_unl rest Hr.out
        by_cases h0 : rest = 0
        · exact .inl ⟨decide_eq_true (hu.2 (.inl h0)), by simpa using h0⟩
        · by_cases h1 : 1000 < rest
          · exact .inr (.inl ⟨decide_eq_true (hu.2 (.inr h1)), by simpa using h0, decide_eq_true h1⟩)
          · exact .inr (.inr ⟨decide_eq_false (fun h => by rcases hu.1 h with h | h <;> contradiction), by simpa using h0, decide_eq_false h1⟩)
      rw [hu] at he
      subst he
      clear hu
      rcases hcase with ⟨rfl, rfl⟩ | ⟨rfl, rfl, rfl⟩ | ⟨rfl, rfl, rfl⟩
      all_goals
        clear e1000 hcne hc1 hc2 hc3
        go_wp2_with fail
        clear hz hgt
        obtain ⟨wf, hwf⟩ : ∃ wf, wf = ((w2.drewN n3).alloc (.cells #[.map none, .map none, .int .u64 0] 48)).alloc (.cells #[.pointer none, .pointer (some ⟨w2.heap.size, 0, none⟩)] 30) := ⟨_, rfl⟩
        rw [← hwf]
        have K7 : Hid (Below W.heap.size W wf ∧ wf.cell? ⟨w2.heap.size, 0, none⟩ = some (.map none)) := by
          rw [hwf]
          exact ⟨((below_drewN K6.out.1 _).alloc K6.out.1.size _).alloc (by have := K6.out.1.size; simp; omega) _, (World.cell?_alloc_lt _ _ _ (by simp)).trans (World.cell?_alloc_new (w2.drewN n3) _ _ 0)⟩
        have f0 : wf.cell? ⟨w2.heap.size + 1, 0, none⟩ = some (.pointer none) := by
          rw [hwf]
          have := World.cell?_alloc_new ((w2.drewN n3).alloc (.cells #[.map none, .map none, .int .u64 0] 48)) #[.pointer none, .pointer (some ⟨w2.heap.size, 0, none⟩)] 30 0
          rw [World.size_alloc] at this
          exact this
        have f1 : wf.cell? ⟨w2.heap.size + 1, 1, none⟩ = some (.pointer (some ⟨w2.heap.size, 0, none⟩)) := by
          rw [hwf]
          have := World.cell?_alloc_new ((w2.drewN n3).alloc (.cells #[.map none, .map none, .int .u64 0] 48)) #[.pointer none, .pointer (some ⟨w2.heap.size, 0, none⟩)] 30 1
          rw [World.size_alloc] at this
          exact this
        clear K6 hwf
        go_loopw [78] (fun i wr => ∃ k : Nat, k ≤ 2 ∧ i = .int .i64 k ∧ ∃ m, wr = wf.drewN m) (fun i _ => 2 - (intOf i).toNat)
        case atStart => exact ⟨0, Nat.zero_le _, rfl, 0, rfl⟩
        obtain ⟨k, hk, rfl, m, rfl⟩ := hrel
        rcases (by omega : k = 0 ∨ k = 1 ∨ k = 2) with rfl | rfl | rfl
        · go_wp2_with fail
          refine (print_nil _ _).mono ?_; rintro e w' ⟨rfl, rfl⟩
          go_wp2_with fail
          refine (len_nil _).mono ?_; rintro e w' ⟨rfl, rfl⟩
          go_wp2_with fail
          refine (unlike_nil _).mono ?_; rintro e w' ⟨rfl, n5, rfl⟩
          go_wp2_with fail
          go_roundw
          case rel => exact ⟨1, by omega, rfl, _, rfl⟩
          case measure => simp [intOf]
        · go_wp2_with fail
          refine (print_empty (wf.drewN m) w2.heap.size _ K7.out.2).mono ?_; rintro e w' ⟨rfl, rfl⟩
          go_wp2_with fail
          refine (len_empty (wf.drewN m) w2.heap.size K7.out.2).mono ?_; rintro e w' ⟨rfl, rfl⟩
          go_wp2_with fail
          refine (unlike_empty (wf.drewN m) w2.heap.size K7.out.2).mono ?_; rintro e w' ⟨rfl, n5, rfl⟩
          go_wp2_with fail
          go_roundw
          case rel => exact ⟨2, by omega, rfl, _, rfl⟩
          case measure => simp [intOf]
        · go_wp2_with fail
          refine (awake07 (wf.drewN m)).mono ?_; rintro e w' ⟨rfl, hb⟩
          have Hb : Hid (Below W.heap.size W w') := (below_drewN K7.out.1 _).trans (hb.mono K7.out.1.size)
          clear hb
          go_wp2_with fail
          go_ret
          exact ⟨rfl, Hb.out⟩
end Go.Proofs.Yticdmiomkmaaoaa
