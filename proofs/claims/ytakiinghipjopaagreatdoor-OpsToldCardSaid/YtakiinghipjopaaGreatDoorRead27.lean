/-
  octets.Get, slices.Clone at bytes, ops.Read: their contracts.
-/
import Derived.Test.YtakiinghipjopaaGreatDoorOpsBw
import Derived.Test.YtakiinghipjopaaGreatDoorLow27
namespace Go.Proofs.YtakiinghipjopaaGreatDoor
open Go.RowKit

/-! ### Get -/
def getN (l : List Int) : Int := l.foldl (fun n x => n * 256 + x) 0
theorem getN_snoc (l : List Int) (x : Int) : getN (l ++ [x]) = getN l * 256 + x := by simp [getN]
theorem getN_rng (l : List Int) (h : ∀ x ∈ l, IsByte x) : 0 ≤ getN l ∧ getN l < 256 ^ l.length := by
  suffices H : ∀ (l : List Int) (acc : Int) (m : Nat), (∀ x ∈ l, IsByte x) → 0 ≤ acc → acc < 256 ^ m → 0 ≤ l.foldl (fun n x => n * 256 + x) acc ∧ l.foldl (fun n x => n * 256 + x) acc < 256 ^ (m + l.length) by
    have := H l 0 0 h (by omega) (by simp)
    simpa [getN] using this
  intro l
  induction l with
  | nil => intro acc m _ h0 h1; exact ⟨h0, h1⟩
  | cons x r ih =>
    intro acc m hb h0 h1
    obtain ⟨x0, x1⟩ := hb x (by simp)
    have h2 : acc * 256 + x < 256 ^ (m + 1) := by rw [Int.pow_succ]; omega
    have := ih (acc * 256 + x) (m + 1) (fun y hy => hb y (by simp [hy])) (by omega) h2
    rw [List.foldl_cons, List.length_cons, show m + (r.length + 1) = m + 1 + r.length by omega]
    exact this
theorem or_low (n x : Int) (h0 : 0 ≤ n) (h1 : n * 256 + 255 < 18446744073709551616) (x0 : 0 ≤ x) (x1 : x < 256) : bits .or .u64 (n * 256) x = n * 256 + x := by
  obtain ⟨a, rfl⟩ : ∃ a : Nat, n = a := ⟨n.toNat, by omega⟩
  obtain ⟨b, rfl⟩ : ∃ b : Nat, x = b := ⟨x.toNat, by omega⟩
  have h := u64_or_nat (a * 256) b (by omega) (by omega)
  have e : a * 256 ||| b = a * 256 + b := by
    have := Nat.shiftLeft_add_eq_or_of_lt (i := 8) (b := b) (by omega) a
    rw [Nat.shiftLeft_eq] at this
    exact this.symm
  rw [e] at h
  have e2 : ((a * 256 : Nat) : Int) = (a : Int) * 256 := Int.natCast_mul _ _
  rw [e2] at h
  rw [h, Int.natCast_add, e2]
theorem pow_le8 : ∀ j : Nat, j < 8 → (256 : Int) ^ (min j 8) * 256 ≤ 18446744073709551616 := by decide
set_option maxRecDepth 100000 in
set_option maxHeartbeats 1000000 in
theorem get_any (w : World) (B : Nat) (v : Value) (bs : List Int) (hb : Bs w B v bs) (at_ : Nat) (h8 : at_ + 8 ≤ bs.length) (hl : bs.length ≤ 100000) :
    Calls Tryz.prog 32 #[v, .int .i64 at_, .int .i64 8] w fun e w' => e = .returned (.tuple #[.int .u64 (getN ((bs.drop at_).take 8)), .bool true]) ∧ w = w' := by
  obtain ⟨b, o, c, rfl, hc, hm, hr⟩ := hb.1.row (by omega)
  obtain ⟨L, hL⟩ : ∃ L, L = bs.length := ⟨_, rfl⟩
  rw [← hL] at hc ⊢
  have hcell : ∀ j, j < 8 → w.cell? ⟨b, o + at_ + j, none⟩ = some (.int .u8 (bs.getD (at_ + j) 0)) := fun j hj => by
    rw [Nat.add_assoc]
    refine hr.2 (at_ + j) _ ?_
    rw [List.getElem?_map, List.getElem?_eq_getElem (by omega), List.getD_eq_getElem?_getD, List.getElem?_eq_getElem (by omega)]
    rfl
  have hbyte : ∀ j, j < 8 → IsByte (bs.getD (at_ + j) 0) := fun j hj => by
    rw [List.getD_eq_getElem?_getD, List.getElem?_eq_getElem (by omega)]
    exact hb.2 _ (List.getElem_mem _)
  obtain ⟨ds, hds⟩ : ∃ ds, ds = (bs.drop at_).take 8 := ⟨_, rfl⟩
  have hdl : ds.length = 8 := by rw [hds, List.length_take, List.length_drop]; omega
  have hdg : ∀ j (h : j < ds.length), ds[j] = bs.getD (at_ + j) 0 := fun j h => by
    rw [List.getD_eq_getElem?_getD, List.getElem?_eq_getElem (by omega)]
    simp [hds]
  have HY := Lib.hid (within_yes w L at_ (by omega) (by omega))
  have Hc := Lib.hid hcell
  have Hby := Lib.hid hbyte
  have Hdl := Lib.hid hdl
  have Hdg := Lib.hid hdg
  have Hds : Hid (∀ k, ∀ x ∈ ds.take k, IsByte x) := fun k x hx => hb.2 x (List.mem_of_mem_drop (List.mem_of_mem_take (hds ▸ List.mem_of_mem_take hx)))
  have h8L : at_ + 8 ≤ L := by omega
  have hlL : L ≤ 100000 := by omega
  unfold maxLen at hm
  rw [← hds]
  clear hcell hbyte hds hdl hdg hb hr hL h8 hl
  go_enter Tryz.func32, Tryz.ntmps32
  go_wp2_with (go_at_call 67; refine HY.out.mono ?_; rintro e w' ⟨rfl, rfl⟩)
  go_loop [8, 24] (fun v i => ∃ j : Nat, j ≤ 8 ∧ v = .int .u64 (getN (ds.take j)) ∧ i = .int .i64 j) (fun _ i => 8 - (intOf i).toNat)
  case atStart => exact ⟨0, Nat.zero_le _, rfl, rfl⟩
  case round =>
    obtain ⟨j, hj, rfl, rfl⟩ := hrel
    by_cases hlt : j < 8
    · have e1 : getN (ds.take (j + 1)) = getN (ds.take j) * 256 + bs.getD (at_ + j) 0 := by
        rw [List.take_add_one, List.getElem?_eq_getElem (by rw [Hdl.out]; exact hlt), ← Hdg.out j (by rw [Hdl.out]; exact hlt)]
        exact getN_snoc _ _
      have hr := getN_rng (ds.take j) (Hds.out j)
      have hp : (256 : Int) ^ (ds.take j).length * 256 ≤ 18446744073709551616 := by
        rw [List.length_take, Hdl.out]
        exact pow_le8 j hlt
      have h0 : 0 ≤ getN (ds.take j) := hr.1
      have h1 : getN (ds.take j) * 256 + 255 < 18446744073709551616 := by omega
      have hb := Hby.out j hlt
      have hc := Hc.out j hlt
      have E1 := Lib.hid e1
      have hx0 : 0 ≤ bs.getD (at_ + j) 0 := hb.1
      have hx1 : bs.getD (at_ + j) 0 < 256 := hb.2
      clear hr hp e1 hb
      generalize bs.getD (at_ + j) 0 = x at *
      obtain ⟨n, hn⟩ : ∃ n, n = getN (ds.take j) := ⟨_, rfl⟩
      rw [← hn] at h0 h1 E1 ⊢
      clear hn
      have ho := or_low n x h0 h1 hx0 hx1
      go_wp2
      exact ⟨⟨j + 1, hlt, by rw [E1.out], by go_num⟩, by simp [intOf]; omega⟩
    · have hj8 : j = 8 := by omega
      subst hj8
      clear hlt hj
      have ht : ds.take 8 = ds := List.take_of_length_le (by rw [Hdl.out]; exact Nat.le_refl _)
      rw [ht]
      clear ht
      go_wp2
      go_ret2
      exact ⟨rfl, rfl⟩

/-! ### Clone at bytes -/
theorem ownY_made (w : World) : OwnY (w.alloc (.cells #[] 5)) w.heap.size (.slice (some ⟨w.heap.size, 0, none⟩) 0 0) [] := World.ownsRow_made w #[] 0 (Nat.le_refl _) (Nat.zero_le _) rfl
section
variable {ops : Array Oper} {w : World} {Q : Exit → Act → World → Prop} {a : Act} {rest : List Oper} {dst : Option Tmp} {os ox : Operand} {ty : TypeId} {pos : String} {after : Array Edge}
theorem wl_append_y {base : Nat} {v : Value} {xs : List Int} (hown : OwnY w base v xs) {B : Nat} {vx : Value} {ys : List Int} (hx : Bs w B vx ys)
    (hb : xs.length + ys.length ≤ 1000000) (hbase : base ≤ w.heap.size) (hs : a.eval os = v) (hxx : a.eval ox = vx)
    (hK : ∀ v' w', OwnY w' base v' (xs ++ ys) → w.grownBy w' v.ownBlock → wpList Tryz.prog ops Q rest (a.put dst v') w') :
    wpList Tryz.prog ops Q (⟨dst, .call { callee := .builtin .append, args := #[os, ox], argTypes := #[23, 23] }, ty, pos, after, none⟩ :: rest) a w :=
  wl_append base 23 5 _ 1 1 Tryz.underlying23 infoU8 rfl (by omega) v xs.length _ hown vx ys.length _ hx.1 (u8s_one ys) (by unfold maxLen; omega) (by omega) hbase hs hxx
    (fun v' w' h1 h2 => hK v' w' (by unfold OwnY; rw [List.length_append, List.map_append]; exact h1) h2)
end
set_option maxRecDepth 100000 in
set_option maxHeartbeats 400000 in
theorem cloneB_any (w : World) (B : Nat) (v : Value) (xs : List Int) (hv : Bs w B v xs) (hB : B ≤ w.heap.size) (hl : xs.length ≤ 100000) :
    Calls Tryz.prog 31 #[v] w fun e w' => ∃ v', e = .returned v' ∧ OwnY w' w.heap.size v' xs ∧ Below w.heap.size w w' := by
  have q := fun (w : World) (a : Option Addr) (n c : Nat) => Lib.run_eql_slice_nil (P := Tryz.prog) w 23 5 a n c 0 0 Tryz.underlying23
  obtain ⟨⟨_, A, c, rfl, hc, hm, hz, hs0⟩, hbb⟩ := hv
  have Hv : Hid (Bs w B (.slice A xs.length c) xs) := ⟨⟨by simp, A, c, rfl, hc, hm, hz, hs0⟩, hbb⟩
  have Hl := Lib.hid hl
  clear hm hc hl hs0 hbb
  cases A with
  | none =>
    have := hz rfl
    subst this
    have hx : xs = [] := by
      obtain ⟨⟨_, A, c, hv, hc, _⟩, _⟩ := Hv.out
      cases hv
      exact List.eq_nil_of_length_eq_zero (by omega)
    subst hx
    clear hz
    go_enter Tryz.func31, Tryz.ntmps31
    go_wp2
    go_ret
    exact ⟨_, rfl, ownY_nil _ _, Below.refl _ _⟩
  | some ad =>
    clear hz
    have Hown := Lib.hid (ownY_made w)
    have Hsrc : Hid (Bs (w.alloc (.cells #[] 5)) B (.slice (some ad) xs.length c) xs) := ⟨Hv.out.1.alloc hB _, Hv.out.2⟩
    clear hB
    go_enter Tryz.func31, Tryz.ntmps31
    go_wp2_with ((with_reducible refine wl_append_y (os := .tmp 5) (ox := .tmp 6) (base := w.heap.size) (xs := []) Hown.out Hsrc.out ?_ ?_ ?_ ?_ ?_); go_must ((· have := Hl.out; simp; omega); (· simp); (· rfl); (· rfl); intro v3 w3 hown3 hg3; have H3 := Lib.hid hown3; have G3 := Lib.hid hg3; clear hown3 hg3))
    go_ret
    refine ⟨_, rfl, by have := H3.out; simpa [OwnY] using this, ?_⟩
    exact ((Below.refl _ _).alloc (Nat.le_refl _) _).grown G3.out (by simp) (by intro k hk; cases hk; exact Nat.le_refl _)
end Go.Proofs.YtakiinghipjopaaGreatDoor
