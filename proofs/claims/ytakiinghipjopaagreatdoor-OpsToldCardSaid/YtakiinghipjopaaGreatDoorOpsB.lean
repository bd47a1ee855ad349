/-
  ops.Bytes: what it answers, and its walk.
-/
import Derived.Test.YtakiinghipjopaaGreatDoorOct
import Derived.Maps.AppendAt
import Derived.Laws.AppendOwnNone
import Derived.Deep.RegionHeld3
namespace Go.Proofs.YtakiinghipjopaaGreatDoor
open Go.RowKit

/-! ### rows of bytes of the call's own -/
def OwnY (w : World) (base : Nat) (v : Value) (xs : List Int) : Prop := w.ownsRow base 5 1 v xs.length (xs.map (.int .u8))
theorem OwnY.on {w w' : World} {base : Nat} {v : Value} {xs : List Int} (h : OwnY w base v xs) (hb : Below w.heap.size w w') : OwnY w' base v xs := ownsRow_on h hb
theorem ownY_nil (w : World) (base : Nat) : OwnY w base (.slice none 0 0) [] := World.ownsRow_nil _ _ _ _
theorem OwnY.formN {w : World} {base : Nat} {v : Value} {xs : List Int} (h : OwnY w base v xs) : ∃ A n c, v = .slice A n c := by
  rcases h.2 with ⟨rfl, _⟩ | ⟨g, cap, cur, rfl, _⟩ <;> exact ⟨_, _, _, rfl⟩
theorem OwnY.len {w : World} {base n c : Nat} {A : Option Addr} {xs : List Int} (h : OwnY w base (.slice A n c) xs) : n = xs.length := by
  rcases h.2 with ⟨e, h0⟩ | ⟨g, cap, cur, e, _⟩
  · cases e; exact h0.symm
  · cases e; rfl
theorem u8s_one (xs : List Int) : ∀ u ∈ xs.map (Value.int .u8), u.oneCell' = true := by
  intro u hu
  obtain ⟨x, _, rfl⟩ := List.mem_map.1 hu
  rfl
theorem infoU8 : (Tryz.prog.info? 5).map (fun i => (i.zero, i.size, i.bytes)) = some (some (.int .u8 0), 1, 1) := by kernel_rfl
theorem infoU8i : ∃ i, Tryz.prog.info? 5 = some i ∧ i.zero = some (.int .u8 0) ∧ i.size = 1 ∧ i.bytes = 1 := by
  have h := infoU8
  cases hq : Tryz.prog.info? 5 with
  | none => simp [hq] at h
  | some i => simp [hq] at h; exact ⟨i, rfl, h⟩
theorem run_append_bs {w : World} {base : Nat} {v : Value} {xs : List Int} (ty : TypeId) (hown : OwnY w base v xs) {B : Nat} {vx : Value} {m : Nat} {ys : List Int} (hx : Sl w B 1 vx m (ys.map (.int .u8))) (hb : xs.length + m ≤ 1000000000) (hbase : base ≤ w.heap.size) :
    ∃ A n c w', (Builtin.append_ #[23, 23] ty #[v, vx]).run Tryz.prog w = .ok (.slice A n c) w' ∧ OwnY w' base (.slice A n c) (xs ++ ys) ∧ w.grownBy w' v.ownBlock ∧ ((Value.slice A n c).ownBlock = v.ownBlock ∨ (Value.slice A n c).ownBlock = some w.heap.size) := by
  obtain ⟨i, hi, hz, hsz, hby⟩ := infoU8i
  obtain ⟨Av, nv, cv, rfl⟩ := hown.formN
  have hm : m = ys.length := by have := hx.1; simpa using this.symm
  subst hm
  obtain ⟨hl, A, c, rfl, hc, hmm, hz2, hr⟩ := hx
  cases A with
  | none =>
    have hy : ys = [] := by
      rcases Nat.eq_zero_or_pos ys.length with h | h
      · exact List.eq_nil_of_length_eq_zero h
      · obtain ⟨b, o, e, _⟩ := hr h; cases e
    subst hy
    have hc0 := hz2 rfl
    subst hc0
    have := run_append_owned_none (P := Tryz.prog) (w := w) base 23 ty 5 i 1 Tryz.underlying23 hi _ xs.length _ hown
    exact ⟨_, _, _, w, this, by simpa using hown, ⟨rfl, rfl, rfl, Nat.le_refl _, fun _ _ _ => rfl⟩, .inl rfl⟩
  | some ad =>
    obtain ⟨v', w', hr2, h2, h3, _, h4⟩ := run_append_own_at (P := Tryz.prog) w base 23 ty 5 i (.int .u8 0) 1 1 Tryz.underlying23 hi hz hsz hby rfl (by omega) _ xs.length _ hown ad ys.length c (ys.map (.int .u8)) (by simp)
      (fun j u hu => by
        have hn : 0 < ys.length := by
          rcases Nat.eq_zero_or_pos ys.length with h | h
          · simp [List.eq_nil_of_length_eq_zero h] at hu
          · exact h
        obtain ⟨b, o, e, hrow⟩ := hr hn
        cases e
        rw [add_mk]; exact hrow.2 j u hu) (u8s_one ys) (by unfold maxLen; omega) (by omega) hbase
    have h5 : OwnY w' base v' (xs ++ ys) := by unfold OwnY; rw [List.length_append, List.map_append]; exact h2
    obtain ⟨A', n', c', rfl⟩ := h5.formN
    exact ⟨A', n', c', w', hr2, h5, h3, h4⟩
section
variable {ops : Array Oper} {w : World} {Q : Exit → Act → World → Prop} {a : Act} {dst : Option Tmp} {os ox : Operand} {ty : TypeId} {pos : String} {after : Array Edge}
theorem step_append_bs {E : Prop} {K : Act → World → Prop} {base : Nat} {v : Value} {xs : List Int} {B : Nat} {vx : Value} {m : Nat} {ys : List Int} (hown : OwnY w base v xs) (hx : Sl w B 1 vx m (ys.map (.int .u8)))
    (hb : xs.length + m ≤ 1000000000) (hbase : base ≤ w.heap.size) (hs : a.eval os = v) (hxx : a.eval ox = vx)
    (hK : ∀ A n c w', OwnY w' base (.slice A n c) (xs ++ ys) → w.grownBy w' v.ownBlock → ((Value.slice A n c).ownBlock = v.ownBlock ∨ (Value.slice A n c).ownBlock = some w.heap.size) → K (a.put dst (.slice A n c)) w') :
    if Region.wanted ⟨dst, .call { callee := .builtin .append, args := #[os, ox], argTypes := #[23, 23] }, ty, pos, after, none⟩ (yielded ops a.tmps) = true then
      Oper.wp Tryz.prog ⟨dst, .call { callee := .builtin .append, args := #[os, ox], argTypes := #[23, 23] }, ty, pos, after, none⟩ a w K Q else E := by
  simp only [Region.wanted, if_true]
  obtain ⟨A, n, c, w', hr, h2, h3, h4⟩ := run_append_bs ty hown hx hb hbase
  unfold Oper.wp execOp
  simp only [resolve, invoke, builtin, Sem.run_bind, Sem.run_pure, Result.andThen_ok, List.map_toArray, List.map_cons, List.map_nil, hs, hxx, hr]
  exact hK A n c w' h2 h3 h4
end
theorem OwnB.sl {w : World} {g : Nat} {bs : List Int} (h : OwnB w g bs) {L : Nat} (hL : L = bs.length) (hm : L ≤ maxLen) : Sl w w.heap.size 1 (.slice (some ⟨g, 0, none⟩) L L) L (bs.map (.int .u8)) := by
  subst hL
  refine sl_mk (by simp) (Nat.le_refl _) hm ⟨h.lt, fun j u hu => ?_⟩
  obtain ⟨cs, h0, h1, h2⟩ := h
  rw [Nat.zero_add, cell_of_row w g j cs _ _ h0]
  exact h2 j u hu

/-! ### operations in memory -/
structure OpV where
  code : Int
  vol : Int
  at_ : Int
  n : Int
  data : List Int
deriving DecidableEq
def opCells (p : OpV × Value) : List Value := [.int .u8 p.1.code, .int .u64 p.1.vol, .int .u64 p.1.at_, .int .u64 p.1.n, p.2]
def OpOk (w : World) (B : Nat) (p : OpV × Value) : Prop := Bs w B p.2 p.1.data ∧ IsByte p.1.code ∧ IsU64 p.1.vol ∧ IsU64 p.1.at_ ∧ IsU64 p.1.n
/-- a list of operations, each with its data's slice -/
def OpsAt (w : World) (B : Nat) (v : Value) (ps : List (OpV × Value)) : Prop := Sl w B 5 v ps.length (ps.flatMap opCells) ∧ ∀ p ∈ ps, OpOk w B p
theorem OpOk.on {w w' : World} {B : Nat} {p : OpV × Value} (h : OpOk w B p) (hb : Below B w w') : OpOk w' B p := ⟨⟨h.1.1.below hb, h.1.2⟩, h.2⟩
theorem OpsAt.on {w w' : World} {B : Nat} {v : Value} {ps : List (OpV × Value)} (h : OpsAt w B v ps) (hb : Below B w w') : OpsAt w' B v ps := ⟨h.1.below hb, fun p hp => (h.2 p hp).on hb⟩
theorem cells_len (ps : List (OpV × Value)) : (ps.flatMap opCells).length = ps.length * 5 := by
  induction ps with
  | nil => rfl
  | cons p r ih => rw [List.flatMap_cons, List.length_append, ih, List.length_cons]; simp [opCells]; omega
theorem cells_get : ∀ (ps : List (OpV × Value)) (k : Nat) (hk : k < ps.length) (j : Nat), j < 5 → (ps.flatMap opCells)[k * 5 + j]? = (opCells ps[k])[j]?
  | p :: r, 0, _, j, hj => by
    rw [List.flatMap_cons, Nat.zero_mul, Nat.zero_add, List.getElem?_append_left (by simp [opCells]; omega)]; rfl
  | p :: r, k + 1, hk, j, hj => by
    rw [List.flatMap_cons, show (k + 1) * 5 + j = 5 + (k * 5 + j) by omega, List.getElem?_append_right (by simp [opCells])]
    have := cells_get r k (by simpa using hk) j hj
    simpa [opCells, show 5 + (k * 5 + j) - 5 = k * 5 + j by omega] using this
theorem OpsAt.cells {w : World} {B : Nat} {v : Value} {ps : List (OpV × Value)} (h : OpsAt w B v ps) {k : Nat} (hk : k < ps.length) :
    ∃ b o c, v = .slice (some ⟨b, o, none⟩) ps.length c ∧ b < B ∧ w.cell? ⟨b, o + k * 5, none⟩ = some (.int .u8 ps[k].1.code) ∧ w.cell? ⟨b, o + k * 5 + 1, none⟩ = some (.int .u64 ps[k].1.vol) ∧ w.cell? ⟨b, o + k * 5 + 2, none⟩ = some (.int .u64 ps[k].1.at_) ∧
      w.cell? ⟨b, o + k * 5 + 3, none⟩ = some (.int .u64 ps[k].1.n) ∧ w.cell? ⟨b, o + k * 5 + 4, none⟩ = some ps[k].2 := by
  obtain ⟨b, o, c, rfl, _, _, hr⟩ := h.1.row (by omega)
  have hc := fun j (hj : j < 5) => hr.2 (k * 5 + j) _ ((cells_get ps k hk j hj).trans (List.getElem?_eq_getElem (by simpa [opCells] using hj)))
  refine ⟨b, o, c, rfl, hr.1, ?_, ?_, ?_, ?_, ?_⟩
  · exact hc 0 (by omega)
  · exact hc 1 (by omega)
  · exact hc 2 (by omega)
  · exact hc 3 (by omega)
  · exact hc 4 (by omega)

/-! ### what it answers -/
def hdr0 (o : OpV) : List Int := ((List.replicate 26 (0 : Int)).set 0 o.code).set 25 (o.data.length : Int)
def hdrK (o : OpV) : Nat → List Int
  | 0 => hdr0 o
  | 1 => putK (hdr0 o) 1 o.vol 8
  | 2 => putK (putK (hdr0 o) 1 o.vol 8) 9 o.at_ 8
  | _ => putK (putK (putK (hdr0 o) 1 o.vol 8) 9 o.at_ 8) 17 o.n 8
def opB (o : OpV) : List Int := hdrK o 3 ++ o.data
def bytesS (os : List OpV) : List Int := os.flatMap opB
def bytesR (os : List OpV) : List Int × Int := if ∀ o ∈ os, o.data.length ≤ 255 then (bytesS os, 0) else ([], 3)
theorem bel1 (w : World) (o : Obj) : Below w.heap.size w (w.alloc o) := (Below.refl _ _).alloc (Nat.le_refl _) o
theorem hdr_len (o : OpV) (k : Nat) : (hdrK o k).length = 26 := by
  have h0 : (hdr0 o).length = 26 := by simp [hdr0]
  match k with
  | 0 => exact h0
  | 1 => simp [hdrK, putK_len, h0]
  | 2 => simp [hdrK, putK_len, h0]
  | k + 3 => simp [hdrK, putK_len, h0]
theorem opB_len (o : OpV) : (opB o).length = 26 + o.data.length := by rw [opB, List.length_append, hdr_len]
theorem bytesS_app (a b : List OpV) : bytesS (a ++ b) = bytesS a ++ bytesS b := by simp [bytesS]
theorem bytesS_le (os : List OpV) (h : ∀ o ∈ os, o.data.length ≤ 255) : (bytesS os).length ≤ os.length * 281 := by
  induction os with
  | nil => simp [bytesS]
  | cons o r ih =>
    have h1 := ih (fun x hx => h x (List.mem_cons_of_mem _ hx))
    have h2 := h o (by simp)
    have : bytesS (o :: r) = opB o ++ bytesS r := by simp [bytesS]
    rw [this, List.length_append, opB_len, List.length_cons]
    omega
def z26 : Array Value := (List.replicate 26 (Value.int .u8 0)).toArray
theorem make26 (w : World) : (Instr.makeSlice 23 (.int .i64 26) (.int .i64 26)).run Tryz.prog w = .ok (.slice (some ⟨w.heap.size, 0, none⟩) 26 26) (w.alloc (.cells z26 5)) := by kernel_rfl
end Go.Proofs.YtakiinghipjopaaGreatDoor
