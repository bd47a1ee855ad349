/-
  The model's maps, by what they hold.
-/
import Derived.Test.YtakiinghipjopaaGreatDoorTold27
import Derived.Test.YtakiinghipjopaaGreatDoorRead27
import Derived.Maps.OwnSet
import Derived.Maps.RangeWalk
namespace Go.Proofs.YtakiinghipjopaaGreatDoor
open Go.RowKit
open Go.Maps (Keyed)

theorem kU64 : Keyed Tryz.prog 22 := Maps.int_keyed Tryz.underlying22
def kl (x : Int) : Lit := .int .u64 x
theorem kl_ne {x y : Int} (h : x ≠ y) : kl x ≠ kl y := fun e => h (by simpa [kl] using e)
theorem keyOf_kl {x : Int} (h : IsU64 x) : keyOf Tryz.prog 22 (.int .u64 x) = some (kl x) := by
  obtain ⟨l, hl⟩ : ∃ l, keyOf Tryz.prog 22 (.int .u64 x) = some l := ⟨_, Maps.keyOf_int_mk Tryz.underlying22 (by unfold IsU64 at h; simp [Lit.wf, IntKind.min, IntKind.max, IntKind.signed, IntKind.bits]; omega)⟩
  obtain ⟨y, e1, e2, _⟩ := Maps.keyOf_int_inv Tryz.underlying22 hl
  cases e1
  rw [hl, e2]; rfl
theorem isKey_kl {x : Int} (h : IsU64 x) : WideAt.IsKeyLit (kl x) := kU64.key (keyOf_kl h)

/-- 128 bytes -/
def BlkV (v : Value) : Prop := ∃ bs : List Int, bs.length = 128 ∧ (∀ x ∈ bs, IsByte x) ∧ v = .agg (bs.map (Value.int .u8)).toArray
theorem blk_inj {xs ys : List Int} (h : (xs.map fun x => (DataW.lit (.int .u8 x) : DataW Unit)) = ys.map fun x => DataW.lit (.int .u8 x)) : xs = ys := by
  induction xs generalizing ys with
  | nil => cases ys with
    | nil => rfl
    | cons y ys => simp at h
  | cons x xs ih => cases ys with
    | nil => simp at h
    | cons y ys =>
      simp only [List.map_cons, List.cons.injEq] at h
      have h1 : x = y := by have := h.1; simpa using this
      rw [h1, ih h.2]
open Classical in
noncomputable def RV (v : Value) : Option (DataW Unit × List MemPlace) := if h : BlkV v then some (.agg (h.choose.map fun x => .lit (.int .u8 x)), []) else none
theorem RV_mk {v : Value} (h : BlkV v) : ∃ d, RV v = some (d, []) := ⟨_, dif_pos h⟩
theorem RV_inv {v : Value} {z : DataW Unit × List MemPlace} (h : RV v = some z) : BlkV v := by
  unfold RV at h
  split at h
  · assumption
  · cases h
theorem RV_inj {v v' : Value} {z z' : DataW Unit × List MemPlace} (h : RV v = some z) (h' : RV v' = some z') (he : z.1 = z'.1) : v = v' := by
  have b := RV_inv h
  have b' := RV_inv h'
  unfold RV at h h'
  rw [dif_pos b] at h
  rw [dif_pos b'] at h'
  cases h; cases h'
  have e := blk_inj (DataW.agg.inj he)
  rw [b.choose_spec.2.2, b'.choose_spec.2.2, e]
def RM : Value → Option (DataW Unit × List MemPlace)
  | .map none => some (.lit (.int .u64 0), [])
  | .map (some h) => some (.lit (.int .u64 (h + 1)), [])
  | _ => none
theorem RM_inv {v : Value} {z : DataW Unit × List MemPlace} (h : RM v = some z) : ∃ o : Option Nat, v = .map o ∧ z = (.lit (.int .u64 (o.elim 0 fun h => ((h : Int) + 1))), []) := by
  unfold RM at h
  split at h
  · cases h; exact ⟨none, rfl, rfl⟩
  · cases h; exact ⟨some _, rfl, rfl⟩
  · cases h
theorem blk0 : BlkV (.agg (Array.replicate 128 (.int .u8 0))) := ⟨List.replicate 128 0, by simp, fun x hx => by rw [List.eq_of_mem_replicate hx]; unfold IsByte; omega, by rw [List.map_replicate, List.toArray_replicate]⟩
theorem zero_blk (w : World) : (zeroValue 134).run Tryz.prog w = .ok (.agg (Array.replicate 128 (.int .u8 0))) w := by kernel_rfl
theorem zero_vol (w : World) : (zeroValue 131).run Tryz.prog w = .ok (.map none) w := by kernel_rfl

def MV (w : World) (m n : Nat) : Prop := ∃ D, w.ownsMap Tryz.prog 22 RV m n D
/-- the outer map: which map stands at each number -/
structure HoldsM (D : DataW Unit) (F : Int → Option Nat) : Prop where
  at_ : ∀ x, IsU64 x → ∀ z, D.atKey (kl x) z = ((F x).map fun h : Nat => DataW.lit (.int .u64 ((h : Int) + 1))).getD z
  has : ∀ x, IsU64 x → Maps.has D (kl x) = (F x).isSome
def MM (w : World) (m : Nat) (F : Int → Option Nat) (n : Nat) : Prop := ∃ D, w.ownsMap Tryz.prog 22 RM m n D ∧ HoldsM D F
def gset (f : Int → Option Nat) (x : Int) (y : Nat) : Int → Option Nat := fun z => if z = x then some y else f z
def gdel (f : Int → Option Nat) (x : Int) : Int → Option Nat := fun z => if z = x then none else f z

section
variable {w w' : World} {m n : Nat} {F : Int → Option Nat}
theorem own_more {k : TypeId} {R : Value → Option (DataW Unit × List MemPlace)} {b n n' : Nat} {D : DataW Unit} (h : w.ownsMap Tryz.prog k R b n D) (hn : n ≤ n') : w.ownsMap Tryz.prog k R b n' D := by
  obtain ⟨es, clock, hb, Fi, hs, rfl⟩ := h
  exact ⟨es, clock, hb, Fi, Nat.le_trans hs hn, rfl⟩
theorem MV.more {n' : Nat} (h : MV w m n) (hn : n ≤ n') : MV w m n' := by obtain ⟨D, h⟩ := h; exact ⟨D, own_more h hn⟩
theorem MM.more {n' : Nat} (h : MM w m F n) (hn : n ≤ n') : MM w m F n' := by obtain ⟨D, h, hD⟩ := h; exact ⟨D, own_more h hn, hD⟩
theorem MV.made (w : World) : MV (w.alloc (.map #[] 0)) w.heap.size 0 := ⟨.map [], World.ownsMap_made w _ _ _⟩
theorem MM.made (w : World) : MM (w.alloc (.map #[] 0)) w.heap.size (fun _ => none) 0 := ⟨.map [], World.ownsMap_made w _ _ _, ⟨fun _ _ _ => rfl, fun _ _ => rfl⟩⟩
theorem MV.block (h : MV w m n) : ∃ es c, w.heap[m]? = some (.map es c) := by obtain ⟨D, es, c, hb, _⟩ := h; exact ⟨es, c, hb⟩
theorem MM.block (h : MM w m F n) : ∃ es c, w.heap[m]? = some (.map es c) := by obtain ⟨D, ⟨es, c, hb, _⟩, _⟩ := h; exact ⟨es, c, hb⟩
theorem MV.kept {row : Option Nat} (h : MV w m n) (hg : w.grownBy w' row) (hne : some m ≠ row) : MV w' m n := by obtain ⟨D, h⟩ := h; exact ⟨D, h.kept hg hne⟩
theorem MM.kept {row : Option Nat} (h : MM w m F n) (hg : w.grownBy w' row) (hne : some m ≠ row) : MM w' m F n := by obtain ⟨D, h, hD⟩ := h; exact ⟨D, h.kept hg hne, hD⟩
theorem MV.len (h : MV w m n) : ∃ s : Nat, s ≤ n ∧ ∀ ty, (Builtin.len_ #[131] ty #[.map (some m)]).run Tryz.prog w = .ok (.int .i64 s) w := by
  obtain ⟨D, h⟩ := h
  exact ⟨_, h.size_le, fun ty => h.len Tryz.underlying131 ty⟩
theorem MM.len (h : MM w m F n) : ∃ s : Nat, s ≤ n ∧ ∀ ty, (Builtin.len_ #[95] ty #[.map (some m)]).run Tryz.prog w = .ok (.int .i64 s) w := by
  obtain ⟨D, h, _⟩ := h
  exact ⟨_, h.size_le, fun ty => h.len Tryz.underlying95 ty⟩
theorem MV.look (h : MV w m n) {x : Int} (hx : IsU64 x) : ∃ v, BlkV v ∧ ∀ W : World, W.heap[m]? = w.heap[m]? → (Instr.lookup 131 (.map (some m)) (.int .u64 x) false).run Tryz.prog W = .ok v W := by
  obtain ⟨D, es, clock, hb, Fi, _, rfl⟩ := h
  rcases Maps.fit_look false kU64 Tryz.underlying131 (zero_blk w) hb Fi (keyOf_kl hx) with ⟨_, _, hat⟩ | ⟨e0, y, _, _, _, hRv, hat, _⟩
  · refine ⟨_, blk0, fun W hW => ?_⟩
    rcases Maps.fit_look false kU64 Tryz.underlying131 (zero_blk W) (hW.trans hb) Fi (keyOf_kl hx) with ⟨hrun, _, _⟩ | ⟨e1, y1, _, _, _, _, hat1, _⟩
    · exact hrun
    · have h1 := (hat .nil).symm.trans (hat1 .nil)
      have h2 := (hat (.agg [])).symm.trans (hat1 (.agg []))
      rw [← h1] at h2
      cases h2
  · refine ⟨_, RV_inv hRv, fun W hW => ?_⟩
    rcases Maps.fit_look false kU64 Tryz.underlying131 (zero_blk W) (hW.trans hb) Fi (keyOf_kl hx) with ⟨_, _, hat1⟩ | ⟨e1, y1, _, _, hrun, hRv1, hat1, _⟩
    · have h1 := (hat1 .nil).symm.trans (hat .nil)
      have h2 := (hat1 (.agg [])).symm.trans (hat (.agg []))
      rw [← h1] at h2
      cases h2
    · have h1 := (hat1 .nil).symm.trans (hat .nil)
      rw [← RV_inj hRv1 hRv h1]
      exact hrun
theorem MM.look (h : MM w m F n) {x : Int} (hx : IsU64 x) : (Instr.lookup 95 (.map (some m)) (.int .u64 x) false).run Tryz.prog w = .ok (.map (F x)) w := by
  obtain ⟨D, ⟨es, clock, hb, Fi, _, rfl⟩, hD⟩ := h
  have h1 := hD.at_ x hx
  rcases Maps.fit_look false kU64 Tryz.underlying95 (zero_vol w) hb Fi (keyOf_kl hx) with ⟨hrun, _, hat⟩ | ⟨e0, y, _, _, hrun, hRv, hat, _⟩
  · have h2 := (hat .nil).symm.trans (h1 .nil)
    cases hf : F x with
    | none => exact hrun
    | some q => simp [hf] at h2
  · have h2 := (hat .nil).symm.trans (h1 .nil)
    obtain ⟨o, e1, e2⟩ := RM_inv hRv
    rw [show y = _ from e2] at h2
    cases hf : F x with
    | none => simp [hf] at h2
    | some q =>
      cases o with
      | none => simp [hf] at h2; omega
      | some q' =>
        simp [hf] at h2
        have h5 : q' = q := by omega
        rw [← h5, ← e1]
        exact hrun
theorem MM.look2 (h : MM w m F n) {x : Int} (hx : IsU64 x) : (Instr.lookup 95 (.map (some m)) (.int .u64 x) true).run Tryz.prog w = .ok (.tuple #[.map (F x), .bool (F x).isSome]) w := by
  obtain ⟨D, h1, h3⟩ := h
  obtain ⟨v, ps, hr, hv⟩ := h1.look_ok kU64 Tryz.underlying95 (zero_vol w) (zd := .lit (.int .u64 0)) (zp := []) rfl (keyOf_kl hx)
  rw [h3.at_ x hx, h3.has x hx] at *
  obtain ⟨o, rfl, hc⟩ := RM_inv hv
  rw [hr]
  have e := congrArg Prod.fst hc
  cases hf : F x with
  | none => cases o with
    | none => simp
    | some q => simp [hf] at e; omega
  | some y => cases o with
    | none => simp [hf] at e; omega
    | some q => simp [hf] at e ⊢; omega
theorem MV.store (h : MV w m n) (hs : n ≤ 100000) {x : Int} (hx : IsU64 x) {v : Value} (hv : BlkV v) : ∃ w', (Instr.mapUpdate 131 (.map (some m)) (.int .u64 x) v).run Tryz.prog w = .ok () w' ∧ MV w' m (n + 1) ∧ w.grownBy w' (some m) := by
  obtain ⟨D, h1⟩ := h
  obtain ⟨d, hd⟩ := RV_mk hv
  obtain ⟨w', hr, h4, h5⟩ := h1.store kU64 Tryz.underlying131 (by unfold maxLen; omega) (keyOf_kl hx) hd
  exact ⟨w', hr, ⟨_, h4⟩, h5.grown⟩
theorem MM.store (h : MM w m F n) (hs : n ≤ 100000) {x : Int} (hx : IsU64 x) (q : Nat) : ∃ w', (Instr.mapUpdate 95 (.map (some m)) (.int .u64 x) (.map (some q))).run Tryz.prog w = .ok () w' ∧ MM w' m (gset F x q) (n + 1) ∧ w.grownBy w' (some m) := by
  obtain ⟨D, h1, h3⟩ := h
  obtain ⟨w', hr, h4, h5⟩ := h1.store kU64 Tryz.underlying95 (by unfold maxLen; omega) (keyOf_kl hx) (val := .map (some q)) (d := .lit (.int .u64 ((q : Int) + 1))) (ps := []) rfl
  refine ⟨w', hr, ⟨_, h4, ⟨fun z hz zd => ?_, fun z hz => ?_⟩⟩, h5.grown⟩
  · by_cases e : z = x
    · subst e; rw [Maps.atKey_put_same h1.isMap (isKey_kl hx)]; simp [gset]
    · rw [Maps.atKey_put_other (kl_ne e), h3.at_ z hz]; simp [gset, e]
  · by_cases e : z = x
    · subst e; rw [Maps.has_put_same h1.isMap (isKey_kl hx)]; simp [gset]
    · rw [Maps.has_put_other (kl_ne e), h3.has z hz]; simp [gset, e]
theorem MM.drop (h : MM w m F n) {x : Int} (hx : IsU64 x) (ty : TypeId) : ∃ w', (Builtin.delete_ #[95, 22] ty #[.map (some m), .int .u64 x]).run Tryz.prog w = .ok (.tuple #[]) w' ∧ MM w' m (gdel F x) n ∧ w.grownBy w' (some m) := by
  obtain ⟨D, h1, h3⟩ := h
  obtain ⟨w', hr, h4, h5⟩ := h1.drop kU64 Tryz.underlying95 (keyOf_kl hx) ty
  refine ⟨w', hr, ⟨_, h4, ⟨fun z hz zd => ?_, fun z hz => ?_⟩⟩, h5.grown⟩
  · by_cases e : z = x
    · subst e; rw [Maps.atKey_del_same]; simp [gdel]
    · rw [Maps.atKey_del_other (kl_ne e), h3.at_ z hz]; simp [gdel, e]
  · by_cases e : z = x
    · subst e; rw [Maps.has_del_same]; simp [gdel]
    · rw [Maps.has_del_other (kl_ne e), h3.has z hz]; simp [gdel, e]
end

/-- the model at g stands: its size, the last number, its map, which map stands at each number; no map has more than n -/
structure MI (w : World) (B g : Nat) (sz la : Int) (mh : Nat) (F : Int → Option Nat) (n : Nat) : Prop where
  at_ : w.heap[g]? = some (.cells #[.int .u64 sz, .int .u64 la, .map (some mh)] 97 (0, 0))
  sz_ : IsU64 sz
  la_ : IsU64 la
  mm : MM w mh F n
  mv : ∀ x h, F x = some h → MV w h n ∧ B ≤ h ∧ h ≠ mh
  bg : B ≤ g
  bm : B ≤ mh
  n_ : n ≤ 1000
/-- what is no map, and not the model, stays -/
structure Fr (g : Nat) (w w' : World) : Prop where
  size : w.heap.size ≤ w'.heap.size
  block : ∀ b cs t z, b ≠ g → w.heap[b]? = some (.cells cs t z) → w'.heap[b]? = some (.cells cs t z)
theorem Fr.trans {g : Nat} {w w' w'' : World} (h : Fr g w w') (h' : Fr g w' w'') : Fr g w w'' := ⟨Nat.le_trans h.size h'.size, fun b cs t z hb h0 => h'.block b cs t z hb (h.block b cs t z hb h0)⟩
theorem Fr.of_below {g : Nat} {w w' : World} (h : Below w.heap.size w w') : Fr g w w' := ⟨h.size, fun b _ _ _ _ h0 => (h.block b (Array.getElem?_eq_some_iff.1 h0).1).trans h0⟩
theorem Fr.of_grown {g m : Nat} {w w' : World} (h : w.grownBy w' (some m)) (hm : ∃ es c, w.heap[m]? = some (.map es c)) : Fr g w w' := ⟨h.size, fun b _ _ _ _ h0 => (h.block b (Array.getElem?_eq_some_iff.1 h0).1 (fun e => by cases e; obtain ⟨es, c, h1⟩ := hm; rw [h0] at h1; cases h1)).trans h0⟩
theorem MI.on {w w' : World} {B g mh n : Nat} {sz la : Int} {F : Int → Option Nat} (h : MI w B g sz la mh F n) (hb : Below w.heap.size w w') : MI w' B g sz la mh F n :=
  ⟨(hb.block g (Array.getElem?_eq_some_iff.1 h.at_).1).trans h.at_, h.sz_, h.la_, h.mm.kept (grown_of_below hb none) (by simp), fun x q hq => ⟨(h.mv x q hq).1.kept (grown_of_below hb none) (by simp), (h.mv x q hq).2⟩, h.bg, h.bm, h.n_⟩
end Go.Proofs.YtakiinghipjopaaGreatDoor
