/-
  Maps from numbers to numbers, by what they hold at each key.
-/
import Derived.Test.YticdmiomkmaaoaaTab
import Derived.Maps.OwnSet
import Derived.Maps.RangeWalk
namespace Go.Proofs.Yticdmiomkmaaoaa
open Go.RowKit
open Go.Maps (Keyed)

noncomputable abbrev R64 : Value → Option (DataW Unit × List MemPlace) := plainElem Try.prog 23
def kl (x : Int) : Lit := .int .u64 x
theorem kl_ne {x y : Int} (h : x ≠ y) : kl x ≠ kl y := fun e => h (by simpa [kl] using e)
theorem keyOf_kl {x : Int} (h : IsU64 x) : keyOf Try.prog 23 (eu64 x) = some (kl x) := by
  obtain ⟨l, hl⟩ := keyOf_u64 x h
  obtain ⟨y, e1, e2, _⟩ := Maps.keyOf_int_inv Try.underlying23 hl
  cases e1
  rw [hl, e2]; rfl
theorem isKey_kl {x : Int} (h : IsU64 x) : WideAt.IsKeyLit (kl x) := kU64.key (keyOf_kl h)
theorem wf_kl {x : Int} (h : IsU64 x) : (Lit.int .u64 x).wf = true := by
  unfold IsU64 at h
  simp [Lit.wf, IntKind.min, IntKind.max, IntKind.signed, IntKind.bits]; omega
theorem u64_wf {n : Int} (h : (Lit.int .u64 n).wf = true) : IsU64 n := by
  simp [Lit.wf, IntKind.min, IntKind.max, IntKind.signed, IntKind.bits] at h
  unfold IsU64; omega
theorem r64 {x : Int} (h : IsU64 x) : R64 (.int .u64 x) = some (.lit (.int .u64 x), []) := plainElem_int Try.underlying23 (wf_kl h)

def fset (f : Int → Option Int) (x y : Int) : Int → Option Int := fun z => if z = x then some y else f z
def fdel (f : Int → Option Int) (x : Int) : Int → Option Int := fun z => if z = x then none else f z

/-- what D holds -/
structure Holds (D : DataW Unit) (f : Int → Option Int) : Prop where
  at_ : ∀ x, IsU64 x → ∀ z, D.atKey (kl x) z = ((f x).map fun c => DataW.lit (.int .u64 c)).getD z
  has : ∀ x, IsU64 x → Maps.has D (kl x) = (f x).isSome
  dom : ∀ x c, f x = some c → IsU64 x ∧ IsU64 c
def MF (w : World) (m : Nat) (f : Int → Option Int) (s : Nat) : Prop := ∃ D, w.ownsMap Try.prog 23 R64 m s D ∧ Maps.size D = s ∧ Holds D f

section
variable {w w' : World} {m s : Nat} {f : Int → Option Int}
theorem tight {b n : Nat} {D : DataW Unit} (h : w.ownsMap Try.prog 23 R64 b n D) : w.ownsMap Try.prog 23 R64 b (Maps.size D) D := by
  obtain ⟨es, clock, hb, F, _, rfl⟩ := h
  exact ⟨es, clock, hb, F, by simp [Maps.size, length_sorted], rfl⟩
theorem MF.made (w : World) : MF (w.alloc (.map #[] 0)) w.heap.size (fun _ => none) 0 :=
  ⟨.map [], World.ownsMap_made w _ _ _, rfl, ⟨fun _ _ _ => rfl, fun _ _ => rfl, fun _ _ h => by cases h⟩⟩
theorem MF.lt (h : MF w m f s) : m < w.heap.size := by
  obtain ⟨D, h, _⟩ := h
  exact h.lt
theorem MF.kept {row : Option Nat} (h : MF w m f s) (hg : w.grownBy w' row) (hne : some m ≠ row) : MF w' m f s := by
  obtain ⟨D, h1, h2⟩ := h
  exact ⟨D, h1.kept hg hne, h2⟩
theorem MF.on (h : MF w m f s) (hb : Below w.heap.size w w') : MF w' m f s := h.kept (grown_of_below hb none) (by simp)
theorem MF.len (h : MF w m f s) (ty : TypeId) : (Builtin.len_ #[71] ty #[.map (some m)]).run Try.prog w = .ok (.int .i64 s) w := by
  obtain ⟨D, h1, h2, _⟩ := h
  have := h1.len Try.underlying71 ty
  rw [h2] at this
  exact this
theorem MF.look (h : MF w m f s) {x : Int} (hx : IsU64 x) : (Instr.lookup 71 (.map (some m)) (.int .u64 x) true).run Try.prog w = .ok (.tuple #[.int .u64 ((f x).getD 0), .bool (f x).isSome]) w := by
  obtain ⟨D, h1, h2, h3⟩ := h
  obtain ⟨v, ps, hr, hv⟩ := h1.look_ok kU64 Try.underlying71 (zero_u64 w) (r64 (x := 0) (by unfold IsU64; omega)) (keyOf_kl hx)
  rw [h3.at_ x hx, h3.has x hx] at *
  obtain ⟨c, rfl, hc, _⟩ := plainElem_int_inv Try.underlying23 hv
  have hr2 := hr
  show (Instr.lookup _ _ (eu64 x) true).run _ _ = _
  rw [hr2]
  have e := congrArg Prod.fst hc
  cases hf : f x with
  | none => simp [hf] at e ⊢; exact e.symm
  | some y => simp [hf] at e ⊢; exact e.symm
theorem MF.store (h : MF w m f s) (hs : s ≤ 100000) {x y : Int} (hx : IsU64 x) (hy : IsU64 y) : ∃ w', (Instr.mapUpdate 71 (.map (some m)) (.int .u64 x) (.int .u64 y)).run Try.prog w = .ok () w' ∧ MF w' m (fset f x y) (if (f x).isSome then s else s + 1) ∧ w.grownBy w' (some m) := by
  obtain ⟨D, h1, h2, h3⟩ := h
  obtain ⟨w', hr, h4, h5⟩ := h1.store kU64 Try.underlying71 (by unfold maxLen; omega) (keyOf_kl hx) (r64 hy)
  have hsz := Maps.size_put (k := kl x) (h1.tidy kU64) (DataW.lit (.int .u64 y))
  rw [h3.has x hx, h2] at hsz
  refine ⟨w', hr, ⟨_, ?_, hsz, ⟨fun z hz zd => ?_, fun z hz => ?_, fun z c hzc => ?_⟩⟩, h5.grown⟩
  · have := tight h4
    rw [hsz] at this
    exact this
  · by_cases e : z = x
    · subst e; rw [Maps.atKey_put_same h1.isMap (isKey_kl hx)]; simp [fset]
    · rw [Maps.atKey_put_other (kl_ne e), h3.at_ z hz]; simp [fset, e]
  · by_cases e : z = x
    · subst e; rw [Maps.has_put_same h1.isMap (isKey_kl hx)]; simp [fset]
    · rw [Maps.has_put_other (kl_ne e), h3.has z hz]; simp [fset, e]
  · by_cases e : z = x
    · subst e; simp [fset] at hzc; subst hzc; exact ⟨hx, hy⟩
    · simp [fset, e] at hzc; exact h3.dom z c hzc
theorem MF.drop (h : MF w m f s) {x : Int} (hx : IsU64 x) (ty : TypeId) : ∃ w', (Builtin.delete_ #[71, 23] ty #[.map (some m), .int .u64 x]).run Try.prog w = .ok (.tuple #[]) w' ∧ MF w' m (fdel f x) (s - if (f x).isSome then 1 else 0) ∧ w.grownBy w' (some m) := by
  obtain ⟨D, h1, h2, h3⟩ := h
  obtain ⟨w', hr, h4, h5⟩ := h1.drop kU64 Try.underlying71 (keyOf_kl hx) ty
  have hsz := Maps.size_del (k := kl x) (h1.tidy kU64)
  rw [h3.has x hx, h2] at hsz
  have hsz2 : Maps.size (D.del (kl x)) = s - if (f x).isSome then 1 else 0 := by omega
  refine ⟨w', hr, ⟨_, ?_, hsz2, ⟨fun z hz zd => ?_, fun z hz => ?_, fun z c hzc => ?_⟩⟩, h5.grown⟩
  · have := tight h4
    rw [hsz2] at this
    exact this
  · by_cases e : z = x
    · subst e; rw [Maps.atKey_del_same]; simp [fdel]
    · rw [Maps.atKey_del_other (kl_ne e), h3.at_ z hz]; simp [fdel, e]
  · by_cases e : z = x
    · subst e; rw [Maps.has_del_same]; simp [fdel]
    · rw [Maps.has_del_other (kl_ne e), h3.has z hz]; simp [fdel, e]
  · by_cases e : z = x
    · subst e; simp [fdel] at hzc
    · simp [fdel, e] at hzc; exact h3.dom z c hzc
end

section
variable {ops : Array Oper} {w : World} {Q : Exit → Act → World → Prop} {a : Act} {rest : List Oper} {dst : Option Tmp} {om ok ov : Operand} {ty : TypeId} {pos : String} {after : Array Edge} {m s : Nat} {f : Int → Option Int}
theorem wl_store (h : MF w m f s) (hs : s ≤ 100000) (x y : Int) (hx : IsU64 x) (hy : IsU64 y) (hm : a.eval om = .map (some m)) (hk : a.eval ok = .int .u64 x) (hv : a.eval ov = .int .u64 y)
    (hK : ∀ w', MF w' m (fset f x y) (if (f x).isSome then s else s + 1) → w.grownBy w' (some m) → wpList Try.prog ops Q rest (a.put dst undef) w') :
    wpList Try.prog ops Q (⟨dst, .mapUpdate 71 om ok ov, ty, pos, after, none⟩ :: rest) a w := by
  refine wpList_plain rfl fun K' hK' => ?_
  obtain ⟨w', hrun, r1, r2⟩ := h.store hs hx hy
  unfold Oper.wp
  simp [execOp, hm, hk, hv, hrun, Result.andThen]
  exact hK' _ _ (hK w' r1 r2)
theorem wl_drop (h : MF w m f s) (x : Int) (hx : IsU64 x) (hm : a.eval om = .map (some m)) (hk : a.eval ok = .int .u64 x)
    (hK : ∀ w', MF w' m (fdel f x) (s - if (f x).isSome then 1 else 0) → w.grownBy w' (some m) → wpList Try.prog ops Q rest (a.put dst (.tuple #[])) w') :
    wpList Try.prog ops Q (⟨dst, .call { callee := .builtin .delete, args := #[om, ok], argTypes := #[71, 23] }, ty, pos, after, none⟩ :: rest) a w := by
  refine wpList_plain rfl fun K' hK' => ?_
  obtain ⟨w', hrun, r1, r2⟩ := h.drop hx ty
  unfold Oper.wp
  simp [execOp, resolve, invoke, builtin, hm, hk, hrun, Result.andThen]
  exact hK' _ _ (hK w' r1 r2)
end

set_option maxRecDepth 100000 in
set_option maxHeartbeats 4000000 in
theorem alike_yes (w : World) (ma mb s : Nat) (f g : Int → Option Int) (ha : MF w ma f s) (hb : MF w mb g s) (hfg : ∀ x c, f x = some c → g x = some c) :
    Calls Try.prog 43 #[.map (some ma), .map (some mb)] w fun e w' => e = .returned (.bool true) ∧ Below w.heap.size w w' := by
  have Hb := Lib.hid hb
  have hla := fun ty => ha.len ty
  have hlb := fun ty => hb.len ty
  obtain ⟨D, hown, hsz, hD⟩ := ha
  have Hown := Lib.hid hown
  have HD := Lib.hid hD
  have Hfg := Lib.hid hfg
  have Hlt := Lib.hid hown.lt
  clear hb hown hD hfg hsz
  go_enter Try.func43, Try.ntmps43
  go_wp2_with (first | (at_range; refine wpList_range_own _ rfl _ 71 rfl 23 23 kU64 Try.underlying71 _ ma s D rfl Hown.out ?_; intro w0 hrg0 hg0 hs0))
  go_frame
  have Hrg0 := Lib.hid hrg0
  have Hg0 := Lib.hid hg0
  have Hs0 := Lib.hid hs0
  clear hrg0 hg0 hs0 hla hlb
  go_loopw [5] (fun _ wr => ∃ left cnt, wr.ranges Try.prog 23 R64 ma w.heap.size s D left cnt ∧ Below w.heap.size w wr) (fun _ wr => wr.rangeLeft ma w.heap.size)
  case atStart => exact ⟨_, _, Hrg0.out, ⟨Hg0.out.os, Hg0.out.tape, Hg0.out.output, Hg0.out.size, fun k hk => Hg0.out.block k hk (by simp)⟩⟩
  case round =>
    obtain ⟨left, cnt, hrg, hbel⟩ := hrel
    have Hrg := Lib.hid hrg
    have Hbel := Lib.hid hbel
    clear hrg hbel
    go_wp2_with (first | (at_next; refine wpList_next_ranges_ii _ rfl _ rfl 23 23 .u64 .u64 kU64 Try.underlying23 Try.underlying23 ma w.heap.size s D _ _ rfl Hrg.out ?_ ?_))
    · intro _ _
      go_wp2_with fail
      go_ret
      exact ⟨rfl, Hbel.out⟩
    · intro x c w1 cnt1 hwx hwc hlx hat hrg1 hlt hg1 hs1 hen
      have hx : IsU64 x := u64_wf hwx
      have hfx : f x = some c := by
        have h1 := HD.out.at_ x hx
        cases hf : f x with
        | none =>
          have h2 := h1 .nil
          have h3 := hat .nil
          rw [hf] at h2
          rw [show D.atKey (kl x) .nil = _ from h3] at h2
          cases h2
        | some y =>
          have h2 := h1 .nil
          have h3 := hat .nil
          rw [hf] at h2
          rw [show D.atKey (kl x) .nil = _ from h3] at h2
          simp at h2
          rw [h2]
      have hb1 : Below w.heap.size w w1 := Hbel.out.grown hg1 Hbel.out.size (fun k hk => by cases hk; exact Nat.le_refl _)
      have hlook := (Hb.out.on hb1).look hx
      rw [Hfg.out x c hfx] at hlook
      have Hrg1 := Lib.hid hrg1
      have Hb1 := Lib.hid hb1
      have Hlt1 := Lib.hid hlt
      simp only [Option.getD_some, Option.isSome_some] at hlook
      clear hrg1 hb1 hlt hwx hwc hlx hat hg1 hs1 hx hfx
      go_wp2_with fail
      go_roundw
      case rel => exact ⟨_, _, Hrg1.out, Hb1.out⟩
      case measure => rw [Hrg1.out.left_eq, Hrg.out.left_eq]; exact Hlt1.out
end Go.Proofs.Yticdmiomkmaaoaa
