/-
  The model's walks.
-/
import Derived.Test.YtakiinghipjopaaGreatDoorModelM27
import Derived.Test.YtakiinghipjopaaGreatDoorParse
import Derived.StillTail
namespace Go.Proofs.YtakiinghipjopaaGreatDoor
open Go.RowKit
section
variable {ops : Array Oper} {w : World} {Q : Exit → Act → World → Prop} {a : Act} {rest : List Oper} {dst : Option Tmp} {om ok ov : Operand} {ty : TypeId} {pos : String} {after : Array Edge} {m n : Nat} {F : Int → Option Nat}
set_option maxRecDepth 100000 in
theorem wl_storeM (h : MM w m F n) (hs : n ≤ 100000) (x : Int) (hx : IsU64 x) (q : Nat) (hm : a.eval om = .map (some m)) (hk : a.eval ok = .int .u64 x) (hv : a.eval ov = .map (some q))
    (hK : ∀ w', MM w' m (gset F x q) (n + 1) → w.grownBy w' (some m) → wpList Tryz.prog ops Q rest (a.put dst undef) w') :
    wpList Tryz.prog ops Q (⟨dst, .mapUpdate 95 om ok ov, ty, pos, after, none⟩ :: rest) a w := by
  refine wpList_plain rfl fun K' hK' => ?_
  obtain ⟨w', hrun, r1, r2⟩ := h.store hs hx q
  unfold Oper.wp
  simp [execOp, hm, hk, hv, hrun, Result.andThen]
  exact hK' _ _ (hK w' r1 r2)
set_option maxRecDepth 100000 in
theorem wl_storeV (h : MV w m n) (hs : n ≤ 100000) (x : Int) (hx : IsU64 x) (v : Value) (hb : BlkV v) (hm : a.eval om = .map (some m)) (hk : a.eval ok = .int .u64 x) (hv : a.eval ov = v)
    (hK : ∀ w', MV w' m (n + 1) → w.grownBy w' (some m) → wpList Tryz.prog ops Q rest (a.put dst undef) w') :
    wpList Tryz.prog ops Q (⟨dst, .mapUpdate 131 om ok ov, ty, pos, after, none⟩ :: rest) a w := by
  refine wpList_plain rfl fun K' hK' => ?_
  obtain ⟨w', hrun, r1, r2⟩ := h.store hs hx hb
  unfold Oper.wp
  simp [execOp, hm, hk, hv, hrun, Result.andThen]
  exact hK' _ _ (hK w' r1 r2)
set_option maxRecDepth 100000 in
theorem wl_dropM (h : MM w m F n) (x : Int) (hx : IsU64 x) (hm : a.eval om = .map (some m)) (hk : a.eval ok = .int .u64 x)
    (hK : ∀ w', MM w' m (gdel F x) n → w.grownBy w' (some m) → wpList Tryz.prog ops Q rest (a.put dst (.tuple #[])) w') :
    wpList Tryz.prog ops Q (⟨dst, .call { callee := .builtin .delete, args := #[om, ok], argTypes := #[95, 22] }, ty, pos, after, none⟩ :: rest) a w := by
  refine wpList_plain rfl fun K' hK' => ?_
  obtain ⟨w', hrun, r1, r2⟩ := h.drop hx ty
  unfold Oper.wp
  simp [execOp, resolve, invoke, builtin, hm, hk, hrun, Result.andThen]
  exact hK' _ _ (hK w' r1 r2)
end
theorem ret_cell1 {P : Program} {w : World} {fn : Func} {t : TypeId} {p : Tmp} {a : Addr} {tmps : Array Value} {x : Value} (h : fn.results = #[.cell p t]) (hp : tmps.getD p undef = .pointer (some a)) (hl : (loadVar t a).run P w = .ok x w) :
    (results fn tmps).run P w = .ok x w := by
  simp only [results, h]
  simp only [Array.getD_eq_getD_getElem?] at hp
  simp [hp, hl, asAddr]
theorem load_rep {w : World} {b : Nat} {x0 x1 x2 x3 : Value} (h : w.heap[b]? = some (.cells #[x0, x1, x2, x3] 29 (0, 0))) :
    (loadVar 29 ⟨b, 0, none⟩).run Tryz.prog w = .ok (.agg #[x0, x1, x2, x3]) w := by
  obtain ⟨h0, h1, h2, h3⟩ := cells4 h
  simp [go_sem, h0, h1, h2, h3]
theorem set4 {w : World} {b : Nat} {x0 x1 x2 x3 y0 y1 y2 y3 : Value} {t : TypeId} (h : w.heap[b]? = some (.cells #[x0, x1, x2, x3] t (0, 0))) :
    ((((w.setCell ⟨b, 0, none⟩ y0).setCell ⟨b, 1, none⟩ y1).setCell ⟨b, 2, none⟩ y2).setCell ⟨b, 3, none⟩ y3).heap[b]? = some (.cells #[y0, y1, y2, y3] t (0, 0)) :=
  set_here (j := 3) (set_here (j := 2) (set_here (j := 1) (set_here (j := 0) h y0) y1) y2) y3
theorem below_set4 {B b : Nat} {w w1 : World} {y0 y1 y2 y3 : Value} (h : Below B w w1) (hb : B ≤ b) : Below B w ((((w1.setCell ⟨b, 0, none⟩ y0).setCell ⟨b, 1, none⟩ y1).setCell ⟨b, 2, none⟩ y2).setCell ⟨b, 3, none⟩ y3) :=
  (((h.setCell hb _).setCell hb _).setCell hb _).setCell hb _
theorem cellsN_free {w : World} {g : Nat} {xs : Array Value} {t : TypeId} (h : w.heap[g]? = some (.cells xs t (0, 0))) (j : Nat) : w.frozen? ⟨g, j, none⟩ = false := by simp [World.frozen?, h]
theorem eql_map_nil (w : World) (p : Option Nat) : (binOp .eql 95 (.map p) (.map none)).run Tryz.prog w = .ok (.bool p.isNone) w := by
  have h : ∀ d, (Op.equalIn (d + 1) 95 (.map p) (.map none)).run Tryz.prog w = .ok p.isNone w := fun d => by
    cases p <;> simp [Op.equalIn, run_underlying Tryz.underlying95]
  simp only [binOp]
  simp [show Op.equal 95 (.map p) (.map none) = Op.equalIn (9999 + 1) 95 (.map p) (.map none) from rfl, h 9999]
theorem MV.same {w w' : World} {m n : Nat} (h : MV w m n) (e : w'.heap[m]? = w.heap[m]?) : MV w' m n := by obtain ⟨D, es, c, hb, r⟩ := h; exact ⟨D, es, c, e.trans hb, r⟩
theorem MM.same {w w' : World} {m n : Nat} {F : Int → Option Nat} (h : MM w m F n) (e : w'.heap[m]? = w.heap[m]?) : MM w' m F n := by obtain ⟨D, ⟨es, c, hb, r⟩, hD⟩ := h; exact ⟨D, ⟨es, c, e.trans hb, r⟩, hD⟩
section
variable {w w' : World} {B g mh n rb : Nat} {sz la : Int} {F : Int → Option Nat}
theorem MI.glt (h : MI w B g sz la mh F n) : g < w.heap.size := (Array.getElem?_eq_some_iff.1 h.at_).1
theorem MI.mlt (h : MI w B g sz la mh F n) : mh < w.heap.size := by obtain ⟨es, c, h1⟩ := h.mm.block; exact (Array.getElem?_eq_some_iff.1 h1).1
theorem MI.gm (h : MI w B g sz la mh F n) : g ≠ mh := fun e => by obtain ⟨es, c, h1⟩ := h.mm.block; have h2 := h.at_; rw [e, h1] at h2; cases h2
theorem MI.vlt (h : MI w B g sz la mh F n) {x : Int} {q : Nat} (hq : F x = some q) : q < w.heap.size := by obtain ⟨es, c, h1⟩ := (h.mv x q hq).1.block; exact (Array.getElem?_eq_some_iff.1 h1).1
theorem MI.vg (h : MI w B g sz la mh F n) {x : Int} {q : Nat} (hq : F x = some q) : q ≠ g := fun e => by obtain ⟨es, c, h1⟩ := (h.mv x q hq).1.block; have h2 := h.at_; rw [← e, h1] at h2; cases h2
theorem MI.off (h : MI w B g sz la mh F n) (hr : ∃ cs t z, w.heap[rb]? = some (.cells cs t z)) (hg : rb ≠ g) (he : ∀ b, b ≠ rb → w'.heap[b]? = w.heap[b]?) : MI w' B g sz la mh F n := by
  obtain ⟨cs, t, z, hr⟩ := hr
  refine ⟨(he g (Ne.symm hg)).trans h.at_, h.sz_, h.la_, h.mm.same (he mh fun e => ?_), fun x q hq => ⟨(h.mv x q hq).1.same (he q fun e => ?_), (h.mv x q hq).2⟩, h.bg, h.bm, h.n_⟩
  · obtain ⟨es, c, h1⟩ := h.mm.block
    rw [e, hr] at h1; cases h1
  · obtain ⟨es, c, h1⟩ := (h.mv x q hq).1.block
    rw [e, hr] at h1; cases h1
theorem Fr.off {w0 : World} (h : Fr g w0 w) (hr : w0.heap.size ≤ rb) (hs : w.heap.size ≤ w'.heap.size) (he : ∀ b, b ≠ rb → w'.heap[b]? = w.heap[b]?) : Fr g w0 w' :=
  ⟨Nat.le_trans h.size hs, fun b cs t z hb h0 => (he b (fun e => by have := (Array.getElem?_eq_some_iff.1 h0).1; omega)).trans (h.block b cs t z hb h0)⟩
theorem set4_off {y0 y1 y2 y3 : Value} : ∀ b, b ≠ rb → ((((w.setCell ⟨rb, 0, none⟩ y0).setCell ⟨rb, 1, none⟩ y1).setCell ⟨rb, 2, none⟩ y2).setCell ⟨rb, 3, none⟩ y3).heap[b]? = w.heap[b]? := fun b hb => by
  rw [Below.heap_setCell _ _ _ _ hb, Below.heap_setCell _ _ _ _ hb, Below.heap_setCell _ _ _ _ hb, Below.heap_setCell _ _ _ _ hb]
end
/-- what a reply reads as -/
def rep0 (e v c : Int) : Value := .agg #[.int .i64 e, .int .u64 v, .slice none 0 0, .int .i64 c]

set_option maxRecDepth 100000 in
set_option maxHeartbeats 4000000 in
theorem new_ok (w : World) (z : Int) (hz : 1 ≤ z ∧ z ≤ 4294967296) :
    Calls Tryz.prog 21 #[.int .u64 z] w fun e w' => ∃ g mh, e = .returned (.tuple #[.pointer (some ⟨g, 0, none⟩), .int .i64 0]) ∧ MI w' w.heap.size g z 0 mh (fun _ => none) 0 ∧ Below w.heap.size w w' := by
  have h1 : ¬ z < 1 := by omega
  have h2 : ¬ (4294967296 : Int) < z := by omega
  have Hz := Lib.hid hz
  have hmk := @run_makeMap Tryz.prog
  clear hz
  go_enter Tryz.func21, Tryz.ntmps21
  go_wp2_with fail
  go_ret2
  have hb1 := bel1 w (.map #[] 0)
  have hb2 := bel1 (w.alloc (.map #[] 0)) (.cells #[.int .u64 z, .int .u64 0, .map (some w.heap.size)] 97)
  have hM : MM ((w.alloc (.map #[] 0)).alloc (.cells #[.int .u64 z, .int .u64 0, .map (some w.heap.size)] 97)) w.heap.size (fun _ => none) 0 := (MM.made w).kept (grown_of_below hb2 none) (by simp)
  exact ⟨_, rfl, ⟨_, two_new w _ _, ⟨by have := Hz.out; omega, by have := Hz.out; omega⟩, ⟨by decide, by decide⟩, hM, fun x h hx => by (cases hx), Nat.le_succ _, Nat.le_refl _, by decide⟩, hb1.trans (hb2.mono hb1.size)⟩

set_option maxRecDepth 100000 in
set_option maxHeartbeats 4000000 in
theorem none_no (w : World) (g : Nat) (x0 x1 : Value) (mh : Nat) (h : w.heap[g]? = some (.cells #[x0, x1, .map (some mh)] 97 (0, 0))) :
    Calls Tryz.prog 54 #[.pointer (some ⟨g, 0, none⟩)] w fun e w' => e = .returned (.bool false) ∧ w = w' := by
  obtain ⟨c0, c1, c2⟩ := cells3w h
  have heq := fun w => eql_map_nil w (some mh)
  clear h
  go_enter Tryz.func54, Tryz.ntmps54
  go_wp2_with fail
  go_ret
  exact ⟨rfl, rfl⟩

set_option maxRecDepth 100000 in
set_option maxHeartbeats 4000000 in
theorem made_any (w : World) (B g : Nat) (sz la : Int) (mh : Nat) (F : Int → Option Nat) (n : Nat) (h : MI w B g sz la mh F n) (hn : n < 1000) (hl : la < 18446744073709551615) (q : Nat) (hq : MV w q n ∧ B ≤ q ∧ q ≠ mh) (hB : B ≤ w.heap.size) :
    Calls Tryz.prog 84 #[.pointer (some ⟨g, 0, none⟩), .map (some q)] w fun e w' => e = .returned (rep0 0 (la + 1) 0) ∧ MI w' B g sz (la + 1) mh (gset F (la + 1) q) (n + 1) ∧ Fr g w w' ∧ Below B w w' := by
  have HI := Lib.hid h
  have Hq := Lib.hid hq
  have HnB : Hid (n < 1000 ∧ B ≤ w.heap.size ∧ la < 18446744073709551615) := ⟨hn, hB, hl⟩
  have hw : IntKind.u64.wrap (la + 1) = la + 1 := by have := h.la_; unfold IsU64 at this; rw [IntKind.wrap_u64]; omega
  have hla1 : IsU64 (la + 1) := by have := h.la_; unfold IsU64 at this ⊢; omega
  have Hla1 := Lib.hid hla1
  have hb1 := bel1 w (.cells #[.int .i64 0, .int .u64 0, .slice none 0 0, .int .i64 0] 29)
  obtain ⟨W1, hW1⟩ : ∃ y, y = w.alloc (.cells #[.int .i64 0, .int .u64 0, .slice none 0 0, .int .i64 0] 29) := ⟨_, rfl⟩
  rw [← hW1] at hb1
  have R1 : Hid (W1.heap[w.heap.size]? = some (.cells #[.int .i64 0, .int .u64 0, .slice none 0 0, .int .i64 0] 29 (0, 0))) := by show _ = _; rw [hW1]; exact heap_alloc_new _ _
  have I1 := Lib.hid (h.on hb1)
  have B1 := Lib.hid hb1
  have q1 : Hid (MV W1 q n) := hq.1.kept (grown_of_below hb1 none) (by simp)
  obtain ⟨c0, c1, c2⟩ := cells3w I1.out.at_
  have f1 := cellsN_free I1.out.at_ 1
  have hWq := hW1.symm
  clear h hq hn hB hl hla1 hW1 hb1
  go_enter Tryz.func84, Tryz.ntmps84
  go_upto_region 2 with fail
  clear c0 c1 c2 f1
  obtain ⟨W2, hW2⟩ : ∃ y, y = W1.setCell ⟨g, 1, none⟩ (.int .u64 (la + 1)) := ⟨_, rfl⟩
  rw [← hW2]
  have P2 : Hid (W2.heap[g]? = some (.cells #[.int .u64 sz, .int .u64 (la + 1), .map (some mh)] 97 (0, 0))) := by show _ = _; rw [hW2]; exact set_here (j := 1) I1.out.at_ _
  have E2 : Hid (∀ b, b ≠ g → W2.heap[b]? = W1.heap[b]?) := fun b hb => by rw [hW2]; exact Below.heap_setCell _ _ _ _ hb
  have S2 : Hid (W2.heap.size = W1.heap.size) := by show _ = _; rw [hW2]; simp
  have B2 : Hid (Below B w W2) := by show Below _ _ _; rw [hW2]; exact (B1.out.mono HnB.out.2.1).setCell I1.out.bg _
  clear hW2
  obtain ⟨c0, c1, c2⟩ := cells3w P2.out
  refine wp_region_still_tail 9 (by kernel_rfl) (by kernel_rfl) ?_
  simp only [List.take_succ_cons, List.take_zero, List.drop_succ_cons, List.drop_zero]
  change wpStill _ _ (World.drew W2) (fun a' => wpList _ _ _ _ a' (World.drew W2)) _ _
  repeat still_step
  refine wpStill_nil ?_
  (with_reducible refine wl_storeM (m := mh) (F := F) (n := n) ?_ (Nat.le_trans (Nat.le_of_lt HnB.out.1) (by decide)) (la + 1) Hla1.out q ?_ ?_ ?_ ?_)
  · exact I1.out.mm.same (E2.out mh I1.out.gm.symm)
  · rfl
  · rfl
  · rfl
  intro w3 hm3 hg3
  have hr1 := (Array.getElem?_eq_some_iff.1 R1.out).1
  have hgl := HI.out.glt
  have hml := HI.out.mlt
  have hsz := S2.out
  have P3 : Hid (w3.heap[g]? = some (.cells #[.int .u64 sz, .int .u64 (la + 1), .map (some mh)] 97 (0, 0))) := (hg3.block g (show g < W2.heap.size by omega) (fun e => I1.out.gm (Option.some.inj e))).trans P2.out
  have R3 : Hid (w3.heap[w.heap.size]? = some (.cells #[.int .i64 0, .int .u64 0, .slice none 0 0, .int .i64 0] 29 (0, 0))) := (hg3.block w.heap.size (show w.heap.size < W2.heap.size by omega) (fun e => by have := Option.some.inj e; omega)).trans ((E2.out _ (by omega)).trans R1.out)
  have I3 : Hid (MI w3 B g sz (la + 1) mh (gset F (la + 1) q) (n + 1)) := by
    have hv : ∀ x p, F x = some p → MV w3 p (n + 1) ∧ B ≤ p ∧ p ≠ mh := fun x p hp => by
      obtain ⟨v1, v2, v3⟩ := I1.out.mv x p hp
      have v4 := I1.out.vlt hp
      refine ⟨((v1.same (E2.out p (I1.out.vg hp))).same (w' := w3) (hg3.block p (show p < W2.heap.size by omega) (fun e => v3 (Option.some.inj e)))).more (Nat.le_succ _), v2, v3⟩
    refine ⟨P3.out, I1.out.sz_, Hla1.out, hm3, fun x p hp => ?_, I1.out.bg, I1.out.bm, by have := HnB.out.1; omega⟩
    unfold gset at hp
    split at hp
    · cases hp
      obtain ⟨es, c, h1⟩ := q1.out.block
      have hql := (Array.getElem?_eq_some_iff.1 h1).1
      refine ⟨((q1.out.same (E2.out q (fun e => by rw [e, I1.out.at_] at h1; cases h1))).same (w' := w3) (hg3.block q (show q < W2.heap.size by omega) (fun e => Hq.out.2.2 (Option.some.inj e)))).more (Nat.le_succ _), Hq.out.2⟩
    · exact hv x p hp
  have F3 : Hid (Fr g w w3) := ((Fr.of_below B1.out).trans (w'' := W2.drew) ⟨show W1.heap.size ≤ W2.heap.size by omega, fun b _ _ _ hb h0 => (E2.out b hb).trans h0⟩).trans (Fr.of_grown hg3 (by obtain ⟨es, c, h1⟩ := I1.out.mm.block; exact ⟨es, c, (E2.out mh I1.out.gm.symm).trans h1⟩))
  have L3 : Hid (Below B w w3) := (B2.out.drew).grown hg3 (by have := B2.out.size; have := HnB.out.2.1; show B ≤ W2.heap.size; omega) (fun j hj => by cases hj; exact I1.out.bm)
  have Hgl := Lib.hid hgl
  clear hm3 hg3 hr1 hgl hml hsz c0 c1 c2
  obtain ⟨c0, c1, c2⟩ := cells3w P3.out
  obtain ⟨d0, d1, d2, d3⟩ := cells4 R3.out
  have df := cellsN_free R3.out
  go_wp2_with fail
  refine bodyPost_ret (ret_cell1 rfl rfl (load_rep (set4 R3.out))) rfl ?_
  exact ⟨rfl, I3.out.off ⟨_, _, _, R3.out⟩ (by have := Hgl.out; omega) set4_off, F3.out.off (Nat.le_refl _) (by simp) set4_off, below_set4 L3.out HnB.out.2.1⟩
end Go.Proofs.YtakiinghipjopaaGreatDoor
