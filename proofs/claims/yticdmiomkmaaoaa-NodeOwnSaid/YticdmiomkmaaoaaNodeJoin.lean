/-
  The node package: Join.
-/
import Derived.Test.YticdmiomkmaaoaaNodeDiv
import Derived.Test.YticdmiomkmaaoaaSame
import Derived.Deep.Cut
import Derived.Lib.QuietBelow
import Derived.Deep.CutRange
namespace Go.Proofs.Yticdmiomkmaaoaa
open Go.RowKit Go.Sort

/-- one or two nodes, in a row of their own -/
def NdsOwn (w : World) (base : Nat) (v : Value) : List Nd → Prop
  | [] => v = .slice none 0 0
  | [n] => ∃ g kv vv, v = .slice (some ⟨g, 0, none⟩) 1 1 ∧ base ≤ g ∧ w.heap[g]? = some (.cells #[.bool n.leaf, kv, vv] 53 (0, 0)) ∧ OwnU w base kv n.ks ∧ OwnU w base vv n.vs
  | [n, m] => ∃ g kv vv kv' vv', v = .slice (some ⟨g, 0, none⟩) 2 2 ∧ base ≤ g ∧ w.heap[g]? = some (.cells #[.bool n.leaf, kv, vv, .bool m.leaf, kv', vv'] 53 (0, 0)) ∧ OwnU w base kv n.ks ∧ OwnU w base vv n.vs ∧ OwnU w base kv' m.ks ∧ OwnU w base vv' m.vs
  | _ => False

theorem concat_at (w1 w : World) (B vb : Nat) (a b : Value) (xs ys : List Int) (ha : Us w1 B a xs) (hb : Us w1 B b ys) (hB : B ≤ w1.heap.size) (hbel : Below w1.heap.size w1 w) (hrow : w.heap[vb]? = some (.cells #[a, b] 51 (0, 0)))
    (hl1 : xs.length ≤ 10000) (hl2 : ys.length ≤ 10000) (n : Nat) (hn : n = xs.length + ys.length) :
    Calls Try.prog 56 #[.slice (some ⟨vb, 0, none⟩) 2 2] w fun e w' => ∃ A c, e = .returned (.slice A n c) ∧ OwnU w' w1.heap.size (.slice A n c) (xs ++ ys) ∧ Below w.heap.size w w' := by
  subst hn
  refine (concat_any w B vb a b xs ys (ha.on (hbel.mono hB)) (hb.on (hbel.mono hB)) (Nat.le_trans hB hbel.size) (Array.getElem?_eq_some_iff.1 hrow).1 (by rw [cell_of_row w vb 0 _ _ _ hrow]; rfl) (by rw [cell_of_row w vb 1 _ _ _ hrow]; rfl) hl1 hl2).mono ?_
  rintro e w3 ⟨v3, rfl, o3, b3⟩
  obtain ⟨A, c, rfl⟩ := o3.form
  rw [List.length_append] at o3 ⊢
  exact ⟨A, c, rfl, o3.less hbel.size, b3⟩

theorem nd_on {w w' : World} {B : Nat} {v : Value} {n : Nd} (h : NdAt w B v n) (hB : B ≤ w.heap.size) (hb : Below w.heap.size w w') : NdAt w' B v n := by
  obtain ⟨kv, vv, rfl, h1, h2⟩ := h
  exact ⟨kv, vv, rfl, h1.on (hb.mono hB), h2.on (hb.mono hB)⟩
theorem heap_alloc_new3 (w : World) (o o2 o3 : Obj) : (((w.alloc o).alloc o2).alloc o3).heap[w.heap.size + 1 + 1]? = some o3 := by
  have := heap_alloc_new ((w.alloc o).alloc o2) o3
  simpa using this
def joinOk (a b : Nd) : Bool := Rt a && Rt b && (a.leaf == b.leaf) && !apart a b
theorem joinS_no {a b : Nd} (h : joinOk a b = false) : joinS a b = ([], 30) := by
  unfold joinS
  rw [if_neg (by rw [← joinOk, h]; simp)]
theorem joinS_ok {a b : Nd} (h : joinOk a b = true) : joinS a b = if (bothN a b).ks.length ≤ 7 then ([bothN a b], 0) else ([leftN (bothN a b) (half (bothN a b)), rightN (bothN a b) (half (bothN a b))], 0) := by
  unfold joinS
  rw [if_pos (by rw [← joinOk, h])]
theorem joinOk_rt {a b : Nd} (h : joinOk a b = true) : a.ks.length = a.vs.length ∧ b.ks.length = b.vs.length := by
  simp only [joinOk, Bool.and_eq_true] at h
  exact ⟨(rt_len h.1.1.1).1, (rt_len h.1.1.2).1⟩
theorem getLastD_get {xs : List Int} (h : 0 < xs.length) : xs.getLastD 0 = xs[xs.length - 1]'(by omega) := by
  cases xs with
  | nil => simp at h
  | cons x r => simp [List.getLastD_eq_getLast?, List.getLast?_eq_getElem?]
theorem headD_get {xs : List Int} (h : 0 < xs.length) : xs.headD 0 = xs[0]'h := by
  cases xs with
  | nil => simp at h
  | cons x r => rfl

set_option maxRecDepth 100000 in
set_option maxHeartbeats 4000000 in
theorem join_any (w : World) (B : Nat) (va vb : Value) (a b : Nd) (ha : NdAt w B va a) (hb : NdAt w B vb b) (hB : B ≤ w.heap.size) (hl : a.ks.length ≤ 5000 ∧ a.vs.length ≤ 5000 ∧ b.ks.length ≤ 5000 ∧ b.vs.length ≤ 5000) :
    Calls Try.prog 37 #[va, vb] w fun e w' => ∃ lv, e = .returned (.tuple #[lv, .int .i64 (joinS a b).2]) ∧ NdsOwn w' w.heap.size lv (joinS a b).1 ∧ Below w.heap.size w w' := by
  obtain ⟨la, ka, xa⟩ := a
  obtain ⟨lb, kb, xb⟩ := b
  obtain ⟨v1, v2, rfl, h1, h2⟩ := ha
  obtain ⟨v3, v4, rfl, h3, h4⟩ := hb
  obtain ⟨A1, c1, rfl, _⟩ := h1.form
  obtain ⟨A2, c2, rfl, _⟩ := h2.form
  obtain ⟨A3, c3, rfl, _⟩ := h3.form
  obtain ⟨A4, c4, rfl, _⟩ := h4.form
  obtain ⟨ma, hma⟩ : ∃ n, n = xa.length := ⟨_, rfl⟩
  obtain ⟨mb, hmb⟩ : ∃ n, n = xb.length := ⟨_, rfl⟩
  rw [← hma] at h2 ⊢
  rw [← hmb] at h4 ⊢
  obtain ⟨na, hna⟩ : ∃ n, n = ka.length := ⟨_, rfl⟩
  obtain ⟨nb, hnb⟩ : ∃ n, n = kb.length := ⟨_, rfl⟩
  rw [← hna] at h1 ⊢
  rw [← hnb] at h3 ⊢
  clear hma hmb
  obtain ⟨nk, hnk⟩ : ∃ n, n = ka.length + kb.length := ⟨_, rfl⟩
  obtain ⟨mk, hmk⟩ : ∃ n, n = xa.length + xb.length := ⟨_, rfl⟩
  have Hnk := Lib.hid hnk
  have Hmk := Lib.hid hmk
  clear hnk hmk
  have Hl : Hid (ka.length ≤ 5000 ∧ xa.length ≤ 5000 ∧ kb.length ≤ 5000 ∧ xb.length ≤ 5000) := hl
  have Hna := Lib.hid hna
  have Hnb := Lib.hid hnb
  have Hww : Hid (∃ W, W = (w.alloc (.cells #[.bool la, .slice A1 na c1, (.slice A2 ma c2)] 53)).alloc (.cells #[.bool lb, (.slice A3 nb c3), (.slice A4 mb c4)] 53)) := ⟨_, rfl⟩
  have K1 : Hid (Us ((w.alloc (.cells #[.bool la, .slice A1 na c1, (.slice A2 ma c2)] 53)).alloc (.cells #[.bool lb, (.slice A3 nb c3), (.slice A4 mb c4)] 53)) B (.slice A1 na c1) ka) := (h1.alloc hB _).alloc (by simp; omega) _
  have K2 : Hid (Us ((w.alloc (.cells #[.bool la, .slice A1 na c1, (.slice A2 ma c2)] 53)).alloc (.cells #[.bool lb, (.slice A3 nb c3), (.slice A4 mb c4)] 53)) B (.slice A2 ma c2) xa) := (h2.alloc hB _).alloc (by simp; omega) _
  have K3 : Hid (Us ((w.alloc (.cells #[.bool la, .slice A1 na c1, (.slice A2 ma c2)] 53)).alloc (.cells #[.bool lb, (.slice A3 nb c3), (.slice A4 mb c4)] 53)) B (.slice A3 nb c3) kb) := (h3.alloc hB _).alloc (by simp; omega) _
  have K4 : Hid (Us ((w.alloc (.cells #[.bool la, .slice A1 na c1, (.slice A2 ma c2)] 53)).alloc (.cells #[.bool lb, (.slice A3 nb c3), (.slice A4 mb c4)] 53)) B (.slice A4 mb c4) xb) := (h4.alloc hB _).alloc (by simp; omega) _
  have Hbel : Hid (Below w.heap.size w ((w.alloc (.cells #[.bool la, .slice A1 na c1, (.slice A2 ma c2)] 53)).alloc (.cells #[.bool lb, (.slice A3 nb c3), (.slice A4 mb c4)] 53))) := ((Below.refl _ _).alloc (Nat.le_refl _) _).alloc (by simp) _
  have Hsz : Hid (w.heap.size + 2 = ((w.alloc (.cells #[.bool la, .slice A1 na c1, (.slice A2 ma c2)] 53)).alloc (.cells #[.bool lb, (.slice A3 nb c3), (.slice A4 mb c4)] 53)).heap.size) := by show _ = _; simp
  have hr1 := heap_alloc_new1 w (.cells #[.bool la, .slice A1 na c1, (.slice A2 ma c2)] 53) (.cells #[.bool lb, (.slice A3 nb c3), (.slice A4 mb c4)] 53)
  have hr2 := heap_alloc_new2 w (.cells #[.bool la, .slice A1 na c1, (.slice A2 ma c2)] 53) (.cells #[.bool lb, (.slice A3 nb c3), (.slice A4 mb c4)] 53)
  obtain ⟨d0, d1, d2, _⟩ := cells3 hr1
  obtain ⟨f0, f1, f2, _⟩ := cells3 hr2
  have HB := Lib.hid hB
  clear h1 h2 h3 h4 hr1 hr2 hl hB hna hnb Hww
  go_enter Try.func37, Try.ntmps37
  go_upto_region 1 with fail
  generalize ((w.alloc (.cells #[.bool la, .slice A1 na c1, (.slice A2 ma c2)] 53)).alloc (.cells #[.bool lb, (.slice A3 nb c3), (.slice A4 mb c4)] 53)) = W at *
  have HBw : Hid (B ≤ W.heap.size) := by have := Hsz.out; have := HB.out; show _ ≤ _; omega
  have HS : Hid (∀ w', Below W.heap.size W w' → w'.cell? ⟨w.heap.size, 0, none⟩ = some (.bool la) ∧ w'.cell? ⟨w.heap.size, 1, none⟩ = some (.slice A1 na c1) ∧ w'.cell? ⟨w.heap.size, 2, none⟩ = some (.slice A2 ma c2) ∧ w'.cell? ⟨w.heap.size + 1, 0, none⟩ = some (.bool lb) ∧ w'.cell? ⟨w.heap.size + 1, 1, none⟩ = some (.slice A3 nb c3) ∧ w'.cell? ⟨w.heap.size + 1, 2, none⟩ = some (.slice A4 mb c4)) :=
    fun w' h => ⟨(h.cell (by have := Hsz.out; show w.heap.size < _; omega)).trans d0, (h.cell (by have := Hsz.out; show w.heap.size < _; omega)).trans d1, (h.cell (by have := Hsz.out; show w.heap.size < _; omega)).trans d2,
      (h.cell (by have := Hsz.out; show w.heap.size + 1 < _; omega)).trans f0, (h.cell (by have := Hsz.out; show w.heap.size + 1 < _; omega)).trans f1, (h.cell (by have := Hsz.out; show w.heap.size + 1 < _; omega)).trans f2⟩
  clear d0 d1 d2 f0 f1 f2
  have Hsub : Hid (Below W.heap.size W W.drew) := (Below.refl _ _).drew
  have HBA : Hid (Below W.heap.size W (W.alloc (.cells #[.slice A1 na c1, (.slice A3 nb c3)] 51)).drew) := ((Below.refl _ _).alloc (Nat.le_refl _) _).drew
  have HBV : Hid (Below W.heap.size W (W.alloc (.cells #[(.slice A2 ma c2), (.slice A4 mb c4)] 51)).drew) := ((Below.refl _ _).alloc (Nat.le_refl _) _).drew
  have HBB : Hid (Below W.heap.size W ((W.alloc (.cells #[.slice A1 na c1, (.slice A3 nb c3)] 51)).alloc (.cells #[(.slice A2 ma c2), (.slice A4 mb c4)] 51)).drew) := (((Below.refl _ _).alloc (Nat.le_refl _) _).alloc (by simp) _).drew
  have HBC : Hid (Below W.heap.size W ((W.alloc (.cells #[(.slice A2 ma c2), (.slice A4 mb c4)] 51)).alloc (.cells #[.slice A1 na c1, (.slice A3 nb c3)] 51)).drew) := (((Below.refl _ _).alloc (Nat.le_refl _) _).alloc (by simp) _).drew
  have HhA : Hid ((W.alloc (.cells #[.slice A1 na c1, (.slice A3 nb c3)] 51)).drew.heap[W.heap.size]? = some (.cells #[.slice A1 na c1, (.slice A3 nb c3)] 51 (0, 0))) := heap_alloc_new W _
  have HhBk : Hid (((W.alloc (.cells #[.slice A1 na c1, (.slice A3 nb c3)] 51)).alloc (.cells #[(.slice A2 ma c2), (.slice A4 mb c4)] 51)).drew.heap[W.heap.size]? = some (.cells #[.slice A1 na c1, (.slice A3 nb c3)] 51 (0, 0))) := heap_alloc_new1 W _ _
  have HhBv : Hid (((W.alloc (.cells #[.slice A1 na c1, (.slice A3 nb c3)] 51)).alloc (.cells #[(.slice A2 ma c2), (.slice A4 mb c4)] 51)).drew.heap[W.heap.size + 1]? = some (.cells #[(.slice A2 ma c2), (.slice A4 mb c4)] 51 (0, 0))) := heap_alloc_new2 W _ _
  have HhCk : Hid (((W.alloc (.cells #[(.slice A2 ma c2), (.slice A4 mb c4)] 51)).alloc (.cells #[.slice A1 na c1, (.slice A3 nb c3)] 51)).drew.heap[W.heap.size + 1]? = some (.cells #[.slice A1 na c1, (.slice A3 nb c3)] 51 (0, 0))) := heap_alloc_new2 W _ _
  have HhCv : Hid (((W.alloc (.cells #[(.slice A2 ma c2), (.slice A4 mb c4)] 51)).alloc (.cells #[.slice A1 na c1, (.slice A3 nb c3)] 51)).drew.heap[W.heap.size]? = some (.cells #[(.slice A2 ma c2), (.slice A4 mb c4)] 51 (0, 0))) := heap_alloc_new1 W _ _
  have Hl2 : Hid (ka.length ≤ 10000 ∧ xa.length ≤ 10000 ∧ kb.length ≤ 10000 ∧ xb.length ≤ 10000) := by have := Hl.out; show _ ∧ _ ∧ _ ∧ _; omega
  go_cut [6, 7] from 11 to 22 (fun kx vx wx => ∃ A13 k3 A15 k5, kx = .slice A13 nk k3 ∧ vx = .slice A15 mk k5 ∧ Hid (OwnU wx W.heap.size (.slice A13 nk k3) (ka ++ kb) ∧ OwnU wx W.heap.size (.slice A15 mk k5) (xa ++ xb) ∧ Below W.heap.size W wx))
  case first =>
    go_region_held3 (fun w' => w'.cell? ⟨w.heap.size, 0, none⟩ = some (.bool la) ∧ w'.cell? ⟨w.heap.size, 1, none⟩ = some (.slice A1 na c1) ∧ w'.cell? ⟨w.heap.size, 2, none⟩ = some (.slice A2 ma c2) ∧ w'.cell? ⟨w.heap.size + 1, 0, none⟩ = some (.bool lb) ∧ w'.cell? ⟨w.heap.size + 1, 1, none⟩ = some (.slice A3 nb c3) ∧ w'.cell? ⟨w.heap.size + 1, 2, none⟩ = some (.slice A4 mb c4))
      (first
        | with_reducible exact HS.out _ B5.out
        | with_reducible exact HS.out _ b3
        | with_reducible exact HS.out _ (b3.alloc b3.size _)
        | with_reducible exact HS.out _ Hsub.out
        | with_reducible exact HS.out _ HBA.out
        | with_reducible exact HS.out _ HBB.out
        | with_reducible exact HS.out _ HBC.out
        | with_reducible exact HS.out _ HBV.out
        | go_keep)
      (first
        | ((go_at_call 56); (with_reducible refine (concat_at W (W.alloc (.cells #[.slice A1 na c1, (.slice A3 nb c3)] 51)).drew B W.heap.size _ _ ka kb K1.out K3.out HBw.out HBA.out HhA.out Hl2.out.1 Hl2.out.2.2.1 nk Hnk.out).mono ?_); rintro e w3 ⟨A13, k3, rfl, o3, b3'⟩; have b3 := HBA.out.trans (b3'.mono HBA.out.size); clear b3')
        | ((go_at_call 56); (with_reducible refine (concat_at W ((W.alloc (.cells #[.slice A1 na c1, (.slice A3 nb c3)] 51)).alloc (.cells #[(.slice A2 ma c2), (.slice A4 mb c4)] 51)).drew B W.heap.size _ _ ka kb K1.out K3.out HBw.out HBB.out HhBk.out Hl2.out.1 Hl2.out.2.2.1 nk Hnk.out).mono ?_); rintro e w3 ⟨A13, k3, rfl, o3, b3'⟩; have b3 := HBB.out.trans (b3'.mono HBB.out.size); have hval := Lib.hid ((b3'.block (W.heap.size + 1) (by simp)).trans HhBv.out); clear b3')
        | ((go_at_call 56); (with_reducible refine (concat_at W ((W.alloc (.cells #[(.slice A2 ma c2), (.slice A4 mb c4)] 51)).alloc (.cells #[.slice A1 na c1, (.slice A3 nb c3)] 51)).drew B (W.heap.size + 1) _ _ ka kb K1.out K3.out HBw.out HBC.out HhCk.out Hl2.out.1 Hl2.out.2.2.1 nk Hnk.out).mono ?_); rintro e w3 ⟨A13, k3, rfl, o3, b3'⟩; have b3 := HBC.out.trans (b3'.mono HBC.out.size); have hval := Lib.hid ((b3'.block W.heap.size (by simp; omega)).trans HhCv.out); clear b3')
        | ((go_at_call 56); (with_reducible refine (concat_at W (w3.alloc (.cells #[(.slice A2 ma c2), (.slice A4 mb c4)] 51)) B w3.heap.size _ _ xa xb K2.out K4.out HBw.out (b3.alloc b3.size _) (heap_alloc_new w3 _) Hl2.out.2.1 Hl2.out.2.2.2 mk Hmk.out).mono ?_); rintro e w5 ⟨A15, k5, rfl, o5, b5'⟩; have B5 := Lib.hid ((b3.alloc b3.size (.cells #[(.slice A2 ma c2), (.slice A4 mb c4)] 51)).trans (b5'.mono (b3.alloc b3.size (.cells #[(.slice A2 ma c2), (.slice A4 mb c4)] 51)).size)); have O5 := Lib.hid ((o3.alloc (.cells #[(.slice A2 ma c2), (.slice A4 mb c4)] 51)).on b5'); clear b5')
        | ((go_at_call 56); (with_reducible refine (concat_at W w3 B (W.heap.size + 1) _ _ xa xb K2.out K4.out HBw.out b3 hval.out Hl2.out.2.1 Hl2.out.2.2.2 mk Hmk.out).mono ?_); rintro e w5 ⟨A15, k5, rfl, o5, b5'⟩; have B5 := Lib.hid (b3.trans (b5'.mono b3.size)); have O5 := Lib.hid (o3.on b5'); clear b5')
        | ((go_at_call 56); (with_reducible refine (concat_at W w3 B W.heap.size _ _ xa xb K2.out K4.out HBw.out b3 hval.out Hl2.out.2.1 Hl2.out.2.2.2 mk Hmk.out).mono ?_); rintro e w5 ⟨A15, k5, rfl, o5, b5'⟩; have B5 := Lib.hid (b3.trans (b5'.mono b3.size)); have O5 := Lib.hid (o3.on b5'); clear b5'))
    all_goals (go_wp2_with fail; go_meet; exact ⟨_, _, _, _, rfl, rfl, O5.out, o5, B5.out⟩)
  case rest =>
    clear HBA HBV HBB HBC HhA HhBk HhBv HhCk HhCv Hsub
    obtain ⟨A13, k3, A15, k5, rfl, rfl, HC⟩ := hcut
    obtain ⟨w5, hw5⟩ : ∃ w5, w5 = wc := ⟨_, rfl⟩
    rw [← hw5] at HC ⊢
    clear hw5
    have O5 := Lib.hid HC.out.1
    have P5 := Lib.hid HC.out.2.1
    have B5 := Lib.hid HC.out.2.2
    clear HC
    have HB5 : Hid (B ≤ w5.heap.size) := Nat.le_trans HBw.out B5.out.size
    have UK : Hid (Us w5 w5.heap.size (.slice A13 nk k3) (ka ++ kb)) := O5.out.us (fun x hx => by
      rcases List.mem_append.1 hx with h | h
      · exact K1.out.2 x h
      · exact K3.out.2 x h)
    have UV : Hid (Us w5 w5.heap.size (.slice A15 mk k5) (xa ++ xb)) := P5.out.us (fun x hx => by
      rcases List.mem_append.1 hx with h | h
      · exact K2.out.2 x h
      · exact K4.out.2 x h)
    have HNa : Hid (NdAt w5 B (.agg #[.bool la, .slice A1 na c1, .slice A2 ma c2]) ⟨la, ka, xa⟩) := ⟨_, _, rfl, K1.out.on (B5.out.mono HBw.out), K2.out.on (B5.out.mono HBw.out)⟩
    have HNb : Hid (NdAt w5 B (.agg #[.bool lb, .slice A3 nb c3, .slice A4 mb c4]) ⟨lb, kb, xb⟩) := ⟨_, _, rfl, K3.out.on (B5.out.mono HBw.out), K4.out.on (B5.out.mono HBw.out)⟩
    have HT : Hid (∀ w', Below w5.heap.size w5 w' → w'.cell? ⟨w.heap.size, 0, none⟩ = some (.bool la) ∧ w'.cell? ⟨w.heap.size, 1, none⟩ = some (.slice A1 na c1) ∧ w'.cell? ⟨w.heap.size, 2, none⟩ = some (.slice A2 ma c2) ∧ w'.cell? ⟨w.heap.size + 1, 0, none⟩ = some (.bool lb) ∧ w'.cell? ⟨w.heap.size + 1, 1, none⟩ = some (.slice A3 nb c3) ∧ w'.cell? ⟨w.heap.size + 1, 2, none⟩ = some (.slice A4 mb c4)) := fun w' h => HS.out w' (B5.out.trans (h.mono B5.out.size))
    have Hsub5 : Hid (Below w5.heap.size w5 w5.drew) := (Below.refl _ _).drew
    clear K1 K2 K3 K4 HS
    obtain ⟨d0, d1, d2, f0, f1, f2⟩ := HT.out w5 (Below.refl _ _)
    go_upto_region 3 with fail
    clear d0 d1 d2 f0 f1 f2
    go_cut [62] from 26 to 61 (fun bx wx => bx = .bool (!joinOk ⟨la, ka, xa⟩ ⟨lb, kb, xb⟩) ∧ Below w5.heap.size w5 wx)
    case first =>
      obtain ⟨ra, hra⟩ : ∃ r, r = Rt ⟨la, ka, xa⟩ := ⟨_, rfl⟩
      have HRa := Lib.hid hra
      clear hra
      have cA : ∀ d os, Calls Try.prog 28 #[.agg #[.bool la, .slice A1 na c1, .slice A2 ma c2]] (grow (redrawn w5 d) os) fun e w'' => e = .returned (.bool ra) ∧ ∃ p : Regrown, w'' = grow (redrawn w5 p.d) p.os := fun d os => Calls.regrown_of (by
        rw [HRa.out]
        exact right_any _ B _ ⟨la, ka, xa⟩ (nd_on HNa.out HB5.out (below_regrown w5 d os)) (Nat.le_trans HB5.out (below_regrown w5 d os).size) Hl2.out.1 Hl2.out.2.1)
      obtain ⟨rb, hrb⟩ : ∃ r, r = Rt ⟨lb, kb, xb⟩ := ⟨_, rfl⟩
      have HRb := Lib.hid hrb
      clear hrb
      have cB : ∀ d os, Calls Try.prog 28 #[.agg #[.bool lb, .slice A3 nb c3, .slice A4 mb c4]] (grow (redrawn w5 d) os) fun e w'' => e = .returned (.bool rb) ∧ ∃ p : Regrown, w'' = grow (redrawn w5 p.d) p.os := fun d os => Calls.regrown_of (by
        rw [HRb.out]
        exact right_any _ B _ ⟨lb, kb, xb⟩ (nd_on HNb.out HB5.out (below_regrown w5 d os)) (Nat.le_trans HB5.out (below_regrown w5 d os).size) Hl2.out.2.2.1 Hl2.out.2.2.2)
      obtain ⟨y0, y1, y2, y3, y4, y5⟩ := HT.out w5 (Below.refl _ _)
      have z0 := cell_regrown y0
      have z1 := cell_regrown y1
      have z2 := cell_regrown y2
      have z3 := cell_regrown y3
      have z4 := cell_regrown y4
      have z5 := cell_regrown y5
      clear y0 y1 y2 y3 y4 y5
      cases ra
      · have HJ : Hid (joinOk ⟨la, ka, xa⟩ ⟨lb, kb, xb⟩ = false) := by show _ = _; simp [joinOk, ← HRa.out]
        refine wp_region_quiet_below (by kernel_rfl) (by kernel_rfl) ?_
        repeat (go_big_quiet_step (first | with_reducible exact cA _ _ | with_reducible exact cB _ _))
        refine wpQuiet_nil ?_
        intro _ hw'
        obtain ⟨⟨dq, osq⟩, hw''⟩ := hw'
        subst hw''
        go_wp2_with fail
        go_meet
        exact ⟨by rw [HJ.out]; rfl, below_regrown w5 dq osq⟩
      cases rb
      · have HJ : Hid (joinOk ⟨la, ka, xa⟩ ⟨lb, kb, xb⟩ = false) := by show _ = _; simp [joinOk, ← HRb.out]
        refine wp_region_quiet_below (by kernel_rfl) (by kernel_rfl) ?_
        repeat (go_big_quiet_step (first | with_reducible exact cA _ _ | with_reducible exact cB _ _))
        refine wpQuiet_nil ?_
        intro _ hw'
        obtain ⟨⟨dq, osq⟩, hw''⟩ := hw'
        subst hw''
        go_wp2_with fail
        go_meet
        exact ⟨by rw [HJ.out]; rfl, below_regrown w5 dq osq⟩
      by_cases hle : la = lb
      case neg =>
        have HJ : Hid (joinOk ⟨la, ka, xa⟩ ⟨lb, kb, xb⟩ = false) := by show _ = _; simp [joinOk, hle]
        have hle2 : (la == lb) = false := by simpa using hle
        have hle3 : (la != lb) = true := by simp [bne, hle2]
        refine wp_region_quiet_below (by kernel_rfl) (by kernel_rfl) ?_
        repeat (go_big_quiet_step (first | with_reducible exact cA _ _ | with_reducible exact cB _ _))
        refine wpQuiet_nil ?_
        intro _ hw'
        obtain ⟨⟨dq, osq⟩, hw''⟩ := hw'
        subst hw''
        go_wp2_with fail
        go_meet
        exact ⟨by rw [HJ.out]; rfl, below_regrown w5 dq osq⟩
      subst hle
      by_cases hna0 : na = 0
      case pos =>
        subst hna0
        have HJ : Hid (joinOk ⟨la, ka, xa⟩ ⟨la, kb, xb⟩ = true) := by
          show _ = _
          have hk0 : ka = [] := List.eq_nil_of_length_eq_zero Hna.out.symm
          unfold joinOk
          rw [← HRa.out, ← HRb.out]
          simp [apart, hk0]
        refine wp_region_quiet_below (by kernel_rfl) (by kernel_rfl) ?_
        repeat (go_big_quiet_step (first | with_reducible exact cA _ _ | with_reducible exact cB _ _))
        refine wpQuiet_nil ?_
        intro _ hw'
        obtain ⟨⟨dq, osq⟩, hw''⟩ := hw'
        subst hw''
        go_wp2_with fail
        go_meet
        exact ⟨by rw [HJ.out]; rfl, below_regrown w5 dq osq⟩
      have hk0 : 0 < na := by omega
      have hk0' : (0 : Int) < na := by omega
      by_cases hnb0 : nb = 0
      case pos =>
        subst hnb0
        have hkm : ¬ ((na : Int) < nk) := by have := Hnb.out; have := Hnk.out; have := Hna.out; omega
        have HJ : Hid (joinOk ⟨la, ka, xa⟩ ⟨la, kb, xb⟩ = true) := by
          show _ = _
          have hk0 : kb = [] := List.eq_nil_of_length_eq_zero Hnb.out.symm
          unfold joinOk
          rw [← HRa.out, ← HRb.out]
          simp [apart, hk0]
        refine wp_region_quiet_below (by kernel_rfl) (by kernel_rfl) ?_
        repeat (go_big_quiet_step (first | with_reducible exact cA _ _ | with_reducible exact cB _ _))
        refine wpQuiet_nil ?_
        intro _ hw'
        obtain ⟨⟨dq, osq⟩, hw''⟩ := hw'
        subst hw''
        go_wp2_with fail
        go_meet
        exact ⟨by rw [HJ.out]; rfl, below_regrown w5 dq osq⟩
      have hkm2 : (na : Int) < nk := by have := Hnb.out; have := Hnk.out; have := Hna.out; omega
      obtain ⟨p, hp⟩ : ∃ p, p = na - 1 := ⟨_, rfl⟩
      have Hp : Hid (na = p + 1) := by show _ = _; omega
      have hpw : IntKind.i64.wrap ((na : Int) - 1) = (p : Int) := by have := Hp.out; have := Hna.out; have := Hl.out; rw [IntKind.wrap_i64]; omega
      have hpw2 : RowKit.wrap64 ((na : Int) - 1) = (p : Int) := by have := Hp.out; have := Hna.out; have := Hl.out; unfold RowKit.wrap64; omega
      have hkm : (p : Int) < nk := by have := Hp.out; omega
      have hkm3 : p < nk := by omega
      have hkm4 : na < nk := by omega
      clear hp
      obtain ⟨_, bk, ok, hA13, _, hcell⟩ := UK.out.row (by have := Hnb.out; have := Hnk.out; have := Hna.out; omega)
      subst hA13
      obtain ⟨ea, hea⟩ : ∃ e, e = ka.getLastD 0 := ⟨_, rfl⟩
      obtain ⟨eb, heb⟩ : ∃ e, e = kb.headD 0 := ⟨_, rfl⟩
      have HE : Hid (ea = ka.getLastD 0 ∧ eb = kb.headD 0) := ⟨hea, heb⟩
      have hca := hcell p (by have := Hna.out; have := Hp.out; simp; omega)
      have hcb := hcell na (by have := Hna.out; have := Hnb.out; simp; omega)
      rw [show (ka ++ kb)[p]'(by have := Hna.out; have := Hp.out; simp; omega) = ea by
        rw [hea, getLastD_get (by have := Hna.out; omega), List.getElem_append_left (by have := Hna.out; have := Hp.out; omega)]; congr 1; have := Hna.out; have := Hp.out; omega] at hca
      rw [show (ka ++ kb)[na]'(by have := Hna.out; have := Hnb.out; simp; omega) = eb by
        rw [heb, headD_get (by have := Hnb.out; omega), List.getElem_append_right (by have := Hna.out; omega)]; congr 1; have := Hna.out; omega] at hcb
      have z6 := cell_regrown hca
      have z7 := cell_regrown hcb
      have HAp : Hid (apart ⟨la, ka, xa⟩ ⟨la, kb, xb⟩ = decide (eb ≤ ea)) := by
        have h1 : ka ≠ [] := fun h => by subst h; have := Hna.out; simp at this; omega
        have h2 : kb ≠ [] := fun h => by subst h; have := Hnb.out; simp at this; omega
        show _ = _
        simp [apart, h1, h2, HE.out.1, HE.out.2]
      clear hcell hca hcb hea heb
      by_cases hge : eb ≤ ea
      · have HJ : Hid (joinOk ⟨la, ka, xa⟩ ⟨la, kb, xb⟩ = false) := by show _ = _; simp [joinOk, HAp.out, hge]
        refine wp_region_quiet_below (by kernel_rfl) (by kernel_rfl) ?_
        repeat (go_big_quiet_step (first | with_reducible exact cA _ _ | with_reducible exact cB _ _))
        refine wpQuiet_nil ?_
        intro _ hw'
        obtain ⟨⟨dq, osq⟩, hw''⟩ := hw'
        subst hw''
        go_wp2_with fail
        go_meet
        exact ⟨by rw [HJ.out]; rfl, below_regrown w5 dq osq⟩
      · have HJ : Hid (joinOk ⟨la, ka, xa⟩ ⟨la, kb, xb⟩ = true) := by show _ = _; simp [joinOk, ← HRa.out, ← HRb.out, HAp.out]; omega
        refine wp_region_quiet_below (by kernel_rfl) (by kernel_rfl) ?_
        repeat (go_big_quiet_step (first | with_reducible exact cA _ _ | with_reducible exact cB _ _))
        refine wpQuiet_nil ?_
        intro _ hw'
        obtain ⟨⟨dq, osq⟩, hw''⟩ := hw'
        subst hw''
        go_wp2_with fail
        go_meet
        exact ⟨by rw [HJ.out]; rfl, below_regrown w5 dq osq⟩
    case rest =>
      obtain ⟨rfl, hb7⟩ := hcut
      obtain ⟨w7, hw7⟩ : ∃ w7, w7 = wc := ⟨_, rfl⟩
      rw [← hw7] at hb7 ⊢
      have b7 := Lib.hid hb7
      clear hw7 hb7
      obtain ⟨d0, d1, d2, f0, f1, f2⟩ := HT.out w7 b7.out
      obtain ⟨r, hr⟩ : ∃ r, r = joinOk ⟨la, ka, xa⟩ ⟨lb, kb, xb⟩ := ⟨_, rfl⟩
      rw [← hr]
      have HOK := Lib.hid hr
      clear hr HT
      cases r
      · have HJ : Hid (joinS ⟨la, ka, xa⟩ ⟨lb, kb, xb⟩ = ([], 30)) := joinS_no HOK.out.symm
        go_wp2_with fail
        go_ret2
        rw [HJ.out]
        exact ⟨_, rfl, rfl, Hbel.out.trans ((B5.out.trans (b7.out.mono B5.out.size)).mono Hbel.out.size)⟩
      · by_cases hk7 : nk ≤ 7
        · have hk7' : (nk : Int) ≤ 7 := by omega
          have HJ : Hid (joinS ⟨la, ka, xa⟩ ⟨lb, kb, xb⟩ = ([bothN ⟨la, ka, xa⟩ ⟨lb, kb, xb⟩], 0)) := by
            show _ = _
            rw [joinS_ok HOK.out.symm, if_pos (by simp [bothN]; have := Hnk.out; omega)]
          go_wp2_with fail
          go_ret2
          rw [HJ.out]
          have hb7 := b7.out.size
          have hb5 := B5.out.size
          have hW := Hbel.out.size
          refine ⟨_, rfl, ⟨w7.heap.size, .slice A13 nk k3, .slice A15 mk k5, rfl, by omega, heap_alloc_new w7 _, ((O5.out.on b7.out).alloc _).less hW, ((P5.out.on b7.out).alloc _).less hW⟩, (Hbel.out.trans ((B5.out.trans (b7.out.mono hb5)).mono hW)).alloc (by omega) _⟩
        · have hk7' : ¬ ((nk : Int) ≤ 7) := by omega
          have HJ : Hid (joinS ⟨la, ka, xa⟩ ⟨lb, kb, xb⟩ = ([leftN (bothN ⟨la, ka, xa⟩ ⟨lb, kb, xb⟩) (half (bothN ⟨la, ka, xa⟩ ⟨lb, kb, xb⟩)), rightN (bothN ⟨la, ka, xa⟩ ⟨lb, kb, xb⟩) (half (bothN ⟨la, ka, xa⟩ ⟨lb, kb, xb⟩))], 0)) := by
            show _ = _
            rw [joinS_ok HOK.out.symm, if_neg (by simp [bothN]; have := Hnk.out; omega)]
          go_wp2_with fail
          have HR := joinOk_rt HOK.out.symm
          refine (halves_any w7 w5.heap.size la _ _ (ka ++ kb) (xa ++ xb) (UK.out.on b7.out) (UV.out.on b7.out) b7.out.size (by have h1 := HR.1; have h2 := HR.2; simp at h1 h2 ⊢; omega) (by simp; have := Hnk.out; omega) (by simp; have := Hl.out; omega)).mono ?_
          rintro e w8 ⟨_, _, rfl, ⟨k1, x1, rfl, o1, p1⟩, ⟨k2, x2, rfl, o2, p2⟩, b8⟩
          obtain ⟨A21, n21, k21, rfl⟩ := o1.formN
          obtain ⟨A22, n22, k22, rfl⟩ := p1.formN
          obtain ⟨A23, n23, k23, rfl⟩ := o2.formN
          obtain ⟨A24, n24, k24, rfl⟩ := p2.formN
          have O1 := Lib.hid o1
          have P1 := Lib.hid p1
          have O2 := Lib.hid o2
          have P2 := Lib.hid p2
          have B8 := Lib.hid b8
          clear o1 p1 o2 p2 b8 HR
          simp only [leftN, rightN]
          go_wp2_with fail
          go_ret2
          rw [HJ.out]
          have hb8 := B8.out.size
          have hb7 := b7.out.size
          have hb5 := B5.out.size
          have hW := Hbel.out.size
          refine ⟨_, rfl, ⟨_, _, _, _, _, rfl, ?_, heap_alloc_new3 _ _ _ _, ((O1.out.alloc _).alloc _ |>.alloc _).less (by omega), ((P1.out.alloc _).alloc _ |>.alloc _).less (by omega), ((O2.out.alloc _).alloc _ |>.alloc _).less (by omega), ((P2.out.alloc _).alloc _ |>.alloc _).less (by omega)⟩, ((((Hbel.out.trans ((B5.out.trans (b7.out.mono hb5)).mono hW)).trans (B8.out.mono (by omega))).alloc (by omega) _).alloc (by simp; omega) _).alloc (by simp; omega) _⟩
          omega
end Go.Proofs.Yticdmiomkmaaoaa
