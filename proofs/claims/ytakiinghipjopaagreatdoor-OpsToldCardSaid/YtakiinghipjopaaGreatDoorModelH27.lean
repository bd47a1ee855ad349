/-
  The model's deed that reads.
-/
import Derived.Test.YtakiinghipjopaaGreatDoorModelD27
import Derived.Test.YtakiinghipjopaaGreatDoorRead27
namespace Go.Proofs.YtakiinghipjopaaGreatDoor
open Go.RowKit
theorem belowSetCells {B b : Nat} {a : World} (hb : B ≤ b) : ∀ (vs : List Value) (o : Nat) (w : World), Below B a w → Below B a (w.setCells b o vs)
  | [], _, _, h => h
  | v :: r, o, _, h => belowSetCells hb r (o + 1) _ (h.setCell (p := ⟨b, o, none⟩) hb v)
theorem there_alloc (w : World) (cs : Array Value) (t : TypeId) (n : Nat) (hn : n ≤ cs.size) : (w.alloc (.cells cs t)).there w.heap.size 0 n := fun j hj => by
  have h := heap_alloc_new w (.cells cs t)
  refine ⟨?_, ?_⟩
  · unfold World.cell?
    simp only [h]
    simp
    omega
  · unfold World.frozen?
    simp only [h]
    simp
theorem blk_bs (w : World) (cs : Array Value) (t : TypeId) (bs : List Int) (hl : bs.length = 128) (hb : ∀ x ∈ bs, IsByte x) (hn : bs.length ≤ cs.size) :
    Bs ((w.alloc (.cells cs t)).drew.setCells w.heap.size 0 (bs.map (.int .u8))) ((w.alloc (.cells cs t)).drew.setCells w.heap.size 0 (bs.map (.int .u8))).heap.size (.slice (some ⟨w.heap.size, 0, none⟩) bs.length bs.length) bs := by
  have hth := there_alloc w cs t bs.length hn
  have hsz : w.heap.size < ((w.alloc (.cells cs t)).drew.setCells w.heap.size 0 (bs.map (.int .u8))).heap.size := by
    have h1 : Below (w.alloc (.cells cs t)).heap.size (w.alloc (.cells cs t)) ((w.alloc (.cells cs t)).drew.setCells w.heap.size 0 (bs.map (.int .u8))) → True := fun _ => trivial
    have h2 := (belowSetCells (B := 0) (a := (w.alloc (.cells cs t)).drew) (Nat.zero_le w.heap.size) (bs.map (.int .u8)) 0 _ (Below.refl _ _)).size
    have h3 : (w.alloc (.cells cs t)).drew.heap.size = w.heap.size + 1 := World.size_alloc _ _
    omega
  refine ⟨sl_mk (by simp) (Nat.le_refl _) (by rw [hl]; unfold maxLen; omega) ⟨hsz, fun j u hu => ?_⟩, hb⟩
  have hj : j < bs.length := by
    rcases Nat.lt_or_ge j bs.length with h | h
    · exact h
    · rw [List.getElem?_eq_none (by simpa using h)] at hu; cases hu
  have h4 := World.cell?_setCells_in w.heap.size (bs.map (.int .u8)) 0 (w.alloc (.cells cs t)).drew (fun j hj => (hth j (by simpa using hj)).1) j (by simpa using hj)
  rw [h4]
  rw [List.getElem?_eq_getElem (by simpa using hj)] at hu
  exact hu
section
variable (w : World) (B g : Nat) (sz la : Int) (mh : Nat) (F : Int → Option Nat) (n : Nat) (c v a m : Int) (AO : Option Addr) (nO cO : Nat)
set_option maxRecDepth 100000 in
set_option maxHeartbeats 4000000 in
theorem deed5 (h : MI w B g sz la mh F n) (hn : n < 1000) (hB : B ≤ w.heap.size) (hv : IsU64 v) (ha : IsU64 a) (q : Nat) (hq : F v = some q) :
    Calls Tryz.prog 88 #[.pointer (some ⟨g, 0, none⟩), .agg #[.int .u8 c, .int .u64 v, .int .u64 a, .int .u64 m, .slice AO nO cO]] w (Done w B g sz mh n true) := by
  obtain ⟨W2, hW2⟩ : ∃ y, y = (w.alloc (.cells #[.int .u8 c, .int .u64 v, .int .u64 a, .int .u64 m, .slice AO nO cO] 25)).alloc (.cells #[.int .i64 0, .int .u64 0, .slice none 0 0, .int .i64 0] 29) := ⟨_, rfl⟩
  have hb2 : Below w.heap.size w W2 := by rw [hW2]; exact (bel1 _ _).alloc (by simp) _
  have R2 : Hid (W2.heap[w.heap.size + 1]? = some (.cells #[.int .i64 0, .int .u64 0, .slice none 0 0, .int .i64 0] 29 (0, 0))) := by show _ = _; rw [hW2]; exact two_new w _ _
  have P2 : Hid (W2.heap[w.heap.size]? = some (.cells #[.int .u8 c, .int .u64 v, .int .u64 a, .int .u64 m, .slice AO nO cO] 25 (0, 0))) := by show _ = _; rw [hW2]; exact two_old w _ _
  have I2 := Lib.hid (h.on hb2)
  have HB := Lib.hid hb2
  have HnB : Hid (B ≤ w.heap.size ∧ g < w.heap.size ∧ n < 1000) := ⟨hB, h.glt, hn⟩
  have hWq := hW2.symm
  obtain ⟨g0, g1, g2⟩ := cells3w I2.out.at_
  obtain ⟨x0, x1, x2, x3, x4⟩ := cells5 P2.out
  have hlook := MM.look (w := W2.drew) (show MM W2.drew mh F n from I2.out.mm) hv
  rw [hq] at hlook
  have HV : Hid (MV W2.drew q n ∧ B ≤ q ∧ q ≠ mh) := I2.out.mv v q hq
  obtain ⟨bv, hbv, hL⟩ := HV.out.1.look ha
  obtain ⟨bs, hbs, hby, rfl⟩ := hbv
  have hlook2 := hL W2.drew rfl
  have hbA := bel1 W2 (.cells Tryz.zeroCells134 134)
  have hlookA := MM.look (w := (W2.alloc (.cells Tryz.zeroCells134 134)).drew) (show MM _ mh F n from (I2.out.on hbA).mm) hv
  rw [hq] at hlookA
  have hlook2A := hL (W2.alloc (.cells Tryz.zeroCells134 134)).drew (hbA.block q (show q < W2.heap.size by obtain ⟨es, cc, h1⟩ := HV.out.1.block; exact (Array.getElem?_eq_some_iff.1 h1).1))
  have hlookB := MM.look (w := W2.drew.alloc (.cells Tryz.zeroCells134 134)) (show MM _ mh F n from (I2.out.on hbA).mm) hv
  rw [hq] at hlookB
  have hlook2B := hL (W2.drew.alloc (.cells Tryz.zeroCells134 134)) (hbA.block q (show q < W2.heap.size by obtain ⟨es, cc, h1⟩ := HV.out.1.block; exact (Array.getElem?_eq_some_iff.1 h1).1))
  clear hL hbA
  have Hbs : Hid (bs.length = 128 ∧ ∀ x ∈ bs, IsByte x) := ⟨hbs, hby⟩
  have Hv := Lib.hid hv
  have Ha := Lib.hid ha
  have Hq := Lib.hid hq
  clear h hn hB hW2 hb2 hv ha hq hbs hby
  go_enter Tryz.func88, Tryz.ntmps88
  go_upto_region 1 with fail
  have hz : Hid (bs.length ≤ Tryz.zeroCells134.size) := by
    have h1 : Tryz.zeroCells134.size = 128 := by kernel_rfl
    have h2 := Hbs.out.1
    show _ ≤ _
    omega
  have k1 : ∀ v ∈ bs.map (Value.int .u8), v.oneCell' = true := fun v hv => by obtain ⟨y, _, rfl⟩ := List.mem_map.1 hv; rfl
  have k2 : (W2.alloc (.cells Tryz.zeroCells134 134)).drew.there W2.heap.size 0 (bs.map (Value.int .u8)).length := by rw [List.length_map]; exact there_alloc W2 _ _ _ hz.out
  have k3 : Option.map (fun x => x.size) (Tryz.prog.info? 134) = some (bs.map (Value.int .u8)).length := by rw [List.length_map, Hbs.out.1]; kernel_rfl
  have q6 : ((W2.alloc (.cells Tryz.zeroCells134 134)).drew.setCells W2.heap.size 0 (bs.map (Value.int .u8))).cell? ⟨g, 2, none⟩ = some (.map (some mh)) ∧ ((W2.alloc (.cells Tryz.zeroCells134 134)).drew.setCells W2.heap.size 0 (bs.map (Value.int .u8))).cell? ⟨w.heap.size, 1, none⟩ = some (.int .u64 v) ∧ ((W2.alloc (.cells Tryz.zeroCells134 134)).drew.setCells W2.heap.size 0 (bs.map (Value.int .u8))).cell? ⟨w.heap.size, 2, none⟩ = some (.int .u64 a) := by
    have hb5 : Below W2.heap.size W2 ((W2.alloc (.cells Tryz.zeroCells134 134)).drew.setCells W2.heap.size 0 (bs.map (Value.int .u8))) := belowSetCells (Nat.le_refl _) _ _ _ (bel1 W2 _).drew
    obtain ⟨-, -, r⟩ := cells3w (I2.out.on hb5).at_
    obtain ⟨-, r1, r2, -, -⟩ := cells5 ((hb5.block _ (Array.getElem?_eq_some_iff.1 P2.out).1).trans P2.out)
    exact ⟨r, r1, r2⟩
  go_region_held3 (fun W => W.cell? ⟨g, 2, none⟩ = some (.map (some mh)) ∧ W.cell? ⟨w.heap.size, 1, none⟩ = some (.int .u64 v) ∧ W.cell? ⟨w.heap.size, 2, none⟩ = some (.int .u64 a)) (first | with_reducible exact ⟨g2, x1, x2⟩ | with_reducible exact q6 | go_keep) (fail)
  all_goals
    obtain ⟨W5, hW5⟩ : ∃ y, y = (W2.alloc (.cells Tryz.zeroCells134 134)).drew.setCells W2.heap.size 0 (bs.map (Value.int .u8)) := ⟨_, rfl⟩
    rw [← hW5]
    have B5 : Hid (Below W2.heap.size W2 W5) := by show Below _ _ _; rw [hW5]; exact belowSetCells (Nat.le_refl _) _ _ _ (bel1 W2 _).drew
    have S5 : Hid (Bs W5 W5.heap.size (.slice (some ⟨W2.heap.size, 0, none⟩) 128 128) bs) := by
      have h := blk_bs W2 Tryz.zeroCells134 134 bs Hbs.out.1 Hbs.out.2 hz.out
      rw [Hbs.out.1, ← hW5] at h
      exact h
    have I5 := Lib.hid (I2.out.on B5.out)
    have R5 : Hid (W5.heap[w.heap.size + 1]? = some (.cells #[.int .i64 0, .int .u64 0, .slice none 0 0, .int .i64 0] 29 (0, 0))) := (B5.out.block _ (Array.getElem?_eq_some_iff.1 R2.out).1).trans R2.out
    have hrb := (Array.getElem?_eq_some_iff.1 R2.out).1
    have Hrb := Lib.hid hrb
    have HCl := Lib.hid (cloneB_any W5 W5.heap.size _ bs S5.out (Nat.le_refl _) (by have := Hbs.out.1; omega))
    clear hW5 hrb g0 g1 g2 x0 x1 x2 x3 x4 hlook hlook2 hlookA hlook2A hlookB hlook2B k1 k2 k3 q6 hWq
    go_wp2_with (go_at_call 31; go_must (refine HCl.out.mono ?_); rintro e W6 ⟨v', rfl, o6, b6⟩; obtain ⟨A6, n6, c6, rfl⟩ := o6.formN; have O6 := Lib.hid o6; have B6 := Lib.hid b6; have R6 := Lib.hid ((b6.block _ (Array.getElem?_eq_some_iff.1 R5.out).1).trans R5.out); obtain ⟨d0, d1, d2, d3⟩ := cells4 R6.out; have df := cellsN_free R6.out; clear o6 b6)
    refine bodyPost_ret (ret_cell1 rfl rfl (load_rep (set4 R6.out))) rfl ?_
    have hA := HB.out.trans ((B5.out.trans (B6.out.mono B5.out.size)).mono HB.out.size)
    exact done_off ((I5.out.on B6.out).more (Nat.le_succ n) HnB.out.2.2) (Fr.of_below hA) (hA.mono HnB.out.1) ⟨_, _, _, R6.out⟩ (Nat.le_succ _) HnB.out.2.1 HnB.out.1 ⟨by decide, by decide⟩ (by decide) (O6.out.bs Hbs.out.2) (fun b hb => by have h1 := (World.ownsRow.lt O6.out b hb).1; have h2 := B5.out.size; have h3 := Hrb.out; omega) (fun b hb => by have h1 := (World.ownsRow.lt O6.out b hb).1; have h2 := B5.out.size; have h4 := HB.out.size; omega) (fun _ => Hbs.out.1) (by rw [Hbs.out.1]; decide)
end
end Go.Proofs.YtakiinghipjopaaGreatDoor
