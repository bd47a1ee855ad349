/-
  The contracts of the statements' own helpers on bytes: a block of one byte, and the same bytes that nobody else has.
-/
import Derived.Test.YticdmiomkmaaoaaTab
namespace Go.Proofs.Yticdmiomkmaaoaa
open Go.RowKit

def fillTo (b : Int) (k : Nat) : Array Value := (List.replicate k (Value.int .u8 b) ++ List.replicate (128 - k) (Value.int .u8 0)).toArray

theorem fillTo_size (b : Int) (k : Nat) (h : k ≤ 128) : (fillTo b k).size = 128 := by simp [fillTo]; omega
theorem fillTo_get (b : Int) (k : Nat) (h : k < 128) : (fillTo b k)[k]? = some (.int .u8 0) := by
  simp only [fillTo, List.getElem?_toArray]
  rw [List.getElem?_append_right (by simp)]
  have e : 128 - k = (127 - k) + 1 := by omega
  rw [e, List.replicate_succ]
  simp
theorem fillTo_set (b : Int) (k : Nat) (h : k < 128) : (fillTo b k).setIfInBounds k (.int .u8 b) = fillTo b (k + 1) := by
  simp only [fillTo, List.setIfInBounds_toArray]
  congr 1
  rw [List.set_append_right _ _ (by simp)]
  have e : 128 - k = (128 - (k + 1)) + 1 := by omega
  rw [e, List.replicate_succ]
  simp [List.replicate_succ']

set_option maxRecDepth 100000 in
set_option maxHeartbeats 400000 in
theorem filled_any (b : Int) (w : World) :
    Calls Try.prog 24 #[.int .u8 b] w fun e w' => e = .returned (.slice (some ⟨w.heap.size, 0, none⟩) 128 128) ∧ w' = w.alloc (.cells (List.replicate 128 (Value.int .u8 b)).toArray 5) := by
  have hmk : ∀ w : World, (Instr.makeSlice 26 (.int .i64 128) (.int .i64 128)).run Try.prog w = .ok (.slice (some ⟨w.heap.size, 0, none⟩) 128 128) (w.alloc (.cells (fillTo 0 0) 5)) := fun _ => by kernel_rfl
  have e0 : fillTo 0 0 = fillTo b 0 := by simp [fillTo]
  rw [e0] at hmk
  clear e0
  go_enter Try.func24, Try.ntmps24
  go_wp2
  go_loopw [4] (fun i wr => ∃ k : Nat, k ≤ 128 ∧ i = .int .i64 k ∧ wr = w.alloc (.cells (fillTo b k) 5)) (fun i _ => 128 - (intOf i).toNat)
  case atStart => exact ⟨0, Nat.zero_le _, rfl, rfl⟩
  case round =>
    obtain ⟨k, hk, rfl, rfl⟩ := hrel
    by_cases hlt : k < 128
    · have hg := fillTo_get b k hlt
      have hs := fillTo_set b k hlt
      go_wp2
      go_roundw
      case rel => exact ⟨k + 1, by omega, by go_num, rfl⟩
      case measure => simp [intOf]; omega
    · have hk' : k = 128 := by omega
      subst hk'
      clear hlt hk
      go_wp2
      go_ret
      exact ⟨rfl, by simp [fillTo]⟩

/-- Block g holds the bytes bs from its head on, and they may be written. -/
def OwnB (w : World) (g : Nat) (bs : List Int) : Prop :=
  ∃ (cs : Array Value) (fr : Nat × Nat), w.heap[g]? = some (.cells cs 5 fr) ∧ bs.length ≤ cs.size ∧ (∀ i, i < bs.length → ¬ (fr.1 ≤ i ∧ i < fr.2)) ∧ ∀ (i : Nat) (u : Value), (bs.map (Value.int .u8))[i]? = some u → cs[i]? = some u

theorem OwnB.lt {w : World} {g : Nat} {bs : List Int} (h : OwnB w g bs) : g < w.heap.size := by
  obtain ⟨cs, fr, h, _⟩ := h
  rcases Nat.lt_or_ge g w.heap.size with h1 | h1
  · exact h1
  · simp [Array.getElem?_eq_none h1] at h
theorem OwnB.of_block {w w' : World} {g : Nat} {bs : List Int} (h : OwnB w g bs) (hb : w'.heap[g]? = w.heap[g]?) : OwnB w' g bs := by
  obtain ⟨cs, fr, h0, h1⟩ := h
  exact ⟨cs, fr, by rw [hb, h0], h1⟩
theorem OwnB.alloc {w : World} {g : Nat} {bs : List Int} (h : OwnB w g bs) (o : Obj) : OwnB (w.alloc o) g bs := h.of_block (Below.heap_alloc w o g h.lt)
theorem OwnB.below {w w' : World} {B g : Nat} {bs : List Int} (h : OwnB w g bs) (hb : Below B w w') (hg : g < B) : OwnB w' g bs := h.of_block (hb.block g hg)
theorem OwnB.drew {w : World} {g : Nat} {bs : List Int} (h : OwnB w g bs) : OwnB w.drew g bs := h
theorem OwnB.drewN {w : World} {g : Nat} {bs : List Int} (h : OwnB w g bs) (n : Nat) : OwnB (w.drewN n) g bs := h
theorem ownB_filled (w : World) (b : Int) (n : Nat) : OwnB (w.alloc (.cells (List.replicate n (Value.int .u8 b)).toArray 5)) w.heap.size (List.replicate n b) :=
  ⟨_, _, heap_alloc_new _ _, by simp, fun i _ => by simp, fun i u hu => by rw [List.getElem?_toArray]; rwa [List.map_replicate] at hu⟩
theorem OwnB.bs {w : World} {g : Nat} {bs : List Int} (h : OwnB w g bs) (hb : ∀ x ∈ bs, IsByte x) {c : Nat} (hc : bs.length ≤ c) (hm : c ≤ maxLen) : Bs w w.heap.size (.slice (some ⟨g, 0, none⟩) bs.length c) bs := by
  refine ⟨sl_mk (by simp) hc hm ⟨h.lt, fun j u hu => ?_⟩, hb⟩
  obtain ⟨cs, fr, h0, h1, h2, h3⟩ := h
  rw [Nat.zero_add, cell_of_row w g j cs _ fr h0]
  exact h3 j u hu

theorem strOfNums_list (bs : List Int) (hb : ∀ x ∈ bs, IsByte x) : (strOfNums bs).data.toList.map (fun b => (b.toNat : Int)) = bs := by
  rw [strOfNums_data, List.map_map]
  conv => rhs; rw [← List.map_id bs]
  refine List.map_congr_left fun x hx => ?_
  have := hb x hx
  unfold IsByte at this
  simp
  omega

def AgainPost (w : World) (bs : List Int) (e : Ending) (w' : World) : Prop :=
  ∃ c, bs.length ≤ c ∧ c ≤ maxLen ∧ e = .returned (.slice (some ⟨w.heap.size, 0, none⟩) bs.length c) ∧ OwnB w' w.heap.size bs ∧ Below w.heap.size w w' ∧ w'.heap.size = w.heap.size + 1

theorem again_post (w : World) (B : Nat) (v : Value) (bs : List Int) (hv : Bs w B v bs) :
    AgainPost w bs (.returned (.slice (some ⟨w.heap.size, 0, none⟩) (strOfNums bs).size (grownCap w (strOfNums bs).size 0 5))) (Go.Lib.bytesWorld w 5 (strOfNums bs)) := by
  have hsz : (strOfNums bs).size = bs.length := strOfNums_size bs
  have hlen : bs.length ≤ maxLen := by
    obtain ⟨A, c, _, h1, h2⟩ := hv.1.form
    omega
  have hcap := grownCap_ge w (strOfNums bs).size 0 5
  have hcs : (Go.Lib.bytesCells w 5 (strOfNums bs)).size = grownCap w (strOfNums bs).size 0 5 := by
    simp [Go.Lib.bytesCells]
    have : (strOfNums bs).data.size = (strOfNums bs).size := rfl
    omega
  refine ⟨grownCap w (strOfNums bs).size 0 5, by omega, grownCap_le_maxLen _ _ _ _ (by omega), by rw [hsz], ?_, ?_, Go.Lib.bytesWorld_size _ _ _⟩
  · refine ⟨_, _, Go.Lib.bytesWorld_at_new _ _ _, by rw [hcs]; omega, fun i hi => by rw [hcs]; simp only; omega, fun i u hu => ?_⟩
    have h1 := strOfNums_list bs hv.2
    have hi : i < bs.length := by
      rcases Nat.lt_or_ge i bs.length with h | h
      · exact h
      · rw [List.getElem?_eq_none (by simpa using h)] at hu; cases hu
    unfold Go.Lib.bytesCells
    rw [Array.getElem?_append_left (by simp; have : (strOfNums bs).data.size = (strOfNums bs).size := rfl; omega)]
    have h2 : ((strOfNums bs).data.map fun b => Value.int .u8 b.toNat)[i]? = ((bs.map (Value.int .u8)))[i]? := by
      conv => rhs; rw [← h1]
      simp
      rfl
    rw [h2, hu]
  · exact ⟨rfl, rfl, rfl, by rw [Go.Lib.bytesWorld_size]; omega, fun k hk => Go.Lib.bytesWorld_at_old _ _ _ _ hk⟩

theorem again_any (w : World) (B : Nat) (v : Value) (bs : List Int) (hv : Bs w B v bs) :
    Calls Try.prog 15 #[v] w (AgainPost w bs) := by
  have c1 := hv.convert uBytes uByte uString
  have c2 := Go.Lib.run_convert_string_bytes (P := Try.prog) w 9 26 5 (strOfNums bs) uString uBytes uByte
  have Hv := Lib.hid hv
  clear hv
  go_enter Try.func15, Try.ntmps15
  go_wp2
  go_ret
  exact again_post w B v bs Hv.out
end Go.Proofs.Yticdmiomkmaaoaa
