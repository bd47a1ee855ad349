/-
  The reference of layer 27: what is told of a reply.
-/
import Derived.Test.YtakiinghipjopaaGreatDoorRefD27
import Derived.Test.YtakiinghipjopaaGreatDoorTold27
namespace Go.Proofs.YtakiinghipjopaaGreatDoor
open Go.RowKit Go.Shelf

set_option maxRecDepth 100000 in
set_option maxHeartbeats 4000000 in
theorem rtold_any (p : OpV × Value) (r : RepV) (dv : Value) (B : Nat) (w : World) (hp : OpOk w B p) (hB : B ≤ w.heap.size) (hd : Bs w B dv r.data) (hl : r.data.length ≤ 100000) (he : 0 ≤ r.err ∧ r.err ≤ 9223372036854775807) (hv : IsU64 r.vol) (hc : 0 ≤ r.count ∧ r.count ≤ 9223372036854775807) :
    Calls Tryz.prog 20 #[opVal p, repVal r dv] w fun e w' => e = .returned (.string ⟨(toldR p.1.code r).toArray⟩) ∧ Below w.heap.size w w' := by
  obtain ⟨⟨c, v, a, n, d⟩, ov⟩ := p
  obtain ⟨er, vo, da, co⟩ := r
  have hc0 : IsByte c := hp.2.1
  obtain ⟨c0, c1⟩ := hc0
  simp only [opVal, repVal]
  simp only at hd hl he hv hc
  obtain ⟨e0, e1⟩ := he
  obtain ⟨k0, k1⟩ := hc
  obtain ⟨W2, hW2⟩ : ∃ W2, W2 = (w.alloc (.cells #[.int .u8 c, .int .u64 v, .int .u64 a, .int .u64 n, ov] 25)).alloc (.cells #[.int .i64 er, .int .u64 vo, dv, .int .i64 co] 29) := ⟨_, rfl⟩
  have HB : Hid (Below w.heap.size w W2) := by rw [hW2]; exact (bel1 _ _).alloc (by simp) _
  have r1 : W2.heap[w.heap.size]? = some (.cells #[.int .u8 c, .int .u64 v, .int .u64 a, .int .u64 n, ov] 25 (0, 0)) := by rw [hW2]; exact two_old w _ _
  have r2 : W2.heap[w.heap.size + 1]? = some (.cells #[.int .i64 er, .int .u64 vo, dv, .int .i64 co] 29 (0, 0)) := by rw [hW2]; exact two_new w _ _
  obtain ⟨q0, -, -, -, -⟩ := cells5 r1
  obtain ⟨s0, s1, s2, s3⟩ := cells4 r2
  have hit : ∀ x : Int, 0 ≤ x → Lib.itoa x = Lib.decDigits x.toNat := fun x hx => by unfold Lib.itoa; rw [if_neg (by omega)]
  have HI := Lib.hid (rnum_any er ⟨e0, by omega⟩ W2)
  have HC := Lib.hid (rnum_any co ⟨k0, by omega⟩ W2)
  have HF := Lib.hid (rnum_any vo hv W2)
  have HS := Lib.hid (rdata_any W2 B dv da ⟨hd.1.below (HB.out.mono hB), hd.2⟩ (Nat.le_trans hB HB.out.size) hl)
  have w1 : IntKind.u64.wrap er = er := by apply IntWalk.u64_in; omega
  have w2 : IntKind.u64.wrap co = co := by apply IntWalk.u64_in; omega
  have Hec := Lib.hid (hit er e0)
  have Hcc := Lib.hid (hit co k0)
  have hWq := hW2.symm
  have hdl := dec_sm er ⟨e0, by omega⟩
  clear r1 r2 hW2 hp hd hl hv hB hit e1 k1
  by_cases hz : er = 0
  · have HT : Hid (∀ x, toldR c ⟨er, vo, da, co⟩ = x ↔ (if c = 1 ∨ c = 3 then Lib.decDigits vo.toNat else if c = 4 then shownOf da else if c = 6 ∨ c = 9 then Lib.itoa co else if c = 2 ∨ c = 5 ∨ c = 7 ∨ c = 8 then [111, 107] else []) = x) := fun x => by
      unfold toldR
      rw [if_neg (by simp [hz])]
    subst hz
    clear HI hdl
    by_cases hr : c = 1 ∨ c = 2 ∨ c = 3 ∨ c = 4 ∨ c = 5 ∨ c = 6 ∨ c = 7 ∨ c = 8 ∨ c = 9
    · rcases hr with rfl | rfl | rfl | rfl | rfl | rfl | rfl | rfl | rfl
      all_goals
        have HR := Lib.hid ((HT.out _).2 rfl)
        go_enter Tryz.func20, Tryz.ntmps20
        go_wp2_with (first
          | (go_at_call 41; (first | (with_reducible refine HC.out.mono ?_) | (with_reducible refine HF.out.mono ?_)); rintro e W3 ⟨rfl, h3⟩; have H3 := Lib.hid (HB.out.trans (h3.mono HB.out.size)); clear h3)
          | (go_at_call 42; (with_reducible refine HS.out.mono ?_); rintro e W3 ⟨rfl, h3⟩; have H3 := Lib.hid (HB.out.trans (h3.mono HB.out.size)); clear h3))
        go_ret
        rw [HR.out]
        first | exact ⟨rfl, H3.out⟩ | exact ⟨rfl, HB.out⟩ | exact ⟨by simp [Hcc.out], H3.out⟩
    · have HR : Hid (toldR c ⟨0, vo, da, co⟩ = []) := (HT.out _).2 (by rw [if_neg (by omega), if_neg (by omega), if_neg (by omega), if_neg (by omega)])
      have n1 : ¬ c = 1 := by omega
      have n2 : ¬ c = 2 := by omega
      have n3 : ¬ c = 3 := by omega
      have n4 : ¬ c = 4 := by omega
      have n5 : ¬ c = 5 := by omega
      have n6 : ¬ c = 6 := by omega
      have n7 : ¬ c = 7 := by omega
      have n8 : ¬ c = 8 := by omega
      have n9 : ¬ c = 9 := by omega
      clear hr HT
      go_enter Tryz.func20, Tryz.ntmps20
      go_wp2_with fail
      go_ret
      rw [HR.out]
      exact ⟨rfl, HB.out⟩
  · have HR : Hid (toldR c ⟨er, vo, da, co⟩ = [101, 114, 114, 111, 114, 32] ++ Lib.decDigits er.toNat) := by show _ = _; unfold toldR; rw [if_pos (by simpa using hz)]; simp only [Hec.out]
    have q1 := add_L [101, 114, 114, 111, 114, 32] (strL (Lib.decDigits er.toNat)) (toldR c ⟨er, vo, da, co⟩) (by rw [HR.out, strL_data]) (by rw [HR.out, List.length_append]; simp only [List.length_cons, List.length_nil]; omega)
    have e2 : strL [101, 114, 114, 111, 114, 32] = ⟨#[101, 114, 114, 111, 114, 32]⟩ := rfl
    rw [e2] at q1
    have e3 : (⟨(Lib.decDigits er.toNat).toArray⟩ : ByteArray) = strL (Lib.decDigits er.toNat) := rfl
    rw [e3] at HI
    obtain ⟨T, hT⟩ : ∃ T, T = toldR c ⟨er, vo, da, co⟩ := ⟨_, rfl⟩
    rw [← hT] at q1 ⊢
    clear e2 e3 hdl hT
    go_enter Tryz.func20, Tryz.ntmps20
    go_wp2_with (go_at_call 41; (with_reducible refine HI.out.mono ?_); rintro e W3 ⟨rfl, h3⟩; have H3 := Lib.hid (HB.out.trans (h3.mono HB.out.size)); clear h3)
    go_ret
    exact ⟨rfl, H3.out⟩
end Go.Proofs.YtakiinghipjopaaGreatDoor
