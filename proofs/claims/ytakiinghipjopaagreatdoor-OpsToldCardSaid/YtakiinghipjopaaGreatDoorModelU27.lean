/-
  maps.DeleteFunc of a volume.
-/
import Derived.Test.YtakiinghipjopaaGreatDoorModelG27
import Derived.Test.YtakiinghipjopaaGreatDoorModelH27
import Derived.Test.YtakiinghipjopaaGreatDoorModelT27
namespace Go.Proofs.YtakiinghipjopaaGreatDoor
open Go.RowKit Go.Maps
theorem blk_row (w : World) (cs : Array Value) (t : TypeId) (bs : List Int) (hn : bs.length ≤ cs.size) :
    Row ((w.alloc (.cells cs t)).setCells w.heap.size 0 (bs.map (.int .u8))) (w.heap.size + 1) w.heap.size 0 (bs.map (.int .u8)) := by
  have hth := there_alloc w cs t bs.length hn
  refine ⟨Nat.lt_succ_self _, fun j u hu => ?_⟩
  have hj : j < bs.length := by
    rcases Nat.lt_or_ge j bs.length with h | h
    · exact h
    · rw [List.getElem?_eq_none (by simpa using h)] at hu; cases hu
  have h4 := World.cell?_setCells_in w.heap.size (bs.map (.int .u8)) 0 (w.alloc (.cells cs t)) (fun j hj => (hth j (by simpa using hj)).1) j (by simpa using hj)
  rw [h4]
  rw [List.getElem?_eq_getElem (by simpa using hj)] at hu
  exact hu
set_option maxRecDepth 100000 in
set_option maxHeartbeats 8000000 in
theorem delete_any (w : World) (q n ob : Nat) (v a m : Int) (x0 x4 : Value) (h : MV w q n) (hp : w.heap[ob]? = some (.cells #[x0, .int .u64 v, .int .u64 a, .int .u64 m, x4] 25 (0, 0))) :
    Calls Tryz.prog 121 #[.map (some q), .func (.func 122) #[] #[.pointer (some ⟨ob, 0, none⟩)]] w fun e w' => e = .returned (.tuple #[]) ∧ MV w' q n ∧ w.grownBy w' (some q) := by
  obtain ⟨D, hown⟩ := h
  have Hp := Lib.hid hp
  clear hp
  go_enter Tryz.func121, Tryz.ntmps121
  go_wp2_with (first
    | (at_range; refine wpList_range_own _ rfl _ 131 rfl 22 134 kU64 Tryz.underlying131 RV q n _ rfl hown ?_; intro w0 hrg0 hg0 hs0))
  go_frame
  go_loopw [8] (fun _ wr => ∃ D left cnt, wr.ranges Tryz.prog 22 RV q w.heap.size n D left cnt ∧ w.grownBy wr (some q)) (fun _ wr => wr.rangeLeft q w.heap.size)
  case atStart => exact ⟨_, _, _, hrg0, hg0.but _⟩
  case round =>
    obtain ⟨D', left, cnt, hrg, hgw⟩ := hrel
    go_wp2_with (first
      | (at_next; refine wpList_next_ranges _ rfl _ rfl 22 kU64 RV id id (fun key _ _ => ⟨key, rfl⟩) (fun v _ _ => ⟨v, rfl⟩) q w.heap.size n _ _ _ rfl hrg ?_ ?_))
    · intro _ hl0
      go_wp2_with fail
      go_end0
      exact ⟨rfl, ⟨_, hrg.owns⟩, hgw⟩
    · intro x c kl yd yp w1 cnt1 hkey hlx hv hat hrg1 hlt hg1 hs1 hen
      have hgw1 := hgw.andThen hg1 (fun j hj => by cases hj; exact Or.inl (Nat.le_refl _))
      obtain ⟨bs, hbs, hby, rfl⟩ := RV_inv hv
      have Hbs : Hid (bs.length = 128) := hbs
      have hz : Hid (bs.length ≤ Tryz.zeroCells134.size) := by
        have h1 : Tryz.zeroCells134.size = 128 := by kernel_rfl
        show _ ≤ _
        omega
      have hqw : Hid (ob ≠ q) := fun e => by
        obtain ⟨es, cc, h1, _⟩ := hown
        have h2 := Hp.out
        rw [e, h1] at h2
        cases h2
      have hob := (Array.getElem?_eq_some_iff.1 Hp.out).1
      have P1 : Hid (w1.heap[ob]? = some (.cells #[x0, .int .u64 v, .int .u64 a, .int .u64 m, x4] 25 (0, 0))) := (hgw1.block ob hob (fun e => hqw.out (Option.some.inj e))).trans Hp.out
      obtain ⟨kx, rfl, -, -⟩ := Maps.keyOf_int_inv Tryz.underlying22 hkey
      have k1 : ∀ v ∈ bs.map (Value.int .u8), v.oneCell' = true := fun v hv => by obtain ⟨y, _, rfl⟩ := List.mem_map.1 hv; rfl
      have k2 : (w1.alloc (.cells Tryz.zeroCells134 134)).there w1.heap.size 0 (bs.map (Value.int .u8)).length := by rw [List.length_map]; exact there_alloc w1 _ _ _ hz.out
      have k3 : Option.map (fun x => x.size) (Tryz.prog.info? 134) = some (bs.map (Value.int .u8)).length := by rw [List.length_map, Hbs.out]; kernel_rfl
      have K2 : Hid ((w1.alloc (.cells Tryz.zeroCells134 134)).there w1.heap.size 0 (bs.map (Value.int .u8)).toArray.size) := by show World.there _ _ _ _; simpa using k2
      have K3 : Hid (Option.map (fun x => x.size) (Tryz.prog.info? 134) = some (bs.map (Value.int .u8)).toArray.size) := by show _ = _; simpa using k3
      have K1 : Hid ((bs.map (Value.int .u8)).toArray.all (·.oneCell') = true) := all_oneCell_toArray k1
      have hb5 : Below w1.heap.size w1 ((w1.alloc (.cells Tryz.zeroCells134 134)).setCells w1.heap.size 0 (bs.map (Value.int .u8))) := belowSetCells (Nat.le_refl _) _ _ _ (bel1 w1 _)
      have HRow := Lib.hid (blk_row w1 Tryz.zeroCells134 134 bs hz.out)
      have HLd := Lib.hid (run_load128 _ _ _ _ bs Hbs.out HRow.out)
      have P5 := (hb5.block _ (Array.getElem?_eq_some_iff.1 P1.out).1).trans P1.out
      have hc := trim_says _ ob v a m x0 x4 P5 kx bs Hbs.out
      have hg5 := grown_of_below hb5 none
      have hrg5 := hrg1.kept hg5 (by simp) (by simp)
      have hgw5 := hgw1.andThen hg5 (fun j hj => by cases hj)
      have HC := Lib.hid hc
      have Hrg5 := Lib.hid hrg5
      have Hgw5 := Lib.hid hgw5
      clear hc hrg5 hgw5 hg5 P5 hb5 hby hbs hob k1 k2 k3 hs1
      go_wp2_with (first
        | ((with_reducible refine wpList_store_mid rfl 134 _ _ rfl w1.heap.size 0 (bs.map (Value.int .u8)).toArray ?_ ?_ K2.out K3.out K1.out ?_); (· rfl); (· rfl); go_frame)
        | ((with_reducible refine wl_load (t := 134) (.pointer (some ⟨w1.heap.size, 0, none⟩)) (.agg (bs.map (Value.int .u8)).toArray) ?_ HLd.out ?_); (· rfl); go_frame))
      refine HC.out.mono ?_
      rintro e w2 ⟨⟨b, rfl⟩, hb2⟩
      have hg2 := grown_of_below hb2 none
      have hrg2 := Hrg5.out.kept hg2 (by simp) (by simp)
      have hgw2 := Hgw5.out.andThen hg2 (fun j hj => by cases hj)
      have Hgw2 := Lib.hid hgw2
      clear hg2 hb2 hgw2 HLd HRow
      cases b
      · go_wp2_with fail
        go_roundw
        case rel => exact ⟨_, _, cnt1, hrg2, Hgw2.out⟩
        case measure => rw [hrg2.left_eq, hrg.left_eq]; exact hlt
      · go_wp2_with (first
          | (at_delete; refine wpList_delete_ranges _ rfl _ _ 131 22 rfl 134 kU64 Tryz.underlying131 RV q w.heap.size n _ _ _ rfl hrg2 _ _ rfl hkey ?_; intro w3 cnt3 hrg3 hle hturn; go_frame))
        go_roundw
        case rel => exact ⟨_, _, cnt3, hrg3, Hgw2.out.andThen hturn.grown (fun j hj => by cases hj; exact Or.inr rfl)⟩
        case measure => rw [hrg3.left_eq, hrg.left_eq]; omega
end Go.Proofs.YtakiinghipjopaaGreatDoor
