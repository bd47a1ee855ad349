/-
  ops.shown: data as a text.
-/
import Derived.Test.YtakiinghipjopaaGreatDoorNum
import Derived.Test.YtakiinghipjopaaGreatDoorRunsW
import Derived.RangeFuncCalls
import Derived.RangeFuncBox
import Derived.Maps.AppendAt
import Derived.Sort.CutIn
namespace Go.Proofs.YtakiinghipjopaaGreatDoor
open Go.RowKit Go.Shelf
attribute [local go_sem] Oper.semAt_some

theorem hexd_16 : ∀ k : Fin 16, (#[48, 49, 50, 51, 52, 53, 54, 55, 56, 57, 97, 98, 99, 100, 101, 102] : Array UInt8)[k.val]? = some (hexd k.val) := by decide +kernel

/-! ### rows of strings of the call's own -/
def OwnS (w : World) (base : Nat) (v : Value) (xs : List ByteArray) : Prop := w.ownsRow base 9 1 v xs.length (xs.map .string)

/-! ### runs -/
theorem runs_in (F : Fence) (n : Nat) (hF : F.fn 80) (hro : F.round = none) (A : Option Addr) (L c : Nat) (w : World) :
    CallsIn F n Tryz.prog 80 #[.slice A L c] w fun e w' => e = .returned (.func (.func 116) #[] #[.pointer (some ⟨w.heap.size, 0, none⟩)]) ∧ w' = w.alloc (.cells #[.slice A L c] 23) := by
  refine callsIn_of_wp Tryz.func80 rfl hF ?_ hro
  simp only [Tryz.ntmps80, List.size_toArray, List.length_cons, List.length_nil, Nat.reduceAdd, Nat.reduceSub, Array.replicate_succ, Array.replicate_zero, List.push_toArray, List.append_toArray, List.nil_append, List.cons_append]
  gi_wp2
  go_ret
  exact ⟨rfl, rfl⟩

theorem dig_run {q : Int} {k : Nat} (h0 : 0 ≤ q) (h1 : q < 16) (hk : q.toNat = k) (W : World) : (Instr.index 9 (.string { data := #[48, 49, 50, 51, 52, 53, 54, 55, 56, 57, 97, 98, 99, 100, 101, 102] }) (.int .u8 q)).run Tryz.prog W = .ok (.int .u8 (hexd k).toNat) W := by
  rw [run_index_string W _ _ _ _ uString]
  have hs : (ByteArray.size { data := #[48, 49, 50, 51, 52, 53, 54, 55, 56, 57, 97, 98, 99, 100, 101, 102] }) = 16 := rfl
  rw [dif_pos ⟨h0, by rw [hs]; omega⟩]
  subst hk
  have h := hexd_16 ⟨q.toNat, by omega⟩
  simp only at h
  obtain ⟨_, h⟩ := Array.getElem?_eq_some_iff.1 h
  congr 3
  rw [← h]
  rfl
theorem two_str (W : World) (a b : UInt8) : (convert 23 9 (.slice (some ⟨W.heap.size, 0, none⟩) 2 2)).run Tryz.prog (W.alloc (.cells #[.int .u8 a.toNat, .int .u8 b.toNat] 5)).drew = .ok (.string ⟨#[a, b]⟩) (W.alloc (.cells #[.int .u8 a.toNat, .int .u8 b.toNat] 5)).drew :=
  run_convert_bytes_back (P := Tryz.prog) _ 23 9 5 ⟨W.heap.size, 0, none⟩ 2 [a, b] uBytes uByte uString (fun j hj => by
    match j, hj with
    | 0, _ => rw [Lib.add_plain, cell_drew_own, World.cell?_alloc_new]; rfl
    | 1, _ => rw [Lib.add_plain, cell_drew_own, World.cell?_alloc_new]; rfl)
theorem infoStr : (Tryz.prog.info? 9).map (fun i => (i.zero, i.size, i.bytes)) = some (some (.string ByteArray.empty), 1, 16) := by kernel_rfl
theorem runs_count (l : List Int) : (runsOf l).length ≤ l.length := by
  have h : ∀ rs : List (Int × Nat), (∀ p ∈ rs, 1 ≤ p.2) → rs.length ≤ (rs.flatMap fun p => List.replicate p.2 p.1).length := by
    intro rs
    induction rs with
    | nil => intro _; simp
    | cons p r ih =>
      intro h
      have h1 := h p (by simp)
      have h2 := ih (fun q hq => h q (by simp [hq]))
      rw [List.flatMap_cons, List.length_append, List.length_replicate, List.length_cons]
      omega
  have := h (runsOf l) (fun p hp => (runs_mem hp).2.1)
  rwa [runs_flat] at this
theorem cat_three (a b c : UInt8) (l : List UInt8) : (⟨#[a, b]⟩ : ByteArray) ++ ((⟨#[c]⟩ : ByteArray) ++ (⟨l.toArray⟩ : ByteArray)) = ⟨([a, b] ++ c :: l).toArray⟩ := by
  apply ByteArray.ext
  simp
theorem ownS_form {w : World} {base : Nat} {v : Value} {xs : List ByteArray} (h : OwnS w base v xs) : ∃ A n c, v = .slice A n c := by
  rcases h.2 with ⟨rfl, _⟩ | ⟨g, cap, cur, rfl, _⟩ <;> exact ⟨_, _, _, rfl⟩
theorem ownS_len {w : World} {base n c : Nat} {A : Option Addr} {xs : List ByteArray} (h : OwnS w base (.slice A n c) xs) : n = xs.length := by
  rcases h.2 with ⟨e, h0⟩ | ⟨g, cap, cur, e, _⟩
  · cases e; exact h0.symm
  · cases e; rfl
theorem below_put {n : Nat} (W : World) (l : Nat) (o : Obj) (hl : n ≤ l) : Below n W (W.putObj l o) := ⟨rfl, rfl, rfl, by rw [World.putObj_size]; exact Nat.le_refl _, fun k hk => World.putObj_heap_other (by omega)⟩
theorem own_mono {w : World} {b b' : Nat} {e : TypeId} {size : Nat} {v : Value} {k : Nat} {xs : List Value} (h : w.ownsRow b e size v k xs) (hb : b' ≤ b) : w.ownsRow b' e size v k xs := by
  obtain ⟨h1, h2⟩ := h
  refine ⟨h1, ?_⟩
  rcases h2 with h2 | ⟨g, cap, cur, a, b, c⟩
  · exact .inl h2
  · exact .inr ⟨g, cap, cur, a, by omega, c⟩
theorem keeps_below {W W' : World} (h : Below W.heap.size W W') : KeepsOthers W W' := KeepsOthers.of_grownBy (grown_of_below h none) (by simp)
theorem app_box {W w1 : World} {n0 : Nat} {u v' : Value} {k m : Nat} {xs ys : List Value} {tmp : Obj} (hb : Boxed W n0 58 u) (hown : W.ownsRow (n0 + 2) 9 1 u k xs) (hown' : w1.ownsRow (n0 + 2) 9 1 v' m ys)
    (hg : (W.alloc tmp).grownBy w1 u.ownBlock) (hsz : n0 + 2 ≤ W.heap.size) :
    Boxed w1 n0 58 u ∧ Boxed (w1.setCell ⟨n0, 0, none⟩ v') n0 58 v' ∧ (w1.setCell ⟨n0, 0, none⟩ v').ownsRow (n0 + 2) 9 1 v' m ys ∧ KeepsOthers W (w1.setCell ⟨n0, 0, none⟩ v') ∧ BelowX n0 (n0 + 1) W (w1.setCell ⟨n0, 0, none⟩ v') ∧ Below n0 W (w1.setCell ⟨n0, 0, none⟩ v') := by
  obtain ⟨a1, a2, a3, a4, a5⟩ := Boxed.appended (n₀ := n0) hb (by decide) (own_mono hown (by omega)) (by omega) (Nat.le_refl _) (own_mono hown' (by omega)) hg
  refine ⟨a1, a2, hown'.kept (grownBy_setCell' w1 n0 v') (.inr (a1.not_row (by decide) hown').symm), a4, ⟨a4.size, fun j hj => ?_⟩, a5⟩
  rcases hj with hj | rfl
  · exact a5.block j hj
  · rw [Below.heap_setCell _ _ _ _ (by simp)]
    refine (hg.block _ (by simp; omega) (fun e => ?_)).trans (Below.heap_alloc W tmp _ (by omega))
    have := (World.ownsRow.lt hown _ e.symm).1
    omega
def ShI (w0 w : World) (n0 n1 : Nat) (pre : List (Int × Nat)) : Prop := (∃ u, Boxed w n0 58 u ∧ OwnS w n1 u (pre.map fun p => ⟨(runTxt p).toArray⟩)) ∧ Env w ∧ n1 ≤ w.heap.size ∧ Below n0 w0 w
theorem shown_fin {w0 W W6 w1 : World} {n0 n1 : Nat} {u v' : Value} {xs : List ByteArray} {pre : List (Int × Nat)} {p : Int × Nat} {s : ByteArray} {tmp : Obj} (hB : Below W.heap.size W W6) (h1 : Boxed W n0 58 u) (h2 : OwnS W n1 u xs) (h3 : Env W) (h4 : n1 ≤ W.heap.size ∧ Below n0 w0 W) (hn : n1 = n0 + 2) (h6 : 6 ≤ n0)
    (hown' : w1.ownsRow n1 9 1 v' (xs.length + 1) (xs.map .string ++ [.string s])) (hg : (W6.alloc tmp).grownBy w1 u.ownBlock) (hxs : xs = pre.map fun p => ⟨(runTxt p).toArray⟩) (hs : s = ⟨(runTxt p).toArray⟩) :
    Boxed w1 n0 58 u ∧ KeepsOthers W (w1.setCell ⟨n0, 0, none⟩ v') ∧ BelowX n0 (n0 + 1) W (w1.setCell ⟨n0, 0, none⟩ v') ∧ ShI w0 (w1.setCell ⟨n0, 0, none⟩ v') n0 n1 (pre ++ [p]) := by
  obtain ⟨h4, h5⟩ := h4
  subst hn
  have b6 : Boxed W6 n0 58 u := (hB.block _ (by omega)).trans h1
  have o6 : OwnS W6 (n0 + 2) u xs := ownsRow_on h2 hB
  obtain ⟨a1, a2, a3, a4, a5, a6⟩ := app_box b6 o6 hown' hg (Nat.le_trans h4 hB.size)
  have hx := (below_x hB (by omega) (by omega)).trans a5
  refine ⟨a1, (keeps_below hB).trans a4, hx, ⟨_, a2, ?_⟩, h3.of_blocks fun j hj => hx.block j (.inl (by omega)), Nat.le_trans h4 hx.size, h5.trans ((hB.mono (by omega)).trans a6)⟩
  unfold OwnS
  rw [List.map_append, ← hxs, List.map_singleton, ← hs, List.length_append, List.map_append]
  exact a3
theorem rest_of {w W : World} {B n0 L c : Nat} {A : Option Addr} {bs : List Int} (h : Bs w B (.slice A L c) bs) (hL : L = bs.length) (hB : B ≤ n0) (hb : Below n0 w W) : Rest W n0 (n0 + 1) A L c bs := by
  subst hL
  obtain ⟨hl, A', c', hv, hc, hm, -, hr⟩ := h.1
  cases hv
  refine ⟨rfl, hc, hm, fun h0 => ?_⟩
  obtain ⟨b, o, hA, hrow⟩ := hr h0
  have hlt := hrow.1
  exact ⟨b, o, hA, by omega, by omega, fun j hj => (hb.cell (p := ⟨b, o + j, none⟩) (by show b < _; omega)).trans (hrow.2 j _ (by simp [hj]))⟩
theorem runTxt_len (p : Int × Nat) (h : p.2 ≤ 100000) : (runTxt p).length ≤ 9 := by
  unfold runTxt
  split
  · have h1 := Lib.decDigits_length p.2
    have h2 : Lib.nDigits p.2 ≤ 6 := by
      have h3 := Lib.nDigits_unique
      by_cases g : p.2 < 10
      · rw [Lib.nDigits_small g]; omega
      by_cases g1 : p.2 < 100
      · rw [h3 1 p.2 (by omega) (by omega)]; omega
      by_cases g2 : p.2 < 1000
      · rw [h3 2 p.2 (by omega) (by omega)]; omega
      by_cases g3 : p.2 < 10000
      · rw [h3 3 p.2 (by omega) (by omega)]; omega
      by_cases g4 : p.2 < 100000
      · rw [h3 4 p.2 (by omega) (by omega)]; omega
      · rw [h3 5 p.2 (by omega) (by omega)]; omega
    simp
    omega
  · simp
theorem join_len (sep : List UInt8) (m : Nat) : ∀ xs : List (List UInt8), (∀ x ∈ xs, x.length ≤ m) → (Lib.join xs sep).length ≤ xs.length * (m + sep.length)
  | [], _ => by simp [Lib.join_nil]
  | x :: r, h => by
    have h1 := h x (by simp)
    rw [Lib.join_cons, List.length_append, List.length_cons]
    have h2 : (Lib.joinTail sep r).length ≤ r.length * (m + sep.length) := by
      have h3 : ∀ y ∈ r, y.length ≤ m := fun y hy => h y (by simp [hy])
      clear h h1
      induction r with
      | nil => simp [Lib.joinTail]
      | cons y r ih =>
        have g1 := h3 y (by simp)
        have g2 := ih (fun z hz => h3 z (by simp [hz]))
        have e : Lib.joinTail sep (y :: r) = (sep ++ y) ++ Lib.joinTail sep r := by simp [Lib.joinTail]
        rw [e, List.length_append, List.length_append, List.length_cons, Nat.add_mul]
        omega
    rw [Nat.add_mul]
    omega
theorem join_any {W : World} {n1 : Nat} {A : Option Addr} {m c : Nat} {xs : List ByteArray} {sep : ByteArray} (h : OwnS W n1 (.slice A m c) xs) (hm : m = xs.length) (h0 : 0 < m) (hl : (Lib.join (xs.map (·.data.toList)) sep.data.toList).length ≤ 140737488355328 ∧ xs.length ≤ 140737488355328) :
    Calls Tryz.prog 81 #[.slice A m c, .string sep] W fun e w' => e = .returned (.string ⟨(Lib.join (xs.map (·.data.toList)) sep.data.toList).toArray⟩) ∧ Below W.heap.size W w' := by
  subst hm
  rcases h.2 with ⟨e, h1⟩ | ⟨g, cap, cur, e, a1, a2, a3, a4, a5, a6⟩
  · omega
  · cases e
    refine Tryz.strings_Join g 0 c xs sep W (fun j x hx => ?_) (Array.getElem?_eq_some_iff.1 a2).1 hl.2 (by omega) hl.1
    have hlt := (List.getElem?_eq_some_iff.1 hx).1
    have h3 : (cur.toList.take (xs.length * 1))[j]? = some (.string x) := by rw [a6]; simp [hx]
    rw [List.getElem?_take_of_lt (by omega)] at h3
    rw [Nat.zero_add, cell_of_row W g j cur _ _ a2]
    simpa using h3
theorem runs_len (bs : List Int) (hb : bs.length ≤ 100000) : (Lib.join ((((runsOf bs).map fun p => (⟨(runTxt p).toArray⟩ : ByteArray))).map (·.data.toList)) [46]).length ≤ 140737488355328 ∧ ((runsOf bs).map fun p => (⟨(runTxt p).toArray⟩ : ByteArray)).length ≤ 140737488355328 := by
  have h := runs_count bs
  have h2 := join_len [46] 9 ((((runsOf bs).map fun p => (⟨(runTxt p).toArray⟩ : ByteArray))).map (·.data.toList)) (fun x hx => by
    obtain ⟨y, hy, rfl⟩ := List.mem_map.1 hx
    obtain ⟨p, hp, rfl⟩ := List.mem_map.1 hy
    exact runTxt_len p (Nat.le_trans (runs_mem hp).2.2 hb))
  simp only [List.length_map] at h2 ⊢
  have h3 : ([46] : List UInt8).length = 1 := rfl
  rw [h3] at h2
  constructor <;> omega
set_option maxRecDepth 100000 in
set_option maxHeartbeats 2000000 in
theorem shown_any (w : World) (B : Nat) (v : Value) (bs : List Int) (hb : Bs w B v bs) (hle : B ≤ w.heap.size) (hl : bs.length ≤ 100000) (hE : Env w) :
    Calls Tryz.prog 53 #[v] w fun e w' => e = .returned (.string ⟨(shownOf bs).toArray⟩) ∧ Below w.heap.size w w' := by
  obtain ⟨A0, c0, rfl, -, -⟩ := hb.1.form
  obtain ⟨L0, hL0⟩ : ∃ m, m = bs.length := ⟨_, rfl⟩
  rw [← hL0] at hb ⊢
  have HL0 := Lib.hid hL0
  have Hb := Lib.hid hb
  have Hl := Lib.hid hl
  clear hL0 hb hl
  refine (callsIn_wide (n := 3)).1 ?_
  refine callsIn_of_wp_marks Tryz.func53 rfl trivial ?_ rfl
  simp only [Tryz.ntmps53, List.size_toArray, List.length_cons, List.length_nil, Nat.reduceAdd, Nat.reduceSub, Array.replicate_succ, Array.replicate_zero, List.push_toArray, List.append_toArray, List.nil_append, List.cons_append]
  gi_wp2_with (refine ⟨trivial, ?_⟩; gi_at_call 80; refine (runs_in _ _ trivial rfl _ _ _ _).mono ?_; rintro e w' ⟨rfl, rfl⟩)
  obtain ⟨W0, hW0⟩ : ∃ W0, W0 = (w.alloc (.cells #[.slice none 0 0] 58)).alloc (.cells #[.slice A0 L0 c0] 23) := ⟨_, rfl⟩
  have hsz : W0.heap.size = w.heap.size + 2 := by rw [hW0]; simp
  have hB0 : Boxed W0 w.heap.size 58 (.slice none 0 0) := by rw [hW0]; exact (Boxed.new w _ _).alloc _
  have hB1 : Boxed W0 (w.heap.size + 1) 23 (.slice A0 L0 c0) := by rw [hW0]; have := Boxed.new (w.alloc (.cells #[.slice none 0 0] 58)) 23 (.slice A0 L0 c0); rwa [World.size_alloc] at this
  have hbel : Below w.heap.size w W0 := by rw [hW0]; exact (bel1 _ _).alloc (by simp) _
  rw [← hW0]
  clear hW0
  have hE0 := hE.on' hbel
  have hgt := hE.size
  refine range_box (P := Tryz.prog) rfl (by decide) (gf := 116) (lb := #[.pointer (some ⟨w.heap.size + 1, 0, none⟩)]) rfl trivial (enters_of Tryz.func116 (by kernel_rfl) rfl) (fun x : Int × Nat => #[.int .u8 x.1, .int .i64 x.2]) (fun _ => rfl)
    w.heap.size (w.heap.size + 1) (by omega) (by omega) (runsOf bs)
    (fun pre W => ShI w W w.heap.size W0.heap.size pre)
    ?h0 ?hIb ?hIr ?hit (fun x => { tmps := #[.slice A0 L0 c0, undef, .string { data := #[] }, .pointer (some ⟨w.heap.size, 0, none⟩), .int .u8 x.1, .int .i64 x.2, undef, .slice A0 L0 c0, .func (.func 116) #[] #[.pointer (some ⟨w.heap.size + 1, 0, none⟩)], .int .u8 x.1, .int .i64 x.2, undef, undef, undef, undef, undef, undef, undef, undef, undef, undef, undef, undef, undef, undef, undef, undef, undef, undef, undef, undef, undef, undef, undef, undef], defers := [] }) ?assign ?body ?done
  case h0 =>
    intro W hW
    exact ⟨⟨_, (hW.block _ (by omega)).trans hB0, World.ownsRow_nil _ _ _ _⟩, hE0.on' hW, hW.size, hbel.trans (hW.mono (by omega))⟩
  case hIb =>
    rintro pre A C ⟨⟨u, h1, h2⟩, h3, h4, h5⟩ hg
    refine ⟨⟨u, h1.kept hg (by intro e; have := Option.some.inj e; omega), World.ownsRow.kept h2 hg (.inr fun e => by have := (World.ownsRow.lt h2 _ e).1; omega)⟩, h3.of_blocks fun j hj => hg.block j (by have := h3.size; omega) (by intro e; have := Option.some.inj e; omega), Nat.le_trans h4 hg.size, h5.grown hg (by omega) (fun k e => by have := Option.some.inj e; omega)⟩
  case hIr =>
    rintro pre A l o o' ⟨⟨u, h1, h2⟩, h3, h4, h5⟩ hl hlo hoc
    refine ⟨⟨u, (World.putObj_heap_other (by omega)).trans h1, ownsRow_putObj h2 _ hlo hoc⟩, h3.of_blocks fun j hj => World.putObj_heap_other (by have := h3.size; omega), by rw [World.putObj_size]; exact h4, h5.trans (below_put A l o' (by omega))⟩
  case hit =>
    intro l J W hW hJ hY hJ0
    exact runs1_in _ 2 trivial rfl (by decide) l w.heap.size (w.heap.size + 1) bs Hl.out J hJ hY W (by have := hW.size; omega) A0 L0 c0 ((hW.cell (p := ⟨w.heap.size + 1, 0, none⟩) (by show w.heap.size + 1 < _; omega)).trans hB1.cell) ((hW.frozen (p := ⟨w.heap.size + 1, 0, none⟩) (by show w.heap.size + 1 < _; omega)).trans hB1.frozen)
      (rest_of Hb.out HL0.out hle (hbel.trans (hW.mono (by omega)))) hJ0
  case assign =>
    intro l x W K hK
    gi_wp2
    exact hK
  case body =>
    rintro l k hk W ⟨⟨u, h1, h2⟩, h3, h4⟩ _
    have Hm := Lib.hid (runs_mem (List.getElem_mem hk))
    have Htk : Hid ((runsOf bs).take (k + 1) = (runsOf bs).take k ++ [(runsOf bs)[k]]) := List.take_succ_eq_append_getElem hk
    obtain ⟨pk, hpk⟩ : ∃ p, p = (runsOf bs)[k] := ⟨_, rfl⟩
    rw [← hpk] at Hm Htk ⊢
    obtain ⟨x, n⟩ := pk
    simp only at Hm ⊢
    have Hx : Hid (IsByte x) := Hb.out.2 _ Hm.out.1
    obtain ⟨x0, x1⟩ := Hx.out
    have Hn : Hid (1 ≤ n ∧ n ≤ 100000) := ⟨Hm.out.2.1, Nat.le_trans Hm.out.2.2 Hl.out⟩
    have H1 := Lib.hid h1
    have H2 := Lib.hid h2
    have H3 := Lib.hid h3
    have H4 := Lib.hid h4
    clear hpk h1 h2 h3 h4 hB0 hB1 hbel hE0 hE
    obtain ⟨y, hy, y0, y1, hyk⟩ : ∃ y : Int, bits .and .u8 x 15 = y ∧ 0 ≤ y ∧ y < 16 ∧ y.toNat = x.toNat % 16 := ⟨x % 16, u8_and15 x x0 x1, by omega, by omega, by omega⟩
    have Hyk := Lib.hid hyk
    clear hyk
    obtain ⟨D1, hD1⟩ : ∃ D : Int, D = (hexd (x.toNat / 16)).toNat := ⟨_, rfl⟩
    obtain ⟨D2, hD2⟩ : ∃ D : Int, D = (hexd (x.toNat % 16)).toNat := ⟨_, rfl⟩
    have hi1 : ∀ W', (Instr.index 9 (.string { data := #[48, 49, 50, 51, 52, 53, 54, 55, 56, 57, 97, 98, 99, 100, 101, 102] }) (.int .u8 (x / 16))).run Tryz.prog W' = .ok (.int .u8 D1) W' := fun W' => by rw [hD1]; exact dig_run (by omega) (by omega) (by omega) W'
    have hi2 : ∀ W', (Instr.index 9 (.string { data := #[48, 49, 50, 51, 52, 53, 54, 55, 56, 57, 97, 98, 99, 100, 101, 102] }) (.int .u8 y)).run Tryz.prog W' = .ok (.int .u8 D2) W' := fun W' => by rw [hD2]; exact dig_run y0 y1 Hyk.out W'
    have HD1 := Lib.hid hD1
    have HD2 := Lib.hid hD2
    clear hD1 hD2
    have hmx : Tryz.prog.follows .mixedOrders = true := by kernel_rfl
    obtain ⟨W5, hW5⟩ : ∃ W5, W5 = (W.alloc (.cells #[.int .u8 D1, .int .u8 D2] 5)).drew := ⟨_, rfl⟩
    have hcv : (convert 23 9 (.slice (some ⟨W.heap.size, 0, none⟩) 2 2)).run Tryz.prog (W.alloc (.cells #[.int .u8 D1, .int .u8 D2] 5)).drew = .ok (.string ⟨#[hexd (x.toNat / 16), hexd (x.toNat % 16)]⟩) (W.alloc (.cells #[.int .u8 D1, .int .u8 D2] 5)).drew := by
      rw [HD1.out, HD2.out]
      exact two_str _ _ _
    have HB5 : Hid (Below W.heap.size W W5) := by rw [hW5]; exact (bel1 _ _).drew
    have HOW : Hid (1 ≤ W0.heap.size ∧ W0.heap.size = w.heap.size + 2) := ⟨by omega, hsz⟩
    have Hgt := Lib.hid hgt
    have hc5 : W5.cell? ⟨w.heap.size, 0, none⟩ = some u := (HB5.out.cell (p := ⟨w.heap.size, 0, none⟩) H1.out.lt).trans H1.out.cell
    have Htop : Hid (runTxt (x, n) = [hexd (x.toNat / 16), hexd (x.toNat % 16)] ++ (if 1 < n then 120 :: Lib.decDigits n else [])) := rfl
    obtain ⟨i0, hi, hz0, hz1, hz2⟩ := info_parts infoStr
    have hlen : ((runsOf bs).take k).length ≤ 100000 := by have := runs_count bs; have := Hl.out; rw [List.length_take]; omega
    obtain ⟨xs, hxs⟩ : ∃ xs : List ByteArray, xs = ((runsOf bs).take k).map fun p => ⟨(runTxt p).toArray⟩ := ⟨_, rfl⟩
    rw [← hxs] at H2
    have Hxs := Lib.hid hxs
    have Hlen : Hid (xs.length ≤ 100000) := by show _ ≤ _; rw [hxs, List.length_map]; exact hlen
    have hd : 1 ≤ 3 - 1 - 1 := by omega
    obtain ⟨c1, hc1⟩ : ∃ c, c = hexd (x.toNat / 16) := ⟨_, rfl⟩
    obtain ⟨c2, hc2⟩ : ∃ c, c = hexd (x.toNat % 16) := ⟨_, rfl⟩
    rw [← hc1, ← hc2] at hcv Htop
    clear hlen hc1 hc2 hgt hsz hxs
    have HO5 : Hid (W5.ownsRow W0.heap.size 9 1 u xs.length (xs.map .string)) := ownsRow_on H2.out HB5.out
    have Hs5 : Hid (W0.heap.size ≤ W5.heap.size) := Nat.le_trans H4.out.1 HB5.out.size
    have Hfin := Lib.hid (fun (S : ByteArray) (hS : S = ⟨(runTxt (x, n)).toArray⟩) (W6 : World) (h6 : Below W5.heap.size W5 W6) (v' : Value) (w1 : World) (a : w1.ownsRow W0.heap.size 9 1 v' (xs.length + 1) (xs.map .string ++ [.string S])) (b : (W6.alloc (.cells #[.string S] 9)).grownBy w1 u.ownBlock) =>
        shown_fin (p := (x, n)) (HB5.out.trans (h6.mono HB5.out.size)) H1.out H2.out H3.out H4.out HOW.out.2 Hgt.out a b Hxs.out hS)
    have HE5 : Hid (Env W5) := H3.out.on' HB5.out
    gi_upto_region 5 with fail
    gi_cut [6] from 11 (fun s6 wx => s6 = .string ⟨#[c1, c2]⟩ ∧ wx = W5)
    case first =>
      rename_i J1 K1 hJ1 hK1
      gi_wp2
      gi_region_elder_o
      all_goals
        refine hK1 _ _ (Met.intro (hJ1 _ _ ?_))
        repeat apply Exists.intro
        exact ⟨⟨rfl, hW5.symm⟩, rfl⟩
    case rest =>
      obtain ⟨rfl, rfl⟩ := hcut
      clear hi1 hi2 hcv hW5
      by_cases hn1 : 1 < n
      · have hn1' : (1 : Int) < n := by omega
        obtain ⟨ib, hib⟩ : ∃ ib : ByteArray, ib = ⟨(Lib.itoa n).toArray⟩ := ⟨_, rfl⟩
        have hil : ib.size ≤ 9 := by
          have h1 := runTxt_len (x, n) Hn.out.2
          rw [Htop.out, if_pos hn1, ← Lib.itoa_nonneg] at h1
          rw [hib, Lib.size_eq]
          simp at h1 ⊢
          omega
        have HS : Hid ((⟨#[c1, c2]⟩ : ByteArray) ++ ((⟨#[120]⟩ : ByteArray) ++ ib) = ⟨(runTxt (x, n)).toArray⟩) := by
          show _ = _
          rw [hib, Htop.out, if_pos hn1, Lib.itoa_nonneg]
          exact cat_three c1 c2 120 _
        have HI := Lib.hid (itoa_any n (by omega) (by have := Hn.out; omega) _ HE5.out)
        rw [← hib] at HI
        have e1 : ∀ W', (Op.stringOp .add { data := #[120] } ib).run Tryz.prog W' = .ok (.string ((⟨#[120]⟩ : ByteArray) ++ ib)) W' := fun W' => run_string_add_sum W' _ _ (by show 1 + ib.size ≤ _; omega)
        have e2 : ∀ W', (Op.stringOp .add { data := #[c1, c2] } ((⟨#[120]⟩ : ByteArray) ++ ib)).run Tryz.prog W' = .ok (.string ((⟨#[c1, c2]⟩ : ByteArray) ++ ((⟨#[120]⟩ : ByteArray) ++ ib))) W' := fun W' => run_string_add_sum W' _ _ (by rw [ByteArray.size_append]; show 2 + (1 + ib.size) ≤ _; omega)
        obtain ⟨tl, htl⟩ : ∃ tl, tl = (⟨#[120]⟩ : ByteArray) ++ ib := ⟨_, rfl⟩
        obtain ⟨S, hS⟩ : ∃ S, S = (⟨#[c1, c2]⟩ : ByteArray) ++ tl := ⟨_, rfl⟩
        rw [← htl] at e1 e2 HS
        rw [← hS] at e2 HS
        clear hn1 hib hil htl hS
        gi_wp2_with (first | (refine ⟨trivial, ?_⟩; gi_at_call 38; refine (CallsIn.inRound l (callsIn_wide.2 HI.out)).mono ?_; rintro e W6 ⟨rfl, h6⟩; have h6c := (h6.cell (p := ⟨w.heap.size, 0, none⟩) (by have := Hs5.out; have := HOW.out.2; show w.heap.size < wc.heap.size; omega)).trans hc5; have H6 := Lib.hid h6; have HO6 := Lib.hid (ownsRow_on HO5.out h6); have Hs6 : Hid (W0.heap.size ≤ W6.heap.size) := Lib.hid (Nat.le_trans Hs5.out h6.size); clear h6) | (gi_at_builtin; go_must (refine wpListIn_append_own _ rfl _ _ 58 rfl W0.heap.size 9 i0 (.string ByteArray.empty) 1 16 Tryz.underlying58 hi hz0 hz1 hz2 rfl (by decide) _ _ _ rfl (HO6.out.alloc _) ⟨W6.heap.size, 0, none⟩ 1 1 [.string S] rfl rfl (cell_one_new _ _ _) (by simp [Value.oneCell']) (by have := Hlen.out; unfold maxLen; omega) (by have := Hlen.out; omega) (by have := Hs6.out; simp; omega) ?_); intro v' w1 hown' hgrow _; obtain ⟨g', cap', rfl⟩ := ownsRow_succ hown'; obtain ⟨b1, f2⟩ := Hfin.out _ HS.out _ H6.out _ _ hown' hgrow; have F2 := Lib.hid f2; have hcb := b1.cell; have hfb := b1.frozen; clear b1 f2 hown' hgrow))
        rw [Htk.out]
        exact F2.out
      · have HS : Hid ((⟨#[c1, c2]⟩ : ByteArray) = ⟨(runTxt (x, n)).toArray⟩) := by
          show _ = _
          rw [Htop.out, if_neg hn1]
          rfl
        have hn1' : ¬ (1 : Int) < n := by omega
        clear hn1
        gi_wp2_with (gi_at_builtin; go_must (refine wpListIn_append_own _ rfl _ _ 58 rfl W0.heap.size 9 i0 (.string ByteArray.empty) 1 16 Tryz.underlying58 hi hz0 hz1 hz2 rfl (by decide) _ _ _ rfl (HO5.out.alloc _) ⟨wc.heap.size, 0, none⟩ 1 1 [.string ⟨#[c1, c2]⟩] rfl rfl (cell_one_new _ _ _) (by simp [Value.oneCell']) (by have := Hlen.out; unfold maxLen; omega) (by have := Hlen.out; omega) (by have := Hs5.out; simp; omega) ?_); intro v' w1 hown' hgrow _; obtain ⟨g', cap', rfl⟩ := ownsRow_succ hown'; obtain ⟨b1, f2⟩ := Hfin.out _ HS.out _ (Below.refl _ _) _ _ hown' hgrow; have F2 := Lib.hid f2; have hcb := b1.cell; have hfb := b1.frozen; clear b1 f2 hown' hgrow)
        rw [Htk.out]
        exact F2.out
  case done =>
    rintro D W hD ⟨⟨u, h1, h2⟩, h3, h4, h5⟩ hK
    obtain ⟨A1, n1, c1, hu⟩ := ownS_form h2
    subst hu
    have hc := h1.cell
    have Hn1 := Lib.hid (ownS_len h2)
    have H2 := Lib.hid h2
    have H5 := Lib.hid h5
    clear h2 h5 hB0 hB1 hbel hE0 hE h3 h1
    by_cases h0 : bs = []
    · have e0 : n1 = 0 := by rw [Hn1.out, h0]; rfl
      subst e0
      have HR : Hid (shownOf bs = [45]) := by show _ = _; unfold shownOf; rw [if_pos h0]
      clear h0
      gi_wp2
      refine ⟨by simp, .inl ⟨_, _, rfl, run_takeDeferred hK, ?_⟩⟩
      exact ⟨_, results_tmp rfl _ _ _, by rw [HR.out]; rfl, H5.out.trans (belowK_b (w := w) (Nat.le_refl _) W D _ _ (by omega) hK rfl rfl)⟩
    · have HR : Hid (shownOf bs = Lib.join ((runsOf bs).map runTxt) [46]) := by show _ = _; unfold shownOf; rw [if_neg h0]
      have e0 : 0 < n1 := by
        have := List.length_pos_iff.2 (runs_ne h0)
        have := Hn1.out
        rw [List.length_map] at this
        omega
      have e0' : ¬ (n1 : Int) = 0 := by omega
      have HJ := Lib.hid (join_any (sep := ⟨#[46]⟩) H2.out Hn1.out e0 (runs_len bs Hl.out))
      clear h0
      gi_wp2_with (refine ⟨trivial, ?_⟩; gi_at_call 81; refine (callsIn_wide.2 HJ.out).mono ?_; rintro e W6 ⟨rfl, h6⟩)
      have hK6 := (h6.block D (Array.getElem?_eq_some_iff.1 hK).1).trans hK
      refine ⟨by simp, .inl ⟨_, _, rfl, run_takeDeferred hK6, ?_⟩⟩
      refine ⟨_, results_tmp rfl _ _ _, ?_, H5.out.trans ((h6.mono (Nat.le_trans (Nat.le_trans (by omega) h4) (Nat.le_refl _))).trans (belowK_b (w := w) (Nat.le_refl _) W6 D _ _ (by omega) hK6 rfl rfl))⟩
      have e1 : ((fun x : ByteArray => x.data.toList) ∘ fun p : Int × Nat => (⟨(runTxt p).toArray⟩ : ByteArray)) = runTxt := funext fun p => by simp
      rw [HR.out, e1]
      rfl
end Go.Proofs.YtakiinghipjopaaGreatDoor
