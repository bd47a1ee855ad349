/-
  The examples of the node's chapter hold.
-/
import Derived.Test.YticdmiomkmaaoaaCalls
namespace Go.Proofs.Yticdmiomkmaaoaa
open Go.RowKit

def lrow (ks : List Int) : Array Value := (ks.map (Value.int .u64)).toArray
theorem Nv.kept {w : World} {b : Nat} {s1 s2 : Value} {n : Nd} (h : Nv w b s1 s2 n) (o : Obj) : Nv (w.alloc o) b s1 s2 n := h.on ((Below.refl _ _).alloc (Nat.le_refl _) o)
theorem bel1 (w : World) (o : Obj) : Below w.heap.size w (w.alloc o) := (Below.refl _ _).alloc (Nat.le_refl _) o
/-- a row that holds two nodes -/
def Nv2 (w : World) (g : Nat) (s1 s2 s3 s4 : Value) (n m : Nd) : Prop := w.heap[g]? = some (.cells #[.bool n.leaf, s1, s2, .bool m.leaf, s3, s4] 53 (0, 0)) ∧ NdAt w w.heap.size (.agg #[.bool n.leaf, s1, s2]) n ∧ NdAt w w.heap.size (.agg #[.bool m.leaf, s3, s4]) m
theorem NdAt.onw {w w' : World} {v : Value} {n : Nd} (h : NdAt w w.heap.size v n) (hb : Below w.heap.size w w') : NdAt w' w'.heap.size v n := by
  obtain ⟨kv, vv, rfl, h1, h2⟩ := h
  exact ⟨kv, vv, rfl, (h1.on hb).more hb.size, (h2.on hb).more hb.size⟩
theorem Nv2.on {w w' : World} {g : Nat} {s1 s2 s3 s4 : Value} {n m : Nd} (h : Nv2 w g s1 s2 s3 s4 n m) (hb : Below w.heap.size w w') : Nv2 w' g s1 s2 s3 s4 n m :=
  ⟨(hb.block g (Array.getElem?_eq_some_iff.1 h.1).1).trans h.1, h.2.1.onw hb, h.2.2.onw hb⟩
def UsN (w : World) (v : Value) (xs : List Int) : Prop := Us w w.heap.size v xs
theorem UsN.on {w w' : World} {v : Value} {xs : List Int} (h : UsN w v xs) (hb : Below w.heap.size w w') : UsN w' v xs := (Us.on h hb).more hb.size
theorem cells6 {w : World} {g : Nat} {a b c x y z : Value} {t : TypeId} (h : w.heap[g]? = some (.cells #[a, b, c, x, y, z] t (0, 0))) :
    w.cell? ⟨g, 0, none⟩ = some a ∧ w.cell? ⟨g, 1, none⟩ = some b ∧ w.cell? ⟨g, 2, none⟩ = some c ∧ w.cell? ⟨g, 3, none⟩ = some x ∧ w.cell? ⟨g, 4, none⟩ = some y ∧ w.cell? ⟨g, 5, none⟩ = some z :=
  ⟨by rw [cell_of_row w g 0 _ _ _ h]; rfl, by rw [cell_of_row w g 1 _ _ _ h]; rfl, by rw [cell_of_row w g 2 _ _ _ h]; rfl, by rw [cell_of_row w g 3 _ _ _ h]; rfl, by rw [cell_of_row w g 4 _ _ _ h]; rfl, by rw [cell_of_row w g 5 _ _ _ h]; rfl⟩
theorem Nv.unleaf {w : World} {b : Nat} {s1 s2 : Value} {n : Nd} (h : Nv w b s1 s2 n) {u : Value} : (w.setCell ⟨b, 0, none⟩ u).heap[b]? = some (.cells #[u, s1, s2] 53 (0, 0)) := by
  have hlt := (Array.getElem?_eq_some_iff.1 h.1).1
  have h' : w.heap[b] = .cells #[.bool n.leaf, s1, s2] 53 (0, 0) := by simpa [Array.getElem?_eq_getElem hlt] using h.1
  show (w.heap.modify b _)[b]? = _
  rw [Array.getElem?_eq_getElem (by simpa using hlt), Array.getElem_modify_self, h']
  rfl

set_option maxRecDepth 100000 in
set_option maxHeartbeats 4000000 in
theorem awake12 (w : World) : Calls Try.prog 25 #[] w fun e w' => e = .returned (.bool true) ∧ Below w.heap.size w w' := by
  have HB : Hid (Below w.heap.size w w) := Below.refl _ _
  go_enter Try.func25, Try.ntmps25
  go_wp2_with fail
  refine (leaf_box w [2, 5] _ _ rfl rfl (by simp) (by decide +kernel) (by decide +kernel)).mono ?_
  rintro e w1 ⟨A11, n11, c11, A12, n12, c12, rfl, O1, b1⟩
  clear HB; have HB := Lib.hid b1
  have V1 : Hid (Nv (w1.alloc (.cells #[.bool true, .slice A11 n11 c11, .slice A12 n12 c12] 53)) w1.heap.size (.slice A11 n11 c11) (.slice A12 n12 c12) (⟨true, [2, 5], [20, 50]⟩ : Nd)) := Nv.new (n := (⟨true, [2, 5], [20, 50]⟩ : Nd)) O1 (u64s_of (by decide +kernel)) (u64s_of (by decide +kernel))
  replace HB := Lib.hid (HB.out.alloc HB.out.size (.cells #[.bool true, .slice A11 n11 c11, .slice A12 n12 c12] 53))
  go_wp2_with fail
  generalize (w1.alloc (.cells #[.bool true, .slice A11 n11 c11, .slice A12 n12 c12] 53)) = W1 at *
  obtain ⟨p1, hp1⟩ : ∃ p, p = w1.heap.size := ⟨_, rfl⟩
  rw [← hp1] at V1 ⊢
  clear O1 hp1
  refine (at_eq 5 (show atS _ _ = (1, true, 0) by decide +kernel) V1.out.at (Nat.le_refl _) (by decide) (by decide)).mono ?_
  rintro e w2 ⟨rfl, b2⟩
  replace V1 := Lib.hid (V1.out.on b2)
  replace HB := Lib.hid (HB.out.trans (b2.mono HB.out.size))
  clear b2
  obtain ⟨q10, q11, q12, q13, q14, q15⟩ := cells3 V1.out.1
  go_wp2_with fail
  clear q10 q11 q12 q13 q14 q15
  refine (at_eq 3 (show atS _ _ = (1, false, 0) by decide +kernel) V1.out.at (Nat.le_refl _) (by decide) (by decide)).mono ?_
  rintro e w3 ⟨rfl, b3⟩
  replace V1 := Lib.hid (V1.out.on b3)
  replace HB := Lib.hid (HB.out.trans (b3.mono HB.out.size))
  clear b3
  go_wp2_with fail
  refine (leaf_box w3 [2, 5] _ _ rfl rfl (by simp) (by decide +kernel) (by decide +kernel)).mono ?_
  rintro e w4 ⟨A41, n41, c41, A42, n42, c42, rfl, O4, b4⟩
  replace V1 := Lib.hid (V1.out.on b4)
  replace HB := Lib.hid (HB.out.trans (b4.mono HB.out.size))
  clear b4
  have V8 : Hid (Nv (w4.alloc (.cells #[.bool false, .slice A41 n41 c41, .slice A42 n42 c42] 53)) w4.heap.size (.slice A41 n41 c41) (.slice A42 n42 c42) (⟨false, [2, 5], [20, 50]⟩ : Nd)) := Nv.new (n := (⟨false, [2, 5], [20, 50]⟩ : Nd)) O4 (u64s_of (by decide +kernel)) (u64s_of (by decide +kernel))
  replace V1 := Lib.hid (V1.out.on (bel1 _ (.cells #[.bool false, .slice A41 n41 c41, .slice A42 n42 c42] 53)))
  replace HB := Lib.hid (HB.out.alloc HB.out.size (.cells #[.bool false, .slice A41 n41 c41, .slice A42 n42 c42] 53))
  go_wp2_with fail
  generalize (w4.alloc (.cells #[.bool false, .slice A41 n41 c41, .slice A42 n42 c42] 53)) = W8 at *
  obtain ⟨p8, hp8⟩ : ∃ p, p = w4.heap.size := ⟨_, rfl⟩
  rw [← hp8] at V8 ⊢
  clear O4 hp8
  refine (at_eq 4 (show atS _ _ = (0, false, 0) by decide +kernel) V8.out.at (Nat.le_refl _) (by decide) (by decide)).mono ?_
  rintro e w6 ⟨rfl, b6⟩
  replace V1 := Lib.hid (V1.out.on b6)
  replace HB := Lib.hid (HB.out.trans (b6.mono HB.out.size))
  clear b6 V8
  obtain ⟨q10, q11, q12, q13, q14, q15⟩ := cells3 V1.out.1
  go_wp2_with fail
  clear q10 q11 q12 q13 q14 q15
  refine (put_eq 3 30 (show putS _ _ _ = (⟨true, [2, 3, 5], [20, 30, 50]⟩, false, 0) by decide +kernel) (by unfold IsU64; omega) (by unfold IsU64; omega) V1.out.at (Nat.le_refl _) (by decide) (by decide)).mono ?_
  rintro e w12 ⟨A121, n121, c121, A122, n122, c122, rfl, O12, b12⟩
  replace V1 := Lib.hid (V1.out.on b12)
  replace HB := Lib.hid (HB.out.trans (b12.mono HB.out.size))
  clear b12
  have V12 : Hid (Nv (w12.alloc (.cells #[.bool true, .slice A121 n121 c121, .slice A122 n122 c122] 53)) w12.heap.size (.slice A121 n121 c121) (.slice A122 n122 c122) (⟨true, [2, 3, 5], [20, 30, 50]⟩ : Nd)) := Nv.new (n := (⟨true, [2, 3, 5], [20, 30, 50]⟩ : Nd)) O12 (u64s_of (by decide +kernel)) (u64s_of (by decide +kernel))
  replace V1 := Lib.hid (V1.out.on (bel1 _ (.cells #[.bool true, .slice A121 n121 c121, .slice A122 n122 c122] 53)))
  replace HB := Lib.hid (HB.out.alloc HB.out.size (.cells #[.bool true, .slice A121 n121 c121, .slice A122 n122 c122] 53))
  obtain ⟨q10, q11, q12, q13, q14, q15⟩ := cells3 V1.out.1
  go_wp2_with fail
  clear q10 q11 q12 q13 q14 q15
  generalize (w12.alloc (.cells #[.bool true, .slice A121 n121 c121, .slice A122 n122 c122] 53)) = W12 at *
  obtain ⟨p12, hp12⟩ : ∃ p, p = w12.heap.size := ⟨_, rfl⟩
  rw [← hp12] at V12 ⊢
  clear O12 hp12
  refine (take_eq 2 (show takeS _ _ = (⟨true, [5], [50]⟩, 20, 0) by decide +kernel) V1.out.at (Nat.le_refl _) (by decide) (by decide)).mono ?_
  rintro e w15 ⟨A151, n151, c151, A152, n152, c152, rfl, O15, b15⟩
  replace V1 := Lib.hid (V1.out.on b15)
  replace V12 := Lib.hid (V12.out.on b15)
  replace HB := Lib.hid (HB.out.trans (b15.mono HB.out.size))
  clear b15
  have V15 : Hid (Nv (w15.alloc (.cells #[.bool true, .slice A151 n151 c151, .slice A152 n152 c152] 53)) w15.heap.size (.slice A151 n151 c151) (.slice A152 n152 c152) (⟨true, [5], [50]⟩ : Nd)) := Nv.new (n := (⟨true, [5], [50]⟩ : Nd)) O15 (u64s_of (by decide +kernel)) (u64s_of (by decide +kernel))
  replace V1 := Lib.hid (V1.out.on (bel1 _ (.cells #[.bool true, .slice A151 n151 c151, .slice A152 n152 c152] 53)))
  replace V12 := Lib.hid (V12.out.on (bel1 _ (.cells #[.bool true, .slice A151 n151 c151, .slice A152 n152 c152] 53)))
  replace HB := Lib.hid (HB.out.alloc HB.out.size (.cells #[.bool true, .slice A151 n151 c151, .slice A152 n152 c152] 53))
  obtain ⟨q10, q11, q12, q13, q14, q15⟩ := cells3 V1.out.1
  go_wp2_with fail
  clear q10 q11 q12 q13 q14 q15
  generalize (w15.alloc (.cells #[.bool true, .slice A151 n151 c151, .slice A152 n152 c152] 53)) = W15 at *
  obtain ⟨p15, hp15⟩ : ∃ p, p = w15.heap.size := ⟨_, rfl⟩
  rw [← hp15] at V15 ⊢
  clear O15 hp15
  refine (take_eq 4 (show takeS _ _ = (⟨false, [], []⟩, 0, 121) by decide +kernel) V1.out.at (Nat.le_refl _) (by decide) (by decide)).mono ?_
  rintro e w18 ⟨A181, n181, c181, A182, n182, c182, rfl, O18, b18⟩
  clear V1
  replace V12 := Lib.hid (V12.out.on b18)
  replace V15 := Lib.hid (V15.out.on b18)
  replace HB := Lib.hid (HB.out.trans (b18.mono HB.out.size))
  clear b18
  have V18 : Hid (Nv (w18.alloc (.cells #[.bool false, .slice A181 n181 c181, .slice A182 n182 c182] 53)) w18.heap.size (.slice A181 n181 c181) (.slice A182 n182 c182) (⟨false, [], []⟩ : Nd)) := Nv.new (n := (⟨false, [], []⟩ : Nd)) O18 (u64s_of (by decide +kernel)) (u64s_of (by decide +kernel))
  replace V12 := Lib.hid (V12.out.on (bel1 _ (.cells #[.bool false, .slice A181 n181 c181, .slice A182 n182 c182] 53)))
  replace V15 := Lib.hid (V15.out.on (bel1 _ (.cells #[.bool false, .slice A181 n181 c181, .slice A182 n182 c182] 53)))
  replace HB := Lib.hid (HB.out.alloc HB.out.size (.cells #[.bool false, .slice A181 n181 c181, .slice A182 n182 c182] 53))
  go_wp2_with fail
  have Hsz18 : Hid (w18.heap.size + 1 = (w18.alloc (.cells #[.bool false, .slice A181 n181 c181, .slice A182 n182 c182] 53)).heap.size) := by show _ = _; simp
  generalize (w18.alloc (.cells #[.bool false, .slice A181 n181 c181, .slice A182 n182 c182] 53)) = W18 at *
  rw [show w18.heap.size + 1 = W18.heap.size from Hsz18.out]
  obtain ⟨p18, hp18⟩ : ∃ p, p = w18.heap.size := ⟨_, rfl⟩
  rw [← hp18] at V18 ⊢
  clear O18 hp18
  clear V18
  refine (leaf_box W18 [1, 2, 3] _ _ rfl rfl (by simp) (by decide +kernel) (by decide +kernel)).mono ?_
  rintro e w20 ⟨A201, n201, c201, A202, n202, c202, rfl, O20, b20⟩
  replace V12 := Lib.hid (V12.out.on b20)
  replace V15 := Lib.hid (V15.out.on b20)
  replace HB := Lib.hid (HB.out.trans (b20.mono HB.out.size))
  clear b20
  go_wp2_with fail
  refine (split_eq (n := ⟨true, [1, 2, 3], [10, 20, 30]⟩) (show splitS _ = (⟨true, [1, 2], [10, 20]⟩, ⟨true, [3], [30]⟩, 0) by decide +kernel) (NdOf.at (n := ⟨true, [1, 2, 3], [10, 20, 30]⟩) O20 (u64s_of (by decide +kernel)) (u64s_of (by decide +kernel))) (Nat.le_refl _) (by decide) (by decide)).mono ?_
  rintro e w21 ⟨A211, n211, c211, A212, n212, c212, A221, n221, c221, A222, n222, c222, rfl, O21, O22, b21⟩
  replace V12 := Lib.hid (V12.out.on b21)
  replace V15 := Lib.hid (V15.out.on b21)
  replace HB := Lib.hid (HB.out.trans (b21.mono HB.out.size))
  clear b21 O20
  have V21 : Hid (Nv ((w21.alloc (.cells #[.bool true, .slice A211 n211 c211, .slice A212 n212 c212] 53)).alloc (.cells #[.bool true, .slice A221 n221 c221, .slice A222 n222 c222] 53)) w21.heap.size (.slice A211 n211 c211) (.slice A212 n212 c212) (⟨true, [1, 2], [10, 20]⟩ : Nd)) := (Nv.new (n := ⟨true, [1, 2], [10, 20]⟩) O21 (u64s_of (by decide +kernel)) (u64s_of (by decide +kernel))).on (bel1 _ _)
  have V22 : Hid (Nv ((w21.alloc (.cells #[.bool true, .slice A211 n211 c211, .slice A212 n212 c212] 53)).alloc (.cells #[.bool true, .slice A221 n221 c221, .slice A222 n222 c222] 53)) (w21.heap.size + 1) (.slice A221 n221 c221) (.slice A222 n222 c222) (⟨true, [3], [30]⟩ : Nd)) := by have h := Nv.new (n := ⟨true, [3], [30]⟩) (O22.on (bel1 w21 (.cells #[.bool true, .slice A211 n211 c211, .slice A212 n212 c212] 53))) (u64s_of (by decide +kernel)) (u64s_of (by decide +kernel)); rw [World.size_alloc] at h; exact h
  replace V12 := Lib.hid ((V12.out.on (bel1 _ (.cells #[.bool true, .slice A211 n211 c211, .slice A212 n212 c212] 53))).on (bel1 _ (.cells #[.bool true, .slice A221 n221 c221, .slice A222 n222 c222] 53)))
  replace V15 := Lib.hid ((V15.out.on (bel1 _ (.cells #[.bool true, .slice A211 n211 c211, .slice A212 n212 c212] 53))).on (bel1 _ (.cells #[.bool true, .slice A221 n221 c221, .slice A222 n222 c222] 53)))
  replace HB := Lib.hid ((HB.out.alloc HB.out.size (.cells #[.bool true, .slice A211 n211 c211, .slice A212 n212 c212] 53)).alloc (HB.out.alloc HB.out.size (.cells #[.bool true, .slice A211 n211 c211, .slice A212 n212 c212] 53)).size (.cells #[.bool true, .slice A221 n221 c221, .slice A222 n222 c222] 53))
  go_wp2_with fail
  have Hsz22 : Hid (w21.heap.size + 1 + 1 = ((w21.alloc (.cells #[.bool true, .slice A211 n211 c211, .slice A212 n212 c212] 53)).alloc (.cells #[.bool true, .slice A221 n221 c221, .slice A222 n222 c222] 53)).heap.size) := by show _ = _; simp
  generalize ((w21.alloc (.cells #[.bool true, .slice A211 n211 c211, .slice A212 n212 c212] 53)).alloc (.cells #[.bool true, .slice A221 n221 c221, .slice A222 n222 c222] 53)) = W22 at *
  rw [show w21.heap.size + 1 + 1 = W22.heap.size from Hsz22.out]
  obtain ⟨p21, hp21⟩ : ∃ p, p = w21.heap.size := ⟨_, rfl⟩
  rw [← hp21] at V21 V22 ⊢
  clear O21 O22 hp21
  refine (leaf_box W22 [1, 2, 3, 4, 5] _ _ rfl rfl (by simp) (by decide +kernel) (by decide +kernel)).mono ?_
  rintro e w23 ⟨A231, n231, c231, A232, n232, c232, rfl, O23, b23⟩
  replace V12 := Lib.hid (V12.out.on b23)
  replace V15 := Lib.hid (V15.out.on b23)
  replace V21 := Lib.hid (V21.out.on b23)
  replace V22 := Lib.hid (V22.out.on b23)
  replace HB := Lib.hid (HB.out.trans (b23.mono HB.out.size))
  clear b23
  go_wp2_with fail
  refine (leaf_box w23 [6, 7, 8, 9] _ _ rfl rfl (by simp) (by decide +kernel) (by decide +kernel)).mono ?_
  rintro e w24 ⟨A241, n241, c241, A242, n242, c242, rfl, O24, b24⟩
  replace V12 := Lib.hid (V12.out.on b24)
  replace V15 := Lib.hid (V15.out.on b24)
  replace V21 := Lib.hid (V21.out.on b24)
  replace V22 := Lib.hid (V22.out.on b24)
  replace HB := Lib.hid (HB.out.trans (b24.mono HB.out.size))
  replace O23 := O23.on b24
  clear b24
  go_wp2_with fail
  refine (join_any w24 w24.heap.size _ _ (⟨true, [1, 2, 3, 4, 5], [10, 20, 30, 40, 50]⟩ : Nd) (⟨true, [6, 7, 8, 9], [60, 70, 80, 90]⟩ : Nd) (NdOf.at (n := ⟨true, [1, 2, 3, 4, 5], [10, 20, 30, 40, 50]⟩) O23 (u64s_of (by decide +kernel)) (u64s_of (by decide +kernel))) (NdOf.at (n := ⟨true, [6, 7, 8, 9], [60, 70, 80, 90]⟩) O24 (u64s_of (by decide +kernel)) (u64s_of (by decide +kernel))) (Nat.le_refl _) (by decide)).mono ?_
  rintro e w25 ⟨lv, rfl, hN, b25⟩
  replace V12 := Lib.hid (V12.out.on b25)
  replace V15 := Lib.hid (V15.out.on b25)
  replace V21 := Lib.hid (V21.out.on b25)
  replace V22 := Lib.hid (V22.out.on b25)
  replace HB := Lib.hid (HB.out.trans (b25.mono HB.out.size))
  clear b25 O23 O24
  rw [show joinS (⟨true, [1, 2, 3, 4, 5], [10, 20, 30, 40, 50]⟩ : Nd) (⟨true, [6, 7, 8, 9], [60, 70, 80, 90]⟩ : Nd) = ([⟨true, [1, 2, 3, 4, 5], [10, 20, 30, 40, 50]⟩, ⟨true, [6, 7, 8, 9], [60, 70, 80, 90]⟩], 0) by decide +kernel] at hN ⊢
  obtain ⟨g, s1, s2, s3, s4, rfl, -, hrow, o1, o2, o3, o4⟩ := hN
  obtain ⟨A31, n31, c31, rfl⟩ := o1.formN
  obtain ⟨A32, n32, c32, rfl⟩ := o2.formN
  obtain ⟨A33, n33, c33, rfl⟩ := o3.formN
  obtain ⟨A34, n34, c34, rfl⟩ := o4.formN
  have V24 : Hid (Nv2 w25 g (.slice A31 n31 c31) (.slice A32 n32 c32) (.slice A33 n33 c33) (.slice A34 n34 c34) (⟨true, [1, 2, 3, 4, 5], [10, 20, 30, 40, 50]⟩ : Nd) (⟨true, [6, 7, 8, 9], [60, 70, 80, 90]⟩ : Nd)) := ⟨hrow, ⟨_, _, rfl, o1.us (u64s_of (by decide +kernel)), o2.us (u64s_of (by decide +kernel))⟩, ⟨_, _, rfl, o3.us (u64s_of (by decide +kernel)), o4.us (u64s_of (by decide +kernel))⟩⟩
  clear hrow o1 o2 o3 o4
  go_wp2_with fail
  refine (leaf_box w25 [1, 2, 3] _ _ rfl rfl (by simp) (by decide +kernel) (by decide +kernel)).mono ?_
  rintro e w26 ⟨A261, n261, c261, A262, n262, c262, rfl, O26, b26⟩
  replace V12 := Lib.hid (V12.out.on b26)
  replace V15 := Lib.hid (V15.out.on b26)
  replace V21 := Lib.hid (V21.out.on b26)
  replace V22 := Lib.hid (V22.out.on b26)
  replace V24 := Lib.hid (V24.out.on b26)
  replace HB := Lib.hid (HB.out.trans (b26.mono HB.out.size))
  clear b26
  go_wp2_with fail
  refine (cut_eq (n := ⟨true, [1, 2, 3], [10, 20, 30]⟩) 2 9 (show cutS _ _ _ = (⟨true, [1], [10]⟩, [20, 30], 0) by decide +kernel) (NdOf.at (n := ⟨true, [1, 2, 3], [10, 20, 30]⟩) O26 (u64s_of (by decide +kernel)) (u64s_of (by decide +kernel))) (Nat.le_refl _) (by decide) (by decide)).mono ?_
  rintro e w27 ⟨A271, n271, c271, A272, n272, c272, A28, n28, c28, rfl, O27, O28, b27⟩
  replace V12 := Lib.hid (V12.out.on b27)
  replace V15 := Lib.hid (V15.out.on b27)
  replace V21 := Lib.hid (V21.out.on b27)
  replace V22 := Lib.hid (V22.out.on b27)
  replace V24 := Lib.hid (V24.out.on b27)
  replace HB := Lib.hid (HB.out.trans (b27.mono HB.out.size))
  clear b27 O26
  have V28 : Hid (UsN w27 (.slice A28 n28 c28) [20, 30]) := O28.us (u64s_of (by decide +kernel))
  clear O28
  have V27 : Hid (Nv (w27.alloc (.cells #[.bool true, .slice A271 n271 c271, .slice A272 n272 c272] 53)) w27.heap.size (.slice A271 n271 c271) (.slice A272 n272 c272) (⟨true, [1], [10]⟩ : Nd)) := Nv.new (n := (⟨true, [1], [10]⟩ : Nd)) O27 (u64s_of (by decide +kernel)) (u64s_of (by decide +kernel))
  replace V12 := Lib.hid (V12.out.on (bel1 _ (.cells #[.bool true, .slice A271 n271 c271, .slice A272 n272 c272] 53)))
  replace V15 := Lib.hid (V15.out.on (bel1 _ (.cells #[.bool true, .slice A271 n271 c271, .slice A272 n272 c272] 53)))
  replace V21 := Lib.hid (V21.out.on (bel1 _ (.cells #[.bool true, .slice A271 n271 c271, .slice A272 n272 c272] 53)))
  replace V22 := Lib.hid (V22.out.on (bel1 _ (.cells #[.bool true, .slice A271 n271 c271, .slice A272 n272 c272] 53)))
  replace V24 := Lib.hid (V24.out.on (bel1 _ (.cells #[.bool true, .slice A271 n271 c271, .slice A272 n272 c272] 53)))
  replace V28 := Lib.hid (V28.out.on (bel1 _ (.cells #[.bool true, .slice A271 n271 c271, .slice A272 n272 c272] 53)))
  replace HB := Lib.hid (HB.out.alloc HB.out.size (.cells #[.bool true, .slice A271 n271 c271, .slice A272 n272 c272] 53))
  go_wp2_with fail
  generalize (w27.alloc (.cells #[.bool true, .slice A271 n271 c271, .slice A272 n272 c272] 53)) = W27 at *
  obtain ⟨p27, hp27⟩ : ∃ p, p = w27.heap.size := ⟨_, rfl⟩
  rw [← hp27] at V27 ⊢
  clear O27 hp27
  have HS13 : Hid (∀ w', Below W27.heap.size W27 w' → w'.cell? ⟨p12, 0, none⟩ = some (.bool true) ∧ w'.cell? ⟨p12, 1, none⟩ = some (.slice A121 n121 c121) ∧ w'.cell? ⟨p12, 2, none⟩ = some (.slice A122 n122 c122) ∧ w'.cell? ⟨p15, 0, none⟩ = some (.bool true) ∧ w'.cell? ⟨p15, 1, none⟩ = some (.slice A151 n151 c151) ∧ w'.cell? ⟨p15, 2, none⟩ = some (.slice A152 n152 c152)) := fun w' h => by
    obtain ⟨a0, a1, a2, -⟩ := cells3 (V12.out.on h).1
    obtain ⟨d0, d1, d2, -⟩ := cells3 (V15.out.on h).1
    exact ⟨a0, a1, a2, d0, d1, d2⟩
  have Hd13 : Hid (Below W27.heap.size W27 W27.drew) := (Below.refl _ _).drew
  have He13 : Hid (Below W27.heap.size W27 (W27.alloc (.cells #[.int .u64 2, .int .u64 3, .int .u64 5] 23)).drew) := (bel1 _ _).drew
  go_region_held3 (fun w' => w'.cell? ⟨p12, 0, none⟩ = some (.bool true) ∧ w'.cell? ⟨p12, 1, none⟩ = some (.slice A121 n121 c121) ∧ w'.cell? ⟨p12, 2, none⟩ = some (.slice A122 n122 c122) ∧ w'.cell? ⟨p15, 0, none⟩ = some (.bool true) ∧ w'.cell? ⟨p15, 1, none⟩ = some (.slice A151 n151 c151) ∧ w'.cell? ⟨p15, 2, none⟩ = some (.slice A152 n152 c152))
    (first
      | with_reducible exact HS13.out _ b53
      | with_reducible exact HS13.out _ b52
      | with_reducible exact HS13.out _ (b51.alloc b51.size _)
      | with_reducible exact HS13.out _ b51
      | with_reducible exact HS13.out _ b50
      | with_reducible exact HS13.out _ He13.out
      | with_reducible exact HS13.out _ Hd13.out
      | go_keep)
    (first
      | ((go_at_call 46); (have hq := leaf_boxd W27 [2, 3, 5] 3 #[.int .u64 2, .int .u64 3, .int .u64 5] rfl rfl (by simp) (by decide +kernel) (by decide +kernel)); (with_reducible refine hq.mono ?_); clear hq; rintro e w50 ⟨A501, n501, c501, A502, n502, c502, rfl, O50, b50'⟩; have b50 := b50'; clear b50')
      | ((go_at_call 32); (have hq := same_eq (w := w50) rfl ((V12.out.on b50).at) (NdOf.at (n := ⟨true, [2, 3, 5], [20, 30, 50]⟩) O50 (u64s_of (by decide +kernel)) (u64s_of (by decide +kernel))) (Nat.le_refl _) (by decide)); (with_reducible refine hq.mono ?_); clear hq; rintro e w51 ⟨rfl, b51'⟩; have b51 := b50.trans (b51'.mono b50.size); clear b51')
      | ((go_at_call 46); (have hq := leaf_box w51 [5] 1 #[.int .u64 5] rfl rfl (by simp) (by decide +kernel) (by decide +kernel)); (with_reducible refine hq.mono ?_); clear hq; rintro e w52 ⟨A521, n521, c521, A522, n522, c522, rfl, O52, b52'⟩; have b52 := b51.trans (b52'.mono b51.size); clear b52')
      | ((go_at_call 32); (have hq := same_eq (w := w52) rfl ((V15.out.on b52).at) (NdOf.at (n := ⟨true, [5], [50]⟩) O52 (u64s_of (by decide +kernel)) (u64s_of (by decide +kernel))) (Nat.le_refl _) (by decide)); (with_reducible refine hq.mono ?_); clear hq; rintro e w53 ⟨rfl, b53'⟩; have b53 := b52.trans (b53'.mono b52.size); clear b53'))
  go_wp2_with fail
  clear HS13 Hd13 He13 V12 V15 O50 O52 b50 b51 b52
  replace V21 := Lib.hid (V21.out.on b53)
  replace V22 := Lib.hid (V22.out.on b53)
  replace V24 := Lib.hid (V24.out.on b53)
  replace V28 := Lib.hid (V28.out.on b53)
  replace V27 := Lib.hid (V27.out.on b53)
  replace HB := Lib.hid (HB.out.trans (b53.mono HB.out.size))
  clear b53
  have HS15 : Hid (∀ w', Below w53.heap.size w53 w' → w'.cell? ⟨p21, 0, none⟩ = some (.bool true) ∧ w'.cell? ⟨p21, 1, none⟩ = some (.slice A211 n211 c211) ∧ w'.cell? ⟨p21, 2, none⟩ = some (.slice A212 n212 c212) ∧ w'.cell? ⟨p21 + 1, 0, none⟩ = some (.bool true) ∧ w'.cell? ⟨p21 + 1, 1, none⟩ = some (.slice A221 n221 c221) ∧ w'.cell? ⟨p21 + 1, 2, none⟩ = some (.slice A222 n222 c222) ∧ w'.cell? ⟨g, 0, none⟩ = some (.bool true) ∧ w'.cell? ⟨g, 1, none⟩ = some (.slice A31 n31 c31) ∧ w'.cell? ⟨g, 2, none⟩ = some (.slice A32 n32 c32) ∧ w'.cell? ⟨g, 3, none⟩ = some (.bool true) ∧ w'.cell? ⟨g, 4, none⟩ = some (.slice A33 n33 c33) ∧ w'.cell? ⟨g, 5, none⟩ = some (.slice A34 n34 c34) ∧ w'.cell? ⟨p27, 0, none⟩ = some (.bool true) ∧ w'.cell? ⟨p27, 1, none⟩ = some (.slice A271 n271 c271) ∧ w'.cell? ⟨p27, 2, none⟩ = some (.slice A272 n272 c272)) := fun w' h => by
    obtain ⟨a0, a1, a2, -⟩ := cells3 (V21.out.on h).1
    obtain ⟨d0, d1, d2, -⟩ := cells3 (V22.out.on h).1
    obtain ⟨f0, f1, f2, f3, f4, f5⟩ := cells6 (V24.out.on h).1
    obtain ⟨h0, h1, h2, -⟩ := cells3 (V27.out.on h).1
    exact ⟨a0, a1, a2, d0, d1, d2, f0, f1, f2, f3, f4, f5, h0, h1, h2⟩
  have Hd15 : Hid (Below w53.heap.size w53 w53.drew) := (Below.refl _ _).drew
  have He15 : Hid (Below w53.heap.size w53 (w53.alloc (.cells #[.int .u64 1, .int .u64 2] 23)).drew) := (bel1 _ _).drew
  go_region_held3 (fun w' => w'.cell? ⟨p21, 0, none⟩ = some (.bool true) ∧ w'.cell? ⟨p21, 1, none⟩ = some (.slice A211 n211 c211) ∧ w'.cell? ⟨p21, 2, none⟩ = some (.slice A212 n212 c212) ∧ w'.cell? ⟨p21 + 1, 0, none⟩ = some (.bool true) ∧ w'.cell? ⟨p21 + 1, 1, none⟩ = some (.slice A221 n221 c221) ∧ w'.cell? ⟨p21 + 1, 2, none⟩ = some (.slice A222 n222 c222) ∧ w'.cell? ⟨g, 0, none⟩ = some (.bool true) ∧ w'.cell? ⟨g, 1, none⟩ = some (.slice A31 n31 c31) ∧ w'.cell? ⟨g, 2, none⟩ = some (.slice A32 n32 c32) ∧ w'.cell? ⟨g, 3, none⟩ = some (.bool true) ∧ w'.cell? ⟨g, 4, none⟩ = some (.slice A33 n33 c33) ∧ w'.cell? ⟨g, 5, none⟩ = some (.slice A34 n34 c34) ∧ w'.cell? ⟨p27, 0, none⟩ = some (.bool true) ∧ w'.cell? ⟨p27, 1, none⟩ = some (.slice A271 n271 c271) ∧ w'.cell? ⟨p27, 2, none⟩ = some (.slice A272 n272 c272))
    (first
      | with_reducible exact HS15.out _ b70
      | with_reducible exact HS15.out _ (b69.alloc b69.size _)
      | with_reducible exact HS15.out _ b69
      | with_reducible exact HS15.out _ b68
      | with_reducible exact HS15.out _ (b67.alloc b67.size _)
      | with_reducible exact HS15.out _ b67
      | with_reducible exact HS15.out _ b66
      | with_reducible exact HS15.out _ (b65.alloc b65.size _)
      | with_reducible exact HS15.out _ b65
      | with_reducible exact HS15.out _ b64
      | with_reducible exact HS15.out _ (b63.alloc b63.size _)
      | with_reducible exact HS15.out _ b63
      | with_reducible exact HS15.out _ b62
      | with_reducible exact HS15.out _ (b61.alloc b61.size _)
      | with_reducible exact HS15.out _ b61
      | with_reducible exact HS15.out _ b60
      | with_reducible exact HS15.out _ He15.out
      | with_reducible exact HS15.out _ Hd15.out
      | go_keep)
    (first
      | ((go_at_call 46); (have hq := leaf_boxd w53 [1, 2] 2 #[.int .u64 1, .int .u64 2] rfl rfl (by simp) (by decide +kernel) (by decide +kernel)); (with_reducible refine hq.mono ?_); clear hq; rintro e w60 ⟨A601, n601, c601, A602, n602, c602, rfl, O60, b60'⟩; have b60 := b60'; clear b60')
      | ((go_at_call 32); (have hq := same_eq (w := w60) rfl ((V21.out.on b60).at) (NdOf.at (n := ⟨true, [1, 2], [10, 20]⟩) O60 (u64s_of (by decide +kernel)) (u64s_of (by decide +kernel))) (Nat.le_refl _) (by decide)); (with_reducible refine hq.mono ?_); clear hq; rintro e w61 ⟨rfl, b61'⟩; have b61 := b60.trans (b61'.mono b60.size); clear b61')
      | ((go_at_call 46); (have hq := leaf_box w61 [3] 1 #[.int .u64 3] rfl rfl (by simp) (by decide +kernel) (by decide +kernel)); (with_reducible refine hq.mono ?_); clear hq; rintro e w62 ⟨A621, n621, c621, A622, n622, c622, rfl, O62, b62'⟩; have b62 := b61.trans (b62'.mono b61.size); clear b62')
      | ((go_at_call 32); (have hq := same_eq (w := w62) rfl ((V22.out.on b62).at) (NdOf.at (n := ⟨true, [3], [30]⟩) O62 (u64s_of (by decide +kernel)) (u64s_of (by decide +kernel))) (Nat.le_refl _) (by decide)); (with_reducible refine hq.mono ?_); clear hq; rintro e w63 ⟨rfl, b63'⟩; have b63 := b62.trans (b63'.mono b62.size); clear b63')
      | ((go_at_call 46); (have hq := leaf_box w63 [1, 2, 3, 4, 5] 5 #[.int .u64 1, .int .u64 2, .int .u64 3, .int .u64 4, .int .u64 5] rfl rfl (by simp) (by decide +kernel) (by decide +kernel)); (with_reducible refine hq.mono ?_); clear hq; rintro e w64 ⟨A641, n641, c641, A642, n642, c642, rfl, O64, b64'⟩; have b64 := b63.trans (b64'.mono b63.size); clear b64')
      | ((go_at_call 32); (have hq := same_eq (w := w64) rfl ((V24.out.on b64).2.1) (NdOf.at (n := ⟨true, [1, 2, 3, 4, 5], [10, 20, 30, 40, 50]⟩) O64 (u64s_of (by decide +kernel)) (u64s_of (by decide +kernel))) (Nat.le_refl _) (by decide)); (with_reducible refine hq.mono ?_); clear hq; rintro e w65 ⟨rfl, b65'⟩; have b65 := b64.trans (b65'.mono b64.size); clear b65')
      | ((go_at_call 46); (have hq := leaf_box w65 [6, 7, 8, 9] 4 #[.int .u64 6, .int .u64 7, .int .u64 8, .int .u64 9] rfl rfl (by simp) (by decide +kernel) (by decide +kernel)); (with_reducible refine hq.mono ?_); clear hq; rintro e w66 ⟨A661, n661, c661, A662, n662, c662, rfl, O66, b66'⟩; have b66 := b65.trans (b66'.mono b65.size); clear b66')
      | ((go_at_call 32); (have hq := same_eq (w := w66) rfl ((V24.out.on b66).2.2) (NdOf.at (n := ⟨true, [6, 7, 8, 9], [60, 70, 80, 90]⟩) O66 (u64s_of (by decide +kernel)) (u64s_of (by decide +kernel))) (Nat.le_refl _) (by decide)); (with_reducible refine hq.mono ?_); clear hq; rintro e w67 ⟨rfl, b67'⟩; have b67 := b66.trans (b67'.mono b66.size); clear b67')
      | ((go_at_call 46); (have hq := leaf_box w67 [1] 1 #[.int .u64 1] rfl rfl (by simp) (by decide +kernel) (by decide +kernel)); (with_reducible refine hq.mono ?_); clear hq; rintro e w68 ⟨A681, n681, c681, A682, n682, c682, rfl, O68, b68'⟩; have b68 := b67.trans (b68'.mono b67.size); clear b68')
      | ((go_at_call 32); (have hq := same_eq (w := w68) rfl ((V27.out.on b68).at) (NdOf.at (n := ⟨true, [1], [10]⟩) O68 (u64s_of (by decide +kernel)) (u64s_of (by decide +kernel))) (Nat.le_refl _) (by decide)); (with_reducible refine hq.mono ?_); clear hq; rintro e w69 ⟨rfl, b69'⟩; have b69 := b68.trans (b69'.mono b68.size); clear b69')
      | ((go_at_call 41); (have hq := numbers_any (w69.alloc (.cells #[.int .u64 20, .int .u64 30] 23)) (w69.heap.size + 1) (.slice A28 n28 c28) _ [20, 30] [20, 30] (((V28.out.on b69).on (bel1 _ _)).more (by simp)) (us_box w69 [20, 30] 2 #[.int .u64 20, .int .u64 30] rfl rfl (by simp) (by decide +kernel)) (by simp) (by simp)); (with_reducible refine hq.mono ?_); clear hq; rintro e w70 ⟨he, d70, rfl⟩; (rw [show decide (([20, 30] : List Int) = [20, 30]) = true by decide] at he); subst he; have b70 := below_drewN (b69.alloc b69.size (.cells #[.int .u64 20, .int .u64 30] 23)) d70))
  go_wp2_with fail
  go_ret
  exact ⟨rfl, HB.out.trans (b70.mono HB.out.size)⟩
end Go.Proofs.Yticdmiomkmaaoaa
