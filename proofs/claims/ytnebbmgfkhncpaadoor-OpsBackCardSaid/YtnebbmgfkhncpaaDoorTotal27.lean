/-
  OpsTotal: the law's walk.
-/
import Derived.Test.YtnebbmgfkhncpaaDoorReadW27
namespace Go.Proofs.YtnebbmgfkhncpaaDoor
open Go.RowKit Go.Shelf

theorem parseR_cases (s : List UInt8) : ((parseR s).2 = 0 ∧ textR (parseR s).1 = (s, 0)) ∨ parseR s = (op0, 270) := by
  unfold parseR
  split
  · exact .inr rfl
  · split
    · rename_i h; exact .inl ⟨rfl, h⟩
    · exact .inr rfl
set_option maxRecDepth 100000 in
set_option maxHeartbeats 2000000 in
theorem opsTotal_walk (w : World) (v0 : Value) (s : ByteArray) (bs : List Int) (h0 : Bs w w.heap.size v0 bs) (hE : Env w) :
    Calls Tryd.prog 5 #[v0, .string s] w fun e w' => e = .returned (.bool true) ∧ Below w.heap.size w w' := by
  obtain ⟨A0, c0, rfl, -, -⟩ := h0.1.form
  obtain ⟨m0, hm0⟩ : ∃ m, m = bs.length := ⟨_, rfl⟩
  rw [← hm0] at h0 ⊢
  have M0 := Lib.hid hm0
  have H0 := Lib.hid h0
  have HE := Lib.hid hE
  clear hm0 h0 hE
  by_cases hb : 2000 < m0 ∨ 2000 < s.size
  · have HA := Lib.hid (awake_true w HE.out)
    by_cases hc : 2000 < m0
    · have hc' : (2000 : Int) < m0 := by omega
      go_enter Tryd.func5, Tryd.ntmps5
      go_wp2_with (go_at_call 6; go_must (refine HA.out.mono ?_); rintro e W1 ⟨rfl, g1⟩)
      go_ret
      exact ⟨rfl, g1⟩
    · have hc' : ¬ (2000 : Int) < m0 := by omega
      have hb' : (2000 : Int) < s.size := by omega
      go_enter Tryd.func5, Tryd.ntmps5
      go_wp2_with (go_at_call 6; go_must (refine HA.out.mono ?_); rintro e W1 ⟨rfl, g1⟩)
      go_ret
      exact ⟨rfl, g1⟩
  have hc' : ¬ (2000 : Int) < m0 := by omega
  have hb' : ¬ (2000 : Int) < s.size := by omega
  have HL : Hid (m0 ≤ 2000 ∧ s.size ≤ 2000) := ⟨by omega, by omega⟩
  clear hb
  go_enter Tryd.func5, Tryd.ntmps5
  go_wp2_with fail
  refine (read_any w w.heap.size _ bs H0.out (Nat.le_refl _) (by have := HL.out; have := M0.out; omega)).mono ?_
  rintro e W1 ⟨A1, n1, c1, ps, rfl, hps, o1, hpl, g1⟩
  have hn1 : n1 = ps.length := by
    obtain ⟨_, _, hv, _⟩ := o1.1.form
    cases hv
    rfl
  have O1 := Lib.hid o1
  have G1 := Lib.hid g1
  have HPS := Lib.hid hps
  have N1 := Lib.hid hn1
  have HPL := Lib.hid hpl
  clear o1 g1 hps hn1 hpl
  have HP := Lib.hid (fun W1 (h1 : Env W1) => parse_any s (by have := HL.out; omega) W1 h1)
  obtain ⟨P, hP⟩ : ∃ x, x = parseR s.data.toList := ⟨_, rfl⟩
  have HPc := Lib.hid (parseR_cases s.data.toList)
  rw [← hP] at HPc HP
  clear hP
  rcases readR_law bs H0.out.2 with ⟨r2, r1⟩ | r
  · rw [r2]
    have R1 := Lib.hid r1
    clear r2 r1
    go_wp2_with fail
    refine (bytes_any W1 W1.heap.size _ ps O1.out (Nat.le_refl _) (by have := HL.out; have := M0.out; have := HPL.out; omega)).mono ?_
    rintro e W2 ⟨A2, n2, c2, rfl, o2, g2⟩
    have ho : OwnY W2 W1.heap.size (.slice A2 n2 c2) bs := by
      have e1 : bytesR (ps.map (·.1)) = (bs, 0) := by rw [← HPS.out]; exact R1.out
      rw [e1] at o2
      exact o2
    have e2 : (bytesR (ps.map (·.1))).2 = 0 := by rw [← HPS.out, R1.out]
    rw [e2]
    have O2 := Lib.hid ho
    have G2 := Lib.hid g2
    have B2 : Hid (Below w.heap.size w W2) := G1.out.trans (g2.mono G1.out.size)
    have HEq := Lib.hid (equal_any W2 W2.heap.size _ _ _ _ (O2.out.bs H0.out.2) (⟨H0.out.1.below B2.out |>.more B2.out.size, H0.out.2⟩ : Bs W2 W2.heap.size (.slice A0 m0 c0) bs))
    clear o2 g2 ho e2
    have HPp := Lib.hid (HP.out W2 (HE.out.on' B2.out))
    go_wp2_with (go_at_call 8; go_must (refine HEq.out.mono ?_); rintro e W3 ⟨rfl, rfl⟩)
    refine HPp.out.mono ?_
    rintro e W5 ⟨⟨dv, rfl, hok⟩, g5⟩
    have HOk := Lib.hid hok
    obtain ⟨A5, d5, hdv⟩ : ∃ A5 d5, dv = .slice A5 P.1.data.length d5 := by
      obtain ⟨A, c, h, _⟩ := hok.1.1.form
      exact ⟨A, c, h⟩
    obtain ⟨dl, hdl⟩ : ∃ x, x = P.1.data.length := ⟨_, rfl⟩
    rw [← hdl] at hdv
    subst hdv
    have B5 : Hid (Below w.heap.size w W5) := B2.out.trans (g5.mono B2.out.size)
    have Hdl := Lib.hid hdl
    clear g5 hok hdl
    have EOp : Hid (opVal (P.1, .slice A5 dl d5) = .agg #[.int .u8 P.1.code, .int .u64 P.1.vol, .int .u64 P.1.at_, .int .u64 P.1.n, .slice A5 dl d5]) := rfl
    rw [EOp.out]
    rcases HPc.out with ⟨p2, p1⟩ | pe
    · rw [p2]
      have P1 := Lib.hid p1
      clear p2 p1
      obtain ⟨y0, hy0⟩ : ∃ x, x = P.1.code := ⟨_, rfl⟩
      obtain ⟨y1, hy1⟩ : ∃ x, x = P.1.vol := ⟨_, rfl⟩
      obtain ⟨y2, hy2⟩ : ∃ x, x = P.1.at_ := ⟨_, rfl⟩
      obtain ⟨y3, hy3⟩ : ∃ x, x = P.1.n := ⟨_, rfl⟩
      rw [← hy0, ← hy1, ← hy2, ← hy3] at EOp ⊢
      clear hy0 hy1 hy2 hy3
      have hbA := bel1 W5 (.cells #[.int .u8 y0, .int .u64 y1, .int .u64 y2, .int .u64 y3, .slice A5 dl d5] 30)
      have B6 := Lib.hid (B5.out.trans (hbA.mono B5.out.size))
      have HT := Lib.hid (text_any (P.1, .slice A5 dl d5) _ _ ((HOk.out.on hbA).more' hbA.size) (Nat.le_refl _) (HE.out.on' B6.out))
      have es : (⟨(textR P.1).1.toArray⟩ : ByteArray) = s := by rw [P1.out]
      have et : (textR P.1).2 = 0 := by rw [P1.out]
      rw [EOp.out, es, et] at HT
      clear hbA es et
      go_wp2_with fail
      refine HT.out.mono ?_
      rintro e W7 ⟨rfl, g7⟩
      have B7 := Lib.hid (B6.out.trans (g7.mono B6.out.size))
      have HAw := Lib.hid (awake_true W7 (HE.out.on' B7.out))
      clear g7
      go_wp2_with (go_at_call 6; go_must (refine HAw.out.mono ?_); rintro e W8 ⟨rfl, g8⟩)
      go_ret
      exact ⟨rfl, B7.out.trans (g8.mono B7.out.size)⟩
    · have hdl0 : dl = 0 := by rw [Hdl.out, pe]; rfl
      have p2 : P.2 = 270 := by rw [pe]
      have z0 : P.1.code = 0 := by rw [pe]; rfl
      have z1 : P.1.vol = 0 := by rw [pe]; rfl
      have z2 : P.1.at_ = 0 := by rw [pe]; rfl
      have z3 : P.1.n = 0 := by rw [pe]; rfl
      rw [p2, z0, z1, z2, z3]
      rw [z0, z1, z2, z3] at EOp
      subst hdl0
      have hbA := bel1 W5 (.cells #[.int .u8 0, .int .u64 0, .int .u64 0, .int .u64 0, .slice A5 0 d5] 30)
      have B6 := Lib.hid (B5.out.trans (hbA.mono B5.out.size))
      have HSa := Lib.hid (same_op _ _ (P.1, .slice A5 0 d5) (op0, .slice none 0 0) ((HOk.out.on hbA).more' hbA.size) (op0_ok _ _) (Nat.le_refl _))
      have e0 : opVal (op0, .slice none 0 0) = .agg #[.int .u8 0, .int .u64 0, .int .u64 0, .int .u64 0, .slice none 0 0] := rfl
      have hd0 : decide (P.1 = op0) = true := by rw [pe]; rfl
      rw [EOp.out, e0, hd0] at HSa
      clear hbA e0 hd0 p2 z0 z1 z2 z3 pe
      go_wp2_with (first
        | (go_at_call 11; go_must (refine HSa.out.mono ?_); rintro e W7 ⟨rfl, g7⟩; have B7 := Lib.hid (B6.out.trans (g7.mono B6.out.size)); have HAw := Lib.hid (awake_true W7 (HE.out.on' B7.out)); clear g7)
        | (go_at_call 6; go_must (refine HAw.out.mono ?_); rintro e W8 ⟨rfl, g8⟩))
      go_ret
      exact ⟨rfl, B7.out.trans (g8.mono B7.out.size)⟩
  · rw [r]
    have hn0 : n1 = 0 := by
      have h1 := HPS.out
      rw [r] at h1
      rw [N1.out]
      have := congrArg List.length h1
      simpa using this.symm
    subst hn0
    have HPp := Lib.hid (HP.out W1 (HE.out.on' G1.out))
    go_wp2_with fail
    refine HPp.out.mono ?_
    rintro e W5 ⟨⟨dv, rfl, hok⟩, g5⟩
    have HOk := Lib.hid hok
    obtain ⟨A5, d5, hdv⟩ : ∃ A5 d5, dv = .slice A5 P.1.data.length d5 := by
      obtain ⟨A, c, h, _⟩ := hok.1.1.form
      exact ⟨A, c, h⟩
    obtain ⟨dl, hdl⟩ : ∃ x, x = P.1.data.length := ⟨_, rfl⟩
    rw [← hdl] at hdv
    subst hdv
    have B5 : Hid (Below w.heap.size w W5) := G1.out.trans (g5.mono G1.out.size)
    have Hdl := Lib.hid hdl
    clear g5 hok hdl
    have EOp : Hid (opVal (P.1, .slice A5 dl d5) = .agg #[.int .u8 P.1.code, .int .u64 P.1.vol, .int .u64 P.1.at_, .int .u64 P.1.n, .slice A5 dl d5]) := rfl
    rw [EOp.out]
    rcases HPc.out with ⟨p2, p1⟩ | pe
    · rw [p2]
      have P1 := Lib.hid p1
      clear p2 p1
      obtain ⟨y0, hy0⟩ : ∃ x, x = P.1.code := ⟨_, rfl⟩
      obtain ⟨y1, hy1⟩ : ∃ x, x = P.1.vol := ⟨_, rfl⟩
      obtain ⟨y2, hy2⟩ : ∃ x, x = P.1.at_ := ⟨_, rfl⟩
      obtain ⟨y3, hy3⟩ : ∃ x, x = P.1.n := ⟨_, rfl⟩
      rw [← hy0, ← hy1, ← hy2, ← hy3] at EOp ⊢
      clear hy0 hy1 hy2 hy3
      have hbA := bel1 W5 (.cells #[.int .u8 y0, .int .u64 y1, .int .u64 y2, .int .u64 y3, .slice A5 dl d5] 30)
      have B6 := Lib.hid (B5.out.trans (hbA.mono B5.out.size))
      have HT := Lib.hid (text_any (P.1, .slice A5 dl d5) _ _ ((HOk.out.on hbA).more' hbA.size) (Nat.le_refl _) (HE.out.on' B6.out))
      have es : (⟨(textR P.1).1.toArray⟩ : ByteArray) = s := by rw [P1.out]
      have et : (textR P.1).2 = 0 := by rw [P1.out]
      rw [EOp.out, es, et] at HT
      clear hbA es et
      go_wp2_with fail
      refine HT.out.mono ?_
      rintro e W7 ⟨rfl, g7⟩
      have B7 := Lib.hid (B6.out.trans (g7.mono B6.out.size))
      have HAw := Lib.hid (awake_true W7 (HE.out.on' B7.out))
      clear g7
      go_wp2_with (go_at_call 6; go_must (refine HAw.out.mono ?_); rintro e W8 ⟨rfl, g8⟩)
      go_ret
      exact ⟨rfl, B7.out.trans (g8.mono B7.out.size)⟩
    · have hdl0 : dl = 0 := by rw [Hdl.out, pe]; rfl
      have p2 : P.2 = 270 := by rw [pe]
      have z0 : P.1.code = 0 := by rw [pe]; rfl
      have z1 : P.1.vol = 0 := by rw [pe]; rfl
      have z2 : P.1.at_ = 0 := by rw [pe]; rfl
      have z3 : P.1.n = 0 := by rw [pe]; rfl
      rw [p2, z0, z1, z2, z3]
      rw [z0, z1, z2, z3] at EOp
      subst hdl0
      have hbA := bel1 W5 (.cells #[.int .u8 0, .int .u64 0, .int .u64 0, .int .u64 0, .slice A5 0 d5] 30)
      have B6 := Lib.hid (B5.out.trans (hbA.mono B5.out.size))
      have HSa := Lib.hid (same_op _ _ (P.1, .slice A5 0 d5) (op0, .slice none 0 0) ((HOk.out.on hbA).more' hbA.size) (op0_ok _ _) (Nat.le_refl _))
      have e0 : opVal (op0, .slice none 0 0) = .agg #[.int .u8 0, .int .u64 0, .int .u64 0, .int .u64 0, .slice none 0 0] := rfl
      have hd0 : decide (P.1 = op0) = true := by rw [pe]; rfl
      rw [EOp.out, e0, hd0] at HSa
      clear hbA e0 hd0 p2 z0 z1 z2 z3 pe
      go_wp2_with (first
        | (go_at_call 11; go_must (refine HSa.out.mono ?_); rintro e W7 ⟨rfl, g7⟩; have B7 := Lib.hid (B6.out.trans (g7.mono B6.out.size)); have HAw := Lib.hid (awake_true W7 (HE.out.on' B7.out)); clear g7)
        | (go_at_call 6; go_must (refine HAw.out.mono ?_); rintro e W8 ⟨rfl, g8⟩))
      go_ret
      exact ⟨rfl, B7.out.trans (g8.mono B7.out.size)⟩
end Go.Proofs.YtnebbmgfkhncpaaDoor
