/- Proofs for this claim: printed by our driver and joined by pack.py; the last text holds the statement. -/
import Derived.Test.YtbpbfboaofkpaaaDoorQcQ2
section
namespace Go.Proofs.YtbpbfboaofkpaaaDoor.Print
open Go.RowKit Go.Proofs.YtbpbfboaofkpaaaDoorW.PrintWords Go.Proofs.YtbpbfboaofkpaaaDoorW.PrintLast Go.Proofs.YtbpbfboaofkpaaaDoorW.PrintMore
attribute [local go_sem] max2_int min2_int max_two min_two max_three min_three max_four min_four
set_option linter.unusedVariables false
set_option linter.unusedSimpArgs false
set_option maxHeartbeats 8000000 in
set_option maxRecDepth 100000 in
theorem Yi.step (k : Nat) (ih : ∀ j_ < k, Yq.Spec j_ ∧ Yz.Spec j_ ∧ Yi.Spec j_ ∧ YH.Spec j_ ∧ YN.Spec j_) : ∀ (g : Nat) (s0_0 : ByteArray) (s0_1 : Int) (s0_2 : Int) (s0_3 : Int) (a1 : Int) (r1 : Int) (r2 : ByteArray) (r3 : List ByteArray) (r4 : List (S37)) (r5 : ByteArray) (r6 : Int) (r7 : Int) (r8 : Int) (w0 w : World) (hI : Yw w0 w g s0_0 s0_1 s0_2 s0_3) (hB : Below w0.heap.size w0 w) (hT : Tabs w0) (h : Yi.f k s0_0 s0_1 s0_2 s0_3 a1 = some (r1, r2, r3, r4, r5, r6, r7, r8)),
  Calls Tryd.prog 112 #[.pointer (some ⟨g, 0, none⟩), .int .i64 a1] w fun e w' => ∃ v2_ v3_ : Value, e = .returned (.agg #[.int .i64 r1, .string r2, v2_, v3_]) ∧ Kd.R Kd.string 9 w' w.heap.size (fun k_ => (w.heap.size ≤ k_)) v2_ r3 ∧ Kd.N k37 37 w' w.heap.size (fun k_ => (w.heap.size ≤ k_) ∧ some k_ ≠ (v2_ : Value).ownBlock) v3_ r4 ∧ Yw w0 w' g r5 r6 r7 r8 ∧ Below w0.heap.size w0 w' ∧ Y1 w w' g none := by
 intro g s0_0 s0_1 s0_2 s0_3 a1 r1 r2 r3 r4 r5 r6 r7 r8 w0 w hI hB hT h
 cases k with
 | zero => exact absurd h (by simp [Yi.f])
 | succ k =>
 simp only [Yi.f] at h
 have HT := Y0.mk hT
 clear hT
 have hu37 := Tryd.underlying37
 have HI0 := Y0.mk hI
 have HK := Y0.mk (Y1.refl w g none)
 have HL := Y0.mk hB.size
 clear hI
 have HW0 := Y0.mk hB.size
 have HB := Y0.mk hB
 clear hB
 have H : ((YH.f k s0_0 s0_1 s0_2 s0_3 a1).bind fun bt170 => (Yi.l0 k bt170.2.2.2.2.1 bt170.2.2.2.2.2.1 bt170.2.2.2.2.2.2.1 bt170.2.2.2.2.2.2.2 bt170.1 bt170.2.1 bt170.2.2.1 bt170.2.2.2.1)) = some (r1, r2, r3, r4, r5, r6, r7, r8) := h
 clear h
 replace H := Option.bind_eq_some_iff.mp H
 obtain ⟨⟨t170, t171, t172, t175, t178, t179, t180, t181⟩, A30, H⟩ := H
 replace H : (Yi.l0 k t178 t179 t180 t181 t170 t171 t172 t175) = some (r1, r2, r3, r4, r5, r6, r7, r8) := H
 have A3 := Y0.mk A30
 clear A30
 have H' := Y0.mk H
 clear H
 go_enter Tryd.func112, Tryd.ntmps112
 go_wp2_with (first | ((with_reducible refine YF (N := 4) rfl ?_); refine YD ?hg (N := 4) ?hd (cs := #[.int .i64 0, .string (⟨#[]⟩ : ByteArray), .slice none 0 0, .slice none 0 0]) (t := 37) ?hr ?_; (case hd => rfl); (case hg => rfl); (case hr => exact Zb); intro gb169 hg w4 hbox hb; have n_ := Y4q (Yw.below QI75_0 hb) (Y1.trans QK (Y1.of_below hb g none) (.inl rfl)) (Y8 QB hb) (hbox) ((by rw [hg]; exact (Y7 (w := w) (g := g) (row := none) QK) : w.heap.size ≤ gb169)) ((Nat.le_trans HW0.out (by rw [hg]; exact (Y7 (w := w) (g := g) (row := none) QK) : w.heap.size ≤ gb169) : w0.heap.size ≤ gb169)) ((by rw [hg]; exact Nat.ne_of_lt (Yw.lt (show Yw w0 _ g s0_0 s0_1 s0_2 s0_3 from QI75_0)) : g ≠ gb169)) ((by rw [hg]; exact Nat.ne_of_gt (Yw.lt (show Yw w0 _ g s0_0 s0_1 s0_2 s0_3 from QI75_0)) : gb169 ≠ g)); clear HI0 HK HB; obtain ⟨HI0, HK, HB, BK169, GW169, GE169, NB0_169, NB169_0⟩ := n_; clear hb hbox hg) | ((with_reducible refine Yl (f := 123) rfl ?_); refine YO (some 9) rfl rfl Tryd.func123 Z4 rfl #[.pointer (some ⟨g, 0, none⟩), .int .i64 a1] rfl Z0 ?_; (with_reducible refine ((ih k (by omega)).2.2.2.1 g s0_0 s0_1 s0_2 s0_3 a1 t170 t171 t172 t175 t178 t179 t180 t181 w0 _ ?side1 ?side2 ?side3 A3.out).mono ?_); (case side1 => exact Z1k); (case side2 => exact QB); (case side3 => exact Z22); rintro e w5 ⟨v173, v176, rfl, ho0, ho1, hi, hb, hk⟩; refine ⟨_, rfl, ?_⟩; have n0_ := Y0.mk (Y1.blk hk (g' := gb169) (o := .cells #[.int .i64 0, .string (⟨#[]⟩ : ByteArray), .slice none 0 0, .slice none 0 0] 37 (0, 0)) QQ NB169_0.out (by simp)); have n1_ := Y0.mk (Kd.R_lower (Kd.R_newM (M := fun k_ => (w.heap.size ≤ k_)) (Kd.R_mono (ok' := fun k_ => True) ho0 (fun _ hk_ => trivial)) (Y7 (w := w) (g := g) (row := none) QK) (fun k_ h_ => h_)) (Y7 (w := w) (g := g) (row := none) QK)); have n2_ := Y0.mk (Kd.N_lower (Kd.N_mono (ok' := fun k_ => (w.heap.size ≤ k_) ∧ some k_ ≠ (v173 : Value).ownBlock ∧ k_ ≠ gb169 ∧ k_ ≠ g) ho1 (fun k_ hk_ => ⟨(Nat.le_trans (Y7 (w := w) (g := g) (row := none) QK) hk_.1), hk_.2, (Kd.freshB (g := gb169) (o := .cells #[.int .i64 0, .string (⟨#[]⟩ : ByteArray), .slice none 0 0, .slice none 0 0] 37 (0, 0)) QQ k_ hk_.1), (Yw.fresh QI75_0 k_ hk_.1)⟩)) (Y7 (w := w) (g := g) (row := none) QK)); have n3_ := Y0.mk (Y1.trans QK hk (.inl rfl)); have n4_ := Y0.mk (hb); have n5_ := Y0.mk (hi); clear BK169 HK HB HI0; have BK169 := n0_; have HO174 := n1_; have HO177 := n2_; have HK := n3_; have HB := n4_; have HI0 := n5_; clear n0_ n1_ n2_ n3_ n4_ n5_; (try clear hb); (try clear hb2); (try clear hk); (try clear hi); (try clear ho0); (try clear ho1)) | ((with_reducible refine YF (N := 5) rfl ?_); refine YD ?hg (N := 5) ?hd (cs := #[.int .i64 0, .string (⟨#[]⟩ : ByteArray), .slice none 0 0, .slice none 0 0]) (t := 37) ?hr ?_; (case hd => rfl); (case hg => rfl); (case hr => exact Zb); intro gb182 hg w6 hbox hb; have n0_ := Y0.mk (Kd.R_below Z1o hb); have n1_ := Y0.mk (Kd.N_below (Kd.N_elderB Z1m gb182 (Nat.le_of_eq hg.symm)) hb); have n2_ := Y0.mk (Yw.below QI75_0 hb); have n3_ := Y0.mk (Yt (g := gb169) (o := .cells #[.int .i64 0, .string (⟨#[]⟩ : ByteArray), .slice none 0 0, .slice none 0 0] 37 (0, 0)) QQ hb); have n4_ := Y0.mk (Y1.trans QK (Y1.of_below hb g none) (.inl rfl)); have n5_ := Y0.mk (Y8 QB hb); have n6_ := Y0.mk (hbox); have n7_ := Y0.mk ((by rw [hg]; exact (Y7 (w := w) (g := g) (row := none) QK) : w.heap.size ≤ gb182)); have n8_ := Y0.mk ((Nat.le_trans HW0.out (by rw [hg]; exact (Y7 (w := w) (g := g) (row := none) QK) : w.heap.size ≤ gb182) : w0.heap.size ≤ gb182)); have n9_ := Y0.mk ((by rw [hg]; exact Nat.ne_of_lt (Y14 (g := gb169) (o := .cells #[.int .i64 0, .string (⟨#[]⟩ : ByteArray), .slice none 0 0, .slice none 0 0] 37 (0, 0)) QQ) : gb169 ≠ gb182)); have n10_ := Y0.mk ((by rw [hg]; exact Nat.ne_of_gt (Y14 (g := gb169) (o := .cells #[.int .i64 0, .string (⟨#[]⟩ : ByteArray), .slice none 0 0, .slice none 0 0] 37 (0, 0)) QQ) : gb182 ≠ gb169)); have n11_ := Y0.mk ((by rw [hg]; exact Nat.ne_of_lt (Yw.lt (show Yw w0 _ g t178 t179 t180 t181 from QI75_0)) : g ≠ gb182)); have n12_ := Y0.mk ((by rw [hg]; exact Nat.ne_of_gt (Yw.lt (show Yw w0 _ g t178 t179 t180 t181 from QI75_0)) : gb182 ≠ g)); clear HO174 HO177 HI0 BK169 HK HB; have HO174 := n0_; have HO177 := n1_; have HI0 := n2_; have BK169 := n3_; have HK := n4_; have HB := n5_; have BK182 := n6_; have GW182 := n7_; have GE182 := n8_; have NB169_182 := n9_; have NB182_169 := n10_; have NB0_182 := n11_; have NB182_0 := n12_; clear n0_ n1_ n2_ n3_ n4_ n5_ n6_ n7_ n8_ n9_ n10_ n11_ n12_ hb hbox hg; have hnb7 := NB182_169.out; have hnc7 := NB169_182.out; have hnb8 := NB182_0.out; have hnc8 := NB0_182.out; obtain ⟨hcz9_0, hcz9_1, hcz9_2, hcz9_3, hfz9_0, hfz9_1, hfz9_2, hfz9_3⟩ := YA BK182.out; obtain ⟨Ao10, co10, eo10⟩ := Kd.R_slice HO174.out; subst eo10; obtain ⟨Ao11, co11, eo11⟩ := Kd.N_slice HO177.out; subst eo11))
 go_step3
 go_wp2_with (first | ((with_reducible refine YF (N := 4) rfl ?_); refine YD ?hg (N := 4) ?hd (cs := #[.int .i64 0, .string (⟨#[]⟩ : ByteArray), .slice none 0 0, .slice none 0 0]) (t := 37) ?hr ?_; (case hd => rfl); (case hg => rfl); (case hr => exact Zb); intro gb169 hg w4 hbox hb; have n_ := Y4q (Yw.below QI75_0 hb) (Y1.trans QK (Y1.of_below hb g none) (.inl rfl)) (Y8 QB hb) (hbox) ((by rw [hg]; exact (Y7 (w := w) (g := g) (row := none) QK) : w.heap.size ≤ gb169)) ((Nat.le_trans HW0.out (by rw [hg]; exact (Y7 (w := w) (g := g) (row := none) QK) : w.heap.size ≤ gb169) : w0.heap.size ≤ gb169)) ((by rw [hg]; exact Nat.ne_of_lt (Yw.lt (show Yw w0 _ g s0_0 s0_1 s0_2 s0_3 from QI75_0)) : g ≠ gb169)) ((by rw [hg]; exact Nat.ne_of_gt (Yw.lt (show Yw w0 _ g s0_0 s0_1 s0_2 s0_3 from QI75_0)) : gb169 ≠ g)); clear HI0 HK HB; obtain ⟨HI0, HK, HB, BK169, GW169, GE169, NB0_169, NB169_0⟩ := n_; clear hb hbox hg) | ((with_reducible refine Yl (f := 123) rfl ?_); refine YO (some 9) rfl rfl Tryd.func123 Z4 rfl #[.pointer (some ⟨g, 0, none⟩), .int .i64 a1] rfl Z0 ?_; (with_reducible refine ((ih k (by omega)).2.2.2.1 g s0_0 s0_1 s0_2 s0_3 a1 t170 t171 t172 t175 t178 t179 t180 t181 w0 _ ?side1 ?side2 ?side3 A3.out).mono ?_); (case side1 => exact Z1k); (case side2 => exact QB); (case side3 => exact Z22); rintro e w5 ⟨v173, v176, rfl, ho0, ho1, hi, hb, hk⟩; refine ⟨_, rfl, ?_⟩; have n0_ := Y0.mk (Y1.blk hk (g' := gb169) (o := .cells #[.int .i64 0, .string (⟨#[]⟩ : ByteArray), .slice none 0 0, .slice none 0 0] 37 (0, 0)) QQ NB169_0.out (by simp)); have n1_ := Y0.mk (Kd.R_lower (Kd.R_newM (M := fun k_ => (w.heap.size ≤ k_)) (Kd.R_mono (ok' := fun k_ => True) ho0 (fun _ hk_ => trivial)) (Y7 (w := w) (g := g) (row := none) QK) (fun k_ h_ => h_)) (Y7 (w := w) (g := g) (row := none) QK)); have n2_ := Y0.mk (Kd.N_lower (Kd.N_mono (ok' := fun k_ => (w.heap.size ≤ k_) ∧ some k_ ≠ (v173 : Value).ownBlock ∧ k_ ≠ gb169 ∧ k_ ≠ g) ho1 (fun k_ hk_ => ⟨(Nat.le_trans (Y7 (w := w) (g := g) (row := none) QK) hk_.1), hk_.2, (Kd.freshB (g := gb169) (o := .cells #[.int .i64 0, .string (⟨#[]⟩ : ByteArray), .slice none 0 0, .slice none 0 0] 37 (0, 0)) QQ k_ hk_.1), (Yw.fresh QI75_0 k_ hk_.1)⟩)) (Y7 (w := w) (g := g) (row := none) QK)); have n3_ := Y0.mk (Y1.trans QK hk (.inl rfl)); have n4_ := Y0.mk (hb); have n5_ := Y0.mk (hi); clear BK169 HK HB HI0; have BK169 := n0_; have HO174 := n1_; have HO177 := n2_; have HK := n3_; have HB := n4_; have HI0 := n5_; clear n0_ n1_ n2_ n3_ n4_ n5_; (try clear hb); (try clear hb2); (try clear hk); (try clear hi); (try clear ho0); (try clear ho1)) | ((with_reducible refine YF (N := 5) rfl ?_); refine YD ?hg (N := 5) ?hd (cs := #[.int .i64 0, .string (⟨#[]⟩ : ByteArray), .slice none 0 0, .slice none 0 0]) (t := 37) ?hr ?_; (case hd => rfl); (case hg => rfl); (case hr => exact Zb); intro gb182 hg w6 hbox hb; have n0_ := Y0.mk (Kd.R_below Z1o hb); have n1_ := Y0.mk (Kd.N_below (Kd.N_elderB Z1m gb182 (Nat.le_of_eq hg.symm)) hb); have n2_ := Y0.mk (Yw.below QI75_0 hb); have n3_ := Y0.mk (Yt (g := gb169) (o := .cells #[.int .i64 0, .string (⟨#[]⟩ : ByteArray), .slice none 0 0, .slice none 0 0] 37 (0, 0)) QQ hb); have n4_ := Y0.mk (Y1.trans QK (Y1.of_below hb g none) (.inl rfl)); have n5_ := Y0.mk (Y8 QB hb); have n6_ := Y0.mk (hbox); have n7_ := Y0.mk ((by rw [hg]; exact (Y7 (w := w) (g := g) (row := none) QK) : w.heap.size ≤ gb182)); have n8_ := Y0.mk ((Nat.le_trans HW0.out (by rw [hg]; exact (Y7 (w := w) (g := g) (row := none) QK) : w.heap.size ≤ gb182) : w0.heap.size ≤ gb182)); have n9_ := Y0.mk ((by rw [hg]; exact Nat.ne_of_lt (Y14 (g := gb169) (o := .cells #[.int .i64 0, .string (⟨#[]⟩ : ByteArray), .slice none 0 0, .slice none 0 0] 37 (0, 0)) QQ) : gb169 ≠ gb182)); have n10_ := Y0.mk ((by rw [hg]; exact Nat.ne_of_gt (Y14 (g := gb169) (o := .cells #[.int .i64 0, .string (⟨#[]⟩ : ByteArray), .slice none 0 0, .slice none 0 0] 37 (0, 0)) QQ) : gb182 ≠ gb169)); have n11_ := Y0.mk ((by rw [hg]; exact Nat.ne_of_lt (Yw.lt (show Yw w0 _ g t178 t179 t180 t181 from QI75_0)) : g ≠ gb182)); have n12_ := Y0.mk ((by rw [hg]; exact Nat.ne_of_gt (Yw.lt (show Yw w0 _ g t178 t179 t180 t181 from QI75_0)) : gb182 ≠ g)); clear HO174 HO177 HI0 BK169 HK HB; have HO174 := n0_; have HO177 := n1_; have HI0 := n2_; have BK169 := n3_; have HK := n4_; have HB := n5_; have BK182 := n6_; have GW182 := n7_; have GE182 := n8_; have NB169_182 := n9_; have NB182_169 := n10_; have NB0_182 := n11_; have NB182_0 := n12_; clear n0_ n1_ n2_ n3_ n4_ n5_ n6_ n7_ n8_ n9_ n10_ n11_ n12_ hb hbox hg; have hnb7 := NB182_169.out; have hnc7 := NB169_182.out; have hnb8 := NB182_0.out; have hnc8 := NB0_182.out; obtain ⟨hcz9_0, hcz9_1, hcz9_2, hcz9_3, hfz9_0, hfz9_1, hfz9_2, hfz9_3⟩ := YA BK182.out; obtain ⟨Ao10, co10, eo10⟩ := Kd.R_slice HO174.out; subst eo10; obtain ⟨Ao11, co11, eo11⟩ := Kd.N_slice HO177.out; subst eo11))
 (try go_wp2)
 (try go_step3)
 (try go_wp2)
 go_loopg [] k (fun kq w' => ∃ (x1000_1 : ByteArray) (x1001_1 : Int) (x1002_1 : Int) (x1003_1 : Int) (x183000_1 : Int) (x183001_1 : ByteArray) (x183002_1 : List ByteArray) (x183003_1 : List (S37)) (u183002 : Value) (u183003 : Value), Y0 (Yi.l0 kq x1000_1 x1001_1 x1002_1 x1003_1 x183000_1 x183001_1 x183002_1 x183003_1 = some (r1, r2, r3, r4, r5, r6, r7, r8)) ∧ Y0 (kq ≤ k) ∧ Y0 (Kd.R Kd.string 9 w' w.heap.size (fun k_ => (w.heap.size ≤ k_)) u183002 x183002_1) ∧ Y0 (Kd.N k37 37 w' w.heap.size (fun k_ => (w.heap.size ≤ k_) ∧ some k_ ≠ (u183002 : Value).ownBlock ∧ k_ ≠ gb169 ∧ k_ ≠ gb182 ∧ k_ ≠ g) u183003 x183003_1) ∧ Y0 (w'.heap[gb169]? = some (.cells #[.int .i64 0, .string (⟨#[]⟩ : ByteArray), (.slice none 0 0), (.slice none 0 0)] 37 (0, 0))) ∧ Y0 (w'.heap[gb182]? = some (.cells #[.int .i64 x183000_1, .string x183001_1, u183002, u183003] 37 (0, 0))) ∧ Y0 (Yw w0 w' g x1000_1 x1001_1 x1002_1 x1003_1) ∧ Y0 (Y1 w w' g none) ∧ Y0 (Below w0.heap.size w0 w'))
 case atStart => exact ⟨(t178), (t179), (t180), (t181), (t170), (t171), (t172), (t175), (.slice Ao10 t172.length co10), (.slice Ao11 t175.length co11), H', ⟨Nat.le_refl _⟩, ⟨Z19⟩, ⟨ZM⟩, ⟨Z9⟩, ⟨Z2n⟩, ⟨QI75_0⟩, ⟨QK⟩, ⟨QB⟩⟩
 case round =>
  clear H'
  try clear c1
  try clear p2
  try clear c7
  try clear c8
  try clear c11
  try clear hcz9_0 hcz9_1 hcz9_2 hcz9_3 hfz9_0 hfz9_1 hfz9_2 hfz9_3
  obtain ⟨x1000_1, x1001_1, x1002_1, x1003_1, x183000_1, x183001_1, x183002_1, x183003_1, u183002, u183003, HA, HK1, HO_183002, HO_183003, BK169, BK182, HI0, HK, HB⟩ := hrel
  cases gk with
  | zero => exact absurd HA.out (by simp [Yi.l0])
  | succ k1 =>
   have H := HA.out
   clear HA
   simp only [Yi.l0] at H
   replace H := Option.bind_eq_some_iff.mp H
   obtain ⟨⟨t183, t184, t185, t186, t187⟩, A120, H⟩ := H
   replace H : (if t183 = 42 then (Yi.j1 k1 5 t184 (wrap64 (t185 + 1)) t186 t187 x183000_1 x183001_1 x183002_1 x183003_1) else (if t183 = 43 then (Yi.j2 k1 6 t184 (wrap64 (t185 + 1)) t186 t187 x183000_1 x183001_1 x183002_1 x183003_1) else (if t183 = 63 then (Yi.j3 k1 7 t184 (wrap64 (t185 + 1)) t186 t187 x183000_1 x183001_1 x183002_1 x183003_1) else (some (x183000_1, x183001_1, x183002_1, x183003_1, t184, t185, t186, t187))))) = some (r1, r2, r3, r4, r5, r6, r7, r8) := H
   have A12 := Y0.mk A120
   clear A120
   by_cases c13 : t183 = 42
   ·rw [if_pos c13] at H
    have c13b0 : (t183 == 42) = true := beq_iff_eq.mpr c13
    have c13b1 : (t183 != 42) = false := bne_eq_false_iff_eq.mpr c13
    clear c13
    have HC14 := Y0.mk H
    clear H
    go_upto_region 10 with (first | ((with_reducible refine Yl (f := 53) rfl ?_); refine YO (some 11) rfl rfl Tryd.func53 Z4 rfl #[.pointer (some ⟨g, 0, none⟩)] rfl Z0 ?_; (with_reducible refine (Ym.calls k1 g x1000_1 x1001_1 x1002_1 x1003_1 t183 t184 t185 t186 t187 w0 _ ?side1 ?side2 A12.out).mono ?_); (case side1 => exact Z1k); (case side2 => exact QB); rintro e w15 ⟨rfl, hi, hb, hk⟩; refine ⟨_, rfl, ?_⟩; have n0_ := Y0.mk (Kd.R_mono (Kd.R_keep (Yw.apart (show Yw w0 _ g x1000_1 x1001_1 x1002_1 x1003_1 from QI75_0) Zm (by decide)) hk (fun _ h => h.2)) (fun _ h => h.1)); have n1_ := Y0.mk (Kd.N_mono (Kd.N_keep (Kd.N_mono (ok := fun k_ => (((w.heap.size ≤ k_)) ∧ (some k_ ≠ (u183002 : Value).ownBlock ∧ (k_ ≠ gb169 ∧ (k_ ≠ gb182 ∧ k_ ≠ g))))) Zl (fun k_ hk_ => (⟨hk_, hk_.2.2.2.2⟩ : _ ∧ k_ ≠ g))) hk (fun _ h => h.2)) (fun _ h => h.1)); have n2_ := Y0.mk (Y1.blk hk (g' := gb169) (o := .cells #[.int .i64 0, .string (⟨#[]⟩ : ByteArray), .slice none 0 0, .slice none 0 0] 37 (0, 0)) QQ NB169_0.out (by simp)); have n3_ := Y0.mk (Y1.blk hk (g' := gb182) (o := .cells #[.int .i64 x183000_1, .string x183001_1, u183002, u183003] 37 (0, 0)) QQ NB182_0.out (by simp)); have n4_ := Y0.mk (Y1.trans QK hk (.inl rfl)); have n5_ := Y0.mk (hb); have n6_ := Y0.mk (hi); clear HO_183002 HO_183003 BK169 BK182 HK HB HI0; have HO_183002 := n0_; have HO_183003 := n1_; have BK169 := n2_; have BK182 := n3_; have HK := n4_; have HB := n5_; have HI0 := n6_; clear n0_ n1_ n2_ n3_ n4_ n5_ n6_; (try clear hb); (try clear hb2); (try clear hk); (try clear hi)))
    (try simp only [Act.put, List.setIfInBounds_toArray, List.set_cons_zero, List.set_cons_succ])
    go_cut [] (fun wc => ∃ (kq : Nat) (x1001_13 : Int), Y0 (Yi.j1 kq 5 t184 x1001_13 t186 t187 x183000_1 x183001_1 x183002_1 x183003_1 = some (r1, r2, r3, r4, r5, r6, r7, r8)) ∧ Y0 (kq ≤ k1) ∧ Y0 (Kd.R Kd.string 9 wc w.heap.size (fun k_ => (w.heap.size ≤ k_)) u183002 x183002_1) ∧ Y0 (Kd.N k37 37 wc w.heap.size (fun k_ => (w.heap.size ≤ k_) ∧ some k_ ≠ (u183002 : Value).ownBlock ∧ k_ ≠ gb169 ∧ k_ ≠ gb182 ∧ k_ ≠ g) u183003 x183003_1) ∧ Y0 (wc.heap[gb169]? = some (.cells #[.int .i64 0, .string (⟨#[]⟩ : ByteArray), (.slice none 0 0), (.slice none 0 0)] 37 (0, 0))) ∧ Y0 (wc.heap[gb182]? = some (.cells #[.int .i64 x183000_1, .string x183001_1, u183002, u183003] 37 (0, 0))) ∧ Y0 (Yw w0 wc g t184 x1001_13 t186 t187) ∧ Y0 (Y1 w wc g none) ∧ Y0 (Below w0.heap.size w0 wc))
    case first =>
     have H := HC14.out
     clear HC14
     have H' := Y0.mk H
     clear H
     obtain ⟨hcz16_0, hcz16_1, hcz16_2, hcz16_3, hfz16_0, hfz16_1, hfz16_2, hfz16_3⟩ := YA HI0.out.1
     go_wp2
     go_meet
     case rel => exact Ze
    case rest =>
     clear HC14
     try clear c1
     try clear p2
     try clear c5
     try clear p6
     try clear c7
     try clear c8
     try clear c11
     try clear c12
     try clear c13
     try clear c13b0
     try clear c13b1
     try clear hcz16_0 hcz16_1 hcz16_2 hcz16_3
     try clear hcz9_0 hcz9_1 hcz9_2 hcz9_3
     try clear hfz16_0
     try clear hfz16_1
     try clear hfz16_2
     try clear hfz16_3
     try clear hfz9_0
     try clear hfz9_1
     try clear hfz9_2
     try clear hfz9_3
     try clear p2
     obtain ⟨kq, x1001_13, HA, HJ13, HO_183002, HO_183003, BK169, BK182, HI0, HK, HB⟩ := hcut
     cases kq with
     | zero => exact absurd HA.out (by simp [Yi.j1])
     | succ kj13 =>
      have H := HA.out
      clear HA
      simp only [Yi.j1] at H
      obtain ⟨y188, hy188⟩ : ∃ y_ : List (S37), y_ = (([(⟨x183000_1, x183001_1, x183002_1, x183003_1⟩ : S37)] : List (S37))) := ⟨_, rfl⟩
      replace H : (Yi.l0 kj13 t184 x1001_13 t186 t187 5 (⟨#[]⟩ : ByteArray) ([] : List ByteArray) y188) = some (r1, r2, r3, r4, r5, r6, r7, r8) := by first | (rw [hy188]; with_reducible exact H) | (have H2_ := (Option.bind_some _ _).symm.trans H; rw [hy188]; with_reducible exact H2_) | (have H2_ := (Option.bind_some _ _).symm.trans H; with_reducible exact H2_) | with_reducible exact H | (rw [hy188]; exact H) | exact H
      have Ny188 := Y0.mk hy188
      clear hy188
      have H' := Y0.mk H
      clear H
      have hnb17 := NB182_169.out
      have hnc17 := NB169_182.out
      have hnb18 := NB182_0.out
      have hnc18 := NB0_182.out
      obtain ⟨hcz19_0, hcz19_1, hcz19_2, hcz19_3, hfz19_0, hfz19_1, hfz19_2, hfz19_3⟩ := YA BK182.out
      obtain ⟨Ao20, co20, eo20⟩ := Kd.R_slice HO_183002.out
      subst eo20
      obtain ⟨Ao21, co21, eo21⟩ := Kd.N_slice HO_183003.out
      subst eo21
      go_wp2_with (first | ((with_reducible refine YF (N := 27) rfl ?_); refine Kd.N_lit k37 _ 37 ?hg (N' := 27) ?hd (xs := ([(⟨x183000_1, x183001_1, x183002_1, x183003_1⟩ : S37)] : List (S37))) (inner := [.int .i64 x183000_1, .string x183001_1, .slice Ao20 x183002_1.length co20, .slice Ao21 x183003_1.length co21]) (ok := (fun k_ => (w.heap.size ≤ k_) ∧ k_ ≠ gb169 ∧ k_ ≠ gb182 ∧ k_ ≠ g)) (okp := (fun k_ => (w.heap.size ≤ k_) ∧ k_ ≠ gb169 ∧ k_ ≠ gb182 ∧ k_ ≠ g)) ?hr ?hp (fun _ hk => hk) ((show ∀ k_, wc.heap.size ≤ k_ → (fun k_ => (w.heap.size ≤ k_) ∧ k_ ≠ gb169 ∧ k_ ≠ gb182 ∧ k_ ≠ g) k_ from fun k_ hk => ⟨(Nat.le_trans (Y7 (w := w) (g := g) (row := none) QK) hk), Kd.freshB (g := gb169) (o := .cells #[.int .i64 0, .string (⟨#[]⟩ : ByteArray), .slice none 0 0, .slice none 0 0] 37 (0, 0)) QQ k_ hk, Kd.freshB (g := gb182) (o := .cells #[.int .i64 x183000_1, .string x183001_1, .slice Ao20 x183002_1.length co20, .slice Ao21 x183003_1.length co21] 37 (0, 0)) QQ k_ hk, Yw.fresh QI75_0 k_ hk⟩) _ (Nat.le_refl _)) (Below.refl _ _) (Nat.le_refl _) (by simp) ?_; (case hd => rfl); (case hg => rfl); (case hr => exact Zb); (case hp => exact (Y1F.c4 (show Kd.FK k37 _ _ (⟨x183000_1, x183001_1, x183002_1, x183003_1⟩ : S37) [.int .i64 x183000_1, .string x183001_1, .slice Ao20 x183002_1.length co20, .slice Ao21 x183003_1.length co21] from (Y2g _ _ (⟨x183000_1, x183001_1, x183002_1, x183003_1⟩ : S37) (Kd.R_reads' (Kd.R_mono (ok' := (fun k_ => (w.heap.size ≤ k_) ∧ k_ ≠ gb169 ∧ k_ ≠ gb182 ∧ k_ ≠ g)) (Yw.apart HI0.out (Kd.R_types (Kd.R_types (HO_183002.out) BK169.out (by decide)) BK182.out (by decide)) (by decide)) (fun k_ hk => ⟨hk.1.1.1, ⟨hk.1.1.2, ⟨hk.1.2, hk.2⟩⟩⟩))).2.1 (Kd.R_F (Kd.R_mono (ok' := (fun k_ => (w.heap.size ≤ k_) ∧ k_ ≠ gb169 ∧ k_ ≠ gb182 ∧ k_ ≠ g)) (Yw.apart HI0.out (Kd.R_types (Kd.R_types (HO_183002.out) BK169.out (by decide)) BK182.out (by decide)) (by decide)) (fun k_ hk => ⟨hk.1.1.1, ⟨hk.1.1.2, ⟨hk.1.2, hk.2⟩⟩⟩))) (Kd.N_reads' (Kd.N_mono (ok' := (fun k_ => (w.heap.size ≤ k_) ∧ k_ ≠ gb169 ∧ k_ ≠ gb182 ∧ k_ ≠ g)) (HO_183003.out) (fun k_ hk => ⟨hk.1, ⟨hk.2.2.1, ⟨hk.2.2.2.1, hk.2.2.2.2⟩⟩⟩))).2.1 (Kd.N_F (Kd.N_mono (ok' := (fun k_ => (w.heap.size ≤ k_) ∧ k_ ≠ gb169 ∧ k_ ≠ gb182 ∧ k_ ≠ g)) (HO_183003.out) (fun k_ hk => ⟨hk.1, ⟨hk.2.2.1, ⟨hk.2.2.2.1, hk.2.2.2.2⟩⟩⟩))))) (Y1F.none _ _))); intro v189 w22 ho23 hb hg_ hnew_; clear hg_ hnew_; (first | rw [← Ny188.out] at ho23 | (simp only [Int.reduceToNat] at ho23; rw [← Ny188.out] at ho23)); have n_ := Y3t (Kd.N_lower ho23 (Y7 (w := w) (g := g) (row := none) QK)) (Yt (g := gb169) (o := .cells #[.int .i64 0, .string (⟨#[]⟩ : ByteArray), .slice none 0 0, .slice none 0 0] 37 (0, 0)) QQ hb) (Yt (g := gb182) (o := .cells #[.int .i64 x183000_1, .string x183001_1, .slice Ao20 x183002_1.length co20, .slice Ao21 x183003_1.length co21] 37 (0, 0)) QQ hb) (Yw.below QI75_0 hb) (Y1.trans QK (Y1.of_below hb g none) (.inl rfl)) (Y8 QB hb); clear BK169 BK182 HI0 HK HB HO_183002 HO_183003; obtain ⟨HO190, BK169, BK182, HI0, HK, HB⟩ := n_; clear hb ho23; obtain ⟨Ao24, co24, eo24⟩ := Kd.N_slice HO190.out; subst eo24; obtain ⟨hcz25_0, hcz25_1, hcz25_2, hcz25_3, hfz25_0, hfz25_1, hfz25_2, hfz25_3⟩ := YA BK182.out))
      go_roundg kj13
      case measure => have := HK1.out; have := HJ13.out; omega
      case rel => exact ⟨(t184), (x1001_13), (t186), (t187), (5), ((⟨#[]⟩ : ByteArray)), (([] : List ByteArray)), (y188), (.slice none 0 0), (.slice Ao24 y188.length co24), H', ⟨by have := HK1.out; have := HJ13.out; omega⟩, ⟨Z5⟩, ⟨by (with_reducible repeat (first | apply Kd.N_alloc | apply Kd.N_drewN | apply Kd.N_drew)); exact Kd.N_mono (Kd.N_far (p := ⟨gb182, 3, none⟩) (Kd.N_far (p := ⟨gb182, 2, none⟩) (Kd.N_far (p := ⟨gb182, 1, none⟩) (Kd.N_far (p := ⟨gb182, 0, none⟩) (Kd.N_mono HO190.out (fun k_ hk => (⟨hk, hk.2.2.1⟩ : _ ∧ k_ ≠ gb182))) (fun _ hk => hk.2) (.int .i64 5)) (fun _ hk => hk.2) (.string (⟨#[]⟩ : ByteArray))) (fun _ hk => hk.2) (.slice none 0 0)) (fun _ hk => hk.2) (.slice Ao24 y188.length co24)) (fun _ hk => ⟨hk.1.1, ⟨Z2p, ⟨hk.1.2.1, ⟨hk.1.2.2.1, hk.1.2.2.2⟩⟩⟩⟩)⟩, ⟨Z9⟩, ⟨by (with_reducible repeat (first | refine Yh ?_ _ | refine Yb ?_ | refine Yd ?_ _)); exact YE (cs := #[.int .i64 5, .string (⟨#[]⟩ : ByteArray), .slice none 0 0, .slice Ao21 x183003_1.length co21]) (by (with_reducible repeat (first | refine Yh ?_ _ | refine Yb ?_ | refine Yd ?_ _)); exact YE (cs := #[.int .i64 5, .string (⟨#[]⟩ : ByteArray), .slice Ao20 x183002_1.length co20, .slice Ao21 x183003_1.length co21]) (by (with_reducible repeat (first | refine Yh ?_ _ | refine Yb ?_ | refine Yd ?_ _)); exact YE (cs := #[.int .i64 5, .string x183001_1, .slice Ao20 x183002_1.length co20, .slice Ao21 x183003_1.length co21]) (by (with_reducible repeat (first | refine Yh ?_ _ | refine Yb ?_ | refine Yd ?_ _)); exact YE (cs := #[.int .i64 x183000_1, .string x183001_1, .slice Ao20 x183002_1.length co20, .slice Ao21 x183003_1.length co21]) QQ 0 _ rfl) 1 _ rfl) 2 _ rfl) 3 _ rfl⟩, ⟨QI75_0⟩, ⟨QK⟩, ⟨QB⟩⟩
   ·rw [if_neg c13] at H
    have c13b0 : (t183 == 42) = false := beq_eq_false_iff_ne.mpr c13
    have c13b1 : (t183 != 42) = true := bne_iff_ne.mpr c13
    by_cases c26 : t183 = 43
    ·rw [if_pos c26] at H
     have c26b0 : (t183 == 43) = true := beq_iff_eq.mpr c26
     have c26b1 : (t183 != 43) = false := bne_eq_false_iff_eq.mpr c26
     clear c26
     have HC27 := Y0.mk H
     clear H
     go_upto_region 10 with (first | ((with_reducible refine Yl (f := 53) rfl ?_); refine YO (some 11) rfl rfl Tryd.func53 Z4 rfl #[.pointer (some ⟨g, 0, none⟩)] rfl Z0 ?_; (with_reducible refine (Ym.calls k1 g x1000_1 x1001_1 x1002_1 x1003_1 t183 t184 t185 t186 t187 w0 _ ?side1 ?side2 A12.out).mono ?_); (case side1 => exact Z1k); (case side2 => exact QB); rintro e w28 ⟨rfl, hi, hb, hk⟩; refine ⟨_, rfl, ?_⟩; have n0_ := Y0.mk (Kd.R_mono (Kd.R_keep (Yw.apart (show Yw w0 _ g x1000_1 x1001_1 x1002_1 x1003_1 from QI75_0) Zm (by decide)) hk (fun _ h => h.2)) (fun _ h => h.1)); have n1_ := Y0.mk (Kd.N_mono (Kd.N_keep (Kd.N_mono (ok := fun k_ => (((w.heap.size ≤ k_)) ∧ (some k_ ≠ (u183002 : Value).ownBlock ∧ (k_ ≠ gb169 ∧ (k_ ≠ gb182 ∧ k_ ≠ g))))) Zl (fun k_ hk_ => (⟨hk_, hk_.2.2.2.2⟩ : _ ∧ k_ ≠ g))) hk (fun _ h => h.2)) (fun _ h => h.1)); have n2_ := Y0.mk (Y1.blk hk (g' := gb169) (o := .cells #[.int .i64 0, .string (⟨#[]⟩ : ByteArray), .slice none 0 0, .slice none 0 0] 37 (0, 0)) QQ NB169_0.out (by simp)); have n3_ := Y0.mk (Y1.blk hk (g' := gb182) (o := .cells #[.int .i64 x183000_1, .string x183001_1, u183002, u183003] 37 (0, 0)) QQ NB182_0.out (by simp)); have n4_ := Y0.mk (Y1.trans QK hk (.inl rfl)); have n5_ := Y0.mk (hb); have n6_ := Y0.mk (hi); clear HO_183002 HO_183003 BK169 BK182 HK HB HI0; have HO_183002 := n0_; have HO_183003 := n1_; have BK169 := n2_; have BK182 := n3_; have HK := n4_; have HB := n5_; have HI0 := n6_; clear n0_ n1_ n2_ n3_ n4_ n5_ n6_; (try clear hb); (try clear hb2); (try clear hk); (try clear hi)))
     (try simp only [Act.put, List.setIfInBounds_toArray, List.set_cons_zero, List.set_cons_succ])
     go_cut [] (fun wc => ∃ (kq : Nat) (x1001_26 : Int), Y0 (Yi.j2 kq 6 t184 x1001_26 t186 t187 x183000_1 x183001_1 x183002_1 x183003_1 = some (r1, r2, r3, r4, r5, r6, r7, r8)) ∧ Y0 (kq ≤ k1) ∧ Y0 (Kd.R Kd.string 9 wc w.heap.size (fun k_ => (w.heap.size ≤ k_)) u183002 x183002_1) ∧ Y0 (Kd.N k37 37 wc w.heap.size (fun k_ => (w.heap.size ≤ k_) ∧ some k_ ≠ (u183002 : Value).ownBlock ∧ k_ ≠ gb169 ∧ k_ ≠ gb182 ∧ k_ ≠ g) u183003 x183003_1) ∧ Y0 (wc.heap[gb169]? = some (.cells #[.int .i64 0, .string (⟨#[]⟩ : ByteArray), (.slice none 0 0), (.slice none 0 0)] 37 (0, 0))) ∧ Y0 (wc.heap[gb182]? = some (.cells #[.int .i64 x183000_1, .string x183001_1, u183002, u183003] 37 (0, 0))) ∧ Y0 (Yw w0 wc g t184 x1001_26 t186 t187) ∧ Y0 (Y1 w wc g none) ∧ Y0 (Below w0.heap.size w0 wc))
     case first =>
      have H := HC27.out
      clear HC27
      have H' := Y0.mk H
      clear H
      obtain ⟨hcz29_0, hcz29_1, hcz29_2, hcz29_3, hfz29_0, hfz29_1, hfz29_2, hfz29_3⟩ := YA HI0.out.1
      go_wp2
      go_meet
      case rel => exact Ze
     case rest =>
      clear HC27
      try clear c1
      try clear c2
      try clear p2
      try clear c4
      try clear c5
      try clear p6
      try clear c7
      try clear c8
      try clear c11
      try clear c12
      try clear c13
      try clear c13b0
      try clear c13b1
      try clear c17
      try clear c18
      try clear c26
      try clear c26b0
      try clear c26b1
      try clear hcz16_0 hcz16_1 hcz16_2 hcz16_3
      try clear hcz19_0 hcz19_1 hcz19_2 hcz19_3
      try clear hcz25_0 hcz25_1 hcz25_2 hcz25_3
      try clear hcz29_0 hcz29_1 hcz29_2 hcz29_3
      try clear hcz9_0 hcz9_1 hcz9_2 hcz9_3
      try clear hfz16_0
      try clear hfz16_1
      try clear hfz16_2
      try clear hfz16_3
      try clear hfz19_0
      try clear hfz19_1
      try clear hfz19_2
      try clear hfz19_3
      try clear hfz25_0
      try clear hfz25_1
      try clear hfz25_2
      try clear hfz25_3
      try clear hfz29_0
      try clear hfz29_1
      try clear hfz29_2
      try clear hfz29_3
      try clear hfz9_0
      try clear hfz9_1
      try clear hfz9_2
      try clear hfz9_3
      try clear p2
      try clear p6
      obtain ⟨kq, x1001_26, HA, HJ26, HO_183002, HO_183003, BK169, BK182, HI0, HK, HB⟩ := hcut
      cases kq with
      | zero => exact absurd HA.out (by simp [Yi.j2])
      | succ kj26 =>
       have H := HA.out
       clear HA
       simp only [Yi.j2] at H
       obtain ⟨y191, hy191⟩ : ∃ y_ : List (S37), y_ = (([(⟨x183000_1, x183001_1, x183002_1, x183003_1⟩ : S37)] : List (S37))) := ⟨_, rfl⟩
       replace H : (Yi.l0 kj26 t184 x1001_26 t186 t187 6 (⟨#[]⟩ : ByteArray) ([] : List ByteArray) y191) = some (r1, r2, r3, r4, r5, r6, r7, r8) := by first | (rw [hy191]; with_reducible exact H) | (have H2_ := (Option.bind_some _ _).symm.trans H; rw [hy191]; with_reducible exact H2_) | (have H2_ := (Option.bind_some _ _).symm.trans H; with_reducible exact H2_) | with_reducible exact H | (rw [hy191]; exact H) | exact H
       have Ny191 := Y0.mk hy191
       clear hy191
       have H' := Y0.mk H
       clear H
       have hnb30 := NB182_169.out
       have hnc30 := NB169_182.out
       have hnb31 := NB182_0.out
       have hnc31 := NB0_182.out
       obtain ⟨hcz32_0, hcz32_1, hcz32_2, hcz32_3, hfz32_0, hfz32_1, hfz32_2, hfz32_3⟩ := YA BK182.out
       obtain ⟨Ao33, co33, eo33⟩ := Kd.R_slice HO_183002.out
       subst eo33
       obtain ⟨Ao34, co34, eo34⟩ := Kd.N_slice HO_183003.out
       subst eo34
       go_wp2_with (first | ((with_reducible refine YF (N := 27) rfl ?_); refine Kd.N_lit k37 _ 37 ?hg (N' := 27) ?hd (xs := ([(⟨x183000_1, x183001_1, x183002_1, x183003_1⟩ : S37)] : List (S37))) (inner := [.int .i64 x183000_1, .string x183001_1, .slice Ao33 x183002_1.length co33, .slice Ao34 x183003_1.length co34]) (ok := (fun k_ => (w.heap.size ≤ k_) ∧ k_ ≠ gb169 ∧ k_ ≠ gb182 ∧ k_ ≠ g)) (okp := (fun k_ => (w.heap.size ≤ k_) ∧ k_ ≠ gb169 ∧ k_ ≠ gb182 ∧ k_ ≠ g)) ?hr ?hp (fun _ hk => hk) ((show ∀ k_, wc.heap.size ≤ k_ → (fun k_ => (w.heap.size ≤ k_) ∧ k_ ≠ gb169 ∧ k_ ≠ gb182 ∧ k_ ≠ g) k_ from fun k_ hk => ⟨(Nat.le_trans (Y7 (w := w) (g := g) (row := none) QK) hk), Kd.freshB (g := gb169) (o := .cells #[.int .i64 0, .string (⟨#[]⟩ : ByteArray), .slice none 0 0, .slice none 0 0] 37 (0, 0)) QQ k_ hk, Kd.freshB (g := gb182) (o := .cells #[.int .i64 x183000_1, .string x183001_1, .slice Ao33 x183002_1.length co33, .slice Ao34 x183003_1.length co34] 37 (0, 0)) QQ k_ hk, Yw.fresh QI75_0 k_ hk⟩) _ (Nat.le_refl _)) (Below.refl _ _) (Nat.le_refl _) (by simp) ?_; (case hd => rfl); (case hg => rfl); (case hr => exact Zb); (case hp => exact (Y1F.c4 (show Kd.FK k37 _ _ (⟨x183000_1, x183001_1, x183002_1, x183003_1⟩ : S37) [.int .i64 x183000_1, .string x183001_1, .slice Ao33 x183002_1.length co33, .slice Ao34 x183003_1.length co34] from (Y2g _ _ (⟨x183000_1, x183001_1, x183002_1, x183003_1⟩ : S37) (Kd.R_reads' (Kd.R_mono (ok' := (fun k_ => (w.heap.size ≤ k_) ∧ k_ ≠ gb169 ∧ k_ ≠ gb182 ∧ k_ ≠ g)) (Yw.apart HI0.out (Kd.R_types (Kd.R_types (HO_183002.out) BK169.out (by decide)) BK182.out (by decide)) (by decide)) (fun k_ hk => ⟨hk.1.1.1, ⟨hk.1.1.2, ⟨hk.1.2, hk.2⟩⟩⟩))).2.1 (Kd.R_F (Kd.R_mono (ok' := (fun k_ => (w.heap.size ≤ k_) ∧ k_ ≠ gb169 ∧ k_ ≠ gb182 ∧ k_ ≠ g)) (Yw.apart HI0.out (Kd.R_types (Kd.R_types (HO_183002.out) BK169.out (by decide)) BK182.out (by decide)) (by decide)) (fun k_ hk => ⟨hk.1.1.1, ⟨hk.1.1.2, ⟨hk.1.2, hk.2⟩⟩⟩))) (Kd.N_reads' (Kd.N_mono (ok' := (fun k_ => (w.heap.size ≤ k_) ∧ k_ ≠ gb169 ∧ k_ ≠ gb182 ∧ k_ ≠ g)) (HO_183003.out) (fun k_ hk => ⟨hk.1, ⟨hk.2.2.1, ⟨hk.2.2.2.1, hk.2.2.2.2⟩⟩⟩))).2.1 (Kd.N_F (Kd.N_mono (ok' := (fun k_ => (w.heap.size ≤ k_) ∧ k_ ≠ gb169 ∧ k_ ≠ gb182 ∧ k_ ≠ g)) (HO_183003.out) (fun k_ hk => ⟨hk.1, ⟨hk.2.2.1, ⟨hk.2.2.2.1, hk.2.2.2.2⟩⟩⟩))))) (Y1F.none _ _))); intro v192 w35 ho36 hb hg_ hnew_; clear hg_ hnew_; (first | rw [← Ny191.out] at ho36 | (simp only [Int.reduceToNat] at ho36; rw [← Ny191.out] at ho36)); have n_ := Y3t (Kd.N_lower ho36 (Y7 (w := w) (g := g) (row := none) QK)) (Yt (g := gb169) (o := .cells #[.int .i64 0, .string (⟨#[]⟩ : ByteArray), .slice none 0 0, .slice none 0 0] 37 (0, 0)) QQ hb) (Yt (g := gb182) (o := .cells #[.int .i64 x183000_1, .string x183001_1, .slice Ao33 x183002_1.length co33, .slice Ao34 x183003_1.length co34] 37 (0, 0)) QQ hb) (Yw.below QI75_0 hb) (Y1.trans QK (Y1.of_below hb g none) (.inl rfl)) (Y8 QB hb); clear BK169 BK182 HI0 HK HB HO_183002 HO_183003; obtain ⟨HO193, BK169, BK182, HI0, HK, HB⟩ := n_; clear hb ho36; obtain ⟨Ao37, co37, eo37⟩ := Kd.N_slice HO193.out; subst eo37; obtain ⟨hcz38_0, hcz38_1, hcz38_2, hcz38_3, hfz38_0, hfz38_1, hfz38_2, hfz38_3⟩ := YA BK182.out))
       go_roundg kj26
       case measure => have := HK1.out; have := HJ26.out; omega
       case rel => exact ⟨(t184), (x1001_26), (t186), (t187), (6), ((⟨#[]⟩ : ByteArray)), (([] : List ByteArray)), (y191), (.slice none 0 0), (.slice Ao37 y191.length co37), H', ⟨by have := HK1.out; have := HJ26.out; omega⟩, ⟨Z5⟩, ⟨by (with_reducible repeat (first | apply Kd.N_alloc | apply Kd.N_drewN | apply Kd.N_drew)); exact Kd.N_mono (Kd.N_far (p := ⟨gb182, 3, none⟩) (Kd.N_far (p := ⟨gb182, 2, none⟩) (Kd.N_far (p := ⟨gb182, 1, none⟩) (Kd.N_far (p := ⟨gb182, 0, none⟩) (Kd.N_mono HO193.out (fun k_ hk => (⟨hk, hk.2.2.1⟩ : _ ∧ k_ ≠ gb182))) (fun _ hk => hk.2) (.int .i64 6)) (fun _ hk => hk.2) (.string (⟨#[]⟩ : ByteArray))) (fun _ hk => hk.2) (.slice none 0 0)) (fun _ hk => hk.2) (.slice Ao37 y191.length co37)) (fun _ hk => ⟨hk.1.1, ⟨Z2p, ⟨hk.1.2.1, ⟨hk.1.2.2.1, hk.1.2.2.2⟩⟩⟩⟩)⟩, ⟨Z9⟩, ⟨by (with_reducible repeat (first | refine Yh ?_ _ | refine Yb ?_ | refine Yd ?_ _)); exact YE (cs := #[.int .i64 6, .string (⟨#[]⟩ : ByteArray), .slice none 0 0, .slice Ao34 x183003_1.length co34]) (by (with_reducible repeat (first | refine Yh ?_ _ | refine Yb ?_ | refine Yd ?_ _)); exact YE (cs := #[.int .i64 6, .string (⟨#[]⟩ : ByteArray), .slice Ao33 x183002_1.length co33, .slice Ao34 x183003_1.length co34]) (by (with_reducible repeat (first | refine Yh ?_ _ | refine Yb ?_ | refine Yd ?_ _)); exact YE (cs := #[.int .i64 6, .string x183001_1, .slice Ao33 x183002_1.length co33, .slice Ao34 x183003_1.length co34]) (by (with_reducible repeat (first | refine Yh ?_ _ | refine Yb ?_ | refine Yd ?_ _)); exact YE (cs := #[.int .i64 x183000_1, .string x183001_1, .slice Ao33 x183002_1.length co33, .slice Ao34 x183003_1.length co34]) QQ 0 _ rfl) 1 _ rfl) 2 _ rfl) 3 _ rfl⟩, ⟨QI75_0⟩, ⟨QK⟩, ⟨QB⟩⟩
    ·rw [if_neg c26] at H
     have c26b0 : (t183 == 43) = false := beq_eq_false_iff_ne.mpr c26
     have c26b1 : (t183 != 43) = true := bne_iff_ne.mpr c26
     by_cases c39 : t183 = 63
     ·rw [if_pos c39] at H
      have c39b0 : (t183 == 63) = true := beq_iff_eq.mpr c39
      have c39b1 : (t183 != 63) = false := bne_eq_false_iff_eq.mpr c39
      clear c39
      have HC40 := Y0.mk H
      clear H
      go_upto_region 10 with (first | ((with_reducible refine Yl (f := 53) rfl ?_); refine YO (some 11) rfl rfl Tryd.func53 Z4 rfl #[.pointer (some ⟨g, 0, none⟩)] rfl Z0 ?_; (with_reducible refine (Ym.calls k1 g x1000_1 x1001_1 x1002_1 x1003_1 t183 t184 t185 t186 t187 w0 _ ?side1 ?side2 A12.out).mono ?_); (case side1 => exact Z1k); (case side2 => exact QB); rintro e w41 ⟨rfl, hi, hb, hk⟩; refine ⟨_, rfl, ?_⟩; have n0_ := Y0.mk (Kd.R_mono (Kd.R_keep (Yw.apart (show Yw w0 _ g x1000_1 x1001_1 x1002_1 x1003_1 from QI75_0) Zm (by decide)) hk (fun _ h => h.2)) (fun _ h => h.1)); have n1_ := Y0.mk (Kd.N_mono (Kd.N_keep (Kd.N_mono (ok := fun k_ => (((w.heap.size ≤ k_)) ∧ (some k_ ≠ (u183002 : Value).ownBlock ∧ (k_ ≠ gb169 ∧ (k_ ≠ gb182 ∧ k_ ≠ g))))) Zl (fun k_ hk_ => (⟨hk_, hk_.2.2.2.2⟩ : _ ∧ k_ ≠ g))) hk (fun _ h => h.2)) (fun _ h => h.1)); have n2_ := Y0.mk (Y1.blk hk (g' := gb169) (o := .cells #[.int .i64 0, .string (⟨#[]⟩ : ByteArray), .slice none 0 0, .slice none 0 0] 37 (0, 0)) QQ NB169_0.out (by simp)); have n3_ := Y0.mk (Y1.blk hk (g' := gb182) (o := .cells #[.int .i64 x183000_1, .string x183001_1, u183002, u183003] 37 (0, 0)) QQ NB182_0.out (by simp)); have n4_ := Y0.mk (Y1.trans QK hk (.inl rfl)); have n5_ := Y0.mk (hb); have n6_ := Y0.mk (hi); clear HO_183002 HO_183003 BK169 BK182 HK HB HI0; have HO_183002 := n0_; have HO_183003 := n1_; have BK169 := n2_; have BK182 := n3_; have HK := n4_; have HB := n5_; have HI0 := n6_; clear n0_ n1_ n2_ n3_ n4_ n5_ n6_; (try clear hb); (try clear hb2); (try clear hk); (try clear hi)))
      (try simp only [Act.put, List.setIfInBounds_toArray, List.set_cons_zero, List.set_cons_succ])
      go_cut [] (fun wc => ∃ (kq : Nat) (x1001_39 : Int), Y0 (Yi.j3 kq 7 t184 x1001_39 t186 t187 x183000_1 x183001_1 x183002_1 x183003_1 = some (r1, r2, r3, r4, r5, r6, r7, r8)) ∧ Y0 (kq ≤ k1) ∧ Y0 (Kd.R Kd.string 9 wc w.heap.size (fun k_ => (w.heap.size ≤ k_)) u183002 x183002_1) ∧ Y0 (Kd.N k37 37 wc w.heap.size (fun k_ => (w.heap.size ≤ k_) ∧ some k_ ≠ (u183002 : Value).ownBlock ∧ k_ ≠ gb169 ∧ k_ ≠ gb182 ∧ k_ ≠ g) u183003 x183003_1) ∧ Y0 (wc.heap[gb169]? = some (.cells #[.int .i64 0, .string (⟨#[]⟩ : ByteArray), (.slice none 0 0), (.slice none 0 0)] 37 (0, 0))) ∧ Y0 (wc.heap[gb182]? = some (.cells #[.int .i64 x183000_1, .string x183001_1, u183002, u183003] 37 (0, 0))) ∧ Y0 (Yw w0 wc g t184 x1001_39 t186 t187) ∧ Y0 (Y1 w wc g none) ∧ Y0 (Below w0.heap.size w0 wc))
      case first =>
       have H := HC40.out
       clear HC40
       have H' := Y0.mk H
       clear H
       obtain ⟨hcz42_0, hcz42_1, hcz42_2, hcz42_3, hfz42_0, hfz42_1, hfz42_2, hfz42_3⟩ := YA HI0.out.1
       go_wp2
       go_meet
       case rel => exact Ze
      case rest =>
       clear HC40
       try clear c1
       try clear c2
       try clear p2
       try clear c3
       try clear c4
       try clear c5
       try clear p6
       try clear c7
       try clear c8
       try clear c11
       try clear c12
       try clear c13
       try clear c13b0
       try clear c13b1
       try clear c17
       try clear c18
       try clear c26
       try clear c26b0
       try clear c26b1
       try clear c30
       try clear c31
       try clear c39
       try clear c39b0
       try clear c39b1
       try clear hcz16_0 hcz16_1 hcz16_2 hcz16_3
       try clear hcz19_0 hcz19_1 hcz19_2 hcz19_3
       try clear hcz25_0 hcz25_1 hcz25_2 hcz25_3
       try clear hcz29_0 hcz29_1 hcz29_2 hcz29_3
       try clear hcz32_0 hcz32_1 hcz32_2 hcz32_3
       try clear hcz38_0 hcz38_1 hcz38_2 hcz38_3
       try clear hcz42_0 hcz42_1 hcz42_2 hcz42_3
       try clear hcz9_0 hcz9_1 hcz9_2 hcz9_3
       try clear hfz16_0
       try clear hfz16_1
       try clear hfz16_2
       try clear hfz16_3
       try clear hfz19_0
       try clear hfz19_1
       try clear hfz19_2
       try clear hfz19_3
       try clear hfz25_0
       try clear hfz25_1
       try clear hfz25_2
       try clear hfz25_3
       try clear hfz29_0
       try clear hfz29_1
       try clear hfz29_2
       try clear hfz29_3
       try clear hfz32_0
       try clear hfz32_1
       try clear hfz32_2
       try clear hfz32_3
       try clear hfz38_0
       try clear hfz38_1
       try clear hfz38_2
       try clear hfz38_3
       try clear hfz42_0
       try clear hfz42_1
       try clear hfz42_2
       try clear hfz42_3
       try clear hfz9_0
       try clear hfz9_1
       try clear hfz9_2
       try clear hfz9_3
       try clear p2
       try clear p6
       obtain ⟨kq, x1001_39, HA, HJ39, HO_183002, HO_183003, BK169, BK182, HI0, HK, HB⟩ := hcut
       cases kq with
       | zero => exact absurd HA.out (by simp [Yi.j3])
       | succ kj39 =>
        have H := HA.out
        clear HA
        simp only [Yi.j3] at H
        obtain ⟨y194, hy194⟩ : ∃ y_ : List (S37), y_ = (([(⟨x183000_1, x183001_1, x183002_1, x183003_1⟩ : S37)] : List (S37))) := ⟨_, rfl⟩
        replace H : (Yi.l0 kj39 t184 x1001_39 t186 t187 7 (⟨#[]⟩ : ByteArray) ([] : List ByteArray) y194) = some (r1, r2, r3, r4, r5, r6, r7, r8) := by first | (rw [hy194]; with_reducible exact H) | (have H2_ := (Option.bind_some _ _).symm.trans H; rw [hy194]; with_reducible exact H2_) | (have H2_ := (Option.bind_some _ _).symm.trans H; with_reducible exact H2_) | with_reducible exact H | (rw [hy194]; exact H) | exact H
        have Ny194 := Y0.mk hy194
        clear hy194
        have H' := Y0.mk H
        clear H
        have hnb43 := NB182_169.out
        have hnc43 := NB169_182.out
        have hnb44 := NB182_0.out
        have hnc44 := NB0_182.out
        obtain ⟨hcz45_0, hcz45_1, hcz45_2, hcz45_3, hfz45_0, hfz45_1, hfz45_2, hfz45_3⟩ := YA BK182.out
        obtain ⟨Ao46, co46, eo46⟩ := Kd.R_slice HO_183002.out
        subst eo46
        obtain ⟨Ao47, co47, eo47⟩ := Kd.N_slice HO_183003.out
        subst eo47
        go_wp2_with (first | ((with_reducible refine YF (N := 27) rfl ?_); refine Kd.N_lit k37 _ 37 ?hg (N' := 27) ?hd (xs := ([(⟨x183000_1, x183001_1, x183002_1, x183003_1⟩ : S37)] : List (S37))) (inner := [.int .i64 x183000_1, .string x183001_1, .slice Ao46 x183002_1.length co46, .slice Ao47 x183003_1.length co47]) (ok := (fun k_ => (w.heap.size ≤ k_) ∧ k_ ≠ gb169 ∧ k_ ≠ gb182 ∧ k_ ≠ g)) (okp := (fun k_ => (w.heap.size ≤ k_) ∧ k_ ≠ gb169 ∧ k_ ≠ gb182 ∧ k_ ≠ g)) ?hr ?hp (fun _ hk => hk) ((show ∀ k_, wc.heap.size ≤ k_ → (fun k_ => (w.heap.size ≤ k_) ∧ k_ ≠ gb169 ∧ k_ ≠ gb182 ∧ k_ ≠ g) k_ from fun k_ hk => ⟨(Nat.le_trans (Y7 (w := w) (g := g) (row := none) QK) hk), Kd.freshB (g := gb169) (o := .cells #[.int .i64 0, .string (⟨#[]⟩ : ByteArray), .slice none 0 0, .slice none 0 0] 37 (0, 0)) QQ k_ hk, Kd.freshB (g := gb182) (o := .cells #[.int .i64 x183000_1, .string x183001_1, .slice Ao46 x183002_1.length co46, .slice Ao47 x183003_1.length co47] 37 (0, 0)) QQ k_ hk, Yw.fresh QI75_0 k_ hk⟩) _ (Nat.le_refl _)) (Below.refl _ _) (Nat.le_refl _) (by simp) ?_; (case hd => rfl); (case hg => rfl); (case hr => exact Zb); (case hp => exact (Y1F.c4 (show Kd.FK k37 _ _ (⟨x183000_1, x183001_1, x183002_1, x183003_1⟩ : S37) [.int .i64 x183000_1, .string x183001_1, .slice Ao46 x183002_1.length co46, .slice Ao47 x183003_1.length co47] from (Y2g _ _ (⟨x183000_1, x183001_1, x183002_1, x183003_1⟩ : S37) (Kd.R_reads' (Kd.R_mono (ok' := (fun k_ => (w.heap.size ≤ k_) ∧ k_ ≠ gb169 ∧ k_ ≠ gb182 ∧ k_ ≠ g)) (Yw.apart HI0.out (Kd.R_types (Kd.R_types (HO_183002.out) BK169.out (by decide)) BK182.out (by decide)) (by decide)) (fun k_ hk => ⟨hk.1.1.1, ⟨hk.1.1.2, ⟨hk.1.2, hk.2⟩⟩⟩))).2.1 (Kd.R_F (Kd.R_mono (ok' := (fun k_ => (w.heap.size ≤ k_) ∧ k_ ≠ gb169 ∧ k_ ≠ gb182 ∧ k_ ≠ g)) (Yw.apart HI0.out (Kd.R_types (Kd.R_types (HO_183002.out) BK169.out (by decide)) BK182.out (by decide)) (by decide)) (fun k_ hk => ⟨hk.1.1.1, ⟨hk.1.1.2, ⟨hk.1.2, hk.2⟩⟩⟩))) (Kd.N_reads' (Kd.N_mono (ok' := (fun k_ => (w.heap.size ≤ k_) ∧ k_ ≠ gb169 ∧ k_ ≠ gb182 ∧ k_ ≠ g)) (HO_183003.out) (fun k_ hk => ⟨hk.1, ⟨hk.2.2.1, ⟨hk.2.2.2.1, hk.2.2.2.2⟩⟩⟩))).2.1 (Kd.N_F (Kd.N_mono (ok' := (fun k_ => (w.heap.size ≤ k_) ∧ k_ ≠ gb169 ∧ k_ ≠ gb182 ∧ k_ ≠ g)) (HO_183003.out) (fun k_ hk => ⟨hk.1, ⟨hk.2.2.1, ⟨hk.2.2.2.1, hk.2.2.2.2⟩⟩⟩))))) (Y1F.none _ _))); intro v195 w48 ho49 hb hg_ hnew_; clear hg_ hnew_; (first | rw [← Ny194.out] at ho49 | (simp only [Int.reduceToNat] at ho49; rw [← Ny194.out] at ho49)); have n_ := Y3t (Kd.N_lower ho49 (Y7 (w := w) (g := g) (row := none) QK)) (Yt (g := gb169) (o := .cells #[.int .i64 0, .string (⟨#[]⟩ : ByteArray), .slice none 0 0, .slice none 0 0] 37 (0, 0)) QQ hb) (Yt (g := gb182) (o := .cells #[.int .i64 x183000_1, .string x183001_1, .slice Ao46 x183002_1.length co46, .slice Ao47 x183003_1.length co47] 37 (0, 0)) QQ hb) (Yw.below QI75_0 hb) (Y1.trans QK (Y1.of_below hb g none) (.inl rfl)) (Y8 QB hb); clear BK169 BK182 HI0 HK HB HO_183002 HO_183003; obtain ⟨HO196, BK169, BK182, HI0, HK, HB⟩ := n_; clear hb ho49; obtain ⟨Ao50, co50, eo50⟩ := Kd.N_slice HO196.out; subst eo50; obtain ⟨hcz51_0, hcz51_1, hcz51_2, hcz51_3, hfz51_0, hfz51_1, hfz51_2, hfz51_3⟩ := YA BK182.out))
        go_roundg kj39
        case measure => have := HK1.out; have := HJ39.out; omega
        case rel => exact ⟨(t184), (x1001_39), (t186), (t187), (7), ((⟨#[]⟩ : ByteArray)), (([] : List ByteArray)), (y194), (.slice none 0 0), (.slice Ao50 y194.length co50), H', ⟨by have := HK1.out; have := HJ39.out; omega⟩, ⟨Z5⟩, ⟨by (with_reducible repeat (first | apply Kd.N_alloc | apply Kd.N_drewN | apply Kd.N_drew)); exact Kd.N_mono (Kd.N_far (p := ⟨gb182, 3, none⟩) (Kd.N_far (p := ⟨gb182, 2, none⟩) (Kd.N_far (p := ⟨gb182, 1, none⟩) (Kd.N_far (p := ⟨gb182, 0, none⟩) (Kd.N_mono HO196.out (fun k_ hk => (⟨hk, hk.2.2.1⟩ : _ ∧ k_ ≠ gb182))) (fun _ hk => hk.2) (.int .i64 7)) (fun _ hk => hk.2) (.string (⟨#[]⟩ : ByteArray))) (fun _ hk => hk.2) (.slice none 0 0)) (fun _ hk => hk.2) (.slice Ao50 y194.length co50)) (fun _ hk => ⟨hk.1.1, ⟨Z2p, ⟨hk.1.2.1, ⟨hk.1.2.2.1, hk.1.2.2.2⟩⟩⟩⟩)⟩, ⟨Z9⟩, ⟨by (with_reducible repeat (first | refine Yh ?_ _ | refine Yb ?_ | refine Yd ?_ _)); exact YE (cs := #[.int .i64 7, .string (⟨#[]⟩ : ByteArray), .slice none 0 0, .slice Ao47 x183003_1.length co47]) (by (with_reducible repeat (first | refine Yh ?_ _ | refine Yb ?_ | refine Yd ?_ _)); exact YE (cs := #[.int .i64 7, .string (⟨#[]⟩ : ByteArray), .slice Ao46 x183002_1.length co46, .slice Ao47 x183003_1.length co47]) (by (with_reducible repeat (first | refine Yh ?_ _ | refine Yb ?_ | refine Yd ?_ _)); exact YE (cs := #[.int .i64 7, .string x183001_1, .slice Ao46 x183002_1.length co46, .slice Ao47 x183003_1.length co47]) (by (with_reducible repeat (first | refine Yh ?_ _ | refine Yb ?_ | refine Yd ?_ _)); exact YE (cs := #[.int .i64 x183000_1, .string x183001_1, .slice Ao46 x183002_1.length co46, .slice Ao47 x183003_1.length co47]) QQ 0 _ rfl) 1 _ rfl) 2 _ rfl) 3 _ rfl⟩, ⟨QI75_0⟩, ⟨QK⟩, ⟨QB⟩⟩
     ·rw [if_neg c39] at H
      have c39b0 : (t183 == 63) = false := beq_eq_false_iff_ne.mpr c39
      have c39b1 : (t183 != 63) = true := bne_iff_ne.mpr c39
      simp only [Option.some.injEq, Prod.mk.injEq] at H
      obtain ⟨rfl, rfl, rfl, rfl, rfl, rfl, rfl, rfl⟩ := H
      go_wp2_with (first | ((with_reducible refine Yl (f := 53) rfl ?_); refine YO (some 11) rfl rfl Tryd.func53 Z4 rfl #[.pointer (some ⟨g, 0, none⟩)] rfl Z0 ?_; (with_reducible refine (Ym.calls k1 g x1000_1 x1001_1 x1002_1 x1003_1 t183 t184 t185 t186 t187 w0 _ ?side1 ?side2 A12.out).mono ?_); (case side1 => exact Z1k); (case side2 => exact QB); rintro e w52 ⟨rfl, hi, hb, hk⟩; refine ⟨_, rfl, ?_⟩; have n0_ := Y0.mk (Kd.R_mono (Kd.R_keep (Yw.apart (show Yw w0 _ g x1000_1 x1001_1 x1002_1 x1003_1 from QI75_0) Zm (by decide)) hk (fun _ h => h.2)) (fun _ h => h.1)); have n1_ := Y0.mk (Kd.N_mono (Kd.N_keep (Kd.N_mono (ok := fun k_ => (((w.heap.size ≤ k_)) ∧ (some k_ ≠ (u183002 : Value).ownBlock ∧ (k_ ≠ gb169 ∧ (k_ ≠ gb182 ∧ k_ ≠ g))))) Zl (fun k_ hk_ => (⟨hk_, hk_.2.2.2.2⟩ : _ ∧ k_ ≠ g))) hk (fun _ h => h.2)) (fun _ h => h.1)); have n2_ := Y0.mk (Y1.blk hk (g' := gb169) (o := .cells #[.int .i64 0, .string (⟨#[]⟩ : ByteArray), .slice none 0 0, .slice none 0 0] 37 (0, 0)) QQ NB169_0.out (by simp)); have n3_ := Y0.mk (Y1.blk hk (g' := gb182) (o := .cells #[.int .i64 x183000_1, .string x183001_1, u183002, u183003] 37 (0, 0)) QQ NB182_0.out (by simp)); have n4_ := Y0.mk (Y1.trans QK hk (.inl rfl)); have n5_ := Y0.mk (hb); have n6_ := Y0.mk (hi); clear HO_183002 HO_183003 BK169 BK182 HK HB HI0; have HO_183002 := n0_; have HO_183003 := n1_; have BK169 := n2_; have BK182 := n3_; have HK := n4_; have HB := n5_; have HI0 := n6_; clear n0_ n1_ n2_ n3_ n4_ n5_ n6_; (try clear hb); (try clear hb2); (try clear hk); (try clear hi); have hnb53 := NB182_169.out; have hnc53 := NB169_182.out; have hnb54 := NB182_0.out; have hnc54 := NB0_182.out; obtain ⟨hcz55_0, hcz55_1, hcz55_2, hcz55_3, hfz55_0, hfz55_1, hfz55_2, hfz55_3⟩ := YA BK182.out; have hnb56 := NB169_0.out; have hnc56 := NB0_169.out; obtain ⟨hcz57_0, hcz57_1, hcz57_2, hcz57_3, hfz57_0, hfz57_1, hfz57_2, hfz57_3⟩ := YA BK169.out; obtain ⟨Ao58, co58, eo58⟩ := Kd.R_slice HO_183002.out; subst eo58; obtain ⟨Ao59, co59, eo59⟩ := Kd.N_slice HO_183003.out; subst eo59))
      (try rw [Exit.noGoto_ret])
      refine bodyPost_ret (results_cell_row rfl _ _ gb169 37 #[.int .i64 x183000_1, .string x183001_1, .slice Ao58 x183002_1.length co58, .slice Ao59 x183003_1.length co59] (0, 0) _ rfl (by (with_reducible repeat (first | refine Yh ?_ _ | refine Yb ?_ | refine Yd ?_ _)); exact YE (cs := #[.int .i64 x183000_1, .string x183001_1, .slice Ao58 x183002_1.length co58, .slice none 0 0]) (by (with_reducible repeat (first | refine Yh ?_ _ | refine Yb ?_ | refine Yd ?_ _)); exact YE (cs := #[.int .i64 x183000_1, .string x183001_1, .slice none 0 0, .slice none 0 0]) (by (with_reducible repeat (first | refine Yh ?_ _ | refine Yb ?_ | refine Yd ?_ _)); exact YE (cs := #[.int .i64 x183000_1, .string (⟨#[]⟩ : ByteArray), .slice none 0 0, .slice none 0 0]) Z1 1 _ rfl) 2 _ rfl) 3 _ rfl) Tryd.underlying37 rfl Z4) rfl ?_
      exact ⟨_, _, Z2, by (with_reducible repeat (first | apply Kd.R_alloc | apply Kd.R_drewN | apply Kd.R_drew)); exact Kd.R_mono (Kd.R_far (p := ⟨gb169, 3, none⟩) (Kd.R_far (p := ⟨gb169, 2, none⟩) (Kd.R_far (p := ⟨gb169, 1, none⟩) (Kd.R_far (p := ⟨gb169, 0, none⟩) (Kd.R_types HO_183002.out BK169.out (by decide)) (fun _ hk => hk.2) (.int .i64 x183000_1)) (fun _ hk => hk.2) (.string x183001_1)) (fun _ hk => hk.2) (.slice Ao58 x183002_1.length co58)) (fun _ hk => hk.2) (.slice Ao59 x183003_1.length co59)) (fun _ hk => hk.1), by (with_reducible repeat (first | apply Kd.N_alloc | apply Kd.N_drewN | apply Kd.N_drew)); exact Kd.N_mono (Kd.N_far (p := ⟨gb169, 3, none⟩) (Kd.N_far (p := ⟨gb169, 2, none⟩) (Kd.N_far (p := ⟨gb169, 1, none⟩) (Kd.N_far (p := ⟨gb169, 0, none⟩) (Kd.N_mono HO_183003.out (fun k_ hk => (⟨hk, hk.2.2.1⟩ : _ ∧ k_ ≠ gb169))) (fun _ hk => hk.2) (.int .i64 x183000_1)) (fun _ hk => hk.2) (.string x183001_1)) (fun _ hk => hk.2) (.slice Ao58 x183002_1.length co58)) (fun _ hk => hk.2) (.slice Ao59 x183003_1.length co59)) (fun _ hk => ⟨hk.1.1, hk.1.2.1⟩), QI75_0, QB, QK⟩
set_option maxHeartbeats 8000000 in
set_option maxRecDepth 100000 in
theorem YH.step (k : Nat) (ih : ∀ j_ < k, Yq.Spec j_ ∧ Yz.Spec j_ ∧ Yi.Spec j_ ∧ YH.Spec j_ ∧ YN.Spec j_) : ∀ (g : Nat) (s0_0 : ByteArray) (s0_1 : Int) (s0_2 : Int) (s0_3 : Int) (a1 : Int) (r1 : Int) (r2 : ByteArray) (r3 : List ByteArray) (r4 : List (S37)) (r5 : ByteArray) (r6 : Int) (r7 : Int) (r8 : Int) (w0 w : World) (hI : Yw w0 w g s0_0 s0_1 s0_2 s0_3) (hB : Below w0.heap.size w0 w) (hT : Tabs w0) (h : YH.f k s0_0 s0_1 s0_2 s0_3 a1 = some (r1, r2, r3, r4, r5, r6, r7, r8)),
  Calls Tryd.prog 123 #[.pointer (some ⟨g, 0, none⟩), .int .i64 a1] w fun e w' => ∃ v2_ v3_ : Value, e = .returned (.agg #[.int .i64 r1, .string r2, v2_, v3_]) ∧ Kd.R Kd.string 9 w' w.heap.size (fun k_ => (w.heap.size ≤ k_)) v2_ r3 ∧ Kd.N k37 37 w' w.heap.size (fun k_ => (w.heap.size ≤ k_) ∧ some k_ ≠ (v2_ : Value).ownBlock) v3_ r4 ∧ Yw w0 w' g r5 r6 r7 r8 ∧ Below w0.heap.size w0 w' ∧ Y1 w w' g none := by
 intro g s0_0 s0_1 s0_2 s0_3 a1 r1 r2 r3 r4 r5 r6 r7 r8 w0 w hI hB hT h
 cases k with
 | zero => exact absurd h (by simp [YH.f])
 | succ k =>
 simp only [YH.f] at h
 have HT := Y0.mk hT
 clear hT
 have hu37 := Tryd.underlying37
 have HI0 := Y0.mk hI
 have HK := Y0.mk (Y1.refl w g none)
 have HL := Y0.mk hB.size
 clear hI
 have HW0 := Y0.mk hB.size
 have HB := Y0.mk hB
 clear hB
 have H : ((Ym.f k s0_0 s0_1 s0_2 s0_3).bind fun bt198 => (if bt198.1 = 94 then (if a1 ≥ 5 then ((Ys.f bt198.2.1 bt198.2.2.1 bt198.2.2.2.1 bt198.2.2.2.2 bt198.2.2.1 3).bind fun bt215 => (some (bt215.1, bt215.2.1, bt215.2.2.1, bt215.2.2.2.1, bt215.2.2.2.2.1, bt215.2.2.2.2.2.1, bt215.2.2.2.2.2.2.1, bt215.2.2.2.2.2.2.2))) else ((YH.f k bt198.2.1 (wrap64 (bt198.2.2.1 + 1)) bt198.2.2.2.1 bt198.2.2.2.2 (wrap64 (a1 + 1))).bind fun bt227 => (some (2, (⟨#[]⟩ : ByteArray), ([] : List ByteArray), (([(⟨bt227.1, bt227.2.1, bt227.2.2.1, bt227.2.2.2.1⟩ : S37)] : List (S37))), bt227.2.2.2.2.1, bt227.2.2.2.2.2.1, bt227.2.2.2.2.2.2.1, bt227.2.2.2.2.2.2.2)))) else ((YN.f k bt198.2.1 bt198.2.2.1 bt198.2.2.2.1 bt198.2.2.2.2 a1).bind fun bt203 => (some (bt203.1, bt203.2.1, bt203.2.2.1, bt203.2.2.2.1, bt203.2.2.2.2.1, bt203.2.2.2.2.2.1, bt203.2.2.2.2.2.2.1, bt203.2.2.2.2.2.2.2))))) = some (r1, r2, r3, r4, r5, r6, r7, r8) := h
 clear h
 replace H := Option.bind_eq_some_iff.mp H
 obtain ⟨⟨t198, t199, t200, t201, t202⟩, A30, H⟩ := H
 replace H : (if t198 = 94 then (if a1 ≥ 5 then ((Ys.f t199 t200 t201 t202 t200 3).bind fun bt215 => (some (bt215.1, bt215.2.1, bt215.2.2.1, bt215.2.2.2.1, bt215.2.2.2.2.1, bt215.2.2.2.2.2.1, bt215.2.2.2.2.2.2.1, bt215.2.2.2.2.2.2.2))) else ((YH.f k t199 (wrap64 (t200 + 1)) t201 t202 (wrap64 (a1 + 1))).bind fun bt227 => (some (2, (⟨#[]⟩ : ByteArray), ([] : List ByteArray), (([(⟨bt227.1, bt227.2.1, bt227.2.2.1, bt227.2.2.2.1⟩ : S37)] : List (S37))), bt227.2.2.2.2.1, bt227.2.2.2.2.2.1, bt227.2.2.2.2.2.2.1, bt227.2.2.2.2.2.2.2)))) else ((YN.f k t199 t200 t201 t202 a1).bind fun bt203 => (some (bt203.1, bt203.2.1, bt203.2.2.1, bt203.2.2.2.1, bt203.2.2.2.2.1, bt203.2.2.2.2.2.1, bt203.2.2.2.2.2.2.1, bt203.2.2.2.2.2.2.2)))) = some (r1, r2, r3, r4, r5, r6, r7, r8) := H
 have A3 := Y0.mk A30
 clear A30
 by_cases c4 : t198 = 94
 ·rw [if_pos c4] at H
  have c4b0 : (t198 == 94) = true := beq_iff_eq.mpr c4
  have c4b1 : (t198 != 94) = false := bne_eq_false_iff_eq.mpr c4
  clear c4
  by_cases c5 : a1 ≥ 5
  ·rw [if_pos c5] at H
   have c5b0 : decide (5 ≤ a1) = true := decide_eq_true c5
   clear c5
   replace H := Option.bind_eq_some_iff.mp H
   obtain ⟨⟨t215, t216, t217, t220, t223, t224, t225, t226⟩, A60, H⟩ := H
   replace H : (some (t215, t216, t217, t220, t223, t224, t225, t226)) = some (r1, r2, r3, r4, r5, r6, r7, r8) := H
   have A6 := Y0.mk A60
   clear A60
   simp only [Option.some.injEq, Prod.mk.injEq] at H
   obtain ⟨rfl, rfl, rfl, rfl, rfl, rfl, rfl, rfl⟩ := H
   go_enter Tryd.func123, Tryd.ntmps123
   go_wp2_with (first | ((with_reducible refine YF (N := 4) rfl ?_); refine YD ?hg (N := 4) ?hd (cs := #[.int .i64 0, .string (⟨#[]⟩ : ByteArray), .slice none 0 0, .slice none 0 0]) (t := 37) ?hr ?_; (case hd => rfl); (case hg => rfl); (case hr => exact Zb); intro gb197 hg w7 hbox hb; have n_ := Y4q (Yw.below QI75_0 hb) (Y1.trans QK (Y1.of_below hb g none) (.inl rfl)) (Y8 QB hb) (hbox) ((by rw [hg]; exact (Y7 (w := w) (g := g) (row := none) QK) : w.heap.size ≤ gb197)) ((Nat.le_trans HW0.out (by rw [hg]; exact (Y7 (w := w) (g := g) (row := none) QK) : w.heap.size ≤ gb197) : w0.heap.size ≤ gb197)) ((by rw [hg]; exact Nat.ne_of_lt (Yw.lt (show Yw w0 _ g s0_0 s0_1 s0_2 s0_3 from QI75_0)) : g ≠ gb197)) ((by rw [hg]; exact Nat.ne_of_gt (Yw.lt (show Yw w0 _ g s0_0 s0_1 s0_2 s0_3 from QI75_0)) : gb197 ≠ g)); clear HI0 HK HB; obtain ⟨HI0, HK, HB, BK197, GW197, GE197, NB0_197, NB197_0⟩ := n_; clear hb hbox hg) | ((with_reducible refine Yl (f := 53) rfl ?_); refine YO (some 6) rfl rfl Tryd.func53 Z4 rfl #[.pointer (some ⟨g, 0, none⟩)] rfl Z0 ?_; (with_reducible refine (Ym.calls k g s0_0 s0_1 s0_2 s0_3 t198 t199 t200 t201 t202 w0 _ ?side1 ?side2 A3.out).mono ?_); (case side1 => exact Z1k); (case side2 => exact QB); rintro e w8 ⟨rfl, hi, hb, hk⟩; refine ⟨_, rfl, ?_⟩; have n_ := Y2N (Y1.blk hk (g' := gb197) (o := .cells #[.int .i64 0, .string (⟨#[]⟩ : ByteArray), .slice none 0 0, .slice none 0 0] 37 (0, 0)) QQ NB197_0.out (by simp)) (Y1.trans QK hk (.inl rfl)) (hb) (hi); clear BK197 HK HB HI0; obtain ⟨BK197, HK, HB, HI0⟩ := n_; (try clear hb); (try clear hb2); (try clear hk); (try clear hi); obtain ⟨HGz9, hgz9⟩ := HI0.out; have hcz9_0 := YX HGz9; have hcz9_1 := YY HGz9; have hcz9_2 := YZ HGz9; have hcz9_3 := Y10 HGz9; have hfz9_0 := Y6 HGz9 0; have hfz9_1 := Y6 HGz9 1; have hfz9_2 := Y6 HGz9 2; have hfz9_3 := Y6 HGz9 3; clear HGz9 hgz9) | ((with_reducible refine Yl (f := 54) rfl ?_); refine YO (some 18) rfl rfl Tryd.func54 Z4 rfl #[.pointer (some ⟨g, 0, none⟩), .int .i64 t200, .int .i64 3] rfl Z0 ?_; (with_reducible refine (Ys.calls g t199 t200 t201 t202 t200 3 t215 t216 t217 t220 t223 t224 t225 t226 w0 _ ?side1 ?side2 A6.out).mono ?_); (case side1 => exact Z1k); (case side2 => exact QB); rintro e w10 ⟨v218, v221, rfl, ho0, ho1, hi, hb, hk⟩; refine ⟨_, rfl, ?_⟩; have n0_ := Y0.mk (Y1.blk hk (g' := gb197) (o := .cells #[.int .i64 0, .string (⟨#[]⟩ : ByteArray), .slice none 0 0, .slice none 0 0] 37 (0, 0)) QQ NB197_0.out (by simp)); have n1_ := Y0.mk (Kd.R_lower (Kd.R_newM (M := fun k_ => (w.heap.size ≤ k_)) (Kd.R_mono (ok' := fun k_ => True) ho0 (fun _ hk_ => trivial)) (Y7 (w := w) (g := g) (row := none) QK) (fun k_ h_ => h_)) (Y7 (w := w) (g := g) (row := none) QK)); have n2_ := Y0.mk (Kd.N_lower (Kd.N_mono (ok' := fun k_ => (w.heap.size ≤ k_) ∧ some k_ ≠ (v218 : Value).ownBlock ∧ k_ ≠ gb197 ∧ k_ ≠ g) ho1 (fun k_ hk_ => ⟨(Nat.le_trans (Y7 (w := w) (g := g) (row := none) QK) hk_.1), hk_.2, (Kd.freshB (g := gb197) (o := .cells #[.int .i64 0, .string (⟨#[]⟩ : ByteArray), .slice none 0 0, .slice none 0 0] 37 (0, 0)) QQ k_ hk_.1), (Yw.fresh QI75_0 k_ hk_.1)⟩)) (Y7 (w := w) (g := g) (row := none) QK)); have n3_ := Y0.mk (Y1.trans QK hk (.inl rfl)); have n4_ := Y0.mk (hb); have n5_ := Y0.mk (hi); clear BK197 HK HB HI0; have BK197 := n0_; have HO219 := n1_; have HO222 := n2_; have HK := n3_; have HB := n4_; have HI0 := n5_; clear n0_ n1_ n2_ n3_ n4_ n5_; (try clear hb); (try clear hb2); (try clear hk); (try clear hi); (try clear ho0); (try clear ho1); have hnb11 := NB197_0.out; have hnc11 := NB0_197.out; obtain ⟨hcz12_0, hcz12_1, hcz12_2, hcz12_3, hfz12_0, hfz12_1, hfz12_2, hfz12_3⟩ := YA BK197.out; obtain ⟨Ao13, co13, eo13⟩ := Kd.R_slice HO219.out; subst eo13; obtain ⟨Ao14, co14, eo14⟩ := Kd.N_slice HO222.out; subst eo14))
   refine bodyPost_ret (results_cell_row rfl _ _ gb197 37 #[.int .i64 t215, .string t216, .slice Ao13 t217.length co13, .slice Ao14 t220.length co14] (0, 0) _ rfl (by (with_reducible repeat (first | refine Yh ?_ _ | refine Yb ?_ | refine Yd ?_ _)); exact YE (cs := #[.int .i64 t215, .string t216, .slice Ao13 t217.length co13, .slice none 0 0]) (by (with_reducible repeat (first | refine Yh ?_ _ | refine Yb ?_ | refine Yd ?_ _)); exact YE (cs := #[.int .i64 t215, .string t216, .slice none 0 0, .slice none 0 0]) (by (with_reducible repeat (first | refine Yh ?_ _ | refine Yb ?_ | refine Yd ?_ _)); exact YE (cs := #[.int .i64 t215, .string (⟨#[]⟩ : ByteArray), .slice none 0 0, .slice none 0 0]) Z1 1 _ rfl) 2 _ rfl) 3 _ rfl) Tryd.underlying37 rfl Z4) rfl ?_
   exact ⟨_, _, Z2, by (with_reducible repeat (first | apply Kd.R_alloc | apply Kd.R_drewN | apply Kd.R_drew)); exact Kd.R_mono (Kd.R_far (p := ⟨gb197, 3, none⟩) (Kd.R_far (p := ⟨gb197, 2, none⟩) (Kd.R_far (p := ⟨gb197, 1, none⟩) (Kd.R_far (p := ⟨gb197, 0, none⟩) (Kd.R_types HO219.out BK197.out (by decide)) (fun _ hk => hk.2) (.int .i64 t215)) (fun _ hk => hk.2) (.string t216)) (fun _ hk => hk.2) (.slice Ao13 t217.length co13)) (fun _ hk => hk.2) (.slice Ao14 t220.length co14)) (fun _ hk => hk.1.1), by (with_reducible repeat (first | apply Kd.N_alloc | apply Kd.N_drewN | apply Kd.N_drew)); exact Kd.N_mono (Kd.N_far (p := ⟨gb197, 3, none⟩) (Kd.N_far (p := ⟨gb197, 2, none⟩) (Kd.N_far (p := ⟨gb197, 1, none⟩) (Kd.N_far (p := ⟨gb197, 0, none⟩) (Kd.N_mono HO222.out (fun k_ hk => (⟨hk, hk.2.2.1⟩ : _ ∧ k_ ≠ gb197))) (fun _ hk => hk.2) (.int .i64 t215)) (fun _ hk => hk.2) (.string t216)) (fun _ hk => hk.2) (.slice Ao13 t217.length co13)) (fun _ hk => hk.2) (.slice Ao14 t220.length co14)) (fun _ hk => ⟨hk.1.1, hk.1.2.1⟩), QI75_0, QB, QK⟩
  ·rw [if_neg c5] at H
   have c5b0 : decide (5 ≤ a1) = false := decide_eq_false c5
   clear c5
   replace H := Option.bind_eq_some_iff.mp H
   obtain ⟨⟨t227, t228, t229, t232, t235, t236, t237, t238⟩, A150, H⟩ := H
   replace H : (some (2, (⟨#[]⟩ : ByteArray), ([] : List ByteArray), (([(⟨t227, t228, t229, t232⟩ : S37)] : List (S37))), t235, t236, t237, t238)) = some (r1, r2, r3, r4, r5, r6, r7, r8) := H
   have A15 := Y0.mk A150
   clear A150
   obtain ⟨y239, hy239⟩ : ∃ y_ : List (S37), y_ = (([(⟨t227, t228, t229, t232⟩ : S37)] : List (S37))) := ⟨_, rfl⟩
   replace H : (some (2, (⟨#[]⟩ : ByteArray), ([] : List ByteArray), y239, t235, t236, t237, t238)) = some (r1, r2, r3, r4, r5, r6, r7, r8) := by first | (rw [hy239]; with_reducible exact H) | (have H2_ := (Option.bind_some _ _).symm.trans H; rw [hy239]; with_reducible exact H2_) | (have H2_ := (Option.bind_some _ _).symm.trans H; with_reducible exact H2_) | with_reducible exact H | (rw [hy239]; exact H) | exact H
   have Ny239 := Y0.mk hy239
   clear hy239
   simp only [Option.some.injEq, Prod.mk.injEq] at H
   obtain ⟨rfl, rfl, rfl, rfl, rfl, rfl, rfl, rfl⟩ := H
   go_enter Tryd.func123, Tryd.ntmps123
   go_wp2_with (first | ((with_reducible refine YF (N := 4) rfl ?_); refine YD ?hg (N := 4) ?hd (cs := #[.int .i64 0, .string (⟨#[]⟩ : ByteArray), .slice none 0 0, .slice none 0 0]) (t := 37) ?hr ?_; (case hd => rfl); (case hg => rfl); (case hr => exact Zb); intro gb197 hg w16 hbox hb; have n_ := Y4q (Yw.below QI75_0 hb) (Y1.trans QK (Y1.of_below hb g none) (.inl rfl)) (Y8 QB hb) (hbox) ((by rw [hg]; exact (Y7 (w := w) (g := g) (row := none) QK) : w.heap.size ≤ gb197)) ((Nat.le_trans HW0.out (by rw [hg]; exact (Y7 (w := w) (g := g) (row := none) QK) : w.heap.size ≤ gb197) : w0.heap.size ≤ gb197)) ((by rw [hg]; exact Nat.ne_of_lt (Yw.lt (show Yw w0 _ g s0_0 s0_1 s0_2 s0_3 from QI75_0)) : g ≠ gb197)) ((by rw [hg]; exact Nat.ne_of_gt (Yw.lt (show Yw w0 _ g s0_0 s0_1 s0_2 s0_3 from QI75_0)) : gb197 ≠ g)); clear HI0 HK HB; obtain ⟨HI0, HK, HB, BK197, GW197, GE197, NB0_197, NB197_0⟩ := n_; clear hb hbox hg) | ((with_reducible refine Yl (f := 53) rfl ?_); refine YO (some 6) rfl rfl Tryd.func53 Z4 rfl #[.pointer (some ⟨g, 0, none⟩)] rfl Z0 ?_; (with_reducible refine (Ym.calls k g s0_0 s0_1 s0_2 s0_3 t198 t199 t200 t201 t202 w0 _ ?side1 ?side2 A3.out).mono ?_); (case side1 => exact Z1k); (case side2 => exact QB); rintro e w17 ⟨rfl, hi, hb, hk⟩; refine ⟨_, rfl, ?_⟩; have n_ := Y2N (Y1.blk hk (g' := gb197) (o := .cells #[.int .i64 0, .string (⟨#[]⟩ : ByteArray), .slice none 0 0, .slice none 0 0] 37 (0, 0)) QQ NB197_0.out (by simp)) (Y1.trans QK hk (.inl rfl)) (hb) (hi); clear BK197 HK HB HI0; obtain ⟨BK197, HK, HB, HI0⟩ := n_; (try clear hb); (try clear hb2); (try clear hk); (try clear hi); obtain ⟨HGz18, hgz18⟩ := HI0.out; have hcz18_0 := YX HGz18; have hcz18_1 := YY HGz18; have hcz18_2 := YZ HGz18; have hcz18_3 := Y10 HGz18; have hfz18_0 := Y6 HGz18 0; have hfz18_1 := Y6 HGz18 1; have hfz18_2 := Y6 HGz18 2; have hfz18_3 := Y6 HGz18 3; clear HGz18 hgz18) | ((with_reducible refine Yl (f := 123) rfl ?_); refine YO (some 29) rfl rfl Tryd.func123 Z4 rfl #[.pointer (some ⟨g, 0, none⟩), .int .i64 (wrap64 (a1 + 1))] rfl Z0 ?_; (with_reducible refine ((ih k (by omega)).2.2.2.1 g t199 (wrap64 (t200 + 1)) t201 t202 (wrap64 (a1 + 1)) t227 t228 t229 t232 t235 t236 t237 t238 w0 _ ?side1 ?side2 ?side3 A15.out).mono ?_); (case side1 => exact Z1k); (case side2 => exact QB); (case side3 => exact Z22); rintro e w19 ⟨v230, v233, rfl, ho0, ho1, hi, hb, hk⟩; refine ⟨_, rfl, ?_⟩; have n0_ := Y0.mk (Y1.blk hk (g' := gb197) (o := .cells #[.int .i64 0, .string (⟨#[]⟩ : ByteArray), .slice none 0 0, .slice none 0 0] 37 (0, 0)) Z1O NB197_0.out (by simp)); have n1_ := Y0.mk (Kd.R_lower (Kd.R_newM (M := fun k_ => (w.heap.size ≤ k_)) (Kd.R_mono (ok' := fun k_ => True) ho0 (fun _ hk_ => trivial)) (Y7 (w := w) (g := g) (row := none) QK) (fun k_ h_ => h_)) (Y7 (w := w) (g := g) (row := none) QK)); have n2_ := Y0.mk (Kd.N_lower (Kd.N_mono (ok' := fun k_ => (w.heap.size ≤ k_) ∧ some k_ ≠ (v230 : Value).ownBlock ∧ k_ ≠ gb197 ∧ k_ ≠ g) ho1 (fun k_ hk_ => ⟨(Nat.le_trans (Y7 (w := w) (g := g) (row := none) QK) hk_.1), hk_.2, (Kd.freshB (g := gb197) (o := .cells #[.int .i64 0, .string (⟨#[]⟩ : ByteArray), .slice none 0 0, .slice none 0 0] 37 (0, 0)) Z1O k_ hk_.1), (Yw.fresh QI75_0 k_ hk_.1)⟩)) (Y7 (w := w) (g := g) (row := none) QK)); have n3_ := Y0.mk (Y1.trans QK hk (.inl rfl)); have n4_ := Y0.mk (hb); have n5_ := Y0.mk (hi); clear BK197 HK HB HI0; have BK197 := n0_; have HO231 := n1_; have HO234 := n2_; have HK := n3_; have HB := n4_; have HI0 := n5_; clear n0_ n1_ n2_ n3_ n4_ n5_; (try clear hb); (try clear hb2); (try clear hk); (try clear hi); (try clear ho0); (try clear ho1); obtain ⟨Ao20, co20, eo20⟩ := Kd.R_slice HO231.out; subst eo20; obtain ⟨Ao21, co21, eo21⟩ := Kd.N_slice HO234.out; subst eo21) | ((with_reducible refine YF (N := 30) rfl ?_); refine Kd.N_lit k37 _ 37 ?hg (N' := 30) ?hd (xs := ([(⟨t227, t228, t229, t232⟩ : S37)] : List (S37))) (inner := [.int .i64 t227, .string t228, .slice Ao20 t229.length co20, .slice Ao21 t232.length co21]) (ok := (fun k_ => (w.heap.size ≤ k_) ∧ k_ ≠ gb197 ∧ k_ ≠ g)) (okp := (fun k_ => (w.heap.size ≤ k_) ∧ k_ ≠ gb197 ∧ k_ ≠ g)) ?hr ?hp (fun _ hk => hk) ((show ∀ k_, w19.heap.size ≤ k_ → (fun k_ => (w.heap.size ≤ k_) ∧ k_ ≠ gb197 ∧ k_ ≠ g) k_ from fun k_ hk => ⟨(Nat.le_trans (Y7 (w := w) (g := g) (row := none) QK) hk), Kd.freshB (g := gb197) (o := .cells #[.int .i64 0, .string (⟨#[]⟩ : ByteArray), .slice none 0 0, .slice none 0 0] 37 (0, 0)) QQ k_ hk, Yw.fresh QI75_0 k_ hk⟩) _ (Nat.le_refl _)) (Below.refl _ _) (Nat.le_refl _) (by simp) ?_; (case hd => rfl); (case hg => rfl); (case hr => exact Zb); (case hp => exact (Y1F.c4 (show Kd.FK k37 _ _ (⟨t227, t228, t229, t232⟩ : S37) [.int .i64 t227, .string t228, .slice Ao20 t229.length co20, .slice Ao21 t232.length co21] from (Y2g _ _ (⟨t227, t228, t229, t232⟩ : S37) (Kd.R_reads' (Kd.R_mono (ok' := (fun k_ => (w.heap.size ≤ k_) ∧ k_ ≠ gb197 ∧ k_ ≠ g)) (Yw.apart HI0.out (Kd.R_types (HO231.out) BK197.out (by decide)) (by decide)) (fun k_ hk => ⟨hk.1.1.1, ⟨hk.1.2, hk.2⟩⟩))).2.1 (Kd.R_F (Kd.R_mono (ok' := (fun k_ => (w.heap.size ≤ k_) ∧ k_ ≠ gb197 ∧ k_ ≠ g)) (Yw.apart HI0.out (Kd.R_types (HO231.out) BK197.out (by decide)) (by decide)) (fun k_ hk => ⟨hk.1.1.1, ⟨hk.1.2, hk.2⟩⟩))) (Kd.N_reads' (Kd.N_mono (ok' := (fun k_ => (w.heap.size ≤ k_) ∧ k_ ≠ gb197 ∧ k_ ≠ g)) (HO234.out) (fun k_ hk => ⟨hk.1, ⟨hk.2.2.1, hk.2.2.2⟩⟩))).2.1 (Kd.N_F (Kd.N_mono (ok' := (fun k_ => (w.heap.size ≤ k_) ∧ k_ ≠ gb197 ∧ k_ ≠ g)) (HO234.out) (fun k_ hk => ⟨hk.1, ⟨hk.2.2.1, hk.2.2.2⟩⟩))))) (Y1F.none _ _))); intro v240 w22 ho23 hb hg_ hnew_; clear hg_ hnew_; (first | rw [← Ny239.out] at ho23 | (simp only [Int.reduceToNat] at ho23; rw [← Ny239.out] at ho23)); have n_ := Y4L (Kd.N_lower ho23 (Y7 (w := w) (g := g) (row := none) QK)) (Yw.below QI75_0 hb) (Yt (g := gb197) (o := .cells #[.int .i64 0, .string (⟨#[]⟩ : ByteArray), .slice none 0 0, .slice none 0 0] 37 (0, 0)) QQ hb) (Y1.trans QK (Y1.of_below hb g none) (.inl rfl)) (Y8 QB hb); clear HI0 BK197 HK HB HO231 HO234; obtain ⟨HO241, HI0, BK197, HK, HB⟩ := n_; clear hb ho23; obtain ⟨Ao24, co24, eo24⟩ := Kd.N_slice HO241.out; subst eo24; have hnb25 := NB197_0.out; have hnc25 := NB0_197.out; obtain ⟨hcz26_0, hcz26_1, hcz26_2, hcz26_3, hfz26_0, hfz26_1, hfz26_2, hfz26_3⟩ := YA BK197.out))
   refine bodyPost_ret (results_cell_row rfl _ _ gb197 37 #[.int .i64 2, .string (⟨#[]⟩ : ByteArray), .slice none 0 0, .slice Ao24 y239.length co24] (0, 0) _ rfl Z2j Tryd.underlying37 rfl Z4) rfl ?_
   exact ⟨_, _, Z2, Z5, by (with_reducible repeat (first | apply Kd.N_alloc | apply Kd.N_drewN | apply Kd.N_drew)); exact Kd.N_mono (Kd.N_far (p := ⟨gb197, 3, none⟩) (Kd.N_far (p := ⟨gb197, 2, none⟩) (Kd.N_far (p := ⟨gb197, 1, none⟩) (Kd.N_far (p := ⟨gb197, 0, none⟩) (Kd.N_mono HO241.out (fun k_ hk => (⟨hk, hk.2.1⟩ : _ ∧ k_ ≠ gb197))) (fun _ hk => hk.2) (.int .i64 2)) (fun _ hk => hk.2) (.string (⟨#[]⟩ : ByteArray))) (fun _ hk => hk.2) (.slice none 0 0)) (fun _ hk => hk.2) (.slice Ao24 y239.length co24)) (fun _ hk => ⟨hk.1.1, Z2p⟩), QI75_0, QB, QK⟩
 ·rw [if_neg c4] at H
  have c4b0 : (t198 == 94) = false := beq_eq_false_iff_ne.mpr c4
  have c4b1 : (t198 != 94) = true := bne_iff_ne.mpr c4
  replace H := Option.bind_eq_some_iff.mp H
  obtain ⟨⟨t203, t204, t205, t208, t211, t212, t213, t214⟩, A270, H⟩ := H
  replace H : (some (t203, t204, t205, t208, t211, t212, t213, t214)) = some (r1, r2, r3, r4, r5, r6, r7, r8) := H
  have A27 := Y0.mk A270
  clear A270
  simp only [Option.some.injEq, Prod.mk.injEq] at H
  obtain ⟨rfl, rfl, rfl, rfl, rfl, rfl, rfl, rfl⟩ := H
  go_enter Tryd.func123, Tryd.ntmps123
  go_wp2_with (first | ((with_reducible refine YF (N := 4) rfl ?_); refine YD ?hg (N := 4) ?hd (cs := #[.int .i64 0, .string (⟨#[]⟩ : ByteArray), .slice none 0 0, .slice none 0 0]) (t := 37) ?hr ?_; (case hd => rfl); (case hg => rfl); (case hr => exact Zb); intro gb197 hg w28 hbox hb; have n_ := Y4q (Yw.below QI75_0 hb) (Y1.trans QK (Y1.of_below hb g none) (.inl rfl)) (Y8 QB hb) (hbox) ((by rw [hg]; exact (Y7 (w := w) (g := g) (row := none) QK) : w.heap.size ≤ gb197)) ((Nat.le_trans HW0.out (by rw [hg]; exact (Y7 (w := w) (g := g) (row := none) QK) : w.heap.size ≤ gb197) : w0.heap.size ≤ gb197)) ((by rw [hg]; exact Nat.ne_of_lt (Yw.lt (show Yw w0 _ g s0_0 s0_1 s0_2 s0_3 from QI75_0)) : g ≠ gb197)) ((by rw [hg]; exact Nat.ne_of_gt (Yw.lt (show Yw w0 _ g s0_0 s0_1 s0_2 s0_3 from QI75_0)) : gb197 ≠ g)); clear HI0 HK HB; obtain ⟨HI0, HK, HB, BK197, GW197, GE197, NB0_197, NB197_0⟩ := n_; clear hb hbox hg) | ((with_reducible refine Yl (f := 53) rfl ?_); refine YO (some 6) rfl rfl Tryd.func53 Z4 rfl #[.pointer (some ⟨g, 0, none⟩)] rfl Z0 ?_; (with_reducible refine (Ym.calls k g s0_0 s0_1 s0_2 s0_3 t198 t199 t200 t201 t202 w0 _ ?side1 ?side2 A3.out).mono ?_); (case side1 => exact Z1k); (case side2 => exact QB); rintro e w29 ⟨rfl, hi, hb, hk⟩; refine ⟨_, rfl, ?_⟩; have n_ := Y2N (Y1.blk hk (g' := gb197) (o := .cells #[.int .i64 0, .string (⟨#[]⟩ : ByteArray), .slice none 0 0, .slice none 0 0] 37 (0, 0)) QQ NB197_0.out (by simp)) (Y1.trans QK hk (.inl rfl)) (hb) (hi); clear BK197 HK HB HI0; obtain ⟨BK197, HK, HB, HI0⟩ := n_; (try clear hb); (try clear hb2); (try clear hk); (try clear hi)) | ((with_reducible refine Yl (f := 134) rfl ?_); refine YO (some 10) rfl rfl Tryd.func134 Z4 rfl #[.pointer (some ⟨g, 0, none⟩), .int .i64 a1] rfl Z0 ?_; (with_reducible refine ((ih k (by omega)).2.2.2.2 g t199 t200 t201 t202 a1 t203 t204 t205 t208 t211 t212 t213 t214 w0 _ ?side1 ?side2 ?side3 A27.out).mono ?_); (case side1 => exact Z1k); (case side2 => exact QB); (case side3 => exact Z22); rintro e w30 ⟨v206, v209, rfl, ho0, ho1, hi, hb, hk⟩; refine ⟨_, rfl, ?_⟩; have n0_ := Y0.mk (Y1.blk hk (g' := gb197) (o := .cells #[.int .i64 0, .string (⟨#[]⟩ : ByteArray), .slice none 0 0, .slice none 0 0] 37 (0, 0)) QQ NB197_0.out (by simp)); have n1_ := Y0.mk (Kd.R_lower (Kd.R_newM (M := fun k_ => (w.heap.size ≤ k_)) (Kd.R_mono (ok' := fun k_ => True) ho0 (fun _ hk_ => trivial)) (Y7 (w := w) (g := g) (row := none) QK) (fun k_ h_ => h_)) (Y7 (w := w) (g := g) (row := none) QK)); have n2_ := Y0.mk (Kd.N_lower (Kd.N_mono (ok' := fun k_ => (w.heap.size ≤ k_) ∧ some k_ ≠ (v206 : Value).ownBlock ∧ k_ ≠ gb197 ∧ k_ ≠ g) ho1 (fun k_ hk_ => ⟨(Nat.le_trans (Y7 (w := w) (g := g) (row := none) QK) hk_.1), hk_.2, (Kd.freshB (g := gb197) (o := .cells #[.int .i64 0, .string (⟨#[]⟩ : ByteArray), .slice none 0 0, .slice none 0 0] 37 (0, 0)) QQ k_ hk_.1), (Yw.fresh QI75_0 k_ hk_.1)⟩)) (Y7 (w := w) (g := g) (row := none) QK)); have n3_ := Y0.mk (Y1.trans QK hk (.inl rfl)); have n4_ := Y0.mk (hb); have n5_ := Y0.mk (hi); clear BK197 HK HB HI0; have BK197 := n0_; have HO207 := n1_; have HO210 := n2_; have HK := n3_; have HB := n4_; have HI0 := n5_; clear n0_ n1_ n2_ n3_ n4_ n5_; (try clear hb); (try clear hb2); (try clear hk); (try clear hi); (try clear ho0); (try clear ho1); have hnb31 := NB197_0.out; have hnc31 := NB0_197.out; obtain ⟨hcz32_0, hcz32_1, hcz32_2, hcz32_3, hfz32_0, hfz32_1, hfz32_2, hfz32_3⟩ := YA BK197.out; obtain ⟨Ao33, co33, eo33⟩ := Kd.R_slice HO207.out; subst eo33; obtain ⟨Ao34, co34, eo34⟩ := Kd.N_slice HO210.out; subst eo34))
  refine bodyPost_ret (results_cell_row rfl _ _ gb197 37 #[.int .i64 t203, .string t204, .slice Ao33 t205.length co33, .slice Ao34 t208.length co34] (0, 0) _ rfl (by (with_reducible repeat (first | refine Yh ?_ _ | refine Yb ?_ | refine Yd ?_ _)); exact YE (cs := #[.int .i64 t203, .string t204, .slice Ao33 t205.length co33, .slice none 0 0]) (by (with_reducible repeat (first | refine Yh ?_ _ | refine Yb ?_ | refine Yd ?_ _)); exact YE (cs := #[.int .i64 t203, .string t204, .slice none 0 0, .slice none 0 0]) (by (with_reducible repeat (first | refine Yh ?_ _ | refine Yb ?_ | refine Yd ?_ _)); exact YE (cs := #[.int .i64 t203, .string (⟨#[]⟩ : ByteArray), .slice none 0 0, .slice none 0 0]) Z1 1 _ rfl) 2 _ rfl) 3 _ rfl) Tryd.underlying37 rfl Z4) rfl ?_
  exact ⟨_, _, Z2, by (with_reducible repeat (first | apply Kd.R_alloc | apply Kd.R_drewN | apply Kd.R_drew)); exact Kd.R_mono (Kd.R_far (p := ⟨gb197, 3, none⟩) (Kd.R_far (p := ⟨gb197, 2, none⟩) (Kd.R_far (p := ⟨gb197, 1, none⟩) (Kd.R_far (p := ⟨gb197, 0, none⟩) (Kd.R_types HO207.out BK197.out (by decide)) (fun _ hk => hk.2) (.int .i64 t203)) (fun _ hk => hk.2) (.string t204)) (fun _ hk => hk.2) (.slice Ao33 t205.length co33)) (fun _ hk => hk.2) (.slice Ao34 t208.length co34)) (fun _ hk => hk.1.1), by (with_reducible repeat (first | apply Kd.N_alloc | apply Kd.N_drewN | apply Kd.N_drew)); exact Kd.N_mono (Kd.N_far (p := ⟨gb197, 3, none⟩) (Kd.N_far (p := ⟨gb197, 2, none⟩) (Kd.N_far (p := ⟨gb197, 1, none⟩) (Kd.N_far (p := ⟨gb197, 0, none⟩) (Kd.N_mono HO210.out (fun k_ hk => (⟨hk, hk.2.2.1⟩ : _ ∧ k_ ≠ gb197))) (fun _ hk => hk.2) (.int .i64 t203)) (fun _ hk => hk.2) (.string t204)) (fun _ hk => hk.2) (.slice Ao33 t205.length co33)) (fun _ hk => hk.2) (.slice Ao34 t208.length co34)) (fun _ hk => ⟨hk.1.1, hk.1.2.1⟩), QI75_0, QB, QK⟩
set_option maxHeartbeats 8000000 in
set_option maxRecDepth 100000 in
theorem YN.step (k : Nat) (ih : ∀ j_ < k, Yq.Spec j_ ∧ Yz.Spec j_ ∧ Yi.Spec j_ ∧ YH.Spec j_ ∧ YN.Spec j_) : ∀ (g : Nat) (s0_0 : ByteArray) (s0_1 : Int) (s0_2 : Int) (s0_3 : Int) (a1 : Int) (r1 : Int) (r2 : ByteArray) (r3 : List ByteArray) (r4 : List (S37)) (r5 : ByteArray) (r6 : Int) (r7 : Int) (r8 : Int) (w0 w : World) (hI : Yw w0 w g s0_0 s0_1 s0_2 s0_3) (hB : Below w0.heap.size w0 w) (hT : Tabs w0) (h : YN.f k s0_0 s0_1 s0_2 s0_3 a1 = some (r1, r2, r3, r4, r5, r6, r7, r8)),
  Calls Tryd.prog 134 #[.pointer (some ⟨g, 0, none⟩), .int .i64 a1] w fun e w' => ∃ v2_ v3_ : Value, e = .returned (.agg #[.int .i64 r1, .string r2, v2_, v3_]) ∧ Kd.R Kd.string 9 w' w.heap.size (fun k_ => (w.heap.size ≤ k_)) v2_ r3 ∧ Kd.N k37 37 w' w.heap.size (fun k_ => (w.heap.size ≤ k_) ∧ some k_ ≠ (v2_ : Value).ownBlock) v3_ r4 ∧ Yw w0 w' g r5 r6 r7 r8 ∧ Below w0.heap.size w0 w' ∧ Y1 w w' g none := by
 intro g s0_0 s0_1 s0_2 s0_3 a1 r1 r2 r3 r4 r5 r6 r7 r8 w0 w hI hB hT h
 cases k with
 | zero => exact absurd h (by simp [YN.f])
 | succ k =>
 simp only [YN.f] at h
 have HT := Y0.mk hT
 clear hT
 have hu37 := Tryd.underlying37
 have HI0 := Y0.mk hI
 have HK := Y0.mk (Y1.refl w g none)
 have HL := Y0.mk hB.size
 clear hI
 have HW0 := Y0.mk hB.size
 have HB := Y0.mk hB
 clear hB
 have H : ((Ym.f k s0_0 s0_1 s0_2 s0_3).bind fun bt243 => (if bt243.1 = 60 then ((YR.f k bt243.2.1 bt243.2.2.1 bt243.2.2.2.1 bt243.2.2.2.2).bind fun bt248 => (some (1, bt248.1, ([] : List ByteArray), ([] : List (S37)), bt248.2.1, bt248.2.2.1, bt248.2.2.2.1, bt248.2.2.2.2))) else (if bt243.1 = 33 then ((Yk.f k bt243.2.1 (wrap64 (bt243.2.2.1 + 1)) bt243.2.2.2.1 bt243.2.2.2.2).bind fun bt253 => (some (bt253.1, bt253.2.1, bt253.2.2.1, bt253.2.2.2.1, bt253.2.2.2.2.1, bt253.2.2.2.2.2.1, bt253.2.2.2.2.2.2.1, bt253.2.2.2.2.2.2.2))) else (if bt243.1 = 40 then (if a1 ≥ 5 then ((Ys.f bt243.2.1 bt243.2.2.1 bt243.2.2.2.1 bt243.2.2.2.2 bt243.2.2.1 3).bind fun bt265 => (some (bt265.1, bt265.2.1, bt265.2.2.1, bt265.2.2.2.1, bt265.2.2.2.2.1, bt265.2.2.2.2.2.1, bt265.2.2.2.2.2.2.1, bt265.2.2.2.2.2.2.2))) else ((Yq.f k bt243.2.1 (wrap64 (bt243.2.2.1 + 1)) bt243.2.2.2.1 bt243.2.2.2.2 (wrap64 (a1 + 1))).bind fun bt277 => ((YT.f k bt277.2.2.2.2.1 bt277.2.2.2.2.2.1 bt277.2.2.2.2.2.2.1 bt277.2.2.2.2.2.2.2 41).bind fun bt290 => (some (bt277.1, bt277.2.1, bt277.2.2.1, bt277.2.2.2.1, bt290.1, bt290.2.1, bt290.2.2.1, bt290.2.2.2))))) else ((Ys.f bt243.2.1 bt243.2.2.1 bt243.2.2.2.1 bt243.2.2.2.2 bt243.2.2.1 2).bind fun bt294 => (some (bt294.1, bt294.2.1, bt294.2.2.1, bt294.2.2.2.1, bt294.2.2.2.2.1, bt294.2.2.2.2.2.1, bt294.2.2.2.2.2.2.1, bt294.2.2.2.2.2.2.2))))))) = some (r1, r2, r3, r4, r5, r6, r7, r8) := h
 clear h
 replace H := Option.bind_eq_some_iff.mp H
 obtain ⟨⟨t243, t244, t245, t246, t247⟩, A30, H⟩ := H
 replace H : (if t243 = 60 then ((YR.f k t244 t245 t246 t247).bind fun bt248 => (some (1, bt248.1, ([] : List ByteArray), ([] : List (S37)), bt248.2.1, bt248.2.2.1, bt248.2.2.2.1, bt248.2.2.2.2))) else (if t243 = 33 then ((Yk.f k t244 (wrap64 (t245 + 1)) t246 t247).bind fun bt253 => (some (bt253.1, bt253.2.1, bt253.2.2.1, bt253.2.2.2.1, bt253.2.2.2.2.1, bt253.2.2.2.2.2.1, bt253.2.2.2.2.2.2.1, bt253.2.2.2.2.2.2.2))) else (if t243 = 40 then (if a1 ≥ 5 then ((Ys.f t244 t245 t246 t247 t245 3).bind fun bt265 => (some (bt265.1, bt265.2.1, bt265.2.2.1, bt265.2.2.2.1, bt265.2.2.2.2.1, bt265.2.2.2.2.2.1, bt265.2.2.2.2.2.2.1, bt265.2.2.2.2.2.2.2))) else ((Yq.f k t244 (wrap64 (t245 + 1)) t246 t247 (wrap64 (a1 + 1))).bind fun bt277 => ((YT.f k bt277.2.2.2.2.1 bt277.2.2.2.2.2.1 bt277.2.2.2.2.2.2.1 bt277.2.2.2.2.2.2.2 41).bind fun bt290 => (some (bt277.1, bt277.2.1, bt277.2.2.1, bt277.2.2.2.1, bt290.1, bt290.2.1, bt290.2.2.1, bt290.2.2.2))))) else ((Ys.f t244 t245 t246 t247 t245 2).bind fun bt294 => (some (bt294.1, bt294.2.1, bt294.2.2.1, bt294.2.2.2.1, bt294.2.2.2.2.1, bt294.2.2.2.2.2.1, bt294.2.2.2.2.2.2.1, bt294.2.2.2.2.2.2.2)))))) = some (r1, r2, r3, r4, r5, r6, r7, r8) := H
 have A3 := Y0.mk A30
 clear A30
 by_cases c4 : t243 = 60
 ·rw [if_pos c4] at H
  have c4b0 : (t243 == 60) = true := beq_iff_eq.mpr c4
  have c4b1 : (t243 != 60) = false := bne_eq_false_iff_eq.mpr c4
  clear c4
  replace H := Option.bind_eq_some_iff.mp H
  obtain ⟨⟨t248, t249, t250, t251, t252⟩, A50, H⟩ := H
  replace H : (some (1, t248, ([] : List ByteArray), ([] : List (S37)), t249, t250, t251, t252)) = some (r1, r2, r3, r4, r5, r6, r7, r8) := H
  have A5 := Y0.mk A50
  clear A50
  simp only [Option.some.injEq, Prod.mk.injEq] at H
  obtain ⟨rfl, rfl, rfl, rfl, rfl, rfl, rfl, rfl⟩ := H
  go_enter Tryd.func134, Tryd.ntmps134
  go_wp2_with (first | ((with_reducible refine YF (N := 4) rfl ?_); refine YD ?hg (N := 4) ?hd (cs := #[.int .i64 0, .string (⟨#[]⟩ : ByteArray), .slice none 0 0, .slice none 0 0]) (t := 37) ?hr ?_; (case hd => rfl); (case hg => rfl); (case hr => exact Zb); intro gb242 hg w6 hbox hb; have n_ := Y4q (Yw.below QI75_0 hb) (Y1.trans QK (Y1.of_below hb g none) (.inl rfl)) (Y8 QB hb) (hbox) ((by rw [hg]; exact (Y7 (w := w) (g := g) (row := none) QK) : w.heap.size ≤ gb242)) ((Nat.le_trans HW0.out (by rw [hg]; exact (Y7 (w := w) (g := g) (row := none) QK) : w.heap.size ≤ gb242) : w0.heap.size ≤ gb242)) ((by rw [hg]; exact Nat.ne_of_lt (Yw.lt (show Yw w0 _ g s0_0 s0_1 s0_2 s0_3 from QI75_0)) : g ≠ gb242)) ((by rw [hg]; exact Nat.ne_of_gt (Yw.lt (show Yw w0 _ g s0_0 s0_1 s0_2 s0_3 from QI75_0)) : gb242 ≠ g)); clear HI0 HK HB; obtain ⟨HI0, HK, HB, BK242, GW242, GE242, NB0_242, NB242_0⟩ := n_; clear hb hbox hg) | ((with_reducible refine Yl (f := 53) rfl ?_); refine YO (some 7) rfl rfl Tryd.func53 Z4 rfl #[.pointer (some ⟨g, 0, none⟩)] rfl Z0 ?_; (with_reducible refine (Ym.calls k g s0_0 s0_1 s0_2 s0_3 t243 t244 t245 t246 t247 w0 _ ?side1 ?side2 A3.out).mono ?_); (case side1 => exact Z1k); (case side2 => exact QB); rintro e w7 ⟨rfl, hi, hb, hk⟩; refine ⟨_, rfl, ?_⟩; have n_ := Y2N (Y1.blk hk (g' := gb242) (o := .cells #[.int .i64 0, .string (⟨#[]⟩ : ByteArray), .slice none 0 0, .slice none 0 0] 37 (0, 0)) QQ NB242_0.out (by simp)) (Y1.trans QK hk (.inl rfl)) (hb) (hi); clear BK242 HK HB HI0; obtain ⟨BK242, HK, HB, HI0⟩ := n_; (try clear hb); (try clear hb2); (try clear hk); (try clear hi)) | ((with_reducible refine Yl (f := 140) rfl ?_); refine YO (some 11) rfl rfl Tryd.func140 Z4 rfl #[.pointer (some ⟨g, 0, none⟩)] rfl Z0 ?_; (with_reducible refine (YR.calls k g t244 t245 t246 t247 t248 t249 t250 t251 t252 w0 _ ?side1 ?side2 ?side3 A5.out).mono ?_); (case side1 => exact Z1k); (case side2 => exact QB); (case side3 => exact Z22); rintro e w8 ⟨rfl, hi, hb, hk⟩; refine ⟨_, rfl, ?_⟩; have n_ := Y2N (Y1.blk hk (g' := gb242) (o := .cells #[.int .i64 0, .string (⟨#[]⟩ : ByteArray), .slice none 0 0, .slice none 0 0] 37 (0, 0)) QQ NB242_0.out (by simp)) (Y1.trans QK hk (.inl rfl)) (hb) (hi); clear BK242 HK HB HI0; obtain ⟨BK242, HK, HB, HI0⟩ := n_; (try clear hb); (try clear hb2); (try clear hk); (try clear hi); have hnb9 := NB242_0.out; have hnc9 := NB0_242.out; obtain ⟨hcz10_0, hcz10_1, hcz10_2, hcz10_3, hfz10_0, hfz10_1, hfz10_2, hfz10_3⟩ := YA BK242.out))
  refine bodyPost_ret (results_cell_row rfl _ _ gb242 37 #[.int .i64 1, .string t248, .slice none 0 0, .slice none 0 0] (0, 0) _ rfl (by (with_reducible repeat (first | refine Yh ?_ _ | refine Yb ?_ | refine Yd ?_ _)); exact YE (cs := #[.int .i64 1, .string t248, .slice none 0 0, .slice none 0 0]) (by (with_reducible repeat (first | refine Yh ?_ _ | refine Yb ?_ | refine Yd ?_ _)); exact YE (cs := #[.int .i64 1, .string t248, .slice none 0 0, .slice none 0 0]) Z2t 2 _ rfl) 3 _ rfl) Tryd.underlying37 rfl Z4) rfl ?_
  exact ⟨_, _, Z2, Z5, Z5, QI75_0, QB, QK⟩
 ·rw [if_neg c4] at H
  have c4b0 : (t243 == 60) = false := beq_eq_false_iff_ne.mpr c4
  have c4b1 : (t243 != 60) = true := bne_iff_ne.mpr c4
  by_cases c11 : t243 = 33
  ·rw [if_pos c11] at H
   have c11b0 : (t243 == 33) = true := beq_iff_eq.mpr c11
   have c11b1 : (t243 != 33) = false := bne_eq_false_iff_eq.mpr c11
   clear c11
   replace H := Option.bind_eq_some_iff.mp H
   obtain ⟨⟨t253, t254, t255, t258, t261, t262, t263, t264⟩, A120, H⟩ := H
   replace H : (some (t253, t254, t255, t258, t261, t262, t263, t264)) = some (r1, r2, r3, r4, r5, r6, r7, r8) := H
   have A12 := Y0.mk A120
   clear A120
   simp only [Option.some.injEq, Prod.mk.injEq] at H
   obtain ⟨rfl, rfl, rfl, rfl, rfl, rfl, rfl, rfl⟩ := H
   go_enter Tryd.func134, Tryd.ntmps134
   go_wp2_with (first | ((with_reducible refine YF (N := 4) rfl ?_); refine YD ?hg (N := 4) ?hd (cs := #[.int .i64 0, .string (⟨#[]⟩ : ByteArray), .slice none 0 0, .slice none 0 0]) (t := 37) ?hr ?_; (case hd => rfl); (case hg => rfl); (case hr => exact Zb); intro gb242 hg w13 hbox hb; have n_ := Y4q (Yw.below QI75_0 hb) (Y1.trans QK (Y1.of_below hb g none) (.inl rfl)) (Y8 QB hb) (hbox) ((by rw [hg]; exact (Y7 (w := w) (g := g) (row := none) QK) : w.heap.size ≤ gb242)) ((Nat.le_trans HW0.out (by rw [hg]; exact (Y7 (w := w) (g := g) (row := none) QK) : w.heap.size ≤ gb242) : w0.heap.size ≤ gb242)) ((by rw [hg]; exact Nat.ne_of_lt (Yw.lt (show Yw w0 _ g s0_0 s0_1 s0_2 s0_3 from QI75_0)) : g ≠ gb242)) ((by rw [hg]; exact Nat.ne_of_gt (Yw.lt (show Yw w0 _ g s0_0 s0_1 s0_2 s0_3 from QI75_0)) : gb242 ≠ g)); clear HI0 HK HB; obtain ⟨HI0, HK, HB, BK242, GW242, GE242, NB0_242, NB242_0⟩ := n_; clear hb hbox hg) | ((with_reducible refine Yl (f := 53) rfl ?_); refine YO (some 7) rfl rfl Tryd.func53 Z4 rfl #[.pointer (some ⟨g, 0, none⟩)] rfl Z0 ?_; (with_reducible refine (Ym.calls k g s0_0 s0_1 s0_2 s0_3 t243 t244 t245 t246 t247 w0 _ ?side1 ?side2 A3.out).mono ?_); (case side1 => exact Z1k); (case side2 => exact QB); rintro e w14 ⟨rfl, hi, hb, hk⟩; refine ⟨_, rfl, ?_⟩; have n_ := Y2N (Y1.blk hk (g' := gb242) (o := .cells #[.int .i64 0, .string (⟨#[]⟩ : ByteArray), .slice none 0 0, .slice none 0 0] 37 (0, 0)) QQ NB242_0.out (by simp)) (Y1.trans QK hk (.inl rfl)) (hb) (hi); clear BK242 HK HB HI0; obtain ⟨BK242, HK, HB, HI0⟩ := n_; (try clear hb); (try clear hb2); (try clear hk); (try clear hi); obtain ⟨HGz15, hgz15⟩ := HI0.out; have hcz15_0 := YX HGz15; have hcz15_1 := YY HGz15; have hcz15_2 := YZ HGz15; have hcz15_3 := Y10 HGz15; have hfz15_0 := Y6 HGz15 0; have hfz15_1 := Y6 HGz15 1; have hfz15_2 := Y6 HGz15 2; have hfz15_3 := Y6 HGz15 3; clear HGz15 hgz15) | ((with_reducible refine Yl (f := 141) rfl ?_); refine YO (some 23) rfl rfl Tryd.func141 Z4 rfl #[.pointer (some ⟨g, 0, none⟩)] rfl Z0 ?_; (with_reducible refine (Yk.calls k g t244 (wrap64 (t245 + 1)) t246 t247 t253 t254 t255 t258 t261 t262 t263 t264 w0 _ ?side1 ?side2 ?side3 A12.out).mono ?_); (case side1 => exact Z1k); (case side2 => exact QB); (case side3 => exact Z22); rintro e w16 ⟨v256, v259, rfl, ho0, ho1, hi, hb, hk⟩; refine ⟨_, rfl, ?_⟩; have n0_ := Y0.mk (Y1.blk hk (g' := gb242) (o := .cells #[.int .i64 0, .string (⟨#[]⟩ : ByteArray), .slice none 0 0, .slice none 0 0] 37 (0, 0)) Z1c NB242_0.out (by simp)); have n1_ := Y0.mk (Kd.R_lower (Kd.R_newM (M := fun k_ => (w.heap.size ≤ k_)) ho0 (Y7 (w := w) (g := g) (row := none) QK) (fun k_ h_ => h_)) (Y7 (w := w) (g := g) (row := none) QK)); have n2_ := Y0.mk (Kd.N_lower (Kd.N_mono (ok' := fun k_ => (w.heap.size ≤ k_) ∧ some k_ ≠ (v256 : Value).ownBlock ∧ k_ ≠ gb242 ∧ k_ ≠ g) (Kd.R_N (Kd.R_bound ho1)) (fun k_ hk_ => ⟨(Nat.le_trans (Y7 (w := w) (g := g) (row := none) QK) hk_.2.1), hk_.1, (Kd.freshB (g := gb242) (o := .cells #[.int .i64 0, .string (⟨#[]⟩ : ByteArray), .slice none 0 0, .slice none 0 0] 37 (0, 0)) Z1c k_ hk_.2.1), (Yw.fresh QI75_0 k_ hk_.2.1)⟩)) (Y7 (w := w) (g := g) (row := none) QK)); have n3_ := Y0.mk (Y1.trans QK hk (.inl rfl)); have n4_ := Y0.mk (hb); have n5_ := Y0.mk (hi); clear BK242 HK HB HI0; have BK242 := n0_; have HO257 := n1_; have HO260 := n2_; have HK := n3_; have HB := n4_; have HI0 := n5_; clear n0_ n1_ n2_ n3_ n4_ n5_; (try clear hb); (try clear hb2); (try clear hk); (try clear hi); (try clear ho0); (try clear ho1); have hnb17 := NB242_0.out; have hnc17 := NB0_242.out; obtain ⟨hcz18_0, hcz18_1, hcz18_2, hcz18_3, hfz18_0, hfz18_1, hfz18_2, hfz18_3⟩ := YA BK242.out; obtain ⟨Ao19, co19, eo19⟩ := Kd.R_slice HO257.out; subst eo19; obtain ⟨Ao20, co20, eo20⟩ := Kd.N_slice HO260.out; subst eo20))
   refine bodyPost_ret (results_cell_row rfl _ _ gb242 37 #[.int .i64 t253, .string t254, .slice Ao19 t255.length co19, .slice Ao20 t258.length co20] (0, 0) _ rfl (by (with_reducible repeat (first | refine Yh ?_ _ | refine Yb ?_ | refine Yd ?_ _)); exact YE (cs := #[.int .i64 t253, .string t254, .slice Ao19 t255.length co19, .slice none 0 0]) (by (with_reducible repeat (first | refine Yh ?_ _ | refine Yb ?_ | refine Yd ?_ _)); exact YE (cs := #[.int .i64 t253, .string t254, .slice none 0 0, .slice none 0 0]) (by (with_reducible repeat (first | refine Yh ?_ _ | refine Yb ?_ | refine Yd ?_ _)); exact YE (cs := #[.int .i64 t253, .string (⟨#[]⟩ : ByteArray), .slice none 0 0, .slice none 0 0]) Z1 1 _ rfl) 2 _ rfl) 3 _ rfl) Tryd.underlying37 rfl Z4) rfl ?_
   exact ⟨_, _, Z2, by (with_reducible repeat (first | apply Kd.R_alloc | apply Kd.R_drewN | apply Kd.R_drew)); exact Kd.R_mono (Kd.R_far (p := ⟨gb242, 3, none⟩) (Kd.R_far (p := ⟨gb242, 2, none⟩) (Kd.R_far (p := ⟨gb242, 1, none⟩) (Kd.R_far (p := ⟨gb242, 0, none⟩) (Kd.R_types HO257.out BK242.out (by decide)) (fun _ hk => hk.2) (.int .i64 t253)) (fun _ hk => hk.2) (.string t254)) (fun _ hk => hk.2) (.slice Ao19 t255.length co19)) (fun _ hk => hk.2) (.slice Ao20 t258.length co20)) (fun _ hk => hk.1.1), by (with_reducible repeat (first | apply Kd.N_alloc | apply Kd.N_drewN | apply Kd.N_drew)); exact Kd.N_mono (Kd.N_far (p := ⟨gb242, 3, none⟩) (Kd.N_far (p := ⟨gb242, 2, none⟩) (Kd.N_far (p := ⟨gb242, 1, none⟩) (Kd.N_far (p := ⟨gb242, 0, none⟩) (Kd.N_mono HO260.out (fun k_ hk => (⟨hk, hk.2.2.1⟩ : _ ∧ k_ ≠ gb242))) (fun _ hk => hk.2) (.int .i64 t253)) (fun _ hk => hk.2) (.string t254)) (fun _ hk => hk.2) (.slice Ao19 t255.length co19)) (fun _ hk => hk.2) (.slice Ao20 t258.length co20)) (fun _ hk => ⟨hk.1.1, hk.1.2.1⟩), QI75_0, QB, QK⟩
  ·rw [if_neg c11] at H
   have c11b0 : (t243 == 33) = false := beq_eq_false_iff_ne.mpr c11
   have c11b1 : (t243 != 33) = true := bne_iff_ne.mpr c11
   by_cases c21 : t243 = 40
   ·rw [if_pos c21] at H
    have c21b0 : (t243 == 40) = true := beq_iff_eq.mpr c21
    have c21b1 : (t243 != 40) = false := bne_eq_false_iff_eq.mpr c21
    clear c21
    by_cases c22 : a1 ≥ 5
    ·rw [if_pos c22] at H
     have c22b0 : decide (5 ≤ a1) = true := decide_eq_true c22
     clear c22
     replace H := Option.bind_eq_some_iff.mp H
     obtain ⟨⟨t265, t266, t267, t270, t273, t274, t275, t276⟩, A230, H⟩ := H
     replace H : (some (t265, t266, t267, t270, t273, t274, t275, t276)) = some (r1, r2, r3, r4, r5, r6, r7, r8) := H
     have A23 := Y0.mk A230
     clear A230
     simp only [Option.some.injEq, Prod.mk.injEq] at H
     obtain ⟨rfl, rfl, rfl, rfl, rfl, rfl, rfl, rfl⟩ := H
     go_enter Tryd.func134, Tryd.ntmps134
     go_wp2_with (first | ((with_reducible refine YF (N := 4) rfl ?_); refine YD ?hg (N := 4) ?hd (cs := #[.int .i64 0, .string (⟨#[]⟩ : ByteArray), .slice none 0 0, .slice none 0 0]) (t := 37) ?hr ?_; (case hd => rfl); (case hg => rfl); (case hr => exact Zb); intro gb242 hg w24 hbox hb; have n_ := Y4q (Yw.below QI75_0 hb) (Y1.trans QK (Y1.of_below hb g none) (.inl rfl)) (Y8 QB hb) (hbox) ((by rw [hg]; exact (Y7 (w := w) (g := g) (row := none) QK) : w.heap.size ≤ gb242)) ((Nat.le_trans HW0.out (by rw [hg]; exact (Y7 (w := w) (g := g) (row := none) QK) : w.heap.size ≤ gb242) : w0.heap.size ≤ gb242)) ((by rw [hg]; exact Nat.ne_of_lt (Yw.lt (show Yw w0 _ g s0_0 s0_1 s0_2 s0_3 from QI75_0)) : g ≠ gb242)) ((by rw [hg]; exact Nat.ne_of_gt (Yw.lt (show Yw w0 _ g s0_0 s0_1 s0_2 s0_3 from QI75_0)) : gb242 ≠ g)); clear HI0 HK HB; obtain ⟨HI0, HK, HB, BK242, GW242, GE242, NB0_242, NB242_0⟩ := n_; clear hb hbox hg) | ((with_reducible refine Yl (f := 53) rfl ?_); refine YO (some 7) rfl rfl Tryd.func53 Z4 rfl #[.pointer (some ⟨g, 0, none⟩)] rfl Z0 ?_; (with_reducible refine (Ym.calls k g s0_0 s0_1 s0_2 s0_3 t243 t244 t245 t246 t247 w0 _ ?side1 ?side2 A3.out).mono ?_); (case side1 => exact Z1k); (case side2 => exact QB); rintro e w25 ⟨rfl, hi, hb, hk⟩; refine ⟨_, rfl, ?_⟩; have n_ := Y2N (Y1.blk hk (g' := gb242) (o := .cells #[.int .i64 0, .string (⟨#[]⟩ : ByteArray), .slice none 0 0, .slice none 0 0] 37 (0, 0)) QQ NB242_0.out (by simp)) (Y1.trans QK hk (.inl rfl)) (hb) (hi); clear BK242 HK HB HI0; obtain ⟨BK242, HK, HB, HI0⟩ := n_; (try clear hb); (try clear hb2); (try clear hk); (try clear hi); obtain ⟨HGz26, hgz26⟩ := HI0.out; have hcz26_0 := YX HGz26; have hcz26_1 := YY HGz26; have hcz26_2 := YZ HGz26; have hcz26_3 := Y10 HGz26; have hfz26_0 := Y6 HGz26 0; have hfz26_1 := Y6 HGz26 1; have hfz26_2 := Y6 HGz26 2; have hfz26_3 := Y6 HGz26 3; clear HGz26 hgz26) | ((with_reducible refine Yl (f := 54) rfl ?_); refine YO (some 33) rfl rfl Tryd.func54 Z4 rfl #[.pointer (some ⟨g, 0, none⟩), .int .i64 t245, .int .i64 3] rfl Z0 ?_; (with_reducible refine (Ys.calls g t244 t245 t246 t247 t245 3 t265 t266 t267 t270 t273 t274 t275 t276 w0 _ ?side1 ?side2 A23.out).mono ?_); (case side1 => exact Z1k); (case side2 => exact QB); rintro e w27 ⟨v268, v271, rfl, ho0, ho1, hi, hb, hk⟩; refine ⟨_, rfl, ?_⟩; have n0_ := Y0.mk (Y1.blk hk (g' := gb242) (o := .cells #[.int .i64 0, .string (⟨#[]⟩ : ByteArray), .slice none 0 0, .slice none 0 0] 37 (0, 0)) QQ NB242_0.out (by simp)); have n1_ := Y0.mk (Kd.R_lower (Kd.R_newM (M := fun k_ => (w.heap.size ≤ k_)) (Kd.R_mono (ok' := fun k_ => True) ho0 (fun _ hk_ => trivial)) (Y7 (w := w) (g := g) (row := none) QK) (fun k_ h_ => h_)) (Y7 (w := w) (g := g) (row := none) QK)); have n2_ := Y0.mk (Kd.N_lower (Kd.N_mono (ok' := fun k_ => (w.heap.size ≤ k_) ∧ some k_ ≠ (v268 : Value).ownBlock ∧ k_ ≠ gb242 ∧ k_ ≠ g) ho1 (fun k_ hk_ => ⟨(Nat.le_trans (Y7 (w := w) (g := g) (row := none) QK) hk_.1), hk_.2, (Kd.freshB (g := gb242) (o := .cells #[.int .i64 0, .string (⟨#[]⟩ : ByteArray), .slice none 0 0, .slice none 0 0] 37 (0, 0)) QQ k_ hk_.1), (Yw.fresh QI75_0 k_ hk_.1)⟩)) (Y7 (w := w) (g := g) (row := none) QK)); have n3_ := Y0.mk (Y1.trans QK hk (.inl rfl)); have n4_ := Y0.mk (hb); have n5_ := Y0.mk (hi); clear BK242 HK HB HI0; have BK242 := n0_; have HO269 := n1_; have HO272 := n2_; have HK := n3_; have HB := n4_; have HI0 := n5_; clear n0_ n1_ n2_ n3_ n4_ n5_; (try clear hb); (try clear hb2); (try clear hk); (try clear hi); (try clear ho0); (try clear ho1); have hnb28 := NB242_0.out; have hnc28 := NB0_242.out; obtain ⟨hcz29_0, hcz29_1, hcz29_2, hcz29_3, hfz29_0, hfz29_1, hfz29_2, hfz29_3⟩ := YA BK242.out; obtain ⟨Ao30, co30, eo30⟩ := Kd.R_slice HO269.out; subst eo30; obtain ⟨Ao31, co31, eo31⟩ := Kd.N_slice HO272.out; subst eo31))
     refine bodyPost_ret (results_cell_row rfl _ _ gb242 37 #[.int .i64 t265, .string t266, .slice Ao30 t267.length co30, .slice Ao31 t270.length co31] (0, 0) _ rfl (by (with_reducible repeat (first | refine Yh ?_ _ | refine Yb ?_ | refine Yd ?_ _)); exact YE (cs := #[.int .i64 t265, .string t266, .slice Ao30 t267.length co30, .slice none 0 0]) (by (with_reducible repeat (first | refine Yh ?_ _ | refine Yb ?_ | refine Yd ?_ _)); exact YE (cs := #[.int .i64 t265, .string t266, .slice none 0 0, .slice none 0 0]) (by (with_reducible repeat (first | refine Yh ?_ _ | refine Yb ?_ | refine Yd ?_ _)); exact YE (cs := #[.int .i64 t265, .string (⟨#[]⟩ : ByteArray), .slice none 0 0, .slice none 0 0]) Z1 1 _ rfl) 2 _ rfl) 3 _ rfl) Tryd.underlying37 rfl Z4) rfl ?_
     exact ⟨_, _, Z2, by (with_reducible repeat (first | apply Kd.R_alloc | apply Kd.R_drewN | apply Kd.R_drew)); exact Kd.R_mono (Kd.R_far (p := ⟨gb242, 3, none⟩) (Kd.R_far (p := ⟨gb242, 2, none⟩) (Kd.R_far (p := ⟨gb242, 1, none⟩) (Kd.R_far (p := ⟨gb242, 0, none⟩) (Kd.R_types HO269.out BK242.out (by decide)) (fun _ hk => hk.2) (.int .i64 t265)) (fun _ hk => hk.2) (.string t266)) (fun _ hk => hk.2) (.slice Ao30 t267.length co30)) (fun _ hk => hk.2) (.slice Ao31 t270.length co31)) (fun _ hk => hk.1.1), by (with_reducible repeat (first | apply Kd.N_alloc | apply Kd.N_drewN | apply Kd.N_drew)); exact Kd.N_mono (Kd.N_far (p := ⟨gb242, 3, none⟩) (Kd.N_far (p := ⟨gb242, 2, none⟩) (Kd.N_far (p := ⟨gb242, 1, none⟩) (Kd.N_far (p := ⟨gb242, 0, none⟩) (Kd.N_mono HO272.out (fun k_ hk => (⟨hk, hk.2.2.1⟩ : _ ∧ k_ ≠ gb242))) (fun _ hk => hk.2) (.int .i64 t265)) (fun _ hk => hk.2) (.string t266)) (fun _ hk => hk.2) (.slice Ao30 t267.length co30)) (fun _ hk => hk.2) (.slice Ao31 t270.length co31)) (fun _ hk => ⟨hk.1.1, hk.1.2.1⟩), QI75_0, QB, QK⟩
    ·rw [if_neg c22] at H
     have c22b0 : decide (5 ≤ a1) = false := decide_eq_false c22
     clear c22
     replace H := Option.bind_eq_some_iff.mp H
     obtain ⟨⟨t277, t278, t279, t282, t285, t286, t287, t288⟩, A320, H⟩ := H
     replace H : ((YT.f k t285 t286 t287 t288 41).bind fun bt290 => (some (t277, t278, t279, t282, bt290.1, bt290.2.1, bt290.2.2.1, bt290.2.2.2))) = some (r1, r2, r3, r4, r5, r6, r7, r8) := H
     have A32 := Y0.mk A320
     clear A320
     replace H := Option.bind_eq_some_iff.mp H
     obtain ⟨⟨t290, t291, t292, t293⟩, A330, H⟩ := H
     replace H : (some (t277, t278, t279, t282, t290, t291, t292, t293)) = some (r1, r2, r3, r4, r5, r6, r7, r8) := H
     have A33 := Y0.mk A330
     clear A330
     simp only [Option.some.injEq, Prod.mk.injEq] at H
     obtain ⟨rfl, rfl, rfl, rfl, rfl, rfl, rfl, rfl⟩ := H
     go_enter Tryd.func134, Tryd.ntmps134
     go_wp2_with (first | ((with_reducible refine YF (N := 4) rfl ?_); refine YD ?hg (N := 4) ?hd (cs := #[.int .i64 0, .string (⟨#[]⟩ : ByteArray), .slice none 0 0, .slice none 0 0]) (t := 37) ?hr ?_; (case hd => rfl); (case hg => rfl); (case hr => exact Zb); intro gb242 hg w34 hbox hb; have n_ := Y4q (Yw.below QI75_0 hb) (Y1.trans QK (Y1.of_below hb g none) (.inl rfl)) (Y8 QB hb) (hbox) ((by rw [hg]; exact (Y7 (w := w) (g := g) (row := none) QK) : w.heap.size ≤ gb242)) ((Nat.le_trans HW0.out (by rw [hg]; exact (Y7 (w := w) (g := g) (row := none) QK) : w.heap.size ≤ gb242) : w0.heap.size ≤ gb242)) ((by rw [hg]; exact Nat.ne_of_lt (Yw.lt (show Yw w0 _ g s0_0 s0_1 s0_2 s0_3 from QI75_0)) : g ≠ gb242)) ((by rw [hg]; exact Nat.ne_of_gt (Yw.lt (show Yw w0 _ g s0_0 s0_1 s0_2 s0_3 from QI75_0)) : gb242 ≠ g)); clear HI0 HK HB; obtain ⟨HI0, HK, HB, BK242, GW242, GE242, NB0_242, NB242_0⟩ := n_; clear hb hbox hg) | ((with_reducible refine Yl (f := 53) rfl ?_); refine YO (some 7) rfl rfl Tryd.func53 Z4 rfl #[.pointer (some ⟨g, 0, none⟩)] rfl Z0 ?_; (with_reducible refine (Ym.calls k g s0_0 s0_1 s0_2 s0_3 t243 t244 t245 t246 t247 w0 _ ?side1 ?side2 A3.out).mono ?_); (case side1 => exact Z1k); (case side2 => exact QB); rintro e w35 ⟨rfl, hi, hb, hk⟩; refine ⟨_, rfl, ?_⟩; have n_ := Y2N (Y1.blk hk (g' := gb242) (o := .cells #[.int .i64 0, .string (⟨#[]⟩ : ByteArray), .slice none 0 0, .slice none 0 0] 37 (0, 0)) QQ NB242_0.out (by simp)) (Y1.trans QK hk (.inl rfl)) (hb) (hi); clear BK242 HK HB HI0; obtain ⟨BK242, HK, HB, HI0⟩ := n_; (try clear hb); (try clear hb2); (try clear hk); (try clear hi); obtain ⟨HGz36, hgz36⟩ := HI0.out; have hcz36_0 := YX HGz36; have hcz36_1 := YY HGz36; have hcz36_2 := YZ HGz36; have hcz36_3 := Y10 HGz36; have hfz36_0 := Y6 HGz36 0; have hfz36_1 := Y6 HGz36 1; have hfz36_2 := Y6 HGz36 2; have hfz36_3 := Y6 HGz36 3; clear HGz36 hgz36) | ((with_reducible refine Yl (f := 52) rfl ?_); refine YO (some 44) rfl rfl Tryd.func52 Z4 rfl #[.pointer (some ⟨g, 0, none⟩), .int .i64 (wrap64 (a1 + 1))] rfl Z0 ?_; (with_reducible refine ((ih k (by omega)).1 g t244 (wrap64 (t245 + 1)) t246 t247 (wrap64 (a1 + 1)) t277 t278 t279 t282 t285 t286 t287 t288 w0 _ ?side1 ?side2 ?side3 A32.out).mono ?_); (case side1 => exact Z1k); (case side2 => exact QB); (case side3 => exact Z22); rintro e w37 ⟨v280, v283, rfl, ho0, ho1, hi, hb, hk⟩; refine ⟨_, rfl, ?_⟩; have n0_ := Y0.mk (Y1.blk hk (g' := gb242) (o := .cells #[.int .i64 0, .string (⟨#[]⟩ : ByteArray), .slice none 0 0, .slice none 0 0] 37 (0, 0)) Z1c NB242_0.out (by simp)); have n1_ := Y0.mk (Kd.R_lower (Kd.R_newM (M := fun k_ => (w.heap.size ≤ k_)) (Kd.R_mono (ok' := fun k_ => True) ho0 (fun _ hk_ => trivial)) (Y7 (w := w) (g := g) (row := none) QK) (fun k_ h_ => h_)) (Y7 (w := w) (g := g) (row := none) QK)); have n2_ := Y0.mk (Kd.N_lower (Kd.N_mono (ok' := fun k_ => (w.heap.size ≤ k_) ∧ some k_ ≠ (v280 : Value).ownBlock ∧ k_ ≠ gb242 ∧ k_ ≠ g) ho1 (fun k_ hk_ => ⟨(Nat.le_trans (Y7 (w := w) (g := g) (row := none) QK) hk_.1), hk_.2, (Kd.freshB (g := gb242) (o := .cells #[.int .i64 0, .string (⟨#[]⟩ : ByteArray), .slice none 0 0, .slice none 0 0] 37 (0, 0)) Z1c k_ hk_.1), (Yw.fresh QI75_0 k_ hk_.1)⟩)) (Y7 (w := w) (g := g) (row := none) QK)); have n3_ := Y0.mk (Y1.trans QK hk (.inl rfl)); have n4_ := Y0.mk (hb); have n5_ := Y0.mk (hi); clear BK242 HK HB HI0; have BK242 := n0_; have HO281 := n1_; have HO284 := n2_; have HK := n3_; have HB := n4_; have HI0 := n5_; clear n0_ n1_ n2_ n3_ n4_ n5_; (try clear hb); (try clear hb2); (try clear hk); (try clear hi); (try clear ho0); (try clear ho1)) | ((with_reducible refine YF (N := 5) rfl ?_); refine YD ?hg (N := 5) ?hd (cs := #[.int .i64 0, .string (⟨#[]⟩ : ByteArray), .slice none 0 0, .slice none 0 0]) (t := 37) ?hr ?_; (case hd => rfl); (case hg => rfl); (case hr => exact Zb); intro gb289 hg w38 hbox hb; have n0_ := Y0.mk (Kd.R_below (by (with_reducible repeat (first | apply Kd.R_alloc | apply Kd.R_drewN | apply Kd.R_drew)); exact HO281.out) hb); have n1_ := Y0.mk (Kd.N_below (Kd.N_elderB (by (with_reducible repeat (first | apply Kd.N_alloc | apply Kd.N_drewN | apply Kd.N_drew)); exact HO284.out) gb289 (Nat.le_of_eq hg.symm)) hb); have n2_ := Y0.mk (Yw.below QI75_0 hb); have n3_ := Y0.mk (Yt (g := gb242) (o := .cells #[.int .i64 0, .string (⟨#[]⟩ : ByteArray), .slice none 0 0, .slice none 0 0] 37 (0, 0)) QQ hb); have n4_ := Y0.mk (Y1.trans QK (Y1.of_below hb g none) (.inl rfl)); have n5_ := Y0.mk (Y8 QB hb); have n6_ := Y0.mk (hbox); have n7_ := Y0.mk ((by rw [hg]; exact (Y7 (w := w) (g := g) (row := none) QK) : w.heap.size ≤ gb289)); have n8_ := Y0.mk ((Nat.le_trans HW0.out (by rw [hg]; exact (Y7 (w := w) (g := g) (row := none) QK) : w.heap.size ≤ gb289) : w0.heap.size ≤ gb289)); have n9_ := Y0.mk ((by rw [hg]; exact Nat.ne_of_lt (Y14 (g := gb242) (o := .cells #[.int .i64 0, .string (⟨#[]⟩ : ByteArray), .slice none 0 0, .slice none 0 0] 37 (0, 0)) QQ) : gb242 ≠ gb289)); have n10_ := Y0.mk ((by rw [hg]; exact Nat.ne_of_gt (Y14 (g := gb242) (o := .cells #[.int .i64 0, .string (⟨#[]⟩ : ByteArray), .slice none 0 0, .slice none 0 0] 37 (0, 0)) QQ) : gb289 ≠ gb242)); have n11_ := Y0.mk ((by rw [hg]; exact Nat.ne_of_lt (Yw.lt (show Yw w0 _ g t285 t286 t287 t288 from QI75_0)) : g ≠ gb289)); have n12_ := Y0.mk ((by rw [hg]; exact Nat.ne_of_gt (Yw.lt (show Yw w0 _ g t285 t286 t287 t288 from QI75_0)) : gb289 ≠ g)); clear HO281 HO284 HI0 BK242 HK HB; have HO281 := n0_; have HO284 := n1_; have HI0 := n2_; have BK242 := n3_; have HK := n4_; have HB := n5_; have BK289 := n6_; have GW289 := n7_; have GE289 := n8_; have NB242_289 := n9_; have NB289_242 := n10_; have NB0_289 := n11_; have NB289_0 := n12_; clear n0_ n1_ n2_ n3_ n4_ n5_ n6_ n7_ n8_ n9_ n10_ n11_ n12_ hb hbox hg; have hnb39 := NB289_242.out; have hnc39 := NB242_289.out; have hnb40 := NB289_0.out; have hnc40 := NB0_289.out; obtain ⟨hcz41_0, hcz41_1, hcz41_2, hcz41_3, hfz41_0, hfz41_1, hfz41_2, hfz41_3⟩ := YA BK289.out; obtain ⟨Ao42, co42, eo42⟩ := Kd.R_slice HO281.out; subst eo42; obtain ⟨Ao43, co43, eo43⟩ := Kd.N_slice HO284.out; subst eo43) | ((with_reducible refine Yl (f := 142) rfl ?_); refine YO (some 46) rfl rfl Tryd.func142 Z4 rfl #[.pointer (some ⟨g, 0, none⟩), .int .u8 41] rfl Z0 ?_; (with_reducible refine (YT.calls k g t285 t286 t287 t288 41 t290 t291 t292 t293 w0 _ ?side1 ?side2 A33.out).mono ?_); (case side1 => exact Z1k); (case side2 => exact QB); rintro e w44 ⟨rfl, hi, hb, hk⟩; refine ⟨_, rfl, ?_⟩; have n0_ := Y0.mk (Y1.blk hk (g' := gb242) (o := .cells #[.int .i64 0, .string (⟨#[]⟩ : ByteArray), .slice none 0 0, .slice none 0 0] 37 (0, 0)) (by (with_reducible repeat (first | refine Yh ?_ _ | refine Yb ?_ | refine Yd ?_ _)); exact Y13 (by (with_reducible repeat (first | refine Yh ?_ _ | refine Yb ?_ | refine Yd ?_ _)); exact Y13 (by (with_reducible repeat (first | refine Yh ?_ _ | refine Yb ?_ | refine Yd ?_ _)); exact Y13 (by (with_reducible repeat (first | refine Yh ?_ _ | refine Yb ?_ | refine Yd ?_ _)); exact Y13 QQ NB242_289.out _) NB242_289.out _) NB242_289.out _) NB242_289.out _) NB242_0.out (by simp)); have n1_ := Y0.mk (Kd.R_mono (Kd.R_keep (Yw.apart (show Yw w0 _ g t285 t286 t287 t288 from QI75_0) (by (with_reducible repeat (first | apply Kd.R_alloc | apply Kd.R_drewN | apply Kd.R_drew)); exact (Kd.R_mono (Kd.R_far (p := ⟨gb289, 3, none⟩) (Kd.R_far (p := ⟨gb289, 2, none⟩) (Kd.R_far (p := ⟨gb289, 1, none⟩) (Kd.R_far (p := ⟨gb289, 0, none⟩) (Kd.R_types HO281.out BK289.out (by decide)) (fun _ hk => hk.2) (.int .i64 t277)) (fun _ hk => hk.2) (.string t278)) (fun _ hk => hk.2) (.slice Ao42 t279.length co42)) (fun _ hk => hk.2) (.slice Ao43 t282.length co43)) (fun _ h_ => h_.1))) (by decide)) hk (fun _ h => h.2)) (fun _ h => h.1)); have n2_ := Y0.mk (Kd.N_mono (Kd.N_keep (Kd.N_mono (ok := fun k_ => ((((w.heap.size ≤ k_)) ∧ (some k_ ≠ (.slice Ao42 t279.length co42 : Value).ownBlock ∧ (k_ ≠ gb242 ∧ k_ ≠ g))) ∧ k_ ≠ gb289)) (by (with_reducible repeat (first | apply Kd.N_alloc | apply Kd.N_drewN | apply Kd.N_drew)); exact (Kd.N_mono (Kd.N_far (p := ⟨gb289, 3, none⟩) (Kd.N_far (p := ⟨gb289, 2, none⟩) (Kd.N_far (p := ⟨gb289, 1, none⟩) (Kd.N_far (p := ⟨gb289, 0, none⟩) (Kd.N_mono HO284.out (fun k_ hk => (⟨hk, hk.2⟩ : _ ∧ k_ ≠ gb289))) (fun _ hk => hk.2) (.int .i64 t277)) (fun _ hk => hk.2) (.string t278)) (fun _ hk => hk.2) (.slice Ao42 t279.length co42)) (fun _ hk => hk.2) (.slice Ao43 t282.length co43)) (fun _ h_ => h_.1))) (fun k_ hk_ => (⟨hk_, hk_.1.2.2.2⟩ : _ ∧ k_ ≠ g))) hk (fun _ h => h.2)) (fun _ h => h.1)); have n3_ := Y0.mk (Y1.blk hk (g' := gb289) (o := .cells #[.int .i64 t277, .string t278, .slice Ao42 t279.length co42, .slice Ao43 t282.length co43] 37 (0, 0)) Z2k NB289_0.out (by simp)); have n4_ := Y0.mk (Y1.trans QK hk (.inl rfl)); have n5_ := Y0.mk (hb); have n6_ := Y0.mk (hi); clear BK242 HO281 HO284 BK289 HK HB HI0; have BK242 := n0_; have HO281 := n1_; have HO284 := n2_; have BK289 := n3_; have HK := n4_; have HB := n5_; have HI0 := n6_; clear n0_ n1_ n2_ n3_ n4_ n5_ n6_; (try clear hb); (try clear hb2); (try clear hk); (try clear hi); obtain ⟨hcz45_0, hcz45_1, hcz45_2, hcz45_3, hfz45_0, hfz45_1, hfz45_2, hfz45_3⟩ := YA BK289.out; have hnb46 := NB242_0.out; have hnc46 := NB0_242.out; obtain ⟨hcz47_0, hcz47_1, hcz47_2, hcz47_3, hfz47_0, hfz47_1, hfz47_2, hfz47_3⟩ := YA BK242.out))
     refine bodyPost_ret (results_cell_row rfl _ _ gb242 37 #[.int .i64 t277, .string t278, .slice Ao42 t279.length co42, .slice Ao43 t282.length co43] (0, 0) _ rfl Z2k Tryd.underlying37 rfl Z4) rfl ?_
     exact ⟨_, _, Z2, by (with_reducible repeat (first | apply Kd.R_alloc | apply Kd.R_drewN | apply Kd.R_drew)); exact Kd.R_mono (Kd.R_far (p := ⟨gb242, 3, none⟩) (Kd.R_far (p := ⟨gb242, 2, none⟩) (Kd.R_far (p := ⟨gb242, 1, none⟩) (Kd.R_far (p := ⟨gb242, 0, none⟩) (Kd.R_types HO281.out BK242.out (by decide)) (fun _ hk => hk.2) (.int .i64 t277)) (fun _ hk => hk.2) (.string t278)) (fun _ hk => hk.2) (.slice Ao42 t279.length co42)) (fun _ hk => hk.2) (.slice Ao43 t282.length co43)) (fun _ hk => hk.1.1), by (with_reducible repeat (first | apply Kd.N_alloc | apply Kd.N_drewN | apply Kd.N_drew)); exact Kd.N_mono (Kd.N_far (p := ⟨gb242, 3, none⟩) (Kd.N_far (p := ⟨gb242, 2, none⟩) (Kd.N_far (p := ⟨gb242, 1, none⟩) (Kd.N_far (p := ⟨gb242, 0, none⟩) (Kd.N_mono HO284.out (fun k_ hk => (⟨hk, hk.1.2.2.1⟩ : _ ∧ k_ ≠ gb242))) (fun _ hk => hk.2) (.int .i64 t277)) (fun _ hk => hk.2) (.string t278)) (fun _ hk => hk.2) (.slice Ao42 t279.length co42)) (fun _ hk => hk.2) (.slice Ao43 t282.length co43)) (fun _ hk => ⟨hk.1.1.1, hk.1.1.2.1⟩), QI75_0, QB, QK⟩
   ·rw [if_neg c21] at H
    have c21b0 : (t243 == 40) = false := beq_eq_false_iff_ne.mpr c21
    have c21b1 : (t243 != 40) = true := bne_iff_ne.mpr c21
    replace H := Option.bind_eq_some_iff.mp H
    obtain ⟨⟨t294, t295, t296, t299, t302, t303, t304, t305⟩, A480, H⟩ := H
    replace H : (some (t294, t295, t296, t299, t302, t303, t304, t305)) = some (r1, r2, r3, r4, r5, r6, r7, r8) := H
    have A48 := Y0.mk A480
    clear A480
    simp only [Option.some.injEq, Prod.mk.injEq] at H
    obtain ⟨rfl, rfl, rfl, rfl, rfl, rfl, rfl, rfl⟩ := H
    go_enter Tryd.func134, Tryd.ntmps134
    go_wp2_with (first | ((with_reducible refine YF (N := 4) rfl ?_); refine YD ?hg (N := 4) ?hd (cs := #[.int .i64 0, .string (⟨#[]⟩ : ByteArray), .slice none 0 0, .slice none 0 0]) (t := 37) ?hr ?_; (case hd => rfl); (case hg => rfl); (case hr => exact Zb); intro gb242 hg w49 hbox hb; have n_ := Y4q (Yw.below QI75_0 hb) (Y1.trans QK (Y1.of_below hb g none) (.inl rfl)) (Y8 QB hb) (hbox) ((by rw [hg]; exact (Y7 (w := w) (g := g) (row := none) QK) : w.heap.size ≤ gb242)) ((Nat.le_trans HW0.out (by rw [hg]; exact (Y7 (w := w) (g := g) (row := none) QK) : w.heap.size ≤ gb242) : w0.heap.size ≤ gb242)) ((by rw [hg]; exact Nat.ne_of_lt (Yw.lt (show Yw w0 _ g s0_0 s0_1 s0_2 s0_3 from QI75_0)) : g ≠ gb242)) ((by rw [hg]; exact Nat.ne_of_gt (Yw.lt (show Yw w0 _ g s0_0 s0_1 s0_2 s0_3 from QI75_0)) : gb242 ≠ g)); clear HI0 HK HB; obtain ⟨HI0, HK, HB, BK242, GW242, GE242, NB0_242, NB242_0⟩ := n_; clear hb hbox hg) | ((with_reducible refine Yl (f := 53) rfl ?_); refine YO (some 7) rfl rfl Tryd.func53 Z4 rfl #[.pointer (some ⟨g, 0, none⟩)] rfl Z0 ?_; (with_reducible refine (Ym.calls k g s0_0 s0_1 s0_2 s0_3 t243 t244 t245 t246 t247 w0 _ ?side1 ?side2 A3.out).mono ?_); (case side1 => exact Z1k); (case side2 => exact QB); rintro e w50 ⟨rfl, hi, hb, hk⟩; refine ⟨_, rfl, ?_⟩; have n_ := Y2N (Y1.blk hk (g' := gb242) (o := .cells #[.int .i64 0, .string (⟨#[]⟩ : ByteArray), .slice none 0 0, .slice none 0 0] 37 (0, 0)) QQ NB242_0.out (by simp)) (Y1.trans QK hk (.inl rfl)) (hb) (hi); clear BK242 HK HB HI0; obtain ⟨BK242, HK, HB, HI0⟩ := n_; (try clear hb); (try clear hb2); (try clear hk); (try clear hi); obtain ⟨HGz51, hgz51⟩ := HI0.out; have hcz51_0 := YX HGz51; have hcz51_1 := YY HGz51; have hcz51_2 := YZ HGz51; have hcz51_3 := Y10 HGz51; have hfz51_0 := Y6 HGz51 0; have hfz51_1 := Y6 HGz51 1; have hfz51_2 := Y6 HGz51 2; have hfz51_3 := Y6 HGz51 3; clear HGz51 hgz51) | ((with_reducible refine Yl (f := 54) rfl ?_); refine YO (some 53) rfl rfl Tryd.func54 Z4 rfl #[.pointer (some ⟨g, 0, none⟩), .int .i64 t245, .int .i64 2] rfl Z0 ?_; (with_reducible refine (Ys.calls g t244 t245 t246 t247 t245 2 t294 t295 t296 t299 t302 t303 t304 t305 w0 _ ?side1 ?side2 A48.out).mono ?_); (case side1 => exact Z1k); (case side2 => exact QB); rintro e w52 ⟨v297, v300, rfl, ho0, ho1, hi, hb, hk⟩; refine ⟨_, rfl, ?_⟩; have n0_ := Y0.mk (Y1.blk hk (g' := gb242) (o := .cells #[.int .i64 0, .string (⟨#[]⟩ : ByteArray), .slice none 0 0, .slice none 0 0] 37 (0, 0)) QQ NB242_0.out (by simp)); have n1_ := Y0.mk (Kd.R_lower (Kd.R_newM (M := fun k_ => (w.heap.size ≤ k_)) (Kd.R_mono (ok' := fun k_ => True) ho0 (fun _ hk_ => trivial)) (Y7 (w := w) (g := g) (row := none) QK) (fun k_ h_ => h_)) (Y7 (w := w) (g := g) (row := none) QK)); have n2_ := Y0.mk (Kd.N_lower (Kd.N_mono (ok' := fun k_ => (w.heap.size ≤ k_) ∧ some k_ ≠ (v297 : Value).ownBlock ∧ k_ ≠ gb242 ∧ k_ ≠ g) ho1 (fun k_ hk_ => ⟨(Nat.le_trans (Y7 (w := w) (g := g) (row := none) QK) hk_.1), hk_.2, (Kd.freshB (g := gb242) (o := .cells #[.int .i64 0, .string (⟨#[]⟩ : ByteArray), .slice none 0 0, .slice none 0 0] 37 (0, 0)) QQ k_ hk_.1), (Yw.fresh QI75_0 k_ hk_.1)⟩)) (Y7 (w := w) (g := g) (row := none) QK)); have n3_ := Y0.mk (Y1.trans QK hk (.inl rfl)); have n4_ := Y0.mk (hb); have n5_ := Y0.mk (hi); clear BK242 HK HB HI0; have BK242 := n0_; have HO298 := n1_; have HO301 := n2_; have HK := n3_; have HB := n4_; have HI0 := n5_; clear n0_ n1_ n2_ n3_ n4_ n5_; (try clear hb); (try clear hb2); (try clear hk); (try clear hi); (try clear ho0); (try clear ho1); have hnb53 := NB242_0.out; have hnc53 := NB0_242.out; obtain ⟨hcz54_0, hcz54_1, hcz54_2, hcz54_3, hfz54_0, hfz54_1, hfz54_2, hfz54_3⟩ := YA BK242.out; obtain ⟨Ao55, co55, eo55⟩ := Kd.R_slice HO298.out; subst eo55; obtain ⟨Ao56, co56, eo56⟩ := Kd.N_slice HO301.out; subst eo56))
    refine bodyPost_ret (results_cell_row rfl _ _ gb242 37 #[.int .i64 t294, .string t295, .slice Ao55 t296.length co55, .slice Ao56 t299.length co56] (0, 0) _ rfl (by (with_reducible repeat (first | refine Yh ?_ _ | refine Yb ?_ | refine Yd ?_ _)); exact YE (cs := #[.int .i64 t294, .string t295, .slice Ao55 t296.length co55, .slice none 0 0]) (by (with_reducible repeat (first | refine Yh ?_ _ | refine Yb ?_ | refine Yd ?_ _)); exact YE (cs := #[.int .i64 t294, .string t295, .slice none 0 0, .slice none 0 0]) (by (with_reducible repeat (first | refine Yh ?_ _ | refine Yb ?_ | refine Yd ?_ _)); exact YE (cs := #[.int .i64 t294, .string (⟨#[]⟩ : ByteArray), .slice none 0 0, .slice none 0 0]) Z1 1 _ rfl) 2 _ rfl) 3 _ rfl) Tryd.underlying37 rfl Z4) rfl ?_
    exact ⟨_, _, Z2, by (with_reducible repeat (first | apply Kd.R_alloc | apply Kd.R_drewN | apply Kd.R_drew)); exact Kd.R_mono (Kd.R_far (p := ⟨gb242, 3, none⟩) (Kd.R_far (p := ⟨gb242, 2, none⟩) (Kd.R_far (p := ⟨gb242, 1, none⟩) (Kd.R_far (p := ⟨gb242, 0, none⟩) (Kd.R_types HO298.out BK242.out (by decide)) (fun _ hk => hk.2) (.int .i64 t294)) (fun _ hk => hk.2) (.string t295)) (fun _ hk => hk.2) (.slice Ao55 t296.length co55)) (fun _ hk => hk.2) (.slice Ao56 t299.length co56)) (fun _ hk => hk.1.1), by (with_reducible repeat (first | apply Kd.N_alloc | apply Kd.N_drewN | apply Kd.N_drew)); exact Kd.N_mono (Kd.N_far (p := ⟨gb242, 3, none⟩) (Kd.N_far (p := ⟨gb242, 2, none⟩) (Kd.N_far (p := ⟨gb242, 1, none⟩) (Kd.N_far (p := ⟨gb242, 0, none⟩) (Kd.N_mono HO301.out (fun k_ hk => (⟨hk, hk.2.2.1⟩ : _ ∧ k_ ≠ gb242))) (fun _ hk => hk.2) (.int .i64 t294)) (fun _ hk => hk.2) (.string t295)) (fun _ hk => hk.2) (.slice Ao55 t296.length co55)) (fun _ hk => hk.2) (.slice Ao56 t299.length co56)) (fun _ hk => ⟨hk.1.1, hk.1.2.1⟩), QI75_0, QB, QK⟩
theorem Yq.joint : ∀ k, Yq.Spec k ∧ Yz.Spec k ∧ Yi.Spec k ∧ YH.Spec k ∧ YN.Spec k := by
 intro k
 induction k using Nat.strongRecOn with
 | _ k ih => exact ⟨Yq.step k ih, Yz.step k ih, Yi.step k ih, YH.step k ih, YN.step k ih⟩
theorem Yq.calls (k : Nat) : Yq.Spec k := (Yq.joint k).1
def YI.j0 : Nat → ByteArray → Bool → ByteArray → Int → Int → Int → Int → ByteArray → List ByteArray → List (S37) → Option (Int × ByteArray × List ByteArray × (List (S37)) × Int × Int)
 | 0, _, _, _, _, _, _, _, _, _, _ => none
 | k + 1, x0, x34, x103000, x103001, x103002, x103003, x116000, x116001, x116002, x116003 => if x34 = true then ((Ys.f x103000 x103001 x103002 x103003 x103001 2).bind fun bt121 => (if bt121.2.2.2.2.2.2.1 = 0 then (some (x116000, x116001, x116002, x116003, (x0.size : Int), 0)) else (some (0, (⟨#[]⟩ : ByteArray), ([] : List ByteArray), ([] : List (S37)), bt121.2.2.2.2.2.2.2, bt121.2.2.2.2.2.2.1)))) else (if x103002 = 0 then (some (x116000, x116001, x116002, x116003, (x0.size : Int), 0)) else (some (0, (⟨#[]⟩ : ByteArray), ([] : List ByteArray), ([] : List (S37)), x103003, x103002)))
def YI.f (k : Nat) (a0 : ByteArray) : Option (Int × ByteArray × List ByteArray × (List (S37)) × Int × Int) := if (a0.size : Int) > 600 then (some (0, (⟨#[]⟩ : ByteArray), ([] : List ByteArray), ([] : List (S37)), 0, 4)) else ((Yq.f k a0 0 0 0 0).bind fun bt103 => ((Ym.f k bt103.2.2.2.2.1 bt103.2.2.2.2.2.1 bt103.2.2.2.2.2.2.1 bt103.2.2.2.2.2.2.2).bind fun bt116 => (if bt116.1 = 0 then (if bt116.2.2.2.1 = 0 then (YI.j0 k a0 (decide (bt116.2.2.1 < (a0.size : Int))) bt116.2.1 bt116.2.2.1 bt116.2.2.2.1 bt116.2.2.2.2 bt103.1 bt103.2.1 bt103.2.2.1 bt103.2.2.2.1) else (YI.j0 k a0 false bt116.2.1 bt116.2.2.1 bt116.2.2.2.1 bt116.2.2.2.2 bt103.1 bt103.2.1 bt103.2.2.1 bt103.2.2.2.1)) else (YI.j0 k a0 true bt116.2.1 bt116.2.2.1 bt116.2.2.2.1 bt116.2.2.2.2 bt103.1 bt103.2.1 bt103.2.2.1 bt103.2.2.2.1))))
theorem YI.mono_l : ∀ k, (∀ y0 y1 y2 y3 y4 y5 y6 y7 y8 y9, LeO (YI.j0 k y0 y1 y2 y3 y4 y5 y6 y7 y8 y9) (YI.j0 (k + 1) y0 y1 y2 y3 y4 y5 y6 y7 y8 y9))
 | 0 => fun _ _ _ _ _ _ _ _ _ _ r h => by simp [YI.j0] at h
 | k + 1 => by
  have ih0 := YI.mono_l k
  ·intro y0 y1 y2 y3 y4 y5 y6 y7 y8 y9
   unfold YI.j0
   exact QM
theorem YI.mono : ∀ a0 k, LeO (YI.f k a0) (YI.f (k + 1) a0) := by
 intro a0 k
 have ih0 := YI.mono_l k
 unfold YI.f
 exact QM
def YI.T8 : Bool × List (List Nat × List Nat) := (true, [([], []), ([], []), ([1], [1]), ([2], [2]), ([3], [3]), ([], []), ([5], [5]), ([6], [6]), ([7], [7]), ([0, 0], [0]), ([4, 9, 0, 1, 2, 3, 4, 9], [4]), ([8, 10, 0, 1, 2, 3, 4, 5, 6, 7, 8, 9, 10], [8])])
def YI.B8 : List Nat := [0, 0, 2, 6, 14, 0, 32, 96, 224, 1, 543, 2047]
theorem YI.tab8 : Y3x .any (Y3P Tryd.f25 8) = YI.T8 := by kernel_rfl
theorem YI.bits8 : Y1Y YI.T8.2 YI.B8 = true := by kernel_rfl
set_option maxHeartbeats 8000000 in
set_option maxRecDepth 100000 in
theorem YI.calls (k : Nat) (a0 : ByteArray) (r1 : Int) (r2 : ByteArray) (r3 : List ByteArray) (r4 : List (S37)) (r5 : Int) (r6 : Int) (w : World) (hT : Tabs w) (h : YI.f k a0 = some (r1, r2, r3, r4, r5, r6)) :
  Calls Tryd.prog 25 #[.string a0] w fun e w' => ∃ v2_ v3_ : Value, e = .returned (.tuple #[.agg #[.int .i64 r1, .string r2, v2_, v3_], .int .i64 r5, .int .i64 r6]) ∧ Kd.R Kd.string 9 w' w.heap.size (fun k_ => (w.heap.size ≤ k_)) v2_ r3 ∧ Kd.N k37 37 w' w.heap.size (fun k_ => (w.heap.size ≤ k_) ∧ some k_ ≠ (v2_ : Value).ownBlock) v3_ r4 ∧ Below w.heap.size w w' := by
 have HT := Y0.mk hT
 clear hT
 have hu37 := Tryd.underlying37
 have hu75 := Tryd.underlying75
 have HB := Y0.mk (Below.refl w.heap.size w)
 have H : (if (a0.size : Int) > 600 then (some (0, (⟨#[]⟩ : ByteArray), ([] : List ByteArray), ([] : List (S37)), 0, 4)) else ((Yq.f k a0 0 0 0 0).bind fun bt103 => ((Ym.f k bt103.2.2.2.2.1 bt103.2.2.2.2.2.1 bt103.2.2.2.2.2.2.1 bt103.2.2.2.2.2.2.2).bind fun bt116 => (if bt116.1 = 0 then (if bt116.2.2.2.1 = 0 then (YI.j0 k a0 (decide (bt116.2.2.1 < (a0.size : Int))) bt116.2.1 bt116.2.2.1 bt116.2.2.2.1 bt116.2.2.2.2 bt103.1 bt103.2.1 bt103.2.2.1 bt103.2.2.2.1) else (YI.j0 k a0 false bt116.2.1 bt116.2.2.1 bt116.2.2.2.1 bt116.2.2.2.2 bt103.1 bt103.2.1 bt103.2.2.1 bt103.2.2.2.1)) else (YI.j0 k a0 true bt116.2.1 bt116.2.2.1 bt116.2.2.2.1 bt116.2.2.2.2 bt103.1 bt103.2.1 bt103.2.2.1 bt103.2.2.2.1))))) = some (r1, r2, r3, r4, r5, r6) := h
 clear h
 by_cases c2 : (a0.size : Int) > 600
 ·rw [if_pos c2] at H
  have c2b0 : decide (600 < (a0.size : Int)) = true := decide_eq_true c2
  have c2b1 : decide (600 < a0.size) = true := decide_eq_true (by omega)
  clear c2
  simp only [Option.some.injEq, Prod.mk.injEq] at H
  obtain ⟨rfl, rfl, rfl, rfl, rfl, rfl⟩ := H
  go_enter Tryd.func25, Tryd.ntmps25
  go_wp2_with (first | ((with_reducible refine YF (N := 2) rfl ?_); (try (refine YW (by rfl) ?_; dsimp only)); refine YD ?hg (N := 2) ?hd (cs := #[.int .i64 0, .string (⟨#[]⟩ : ByteArray), .slice none 0 0, .slice none 0 0]) (t := 37) ?hr ?_; (case hd => rfl); (case hg => rfl); (case hr => exact Zb); intro gb101 hg w3 hbox hb; have n_ := Y2N (Y8 QB hb) (hbox) ((by rw [hg]; exact (Yf QB) : w.heap.size ≤ gb101)) ((by rw [hg]; exact (Yf QB) : w.heap.size ≤ gb101)); clear HB; obtain ⟨HB, BK101, GW101, GE101⟩ := n_; clear hb hbox hg; obtain ⟨hcz4_0, hcz4_1, hcz4_2, hcz4_3, hfz4_0, hfz4_1, hfz4_2, hfz4_3⟩ := YA BK101.out))
  refine bodyPost_ret (Y1O rfl _ _ gb101 37 #[.int .i64 0, .string (⟨#[]⟩ : ByteArray), .slice none 0 0, .slice none 0 0] (0, 0) _ rfl Z2a Tryd.underlying37 rfl Z4) rfl ?_
  exact Z2y
 ·rw [if_neg c2] at H
  have c2b0 : decide (600 < (a0.size : Int)) = false := decide_eq_false c2
  have c2b1 : decide (600 < a0.size) = false := decide_eq_false (by omega)
  clear c2
  replace H := Option.bind_eq_some_iff.mp H
  obtain ⟨⟨t103, t104, t105, t108, t111, t112, t113, t114⟩, A50, H⟩ := H
  replace H : ((Ym.f k t111 t112 t113 t114).bind fun bt116 => (if bt116.1 = 0 then (if bt116.2.2.2.1 = 0 then (YI.j0 k a0 (decide (bt116.2.2.1 < (a0.size : Int))) bt116.2.1 bt116.2.2.1 bt116.2.2.2.1 bt116.2.2.2.2 t103 t104 t105 t108) else (YI.j0 k a0 false bt116.2.1 bt116.2.2.1 bt116.2.2.2.1 bt116.2.2.2.2 t103 t104 t105 t108)) else (YI.j0 k a0 true bt116.2.1 bt116.2.2.1 bt116.2.2.2.1 bt116.2.2.2.2 t103 t104 t105 t108))) = some (r1, r2, r3, r4, r5, r6) := H
  have A5 := Y0.mk A50
  clear A50
  have HC6 := Y0.mk H
  clear H
  go_enter Tryd.func25, Tryd.ntmps25
  go_upto_region 5 with (first | ((with_reducible refine YF (N := 2) rfl ?_); (try (refine YW (by rfl) ?_; dsimp only)); refine YD ?hg (N := 2) ?hd (cs := #[.int .i64 0, .string (⟨#[]⟩ : ByteArray), .slice none 0 0, .slice none 0 0]) (t := 37) ?hr ?_; (case hd => rfl); (case hg => rfl); (case hr => exact Zb); intro gb101 hg w7 hbox hb; have n_ := Y2N (Y8 QB hb) (hbox) ((by rw [hg]; exact (Yf QB) : w.heap.size ≤ gb101)) ((by rw [hg]; exact (Yf QB) : w.heap.size ≤ gb101)); clear HB; obtain ⟨HB, BK101, GW101, GE101⟩ := n_; clear hb hbox hg) | ((with_reducible refine YF (N := 13) rfl ?_); (try (refine YW (by rfl) ?_; dsimp only)); refine YD ?hg (N := 13) ?hd (cs := #[.string a0, .int .i64 0, .int .i64 0, .int .i64 0]) (t := 75) ?hr ?_; (case hd => rfl); (case hg => rfl); (case hr => exact Zb); intro gb102 hg w8 hbox hb; have n_ := put7 (Yt (g := gb101) (o := .cells #[.int .i64 0, .string (⟨#[]⟩ : ByteArray), .slice none 0 0, .slice none 0 0] 37 (0, 0)) QQ hb) (Y8 QB hb) ((by rw [hg]; exact (Yf QB) : w.heap.size ≤ gb102)) ((by rw [hg]; exact (Yf QB) : w.heap.size ≤ gb102)) ((by rw [hg]; exact Nat.ne_of_lt (Y14 (g := gb101) (o := .cells #[.int .i64 0, .string (⟨#[]⟩ : ByteArray), .slice none 0 0, .slice none 0 0] 37 (0, 0)) QQ) : gb101 ≠ gb102)) ((by rw [hg]; exact Nat.ne_of_gt (Y14 (g := gb101) (o := .cells #[.int .i64 0, .string (⟨#[]⟩ : ByteArray), .slice none 0 0, .slice none 0 0] 37 (0, 0)) QQ) : gb102 ≠ gb101)) ((⟨hbox, (by rw [hg]; exact (Yf QB))⟩ : Yw w w8 gb102 a0 0 0 0)); clear BK101 HB; obtain ⟨BK101, HB, GW102, GE102, NB101_102, NB102_101, HI102⟩ := n_; clear hb hbox hg) | ((with_reducible refine Yl (f := 52) rfl ?_); refine YO (some 15) rfl rfl Tryd.func52 Z4 rfl #[.pointer (some ⟨gb102, 0, none⟩), .int .i64 0] rfl Z0 ?_; (with_reducible refine (Yq.calls k gb102 a0 0 0 0 0 t103 t104 t105 t108 t111 t112 t113 t114 w _ ?side1 ?side2 ?side3 A5.out).mono ?_); (case side1 => exact QI75_102); (case side2 => exact QB); (case side3 => exact Z22); rintro e w9 ⟨v106, v109, rfl, ho0, ho1, hi, hb, hk⟩; refine ⟨_, rfl, ?_⟩; have n0_ := Y0.mk (Y1.blk hk (g' := gb101) (o := .cells #[.int .i64 0, .string (⟨#[]⟩ : ByteArray), .slice none 0 0, .slice none 0 0] 37 (0, 0)) QQ NB101_102.out (by simp)); have n1_ := Y0.mk (Kd.R_lower (Kd.R_newM (M := fun k_ => (w.heap.size ≤ k_)) (Kd.R_mono (ok' := fun k_ => True) ho0 (fun _ hk_ => trivial)) (Yf QB) (fun k_ h_ => h_)) (Yf QB)); have n2_ := Y0.mk (Kd.N_lower (Kd.N_mono (ok' := fun k_ => (w.heap.size ≤ k_) ∧ some k_ ≠ (v106 : Value).ownBlock ∧ k_ ≠ gb101 ∧ k_ ≠ gb102) ho1 (fun k_ hk_ => ⟨(Nat.le_trans (Yf QB) hk_.1), hk_.2, (Kd.freshB (g := gb101) (o := .cells #[.int .i64 0, .string (⟨#[]⟩ : ByteArray), .slice none 0 0, .slice none 0 0] 37 (0, 0)) QQ k_ hk_.1), (Yw.fresh QI75_102 k_ hk_.1)⟩)) (Yf QB)); have n3_ := Y0.mk (hb); have n4_ := Y0.mk (hi); clear BK101 HB HI102; have BK101 := n0_; have HO107 := n1_; have HO110 := n2_; have HB := n3_; have HI102 := n4_; clear n0_ n1_ n2_ n3_ n4_; (try clear hb); (try clear hb2); (try clear hk); (try clear hi); (try clear ho0); (try clear ho1)) | ((with_reducible refine YF (N := 6) rfl ?_); (try (refine YW (by rfl) ?_; dsimp only)); refine YD ?hg (N := 6) ?hd (cs := #[.int .i64 0, .string (⟨#[]⟩ : ByteArray), .slice none 0 0, .slice none 0 0]) (t := 37) ?hr ?_; (case hd => rfl); (case hg => rfl); (case hr => exact Zb); intro gb115 hg w10 hbox hb; have n0_ := Y0.mk (Kd.R_below Z1Z hb); have n1_ := Y0.mk (Kd.N_below (Kd.N_elderB Z1W gb115 (Nat.le_of_eq hg.symm)) hb); have n2_ := Y0.mk (Yt (g := gb101) (o := .cells #[.int .i64 0, .string (⟨#[]⟩ : ByteArray), .slice none 0 0, .slice none 0 0] 37 (0, 0)) QQ hb); have n3_ := Y0.mk (Yw.below QI75_102 hb); have n4_ := Y0.mk (Y8 QB hb); have n5_ := Y0.mk (hbox); have n6_ := Y0.mk ((by rw [hg]; exact (Yf QB) : w.heap.size ≤ gb115)); have n7_ := Y0.mk ((by rw [hg]; exact (Yf QB) : w.heap.size ≤ gb115)); have n8_ := Y0.mk ((by rw [hg]; exact Nat.ne_of_lt (Y14 (g := gb101) (o := .cells #[.int .i64 0, .string (⟨#[]⟩ : ByteArray), .slice none 0 0, .slice none 0 0] 37 (0, 0)) QQ) : gb101 ≠ gb115)); have n9_ := Y0.mk ((by rw [hg]; exact Nat.ne_of_gt (Y14 (g := gb101) (o := .cells #[.int .i64 0, .string (⟨#[]⟩ : ByteArray), .slice none 0 0, .slice none 0 0] 37 (0, 0)) QQ) : gb115 ≠ gb101)); have n10_ := Y0.mk ((by rw [hg]; exact Nat.ne_of_lt (Yw.lt (show Yw w _ gb102 t111 t112 t113 t114 from QI75_102)) : gb102 ≠ gb115)); have n11_ := Y0.mk ((by rw [hg]; exact Nat.ne_of_gt (Yw.lt (show Yw w _ gb102 t111 t112 t113 t114 from QI75_102)) : gb115 ≠ gb102)); clear HO107 HO110 BK101 HI102 HB; have HO107 := n0_; have HO110 := n1_; have BK101 := n2_; have HI102 := n3_; have HB := n4_; have BK115 := n5_; have GW115 := n6_; have GE115 := n7_; have NB101_115 := n8_; have NB115_101 := n9_; have NB102_115 := n10_; have NB115_102 := n11_; clear n0_ n1_ n2_ n3_ n4_ n5_ n6_ n7_ n8_ n9_ n10_ n11_ hb hbox hg; have hnb11 := NB115_101.out; have hnc11 := NB101_115.out; have hnb12 := NB115_102.out; have hnc12 := NB102_115.out; obtain ⟨hcz13_0, hcz13_1, hcz13_2, hcz13_3, hfz13_0, hfz13_1, hfz13_2, hfz13_3⟩ := YA BK115.out; obtain ⟨Ao14, co14, eo14⟩ := Kd.R_slice HO107.out; subst eo14; obtain ⟨Ao15, co15, eo15⟩ := Kd.N_slice HO110.out; subst eo15))
  (try simp only [Act.put, List.setIfInBounds_toArray, List.set_cons_zero, List.set_cons_succ])
  go_cut [34] (fun v34 wc => ∃ (kq : Nat) (x34_5 : Bool) (x103000_5 : ByteArray) (x103001_5 : Int) (x103002_5 : Int) (x103003_5 : Int), v34 = .bool x34_5 ∧ Y0 (YI.j0 kq a0 x34_5 x103000_5 x103001_5 x103002_5 x103003_5 t103 t104 t105 t108 = some (r1, r2, r3, r4, r5, r6)) ∧ Y0 (kq ≤ k) ∧ Y0 (Kd.R Kd.string 9 wc w.heap.size (fun k_ => (w.heap.size ≤ k_)) (.slice Ao14 t105.length co14) t105) ∧ Y0 (Kd.N k37 37 wc w.heap.size (fun k_ => (w.heap.size ≤ k_) ∧ some k_ ≠ ((.slice Ao14 t105.length co14) : Value).ownBlock ∧ k_ ≠ gb101 ∧ k_ ≠ gb115 ∧ k_ ≠ gb102) (.slice Ao15 t108.length co15) t108) ∧ Y0 (wc.heap[gb101]? = some (.cells #[.int .i64 0, .string (⟨#[]⟩ : ByteArray), (.slice none 0 0), (.slice none 0 0)] 37 (0, 0))) ∧ Y0 (wc.heap[gb115]? = some (.cells #[.int .i64 t103, .string t104, (.slice Ao14 t105.length co14), (.slice Ao15 t108.length co15)] 37 (0, 0))) ∧ Y0 (Yw w wc gb102 x103000_5 x103001_5 x103002_5 x103003_5) ∧ Y0 (Below w.heap.size w wc))
  case first =>
   have H := HC6.out
   clear HC6
   replace H := Option.bind_eq_some_iff.mp H
   obtain ⟨⟨t116, t117, t118, t119, t120⟩, A160, H⟩ := H
   replace H : (if t116 = 0 then (if t119 = 0 then (YI.j0 k a0 (decide (t118 < (a0.size : Int))) t117 t118 t119 t120 t103 t104 t105 t108) else (YI.j0 k a0 false t117 t118 t119 t120 t103 t104 t105 t108)) else (YI.j0 k a0 true t117 t118 t119 t120 t103 t104 t105 t108)) = some (r1, r2, r3, r4, r5, r6) := H
   have A16 := Y0.mk A160
   clear A160
   by_cases c17 : t116 = 0
   ·rw [if_pos c17] at H
    have c17b0 : (t116 == 0) = true := beq_iff_eq.mpr c17
    have c17b1 : (t116 != 0) = false := bne_eq_false_iff_eq.mpr c17
    clear c17
    (first | rw [c17b0] | (simp only [Y16, Y17]; rw [c17b0]) | skip)
    by_cases c18 : t119 = 0
    ·rw [if_pos c18] at H
     have c18b0 : (t119 == 0) = true := beq_iff_eq.mpr c18
     have c18b1 : (t119 != 0) = false := bne_eq_false_iff_eq.mpr c18
     clear c18
     have H' := Y0.mk H
     clear H
     go_wp2_with (first | ((with_reducible refine Yl (f := 53) rfl ?_); refine YO (some 17) rfl rfl Tryd.func53 Z4 rfl #[.pointer (some ⟨gb102, 0, none⟩)] rfl Z0 ?_; (with_reducible refine (Ym.calls k gb102 t111 t112 t113 t114 t116 t117 t118 t119 t120 w _ ?side1 ?side2 A16.out).mono ?_); (case side1 => exact QI75_102); (case side2 => exact QB); rintro e w19 ⟨rfl, hi, hb, hk⟩; refine ⟨_, rfl, ?_⟩; have n0_ := Y0.mk (Y1.blk hk (g' := gb101) (o := .cells #[.int .i64 0, .string (⟨#[]⟩ : ByteArray), .slice none 0 0, .slice none 0 0] 37 (0, 0)) Z7 NB101_102.out (by simp)); have n1_ := Y0.mk (Kd.R_mono (Kd.R_keep (Yw.apart (show Yw w _ gb102 t111 t112 t113 t114 from QI75_102) Zw (by decide)) hk (fun _ h => h.2)) (fun _ h => h.1)); have n2_ := Y0.mk (Kd.N_mono (Kd.N_keep (Kd.N_mono (ok := fun k_ => ((((w.heap.size ≤ k_)) ∧ (some k_ ≠ (.slice Ao14 t105.length co14 : Value).ownBlock ∧ (k_ ≠ gb101 ∧ k_ ≠ gb102))) ∧ k_ ≠ gb115)) Zq (fun k_ hk_ => (⟨hk_, hk_.1.2.2.2⟩ : _ ∧ k_ ≠ gb102))) hk (fun _ h => h.2)) (fun _ h => h.1)); have n3_ := Y0.mk (Y1.blk hk (g' := gb115) (o := .cells #[.int .i64 t103, .string t104, .slice Ao14 t105.length co14, .slice Ao15 t108.length co15] 37 (0, 0)) Z2A NB115_102.out (by simp)); have n4_ := Y0.mk (hb); have n5_ := Y0.mk (hi); clear BK101 HO107 HO110 BK115 HB HI102; have BK101 := n0_; have HO107 := n1_; have HO110 := n2_; have BK115 := n3_; have HB := n4_; have HI102 := n5_; clear n0_ n1_ n2_ n3_ n4_ n5_; (try clear hb); (try clear hb2); (try clear hk); (try clear hi); obtain ⟨HGz20, hgz20⟩ := HI102.out; have hcz20_0 := YX HGz20; have hcz20_1 := YY HGz20; have hcz20_2 := YZ HGz20; have hcz20_3 := Y10 HGz20; have hfz20_0 := Y6 HGz20 0; have hfz20_1 := Y6 HGz20 1; have hfz20_2 := Y6 HGz20 2; have hfz20_3 := Y6 HGz20 3; clear HGz20 hgz20))
     go_meet
     case rel => exact ⟨_, (decide (t118 < (a0.size : Int))), (t117), (t118), (t119), (t120), Z8, H', ⟨Zr⟩, ⟨ZU⟩, ⟨ZH⟩, ⟨Z6⟩, ⟨Z1a⟩, ⟨QI75_102⟩, ⟨QB⟩⟩
    ·rw [if_neg c18] at H
     have c18b0 : (t119 == 0) = false := beq_eq_false_iff_ne.mpr c18
     have c18b1 : (t119 != 0) = true := bne_iff_ne.mpr c18
     have H' := Y0.mk H
     clear H
     go_wp2_with (first | ((with_reducible refine Yl (f := 53) rfl ?_); refine YO (some 17) rfl rfl Tryd.func53 Z4 rfl #[.pointer (some ⟨gb102, 0, none⟩)] rfl Z0 ?_; (with_reducible refine (Ym.calls k gb102 t111 t112 t113 t114 t116 t117 t118 t119 t120 w _ ?side1 ?side2 A16.out).mono ?_); (case side1 => exact QI75_102); (case side2 => exact QB); rintro e w21 ⟨rfl, hi, hb, hk⟩; refine ⟨_, rfl, ?_⟩; have n0_ := Y0.mk (Y1.blk hk (g' := gb101) (o := .cells #[.int .i64 0, .string (⟨#[]⟩ : ByteArray), .slice none 0 0, .slice none 0 0] 37 (0, 0)) Z7 NB101_102.out (by simp)); have n1_ := Y0.mk (Kd.R_mono (Kd.R_keep (Yw.apart (show Yw w _ gb102 t111 t112 t113 t114 from QI75_102) Zw (by decide)) hk (fun _ h => h.2)) (fun _ h => h.1)); have n2_ := Y0.mk (Kd.N_mono (Kd.N_keep (Kd.N_mono (ok := fun k_ => ((((w.heap.size ≤ k_)) ∧ (some k_ ≠ (.slice Ao14 t105.length co14 : Value).ownBlock ∧ (k_ ≠ gb101 ∧ k_ ≠ gb102))) ∧ k_ ≠ gb115)) Zq (fun k_ hk_ => (⟨hk_, hk_.1.2.2.2⟩ : _ ∧ k_ ≠ gb102))) hk (fun _ h => h.2)) (fun _ h => h.1)); have n3_ := Y0.mk (Y1.blk hk (g' := gb115) (o := .cells #[.int .i64 t103, .string t104, .slice Ao14 t105.length co14, .slice Ao15 t108.length co15] 37 (0, 0)) Z2A NB115_102.out (by simp)); have n4_ := Y0.mk (hb); have n5_ := Y0.mk (hi); clear BK101 HO107 HO110 BK115 HB HI102; have BK101 := n0_; have HO107 := n1_; have HO110 := n2_; have BK115 := n3_; have HB := n4_; have HI102 := n5_; clear n0_ n1_ n2_ n3_ n4_ n5_; (try clear hb); (try clear hb2); (try clear hk); (try clear hi); obtain ⟨HGz22, hgz22⟩ := HI102.out; have hcz22_0 := YX HGz22; have hcz22_1 := YY HGz22; have hcz22_2 := YZ HGz22; have hcz22_3 := Y10 HGz22; have hfz22_0 := Y6 HGz22 0; have hfz22_1 := Y6 HGz22 1; have hfz22_2 := Y6 HGz22 2; have hfz22_3 := Y6 HGz22 3; clear HGz22 hgz22))
     go_meet
     case rel => exact ⟨_, (false), (t117), (t118), (t119), (t120), Z8, H', ⟨Zr⟩, ⟨ZU⟩, ⟨ZH⟩, ⟨Z6⟩, ⟨Z1a⟩, ⟨QI75_102⟩, ⟨QB⟩⟩
   ·rw [if_neg c17] at H
    have c17b0 : (t116 == 0) = false := beq_eq_false_iff_ne.mpr c17
    have c17b1 : (t116 != 0) = true := bne_iff_ne.mpr c17
    (first | rw [c17b0] | (simp only [Y16, Y17]; rw [c17b0]) | skip)
    have H' := Y0.mk H
    clear H
    go_wp2_with (first | ((with_reducible refine Yl (f := 53) rfl ?_); refine YO (some 17) rfl rfl Tryd.func53 Z4 rfl #[.pointer (some ⟨gb102, 0, none⟩)] rfl Z0 ?_; (with_reducible refine (Ym.calls k gb102 t111 t112 t113 t114 t116 t117 t118 t119 t120 w _ ?side1 ?side2 A16.out).mono ?_); (case side1 => exact QI75_102); (case side2 => exact QB); rintro e w23 ⟨rfl, hi, hb, hk⟩; refine ⟨_, rfl, ?_⟩; have n0_ := Y0.mk (Y1.blk hk (g' := gb101) (o := .cells #[.int .i64 0, .string (⟨#[]⟩ : ByteArray), .slice none 0 0, .slice none 0 0] 37 (0, 0)) Z7 NB101_102.out (by simp)); have n1_ := Y0.mk (Kd.R_mono (Kd.R_keep (Yw.apart (show Yw w _ gb102 t111 t112 t113 t114 from QI75_102) Zw (by decide)) hk (fun _ h => h.2)) (fun _ h => h.1)); have n2_ := Y0.mk (Kd.N_mono (Kd.N_keep (Kd.N_mono (ok := fun k_ => ((((w.heap.size ≤ k_)) ∧ (some k_ ≠ (.slice Ao14 t105.length co14 : Value).ownBlock ∧ (k_ ≠ gb101 ∧ k_ ≠ gb102))) ∧ k_ ≠ gb115)) Zq (fun k_ hk_ => (⟨hk_, hk_.1.2.2.2⟩ : _ ∧ k_ ≠ gb102))) hk (fun _ h => h.2)) (fun _ h => h.1)); have n3_ := Y0.mk (Y1.blk hk (g' := gb115) (o := .cells #[.int .i64 t103, .string t104, .slice Ao14 t105.length co14, .slice Ao15 t108.length co15] 37 (0, 0)) Z2A NB115_102.out (by simp)); have n4_ := Y0.mk (hb); have n5_ := Y0.mk (hi); clear BK101 HO107 HO110 BK115 HB HI102; have BK101 := n0_; have HO107 := n1_; have HO110 := n2_; have BK115 := n3_; have HB := n4_; have HI102 := n5_; clear n0_ n1_ n2_ n3_ n4_ n5_; (try clear hb); (try clear hb2); (try clear hk); (try clear hi)))
    go_meet
    case rel => exact ⟨_, (true), (t117), (t118), (t119), (t120), Z8, H', ⟨Zr⟩, ⟨ZU⟩, ⟨ZH⟩, ⟨Z6⟩, ⟨Z1a⟩, ⟨QI75_102⟩, ⟨QB⟩⟩
  case rest =>
   clear HC6
   try clear c1
   try clear c2
   try clear c2b0
   try clear c2b1
   try clear p2
   try clear c5
   try clear c11
   try clear c12
   try clear c17
   try clear c17b0
   try clear c17b1
   try clear c18
   try clear c18b0
   try clear c18b1
   try clear hcz13_0 hcz13_1 hcz13_2 hcz13_3
   try clear hcz20_0 hcz20_1 hcz20_2 hcz20_3
   try clear hcz22_0 hcz22_1 hcz22_2 hcz22_3
   try clear hcz4_0 hcz4_1 hcz4_2 hcz4_3
   try clear hfz13_0
   try clear hfz13_1
   try clear hfz13_2
   try clear hfz13_3
   try clear hfz20_0
   try clear hfz20_1
   try clear hfz20_2
   try clear hfz20_3
   try clear hfz22_0
   try clear hfz22_1
   try clear hfz22_2
   try clear hfz22_3
   try clear hfz4_0
   try clear hfz4_1
   try clear hfz4_2
   try clear hfz4_3
   obtain ⟨kq, x34_5, x103000_5, x103001_5, x103002_5, x103003_5, rfl, HA, HJ5, HO_116002, HO_116003, BK101, BK115, HI102, HB⟩ := hcut
   cases kq with
   | zero => exact absurd HA.out (by simp [YI.j0])
   | succ kj5 =>
    have H := HA.out
    clear HA
    simp only [YI.j0] at H
    by_cases c24 : x34_5 = true
    ·subst c24
     have H1 : ((Ys.f x103000_5 x103001_5 x103002_5 x103003_5 x103001_5 2).bind fun bt121 => (if bt121.2.2.2.2.2.2.1 = 0 then (some (t103, t104, t105, t108, (a0.size : Int), 0)) else (some (0, (⟨#[]⟩ : ByteArray), ([] : List ByteArray), ([] : List (S37)), bt121.2.2.2.2.2.2.2, bt121.2.2.2.2.2.2.1)))) = some (r1, r2, r3, r4, r5, r6) := by rw [if_pos rfl] at H; exact H
     clear H
     have H := H1
     clear H1
     replace H := Option.bind_eq_some_iff.mp H
     obtain ⟨⟨t121, t122, t123, t126, t129, t130, t131, t132⟩, A250, H⟩ := H
     replace H : (if t131 = 0 then (some (t103, t104, t105, t108, (a0.size : Int), 0)) else (some (0, (⟨#[]⟩ : ByteArray), ([] : List ByteArray), ([] : List (S37)), t132, t131))) = some (r1, r2, r3, r4, r5, r6) := H
     have A25 := Y0.mk A250
     clear A250
     by_cases c26 : t131 = 0
     ·rw [if_pos c26] at H
      have c26b0 : (t131 == 0) = true := beq_iff_eq.mpr c26
      have c26b1 : (t131 != 0) = false := bne_eq_false_iff_eq.mpr c26
      clear c26
      simp only [Option.some.injEq, Prod.mk.injEq] at H
      obtain ⟨rfl, rfl, rfl, rfl, rfl, rfl⟩ := H
      obtain ⟨hcz27_0, hcz27_1, hcz27_2, hcz27_3, hfz27_0, hfz27_1, hfz27_2, hfz27_3⟩ := YA HI102.out.1
      go_wp2_with (first | ((with_reducible refine Yl (f := 54) rfl ?_); refine YO (some 40) rfl rfl Tryd.func54 Z4 rfl #[.pointer (some ⟨gb102, 0, none⟩), .int .i64 x103001_5, .int .i64 2] rfl Z0 ?_; (with_reducible refine (Ys.calls gb102 x103000_5 x103001_5 x103002_5 x103003_5 x103001_5 2 t121 t122 t123 t126 t129 t130 t131 t132 w _ ?side1 ?side2 A25.out).mono ?_); (case side1 => exact QI75_102); (case side2 => exact QB); rintro e w28 ⟨v124, v127, rfl, ho0, ho1, hi, hb, hk⟩; refine ⟨_, rfl, ?_⟩; have n0_ := Y0.mk (Kd.R_mono (Kd.R_told (Kd.R_oldK (Yw.apart (show Yw w _ gb102 x103000_5 x103001_5 x103002_5 x103003_5 from QI75_102) Zo (by decide)) hk) (Kd.R_base ho0)) (fun _ h_ => h_.1)); have n1_ := Y0.mk (Kd.N_mono (Kd.N_told (Kd.N_told (Kd.N_oldK (Kd.N_mono (ok := fun k_ => (((w.heap.size ≤ k_)) ∧ (some k_ ≠ (.slice Ao14 t105.length co14 : Value).ownBlock ∧ (k_ ≠ gb101 ∧ (k_ ≠ gb115 ∧ k_ ≠ gb102))))) ZF (fun k_ hk_ => (⟨hk_, hk_.2.2.2.2⟩ : _ ∧ k_ ≠ gb102))) hk) (Kd.R_base ho0)) (Kd.N_base ho1)) (fun _ h_ => h_.1)); have n2_ := Y0.mk (Y1.blk hk (g' := gb101) (o := .cells #[.int .i64 0, .string (⟨#[]⟩ : ByteArray), .slice none 0 0, .slice none 0 0] 37 (0, 0)) QQ NB101_102.out (by simp)); have n3_ := Y0.mk (Y1.blk hk (g' := gb115) (o := .cells #[.int .i64 t103, .string t104, .slice Ao14 t105.length co14, .slice Ao15 t108.length co15] 37 (0, 0)) QQ NB115_102.out (by simp)); have n4_ := Y0.mk (Kd.R_lower (Kd.R_new' (Kd.R_newM (M := fun k_ => (w.heap.size ≤ k_)) (Kd.R_mono (ok' := fun k_ => True) ho0 (fun _ hk_ => trivial)) (Yf QB) (fun k_ h_ => h_)) (Kd.R_lt Zo)) (Yf QB)); have n5_ := Y0.mk (Kd.N_lower (Kd.N_mono (ok' := fun k_ => (w.heap.size ≤ k_) ∧ some k_ ≠ (v124 : Value).ownBlock ∧ some k_ ≠ (.slice Ao14 t105.length co14 : Value).ownBlock ∧ some k_ ≠ (.slice Ao15 t108.length co15 : Value).ownBlock ∧ k_ ≠ gb101 ∧ k_ ≠ gb115 ∧ k_ ≠ gb102) ho1 (fun k_ hk_ => ⟨(Nat.le_trans (Yf QB) hk_.1), hk_.2, (Kd.fresh' (Kd.R_lt Zo) k_ hk_.1), (Kd.fresh' (Kd.N_lt ZF) k_ hk_.1), (Kd.freshB (g := gb101) (o := .cells #[.int .i64 0, .string (⟨#[]⟩ : ByteArray), .slice none 0 0, .slice none 0 0] 37 (0, 0)) QQ k_ hk_.1), (Kd.freshB (g := gb115) (o := .cells #[.int .i64 t103, .string t104, .slice Ao14 t105.length co14, .slice Ao15 t108.length co15] 37 (0, 0)) QQ k_ hk_.1), (Yw.fresh QI75_102 k_ hk_.1)⟩)) (Yf QB)); have n6_ := Y0.mk (hb); have n7_ := Y0.mk (hi); clear HO_116002 HO_116003 BK101 BK115 HB HI102; have HO_116002 := n0_; have HO_116003 := n1_; have BK101 := n2_; have BK115 := n3_; have HO125 := n4_; have HO128 := n5_; have HB := n6_; have HI102 := n7_; clear n0_ n1_ n2_ n3_ n4_ n5_ n6_ n7_; (try clear hb); (try clear hb2); (try clear hk); (try clear hi); (try clear ho0); (try clear ho1); obtain ⟨HGz29, hgz29⟩ := HI102.out; have hcz29_0 := YX HGz29; have hcz29_1 := YY HGz29; have hcz29_2 := YZ HGz29; have hcz29_3 := Y10 HGz29; have hfz29_0 := Y6 HGz29 0; have hfz29_1 := Y6 HGz29 1; have hfz29_2 := Y6 HGz29 2; have hfz29_3 := Y6 HGz29 3; clear HGz29 hgz29; have hnb30 := NB115_101.out; have hnc30 := NB101_115.out; have hnb31 := NB115_102.out; have hnc31 := NB102_115.out; obtain ⟨hcz32_0, hcz32_1, hcz32_2, hcz32_3, hfz32_0, hfz32_1, hfz32_2, hfz32_3⟩ := YA BK115.out; have hnb33 := NB101_102.out; have hnc33 := NB102_101.out; obtain ⟨hcz34_0, hcz34_1, hcz34_2, hcz34_3, hfz34_0, hfz34_1, hfz34_2, hfz34_3⟩ := YA BK101.out))
      refine bodyPost_ret (Y1O rfl _ _ gb101 37 #[.int .i64 t103, .string t104, .slice Ao14 t105.length co14, .slice Ao15 t108.length co15] (0, 0) _ rfl Z2A Tryd.underlying37 rfl Z4) rfl ?_
      exact ⟨_, _, Z2, by (with_reducible repeat (first | apply Kd.R_alloc | apply Kd.R_drewN | apply Kd.R_drew)); exact Kd.R_mono (Kd.R_far (p := ⟨gb101, 3, none⟩) (Kd.R_far (p := ⟨gb101, 2, none⟩) (Kd.R_far (p := ⟨gb101, 1, none⟩) (Kd.R_far (p := ⟨gb101, 0, none⟩) (Kd.R_types HO_116002.out BK101.out (by decide)) (fun _ hk => hk.2) (.int .i64 t103)) (fun _ hk => hk.2) (.string t104)) (fun _ hk => hk.2) (.slice Ao14 t105.length co14)) (fun _ hk => hk.2) (.slice Ao15 t108.length co15)) (fun _ hk => hk.1.1), by (with_reducible repeat (first | apply Kd.N_alloc | apply Kd.N_drewN | apply Kd.N_drew)); exact Kd.N_mono (Kd.N_far (p := ⟨gb101, 3, none⟩) (Kd.N_far (p := ⟨gb101, 2, none⟩) (Kd.N_far (p := ⟨gb101, 1, none⟩) (Kd.N_far (p := ⟨gb101, 0, none⟩) (Kd.N_mono HO_116003.out (fun k_ hk => (⟨hk, hk.1.1.2.2.1⟩ : _ ∧ k_ ≠ gb101))) (fun _ hk => hk.2) (.int .i64 t103)) (fun _ hk => hk.2) (.string t104)) (fun _ hk => hk.2) (.slice Ao14 t105.length co14)) (fun _ hk => hk.2) (.slice Ao15 t108.length co15)) (fun _ hk => ⟨hk.1.1.1.1, hk.1.1.1.2.1⟩), QB⟩
     ·rw [if_neg c26] at H
      have c26b0 : (t131 == 0) = false := beq_eq_false_iff_ne.mpr c26
      have c26b1 : (t131 != 0) = true := bne_iff_ne.mpr c26
      simp only [Option.some.injEq, Prod.mk.injEq] at H
      obtain ⟨rfl, rfl, rfl, rfl, rfl, rfl⟩ := H
      obtain ⟨hcz35_0, hcz35_1, hcz35_2, hcz35_3, hfz35_0, hfz35_1, hfz35_2, hfz35_3⟩ := YA HI102.out.1
      try go_wp2_with (first | ((with_reducible refine Yl (f := 54) rfl ?_); refine YO (some 40) rfl rfl Tryd.func54 Z4 rfl #[.pointer (some ⟨gb102, 0, none⟩), .int .i64 x103001_5, .int .i64 2] rfl Z0 ?_; (with_reducible refine (Ys.calls gb102 x103000_5 x103001_5 x103002_5 x103003_5 x103001_5 2 t121 t122 t123 t126 t129 t130 t131 t132 w _ ?side1 ?side2 A25.out).mono ?_); (case side1 => exact QI75_102); (case side2 => exact QB); rintro e w36 ⟨v124, v127, rfl, ho0, ho1, hi, hb, hk⟩; refine ⟨_, rfl, ?_⟩; have n0_ := Y0.mk (Kd.R_mono (Kd.R_told (Kd.R_oldK (Yw.apart (show Yw w _ gb102 x103000_5 x103001_5 x103002_5 x103003_5 from QI75_102) Zo (by decide)) hk) (Kd.R_base ho0)) (fun _ h_ => h_.1)); have n1_ := Y0.mk (Kd.N_mono (Kd.N_told (Kd.N_told (Kd.N_oldK (Kd.N_mono (ok := fun k_ => (((w.heap.size ≤ k_)) ∧ (some k_ ≠ (.slice Ao14 t105.length co14 : Value).ownBlock ∧ (k_ ≠ gb101 ∧ (k_ ≠ gb115 ∧ k_ ≠ gb102))))) ZF (fun k_ hk_ => (⟨hk_, hk_.2.2.2.2⟩ : _ ∧ k_ ≠ gb102))) hk) (Kd.R_base ho0)) (Kd.N_base ho1)) (fun _ h_ => h_.1)); have n2_ := Y0.mk (Y1.blk hk (g' := gb101) (o := .cells #[.int .i64 0, .string (⟨#[]⟩ : ByteArray), .slice none 0 0, .slice none 0 0] 37 (0, 0)) QQ NB101_102.out (by simp)); have n3_ := Y0.mk (Y1.blk hk (g' := gb115) (o := .cells #[.int .i64 t103, .string t104, .slice Ao14 t105.length co14, .slice Ao15 t108.length co15] 37 (0, 0)) QQ NB115_102.out (by simp)); have n4_ := Y0.mk (Kd.R_lower (Kd.R_new' (Kd.R_newM (M := fun k_ => (w.heap.size ≤ k_)) (Kd.R_mono (ok' := fun k_ => True) ho0 (fun _ hk_ => trivial)) (Yf QB) (fun k_ h_ => h_)) (Kd.R_lt Zo)) (Yf QB)); have n5_ := Y0.mk (Kd.N_lower (Kd.N_mono (ok' := fun k_ => (w.heap.size ≤ k_) ∧ some k_ ≠ (v124 : Value).ownBlock ∧ some k_ ≠ (.slice Ao14 t105.length co14 : Value).ownBlock ∧ some k_ ≠ (.slice Ao15 t108.length co15 : Value).ownBlock ∧ k_ ≠ gb101 ∧ k_ ≠ gb115 ∧ k_ ≠ gb102) ho1 (fun k_ hk_ => ⟨(Nat.le_trans (Yf QB) hk_.1), hk_.2, (Kd.fresh' (Kd.R_lt Zo) k_ hk_.1), (Kd.fresh' (Kd.N_lt ZF) k_ hk_.1), (Kd.freshB (g := gb101) (o := .cells #[.int .i64 0, .string (⟨#[]⟩ : ByteArray), .slice none 0 0, .slice none 0 0] 37 (0, 0)) QQ k_ hk_.1), (Kd.freshB (g := gb115) (o := .cells #[.int .i64 t103, .string t104, .slice Ao14 t105.length co14, .slice Ao15 t108.length co15] 37 (0, 0)) QQ k_ hk_.1), (Yw.fresh QI75_102 k_ hk_.1)⟩)) (Yf QB)); have n6_ := Y0.mk (hb); have n7_ := Y0.mk (hi); clear HO_116002 HO_116003 BK101 BK115 HB HI102; have HO_116002 := n0_; have HO_116003 := n1_; have BK101 := n2_; have BK115 := n3_; have HO125 := n4_; have HO128 := n5_; have HB := n6_; have HI102 := n7_; clear n0_ n1_ n2_ n3_ n4_ n5_ n6_ n7_; (try clear hb); (try clear hb2); (try clear hk); (try clear hi); (try clear ho0); (try clear ho1); obtain ⟨HGz37, hgz37⟩ := HI102.out; have hcz37_0 := YX HGz37; have hcz37_1 := YY HGz37; have hcz37_2 := YZ HGz37; have hcz37_3 := Y10 HGz37; have hfz37_0 := Y6 HGz37 0; have hfz37_1 := Y6 HGz37 1; have hfz37_2 := Y6 HGz37 2; have hfz37_3 := Y6 HGz37 3; clear HGz37 hgz37))
      have n_ := Y4q (Kd.R_drew HO_116002.out) (Kd.N_drew HO_116003.out) (Kd.R_drew HO125.out) (Kd.N_drew HO128.out) (Yb BK101.out) (Yb BK115.out) (Yw.drew HI102.out) (YP HB.out)
      clear HO_116002
      clear HO_116003
      clear HO125
      clear HO128
      clear BK101
      clear BK115
      clear HI102
      clear HB
      obtain ⟨HO_116002, HO_116003, HO125, HO128, BK101, BK115, HI102, HB⟩ := n_
      refine Y1m (n := 12) (S := fun w' => w'.cell? ⟨gb102, 0, none⟩ = some (.string t129) ∧ w'.cell? ⟨gb102, 1, none⟩ = some (.int .i64 t130) ∧ w'.cell? ⟨gb102, 2, none⟩ = some (.int .i64 t131) ∧ w'.cell? ⟨gb102, 3, none⟩ = some (.int .i64 t132)) (ds := []) Y5G Z4 rfl rfl ⟨YX HI102.out.1, YY HI102.out.1, YZ HI102.out.1, Y10 HI102.out.1⟩ (fun hHeld => ?_); refine Y11 YI.tab8 YI.bits8 (fun HT_ HW_ => ?_)
      generalize w36.drew = w38 at HO_116002 HO_116003 HO125 HO128 BK101 BK115 HI102 HB hHeld ⊢
      refine pY 0 46 Y5H ?_
      refine pY 1 47 Y5I ?_
      refine pY 2 48 Y5J ?_
      refine pY 3 49 Y6k ?_
      refine pY 5 51 Y5f ?_
      refine pY 6 52 Y5g ?_
      refine pY 7 53 Y5h ?_
      refine pT 4 50 Y5i ?_
      refine pT 8 54 Y4i ?_
      refine Y2Q (i := 9) (N := none) Y3R rfl rfl (Y1b HT_.out Z4) (by decide) (fun K hK => ?_)
      have hs39 : w38.cell? ⟨gb101, 0, none⟩ = some (.int .i64 0) := (Y2 BK101.out 0).trans rfl
      have hfs39 := Y6 BK101.out 0
      have hns39_1 := NB115_101.out
      have hms39_1 := NB101_115.out
      have hs40 : w38.cell? ⟨gb101, 1, none⟩ = some (.string (⟨#[]⟩ : ByteArray)) := (Y2 BK101.out 1).trans rfl
      have hfs40 := Y6 BK101.out 1
      have hns40_1 := NB115_101.out
      have hms40_1 := NB101_115.out
      have hs41 : w38.cell? ⟨gb101, 2, none⟩ = some (.slice none 0 0) := (Y2 BK101.out 2).trans rfl
      have hfs41 := Y6 BK101.out 2
      have hns41_1 := NB115_101.out
      have hms41_1 := NB101_115.out
      have hs42 : w38.cell? ⟨gb101, 3, none⟩ = some (.slice none 0 0) := (Y2 BK101.out 3).trans rfl
      have hfs42 := Y6 BK101.out 3
      have hns42_1 := NB115_101.out
      have hms42_1 := NB101_115.out
      refine Y4W (w1 := ?_) (by rfl) rfl ?_ ?_
      rotate_left
      ·go_simp
       rfl
      refine hK.out _ _ ⟨((YQ (p := ⟨gb101, _, none⟩) NB102_101.out _).trans (((YQ (p := ⟨gb101, _, none⟩) NB102_101.out _).trans (((YQ (p := ⟨gb101, _, none⟩) NB102_101.out _).trans (((YQ (p := ⟨gb101, _, none⟩) NB102_101.out _).trans (hHeld.1)))))))), ((YQ (p := ⟨gb101, _, none⟩) NB102_101.out _).trans (((YQ (p := ⟨gb101, _, none⟩) NB102_101.out _).trans (((YQ (p := ⟨gb101, _, none⟩) NB102_101.out _).trans (((YQ (p := ⟨gb101, _, none⟩) NB102_101.out _).trans (hHeld.2.1)))))))), ((YQ (p := ⟨gb101, _, none⟩) NB102_101.out _).trans (((YQ (p := ⟨gb101, _, none⟩) NB102_101.out _).trans (((YQ (p := ⟨gb101, _, none⟩) NB102_101.out _).trans (((YQ (p := ⟨gb101, _, none⟩) NB102_101.out _).trans (hHeld.2.2.1)))))))), ((YQ (p := ⟨gb101, _, none⟩) NB102_101.out _).trans (((YQ (p := ⟨gb101, _, none⟩) NB102_101.out _).trans (((YQ (p := ⟨gb101, _, none⟩) NB102_101.out _).trans (((YQ (p := ⟨gb101, _, none⟩) NB102_101.out _).trans (hHeld.2.2.2))))))))⟩ (fun hHeld => ?_)
      clear hK K
      refine pY 10 3 Y3S ?_
      refine pY 11 4 Y3T ?_
      refine Y1S (Y1a HT_.out Z4) ?_
      try go_wp2
      refine bodyPost_ret (Y1O rfl _ _ gb101 37 #[.int .i64 0, .string (⟨#[]⟩ : ByteArray), .slice none 0 0, .slice none 0 0] (0, 0) _ rfl Z2a Tryd.underlying37 rfl Z4) rfl ?_
      exact Z2y
    ·replace c24 := Bool.eq_false_iff.mpr c24
     subst c24
     have H1 : (if x103002_5 = 0 then (some (t103, t104, t105, t108, (a0.size : Int), 0)) else (some (0, (⟨#[]⟩ : ByteArray), ([] : List ByteArray), ([] : List (S37)), x103003_5, x103002_5))) = some (r1, r2, r3, r4, r5, r6) := by rw [if_neg (show ¬ (false = true) by decide)] at H; exact H
     clear H
     have H := H1
     clear H1
     by_cases c43 : x103002_5 = 0
     ·rw [if_pos c43] at H
      have c43b0 : (x103002_5 == 0) = true := beq_iff_eq.mpr c43
      have c43b1 : (x103002_5 != 0) = false := bne_eq_false_iff_eq.mpr c43
      clear c43
      simp only [Option.some.injEq, Prod.mk.injEq] at H
      obtain ⟨rfl, rfl, rfl, rfl, rfl, rfl⟩ := H
      obtain ⟨hcz44_0, hcz44_1, hcz44_2, hcz44_3, hfz44_0, hfz44_1, hfz44_2, hfz44_3⟩ := YA HI102.out.1
      have hnb45 := NB115_101.out
      have hnc45 := NB101_115.out
      have hnb46 := NB115_102.out
      have hnc46 := NB102_115.out
      obtain ⟨hcz47_0, hcz47_1, hcz47_2, hcz47_3, hfz47_0, hfz47_1, hfz47_2, hfz47_3⟩ := YA BK115.out
      have hnb48 := NB101_102.out
      have hnc48 := NB102_101.out
      obtain ⟨hcz49_0, hcz49_1, hcz49_2, hcz49_3, hfz49_0, hfz49_1, hfz49_2, hfz49_3⟩ := YA BK101.out
      go_wp2
      refine bodyPost_ret (Y1O rfl _ _ gb101 37 #[.int .i64 t103, .string t104, .slice Ao14 t105.length co14, .slice Ao15 t108.length co15] (0, 0) _ rfl Z2A Tryd.underlying37 rfl Z4) rfl ?_
      exact ⟨_, _, Z2, by (with_reducible repeat (first | apply Kd.R_alloc | apply Kd.R_drewN | apply Kd.R_drew)); exact Kd.R_mono (Kd.R_far (p := ⟨gb101, 3, none⟩) (Kd.R_far (p := ⟨gb101, 2, none⟩) (Kd.R_far (p := ⟨gb101, 1, none⟩) (Kd.R_far (p := ⟨gb101, 0, none⟩) (Kd.R_types HO_116002.out BK101.out (by decide)) (fun _ hk => hk.2) (.int .i64 t103)) (fun _ hk => hk.2) (.string t104)) (fun _ hk => hk.2) (.slice Ao14 t105.length co14)) (fun _ hk => hk.2) (.slice Ao15 t108.length co15)) (fun _ hk => hk.1), by (with_reducible repeat (first | apply Kd.N_alloc | apply Kd.N_drewN | apply Kd.N_drew)); exact Kd.N_mono (Kd.N_far (p := ⟨gb101, 3, none⟩) (Kd.N_far (p := ⟨gb101, 2, none⟩) (Kd.N_far (p := ⟨gb101, 1, none⟩) (Kd.N_far (p := ⟨gb101, 0, none⟩) (Kd.N_mono HO_116003.out (fun k_ hk => (⟨hk, hk.2.2.1⟩ : _ ∧ k_ ≠ gb101))) (fun _ hk => hk.2) (.int .i64 t103)) (fun _ hk => hk.2) (.string t104)) (fun _ hk => hk.2) (.slice Ao14 t105.length co14)) (fun _ hk => hk.2) (.slice Ao15 t108.length co15)) (fun _ hk => ⟨hk.1.1, hk.1.2.1⟩), QB⟩
     ·rw [if_neg c43] at H
      have c43b0 : (x103002_5 == 0) = false := beq_eq_false_iff_ne.mpr c43
      have c43b1 : (x103002_5 != 0) = true := bne_iff_ne.mpr c43
      simp only [Option.some.injEq, Prod.mk.injEq] at H
      obtain ⟨rfl, rfl, rfl, rfl, rfl, rfl⟩ := H
      obtain ⟨hcz50_0, hcz50_1, hcz50_2, hcz50_3, hfz50_0, hfz50_1, hfz50_2, hfz50_3⟩ := YA HI102.out.1
      try go_wp2
      have n_ := Y3t (Kd.R_drew HO_116002.out) (Kd.N_drew HO_116003.out) (Yb BK101.out) (Yb BK115.out) (Yw.drew HI102.out) (YP HB.out)
      clear HO_116002
      clear HO_116003
      clear BK101
      clear BK115
      clear HI102
      clear HB
      obtain ⟨HO_116002, HO_116003, BK101, BK115, HI102, HB⟩ := n_
      refine Y1m (n := 12) (S := fun w' => w'.cell? ⟨gb102, 0, none⟩ = some (.string x103000_5) ∧ w'.cell? ⟨gb102, 1, none⟩ = some (.int .i64 x103001_5) ∧ w'.cell? ⟨gb102, 2, none⟩ = some (.int .i64 x103002_5) ∧ w'.cell? ⟨gb102, 3, none⟩ = some (.int .i64 x103003_5)) (ds := []) Y5G Z4 rfl rfl ⟨YX HI102.out.1, YY HI102.out.1, YZ HI102.out.1, Y10 HI102.out.1⟩ (fun hHeld => ?_); refine Y11 YI.tab8 YI.bits8 (fun HT_ HW_ => ?_)
      generalize wc.drew = w51 at HO_116002 HO_116003 BK101 BK115 HI102 HB hHeld ⊢
      refine pY 0 46 Y5H ?_
      refine pY 1 47 Y5I ?_
      refine pY 2 48 Y5J ?_
      refine pY 3 49 Y6k ?_
      refine pY 5 51 Y5f ?_
      refine pY 6 52 Y5g ?_
      refine pY 7 53 Y5h ?_
      refine pT 4 50 Y5i ?_
      refine pT 8 54 Y4i ?_
      refine Y2Q (i := 9) (N := none) Y3R rfl rfl (Y1b HT_.out Z4) (by decide) (fun K hK => ?_)
      have hs52 : w51.cell? ⟨gb101, 0, none⟩ = some (.int .i64 0) := (Y2 BK101.out 0).trans rfl
      have hfs52 := Y6 BK101.out 0
      have hns52_1 := NB115_101.out
      have hms52_1 := NB101_115.out
      have hs53 : w51.cell? ⟨gb101, 1, none⟩ = some (.string (⟨#[]⟩ : ByteArray)) := (Y2 BK101.out 1).trans rfl
      have hfs53 := Y6 BK101.out 1
      have hns53_1 := NB115_101.out
      have hms53_1 := NB101_115.out
      have hs54 : w51.cell? ⟨gb101, 2, none⟩ = some (.slice none 0 0) := (Y2 BK101.out 2).trans rfl
      have hfs54 := Y6 BK101.out 2
      have hns54_1 := NB115_101.out
      have hms54_1 := NB101_115.out
      have hs55 : w51.cell? ⟨gb101, 3, none⟩ = some (.slice none 0 0) := (Y2 BK101.out 3).trans rfl
      have hfs55 := Y6 BK101.out 3
      have hns55_1 := NB115_101.out
      have hms55_1 := NB101_115.out
      refine Y4W (w1 := ?_) (by rfl) rfl ?_ ?_
      rotate_left
      ·go_simp
       rfl
      refine hK.out _ _ ⟨((YQ (p := ⟨gb101, _, none⟩) NB102_101.out _).trans (((YQ (p := ⟨gb101, _, none⟩) NB102_101.out _).trans (((YQ (p := ⟨gb101, _, none⟩) NB102_101.out _).trans (((YQ (p := ⟨gb101, _, none⟩) NB102_101.out _).trans (hHeld.1)))))))), ((YQ (p := ⟨gb101, _, none⟩) NB102_101.out _).trans (((YQ (p := ⟨gb101, _, none⟩) NB102_101.out _).trans (((YQ (p := ⟨gb101, _, none⟩) NB102_101.out _).trans (((YQ (p := ⟨gb101, _, none⟩) NB102_101.out _).trans (hHeld.2.1)))))))), ((YQ (p := ⟨gb101, _, none⟩) NB102_101.out _).trans (((YQ (p := ⟨gb101, _, none⟩) NB102_101.out _).trans (((YQ (p := ⟨gb101, _, none⟩) NB102_101.out _).trans (((YQ (p := ⟨gb101, _, none⟩) NB102_101.out _).trans (hHeld.2.2.1)))))))), ((YQ (p := ⟨gb101, _, none⟩) NB102_101.out _).trans (((YQ (p := ⟨gb101, _, none⟩) NB102_101.out _).trans (((YQ (p := ⟨gb101, _, none⟩) NB102_101.out _).trans (((YQ (p := ⟨gb101, _, none⟩) NB102_101.out _).trans (hHeld.2.2.2))))))))⟩ (fun hHeld => ?_)
      clear hK K
      refine pY 10 3 Y3S ?_
      refine pY 11 4 Y3T ?_
      refine Y1S (Y1a HT_.out Z4) ?_
      try go_wp2
      refine bodyPost_ret (Y1O rfl _ _ gb101 37 #[.int .i64 0, .string (⟨#[]⟩ : ByteArray), .slice none 0 0, .slice none 0 0] (0, 0) _ rfl Z2a Tryd.underlying37 rfl Z4) rfl ?_
      exact Z2y
mutual
def Yv.j0 : Nat → Int → Bool → Int → ByteArray → List ByteArray → List (S37) → Option (Bool)
 | 0, _, _, _, _, _, _ => none
 | k + 1, x1, x26, x102000, x102001, x102002, x102003 => if x26 = true then (some true) else (Yv.l0 k x1 0 x102000 x102001 x102002 x102003)
def Yv.l0 : Nat → Int → Int → Int → ByteArray → List ByteArray → List (S37) → Option (Bool)
 | 0, _, _, _, _, _, _ => none
 | k + 1, x1, x5, x102000, x102001, x102002, x102003 => if x5 < (x102002.length : Int) then (if 0 ≤ x5 then (if ((Y39 ByteArray.empty x102002 x5).size : Int) > 300 then (some true) else (Yv.l0 k x1 (wrap64 (x5 + 1)) x102000 x102001 x102002 x102003)) else (none)) else (Yv.l1 k x1 0 x102000 x102001 x102002 x102003)
def Yv.l1 : Nat → Int → Int → Int → ByteArray → List ByteArray → List (S37) → Option (Bool)
 | 0, _, _, _, _, _, _ => none
 | k + 1, x1, x6, x102000, x102001, x102002, x102003 => if x6 < (x102003.length : Int) then (if 0 ≤ x6 then ((Yv.f k ((Yc x102003 x6).f0) ((Yc x102003 x6).f1) ((Yc x102003 x6).f2) ((Yc x102003 x6).f3) (wrap64 (x1 + 1))).bind fun t104 => (if t104 = true then (some true) else (Yv.l1 k x1 (wrap64 (x6 + 1)) x102000 x102001 x102002 x102003))) else (none)) else (some false)
def Yv.f : Nat → Int → ByteArray → List ByteArray → List (S37) → Int → Option (Bool)
 | 0, _, _, _, _, _ => none
 | k + 1, a0_0, a0_1, l0_2, l0_3, a1 => if a1 > 12 then (Yv.j0 k a1 true a0_0 a0_1 l0_2 l0_3) else (if (l0_3.length : Int) > 4 then (Yv.j0 k a1 true a0_0 a0_1 l0_2 l0_3) else (if (l0_2.length : Int) > 20 then (Yv.j0 k a1 true a0_0 a0_1 l0_2 l0_3) else (Yv.j0 k a1 (decide ((a0_1.size : Int) > 300)) a0_0 a0_1 l0_2 l0_3)))
end
set_option maxHeartbeats 8000000 in
set_option maxRecDepth 100000 in
theorem Yv.calls (k : Nat) : ∀ (a0_0 : Int) (a0_1 : ByteArray) (A0_2 : Option Addr) (c0_2 : Nat) (l0_2 : List ByteArray) (A0_3 : Option Addr) (c0_3 : Nat) (l0_3 : List (S37)) (a1 : Int) (r : Bool) (w : World) (hr0_2 : Kd.C Kd.string w A0_2 l0_2.length l0_2) (hc0_2 : l0_2.length ≤ c0_2) (hr0_3 : Kd.C k37 w A0_3 l0_3.length l0_3) (hc0_3 : l0_3.length ≤ c0_3) (h : Yv.f k a0_0 a0_1 l0_2 l0_3 a1 = some r),
  Calls Tryd.prog 22 #[.agg #[.int .i64 a0_0, .string a0_1, .slice A0_2 l0_2.length c0_2, .slice A0_3 l0_3.length c0_3], .int .i64 a1] w fun e w' => e = .returned (.bool r) ∧ Below w.heap.size w w' := by
 induction k using Nat.strongRecOn with
 | _ k ih =>
 intro a0_0 a0_1 A0_2 c0_2 l0_2 A0_3 c0_3 l0_3 a1 r w hr0_2 hc0_2 hr0_3 hc0_3 h
 cases k with
 | zero => exact absurd h (by simp [Yv.f])
 | succ k =>
 simp only [Yv.f] at h
 have hu37 := Tryd.underlying37
 have HR0_2 := Y0.mk hr0_2
 have HC0_2 := Y0.mk hc0_2
 clear hr0_2 hc0_2
 have HR0_3 := Y0.mk hr0_3
 have HC0_3 := Y0.mk hc0_3
 clear hr0_3 hc0_3
 have HB := Y0.mk (Below.refl w.heap.size w)
 have H : (if a1 > 12 then (Yv.j0 k a1 true a0_0 a0_1 l0_2 l0_3) else (if (l0_3.length : Int) > 4 then (Yv.j0 k a1 true a0_0 a0_1 l0_2 l0_3) else (if (l0_2.length : Int) > 20 then (Yv.j0 k a1 true a0_0 a0_1 l0_2 l0_3) else (Yv.j0 k a1 (decide ((a0_1.size : Int) > 300)) a0_0 a0_1 l0_2 l0_3)))) = some r := h
 clear h
 have HC3 := Y0.mk H
 clear H
 go_enter Tryd.func22, Tryd.ntmps22
 go_upto_region 1 with (first | ((with_reducible refine YF (N := 2) rfl ?_); (try (refine YW (by rfl) ?_; dsimp only)); refine YD ?hg (N := 2) ?hd (cs := #[.int .i64 a0_0, .string a0_1, .slice A0_2 l0_2.length c0_2, .slice A0_3 l0_3.length c0_3]) (t := 37) ?hr ?_; (case hd => rfl); (case hg => rfl); (case hr => exact Zb); intro gb101 hg w4 hbox hb; have n_ := Y2N (Y8 QB hb) (hbox) ((by rw [hg]; exact (Yf QB) : w.heap.size ≤ gb101)) ((by rw [hg]; exact (Yf QB) : w.heap.size ≤ gb101)); clear HB; obtain ⟨HB, BK101, GW101, GE101⟩ := n_; clear hb hbox hg))
 (try simp only [Act.put, List.setIfInBounds_toArray, List.set_cons_zero, List.set_cons_succ])
 go_cut [26] (fun v26 wc => ∃ (kq : Nat) (x26_2 : Bool), v26 = .bool x26_2 ∧ Y0 (Yv.j0 kq a1 x26_2 a0_0 a0_1 l0_2 l0_3 = some r) ∧ Y0 (kq ≤ k) ∧ Y0 (wc.heap[gb101]? = some (.cells #[.int .i64 a0_0, .string a0_1, (.slice A0_2 l0_2.length c0_2), (.slice A0_3 l0_3.length c0_3)] 37 (0, 0))) ∧ Y0 (Below w.heap.size w wc))
 case first =>
  have H := HC3.out
  clear HC3
  by_cases c5 : a1 > 12
  ·rw [if_pos c5] at H
   have c5b0 : decide (12 < a1) = true := decide_eq_true c5
   clear c5
   (first | rw [c5b0] | (simp only [Y16, Y17]; rw [c5b0]) | skip)
   have H' := Y0.mk H
   clear H
   go_wp2
   go_meet
   case rel => exact Z2s
  ·rw [if_neg c5] at H
   have c5b0 : decide (12 < a1) = false := decide_eq_false c5
   clear c5
   (first | rw [c5b0] | (simp only [Y16, Y17]; rw [c5b0]) | skip)
   by_cases c6 : (l0_3.length : Int) > 4
   ·rw [if_pos c6] at H
    have c6b0 : decide (4 < (l0_3.length : Int)) = true := decide_eq_true c6
    have c6b1 : decide (4 < l0_3.length) = true := decide_eq_true (by omega)
    clear c6
    have H' := Y0.mk H
    clear H
    obtain ⟨hcz7_0, hcz7_1, hcz7_2, hcz7_3, hfz7_0, hfz7_1, hfz7_2, hfz7_3⟩ := YA BK101.out
    go_wp2
    go_meet
    case rel => exact Z2s
   ·rw [if_neg c6] at H
    have c6b0 : decide (4 < (l0_3.length : Int)) = false := decide_eq_false c6
    have c6b1 : decide (4 < l0_3.length) = false := decide_eq_false (by omega)
    clear c6
    by_cases c8 : (l0_2.length : Int) > 20
    ·rw [if_pos c8] at H
     have c8b0 : decide (20 < (l0_2.length : Int)) = true := decide_eq_true c8
     have c8b1 : decide (20 < l0_2.length) = true := decide_eq_true (by omega)
     clear c8
     have H' := Y0.mk H
     clear H
     obtain ⟨hcz9_0, hcz9_1, hcz9_2, hcz9_3, hfz9_0, hfz9_1, hfz9_2, hfz9_3⟩ := YA BK101.out
     go_wp2
     go_meet
     case rel => exact Z2s
    ·rw [if_neg c8] at H
     have c8b0 : decide (20 < (l0_2.length : Int)) = false := decide_eq_false c8
     have c8b1 : decide (20 < l0_2.length) = false := decide_eq_false (by omega)
     clear c8
     have H' := Y0.mk H
     clear H
     obtain ⟨hcz10_0, hcz10_1, hcz10_2, hcz10_3, hfz10_0, hfz10_1, hfz10_2, hfz10_3⟩ := YA BK101.out
     go_wp2
     go_meet
     case rel => exact ⟨_, (decide ((a0_1.size : Int) > 300)), Z8, H', ⟨Zr⟩, ⟨Z6⟩, ⟨QB⟩⟩
 case rest =>
  clear HC3
  try clear c2
  try clear p2
  try clear c5
  try clear c5b0
  try clear c6
  try clear c6b0
  try clear c6b1
  try clear c8
  try clear c8b0
  try clear c8b1
  try clear hcz10_0 hcz10_1 hcz10_2 hcz10_3
  try clear hcz7_0 hcz7_1 hcz7_2 hcz7_3
  try clear hcz9_0 hcz9_1 hcz9_2 hcz9_3
  try clear hfz10_0
  try clear hfz10_1
  try clear hfz10_2
  try clear hfz10_3
  try clear hfz7_0
  try clear hfz7_1
  try clear hfz7_2
  try clear hfz7_3
  try clear hfz9_0
  try clear hfz9_1
  try clear hfz9_2
  try clear hfz9_3
  obtain ⟨kq, x26_2, rfl, HA, HJ2, BK101, HB⟩ := hcut
  cases kq with
  | zero => exact absurd HA.out (by simp [Yv.j0])
  | succ kj2 =>
   have H := HA.out
   clear HA
   simp only [Yv.j0] at H
   by_cases c11 : x26_2 = true
   ·subst c11
    have H1 : (some true) = some r := by rw [if_pos rfl] at H; exact H
    clear H
    have H := H1
    clear H1
    obtain rfl := Option.some.inj H
    go_wp2
    go_ret
    exact Z2r
   ·replace c11 := Bool.eq_false_iff.mpr c11
    subst c11
    have H1 : (Yv.l0 kj2 a1 0 a0_0 a0_1 l0_2 l0_3) = some r := by rw [if_neg (show ¬ (false = true) by decide)] at H; exact H
    clear H
    have H := H1
    clear H1
    have H' := Y0.mk H
    clear H
    go_wp2
    go_loopg [5] kj2 (fun kq v5 w' => ∃ (x5_2 : Int), v5 = .int .i64 x5_2 ∧ Y0 (Yv.l0 kq a1 x5_2 a0_0 a0_1 l0_2 l0_3 = some r) ∧ Y0 (kq ≤ kj2) ∧ Y0 (w'.heap[gb101]? = some (.cells #[.int .i64 a0_0, .string a0_1, (.slice A0_2 l0_2.length c0_2), (.slice A0_3 l0_3.length c0_3)] 37 (0, 0))) ∧ Y0 (Below w.heap.size w w'))
    case atStart => exact Z2z
    case round =>
     clear H'
     try clear c1
     try clear c2
     try clear p2
     try clear c5
     try clear c5b0
     try clear c6
     try clear c6b0
     try clear c6b1
     try clear c8
     try clear c8b0
     try clear c8b1
     try clear c11
     try clear hcz10_0 hcz10_1 hcz10_2 hcz10_3
     try clear hcz7_0 hcz7_1 hcz7_2 hcz7_3
     try clear hcz9_0 hcz9_1 hcz9_2 hcz9_3
     try clear hfz10_0
     try clear hfz10_1
     try clear hfz10_2
     try clear hfz10_3
     try clear hfz7_0
     try clear hfz7_1
     try clear hfz7_2
     try clear hfz7_3
     try clear hfz9_0
     try clear hfz9_1
     try clear hfz9_2
     try clear hfz9_3
     try clear p2
     obtain ⟨x5_2, rfl, HA, HK2, BK101, HB⟩ := hrel
     cases gk with
     | zero => exact absurd HA.out (by simp [Yv.l0])
     | succ k2 =>
      have H := HA.out
      clear HA
      simp only [Yv.l0] at H
      by_cases c12 : x5_2 < (l0_2.length : Int)
      ·rw [if_pos c12] at H
       have c12b0 : decide (x5_2 < (l0_2.length : Int)) = true := decide_eq_true c12
       clear c12
       by_cases c13 : 0 ≤ x5_2
       ·rw [if_pos c13] at H
        have c13b0 : decide (0 ≤ x5_2) = true := decide_eq_true c13
        clear c13
        by_cases c14 : ((Y39 ByteArray.empty l0_2 x5_2).size : Int) > 300
        ·rw [if_pos c14] at H
         have c14b0 : decide (300 < ((Y39 ByteArray.empty l0_2 x5_2).size : Int)) = true := decide_eq_true c14
         have c14b1 : decide (300 < (Y39 ByteArray.empty l0_2 x5_2).size) = true := decide_eq_true (by omega)
         clear c14
         obtain rfl := Option.some.inj H
         obtain ⟨hcz15_0, hcz15_1, hcz15_2, hcz15_3, hfz15_0, hfz15_1, hfz15_2, hfz15_3⟩ := YA BK101.out
         have p102 : 0 ≤ (x5_2 : Int) := of_decide_eq_true Za
         have q102 : x5_2 < (l0_2.length : Int) := of_decide_eq_true Za
         obtain ⟨ad102, e102, hx102_0⟩ := Kd.at_string HR0_2.out x5_2 p102 q102
         cases e102
         replace hx102_0 := Y15 HB.out hx102_0
         replace p102 := eq_true p102
         replace q102 := eq_true q102
         go_wp2
         go_ret
         exact Z2r
        ·rw [if_neg c14] at H
         have c14b0 : decide (300 < ((Y39 ByteArray.empty l0_2 x5_2).size : Int)) = false := decide_eq_false c14
         have c14b1 : decide (300 < (Y39 ByteArray.empty l0_2 x5_2).size) = false := decide_eq_false (by omega)
         clear c14
         have H' := Y0.mk H
         clear H
         obtain ⟨hcz16_0, hcz16_1, hcz16_2, hcz16_3, hfz16_0, hfz16_1, hfz16_2, hfz16_3⟩ := YA BK101.out
         have p102 : 0 ≤ (x5_2 : Int) := of_decide_eq_true Za
         have q102 : x5_2 < (l0_2.length : Int) := of_decide_eq_true Za
         obtain ⟨ad102, e102, hx102_0⟩ := Kd.at_string HR0_2.out x5_2 p102 q102
         cases e102
         replace hx102_0 := Y15 HB.out hx102_0
         replace p102 := eq_true p102
         replace q102 := eq_true q102
         go_wp2
         go_roundg k2
         case measure => have := HJ2.out; have := HK2.out; omega
         case rel => exact ⟨(wrap64 (x5_2 + 1)), Z8, H', ⟨by have := HJ2.out; have := HK2.out; omega⟩, ⟨Z6⟩, ⟨QB⟩⟩
       ·rw [if_neg c13] at H
        exact Zn
      ·rw [if_neg c12] at H
       have c12b0 : decide (x5_2 < (l0_2.length : Int)) = false := decide_eq_false c12
       clear c12
       have H' := Y0.mk H
       clear H
       obtain ⟨hcz17_0, hcz17_1, hcz17_2, hcz17_3, hfz17_0, hfz17_1, hfz17_2, hfz17_3⟩ := YA BK101.out
       go_wp2
       go_loopg [6] k2 (fun kq v6 w' => ∃ (x6_3 : Int), v6 = .int .i64 x6_3 ∧ Y0 (Yv.l1 kq a1 x6_3 a0_0 a0_1 l0_2 l0_3 = some r) ∧ Y0 (kq ≤ k2) ∧ Y0 (w'.heap[gb101]? = some (.cells #[.int .i64 a0_0, .string a0_1, (.slice A0_2 l0_2.length c0_2), (.slice A0_3 l0_3.length c0_3)] 37 (0, 0))) ∧ Y0 (Below w.heap.size w w'))
       case atStart => exact Z2z
       case round =>
        clear H'
        try clear c1
        try clear p1
        try clear q1
        try clear hx1
        try clear c2
        try clear p2
        try clear c5
        try clear c5b0
        try clear c6
        try clear c6b0
        try clear c6b1
        try clear p6
        try clear c8
        try clear c8b0
        try clear c8b1
        try clear p10
        try clear q10
        try clear hx10
        try clear c11
        try clear c12
        try clear c12b0
        try clear c13
        try clear c13b0
        try clear c14
        try clear c14b0
        try clear c14b1
        try clear hcz10_0 hcz10_1 hcz10_2 hcz10_3
        try clear hcz15_0 hcz15_1 hcz15_2 hcz15_3
        try clear hcz16_0 hcz16_1 hcz16_2 hcz16_3
        try clear hcz17_0 hcz17_1 hcz17_2 hcz17_3
        try clear hcz7_0 hcz7_1 hcz7_2 hcz7_3
        try clear hcz9_0 hcz9_1 hcz9_2 hcz9_3
        try clear hfz10_0
        try clear hfz10_1
        try clear hfz10_2
        try clear hfz10_3
        try clear hfz15_0
        try clear hfz15_1
        try clear hfz15_2
        try clear hfz15_3
        try clear hfz16_0
        try clear hfz16_1
        try clear hfz16_2
        try clear hfz16_3
        try clear hfz17_0
        try clear hfz17_1
        try clear hfz17_2
        try clear hfz17_3
        try clear hfz7_0
        try clear hfz7_1
        try clear hfz7_2
        try clear hfz7_3
        try clear hfz9_0
        try clear hfz9_1
        try clear hfz9_2
        try clear hfz9_3
        try clear hx102_0
        try clear p102
        try clear p2
        try clear q102
        obtain ⟨x6_3, rfl, HA, HK3, BK101, HB⟩ := hrel
        cases gk with
        | zero => exact absurd HA.out (by simp [Yv.l1])
        | succ k3 =>
         have H := HA.out
         clear HA
         simp only [Yv.l1] at H
         by_cases c18 : x6_3 < (l0_3.length : Int)
         ·rw [if_pos c18] at H
          have c18b0 : decide (x6_3 < (l0_3.length : Int)) = true := decide_eq_true c18
          clear c18
          by_cases c19 : 0 ≤ x6_3
          ·rw [if_pos c19] at H
           have c19b0 : decide (0 ≤ x6_3) = true := decide_eq_true c19
           clear c19
           replace H := Option.bind_eq_some_iff.mp H
           obtain ⟨t104, A200, H⟩ := H
           replace H : (if t104 = true then (some true) else (Yv.l1 k3 a1 (wrap64 (x6_3 + 1)) a0_0 a0_1 l0_2 l0_3)) = some r := H
           have A20 := Y0.mk A200
           clear A200
           by_cases c21 : t104 = true
           ·subst c21
            have H1 : (some true) = some r := by rw [if_pos rfl] at H; exact H
            clear H
            have H := H1
            clear H1
            obtain rfl := Option.some.inj H
            obtain ⟨hcz22_0, hcz22_1, hcz22_2, hcz22_3, hfz22_0, hfz22_1, hfz22_2, hfz22_3⟩ := YA BK101.out
            have p103 : 0 ≤ (x6_3 : Int) := of_decide_eq_true Za
            have q103 : x6_3 < (l0_3.length : Int) := of_decide_eq_true Za
            obtain ⟨ad103, A103_2, c103_2, A103_3, c103_3, e103, hx103_0, hx103_1, hx103_2, hx103_3, hl103_2, hi103_2, hl103_3, hi103_3⟩ := Y2f HR0_3.out x6_3 p103 q103
            cases e103
            replace hx103_0 := Y15 HB.out hx103_0
            replace hx103_1 := Y15 HB.out hx103_1
            replace hx103_2 := Y15 HB.out hx103_2
            replace hx103_3 := Y15 HB.out hx103_3
            have HR103_2 := Y0.mk hi103_2
            have HC103_2 := Y0.mk hl103_2
            clear hi103_2 hl103_2
            have HR103_3 := Y0.mk hi103_3
            have HC103_3 := Y0.mk hl103_3
            clear hi103_3 hl103_3
            replace p103 := eq_true p103
            replace q103 := eq_true q103
            go_wp2_with (first | ((with_reducible refine Yl (f := 22) rfl ?_); refine YO (some 55) rfl rfl Tryd.func22 Z4 rfl #[.agg #[.int .i64 ((Yc l0_3 x6_3).f0), .string ((Yc l0_3 x6_3).f1), .slice A103_2 ((Yc l0_3 x6_3).f2).length c103_2, .slice A103_3 ((Yc l0_3 x6_3).f3).length c103_3], .int .i64 (wrap64 (a1 + 1))] rfl Z0 ?_; (with_reducible refine (ih k3 Z1T ((Yc l0_3 x6_3).f0) ((Yc l0_3 x6_3).f1) _ _ ((Yc l0_3 x6_3).f2) _ _ ((Yc l0_3 x6_3).f3) (wrap64 (a1 + 1)) true _ ?side1 ?side2 ?side3 ?side4 A20.out).mono ?_); (case side1 => exact Z1y); (case side2 => exact HC103_2.out); (case side3 => exact Z1z); (case side4 => exact HC103_3.out); rintro e w23 ⟨rfl, hb⟩; refine ⟨_, rfl, ?_⟩; have n_ := Y2d (Yt (g := gb101) (o := .cells #[.int .i64 a0_0, .string a0_1, .slice A0_2 l0_2.length c0_2, .slice (some ad103) l0_3.length c0_3] 37 (0, 0)) QQ hb) (Y8 QB hb); clear BK101 HB; obtain ⟨BK101, HB⟩ := n_; (try clear hb); (try clear hb2); (try clear hk); (try clear hi)))
            go_ret
            exact Z2r
           ·replace c21 := Bool.eq_false_iff.mpr c21
            subst c21
            have H1 : (Yv.l1 k3 a1 (wrap64 (x6_3 + 1)) a0_0 a0_1 l0_2 l0_3) = some r := by rw [if_neg (show ¬ (false = true) by decide)] at H; exact H
            clear H
            have H := H1
            clear H1
            have H' := Y0.mk H
            clear H
            obtain ⟨hcz24_0, hcz24_1, hcz24_2, hcz24_3, hfz24_0, hfz24_1, hfz24_2, hfz24_3⟩ := YA BK101.out
            have p103 : 0 ≤ (x6_3 : Int) := of_decide_eq_true Za
            have q103 : x6_3 < (l0_3.length : Int) := of_decide_eq_true Za
            obtain ⟨ad103, A103_2, c103_2, A103_3, c103_3, e103, hx103_0, hx103_1, hx103_2, hx103_3, hl103_2, hi103_2, hl103_3, hi103_3⟩ := Y2f HR0_3.out x6_3 p103 q103
            cases e103
            replace hx103_0 := Y15 HB.out hx103_0
            replace hx103_1 := Y15 HB.out hx103_1
            replace hx103_2 := Y15 HB.out hx103_2
            replace hx103_3 := Y15 HB.out hx103_3
            have HR103_2 := Y0.mk hi103_2
            have HC103_2 := Y0.mk hl103_2
            clear hi103_2 hl103_2
            have HR103_3 := Y0.mk hi103_3
            have HC103_3 := Y0.mk hl103_3
            clear hi103_3 hl103_3
            replace p103 := eq_true p103
            replace q103 := eq_true q103
            go_wp2_with (first | ((with_reducible refine Yl (f := 22) rfl ?_); refine YO (some 55) rfl rfl Tryd.func22 Z4 rfl #[.agg #[.int .i64 ((Yc l0_3 x6_3).f0), .string ((Yc l0_3 x6_3).f1), .slice A103_2 ((Yc l0_3 x6_3).f2).length c103_2, .slice A103_3 ((Yc l0_3 x6_3).f3).length c103_3], .int .i64 (wrap64 (a1 + 1))] rfl Z0 ?_; (with_reducible refine (ih k3 Z1T ((Yc l0_3 x6_3).f0) ((Yc l0_3 x6_3).f1) _ _ ((Yc l0_3 x6_3).f2) _ _ ((Yc l0_3 x6_3).f3) (wrap64 (a1 + 1)) false _ ?side1 ?side2 ?side3 ?side4 A20.out).mono ?_); (case side1 => exact Z1y); (case side2 => exact HC103_2.out); (case side3 => exact Z1z); (case side4 => exact HC103_3.out); rintro e w25 ⟨rfl, hb⟩; refine ⟨_, rfl, ?_⟩; have n_ := Y2d (Yt (g := gb101) (o := .cells #[.int .i64 a0_0, .string a0_1, .slice A0_2 l0_2.length c0_2, .slice (some ad103) l0_3.length c0_3] 37 (0, 0)) QQ hb) (Y8 QB hb); clear BK101 HB; obtain ⟨BK101, HB⟩ := n_; (try clear hb); (try clear hb2); (try clear hk); (try clear hi)))
            go_roundg k3
            case measure => have := HJ2.out; have := HK2.out; have := HK3.out; omega
            case rel => exact ⟨(wrap64 (x6_3 + 1)), Z8, H', ⟨Z1T⟩, ⟨Z6⟩, ⟨QB⟩⟩
          ·rw [if_neg c19] at H
           exact Zn
         ·rw [if_neg c18] at H
          have c18b0 : decide (x6_3 < (l0_3.length : Int)) = false := decide_eq_false c18
          clear c18
          obtain rfl := Option.some.inj H
          obtain ⟨hcz26_0, hcz26_1, hcz26_2, hcz26_3, hfz26_0, hfz26_1, hfz26_2, hfz26_3⟩ := YA BK101.out
          go_wp2
          go_ret
          exact Z2r
mutual
def YJ.j0 : Nat → Int → Bool → Option (Int)
 | 0, _, _ => none
 | k + 1, x3, x4 => if x4 = true then (some 0) else (if x3 = 2 then (YJ.j1 k x3 (x3 == 2)) else (if x3 = 5 then (YJ.j1 k x3 (x3 == 5)) else (if x3 = 6 then (YJ.j1 k x3 (x3 == 6)) else (YJ.j1 k x3 (x3 == 7)))))
def YJ.j1 : Nat → Int → Bool → Option (Int)
 | 0, _, _ => none
 | k + 1, x3, x7 => if x7 = true then (some 1) else (if x3 = 3 then (some 2) else (if x3 = 4 then (some 2) else (some (-1))))
end
def YJ.f (k : Nat) (a0 : Int) : Option (Int) := if a0 = 1 then (YJ.j0 k a0 (a0 == 1)) else (YJ.j0 k a0 (a0 == 8))
theorem YJ.mono_l : ∀ k, (∀ y0 y1, LeO (YJ.j0 k y0 y1) (YJ.j0 (k + 1) y0 y1)) ∧ (∀ y0 y1, LeO (YJ.j1 k y0 y1) (YJ.j1 (k + 1) y0 y1))
 | 0 => ⟨fun _ _ r h => by simp [YJ.j0] at h, fun _ _ r h => by simp [YJ.j1] at h⟩
 | k + 1 => by
  obtain ⟨ih0, ih1⟩ := YJ.mono_l k
  refine ⟨?_, ?_⟩
  ·intro y0 y1
   unfold YJ.j0
   exact QM
  ·intro y0 y1
   unfold YJ.j1
   exact QM
theorem YJ.mono : ∀ a0 k, LeO (YJ.f k a0) (YJ.f (k + 1) a0) := by
 intro a0 k
 obtain ⟨ih0, ih1⟩ := YJ.mono_l k
 unfold YJ.f
 exact QM
set_option maxHeartbeats 8000000 in
set_option maxRecDepth 100000 in
theorem YJ.calls (k : Nat) (a0 : Int) (r : Int) (w : World) (h : YJ.f k a0 = some r) :
  Calls Tryd.prog 98 #[.int .i64 a0] w fun e w' => e = .returned (.int .i64 r) ∧ Y2v w w' := by
 have H : (if a0 = 1 then (YJ.j0 k a0 (a0 == 1)) else (YJ.j0 k a0 (a0 == 8))) = some r := h
 clear h
 have HC2 := Y0.mk H
 clear H
 go_enter Tryd.func98, Tryd.ntmps98
 go_upto_if 4 with (fail)
 go_cut [4] (fun v4 wc => ∃ (kq : Nat) (x4_1 : Bool), v4 = .bool x4_1 ∧ Y0 (YJ.j0 kq a0 x4_1 = some r) ∧ Y0 (kq ≤ k) ∧ Y2v w wc)
 case first =>
  have H := HC2.out
  clear HC2
  by_cases c3 : a0 = 1
  ·rw [if_pos c3] at H
   have c3b0 : (a0 == 1) = true := beq_iff_eq.mpr c3
   have c3b1 : (a0 != 1) = false := bne_eq_false_iff_eq.mpr c3
   clear c3
   (first | rw [c3b0] | (simp only [Y16, Y17]; rw [c3b0]) | skip)
   have H' := Y0.mk H
   clear H
   go_wp2
   go_meet
   case rel => exact ⟨_, ((a0 == 1)), Z8, H', ⟨Zr⟩, Zk⟩
  ·rw [if_neg c3] at H
   have c3b0 : (a0 == 1) = false := beq_eq_false_iff_ne.mpr c3
   have c3b1 : (a0 != 1) = true := bne_iff_ne.mpr c3
   (first | rw [c3b0] | (simp only [Y16, Y17]; rw [c3b0]) | skip)
   have H' := Y0.mk H
   clear H
   go_wp2
   go_meet
   case rel => exact ⟨_, ((a0 == 8)), Z8, H', ⟨Zr⟩, Zk⟩
 case rest =>
  clear HC2
  try clear p2
  try clear c3
  try clear c3b0
  try clear c3b1
  obtain ⟨kq, x4_1, rfl, HA, HJ1, ⟨mc1, rfl⟩⟩ := hcut
  cases kq with
  | zero => exact absurd HA.out (by simp [YJ.j0])
  | succ kj1 =>
   have H := HA.out
   clear HA
   simp only [YJ.j0] at H
   by_cases c4 : x4_1 = true
   ·subst c4
    have H1 : (some 0) = some r := by rw [if_pos rfl] at H; exact H
    clear H
    have H := H1
    clear H1
    obtain rfl := Option.some.inj H
    go_wp2
    go_ret
    exact ⟨Z8, Zk⟩
   ·replace c4 := Bool.eq_false_iff.mpr c4
    subst c4
    have H1 : (if a0 = 2 then (YJ.j1 kj1 a0 (a0 == 2)) else (if a0 = 5 then (YJ.j1 kj1 a0 (a0 == 5)) else (if a0 = 6 then (YJ.j1 kj1 a0 (a0 == 6)) else (YJ.j1 kj1 a0 (a0 == 7))))) = some r := by rw [if_neg (show ¬ (false = true) by decide)] at H; exact H
    clear H
    have H := H1
    clear H1
    have HC5 := Y0.mk H
    clear H
    go_upto_if 7 with (fail)
    go_cut [7] (fun v7 wc => ∃ (kq : Nat) (x7_4 : Bool), v7 = .bool x7_4 ∧ Y0 (YJ.j1 kq a0 x7_4 = some r) ∧ Y0 (kq ≤ kj1) ∧ Y2v w wc)
    case first =>
     have H := HC5.out
     clear HC5
     by_cases c6 : a0 = 2
     ·rw [if_pos c6] at H
      have c6b0 : (a0 == 2) = true := beq_iff_eq.mpr c6
      have c6b1 : (a0 != 2) = false := bne_eq_false_iff_eq.mpr c6
      clear c6
      (first | rw [c6b0] | (simp only [Y16, Y17]; rw [c6b0]) | skip)
      have H' := Y0.mk H
      clear H
      go_wp2
      go_meet
      case rel => exact ⟨_, ((a0 == 2)), Z8, H', ⟨Z1j⟩, Zk⟩
     ·rw [if_neg c6] at H
      have c6b0 : (a0 == 2) = false := beq_eq_false_iff_ne.mpr c6
      have c6b1 : (a0 != 2) = true := bne_iff_ne.mpr c6
      (first | rw [c6b0] | (simp only [Y16, Y17]; rw [c6b0]) | skip)
      by_cases c7 : a0 = 5
      ·rw [if_pos c7] at H
       have c7b0 : (a0 == 5) = true := beq_iff_eq.mpr c7
       have c7b1 : (a0 != 5) = false := bne_eq_false_iff_eq.mpr c7
       clear c7
       have H' := Y0.mk H
       clear H
       go_wp2
       go_meet
       case rel => exact ⟨_, ((a0 == 5)), Z8, H', ⟨Z1j⟩, Zk⟩
      ·rw [if_neg c7] at H
       have c7b0 : (a0 == 5) = false := beq_eq_false_iff_ne.mpr c7
       have c7b1 : (a0 != 5) = true := bne_iff_ne.mpr c7
       by_cases c8 : a0 = 6
       ·rw [if_pos c8] at H
        have c8b0 : (a0 == 6) = true := beq_iff_eq.mpr c8
        have c8b1 : (a0 != 6) = false := bne_eq_false_iff_eq.mpr c8
        clear c8
        have H' := Y0.mk H
        clear H
        go_wp2
        go_meet
        case rel => exact ⟨_, ((a0 == 6)), Z8, H', ⟨Z1j⟩, Zk⟩
       ·rw [if_neg c8] at H
        have c8b0 : (a0 == 6) = false := beq_eq_false_iff_ne.mpr c8
        have c8b1 : (a0 != 6) = true := bne_iff_ne.mpr c8
        have H' := Y0.mk H
        clear H
        go_wp2
        go_meet
        case rel => exact ⟨_, ((a0 == 7)), Z8, H', ⟨Z1j⟩, Zk⟩
    case rest =>
     clear HC5
     try clear c1
     try clear p2
     try clear c3
     try clear c3b0
     try clear c3b1
     try clear c4
     try clear c6
     try clear c6b0
     try clear c6b1
     try clear c7
     try clear c7b0
     try clear c7b1
     try clear c8
     try clear c8b0
     try clear c8b1
     try clear p2
     obtain ⟨kq, x7_4, rfl, HA, HJ4, ⟨mc4, rfl⟩⟩ := hcut
     cases kq with
     | zero => exact absurd HA.out (by simp [YJ.j1])
     | succ kj4 =>
      have H := HA.out
      clear HA
      simp only [YJ.j1] at H
      by_cases c9 : x7_4 = true
      ·subst c9
       have H1 : (some 1) = some r := by rw [if_pos rfl] at H; exact H
       clear H
       have H := H1
       clear H1
       obtain rfl := Option.some.inj H
       go_wp2
       go_ret
       exact ⟨Z8, Zk⟩
      ·replace c9 := Bool.eq_false_iff.mpr c9
       subst c9
       have H1 : (if a0 = 3 then (some 2) else (if a0 = 4 then (some 2) else (some (-1)))) = some r := by rw [if_neg (show ¬ (false = true) by decide)] at H; exact H
       clear H
       have H := H1
       clear H1
       by_cases c10 : a0 = 3
       ·rw [if_pos c10] at H
        have c10b0 : (a0 == 3) = true := beq_iff_eq.mpr c10
        have c10b1 : (a0 != 3) = false := bne_eq_false_iff_eq.mpr c10
        clear c10
        obtain rfl := Option.some.inj H
        go_wp2
        go_ret
        exact ⟨Z8, Zk⟩
       ·rw [if_neg c10] at H
        have c10b0 : (a0 == 3) = false := beq_eq_false_iff_ne.mpr c10
        have c10b1 : (a0 != 3) = true := bne_iff_ne.mpr c10
        by_cases c11 : a0 = 4
        ·rw [if_pos c11] at H
         have c11b0 : (a0 == 4) = true := beq_iff_eq.mpr c11
         have c11b1 : (a0 != 4) = false := bne_eq_false_iff_eq.mpr c11
         clear c11
         obtain rfl := Option.some.inj H
         go_wp2
         go_ret
         exact ⟨Z8, Zk⟩
        ·rw [if_neg c11] at H
         have c11b0 : (a0 == 4) = false := beq_eq_false_iff_ne.mpr c11
         have c11b1 : (a0 != 4) = true := bne_iff_ne.mpr c11
         obtain rfl := Option.some.inj H
         go_wp2
         go_ret
         exact ⟨Z8, Zk⟩
def Y1k.f (a0 : ByteArray) : Option (Bool) := (Y18.f a0).bind fun t101 => (some (!t101))
set_option maxHeartbeats 8000000 in
set_option maxRecDepth 100000 in
theorem Y1k.calls (a0 : ByteArray) (r : Bool) (w : World) (hT : Tabs w) (h : Y1k.f a0 = some r) :
  Calls Tryd.prog 99 #[.string a0] w fun e w' => e = .returned (.bool r) ∧ Below w.heap.size w w' := by
 have HT := Y0.mk hT
 clear hT
 have HB := Y0.mk (Below.refl w.heap.size w)
 have H : ((Y18.f a0).bind fun t101 => (some (!t101))) = some r := h
 clear h
 replace H := Option.bind_eq_some_iff.mp H
 obtain ⟨t101, A20, H⟩ := H
 replace H : (some (!t101)) = some r := H
 have A2 := Y0.mk A20
 clear A20
 obtain rfl := Option.some.inj H
 go_enter Tryd.func99, Tryd.ntmps99
 go_wp2_with (first | ((with_reducible refine Yl (f := 39) rfl ?_); refine YO (some 4) rfl rfl Tryd.func39 Z4 rfl #[.string a0] rfl Z0 ?_; (with_reducible refine (Y18.calls a0 t101 _ ?side1 A2.out).mono ?_); (case side1 => exact ZB); rintro e w3 ⟨rfl, hb⟩; refine ⟨_, rfl, ?_⟩; have n0_ := Y0.mk (Y8 QB hb); clear HB; have HB := n0_; clear n0_; (try clear hb); (try clear hb2); (try clear hk); (try clear hi)))
 go_ret
 exact Z2r
def Yo.l0 : Nat → List ByteArray → Int → Int → Option (Int)
 | 0, _, _, _ => none
 | k + 1, x0, x7, x8 => if x8 < x7 then (if 0 ≤ x8 then (if x8 < (x0.length : Int) then ((Y1k.f (Y39 ByteArray.empty x0 x8)).bind fun t102 => (if t102 = true then (some x8) else (Yo.l0 k x0 x7 (wrap64 (x8 + 1))))) else (none)) else (none)) else (some (-1))
def Yo.f (k : Nat) (l0 : List ByteArray)  : Option (Int) := Yo.l0 k l0 (l0.length : Int) 0
theorem Yo.mono_l : ∀ k, (∀ y0 y1 y2, LeO (Yo.l0 k y0 y1 y2) (Yo.l0 (k + 1) y0 y1 y2))
 | 0 => fun _ _ _ r h => by simp [Yo.l0] at h
 | k + 1 => by
  have ih0 := Yo.mono_l k
  ·intro y0 y1 y2
   unfold Yo.l0
   exact QM
theorem Yo.mono : ∀ a0 k, LeO (Yo.f k a0) (Yo.f (k + 1) a0) := by
 intro a0 k
 have ih0 := Yo.mono_l k
 unfold Yo.f
 exact QM
set_option maxHeartbeats 8000000 in
set_option maxRecDepth 100000 in
theorem Yo.calls (k : Nat) (A0 : Option Addr) (c0 : Nat) (l0 : List ByteArray)  (r : Int) (w : World) (hT : Tabs w) (hr0 : Kd.C Kd.string w A0 l0.length l0) (hc0 : l0.length ≤ c0) (h : Yo.f k l0 = some r) :
  Calls Tryd.prog 114 #[.slice A0 l0.length c0, .func (.func 99) #[] #[]] w fun e w' => e = .returned (.int .i64 r) ∧ Below w.heap.size w w' := by
 have HT := Y0.mk hT
 clear hT
 have HR0 := Y0.mk hr0
 have HC0 := Y0.mk hc0
 clear hr0 hc0
 have HB := Y0.mk (Below.refl w.heap.size w)
 have H : (Yo.l0 k l0 (l0.length : Int) 0) = some r := h
 clear h
 have H' := Y0.mk H
 clear H
 go_enter Tryd.func114, Tryd.ntmps114
 go_wp2
 go_loopg [8] k (fun kq v8 w' => ∃ (x8_1 : Int), v8 = .int .i64 x8_1 ∧ Y0 (Yo.l0 kq l0 (l0.length : Int) x8_1 = some r) ∧ Y0 (kq ≤ k) ∧ Y0 (Below w.heap.size w w'))
 case atStart => exact ⟨(0), Z8, H', ⟨Nat.le_refl _⟩, ⟨QB⟩⟩
 case round =>
  clear H'
  try clear c1
  try clear p2
  obtain ⟨x8_1, rfl, HA, HK1, HB⟩ := hrel
  cases gk with
  | zero => exact absurd HA.out (by simp [Yo.l0])
  | succ k1 =>
   have H := HA.out
   clear HA
   simp only [Yo.l0] at H
   by_cases c3 : x8_1 < (l0.length : Int)
   ·rw [if_pos c3] at H
    have c3b0 : decide (x8_1 < (l0.length : Int)) = true := decide_eq_true c3
    clear c3
    by_cases c4 : 0 ≤ x8_1
    ·rw [if_pos c4] at H
     have c4b0 : decide (0 ≤ x8_1) = true := decide_eq_true c4
     clear c4
     by_cases c5 : x8_1 < (l0.length : Int)
     ·rw [if_pos c5] at H
      have c5b0 : decide (x8_1 < (l0.length : Int)) = true := decide_eq_true c5
      clear c5
      replace H := Option.bind_eq_some_iff.mp H
      obtain ⟨t102, A60, H⟩ := H
      replace H : (if t102 = true then (some x8_1) else (Yo.l0 k1 l0 (l0.length : Int) (wrap64 (x8_1 + 1)))) = some r := H
      have A6 := Y0.mk A60
      clear A60
      by_cases c7 : t102 = true
      ·subst c7
       have H1 : (some x8_1) = some r := by rw [if_pos rfl] at H; exact H
       clear H
       have H := H1
       clear H1
       obtain rfl := Option.some.inj H
       have p101 : 0 ≤ (x8_1 : Int) := of_decide_eq_true Za
       have q101 : x8_1 < (l0.length : Int) := of_decide_eq_true Za
       obtain ⟨ad101, e101, hx101_0⟩ := Kd.at_string HR0.out x8_1 p101 q101
       cases e101
       replace hx101_0 := Y15 HB.out hx101_0
       replace p101 := eq_true p101
       replace q101 := eq_true q101
       go_wp2_with (first | (go_at_call 99; (with_reducible refine (Y1k.calls (Y39 ByteArray.empty l0 x8_1) true _ ?side1 A6.out).mono ?_); (case side1 => exact Z3); rintro e w8 ⟨rfl, hb⟩; have n0_ := Y0.mk (Y8 QB hb); clear HB; have HB := n0_; clear n0_; (try clear hb); (try clear hb2); (try clear hk); (try clear hi)))
       go_ret
       exact Z2r
      ·replace c7 := Bool.eq_false_iff.mpr c7
       subst c7
       have H1 : (Yo.l0 k1 l0 (l0.length : Int) (wrap64 (x8_1 + 1))) = some r := by rw [if_neg (show ¬ (false = true) by decide)] at H; exact H
       clear H
       have H := H1
       clear H1
       have H' := Y0.mk H
       clear H
       have p101 : 0 ≤ (x8_1 : Int) := of_decide_eq_true Za
       have q101 : x8_1 < (l0.length : Int) := of_decide_eq_true Za
       obtain ⟨ad101, e101, hx101_0⟩ := Kd.at_string HR0.out x8_1 p101 q101
       cases e101
       replace hx101_0 := Y15 HB.out hx101_0
       replace p101 := eq_true p101
       replace q101 := eq_true q101
       go_wp2_with (first | (go_at_call 99; (with_reducible refine (Y1k.calls (Y39 ByteArray.empty l0 x8_1) false _ ?side1 A6.out).mono ?_); (case side1 => exact Z3); rintro e w9 ⟨rfl, hb⟩; have n0_ := Y0.mk (Y8 QB hb); clear HB; have HB := n0_; clear n0_; (try clear hb); (try clear hb2); (try clear hk); (try clear hi)))
       go_roundg k1
       case measure => have := HK1.out; omega
       case rel => exact ⟨(wrap64 (x8_1 + 1)), Z8, H', ⟨ZV⟩, ⟨QB⟩⟩
     ·rw [if_neg c5] at H
      exact Zn
    ·rw [if_neg c4] at H
     exact Zn
   ·rw [if_neg c3] at H
    have c3b0 : decide (x8_1 < (l0.length : Int)) = false := decide_eq_false c3
    clear c3
    obtain rfl := Option.some.inj H
    go_wp2
    go_ret
    exact Z2r
def Yy.f (k : Nat) (l0 : List ByteArray)  : Option (Bool) := (Yo.f k l0).bind fun t101 => (some (decide (t101 ≥ 0)))
theorem Yy.mono : ∀ a0 k, LeO (Yy.f k a0) (Yy.f (k + 1) a0) := by
 intro a0 k
 unfold Yy.f
 exact QM
set_option maxHeartbeats 8000000 in
set_option maxRecDepth 100000 in
theorem Yy.calls (k : Nat) (A0 : Option Addr) (c0 : Nat) (l0 : List ByteArray)  (r : Bool) (w : World) (hT : Tabs w) (hr0 : Kd.C Kd.string w A0 l0.length l0) (hc0 : l0.length ≤ c0) (h : Yy.f k l0 = some r) :
  Calls Tryd.prog 100 #[.slice A0 l0.length c0, .func (.func 99) #[] #[]] w fun e w' => e = .returned (.bool r) ∧ Below w.heap.size w w' := by
 have HT := Y0.mk hT
 clear hT
 have HR0 := Y0.mk hr0
 have HC0 := Y0.mk hc0
 clear hr0 hc0
 have HB := Y0.mk (Below.refl w.heap.size w)
 have H : ((Yo.f k l0).bind fun t101 => (some (decide (t101 ≥ 0)))) = some r := h
 clear h
 replace H := Option.bind_eq_some_iff.mp H
 obtain ⟨t101, A30, H⟩ := H
 replace H : (some (decide (t101 ≥ 0))) = some r := H
 have A3 := Y0.mk A30
 clear A30
 obtain rfl := Option.some.inj H
 go_enter Tryd.func100, Tryd.ntmps100
 go_wp2_with (first | ((with_reducible refine Yl (f := 114) rfl ?_); refine YO (some 7) rfl rfl Tryd.func114 Z4 rfl #[.slice A0 l0.length c0, .func (.func 99) #[] #[]] rfl Z0 ?_; (with_reducible refine (Yo.calls k _ _ l0  t101 _ ?side1 ?side2 ?side3 A3.out).mono ?_); (case side1 => exact ZB); (case side2 => repeat (first | exact HR0.out | (with_reducible refine Kd.C_alloc ?_ _) | (with_reducible refine Kd.C_drewN ?_ _) | (with_reducible refine Kd.C_drew ?_))); (case side3 => exact HC0.out); rintro e w4 ⟨rfl, hb⟩; refine ⟨_, rfl, ?_⟩; have n0_ := Y0.mk (Y8 QB hb); clear HB; have HB := n0_; clear n0_; (try clear hb); (try clear hb2); (try clear hk); (try clear hi)))
 go_ret
 exact Z2r
mutual
def Yx.l0 : Nat → Int → Int → List (S37) → Int → Int → Option (Int)
 | 0, _, _, _, _, _ => none
 | k + 1, x1, x7, x67, x68, x69 => if x69 < x68 then (if 0 ≤ x69 then (if x69 < (x67.length : Int) then ((Yx.f k ((Yc x67 x69).f0) ((Yc x67 x69).f1) ((Yc x67 x69).f2) ((Yc x67 x69).f3) (wrap64 (x1 + 1))).bind fun t106 => (if t106 < 0 then (some (-1)) else (Yx.l0 k x1 (wrap64 (x7 + t106)) x67 x68 (wrap64 (x69 + 1))))) else (none)) else (none)) else (some x7)
def Yx.f : Nat → Int → ByteArray → List ByteArray → List (S37) → Int → Option (Int)
 | 0, _, _, _, _, _ => none
 | k + 1, a0_0, a0_1, l0_2, l0_3, a1 => if a1 > 5 then (some (-1)) else ((YJ.f k a0_0).bind fun t102 => (if (l0_3.length : Int) = t102 then (if ((a0_0 == 1) == (a0_1.toList != ([] : List UInt8))) = true then (if ((a0_0 == 8) == (decide ((l0_2.length : Int) > 0))) = true then (if (l0_2.length : Int) > 4 then (some (-1)) else (if a0_1.toList = ([] : List UInt8) then ((Yy.f k l0_2).bind fun t103 => (if t103 = true then (some (-1)) else (Yx.l0 k a1 1 l0_3 (l0_3.length : Int) 0))) else ((Y1k.f a0_1).bind fun t107 => (if t107 = true then (some (-1)) else ((Yy.f k l0_2).bind fun t108 => (if t108 = true then (some (-1)) else (Yx.l0 k a1 1 l0_3 (l0_3.length : Int) 0))))))) else (some (-1))) else (some (-1))) else (some (-1))))
end
theorem Yx.mono_l : ∀ k, (∀ y0 y1 y2 y3 y4, LeO (Yx.f k y0 y1 y2 y3 y4) (Yx.f (k + 1) y0 y1 y2 y3 y4)) ∧ (∀ y0 y1 y2 y3 y4, LeO (Yx.l0 k y0 y1 y2 y3 y4) (Yx.l0 (k + 1) y0 y1 y2 y3 y4))
 | 0 => ⟨fun _ _ _ _ _ r h => by simp [Yx.f] at h, fun _ _ _ _ _ r h => by simp [Yx.l0] at h⟩
 | k + 1 => by
  obtain ⟨ih0, ih1⟩ := Yx.mono_l k
  refine ⟨?_, ?_⟩
  ·intro y0 y1 y2 y3 y4
   unfold Yx.f
   exact QM
  ·intro y0 y1 y2 y3 y4
   unfold Yx.l0
   exact QM
theorem Yx.mono : ∀ a0 a1 a2 a3 a4 k, LeO (Yx.f k a0 a1 a2 a3 a4) (Yx.f (k + 1) a0 a1 a2 a3 a4) := by
 intro a0 a1 a2 a3 a4 k
 obtain ⟨ih0, ih1⟩ := Yx.mono_l k
 exact ih0 a0 a1 a2 a3 a4
def Yx.T3 : Bool × List (List Nat × List Nat) := (true, [([], []), ([0], [0]), ([1], [1]), ([2], [2]), ([3, 2], [2, 3]), ([4, 2], [2, 4]), ([2], [2]), ([6, 2], [2, 6]), ([7, 2, 2], [2, 7]), ([5, 8, 2], [2, 5, 8]), ([2, 9], [2, 9]), ([10, 8], [10]), ([11], [11]), ([12, 11], [11, 12]), ([11, 13], [11, 13]), ([14, 11], [14]), ([15], [15]), ([16, 15], [15, 16]), ([15, 17], [15, 17]), ([18, 15], [18]), ([19], [19]), ([20, 19], [19, 20]), ([21, 19], [19, 21]), ([22, 19], [19, 22]), ([19, 23], [19, 23]), ([24, 19], [24]), ([25], [25]), ([26, 25], [25, 26]), ([27, 25], [25, 27]), ([28, 25, 25], [25, 28]), ([29], [29]), ([30, 29], [29, 30]), ([31, 29, 29], [29, 31]), ([29, 32, 25], [25, 29, 32]), ([25, 33], [25, 33]), ([34, 32], [34]), ([35], [35]), ([36, 35], [35, 36]), ([37, 35, 35], [35, 37]), ([35, 38], [35, 38])])
def Yx.B3 : List Nat := [0, 1, 3, 7, 15, 31, 7, 71, 199, 511, 1023, 2047, 4095, 8191, 16383, 32767, 65535, 131071, 262143, 524287, 1048575, 2097151, 4194303, 8388607, 16777215, 33554431, 67108863, 134217727, 268435455, 536870911, 1073741823, 2147483647, 4294967295, 8589934591, 17179869183, 34359738367, 68719476735, 137438953471, 274877906943, 549755813887]
theorem Yx.tab3 : Y3x .any (Y3P Tryd.f62 3) = Yx.T3 := by kernel_rfl
theorem Yx.bits3 : Y1Y Yx.T3.2 Yx.B3 = true := by kernel_rfl
end Go.Proofs.YtbpbfboaofkpaaaDoor.Print
end
