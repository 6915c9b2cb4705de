/- Proofs for this claim: printed by our driver and joined by pack.py; the last text holds the statement. -/
import Derived.Test.YtbpbfboaofkpaaaDoorQuQ2
set_option linter.unusedSimpArgs false
section
namespace Go.Proofs.YtbpbfboaofkpaaaDoor.Print
open Go.RowKit Go.Proofs.YtbpbfboaofkpaaaDoorW.PrintWords Go.Proofs.YtbpbfboaofkpaaaDoorW.PrintLast Go.Proofs.YtbpbfboaofkpaaaDoorW.PrintMore
attribute [local go_sem] max2_int min2_int max_two min_two max_three min_three max_four min_four
set_option linter.unusedVariables false
set_option linter.unusedSimpArgs false
set_option maxHeartbeats 8000000 in
set_option maxRecDepth 100000 in
theorem Yi.Y2w (k : Nat) (ih : ∀ j_ < k, Yi.Spec j_ ∧ Yo.Spec j_ ∧ Yd.Spec j_ ∧ Yv.Spec j_ ∧ Yy.Spec j_) : ∀ (g : Nat) (s0_0 : ByteArray) (s0_1 : Int) (s0_2 : Int) (s0_3 : Int) (a1 : Int) (r1 : Int) (r2 : ByteArray) (r3 : List ByteArray) (r4 : List (S37)) (r5 : ByteArray) (r6 : Int) (r7 : Int) (r8 : Int) (w0 w : World) (hI : Ye w0 w g s0_0 s0_1 s0_2 s0_3) (hB : Below w0.heap.size w0 w) (hT : Tabs w0) (h : Yi.f k s0_0 s0_1 s0_2 s0_3 a1 = some (r1, r2, r3, r4, r5, r6, r7, r8)),
  Calls Tryd.prog 52 #[.pointer (some ⟨g, 0, none⟩), .int .i64 a1] w fun e w' => ∃ v2_ v3_ : Value, e = .returned (.agg #[.int .i64 r1, .string r2, v2_, v3_]) ∧ Kd.R Kd.string 9 w' w.heap.size (fun k_ => (w.heap.size ≤ k_)) v2_ r3 ∧ Kd.N k37 37 w' w.heap.size (fun k_ => (w.heap.size ≤ k_) ∧ some k_ ≠ (v2_ : Value).ownBlock) v3_ r4 ∧ Ye w0 w' g r5 r6 r7 r8 ∧ Below w0.heap.size w0 w' ∧ Y4 w w' g none := by
 intro g s0_0 s0_1 s0_2 s0_3 a1 r1 r2 r3 r4 r5 r6 r7 r8 w0 w hI hB hT h
 cases k with
 | zero => exact absurd h (by simp [Yi.f])
 | succ k =>
 simp only [Yi.f] at h
 have HT := Y0.mk hT
 clear hT
 have hu37 := Tryd.underlying37
 have HI0 := Y0.mk hI
 have HK := Y0.mk (Y4.refl w g none)
 have HL := Y0.mk hB.size
 clear hI
 have HW0 := Y0.mk hB.size
 have HB := Y0.mk hB
 clear hB
 have H : ((Yo.f k s0_0 s0_1 s0_2 s0_3 a1).bind fun bt102 => (Yi.l0 k a1 bt102.2.2.2.2.1 bt102.2.2.2.2.2.1 bt102.2.2.2.2.2.2.1 bt102.2.2.2.2.2.2.2 bt102.1 bt102.2.1 bt102.2.2.1 bt102.2.2.2.1)) = some (r1, r2, r3, r4, r5, r6, r7, r8) := h
 clear h
 replace H := Option.bind_eq_some_iff.mp H
 obtain ⟨⟨t102, t103, t104, t107, t110, t111, t112, t113⟩, A30, H⟩ := H
 replace H : (Yi.l0 k a1 t110 t111 t112 t113 t102 t103 t104 t107) = some (r1, r2, r3, r4, r5, r6, r7, r8) := H
 have A3 := Y0.mk A30
 clear A30
 have H' := Y0.mk H
 clear H
 go_enter Tryd.func52, Tryd.ntmps52
 go_wp2_with (first | ((with_reducible refine Ym (N := 4) rfl ?_); refine Yl ?hg (N := 4) ?hd (cs := #[.int .i64 0, .string (⟨#[]⟩ : ByteArray), .slice none 0 0, .slice none 0 0]) (t := 37) ?hr ?_; (case hd => rfl); (case hg => rfl); (case hr => exact Z6); intro gb101 hg w4 hbox hb; have n_ := Y3q (Ye.below QI75_0 hb) (Y4.trans QK (Y4.of_below hb g none) (.inl rfl)) (Y5 QB hb) (hbox) ((by rw [hg]; exact (Ya (w := w) (g := g) (row := none) QK) : w.heap.size ≤ gb101)) ((Nat.le_trans HW0.out (by rw [hg]; exact (Ya (w := w) (g := g) (row := none) QK) : w.heap.size ≤ gb101) : w0.heap.size ≤ gb101)) ((by rw [hg]; exact Nat.ne_of_lt (Ye.lt (show Ye w0 _ g s0_0 s0_1 s0_2 s0_3 from QI75_0)) : g ≠ gb101)) ((by rw [hg]; exact Nat.ne_of_gt (Ye.lt (show Ye w0 _ g s0_0 s0_1 s0_2 s0_3 from QI75_0)) : gb101 ≠ g)); clear HI0 HK HB; obtain ⟨HI0, HK, HB, BK101, GW101, GE101, NB0_101, NB101_0⟩ := n_; clear hb hbox hg) | ((with_reducible refine Yg (f := 94) rfl ?_); refine YG (some 8) rfl rfl Tryd.func94 Z4 rfl #[.pointer (some ⟨g, 0, none⟩), .int .i64 a1] rfl Z0 ?_; (with_reducible refine ((ih k (by omega)).2.1 g s0_0 s0_1 s0_2 s0_3 a1 t102 t103 t104 t107 t110 t111 t112 t113 w0 _ ?side1 ?side2 ?side3 A3.out).mono ?_); (case side1 => exact Z13); (case side2 => exact QB); (case side3 => exact HT.out); rintro e w5 ⟨v105, v108, rfl, ho0, ho1, hi, hb, hk⟩; refine ⟨_, rfl, ?_⟩; have n0_ := Y0.mk (Y4.blk hk (g' := gb101) (o := .cells #[.int .i64 0, .string (⟨#[]⟩ : ByteArray), .slice none 0 0, .slice none 0 0] 37 (0, 0)) QQ NB101_0.out (by simp)); have n1_ := Y0.mk (Kd.R_lower (Kd.R_newM (M := fun k_ => (w.heap.size ≤ k_)) (Kd.R_mono (ok' := fun k_ => True) ho0 (fun _ hk_ => trivial)) (Ya (w := w) (g := g) (row := none) QK) (fun k_ h_ => h_)) (Ya (w := w) (g := g) (row := none) QK)); have n2_ := Y0.mk (Kd.N_lower (Kd.N_mono (ok' := fun k_ => (w.heap.size ≤ k_) ∧ some k_ ≠ (v105 : Value).ownBlock ∧ k_ ≠ gb101 ∧ k_ ≠ g) ho1 (fun k_ hk_ => ⟨(Nat.le_trans (Ya (w := w) (g := g) (row := none) QK) hk_.1), hk_.2, (Kd.freshB (g := gb101) (o := .cells #[.int .i64 0, .string (⟨#[]⟩ : ByteArray), .slice none 0 0, .slice none 0 0] 37 (0, 0)) QQ k_ hk_.1), (Ye.fresh QI75_0 k_ hk_.1)⟩)) (Ya (w := w) (g := g) (row := none) QK)); have n3_ := Y0.mk (Y4.trans QK hk (.inl rfl)); have n4_ := Y0.mk (hb); have n5_ := Y0.mk (hi); clear BK101 HK HB HI0; have BK101 := n0_; have HO106 := n1_; have HO109 := n2_; have HK := n3_; have HB := n4_; have HI0 := n5_; clear n0_ n1_ n2_ n3_ n4_ n5_; (try clear hb); (try clear hb2); (try clear hk); (try clear hi); (try clear ho0); (try clear ho1)) | ((with_reducible refine Ym (N := 5) rfl ?_); refine Yl ?hg (N := 5) ?hd (cs := #[.int .i64 0, .string (⟨#[]⟩ : ByteArray), .slice none 0 0, .slice none 0 0]) (t := 37) ?hr ?_; (case hd => rfl); (case hg => rfl); (case hr => exact Z6); intro gb114 hg w6 hbox hb; have n0_ := Y0.mk (Kd.R_below (by (with_reducible repeat (first | apply Kd.R_alloc | apply Kd.R_drewN | apply Kd.R_drew)); exact HO106.out) hb); have n1_ := Y0.mk (Kd.N_below (Kd.N_elderB (by (with_reducible repeat (first | apply Kd.N_alloc | apply Kd.N_drewN | apply Kd.N_drew)); exact HO109.out) gb114 (Nat.le_of_eq hg.symm)) hb); have n2_ := Y0.mk (Ye.below QI75_0 hb); have n3_ := Y0.mk (Yh (g := gb101) (o := .cells #[.int .i64 0, .string (⟨#[]⟩ : ByteArray), .slice none 0 0, .slice none 0 0] 37 (0, 0)) QQ hb); have n4_ := Y0.mk (Y4.trans QK (Y4.of_below hb g none) (.inl rfl)); have n5_ := Y0.mk (Y5 QB hb); have n6_ := Y0.mk (hbox); have n7_ := Y0.mk ((by rw [hg]; exact (Ya (w := w) (g := g) (row := none) QK) : w.heap.size ≤ gb114)); have n8_ := Y0.mk ((Nat.le_trans HW0.out (by rw [hg]; exact (Ya (w := w) (g := g) (row := none) QK) : w.heap.size ≤ gb114) : w0.heap.size ≤ gb114)); have n9_ := Y0.mk ((by rw [hg]; exact Nat.ne_of_lt (YO (g := gb101) (o := .cells #[.int .i64 0, .string (⟨#[]⟩ : ByteArray), .slice none 0 0, .slice none 0 0] 37 (0, 0)) QQ) : gb101 ≠ gb114)); have n10_ := Y0.mk ((by rw [hg]; exact Nat.ne_of_gt (YO (g := gb101) (o := .cells #[.int .i64 0, .string (⟨#[]⟩ : ByteArray), .slice none 0 0, .slice none 0 0] 37 (0, 0)) QQ) : gb114 ≠ gb101)); have n11_ := Y0.mk ((by rw [hg]; exact Nat.ne_of_lt (Ye.lt (show Ye w0 _ g t110 t111 t112 t113 from QI75_0)) : g ≠ gb114)); have n12_ := Y0.mk ((by rw [hg]; exact Nat.ne_of_gt (Ye.lt (show Ye w0 _ g t110 t111 t112 t113 from QI75_0)) : gb114 ≠ g)); clear HO106 HO109 HI0 BK101 HK HB; have HO106 := n0_; have HO109 := n1_; have HI0 := n2_; have BK101 := n3_; have HK := n4_; have HB := n5_; have BK114 := n6_; have GW114 := n7_; have GE114 := n8_; have NB101_114 := n9_; have NB114_101 := n10_; have NB0_114 := n11_; have NB114_0 := n12_; clear n0_ n1_ n2_ n3_ n4_ n5_ n6_ n7_ n8_ n9_ n10_ n11_ n12_ hb hbox hg; have hnb7 := NB114_101.out; have hnc7 := NB101_114.out; have hnb8 := NB114_0.out; have hnc8 := NB0_114.out; obtain ⟨hcz9_0, hcz9_1, hcz9_2, hcz9_3, hfz9_0, hfz9_1, hfz9_2, hfz9_3⟩ := Yt BK114.out; obtain ⟨Ao10, co10, eo10⟩ := Kd.R_slice HO106.out; subst eo10; obtain ⟨Ao11, co11, eo11⟩ := Kd.N_slice HO109.out; subst eo11))
 go_loopg [] k (fun kq w' => ∃ (x1000_1 : ByteArray) (x1001_1 : Int) (x1002_1 : Int) (x1003_1 : Int) (x115000_1 : Int) (x115001_1 : ByteArray) (x115002_1 : List ByteArray) (x115003_1 : List (S37)) (u115002 : Value) (u115003 : Value), Y0 (Yi.l0 kq a1 x1000_1 x1001_1 x1002_1 x1003_1 x115000_1 x115001_1 x115002_1 x115003_1 = some (r1, r2, r3, r4, r5, r6, r7, r8)) ∧ Y0 (kq ≤ k) ∧ Y0 (Kd.R Kd.string 9 w' w.heap.size (fun k_ => (w.heap.size ≤ k_)) u115002 x115002_1) ∧ Y0 (Kd.N k37 37 w' w.heap.size (fun k_ => (w.heap.size ≤ k_) ∧ some k_ ≠ (u115002 : Value).ownBlock ∧ k_ ≠ gb101 ∧ k_ ≠ gb114 ∧ k_ ≠ g) u115003 x115003_1) ∧ Y0 (w'.heap[gb101]? = some (.cells #[.int .i64 0, .string (⟨#[]⟩ : ByteArray), (.slice none 0 0), (.slice none 0 0)] 37 (0, 0))) ∧ Y0 (w'.heap[gb114]? = some (.cells #[.int .i64 x115000_1, .string x115001_1, u115002, u115003] 37 (0, 0))) ∧ Y0 (Ye w0 w' g x1000_1 x1001_1 x1002_1 x1003_1) ∧ Y0 (Y4 w w' g none) ∧ Y0 (Below w0.heap.size w0 w'))
 case atStart => exact ⟨(t110), (t111), (t112), (t113), (t102), (t103), (t104), (t107), (.slice Ao10 t104.length co10), (.slice Ao11 t107.length co11), H', ⟨Nat.le_refl _⟩, ⟨by (with_reducible repeat (first | apply Kd.R_alloc | apply Kd.R_drewN | apply Kd.R_drew)); exact Kd.R_mono (Kd.R_far (p := ⟨gb114, 3, none⟩) (Kd.R_far (p := ⟨gb114, 2, none⟩) (Kd.R_far (p := ⟨gb114, 1, none⟩) (Kd.R_far (p := ⟨gb114, 0, none⟩) (Kd.R_types HO106.out BK114.out (by decide)) (fun _ hk => hk.2) (.int .i64 t102)) (fun _ hk => hk.2) (.string t103)) (fun _ hk => hk.2) (.slice Ao10 t104.length co10)) (fun _ hk => hk.2) (.slice Ao11 t107.length co11)) (fun _ hk => hk.1.1)⟩, ⟨by (with_reducible repeat (first | apply Kd.N_alloc | apply Kd.N_drewN | apply Kd.N_drew)); exact Kd.N_mono (Kd.N_far (p := ⟨gb114, 3, none⟩) (Kd.N_far (p := ⟨gb114, 2, none⟩) (Kd.N_far (p := ⟨gb114, 1, none⟩) (Kd.N_far (p := ⟨gb114, 0, none⟩) (Kd.N_mono HO109.out (fun k_ hk => (⟨hk, hk.2⟩ : _ ∧ k_ ≠ gb114))) (fun _ hk => hk.2) (.int .i64 t102)) (fun _ hk => hk.2) (.string t103)) (fun _ hk => hk.2) (.slice Ao10 t104.length co10)) (fun _ hk => hk.2) (.slice Ao11 t107.length co11)) (fun _ hk => ⟨hk.1.1.1, ⟨hk.1.1.2.1, ⟨hk.1.1.2.2.1, ⟨hk.1.2, hk.1.1.2.2.2⟩⟩⟩⟩)⟩, ⟨ZB⟩, ⟨by (with_reducible repeat (first | refine Y9 ?_ _ | refine Y8 ?_ | refine Y7 ?_ _)); exact Yp (cs := #[.int .i64 t102, .string t103, .slice Ao10 t104.length co10, .slice none 0 0]) (by (with_reducible repeat (first | refine Y9 ?_ _ | refine Y8 ?_ | refine Y7 ?_ _)); exact Yp (cs := #[.int .i64 t102, .string t103, .slice none 0 0, .slice none 0 0]) (by (with_reducible repeat (first | refine Y9 ?_ _ | refine Y8 ?_ | refine Y7 ?_ _)); exact Yp (cs := #[.int .i64 t102, .string (⟨#[]⟩ : ByteArray), .slice none 0 0, .slice none 0 0]) Z1 1 _ rfl) 2 _ rfl) 3 _ rfl⟩, ⟨QI75_0⟩, ⟨QK⟩, ⟨QB⟩⟩
 case round =>
  clear H'
  try clear p2
  try clear c5
  try clear c7
  try clear c8
  try clear c9
  try clear hcz9_0 hcz9_1 hcz9_2 hcz9_3 hfz9_0 hfz9_1 hfz9_2 hfz9_3
  obtain ⟨x1000_1, x1001_1, x1002_1, x1003_1, x115000_1, x115001_1, x115002_1, x115003_1, u115002, u115003, HA, HK1, HO_115002, HO_115003, BK101, BK114, HI0, HK, HB⟩ := hrel
  cases gk with
  | zero => exact absurd HA.out (by simp [Yi.l0])
  | succ k1 =>
   have H := HA.out
   clear HA
   simp only [Yi.l0] at H
   replace H := Option.bind_eq_some_iff.mp H
   obtain ⟨⟨t115, t116, t117, t118, t119⟩, A120, H⟩ := H
   replace H : (if t115 = true then ((Yo.f k1 t116 t117 t118 t119 a1).bind fun bt120 => (Yi.l0 k1 a1 bt120.2.2.2.2.1 bt120.2.2.2.2.2.1 bt120.2.2.2.2.2.2.1 bt120.2.2.2.2.2.2.2 4 (⟨#[]⟩ : ByteArray) ([] : List ByteArray) (([(⟨x115000_1, x115001_1, x115002_1, x115003_1⟩ : S37), (⟨bt120.1, bt120.2.1, bt120.2.2.1, bt120.2.2.2.1⟩ : S37)] : List (S37))))) else (some (x115000_1, x115001_1, x115002_1, x115003_1, t116, t117, t118, t119))) = some (r1, r2, r3, r4, r5, r6, r7, r8) := H
   have A12 := Y0.mk A120
   clear A120
   by_cases c13 : t115 = true
   ·subst c13
    have H1 : ((Yo.f k1 t116 t117 t118 t119 a1).bind fun bt120 => (Yi.l0 k1 a1 bt120.2.2.2.2.1 bt120.2.2.2.2.2.1 bt120.2.2.2.2.2.2.1 bt120.2.2.2.2.2.2.2 4 (⟨#[]⟩ : ByteArray) ([] : List ByteArray) (([(⟨x115000_1, x115001_1, x115002_1, x115003_1⟩ : S37), (⟨bt120.1, bt120.2.1, bt120.2.2.1, bt120.2.2.2.1⟩ : S37)] : List (S37))))) = some (r1, r2, r3, r4, r5, r6, r7, r8) := by rw [if_pos rfl] at H; exact H
    clear H
    have H := H1
    clear H1
    replace H := Option.bind_eq_some_iff.mp H
    obtain ⟨⟨t120, t121, t122, t125, t128, t129, t130, t131⟩, A140, H⟩ := H
    replace H : (Yi.l0 k1 a1 t128 t129 t130 t131 4 (⟨#[]⟩ : ByteArray) ([] : List ByteArray) (([(⟨x115000_1, x115001_1, x115002_1, x115003_1⟩ : S37), (⟨t120, t121, t122, t125⟩ : S37)] : List (S37)))) = some (r1, r2, r3, r4, r5, r6, r7, r8) := H
    have A14 := Y0.mk A140
    clear A140
    obtain ⟨y132, hy132⟩ : ∃ y_ : List (S37), y_ = (([(⟨x115000_1, x115001_1, x115002_1, x115003_1⟩ : S37), (⟨t120, t121, t122, t125⟩ : S37)] : List (S37))) := ⟨_, rfl⟩
    replace H : (Yi.l0 k1 a1 t128 t129 t130 t131 4 (⟨#[]⟩ : ByteArray) ([] : List ByteArray) y132) = some (r1, r2, r3, r4, r5, r6, r7, r8) := by first | (rw [hy132]; with_reducible exact H) | (have H2_ := (Option.bind_some _ _).symm.trans H; rw [hy132]; with_reducible exact H2_) | (have H2_ := (Option.bind_some _ _).symm.trans H; with_reducible exact H2_) | with_reducible exact H | (rw [hy132]; exact H) | exact H
    have Ny132 := Y0.mk hy132
    clear hy132
    have H' := Y0.mk H
    clear H
    try go_wp2_with (first | ((with_reducible refine Yg (f := 95) rfl ?_); refine YG (some 10) rfl rfl Tryd.func95 Z4 rfl #[.pointer (some ⟨g, 0, none⟩), .int .u8 124] rfl Z0 ?_; (with_reducible refine (YJ.calls k1 g x1000_1 x1001_1 x1002_1 x1003_1 124 true t116 t117 t118 t119 w0 _ ?side1 ?side2 A12.out).mono ?_); (case side1 => exact Z13); (case side2 => exact QB); rintro e w15 ⟨rfl, hi, hb, hk⟩; refine ⟨_, rfl, ?_⟩; have n0_ := Y0.mk (Kd.R_mono (Kd.R_keep (Ye.apart (show Ye w0 _ g x1000_1 x1001_1 x1002_1 x1003_1 from QI75_0) ZO (by decide)) hk (fun _ h => h.2)) (fun _ h => h.1)); have n1_ := Y0.mk (Kd.N_mono (Kd.N_keep (Kd.N_mono (ok := fun k_ => (((w.heap.size ≤ k_)) ∧ (some k_ ≠ (u115002 : Value).ownBlock ∧ (k_ ≠ gb101 ∧ (k_ ≠ gb114 ∧ k_ ≠ g))))) ZU (fun k_ hk_ => (⟨hk_, hk_.2.2.2.2⟩ : _ ∧ k_ ≠ g))) hk (fun _ h => h.2)) (fun _ h => h.1)); have n2_ := Y0.mk (Y4.blk hk (g' := gb101) (o := .cells #[.int .i64 0, .string (⟨#[]⟩ : ByteArray), .slice none 0 0, .slice none 0 0] 37 (0, 0)) QQ NB101_0.out (by simp)); have n3_ := Y0.mk (Y4.blk hk (g' := gb114) (o := .cells #[.int .i64 x115000_1, .string x115001_1, u115002, u115003] 37 (0, 0)) QQ NB114_0.out (by simp)); have n4_ := Y0.mk (Y4.trans QK hk (.inl rfl)); have n5_ := Y0.mk (hb); have n6_ := Y0.mk (hi); clear HO_115002 HO_115003 BK101 BK114 HK HB HI0; have HO_115002 := n0_; have HO_115003 := n1_; have BK101 := n2_; have BK114 := n3_; have HK := n4_; have HB := n5_; have HI0 := n6_; clear n0_ n1_ n2_ n3_ n4_ n5_ n6_; (try clear hb); (try clear hb2); (try clear hk); (try clear hi)))
    have n_ := Y3p (Kd.R_drew HO_115002.out) (Kd.N_drew HO_115003.out) (Y8 BK101.out) (Y8 BK114.out) (Ye.drew HI0.out) (Y1U HK.out) (YI HB.out)
    clear HO_115002
    clear HO_115003
    clear BK101
    clear BK114
    clear HI0
    clear HK
    clear HB
    obtain ⟨HO_115002, HO_115003, BK101, BK114, HI0, HK, HB⟩ := n_
    refine Y1v (n := 7) (S := fun w' => w'.cell? ⟨gb114, 0, none⟩ = some (.int .i64 x115000_1) ∧ w'.cell? ⟨gb114, 1, none⟩ = some (.string x115001_1) ∧ w'.cell? ⟨gb114, 2, none⟩ = some (u115002) ∧ w'.cell? ⟨gb114, 3, none⟩ = some (u115003)) (ds := [6]) bz7_0 Z4 rfl rfl ⟨(Y2 BK114.out 0).trans rfl, (Y2 BK114.out 1).trans rfl, (Y2 BK114.out 2).trans rfl, (Y2 BK114.out 3).trans rfl⟩ (fun hHeld => ?_)
    generalize w15.drew = w16 at HO_115002 HO_115003 BK101 BK114 HI0 HK HB hHeld ⊢
    refine Y3o (i := 1) (N := some 12) (v := ?_) (a' := ?_) bz7_2 rfl rfl Z4 (fun _ _ _ h => h) (Or.inl ⟨by rfl, ?_⟩) ?_ ?_
    rotate_left
    ·intro w'
     go_simp
     with_reducible rfl
    rotate_left
    ·simp only [Act.put, List.setIfInBounds_toArray, List.set_cons_zero, List.set_cons_succ, Y11, Y18]
     rfl
    refine Y3o (i := 2) (N := some 13) (v := ?_) (a' := ?_) bz7_6 rfl rfl Z4 (fun _ _ _ h => h) (Or.inl ⟨by rfl, ?_⟩) ?_ ?_
    rotate_left
    ·intro w'
     go_simp
     with_reducible rfl
    rotate_left
    ·simp only [Act.put, List.setIfInBounds_toArray, List.set_cons_zero, List.set_cons_succ, Y11, Y18]
     rfl
    refine take_ (i := 0) (N := some 11) (v := ?_) (a' := ?_) bz7_7 rfl rfl Z4 (fun _ _ _ h => h) (Or.inl ⟨by rfl, ?_⟩) hHeld ?_ ?_
    rotate_left
    ·rintro w' ⟨s0, s1, s2, s3⟩
     go_simp
     with_reducible rfl
    rotate_left
    ·simp only [Act.put, List.setIfInBounds_toArray, List.set_cons_zero, List.set_cons_succ, Y11, Y18]
     rfl
    refine Y23 (i := 3) (N := some 14) bz7_f rfl rfl Z4 (by decide) (fun K hK => ?_)
    refine Y1G Tryd.func94 Z4 rfl #[.pointer (some ⟨g, 0, none⟩), .int .i64 a1] (by rfl) rfl rfl Z0 ?_
    with_reducible refine ((ih k1 ZT).2.1 g t116 t117 t118 t119 a1 t120 t121 t122 t125 t128 t129 t130 t131 w0 _ ?side1 ?side2 ?side3 A14.out).mono ?_
    (case side1 => exact Z13)
    (case side2 => exact QB)
    (case side3 => exact HT.out)
    rintro e w17 ⟨v123, v126, rfl, ho0, ho1, hi, hb, hk⟩
    refine ⟨_, rfl, ?_⟩
    have n0_ := Y0.mk (Kd.R_mono (Kd.R_told (Kd.R_oldK (Ye.apart (show Ye w0 _ g t116 t117 t118 t119 from QI75_0) ZO (by decide)) hk) (Kd.R_base ho0)) (fun _ h_ => h_.1))
    have n1_ := Y0.mk (Kd.N_mono (Kd.N_told (Kd.N_told (Kd.N_oldK (Kd.N_mono (ok := fun k_ => (((w.heap.size ≤ k_)) ∧ (some k_ ≠ (u115002 : Value).ownBlock ∧ (k_ ≠ gb101 ∧ (k_ ≠ gb114 ∧ k_ ≠ g))))) ZU (fun k_ hk_ => (⟨hk_, hk_.2.2.2.2⟩ : _ ∧ k_ ≠ g))) hk) (Kd.R_base ho0)) (Kd.N_base ho1)) (fun _ h_ => h_.1))
    have n2_ := Y0.mk (Y4.blk hk (g' := gb101) (o := .cells #[.int .i64 0, .string (⟨#[]⟩ : ByteArray), .slice none 0 0, .slice none 0 0] 37 (0, 0)) QQ NB101_0.out (by simp))
    have n3_ := Y0.mk (Y4.blk hk (g' := gb114) (o := .cells #[.int .i64 x115000_1, .string x115001_1, u115002, u115003] 37 (0, 0)) QQ NB114_0.out (by simp))
    have n4_ := Y0.mk (Kd.R_lower (Kd.R_new' (Kd.R_newM (M := fun k_ => (w.heap.size ≤ k_)) (Kd.R_mono (ok' := fun k_ => True) ho0 (fun _ hk_ => trivial)) (Ya (w := w) (g := g) (row := none) QK) (fun k_ h_ => h_)) (Kd.R_lt ZO)) (Ya (w := w) (g := g) (row := none) QK))
    have n5_ := Y0.mk (Kd.N_lower (Kd.N_mono (ok' := fun k_ => (w.heap.size ≤ k_) ∧ some k_ ≠ (v123 : Value).ownBlock ∧ some k_ ≠ (u115002 : Value).ownBlock ∧ some k_ ≠ (u115003 : Value).ownBlock ∧ k_ ≠ gb101 ∧ k_ ≠ gb114 ∧ k_ ≠ g) ho1 (fun k_ hk_ => ⟨(Nat.le_trans (Ya (w := w) (g := g) (row := none) QK) hk_.1), hk_.2, (Kd.fresh' (Kd.R_lt ZO) k_ hk_.1), (Kd.fresh' (Kd.N_lt ZU) k_ hk_.1), (Kd.freshB (g := gb101) (o := .cells #[.int .i64 0, .string (⟨#[]⟩ : ByteArray), .slice none 0 0, .slice none 0 0] 37 (0, 0)) QQ k_ hk_.1), (Kd.freshB (g := gb114) (o := .cells #[.int .i64 x115000_1, .string x115001_1, u115002, u115003] 37 (0, 0)) QQ k_ hk_.1), (Ye.fresh QI75_0 k_ hk_.1)⟩)) (Ya (w := w) (g := g) (row := none) QK))
    have n6_ := Y0.mk (Y4.trans QK hk (.inl rfl))
    have n7_ := Y0.mk (hb)
    have n8_ := Y0.mk (hi)
    clear HO_115002
    clear HO_115003
    clear BK101
    clear BK114
    clear HK
    clear HB
    clear HI0
    have HO_115002 := n0_
    have HO_115003 := n1_
    have BK101 := n2_
    have BK114 := n3_
    have HO124 := n4_
    have HO127 := n5_
    have HK := n6_
    have HB := n7_
    have HI0 := n8_
    clear n0_ n1_ n2_ n3_ n4_ n5_ n6_ n7_ n8_
    (try clear hb)
    (try clear hb2)
    (try clear hk)
    (try clear hi)
    (try clear ho0)
    (try clear ho1)
    obtain ⟨Ao18, co18, eo18⟩ := Kd.R_slice HO_115002.out
    (first | subst eo18 | (injection eo18 with f1_ f2_ f3_; have f4_ := f1_.symm; have f5_ := f3_.symm; clear f1_ f2_ f3_; subst f4_; subst f5_))
    obtain ⟨Ao19, co19, eo19⟩ := Kd.N_slice HO_115003.out
    (first | subst eo19 | (injection eo19 with f1_ f2_ f3_; have f4_ := f1_.symm; have f5_ := f3_.symm; clear f1_ f2_ f3_; subst f4_; subst f5_))
    obtain ⟨Ao20, co20, eo20⟩ := Kd.R_slice HO124.out
    (first | subst eo20 | (injection eo20 with f1_ f2_ f3_; have f4_ := f1_.symm; have f5_ := f3_.symm; clear f1_ f2_ f3_; subst f4_; subst f5_))
    obtain ⟨Ao21, co21, eo21⟩ := Kd.N_slice HO127.out
    (first | subst eo21 | (injection eo21 with f1_ f2_ f3_; have f4_ := f1_.symm; have f5_ := f3_.symm; clear f1_ f2_ f3_; subst f4_; subst f5_))
    refine hK.out _ _ ⟨(Y2 BK114.out 0).trans rfl, (Y2 BK114.out 1).trans rfl, (Y2 BK114.out 2).trans rfl, (Y2 BK114.out 3).trans rfl⟩ (fun hHeld => ?_)
    clear hK K
    refine Y1w (a' := ?_) ?_ ?_
    rotate_left
    ·show Act.put _ (some 14) _ = _
     simp only [Act.put, List.setIfInBounds_toArray, List.set_cons_zero, List.set_cons_succ, Y11, Y18]
     rfl
    refine Y23 (i := 4) (N := some 15) bz7_1f rfl rfl Z4 (by decide) (fun K hK => ?_)
    refine Kd.N_lit_step k37 _ 37 ?hg (N' := 15) ?hd (xs := ([(⟨x115000_1, x115001_1, x115002_1, x115003_1⟩ : S37), (⟨t120, t121, t122, t125⟩ : S37)] : List (S37))) (inner := [.int .i64 x115000_1, .string x115001_1, .slice Ao18 x115002_1.length co18, .slice Ao19 x115003_1.length co19, .int .i64 t120, .string t121, .slice Ao20 t122.length co20, .slice Ao21 t125.length co21]) (ok := (fun k_ => (w.heap.size ≤ k_) ∧ k_ ≠ gb101 ∧ k_ ≠ gb114 ∧ k_ ≠ g)) (okp := (fun k_ => (w.heap.size ≤ k_) ∧ k_ ≠ gb101 ∧ k_ ≠ gb114 ∧ k_ ≠ g)) ?hr ?hp (fun _ hk => hk) ((show ∀ k_, w17.heap.size ≤ k_ → (fun k_ => (w.heap.size ≤ k_) ∧ k_ ≠ gb101 ∧ k_ ≠ gb114 ∧ k_ ≠ g) k_ from fun k_ hk => ⟨(Nat.le_trans (Ya (w := w) (g := g) (row := none) QK) hk), Kd.freshB (g := gb101) (o := .cells #[.int .i64 0, .string (⟨#[]⟩ : ByteArray), .slice none 0 0, .slice none 0 0] 37 (0, 0)) QQ k_ hk, Kd.freshB (g := gb114) (o := .cells #[.int .i64 x115000_1, .string x115001_1, .slice Ao18 x115002_1.length co18, .slice Ao19 x115003_1.length co19] 37 (0, 0)) QQ k_ hk, Ye.fresh QI75_0 k_ hk⟩) _ (Nat.le_refl _)) (Below.refl _ _) (Nat.le_refl _) (by simp) ?_; (case hd => rfl); (case hg => rfl); (case hr => exact Z6); (case hp => exact (Y12.c4 (show Kd.FK k37 _ _ (⟨x115000_1, x115001_1, x115002_1, x115003_1⟩ : S37) [.int .i64 x115000_1, .string x115001_1, .slice Ao18 x115002_1.length co18, .slice Ao19 x115003_1.length co19] from (Y1a _ _ (⟨x115000_1, x115001_1, x115002_1, x115003_1⟩ : S37) (Kd.R_reads' (Kd.R_mono (ok' := (fun k_ => (w.heap.size ≤ k_) ∧ k_ ≠ gb101 ∧ k_ ≠ gb114 ∧ k_ ≠ g)) (Ye.apart HI0.out (Kd.R_types (Kd.R_types (HO_115002.out) BK101.out (by decide)) BK114.out (by decide)) (by decide)) (fun k_ hk => ⟨hk.1.1.1.1, ⟨hk.1.1.2, ⟨hk.1.2, hk.2⟩⟩⟩))).2.1 (Kd.R_F (Kd.R_mono (ok' := (fun k_ => (w.heap.size ≤ k_) ∧ k_ ≠ gb101 ∧ k_ ≠ gb114 ∧ k_ ≠ g)) (Ye.apart HI0.out (Kd.R_types (Kd.R_types (HO_115002.out) BK101.out (by decide)) BK114.out (by decide)) (by decide)) (fun k_ hk => ⟨hk.1.1.1.1, ⟨hk.1.1.2, ⟨hk.1.2, hk.2⟩⟩⟩))) (Kd.N_reads' (Kd.N_mono (ok' := (fun k_ => (w.heap.size ≤ k_) ∧ k_ ≠ gb101 ∧ k_ ≠ gb114 ∧ k_ ≠ g)) (HO_115003.out) (fun k_ hk => ⟨hk.1.1.1, ⟨hk.1.1.2.2.1, ⟨hk.1.1.2.2.2.1, hk.1.1.2.2.2.2⟩⟩⟩))).2.1 (Kd.N_F (Kd.N_mono (ok' := (fun k_ => (w.heap.size ≤ k_) ∧ k_ ≠ gb101 ∧ k_ ≠ gb114 ∧ k_ ≠ g)) (HO_115003.out) (fun k_ hk => ⟨hk.1.1.1, ⟨hk.1.1.2.2.1, ⟨hk.1.1.2.2.2.1, hk.1.1.2.2.2.2⟩⟩⟩))))) (Y12.c4 (show Kd.FK k37 _ _ (⟨t120, t121, t122, t125⟩ : S37) [.int .i64 t120, .string t121, .slice Ao20 t122.length co20, .slice Ao21 t125.length co21] from (Y1a _ _ (⟨t120, t121, t122, t125⟩ : S37) (Kd.R_reads' (Kd.R_mono (ok' := (fun k_ => (w.heap.size ≤ k_) ∧ k_ ≠ gb101 ∧ k_ ≠ gb114 ∧ k_ ≠ g)) (Ye.apart HI0.out (Kd.R_types (Kd.R_types (HO124.out) BK101.out (by decide)) BK114.out (by decide)) (by decide)) (fun k_ hk => ⟨hk.1.1.1.1.1, ⟨hk.1.1.2, ⟨hk.1.2, hk.2⟩⟩⟩))).2.1 (Kd.R_F (Kd.R_mono (ok' := (fun k_ => (w.heap.size ≤ k_) ∧ k_ ≠ gb101 ∧ k_ ≠ gb114 ∧ k_ ≠ g)) (Ye.apart HI0.out (Kd.R_types (Kd.R_types (HO124.out) BK101.out (by decide)) BK114.out (by decide)) (by decide)) (fun k_ hk => ⟨hk.1.1.1.1.1, ⟨hk.1.1.2, ⟨hk.1.2, hk.2⟩⟩⟩))) (Kd.N_reads' (Kd.N_mono (ok' := (fun k_ => (w.heap.size ≤ k_) ∧ k_ ≠ gb101 ∧ k_ ≠ gb114 ∧ k_ ≠ g)) (HO127.out) (fun k_ hk => ⟨hk.1, ⟨hk.2.2.2.2.1, ⟨hk.2.2.2.2.2.1, hk.2.2.2.2.2.2⟩⟩⟩))).2.1 (Kd.N_F (Kd.N_mono (ok' := (fun k_ => (w.heap.size ≤ k_) ∧ k_ ≠ gb101 ∧ k_ ≠ gb114 ∧ k_ ≠ g)) (HO127.out) (fun k_ hk => ⟨hk.1, ⟨hk.2.2.2.2.1, ⟨hk.2.2.2.2.2.1, hk.2.2.2.2.2.2⟩⟩⟩))))) (Y12.none _ _))))
    intro v133 w22 ho23 hb hg_ hnew_
    clear hg_ hnew_
    (first | rw [← Ny132.out] at ho23 | (simp only [Int.reduceToNat] at ho23; rw [← Ny132.out] at ho23))
    have n_ := Y2W (Kd.N_lower ho23 (Ya (w := w) (g := g) (row := none) QK)) (Yh (g := gb101) (o := .cells #[.int .i64 0, .string (⟨#[]⟩ : ByteArray), .slice none 0 0, .slice none 0 0] 37 (0, 0)) QQ hb) (Yh (g := gb114) (o := .cells #[.int .i64 x115000_1, .string x115001_1, .slice Ao18 x115002_1.length co18, .slice Ao19 x115003_1.length co19] 37 (0, 0)) QQ hb) (Ye.below QI75_0 hb) (Y4.trans QK (Y4.of_below hb g none) (.inl rfl)) (Y5 QB hb)
    clear BK101
    clear BK114
    clear HI0
    clear HK
    clear HB
    clear HO124
    clear HO127
    clear HO_115002
    clear HO_115003
    obtain ⟨HO134, BK101, BK114, HI0, HK, HB⟩ := n_
    clear hb ho23
    obtain ⟨Ao24, co24, eo24⟩ := Kd.N_slice HO134.out
    (first | subst eo24 | (injection eo24 with f1_ f2_ f3_; have f4_ := f1_.symm; have f5_ := f3_.symm; clear f1_ f2_ f3_; subst f4_; subst f5_))
    refine hK.out _ _ ⟨(Y2 BK114.out 0).trans rfl, (Y2 BK114.out 1).trans rfl, (Y2 BK114.out 2).trans rfl, (Y2 BK114.out 3).trans rfl⟩ (fun hHeld => ?_)
    clear hK K
    refine Y1w (a' := ?_) ?_ ?_
    rotate_left
    ·show Act.put _ (some 15) _ = _
     simp only [Act.put, List.setIfInBounds_toArray, List.set_cons_zero, List.set_cons_succ, Y11, Y18]
     rfl
    refine Y3o (i := 5) (N := some 16) (v := ?_) (a' := ?_) bz7_3f rfl rfl Z4 (fun _ _ _ h => h) (Or.inl ⟨by rfl, ?_⟩) ?_ ?_
    rotate_left
    ·intro w'
     go_simp
     with_reducible rfl
    rotate_left
    ·simp only [Act.put, List.setIfInBounds_toArray, List.set_cons_zero, List.set_cons_succ, Y11, Y18]
     rfl
    refine last_ (i := 6) (N := none) bz7_7f rfl rfl Z4 (by decide) (fun K hK => ?_)
    have hs25 : w22.cell? ⟨gb114, 0, none⟩ = some (.int .i64 x115000_1) := (Y2 BK114.out 0).trans rfl
    have hfs25 := Y3 BK114.out 0
    have hns25_0 := NB101_114.out
    have hms25_0 := NB114_101.out
    have hs26 : w22.cell? ⟨gb114, 1, none⟩ = some (.string x115001_1) := (Y2 BK114.out 1).trans rfl
    have hfs26 := Y3 BK114.out 1
    have hns26_0 := NB101_114.out
    have hms26_0 := NB114_101.out
    have hs27 : w22.cell? ⟨gb114, 2, none⟩ = some (.slice Ao18 x115002_1.length co18) := (Y2 BK114.out 2).trans rfl
    have hfs27 := Y3 BK114.out 2
    have hns27_0 := NB101_114.out
    have hms27_0 := NB114_101.out
    have hs28 : w22.cell? ⟨gb114, 3, none⟩ = some (.slice Ao19 x115003_1.length co19) := (Y2 BK114.out 3).trans rfl
    have hfs28 := Y3 BK114.out 3
    have hns28_0 := NB101_114.out
    have hms28_0 := NB114_101.out
    refine skip_ (w1 := ?_) (by rfl) rfl ?_ ?_
    rotate_left
    ·go_simp
     rfl
    refine hK.out _ _ ?_
    clear hK K
    refine Y1Q Z4 ?_
    try go_wp2
    go_roundg k1
    case measure => have := HK1.out; omega
    case rel => exact ⟨(t128), (t129), (t130), (t131), (4), ((⟨#[]⟩ : ByteArray)), (([] : List ByteArray)), (y132), (.slice none 0 0), (.slice Ao24 y132.length co24), H', ⟨ZT⟩, ⟨Z7⟩, ⟨by (with_reducible repeat (first | apply Kd.N_alloc | apply Kd.N_drewN | apply Kd.N_drew)); exact Kd.N_mono (Kd.N_far (p := ⟨gb114, 3, none⟩) (Kd.N_far (p := ⟨gb114, 2, none⟩) (Kd.N_far (p := ⟨gb114, 1, none⟩) (Kd.N_far (p := ⟨gb114, 0, none⟩) (Kd.N_mono HO134.out (fun k_ hk => (⟨hk, hk.2.2.1⟩ : _ ∧ k_ ≠ gb114))) (fun _ hk => hk.2) (.int .i64 4)) (fun _ hk => hk.2) (.string (⟨#[]⟩ : ByteArray))) (fun _ hk => hk.2) (.slice none 0 0)) (fun _ hk => hk.2) (.slice Ao24 y132.length co24)) (fun _ hk => ⟨hk.1.1, ⟨Z14, ⟨hk.1.2.1, ⟨hk.1.2.2.1, hk.1.2.2.2⟩⟩⟩⟩)⟩, ⟨ZB⟩, ⟨by (with_reducible repeat (first | refine Y9 ?_ _ | refine Y8 ?_ | refine Y7 ?_ _)); exact Yp (cs := #[.int .i64 4, .string (⟨#[]⟩ : ByteArray), .slice none 0 0, .slice Ao19 x115003_1.length co19]) (by (with_reducible repeat (first | refine Y9 ?_ _ | refine Y8 ?_ | refine Y7 ?_ _)); exact Yp (cs := #[.int .i64 4, .string (⟨#[]⟩ : ByteArray), .slice Ao18 x115002_1.length co18, .slice Ao19 x115003_1.length co19]) (by (with_reducible repeat (first | refine Y9 ?_ _ | refine Y8 ?_ | refine Y7 ?_ _)); exact Yp (cs := #[.int .i64 4, .string x115001_1, .slice Ao18 x115002_1.length co18, .slice Ao19 x115003_1.length co19]) (by (with_reducible repeat (first | refine Y9 ?_ _ | refine Y8 ?_ | refine Y7 ?_ _)); exact Yp (cs := #[.int .i64 x115000_1, .string x115001_1, .slice Ao18 x115002_1.length co18, .slice Ao19 x115003_1.length co19]) QQ 0 _ rfl) 1 _ rfl) 2 _ rfl) 3 _ rfl⟩, ⟨QI75_0⟩, ⟨QK⟩, ⟨QB⟩⟩
   ·replace c13 := Bool.eq_false_iff.mpr c13
    subst c13
    have H1 : (some (x115000_1, x115001_1, x115002_1, x115003_1, t116, t117, t118, t119)) = some (r1, r2, r3, r4, r5, r6, r7, r8) := by rw [if_neg (show ¬ (false = true) by decide)] at H; exact H
    clear H
    have H := H1
    clear H1
    simp only [Option.some.injEq, Prod.mk.injEq] at H
    obtain ⟨rfl, rfl, rfl, rfl, rfl, rfl, rfl, rfl⟩ := H
    go_wp2_with (first | ((with_reducible refine Yg (f := 95) rfl ?_); refine YG (some 10) rfl rfl Tryd.func95 Z4 rfl #[.pointer (some ⟨g, 0, none⟩), .int .u8 124] rfl Z0 ?_; (with_reducible refine (YJ.calls k1 g x1000_1 x1001_1 x1002_1 x1003_1 124 false t116 t117 t118 t119 w0 _ ?side1 ?side2 A12.out).mono ?_); (case side1 => exact Z13); (case side2 => exact QB); rintro e w29 ⟨rfl, hi, hb, hk⟩; refine ⟨_, rfl, ?_⟩; have n0_ := Y0.mk (Kd.R_mono (Kd.R_keep (Ye.apart (show Ye w0 _ g x1000_1 x1001_1 x1002_1 x1003_1 from QI75_0) ZO (by decide)) hk (fun _ h => h.2)) (fun _ h => h.1)); have n1_ := Y0.mk (Kd.N_mono (Kd.N_keep (Kd.N_mono (ok := fun k_ => (((w.heap.size ≤ k_)) ∧ (some k_ ≠ (u115002 : Value).ownBlock ∧ (k_ ≠ gb101 ∧ (k_ ≠ gb114 ∧ k_ ≠ g))))) ZU (fun k_ hk_ => (⟨hk_, hk_.2.2.2.2⟩ : _ ∧ k_ ≠ g))) hk (fun _ h => h.2)) (fun _ h => h.1)); have n2_ := Y0.mk (Y4.blk hk (g' := gb101) (o := .cells #[.int .i64 0, .string (⟨#[]⟩ : ByteArray), .slice none 0 0, .slice none 0 0] 37 (0, 0)) QQ NB101_0.out (by simp)); have n3_ := Y0.mk (Y4.blk hk (g' := gb114) (o := .cells #[.int .i64 x115000_1, .string x115001_1, u115002, u115003] 37 (0, 0)) QQ NB114_0.out (by simp)); have n4_ := Y0.mk (Y4.trans QK hk (.inl rfl)); have n5_ := Y0.mk (hb); have n6_ := Y0.mk (hi); clear HO_115002 HO_115003 BK101 BK114 HK HB HI0; have HO_115002 := n0_; have HO_115003 := n1_; have BK101 := n2_; have BK114 := n3_; have HK := n4_; have HB := n5_; have HI0 := n6_; clear n0_ n1_ n2_ n3_ n4_ n5_ n6_; (try clear hb); (try clear hb2); (try clear hk); (try clear hi); have hnb30 := NB114_101.out; have hnc30 := NB101_114.out; have hnb31 := NB114_0.out; have hnc31 := NB0_114.out; obtain ⟨hcz32_0, hcz32_1, hcz32_2, hcz32_3, hfz32_0, hfz32_1, hfz32_2, hfz32_3⟩ := Yt BK114.out; have hnb33 := NB101_0.out; have hnc33 := NB0_101.out; obtain ⟨hcz34_0, hcz34_1, hcz34_2, hcz34_3, hfz34_0, hfz34_1, hfz34_2, hfz34_3⟩ := Yt BK101.out; obtain ⟨Ao35, co35, eo35⟩ := Kd.R_slice HO_115002.out; subst eo35; obtain ⟨Ao36, co36, eo36⟩ := Kd.N_slice HO_115003.out; subst eo36))
    refine bodyPost_ret (results_cell_row rfl _ _ gb101 37 #[.int .i64 x115000_1, .string x115001_1, .slice Ao35 x115002_1.length co35, .slice Ao36 x115003_1.length co36] (0, 0) _ rfl (by (with_reducible repeat (first | refine Y9 ?_ _ | refine Y8 ?_ | refine Y7 ?_ _)); exact Yp (cs := #[.int .i64 x115000_1, .string x115001_1, .slice Ao35 x115002_1.length co35, .slice none 0 0]) (by (with_reducible repeat (first | refine Y9 ?_ _ | refine Y8 ?_ | refine Y7 ?_ _)); exact Yp (cs := #[.int .i64 x115000_1, .string x115001_1, .slice none 0 0, .slice none 0 0]) (by (with_reducible repeat (first | refine Y9 ?_ _ | refine Y8 ?_ | refine Y7 ?_ _)); exact Yp (cs := #[.int .i64 x115000_1, .string (⟨#[]⟩ : ByteArray), .slice none 0 0, .slice none 0 0]) Z1 1 _ rfl) 2 _ rfl) 3 _ rfl) Tryd.underlying37 rfl Z4) rfl ?_
    exact ⟨_, _, Z2, by (with_reducible repeat (first | apply Kd.R_alloc | apply Kd.R_drewN | apply Kd.R_drew)); exact Kd.R_mono (Kd.R_far (p := ⟨gb101, 3, none⟩) (Kd.R_far (p := ⟨gb101, 2, none⟩) (Kd.R_far (p := ⟨gb101, 1, none⟩) (Kd.R_far (p := ⟨gb101, 0, none⟩) (Kd.R_types HO_115002.out BK101.out (by decide)) (fun _ hk => hk.2) (.int .i64 x115000_1)) (fun _ hk => hk.2) (.string x115001_1)) (fun _ hk => hk.2) (.slice Ao35 x115002_1.length co35)) (fun _ hk => hk.2) (.slice Ao36 x115003_1.length co36)) (fun _ hk => hk.1), by (with_reducible repeat (first | apply Kd.N_alloc | apply Kd.N_drewN | apply Kd.N_drew)); exact Kd.N_mono (Kd.N_far (p := ⟨gb101, 3, none⟩) (Kd.N_far (p := ⟨gb101, 2, none⟩) (Kd.N_far (p := ⟨gb101, 1, none⟩) (Kd.N_far (p := ⟨gb101, 0, none⟩) (Kd.N_mono HO_115003.out (fun k_ hk => (⟨hk, hk.2.2.1⟩ : _ ∧ k_ ≠ gb101))) (fun _ hk => hk.2) (.int .i64 x115000_1)) (fun _ hk => hk.2) (.string x115001_1)) (fun _ hk => hk.2) (.slice Ao35 x115002_1.length co35)) (fun _ hk => hk.2) (.slice Ao36 x115003_1.length co36)) (fun _ hk => ⟨hk.1.1, hk.1.2.1⟩), QI75_0, QB, QK⟩
set_option maxHeartbeats 8000000 in
set_option maxRecDepth 100000 in
theorem Yo.Y2w (k : Nat) (ih : ∀ j_ < k, Yi.Spec j_ ∧ Yo.Spec j_ ∧ Yd.Spec j_ ∧ Yv.Spec j_ ∧ Yy.Spec j_) : ∀ (g : Nat) (s0_0 : ByteArray) (s0_1 : Int) (s0_2 : Int) (s0_3 : Int) (a1 : Int) (r1 : Int) (r2 : ByteArray) (r3 : List ByteArray) (r4 : List (S37)) (r5 : ByteArray) (r6 : Int) (r7 : Int) (r8 : Int) (w0 w : World) (hI : Ye w0 w g s0_0 s0_1 s0_2 s0_3) (hB : Below w0.heap.size w0 w) (hT : Tabs w0) (h : Yo.f k s0_0 s0_1 s0_2 s0_3 a1 = some (r1, r2, r3, r4, r5, r6, r7, r8)),
  Calls Tryd.prog 94 #[.pointer (some ⟨g, 0, none⟩), .int .i64 a1] w fun e w' => ∃ v2_ v3_ : Value, e = .returned (.agg #[.int .i64 r1, .string r2, v2_, v3_]) ∧ Kd.R Kd.string 9 w' w.heap.size (fun k_ => (w.heap.size ≤ k_)) v2_ r3 ∧ Kd.N k37 37 w' w.heap.size (fun k_ => (w.heap.size ≤ k_) ∧ some k_ ≠ (v2_ : Value).ownBlock) v3_ r4 ∧ Ye w0 w' g r5 r6 r7 r8 ∧ Below w0.heap.size w0 w' ∧ Y4 w w' g none := by
 intro g s0_0 s0_1 s0_2 s0_3 a1 r1 r2 r3 r4 r5 r6 r7 r8 w0 w hI hB hT h
 cases k with
 | zero => exact absurd h (by simp [Yo.f])
 | succ k =>
 simp only [Yo.f] at h
 have HT := Y0.mk hT
 clear hT
 have hu37 := Tryd.underlying37
 have HI0 := Y0.mk hI
 have HK := Y0.mk (Y4.refl w g none)
 have HL := Y0.mk hB.size
 clear hI
 have HW0 := Y0.mk hB.size
 have HB := Y0.mk hB
 clear hB
 have H : ((Yd.f k s0_0 s0_1 s0_2 s0_3 a1).bind fun bt136 => (Yo.l0 k a1 bt136.2.2.2.2.1 bt136.2.2.2.2.2.1 bt136.2.2.2.2.2.2.1 bt136.2.2.2.2.2.2.2 bt136.1 bt136.2.1 bt136.2.2.1 bt136.2.2.2.1)) = some (r1, r2, r3, r4, r5, r6, r7, r8) := h
 clear h
 replace H := Option.bind_eq_some_iff.mp H
 obtain ⟨⟨t136, t137, t138, t141, t144, t145, t146, t147⟩, A30, H⟩ := H
 replace H : (Yo.l0 k a1 t144 t145 t146 t147 t136 t137 t138 t141) = some (r1, r2, r3, r4, r5, r6, r7, r8) := H
 have A3 := Y0.mk A30
 clear A30
 have H' := Y0.mk H
 clear H
 go_enter Tryd.func94, Tryd.ntmps94
 go_wp2_with (first | ((with_reducible refine Ym (N := 4) rfl ?_); refine Yl ?hg (N := 4) ?hd (cs := #[.int .i64 0, .string (⟨#[]⟩ : ByteArray), .slice none 0 0, .slice none 0 0]) (t := 37) ?hr ?_; (case hd => rfl); (case hg => rfl); (case hr => exact Z6); intro gb135 hg w4 hbox hb; have n_ := Y3q (Ye.below QI75_0 hb) (Y4.trans QK (Y4.of_below hb g none) (.inl rfl)) (Y5 QB hb) (hbox) ((by rw [hg]; exact (Ya (w := w) (g := g) (row := none) QK) : w.heap.size ≤ gb135)) ((Nat.le_trans HW0.out (by rw [hg]; exact (Ya (w := w) (g := g) (row := none) QK) : w.heap.size ≤ gb135) : w0.heap.size ≤ gb135)) ((by rw [hg]; exact Nat.ne_of_lt (Ye.lt (show Ye w0 _ g s0_0 s0_1 s0_2 s0_3 from QI75_0)) : g ≠ gb135)) ((by rw [hg]; exact Nat.ne_of_gt (Ye.lt (show Ye w0 _ g s0_0 s0_1 s0_2 s0_3 from QI75_0)) : gb135 ≠ g)); clear HI0 HK HB; obtain ⟨HI0, HK, HB, BK135, GW135, GE135, NB0_135, NB135_0⟩ := n_; clear hb hbox hg) | ((with_reducible refine Yg (f := 112) rfl ?_); refine YG (some 8) rfl rfl Tryd.func112 Z4 rfl #[.pointer (some ⟨g, 0, none⟩), .int .i64 a1] rfl Z0 ?_; (with_reducible refine ((ih k (by omega)).2.2.1 g s0_0 s0_1 s0_2 s0_3 a1 t136 t137 t138 t141 t144 t145 t146 t147 w0 _ ?side1 ?side2 ?side3 A3.out).mono ?_); (case side1 => exact Z13); (case side2 => exact QB); (case side3 => exact HT.out); rintro e w5 ⟨v139, v142, rfl, ho0, ho1, hi, hb, hk⟩; refine ⟨_, rfl, ?_⟩; have n0_ := Y0.mk (Y4.blk hk (g' := gb135) (o := .cells #[.int .i64 0, .string (⟨#[]⟩ : ByteArray), .slice none 0 0, .slice none 0 0] 37 (0, 0)) QQ NB135_0.out (by simp)); have n1_ := Y0.mk (Kd.R_lower (Kd.R_newM (M := fun k_ => (w.heap.size ≤ k_)) (Kd.R_mono (ok' := fun k_ => True) ho0 (fun _ hk_ => trivial)) (Ya (w := w) (g := g) (row := none) QK) (fun k_ h_ => h_)) (Ya (w := w) (g := g) (row := none) QK)); have n2_ := Y0.mk (Kd.N_lower (Kd.N_mono (ok' := fun k_ => (w.heap.size ≤ k_) ∧ some k_ ≠ (v139 : Value).ownBlock ∧ k_ ≠ gb135 ∧ k_ ≠ g) ho1 (fun k_ hk_ => ⟨(Nat.le_trans (Ya (w := w) (g := g) (row := none) QK) hk_.1), hk_.2, (Kd.freshB (g := gb135) (o := .cells #[.int .i64 0, .string (⟨#[]⟩ : ByteArray), .slice none 0 0, .slice none 0 0] 37 (0, 0)) QQ k_ hk_.1), (Ye.fresh QI75_0 k_ hk_.1)⟩)) (Ya (w := w) (g := g) (row := none) QK)); have n3_ := Y0.mk (Y4.trans QK hk (.inl rfl)); have n4_ := Y0.mk (hb); have n5_ := Y0.mk (hi); clear BK135 HK HB HI0; have BK135 := n0_; have HO140 := n1_; have HO143 := n2_; have HK := n3_; have HB := n4_; have HI0 := n5_; clear n0_ n1_ n2_ n3_ n4_ n5_; (try clear hb); (try clear hb2); (try clear hk); (try clear hi); (try clear ho0); (try clear ho1)) | ((with_reducible refine Ym (N := 5) rfl ?_); refine Yl ?hg (N := 5) ?hd (cs := #[.int .i64 0, .string (⟨#[]⟩ : ByteArray), .slice none 0 0, .slice none 0 0]) (t := 37) ?hr ?_; (case hd => rfl); (case hg => rfl); (case hr => exact Z6); intro gb148 hg w6 hbox hb; have n0_ := Y0.mk (Kd.R_below (by (with_reducible repeat (first | apply Kd.R_alloc | apply Kd.R_drewN | apply Kd.R_drew)); exact HO140.out) hb); have n1_ := Y0.mk (Kd.N_below (Kd.N_elderB (by (with_reducible repeat (first | apply Kd.N_alloc | apply Kd.N_drewN | apply Kd.N_drew)); exact HO143.out) gb148 (Nat.le_of_eq hg.symm)) hb); have n2_ := Y0.mk (Ye.below QI75_0 hb); have n3_ := Y0.mk (Yh (g := gb135) (o := .cells #[.int .i64 0, .string (⟨#[]⟩ : ByteArray), .slice none 0 0, .slice none 0 0] 37 (0, 0)) QQ hb); have n4_ := Y0.mk (Y4.trans QK (Y4.of_below hb g none) (.inl rfl)); have n5_ := Y0.mk (Y5 QB hb); have n6_ := Y0.mk (hbox); have n7_ := Y0.mk ((by rw [hg]; exact (Ya (w := w) (g := g) (row := none) QK) : w.heap.size ≤ gb148)); have n8_ := Y0.mk ((Nat.le_trans HW0.out (by rw [hg]; exact (Ya (w := w) (g := g) (row := none) QK) : w.heap.size ≤ gb148) : w0.heap.size ≤ gb148)); have n9_ := Y0.mk ((by rw [hg]; exact Nat.ne_of_lt (YO (g := gb135) (o := .cells #[.int .i64 0, .string (⟨#[]⟩ : ByteArray), .slice none 0 0, .slice none 0 0] 37 (0, 0)) QQ) : gb135 ≠ gb148)); have n10_ := Y0.mk ((by rw [hg]; exact Nat.ne_of_gt (YO (g := gb135) (o := .cells #[.int .i64 0, .string (⟨#[]⟩ : ByteArray), .slice none 0 0, .slice none 0 0] 37 (0, 0)) QQ) : gb148 ≠ gb135)); have n11_ := Y0.mk ((by rw [hg]; exact Nat.ne_of_lt (Ye.lt (show Ye w0 _ g t144 t145 t146 t147 from QI75_0)) : g ≠ gb148)); have n12_ := Y0.mk ((by rw [hg]; exact Nat.ne_of_gt (Ye.lt (show Ye w0 _ g t144 t145 t146 t147 from QI75_0)) : gb148 ≠ g)); clear HO140 HO143 HI0 BK135 HK HB; have HO140 := n0_; have HO143 := n1_; have HI0 := n2_; have BK135 := n3_; have HK := n4_; have HB := n5_; have BK148 := n6_; have GW148 := n7_; have GE148 := n8_; have NB135_148 := n9_; have NB148_135 := n10_; have NB0_148 := n11_; have NB148_0 := n12_; clear n0_ n1_ n2_ n3_ n4_ n5_ n6_ n7_ n8_ n9_ n10_ n11_ n12_ hb hbox hg; have hnb7 := NB148_135.out; have hnc7 := NB135_148.out; have hnb8 := NB148_0.out; have hnc8 := NB0_148.out; obtain ⟨hcz9_0, hcz9_1, hcz9_2, hcz9_3, hfz9_0, hfz9_1, hfz9_2, hfz9_3⟩ := Yt BK148.out; obtain ⟨Ao10, co10, eo10⟩ := Kd.R_slice HO140.out; subst eo10; obtain ⟨Ao11, co11, eo11⟩ := Kd.N_slice HO143.out; subst eo11))
 go_loopg [] k (fun kq w' => ∃ (x1000_1 : ByteArray) (x1001_1 : Int) (x1002_1 : Int) (x1003_1 : Int) (x149000_1 : Int) (x149001_1 : ByteArray) (x149002_1 : List ByteArray) (x149003_1 : List (S37)) (u149002 : Value) (u149003 : Value), Y0 (Yo.l0 kq a1 x1000_1 x1001_1 x1002_1 x1003_1 x149000_1 x149001_1 x149002_1 x149003_1 = some (r1, r2, r3, r4, r5, r6, r7, r8)) ∧ Y0 (kq ≤ k) ∧ Y0 (Kd.R Kd.string 9 w' w.heap.size (fun k_ => (w.heap.size ≤ k_)) u149002 x149002_1) ∧ Y0 (Kd.N k37 37 w' w.heap.size (fun k_ => (w.heap.size ≤ k_) ∧ some k_ ≠ (u149002 : Value).ownBlock ∧ k_ ≠ gb135 ∧ k_ ≠ gb148 ∧ k_ ≠ g) u149003 x149003_1) ∧ Y0 (w'.heap[gb135]? = some (.cells #[.int .i64 0, .string (⟨#[]⟩ : ByteArray), (.slice none 0 0), (.slice none 0 0)] 37 (0, 0))) ∧ Y0 (w'.heap[gb148]? = some (.cells #[.int .i64 x149000_1, .string x149001_1, u149002, u149003] 37 (0, 0))) ∧ Y0 (Ye w0 w' g x1000_1 x1001_1 x1002_1 x1003_1) ∧ Y0 (Y4 w w' g none) ∧ Y0 (Below w0.heap.size w0 w'))
 case atStart => exact ⟨(t144), (t145), (t146), (t147), (t136), (t137), (t138), (t141), (.slice Ao10 t138.length co10), (.slice Ao11 t141.length co11), H', ⟨Nat.le_refl _⟩, ⟨by (with_reducible repeat (first | apply Kd.R_alloc | apply Kd.R_drewN | apply Kd.R_drew)); exact Kd.R_mono (Kd.R_far (p := ⟨gb148, 3, none⟩) (Kd.R_far (p := ⟨gb148, 2, none⟩) (Kd.R_far (p := ⟨gb148, 1, none⟩) (Kd.R_far (p := ⟨gb148, 0, none⟩) (Kd.R_types HO140.out BK148.out (by decide)) (fun _ hk => hk.2) (.int .i64 t136)) (fun _ hk => hk.2) (.string t137)) (fun _ hk => hk.2) (.slice Ao10 t138.length co10)) (fun _ hk => hk.2) (.slice Ao11 t141.length co11)) (fun _ hk => hk.1.1)⟩, ⟨by (with_reducible repeat (first | apply Kd.N_alloc | apply Kd.N_drewN | apply Kd.N_drew)); exact Kd.N_mono (Kd.N_far (p := ⟨gb148, 3, none⟩) (Kd.N_far (p := ⟨gb148, 2, none⟩) (Kd.N_far (p := ⟨gb148, 1, none⟩) (Kd.N_far (p := ⟨gb148, 0, none⟩) (Kd.N_mono HO143.out (fun k_ hk => (⟨hk, hk.2⟩ : _ ∧ k_ ≠ gb148))) (fun _ hk => hk.2) (.int .i64 t136)) (fun _ hk => hk.2) (.string t137)) (fun _ hk => hk.2) (.slice Ao10 t138.length co10)) (fun _ hk => hk.2) (.slice Ao11 t141.length co11)) (fun _ hk => ⟨hk.1.1.1, ⟨hk.1.1.2.1, ⟨hk.1.1.2.2.1, ⟨hk.1.2, hk.1.1.2.2.2⟩⟩⟩⟩)⟩, ⟨ZC⟩, ⟨by (with_reducible repeat (first | refine Y9 ?_ _ | refine Y8 ?_ | refine Y7 ?_ _)); exact Yp (cs := #[.int .i64 t136, .string t137, .slice Ao10 t138.length co10, .slice none 0 0]) (by (with_reducible repeat (first | refine Y9 ?_ _ | refine Y8 ?_ | refine Y7 ?_ _)); exact Yp (cs := #[.int .i64 t136, .string t137, .slice none 0 0, .slice none 0 0]) (by (with_reducible repeat (first | refine Y9 ?_ _ | refine Y8 ?_ | refine Y7 ?_ _)); exact Yp (cs := #[.int .i64 t136, .string (⟨#[]⟩ : ByteArray), .slice none 0 0, .slice none 0 0]) Z1 1 _ rfl) 2 _ rfl) 3 _ rfl⟩, ⟨QI75_0⟩, ⟨QK⟩, ⟨QB⟩⟩
 case round =>
  clear H'
  try clear c1
  try clear p2
  try clear c7
  try clear c8
  try clear c9
  try clear c11
  try clear hcz9_0 hcz9_1 hcz9_2 hcz9_3 hfz9_0 hfz9_1 hfz9_2 hfz9_3
  obtain ⟨x1000_1, x1001_1, x1002_1, x1003_1, x149000_1, x149001_1, x149002_1, x149003_1, u149002, u149003, HA, HK1, HO_149002, HO_149003, BK135, BK148, HI0, HK, HB⟩ := hrel
  cases gk with
  | zero => exact absurd HA.out (by simp [Yo.l0])
  | succ k1 =>
   have H := HA.out
   clear HA
   simp only [Yo.l0] at H
   replace H := Option.bind_eq_some_iff.mp H
   obtain ⟨⟨t149, t150, t151, t152, t153⟩, A120, H⟩ := H
   replace H : (if t149 = true then ((Yd.f k1 t150 t151 t152 t153 a1).bind fun bt154 => (Yo.l0 k1 a1 bt154.2.2.2.2.1 bt154.2.2.2.2.2.1 bt154.2.2.2.2.2.2.1 bt154.2.2.2.2.2.2.2 3 (⟨#[]⟩ : ByteArray) ([] : List ByteArray) (([(⟨x149000_1, x149001_1, x149002_1, x149003_1⟩ : S37), (⟨bt154.1, bt154.2.1, bt154.2.2.1, bt154.2.2.2.1⟩ : S37)] : List (S37))))) else (some (x149000_1, x149001_1, x149002_1, x149003_1, t150, t151, t152, t153))) = some (r1, r2, r3, r4, r5, r6, r7, r8) := H
   have A12 := Y0.mk A120
   clear A120
   by_cases c13 : t149 = true
   ·subst c13
    have H1 : ((Yd.f k1 t150 t151 t152 t153 a1).bind fun bt154 => (Yo.l0 k1 a1 bt154.2.2.2.2.1 bt154.2.2.2.2.2.1 bt154.2.2.2.2.2.2.1 bt154.2.2.2.2.2.2.2 3 (⟨#[]⟩ : ByteArray) ([] : List ByteArray) (([(⟨x149000_1, x149001_1, x149002_1, x149003_1⟩ : S37), (⟨bt154.1, bt154.2.1, bt154.2.2.1, bt154.2.2.2.1⟩ : S37)] : List (S37))))) = some (r1, r2, r3, r4, r5, r6, r7, r8) := by rw [if_pos rfl] at H; exact H
    clear H
    have H := H1
    clear H1
    replace H := Option.bind_eq_some_iff.mp H
    obtain ⟨⟨t154, t155, t156, t159, t162, t163, t164, t165⟩, A140, H⟩ := H
    replace H : (Yo.l0 k1 a1 t162 t163 t164 t165 3 (⟨#[]⟩ : ByteArray) ([] : List ByteArray) (([(⟨x149000_1, x149001_1, x149002_1, x149003_1⟩ : S37), (⟨t154, t155, t156, t159⟩ : S37)] : List (S37)))) = some (r1, r2, r3, r4, r5, r6, r7, r8) := H
    have A14 := Y0.mk A140
    clear A140
    obtain ⟨y166, hy166⟩ : ∃ y_ : List (S37), y_ = (([(⟨x149000_1, x149001_1, x149002_1, x149003_1⟩ : S37), (⟨t154, t155, t156, t159⟩ : S37)] : List (S37))) := ⟨_, rfl⟩
    replace H : (Yo.l0 k1 a1 t162 t163 t164 t165 3 (⟨#[]⟩ : ByteArray) ([] : List ByteArray) y166) = some (r1, r2, r3, r4, r5, r6, r7, r8) := by first | (rw [hy166]; with_reducible exact H) | (have H2_ := (Option.bind_some _ _).symm.trans H; rw [hy166]; with_reducible exact H2_) | (have H2_ := (Option.bind_some _ _).symm.trans H; with_reducible exact H2_) | with_reducible exact H | (rw [hy166]; exact H) | exact H
    have Ny166 := Y0.mk hy166
    clear hy166
    have H' := Y0.mk H
    clear H
    try go_wp2_with (first | ((with_reducible refine Yg (f := 95) rfl ?_); refine YG (some 10) rfl rfl Tryd.func95 Z4 rfl #[.pointer (some ⟨g, 0, none⟩), .int .u8 47] rfl Z0 ?_; (with_reducible refine (YJ.calls k1 g x1000_1 x1001_1 x1002_1 x1003_1 47 true t150 t151 t152 t153 w0 _ ?side1 ?side2 A12.out).mono ?_); (case side1 => exact Z13); (case side2 => exact QB); rintro e w15 ⟨rfl, hi, hb, hk⟩; refine ⟨_, rfl, ?_⟩; have n0_ := Y0.mk (Kd.R_mono (Kd.R_keep (Ye.apart (show Ye w0 _ g x1000_1 x1001_1 x1002_1 x1003_1 from QI75_0) ZP (by decide)) hk (fun _ h => h.2)) (fun _ h => h.1)); have n1_ := Y0.mk (Kd.N_mono (Kd.N_keep (Kd.N_mono (ok := fun k_ => (((w.heap.size ≤ k_)) ∧ (some k_ ≠ (u149002 : Value).ownBlock ∧ (k_ ≠ gb135 ∧ (k_ ≠ gb148 ∧ k_ ≠ g))))) ZW (fun k_ hk_ => (⟨hk_, hk_.2.2.2.2⟩ : _ ∧ k_ ≠ g))) hk (fun _ h => h.2)) (fun _ h => h.1)); have n2_ := Y0.mk (Y4.blk hk (g' := gb135) (o := .cells #[.int .i64 0, .string (⟨#[]⟩ : ByteArray), .slice none 0 0, .slice none 0 0] 37 (0, 0)) QQ NB135_0.out (by simp)); have n3_ := Y0.mk (Y4.blk hk (g' := gb148) (o := .cells #[.int .i64 x149000_1, .string x149001_1, u149002, u149003] 37 (0, 0)) QQ NB148_0.out (by simp)); have n4_ := Y0.mk (Y4.trans QK hk (.inl rfl)); have n5_ := Y0.mk (hb); have n6_ := Y0.mk (hi); clear HO_149002 HO_149003 BK135 BK148 HK HB HI0; have HO_149002 := n0_; have HO_149003 := n1_; have BK135 := n2_; have BK148 := n3_; have HK := n4_; have HB := n5_; have HI0 := n6_; clear n0_ n1_ n2_ n3_ n4_ n5_ n6_; (try clear hb); (try clear hb2); (try clear hk); (try clear hi)))
    have n_ := Y3p (Kd.R_drew HO_149002.out) (Kd.N_drew HO_149003.out) (Y8 BK135.out) (Y8 BK148.out) (Ye.drew HI0.out) (Y1U HK.out) (YI HB.out)
    clear HO_149002
    clear HO_149003
    clear BK135
    clear BK148
    clear HI0
    clear HK
    clear HB
    obtain ⟨HO_149002, HO_149003, BK135, BK148, HI0, HK, HB⟩ := n_
    refine Y1v (n := 7) (S := fun w' => w'.cell? ⟨gb148, 0, none⟩ = some (.int .i64 x149000_1) ∧ w'.cell? ⟨gb148, 1, none⟩ = some (.string x149001_1) ∧ w'.cell? ⟨gb148, 2, none⟩ = some (u149002) ∧ w'.cell? ⟨gb148, 3, none⟩ = some (u149003)) (ds := [6]) bz7_0 Z4 rfl rfl ⟨(Y2 BK148.out 0).trans rfl, (Y2 BK148.out 1).trans rfl, (Y2 BK148.out 2).trans rfl, (Y2 BK148.out 3).trans rfl⟩ (fun hHeld => ?_)
    generalize w15.drew = w16 at HO_149002 HO_149003 BK135 BK148 HI0 HK HB hHeld ⊢
    refine Y3o (i := 1) (N := some 12) (v := ?_) (a' := ?_) bz7_2 rfl rfl Z4 (fun _ _ _ h => h) (Or.inl ⟨by rfl, ?_⟩) ?_ ?_
    rotate_left
    ·intro w'
     go_simp
     with_reducible rfl
    rotate_left
    ·simp only [Act.put, List.setIfInBounds_toArray, List.set_cons_zero, List.set_cons_succ, Y11, Y18]
     rfl
    refine Y3o (i := 2) (N := some 13) (v := ?_) (a' := ?_) bz7_6 rfl rfl Z4 (fun _ _ _ h => h) (Or.inl ⟨by rfl, ?_⟩) ?_ ?_
    rotate_left
    ·intro w'
     go_simp
     with_reducible rfl
    rotate_left
    ·simp only [Act.put, List.setIfInBounds_toArray, List.set_cons_zero, List.set_cons_succ, Y11, Y18]
     rfl
    refine take_ (i := 0) (N := some 11) (v := ?_) (a' := ?_) bz7_7 rfl rfl Z4 (fun _ _ _ h => h) (Or.inl ⟨by rfl, ?_⟩) hHeld ?_ ?_
    rotate_left
    ·rintro w' ⟨s0, s1, s2, s3⟩
     go_simp
     with_reducible rfl
    rotate_left
    ·simp only [Act.put, List.setIfInBounds_toArray, List.set_cons_zero, List.set_cons_succ, Y11, Y18]
     rfl
    refine Y23 (i := 3) (N := some 14) bz7_f rfl rfl Z4 (by decide) (fun K hK => ?_)
    refine Y1G Tryd.func112 Z4 rfl #[.pointer (some ⟨g, 0, none⟩), .int .i64 a1] (by rfl) rfl rfl Z0 ?_
    with_reducible refine ((ih k1 ZT).2.2.1 g t150 t151 t152 t153 a1 t154 t155 t156 t159 t162 t163 t164 t165 w0 _ ?side1 ?side2 ?side3 A14.out).mono ?_
    (case side1 => exact Z13)
    (case side2 => exact QB)
    (case side3 => exact HT.out)
    rintro e w17 ⟨v157, v160, rfl, ho0, ho1, hi, hb, hk⟩
    refine ⟨_, rfl, ?_⟩
    have n0_ := Y0.mk (Kd.R_mono (Kd.R_told (Kd.R_oldK (Ye.apart (show Ye w0 _ g t150 t151 t152 t153 from QI75_0) ZP (by decide)) hk) (Kd.R_base ho0)) (fun _ h_ => h_.1))
    have n1_ := Y0.mk (Kd.N_mono (Kd.N_told (Kd.N_told (Kd.N_oldK (Kd.N_mono (ok := fun k_ => (((w.heap.size ≤ k_)) ∧ (some k_ ≠ (u149002 : Value).ownBlock ∧ (k_ ≠ gb135 ∧ (k_ ≠ gb148 ∧ k_ ≠ g))))) ZW (fun k_ hk_ => (⟨hk_, hk_.2.2.2.2⟩ : _ ∧ k_ ≠ g))) hk) (Kd.R_base ho0)) (Kd.N_base ho1)) (fun _ h_ => h_.1))
    have n2_ := Y0.mk (Y4.blk hk (g' := gb135) (o := .cells #[.int .i64 0, .string (⟨#[]⟩ : ByteArray), .slice none 0 0, .slice none 0 0] 37 (0, 0)) QQ NB135_0.out (by simp))
    have n3_ := Y0.mk (Y4.blk hk (g' := gb148) (o := .cells #[.int .i64 x149000_1, .string x149001_1, u149002, u149003] 37 (0, 0)) QQ NB148_0.out (by simp))
    have n4_ := Y0.mk (Kd.R_lower (Kd.R_new' (Kd.R_newM (M := fun k_ => (w.heap.size ≤ k_)) (Kd.R_mono (ok' := fun k_ => True) ho0 (fun _ hk_ => trivial)) (Ya (w := w) (g := g) (row := none) QK) (fun k_ h_ => h_)) (Kd.R_lt ZP)) (Ya (w := w) (g := g) (row := none) QK))
    have n5_ := Y0.mk (Kd.N_lower (Kd.N_mono (ok' := fun k_ => (w.heap.size ≤ k_) ∧ some k_ ≠ (v157 : Value).ownBlock ∧ some k_ ≠ (u149002 : Value).ownBlock ∧ some k_ ≠ (u149003 : Value).ownBlock ∧ k_ ≠ gb135 ∧ k_ ≠ gb148 ∧ k_ ≠ g) ho1 (fun k_ hk_ => ⟨(Nat.le_trans (Ya (w := w) (g := g) (row := none) QK) hk_.1), hk_.2, (Kd.fresh' (Kd.R_lt ZP) k_ hk_.1), (Kd.fresh' (Kd.N_lt ZW) k_ hk_.1), (Kd.freshB (g := gb135) (o := .cells #[.int .i64 0, .string (⟨#[]⟩ : ByteArray), .slice none 0 0, .slice none 0 0] 37 (0, 0)) QQ k_ hk_.1), (Kd.freshB (g := gb148) (o := .cells #[.int .i64 x149000_1, .string x149001_1, u149002, u149003] 37 (0, 0)) QQ k_ hk_.1), (Ye.fresh QI75_0 k_ hk_.1)⟩)) (Ya (w := w) (g := g) (row := none) QK))
    have n6_ := Y0.mk (Y4.trans QK hk (.inl rfl))
    have n7_ := Y0.mk (hb)
    have n8_ := Y0.mk (hi)
    clear HO_149002
    clear HO_149003
    clear BK135
    clear BK148
    clear HK
    clear HB
    clear HI0
    have HO_149002 := n0_
    have HO_149003 := n1_
    have BK135 := n2_
    have BK148 := n3_
    have HO158 := n4_
    have HO161 := n5_
    have HK := n6_
    have HB := n7_
    have HI0 := n8_
    clear n0_ n1_ n2_ n3_ n4_ n5_ n6_ n7_ n8_
    (try clear hb)
    (try clear hb2)
    (try clear hk)
    (try clear hi)
    (try clear ho0)
    (try clear ho1)
    obtain ⟨Ao18, co18, eo18⟩ := Kd.R_slice HO_149002.out
    (first | subst eo18 | (injection eo18 with f1_ f2_ f3_; have f4_ := f1_.symm; have f5_ := f3_.symm; clear f1_ f2_ f3_; subst f4_; subst f5_))
    obtain ⟨Ao19, co19, eo19⟩ := Kd.N_slice HO_149003.out
    (first | subst eo19 | (injection eo19 with f1_ f2_ f3_; have f4_ := f1_.symm; have f5_ := f3_.symm; clear f1_ f2_ f3_; subst f4_; subst f5_))
    obtain ⟨Ao20, co20, eo20⟩ := Kd.R_slice HO158.out
    (first | subst eo20 | (injection eo20 with f1_ f2_ f3_; have f4_ := f1_.symm; have f5_ := f3_.symm; clear f1_ f2_ f3_; subst f4_; subst f5_))
    obtain ⟨Ao21, co21, eo21⟩ := Kd.N_slice HO161.out
    (first | subst eo21 | (injection eo21 with f1_ f2_ f3_; have f4_ := f1_.symm; have f5_ := f3_.symm; clear f1_ f2_ f3_; subst f4_; subst f5_))
    refine hK.out _ _ ⟨(Y2 BK148.out 0).trans rfl, (Y2 BK148.out 1).trans rfl, (Y2 BK148.out 2).trans rfl, (Y2 BK148.out 3).trans rfl⟩ (fun hHeld => ?_)
    clear hK K
    refine Y1w (a' := ?_) ?_ ?_
    rotate_left
    ·show Act.put _ (some 14) _ = _
     simp only [Act.put, List.setIfInBounds_toArray, List.set_cons_zero, List.set_cons_succ, Y11, Y18]
     rfl
    refine Y23 (i := 4) (N := some 15) bz7_1f rfl rfl Z4 (by decide) (fun K hK => ?_)
    refine Kd.N_lit_step k37 _ 37 ?hg (N' := 15) ?hd (xs := ([(⟨x149000_1, x149001_1, x149002_1, x149003_1⟩ : S37), (⟨t154, t155, t156, t159⟩ : S37)] : List (S37))) (inner := [.int .i64 x149000_1, .string x149001_1, .slice Ao18 x149002_1.length co18, .slice Ao19 x149003_1.length co19, .int .i64 t154, .string t155, .slice Ao20 t156.length co20, .slice Ao21 t159.length co21]) (ok := (fun k_ => (w.heap.size ≤ k_) ∧ k_ ≠ gb135 ∧ k_ ≠ gb148 ∧ k_ ≠ g)) (okp := (fun k_ => (w.heap.size ≤ k_) ∧ k_ ≠ gb135 ∧ k_ ≠ gb148 ∧ k_ ≠ g)) ?hr ?hp (fun _ hk => hk) ((show ∀ k_, w17.heap.size ≤ k_ → (fun k_ => (w.heap.size ≤ k_) ∧ k_ ≠ gb135 ∧ k_ ≠ gb148 ∧ k_ ≠ g) k_ from fun k_ hk => ⟨(Nat.le_trans (Ya (w := w) (g := g) (row := none) QK) hk), Kd.freshB (g := gb135) (o := .cells #[.int .i64 0, .string (⟨#[]⟩ : ByteArray), .slice none 0 0, .slice none 0 0] 37 (0, 0)) QQ k_ hk, Kd.freshB (g := gb148) (o := .cells #[.int .i64 x149000_1, .string x149001_1, .slice Ao18 x149002_1.length co18, .slice Ao19 x149003_1.length co19] 37 (0, 0)) QQ k_ hk, Ye.fresh QI75_0 k_ hk⟩) _ (Nat.le_refl _)) (Below.refl _ _) (Nat.le_refl _) (by simp) ?_; (case hd => rfl); (case hg => rfl); (case hr => exact Z6); (case hp => exact (Y12.c4 (show Kd.FK k37 _ _ (⟨x149000_1, x149001_1, x149002_1, x149003_1⟩ : S37) [.int .i64 x149000_1, .string x149001_1, .slice Ao18 x149002_1.length co18, .slice Ao19 x149003_1.length co19] from (Y1a _ _ (⟨x149000_1, x149001_1, x149002_1, x149003_1⟩ : S37) (Kd.R_reads' (Kd.R_mono (ok' := (fun k_ => (w.heap.size ≤ k_) ∧ k_ ≠ gb135 ∧ k_ ≠ gb148 ∧ k_ ≠ g)) (Ye.apart HI0.out (Kd.R_types (Kd.R_types (HO_149002.out) BK135.out (by decide)) BK148.out (by decide)) (by decide)) (fun k_ hk => ⟨hk.1.1.1.1, ⟨hk.1.1.2, ⟨hk.1.2, hk.2⟩⟩⟩))).2.1 (Kd.R_F (Kd.R_mono (ok' := (fun k_ => (w.heap.size ≤ k_) ∧ k_ ≠ gb135 ∧ k_ ≠ gb148 ∧ k_ ≠ g)) (Ye.apart HI0.out (Kd.R_types (Kd.R_types (HO_149002.out) BK135.out (by decide)) BK148.out (by decide)) (by decide)) (fun k_ hk => ⟨hk.1.1.1.1, ⟨hk.1.1.2, ⟨hk.1.2, hk.2⟩⟩⟩))) (Kd.N_reads' (Kd.N_mono (ok' := (fun k_ => (w.heap.size ≤ k_) ∧ k_ ≠ gb135 ∧ k_ ≠ gb148 ∧ k_ ≠ g)) (HO_149003.out) (fun k_ hk => ⟨hk.1.1.1, ⟨hk.1.1.2.2.1, ⟨hk.1.1.2.2.2.1, hk.1.1.2.2.2.2⟩⟩⟩))).2.1 (Kd.N_F (Kd.N_mono (ok' := (fun k_ => (w.heap.size ≤ k_) ∧ k_ ≠ gb135 ∧ k_ ≠ gb148 ∧ k_ ≠ g)) (HO_149003.out) (fun k_ hk => ⟨hk.1.1.1, ⟨hk.1.1.2.2.1, ⟨hk.1.1.2.2.2.1, hk.1.1.2.2.2.2⟩⟩⟩))))) (Y12.c4 (show Kd.FK k37 _ _ (⟨t154, t155, t156, t159⟩ : S37) [.int .i64 t154, .string t155, .slice Ao20 t156.length co20, .slice Ao21 t159.length co21] from (Y1a _ _ (⟨t154, t155, t156, t159⟩ : S37) (Kd.R_reads' (Kd.R_mono (ok' := (fun k_ => (w.heap.size ≤ k_) ∧ k_ ≠ gb135 ∧ k_ ≠ gb148 ∧ k_ ≠ g)) (Ye.apart HI0.out (Kd.R_types (Kd.R_types (HO158.out) BK135.out (by decide)) BK148.out (by decide)) (by decide)) (fun k_ hk => ⟨hk.1.1.1.1.1, ⟨hk.1.1.2, ⟨hk.1.2, hk.2⟩⟩⟩))).2.1 (Kd.R_F (Kd.R_mono (ok' := (fun k_ => (w.heap.size ≤ k_) ∧ k_ ≠ gb135 ∧ k_ ≠ gb148 ∧ k_ ≠ g)) (Ye.apart HI0.out (Kd.R_types (Kd.R_types (HO158.out) BK135.out (by decide)) BK148.out (by decide)) (by decide)) (fun k_ hk => ⟨hk.1.1.1.1.1, ⟨hk.1.1.2, ⟨hk.1.2, hk.2⟩⟩⟩))) (Kd.N_reads' (Kd.N_mono (ok' := (fun k_ => (w.heap.size ≤ k_) ∧ k_ ≠ gb135 ∧ k_ ≠ gb148 ∧ k_ ≠ g)) (HO161.out) (fun k_ hk => ⟨hk.1, ⟨hk.2.2.2.2.1, ⟨hk.2.2.2.2.2.1, hk.2.2.2.2.2.2⟩⟩⟩))).2.1 (Kd.N_F (Kd.N_mono (ok' := (fun k_ => (w.heap.size ≤ k_) ∧ k_ ≠ gb135 ∧ k_ ≠ gb148 ∧ k_ ≠ g)) (HO161.out) (fun k_ hk => ⟨hk.1, ⟨hk.2.2.2.2.1, ⟨hk.2.2.2.2.2.1, hk.2.2.2.2.2.2⟩⟩⟩))))) (Y12.none _ _))))
    intro v167 w22 ho23 hb hg_ hnew_
    clear hg_ hnew_
    (first | rw [← Ny166.out] at ho23 | (simp only [Int.reduceToNat] at ho23; rw [← Ny166.out] at ho23))
    have n_ := Y2W (Kd.N_lower ho23 (Ya (w := w) (g := g) (row := none) QK)) (Yh (g := gb135) (o := .cells #[.int .i64 0, .string (⟨#[]⟩ : ByteArray), .slice none 0 0, .slice none 0 0] 37 (0, 0)) QQ hb) (Yh (g := gb148) (o := .cells #[.int .i64 x149000_1, .string x149001_1, .slice Ao18 x149002_1.length co18, .slice Ao19 x149003_1.length co19] 37 (0, 0)) QQ hb) (Ye.below QI75_0 hb) (Y4.trans QK (Y4.of_below hb g none) (.inl rfl)) (Y5 QB hb)
    clear BK135
    clear BK148
    clear HI0
    clear HK
    clear HB
    clear HO158
    clear HO161
    clear HO_149002
    clear HO_149003
    obtain ⟨HO168, BK135, BK148, HI0, HK, HB⟩ := n_
    clear hb ho23
    obtain ⟨Ao24, co24, eo24⟩ := Kd.N_slice HO168.out
    (first | subst eo24 | (injection eo24 with f1_ f2_ f3_; have f4_ := f1_.symm; have f5_ := f3_.symm; clear f1_ f2_ f3_; subst f4_; subst f5_))
    refine hK.out _ _ ⟨(Y2 BK148.out 0).trans rfl, (Y2 BK148.out 1).trans rfl, (Y2 BK148.out 2).trans rfl, (Y2 BK148.out 3).trans rfl⟩ (fun hHeld => ?_)
    clear hK K
    refine Y1w (a' := ?_) ?_ ?_
    rotate_left
    ·show Act.put _ (some 15) _ = _
     simp only [Act.put, List.setIfInBounds_toArray, List.set_cons_zero, List.set_cons_succ, Y11, Y18]
     rfl
    refine Y3o (i := 5) (N := some 16) (v := ?_) (a' := ?_) bz7_3f rfl rfl Z4 (fun _ _ _ h => h) (Or.inl ⟨by rfl, ?_⟩) ?_ ?_
    rotate_left
    ·intro w'
     go_simp
     with_reducible rfl
    rotate_left
    ·simp only [Act.put, List.setIfInBounds_toArray, List.set_cons_zero, List.set_cons_succ, Y11, Y18]
     rfl
    refine last_ (i := 6) (N := none) bz7_7f rfl rfl Z4 (by decide) (fun K hK => ?_)
    have hs25 : w22.cell? ⟨gb148, 0, none⟩ = some (.int .i64 x149000_1) := (Y2 BK148.out 0).trans rfl
    have hfs25 := Y3 BK148.out 0
    have hns25_0 := NB135_148.out
    have hms25_0 := NB148_135.out
    have hs26 : w22.cell? ⟨gb148, 1, none⟩ = some (.string x149001_1) := (Y2 BK148.out 1).trans rfl
    have hfs26 := Y3 BK148.out 1
    have hns26_0 := NB135_148.out
    have hms26_0 := NB148_135.out
    have hs27 : w22.cell? ⟨gb148, 2, none⟩ = some (.slice Ao18 x149002_1.length co18) := (Y2 BK148.out 2).trans rfl
    have hfs27 := Y3 BK148.out 2
    have hns27_0 := NB135_148.out
    have hms27_0 := NB148_135.out
    have hs28 : w22.cell? ⟨gb148, 3, none⟩ = some (.slice Ao19 x149003_1.length co19) := (Y2 BK148.out 3).trans rfl
    have hfs28 := Y3 BK148.out 3
    have hns28_0 := NB135_148.out
    have hms28_0 := NB148_135.out
    refine skip_ (w1 := ?_) (by rfl) rfl ?_ ?_
    rotate_left
    ·go_simp
     rfl
    refine hK.out _ _ ?_
    clear hK K
    refine Y1Q Z4 ?_
    try go_wp2
    go_roundg k1
    case measure => have := HK1.out; omega
    case rel => exact ⟨(t162), (t163), (t164), (t165), (3), ((⟨#[]⟩ : ByteArray)), (([] : List ByteArray)), (y166), (.slice none 0 0), (.slice Ao24 y166.length co24), H', ⟨ZT⟩, ⟨Z7⟩, ⟨by (with_reducible repeat (first | apply Kd.N_alloc | apply Kd.N_drewN | apply Kd.N_drew)); exact Kd.N_mono (Kd.N_far (p := ⟨gb148, 3, none⟩) (Kd.N_far (p := ⟨gb148, 2, none⟩) (Kd.N_far (p := ⟨gb148, 1, none⟩) (Kd.N_far (p := ⟨gb148, 0, none⟩) (Kd.N_mono HO168.out (fun k_ hk => (⟨hk, hk.2.2.1⟩ : _ ∧ k_ ≠ gb148))) (fun _ hk => hk.2) (.int .i64 3)) (fun _ hk => hk.2) (.string (⟨#[]⟩ : ByteArray))) (fun _ hk => hk.2) (.slice none 0 0)) (fun _ hk => hk.2) (.slice Ao24 y166.length co24)) (fun _ hk => ⟨hk.1.1, ⟨Z14, ⟨hk.1.2.1, ⟨hk.1.2.2.1, hk.1.2.2.2⟩⟩⟩⟩)⟩, ⟨ZC⟩, ⟨by (with_reducible repeat (first | refine Y9 ?_ _ | refine Y8 ?_ | refine Y7 ?_ _)); exact Yp (cs := #[.int .i64 3, .string (⟨#[]⟩ : ByteArray), .slice none 0 0, .slice Ao19 x149003_1.length co19]) (by (with_reducible repeat (first | refine Y9 ?_ _ | refine Y8 ?_ | refine Y7 ?_ _)); exact Yp (cs := #[.int .i64 3, .string (⟨#[]⟩ : ByteArray), .slice Ao18 x149002_1.length co18, .slice Ao19 x149003_1.length co19]) (by (with_reducible repeat (first | refine Y9 ?_ _ | refine Y8 ?_ | refine Y7 ?_ _)); exact Yp (cs := #[.int .i64 3, .string x149001_1, .slice Ao18 x149002_1.length co18, .slice Ao19 x149003_1.length co19]) (by (with_reducible repeat (first | refine Y9 ?_ _ | refine Y8 ?_ | refine Y7 ?_ _)); exact Yp (cs := #[.int .i64 x149000_1, .string x149001_1, .slice Ao18 x149002_1.length co18, .slice Ao19 x149003_1.length co19]) QQ 0 _ rfl) 1 _ rfl) 2 _ rfl) 3 _ rfl⟩, ⟨QI75_0⟩, ⟨QK⟩, ⟨QB⟩⟩
   ·replace c13 := Bool.eq_false_iff.mpr c13
    subst c13
    have H1 : (some (x149000_1, x149001_1, x149002_1, x149003_1, t150, t151, t152, t153)) = some (r1, r2, r3, r4, r5, r6, r7, r8) := by rw [if_neg (show ¬ (false = true) by decide)] at H; exact H
    clear H
    have H := H1
    clear H1
    simp only [Option.some.injEq, Prod.mk.injEq] at H
    obtain ⟨rfl, rfl, rfl, rfl, rfl, rfl, rfl, rfl⟩ := H
    go_wp2_with (first | ((with_reducible refine Yg (f := 95) rfl ?_); refine YG (some 10) rfl rfl Tryd.func95 Z4 rfl #[.pointer (some ⟨g, 0, none⟩), .int .u8 47] rfl Z0 ?_; (with_reducible refine (YJ.calls k1 g x1000_1 x1001_1 x1002_1 x1003_1 47 false t150 t151 t152 t153 w0 _ ?side1 ?side2 A12.out).mono ?_); (case side1 => exact Z13); (case side2 => exact QB); rintro e w29 ⟨rfl, hi, hb, hk⟩; refine ⟨_, rfl, ?_⟩; have n0_ := Y0.mk (Kd.R_mono (Kd.R_keep (Ye.apart (show Ye w0 _ g x1000_1 x1001_1 x1002_1 x1003_1 from QI75_0) ZP (by decide)) hk (fun _ h => h.2)) (fun _ h => h.1)); have n1_ := Y0.mk (Kd.N_mono (Kd.N_keep (Kd.N_mono (ok := fun k_ => (((w.heap.size ≤ k_)) ∧ (some k_ ≠ (u149002 : Value).ownBlock ∧ (k_ ≠ gb135 ∧ (k_ ≠ gb148 ∧ k_ ≠ g))))) ZW (fun k_ hk_ => (⟨hk_, hk_.2.2.2.2⟩ : _ ∧ k_ ≠ g))) hk (fun _ h => h.2)) (fun _ h => h.1)); have n2_ := Y0.mk (Y4.blk hk (g' := gb135) (o := .cells #[.int .i64 0, .string (⟨#[]⟩ : ByteArray), .slice none 0 0, .slice none 0 0] 37 (0, 0)) QQ NB135_0.out (by simp)); have n3_ := Y0.mk (Y4.blk hk (g' := gb148) (o := .cells #[.int .i64 x149000_1, .string x149001_1, u149002, u149003] 37 (0, 0)) QQ NB148_0.out (by simp)); have n4_ := Y0.mk (Y4.trans QK hk (.inl rfl)); have n5_ := Y0.mk (hb); have n6_ := Y0.mk (hi); clear HO_149002 HO_149003 BK135 BK148 HK HB HI0; have HO_149002 := n0_; have HO_149003 := n1_; have BK135 := n2_; have BK148 := n3_; have HK := n4_; have HB := n5_; have HI0 := n6_; clear n0_ n1_ n2_ n3_ n4_ n5_ n6_; (try clear hb); (try clear hb2); (try clear hk); (try clear hi); have hnb30 := NB148_135.out; have hnc30 := NB135_148.out; have hnb31 := NB148_0.out; have hnc31 := NB0_148.out; obtain ⟨hcz32_0, hcz32_1, hcz32_2, hcz32_3, hfz32_0, hfz32_1, hfz32_2, hfz32_3⟩ := Yt BK148.out; have hnb33 := NB135_0.out; have hnc33 := NB0_135.out; obtain ⟨hcz34_0, hcz34_1, hcz34_2, hcz34_3, hfz34_0, hfz34_1, hfz34_2, hfz34_3⟩ := Yt BK135.out; obtain ⟨Ao35, co35, eo35⟩ := Kd.R_slice HO_149002.out; subst eo35; obtain ⟨Ao36, co36, eo36⟩ := Kd.N_slice HO_149003.out; subst eo36))
    refine bodyPost_ret (results_cell_row rfl _ _ gb135 37 #[.int .i64 x149000_1, .string x149001_1, .slice Ao35 x149002_1.length co35, .slice Ao36 x149003_1.length co36] (0, 0) _ rfl (by (with_reducible repeat (first | refine Y9 ?_ _ | refine Y8 ?_ | refine Y7 ?_ _)); exact Yp (cs := #[.int .i64 x149000_1, .string x149001_1, .slice Ao35 x149002_1.length co35, .slice none 0 0]) (by (with_reducible repeat (first | refine Y9 ?_ _ | refine Y8 ?_ | refine Y7 ?_ _)); exact Yp (cs := #[.int .i64 x149000_1, .string x149001_1, .slice none 0 0, .slice none 0 0]) (by (with_reducible repeat (first | refine Y9 ?_ _ | refine Y8 ?_ | refine Y7 ?_ _)); exact Yp (cs := #[.int .i64 x149000_1, .string (⟨#[]⟩ : ByteArray), .slice none 0 0, .slice none 0 0]) Z1 1 _ rfl) 2 _ rfl) 3 _ rfl) Tryd.underlying37 rfl Z4) rfl ?_
    exact ⟨_, _, Z2, by (with_reducible repeat (first | apply Kd.R_alloc | apply Kd.R_drewN | apply Kd.R_drew)); exact Kd.R_mono (Kd.R_far (p := ⟨gb135, 3, none⟩) (Kd.R_far (p := ⟨gb135, 2, none⟩) (Kd.R_far (p := ⟨gb135, 1, none⟩) (Kd.R_far (p := ⟨gb135, 0, none⟩) (Kd.R_types HO_149002.out BK135.out (by decide)) (fun _ hk => hk.2) (.int .i64 x149000_1)) (fun _ hk => hk.2) (.string x149001_1)) (fun _ hk => hk.2) (.slice Ao35 x149002_1.length co35)) (fun _ hk => hk.2) (.slice Ao36 x149003_1.length co36)) (fun _ hk => hk.1), by (with_reducible repeat (first | apply Kd.N_alloc | apply Kd.N_drewN | apply Kd.N_drew)); exact Kd.N_mono (Kd.N_far (p := ⟨gb135, 3, none⟩) (Kd.N_far (p := ⟨gb135, 2, none⟩) (Kd.N_far (p := ⟨gb135, 1, none⟩) (Kd.N_far (p := ⟨gb135, 0, none⟩) (Kd.N_mono HO_149003.out (fun k_ hk => (⟨hk, hk.2.2.1⟩ : _ ∧ k_ ≠ gb135))) (fun _ hk => hk.2) (.int .i64 x149000_1)) (fun _ hk => hk.2) (.string x149001_1)) (fun _ hk => hk.2) (.slice Ao35 x149002_1.length co35)) (fun _ hk => hk.2) (.slice Ao36 x149003_1.length co36)) (fun _ hk => ⟨hk.1.1, hk.1.2.1⟩), QI75_0, QB, QK⟩
set_option maxHeartbeats 8000000 in
set_option maxRecDepth 100000 in
theorem Yd.Y2w (k : Nat) (ih : ∀ j_ < k, Yi.Spec j_ ∧ Yo.Spec j_ ∧ Yd.Spec j_ ∧ Yv.Spec j_ ∧ Yy.Spec j_) : ∀ (g : Nat) (s0_0 : ByteArray) (s0_1 : Int) (s0_2 : Int) (s0_3 : Int) (a1 : Int) (r1 : Int) (r2 : ByteArray) (r3 : List ByteArray) (r4 : List (S37)) (r5 : ByteArray) (r6 : Int) (r7 : Int) (r8 : Int) (w0 w : World) (hI : Ye w0 w g s0_0 s0_1 s0_2 s0_3) (hB : Below w0.heap.size w0 w) (hT : Tabs w0) (h : Yd.f k s0_0 s0_1 s0_2 s0_3 a1 = some (r1, r2, r3, r4, r5, r6, r7, r8)),
  Calls Tryd.prog 112 #[.pointer (some ⟨g, 0, none⟩), .int .i64 a1] w fun e w' => ∃ v2_ v3_ : Value, e = .returned (.agg #[.int .i64 r1, .string r2, v2_, v3_]) ∧ Kd.R Kd.string 9 w' w.heap.size (fun k_ => (w.heap.size ≤ k_)) v2_ r3 ∧ Kd.N k37 37 w' w.heap.size (fun k_ => (w.heap.size ≤ k_) ∧ some k_ ≠ (v2_ : Value).ownBlock) v3_ r4 ∧ Ye w0 w' g r5 r6 r7 r8 ∧ Below w0.heap.size w0 w' ∧ Y4 w w' g none := by
 intro g s0_0 s0_1 s0_2 s0_3 a1 r1 r2 r3 r4 r5 r6 r7 r8 w0 w hI hB hT h
 cases k with
 | zero => exact absurd h (by simp [Yd.f])
 | succ k =>
 simp only [Yd.f] at h
 have HT := Y0.mk hT
 clear hT
 have hu37 := Tryd.underlying37
 have HI0 := Y0.mk hI
 have HK := Y0.mk (Y4.refl w g none)
 have HL := Y0.mk hB.size
 clear hI
 have HW0 := Y0.mk hB.size
 have HB := Y0.mk hB
 clear hB
 have H : ((Yv.f k s0_0 s0_1 s0_2 s0_3 a1).bind fun bt170 => (Yd.l0 k bt170.2.2.2.2.1 bt170.2.2.2.2.2.1 bt170.2.2.2.2.2.2.1 bt170.2.2.2.2.2.2.2 bt170.1 bt170.2.1 bt170.2.2.1 bt170.2.2.2.1)) = some (r1, r2, r3, r4, r5, r6, r7, r8) := h
 clear h
 replace H := Option.bind_eq_some_iff.mp H
 obtain ⟨⟨t170, t171, t172, t175, t178, t179, t180, t181⟩, A30, H⟩ := H
 replace H : (Yd.l0 k t178 t179 t180 t181 t170 t171 t172 t175) = some (r1, r2, r3, r4, r5, r6, r7, r8) := H
 have A3 := Y0.mk A30
 clear A30
 have H' := Y0.mk H
 clear H
 go_enter Tryd.func112, Tryd.ntmps112
 go_wp2_with (first | ((with_reducible refine Ym (N := 4) rfl ?_); refine Yl ?hg (N := 4) ?hd (cs := #[.int .i64 0, .string (⟨#[]⟩ : ByteArray), .slice none 0 0, .slice none 0 0]) (t := 37) ?hr ?_; (case hd => rfl); (case hg => rfl); (case hr => exact Z6); intro gb169 hg w4 hbox hb; have n_ := Y3q (Ye.below QI75_0 hb) (Y4.trans QK (Y4.of_below hb g none) (.inl rfl)) (Y5 QB hb) (hbox) ((by rw [hg]; exact (Ya (w := w) (g := g) (row := none) QK) : w.heap.size ≤ gb169)) ((Nat.le_trans HW0.out (by rw [hg]; exact (Ya (w := w) (g := g) (row := none) QK) : w.heap.size ≤ gb169) : w0.heap.size ≤ gb169)) ((by rw [hg]; exact Nat.ne_of_lt (Ye.lt (show Ye w0 _ g s0_0 s0_1 s0_2 s0_3 from QI75_0)) : g ≠ gb169)) ((by rw [hg]; exact Nat.ne_of_gt (Ye.lt (show Ye w0 _ g s0_0 s0_1 s0_2 s0_3 from QI75_0)) : gb169 ≠ g)); clear HI0 HK HB; obtain ⟨HI0, HK, HB, BK169, GW169, GE169, NB0_169, NB169_0⟩ := n_; clear hb hbox hg) | ((with_reducible refine Yg (f := 123) rfl ?_); refine YG (some 9) rfl rfl Tryd.func123 Z4 rfl #[.pointer (some ⟨g, 0, none⟩), .int .i64 a1] rfl Z0 ?_; (with_reducible refine ((ih k (by omega)).2.2.2.1 g s0_0 s0_1 s0_2 s0_3 a1 t170 t171 t172 t175 t178 t179 t180 t181 w0 _ ?side1 ?side2 ?side3 A3.out).mono ?_); (case side1 => exact Z13); (case side2 => exact QB); (case side3 => exact HT.out); rintro e w5 ⟨v173, v176, rfl, ho0, ho1, hi, hb, hk⟩; refine ⟨_, rfl, ?_⟩; have n0_ := Y0.mk (Y4.blk hk (g' := gb169) (o := .cells #[.int .i64 0, .string (⟨#[]⟩ : ByteArray), .slice none 0 0, .slice none 0 0] 37 (0, 0)) QQ NB169_0.out (by simp)); have n1_ := Y0.mk (Kd.R_lower (Kd.R_newM (M := fun k_ => (w.heap.size ≤ k_)) (Kd.R_mono (ok' := fun k_ => True) ho0 (fun _ hk_ => trivial)) (Ya (w := w) (g := g) (row := none) QK) (fun k_ h_ => h_)) (Ya (w := w) (g := g) (row := none) QK)); have n2_ := Y0.mk (Kd.N_lower (Kd.N_mono (ok' := fun k_ => (w.heap.size ≤ k_) ∧ some k_ ≠ (v173 : Value).ownBlock ∧ k_ ≠ gb169 ∧ k_ ≠ g) ho1 (fun k_ hk_ => ⟨(Nat.le_trans (Ya (w := w) (g := g) (row := none) QK) hk_.1), hk_.2, (Kd.freshB (g := gb169) (o := .cells #[.int .i64 0, .string (⟨#[]⟩ : ByteArray), .slice none 0 0, .slice none 0 0] 37 (0, 0)) QQ k_ hk_.1), (Ye.fresh QI75_0 k_ hk_.1)⟩)) (Ya (w := w) (g := g) (row := none) QK)); have n3_ := Y0.mk (Y4.trans QK hk (.inl rfl)); have n4_ := Y0.mk (hb); have n5_ := Y0.mk (hi); clear BK169 HK HB HI0; have BK169 := n0_; have HO174 := n1_; have HO177 := n2_; have HK := n3_; have HB := n4_; have HI0 := n5_; clear n0_ n1_ n2_ n3_ n4_ n5_; (try clear hb); (try clear hb2); (try clear hk); (try clear hi); (try clear ho0); (try clear ho1)) | ((with_reducible refine Ym (N := 5) rfl ?_); refine Yl ?hg (N := 5) ?hd (cs := #[.int .i64 0, .string (⟨#[]⟩ : ByteArray), .slice none 0 0, .slice none 0 0]) (t := 37) ?hr ?_; (case hd => rfl); (case hg => rfl); (case hr => exact Z6); intro gb182 hg w6 hbox hb; have n0_ := Y0.mk (Kd.R_below Z1i hb); have n1_ := Y0.mk (Kd.N_below (Kd.N_elderB Z1g gb182 (Nat.le_of_eq hg.symm)) hb); have n2_ := Y0.mk (Ye.below QI75_0 hb); have n3_ := Y0.mk (Yh (g := gb169) (o := .cells #[.int .i64 0, .string (⟨#[]⟩ : ByteArray), .slice none 0 0, .slice none 0 0] 37 (0, 0)) QQ hb); have n4_ := Y0.mk (Y4.trans QK (Y4.of_below hb g none) (.inl rfl)); have n5_ := Y0.mk (Y5 QB hb); have n6_ := Y0.mk (hbox); have n7_ := Y0.mk ((by rw [hg]; exact (Ya (w := w) (g := g) (row := none) QK) : w.heap.size ≤ gb182)); have n8_ := Y0.mk ((Nat.le_trans HW0.out (by rw [hg]; exact (Ya (w := w) (g := g) (row := none) QK) : w.heap.size ≤ gb182) : w0.heap.size ≤ gb182)); have n9_ := Y0.mk ((by rw [hg]; exact Nat.ne_of_lt (YO (g := gb169) (o := .cells #[.int .i64 0, .string (⟨#[]⟩ : ByteArray), .slice none 0 0, .slice none 0 0] 37 (0, 0)) QQ) : gb169 ≠ gb182)); have n10_ := Y0.mk ((by rw [hg]; exact Nat.ne_of_gt (YO (g := gb169) (o := .cells #[.int .i64 0, .string (⟨#[]⟩ : ByteArray), .slice none 0 0, .slice none 0 0] 37 (0, 0)) QQ) : gb182 ≠ gb169)); have n11_ := Y0.mk ((by rw [hg]; exact Nat.ne_of_lt (Ye.lt (show Ye w0 _ g t178 t179 t180 t181 from QI75_0)) : g ≠ gb182)); have n12_ := Y0.mk ((by rw [hg]; exact Nat.ne_of_gt (Ye.lt (show Ye w0 _ g t178 t179 t180 t181 from QI75_0)) : gb182 ≠ g)); clear HO174 HO177 HI0 BK169 HK HB; have HO174 := n0_; have HO177 := n1_; have HI0 := n2_; have BK169 := n3_; have HK := n4_; have HB := n5_; have BK182 := n6_; have GW182 := n7_; have GE182 := n8_; have NB169_182 := n9_; have NB182_169 := n10_; have NB0_182 := n11_; have NB182_0 := n12_; clear n0_ n1_ n2_ n3_ n4_ n5_ n6_ n7_ n8_ n9_ n10_ n11_ n12_ hb hbox hg; have hnb7 := NB182_169.out; have hnc7 := NB169_182.out; have hnb8 := NB182_0.out; have hnc8 := NB0_182.out; obtain ⟨hcz9_0, hcz9_1, hcz9_2, hcz9_3, hfz9_0, hfz9_1, hfz9_2, hfz9_3⟩ := Yt BK182.out; obtain ⟨Ao10, co10, eo10⟩ := Kd.R_slice HO174.out; subst eo10; obtain ⟨Ao11, co11, eo11⟩ := Kd.N_slice HO177.out; subst eo11))
 go_step3
 go_wp2_with (first | ((with_reducible refine Ym (N := 4) rfl ?_); refine Yl ?hg (N := 4) ?hd (cs := #[.int .i64 0, .string (⟨#[]⟩ : ByteArray), .slice none 0 0, .slice none 0 0]) (t := 37) ?hr ?_; (case hd => rfl); (case hg => rfl); (case hr => exact Z6); intro gb169 hg w4 hbox hb; have n_ := Y3q (Ye.below QI75_0 hb) (Y4.trans QK (Y4.of_below hb g none) (.inl rfl)) (Y5 QB hb) (hbox) ((by rw [hg]; exact (Ya (w := w) (g := g) (row := none) QK) : w.heap.size ≤ gb169)) ((Nat.le_trans HW0.out (by rw [hg]; exact (Ya (w := w) (g := g) (row := none) QK) : w.heap.size ≤ gb169) : w0.heap.size ≤ gb169)) ((by rw [hg]; exact Nat.ne_of_lt (Ye.lt (show Ye w0 _ g s0_0 s0_1 s0_2 s0_3 from QI75_0)) : g ≠ gb169)) ((by rw [hg]; exact Nat.ne_of_gt (Ye.lt (show Ye w0 _ g s0_0 s0_1 s0_2 s0_3 from QI75_0)) : gb169 ≠ g)); clear HI0 HK HB; obtain ⟨HI0, HK, HB, BK169, GW169, GE169, NB0_169, NB169_0⟩ := n_; clear hb hbox hg) | ((with_reducible refine Yg (f := 123) rfl ?_); refine YG (some 9) rfl rfl Tryd.func123 Z4 rfl #[.pointer (some ⟨g, 0, none⟩), .int .i64 a1] rfl Z0 ?_; (with_reducible refine ((ih k (by omega)).2.2.2.1 g s0_0 s0_1 s0_2 s0_3 a1 t170 t171 t172 t175 t178 t179 t180 t181 w0 _ ?side1 ?side2 ?side3 A3.out).mono ?_); (case side1 => exact Z13); (case side2 => exact QB); (case side3 => exact HT.out); rintro e w5 ⟨v173, v176, rfl, ho0, ho1, hi, hb, hk⟩; refine ⟨_, rfl, ?_⟩; have n0_ := Y0.mk (Y4.blk hk (g' := gb169) (o := .cells #[.int .i64 0, .string (⟨#[]⟩ : ByteArray), .slice none 0 0, .slice none 0 0] 37 (0, 0)) QQ NB169_0.out (by simp)); have n1_ := Y0.mk (Kd.R_lower (Kd.R_newM (M := fun k_ => (w.heap.size ≤ k_)) (Kd.R_mono (ok' := fun k_ => True) ho0 (fun _ hk_ => trivial)) (Ya (w := w) (g := g) (row := none) QK) (fun k_ h_ => h_)) (Ya (w := w) (g := g) (row := none) QK)); have n2_ := Y0.mk (Kd.N_lower (Kd.N_mono (ok' := fun k_ => (w.heap.size ≤ k_) ∧ some k_ ≠ (v173 : Value).ownBlock ∧ k_ ≠ gb169 ∧ k_ ≠ g) ho1 (fun k_ hk_ => ⟨(Nat.le_trans (Ya (w := w) (g := g) (row := none) QK) hk_.1), hk_.2, (Kd.freshB (g := gb169) (o := .cells #[.int .i64 0, .string (⟨#[]⟩ : ByteArray), .slice none 0 0, .slice none 0 0] 37 (0, 0)) QQ k_ hk_.1), (Ye.fresh QI75_0 k_ hk_.1)⟩)) (Ya (w := w) (g := g) (row := none) QK)); have n3_ := Y0.mk (Y4.trans QK hk (.inl rfl)); have n4_ := Y0.mk (hb); have n5_ := Y0.mk (hi); clear BK169 HK HB HI0; have BK169 := n0_; have HO174 := n1_; have HO177 := n2_; have HK := n3_; have HB := n4_; have HI0 := n5_; clear n0_ n1_ n2_ n3_ n4_ n5_; (try clear hb); (try clear hb2); (try clear hk); (try clear hi); (try clear ho0); (try clear ho1)) | ((with_reducible refine Ym (N := 5) rfl ?_); refine Yl ?hg (N := 5) ?hd (cs := #[.int .i64 0, .string (⟨#[]⟩ : ByteArray), .slice none 0 0, .slice none 0 0]) (t := 37) ?hr ?_; (case hd => rfl); (case hg => rfl); (case hr => exact Z6); intro gb182 hg w6 hbox hb; have n0_ := Y0.mk (Kd.R_below Z1i hb); have n1_ := Y0.mk (Kd.N_below (Kd.N_elderB Z1g gb182 (Nat.le_of_eq hg.symm)) hb); have n2_ := Y0.mk (Ye.below QI75_0 hb); have n3_ := Y0.mk (Yh (g := gb169) (o := .cells #[.int .i64 0, .string (⟨#[]⟩ : ByteArray), .slice none 0 0, .slice none 0 0] 37 (0, 0)) QQ hb); have n4_ := Y0.mk (Y4.trans QK (Y4.of_below hb g none) (.inl rfl)); have n5_ := Y0.mk (Y5 QB hb); have n6_ := Y0.mk (hbox); have n7_ := Y0.mk ((by rw [hg]; exact (Ya (w := w) (g := g) (row := none) QK) : w.heap.size ≤ gb182)); have n8_ := Y0.mk ((Nat.le_trans HW0.out (by rw [hg]; exact (Ya (w := w) (g := g) (row := none) QK) : w.heap.size ≤ gb182) : w0.heap.size ≤ gb182)); have n9_ := Y0.mk ((by rw [hg]; exact Nat.ne_of_lt (YO (g := gb169) (o := .cells #[.int .i64 0, .string (⟨#[]⟩ : ByteArray), .slice none 0 0, .slice none 0 0] 37 (0, 0)) QQ) : gb169 ≠ gb182)); have n10_ := Y0.mk ((by rw [hg]; exact Nat.ne_of_gt (YO (g := gb169) (o := .cells #[.int .i64 0, .string (⟨#[]⟩ : ByteArray), .slice none 0 0, .slice none 0 0] 37 (0, 0)) QQ) : gb182 ≠ gb169)); have n11_ := Y0.mk ((by rw [hg]; exact Nat.ne_of_lt (Ye.lt (show Ye w0 _ g t178 t179 t180 t181 from QI75_0)) : g ≠ gb182)); have n12_ := Y0.mk ((by rw [hg]; exact Nat.ne_of_gt (Ye.lt (show Ye w0 _ g t178 t179 t180 t181 from QI75_0)) : gb182 ≠ g)); clear HO174 HO177 HI0 BK169 HK HB; have HO174 := n0_; have HO177 := n1_; have HI0 := n2_; have BK169 := n3_; have HK := n4_; have HB := n5_; have BK182 := n6_; have GW182 := n7_; have GE182 := n8_; have NB169_182 := n9_; have NB182_169 := n10_; have NB0_182 := n11_; have NB182_0 := n12_; clear n0_ n1_ n2_ n3_ n4_ n5_ n6_ n7_ n8_ n9_ n10_ n11_ n12_ hb hbox hg; have hnb7 := NB182_169.out; have hnc7 := NB169_182.out; have hnb8 := NB182_0.out; have hnc8 := NB0_182.out; obtain ⟨hcz9_0, hcz9_1, hcz9_2, hcz9_3, hfz9_0, hfz9_1, hfz9_2, hfz9_3⟩ := Yt BK182.out; obtain ⟨Ao10, co10, eo10⟩ := Kd.R_slice HO174.out; subst eo10; obtain ⟨Ao11, co11, eo11⟩ := Kd.N_slice HO177.out; subst eo11))
 (try go_wp2)
 (try go_step3)
 (try go_wp2)
 go_loopg [] k (fun kq w' => ∃ (x1000_1 : ByteArray) (x1001_1 : Int) (x1002_1 : Int) (x1003_1 : Int) (x183000_1 : Int) (x183001_1 : ByteArray) (x183002_1 : List ByteArray) (x183003_1 : List (S37)) (u183002 : Value) (u183003 : Value), Y0 (Yd.l0 kq x1000_1 x1001_1 x1002_1 x1003_1 x183000_1 x183001_1 x183002_1 x183003_1 = some (r1, r2, r3, r4, r5, r6, r7, r8)) ∧ Y0 (kq ≤ k) ∧ Y0 (Kd.R Kd.string 9 w' w.heap.size (fun k_ => (w.heap.size ≤ k_)) u183002 x183002_1) ∧ Y0 (Kd.N k37 37 w' w.heap.size (fun k_ => (w.heap.size ≤ k_) ∧ some k_ ≠ (u183002 : Value).ownBlock ∧ k_ ≠ gb169 ∧ k_ ≠ gb182 ∧ k_ ≠ g) u183003 x183003_1) ∧ Y0 (w'.heap[gb169]? = some (.cells #[.int .i64 0, .string (⟨#[]⟩ : ByteArray), (.slice none 0 0), (.slice none 0 0)] 37 (0, 0))) ∧ Y0 (w'.heap[gb182]? = some (.cells #[.int .i64 x183000_1, .string x183001_1, u183002, u183003] 37 (0, 0))) ∧ Y0 (Ye w0 w' g x1000_1 x1001_1 x1002_1 x1003_1) ∧ Y0 (Y4 w w' g none) ∧ Y0 (Below w0.heap.size w0 w'))
 case atStart => exact ⟨(t178), (t179), (t180), (t181), (t170), (t171), (t172), (t175), (.slice Ao10 t172.length co10), (.slice Ao11 t175.length co11), H', ⟨Nat.le_refl _⟩, ⟨by (with_reducible repeat (first | apply Kd.R_alloc | apply Kd.R_drewN | apply Kd.R_drew)); exact Kd.R_mono (Kd.R_far (p := ⟨gb182, 3, none⟩) (Kd.R_far (p := ⟨gb182, 2, none⟩) (Kd.R_far (p := ⟨gb182, 1, none⟩) (Kd.R_far (p := ⟨gb182, 0, none⟩) (Kd.R_types HO174.out BK182.out (by decide)) (fun _ hk => hk.2) (.int .i64 t170)) (fun _ hk => hk.2) (.string t171)) (fun _ hk => hk.2) (.slice Ao10 t172.length co10)) (fun _ hk => hk.2) (.slice Ao11 t175.length co11)) (fun _ hk => hk.1.1)⟩, ⟨by (with_reducible repeat (first | apply Kd.N_alloc | apply Kd.N_drewN | apply Kd.N_drew)); exact Kd.N_mono (Kd.N_far (p := ⟨gb182, 3, none⟩) (Kd.N_far (p := ⟨gb182, 2, none⟩) (Kd.N_far (p := ⟨gb182, 1, none⟩) (Kd.N_far (p := ⟨gb182, 0, none⟩) (Kd.N_mono HO177.out (fun k_ hk => (⟨hk, hk.2⟩ : _ ∧ k_ ≠ gb182))) (fun _ hk => hk.2) (.int .i64 t170)) (fun _ hk => hk.2) (.string t171)) (fun _ hk => hk.2) (.slice Ao10 t172.length co10)) (fun _ hk => hk.2) (.slice Ao11 t175.length co11)) (fun _ hk => ⟨hk.1.1.1, ⟨hk.1.1.2.1, ⟨hk.1.1.2.2.1, ⟨hk.1.2, hk.1.1.2.2.2⟩⟩⟩⟩)⟩, ⟨Za⟩, ⟨by (with_reducible repeat (first | refine Y9 ?_ _ | refine Y8 ?_ | refine Y7 ?_ _)); exact Yp (cs := #[.int .i64 t170, .string t171, .slice Ao10 t172.length co10, .slice none 0 0]) (by (with_reducible repeat (first | refine Y9 ?_ _ | refine Y8 ?_ | refine Y7 ?_ _)); exact Yp (cs := #[.int .i64 t170, .string t171, .slice none 0 0, .slice none 0 0]) (by (with_reducible repeat (first | refine Y9 ?_ _ | refine Y8 ?_ | refine Y7 ?_ _)); exact Yp (cs := #[.int .i64 t170, .string (⟨#[]⟩ : ByteArray), .slice none 0 0, .slice none 0 0]) Z1 1 _ rfl) 2 _ rfl) 3 _ rfl⟩, ⟨QI75_0⟩, ⟨QK⟩, ⟨QB⟩⟩
 case round =>
  clear H'
  try clear c1
  try clear p2
  try clear c7
  try clear c8
  try clear c11
  try clear hcz9_0 hcz9_1 hcz9_2 hcz9_3 hfz9_0 hfz9_1 hfz9_2 hfz9_3
  obtain ⟨x1000_1, x1001_1, x1002_1, x1003_1, x183000_1, x183001_1, x183002_1, x183003_1, u183002, u183003, HA, HK1, HO_183002, HO_183003, BK169, BK182, HI0, HK, HB⟩ := hrel
  cases gk with
  | zero => exact absurd HA.out (by simp [Yd.l0])
  | succ k1 =>
   have H := HA.out
   clear HA
   simp only [Yd.l0] at H
   replace H := Option.bind_eq_some_iff.mp H
   obtain ⟨⟨t183, t184, t185, t186, t187⟩, A120, H⟩ := H
   replace H : (if t183 = 42 then (Yd.j1 k1 5 t184 (wrap64 (t185 + 1)) t186 t187 x183000_1 x183001_1 x183002_1 x183003_1) else (if t183 = 43 then (Yd.j2 k1 6 t184 (wrap64 (t185 + 1)) t186 t187 x183000_1 x183001_1 x183002_1 x183003_1) else (if t183 = 63 then (Yd.j3 k1 7 t184 (wrap64 (t185 + 1)) t186 t187 x183000_1 x183001_1 x183002_1 x183003_1) else (some (x183000_1, x183001_1, x183002_1, x183003_1, t184, t185, t186, t187))))) = some (r1, r2, r3, r4, r5, r6, r7, r8) := H
   have A12 := Y0.mk A120
   clear A120
   by_cases c13 : t183 = 42
   ·rw [if_pos c13] at H
    have c13b0 : (t183 == 42) = true := beq_iff_eq.mpr c13
    have c13b1 : (t183 != 42) = false := bne_eq_false_iff_eq.mpr c13
    clear c13
    have HC14 := Y0.mk H
    clear H
    go_upto_region 10 with (first | ((with_reducible refine Yg (f := 53) rfl ?_); refine YG (some 11) rfl rfl Tryd.func53 Z4 rfl #[.pointer (some ⟨g, 0, none⟩)] rfl Z0 ?_; (with_reducible refine (Yc.calls k1 g x1000_1 x1001_1 x1002_1 x1003_1 t183 t184 t185 t186 t187 w0 _ ?side1 ?side2 A12.out).mono ?_); (case side1 => exact Z13); (case side2 => exact QB); rintro e w15 ⟨rfl, hi, hb, hk⟩; refine ⟨_, rfl, ?_⟩; have n0_ := Y0.mk (Kd.R_mono (Kd.R_keep (Ye.apart (show Ye w0 _ g x1000_1 x1001_1 x1002_1 x1003_1 from QI75_0) ZY (by decide)) hk (fun _ h => h.2)) (fun _ h => h.1)); have n1_ := Y0.mk (Kd.N_mono (Kd.N_keep (Kd.N_mono (ok := fun k_ => (((w.heap.size ≤ k_)) ∧ (some k_ ≠ (u183002 : Value).ownBlock ∧ (k_ ≠ gb169 ∧ (k_ ≠ gb182 ∧ k_ ≠ g))))) ZX (fun k_ hk_ => (⟨hk_, hk_.2.2.2.2⟩ : _ ∧ k_ ≠ g))) hk (fun _ h => h.2)) (fun _ h => h.1)); have n2_ := Y0.mk (Y4.blk hk (g' := gb169) (o := .cells #[.int .i64 0, .string (⟨#[]⟩ : ByteArray), .slice none 0 0, .slice none 0 0] 37 (0, 0)) QQ NB169_0.out (by simp)); have n3_ := Y0.mk (Y4.blk hk (g' := gb182) (o := .cells #[.int .i64 x183000_1, .string x183001_1, u183002, u183003] 37 (0, 0)) QQ NB182_0.out (by simp)); have n4_ := Y0.mk (Y4.trans QK hk (.inl rfl)); have n5_ := Y0.mk (hb); have n6_ := Y0.mk (hi); clear HO_183002 HO_183003 BK169 BK182 HK HB HI0; have HO_183002 := n0_; have HO_183003 := n1_; have BK169 := n2_; have BK182 := n3_; have HK := n4_; have HB := n5_; have HI0 := n6_; clear n0_ n1_ n2_ n3_ n4_ n5_ n6_; (try clear hb); (try clear hb2); (try clear hk); (try clear hi)))
    (try simp only [Act.put, List.setIfInBounds_toArray, List.set_cons_zero, List.set_cons_succ])
    go_cut [] (fun wc => ∃ (kq : Nat) (x1001_13 : Int), Y0 (Yd.j1 kq 5 t184 x1001_13 t186 t187 x183000_1 x183001_1 x183002_1 x183003_1 = some (r1, r2, r3, r4, r5, r6, r7, r8)) ∧ Y0 (kq ≤ k1) ∧ Y0 (Kd.R Kd.string 9 wc w.heap.size (fun k_ => (w.heap.size ≤ k_)) u183002 x183002_1) ∧ Y0 (Kd.N k37 37 wc w.heap.size (fun k_ => (w.heap.size ≤ k_) ∧ some k_ ≠ (u183002 : Value).ownBlock ∧ k_ ≠ gb169 ∧ k_ ≠ gb182 ∧ k_ ≠ g) u183003 x183003_1) ∧ Y0 (wc.heap[gb169]? = some (.cells #[.int .i64 0, .string (⟨#[]⟩ : ByteArray), (.slice none 0 0), (.slice none 0 0)] 37 (0, 0))) ∧ Y0 (wc.heap[gb182]? = some (.cells #[.int .i64 x183000_1, .string x183001_1, u183002, u183003] 37 (0, 0))) ∧ Y0 (Ye w0 wc g t184 x1001_13 t186 t187) ∧ Y0 (Y4 w wc g none) ∧ Y0 (Below w0.heap.size w0 wc))
    case first =>
     have H := HC14.out
     clear HC14
     have H' := Y0.mk H
     clear H
     obtain ⟨hcz16_0, hcz16_1, hcz16_2, hcz16_3, hfz16_0, hfz16_1, hfz16_2, hfz16_3⟩ := Yt HI0.out.1
     go_wp2
     go_meet
     case rel => exact Z8
    case rest =>
     clear HC14
     try clear c1
     try clear p2
     try clear c5
     try clear p6
     try clear c7
     try clear c8
     try clear c11
     try clear c12
     try clear c13
     try clear c13b0
     try clear c13b1
     try clear hcz16_0 hcz16_1 hcz16_2 hcz16_3
     try clear hcz9_0 hcz9_1 hcz9_2 hcz9_3
     try clear hfz16_0
     try clear hfz16_1
     try clear hfz16_2
     try clear hfz16_3
     try clear hfz9_0
     try clear hfz9_1
     try clear hfz9_2
     try clear hfz9_3
     try clear p2
     obtain ⟨kq, x1001_13, HA, HJ13, HO_183002, HO_183003, BK169, BK182, HI0, HK, HB⟩ := hcut
     cases kq with
     | zero => exact absurd HA.out (by simp [Yd.j1])
     | succ kj13 =>
      have H := HA.out
      clear HA
      simp only [Yd.j1] at H
      obtain ⟨y188, hy188⟩ : ∃ y_ : List (S37), y_ = (([(⟨x183000_1, x183001_1, x183002_1, x183003_1⟩ : S37)] : List (S37))) := ⟨_, rfl⟩
      replace H : (Yd.l0 kj13 t184 x1001_13 t186 t187 5 (⟨#[]⟩ : ByteArray) ([] : List ByteArray) y188) = some (r1, r2, r3, r4, r5, r6, r7, r8) := by first | (rw [hy188]; with_reducible exact H) | (have H2_ := (Option.bind_some _ _).symm.trans H; rw [hy188]; with_reducible exact H2_) | (have H2_ := (Option.bind_some _ _).symm.trans H; with_reducible exact H2_) | with_reducible exact H | (rw [hy188]; exact H) | exact H
      have Ny188 := Y0.mk hy188
      clear hy188
      have H' := Y0.mk H
      clear H
      have hnb17 := NB182_169.out
      have hnc17 := NB169_182.out
      have hnb18 := NB182_0.out
      have hnc18 := NB0_182.out
      obtain ⟨hcz19_0, hcz19_1, hcz19_2, hcz19_3, hfz19_0, hfz19_1, hfz19_2, hfz19_3⟩ := Yt BK182.out
      obtain ⟨Ao20, co20, eo20⟩ := Kd.R_slice HO_183002.out
      subst eo20
      obtain ⟨Ao21, co21, eo21⟩ := Kd.N_slice HO_183003.out
      subst eo21
      go_wp2_with (first | ((with_reducible refine Ym (N := 27) rfl ?_); refine Kd.N_lit k37 _ 37 ?hg (N' := 27) ?hd (xs := ([(⟨x183000_1, x183001_1, x183002_1, x183003_1⟩ : S37)] : List (S37))) (inner := [.int .i64 x183000_1, .string x183001_1, .slice Ao20 x183002_1.length co20, .slice Ao21 x183003_1.length co21]) (ok := (fun k_ => (w.heap.size ≤ k_) ∧ k_ ≠ gb169 ∧ k_ ≠ gb182 ∧ k_ ≠ g)) (okp := (fun k_ => (w.heap.size ≤ k_) ∧ k_ ≠ gb169 ∧ k_ ≠ gb182 ∧ k_ ≠ g)) ?hr ?hp (fun _ hk => hk) ((show ∀ k_, wc.heap.size ≤ k_ → (fun k_ => (w.heap.size ≤ k_) ∧ k_ ≠ gb169 ∧ k_ ≠ gb182 ∧ k_ ≠ g) k_ from fun k_ hk => ⟨(Nat.le_trans (Ya (w := w) (g := g) (row := none) QK) hk), Kd.freshB (g := gb169) (o := .cells #[.int .i64 0, .string (⟨#[]⟩ : ByteArray), .slice none 0 0, .slice none 0 0] 37 (0, 0)) QQ k_ hk, Kd.freshB (g := gb182) (o := .cells #[.int .i64 x183000_1, .string x183001_1, .slice Ao20 x183002_1.length co20, .slice Ao21 x183003_1.length co21] 37 (0, 0)) QQ k_ hk, Ye.fresh QI75_0 k_ hk⟩) _ (Nat.le_refl _)) (Below.refl _ _) (Nat.le_refl _) (by simp) ?_; (case hd => rfl); (case hg => rfl); (case hr => exact Z6); (case hp => exact (Y12.c4 (show Kd.FK k37 _ _ (⟨x183000_1, x183001_1, x183002_1, x183003_1⟩ : S37) [.int .i64 x183000_1, .string x183001_1, .slice Ao20 x183002_1.length co20, .slice Ao21 x183003_1.length co21] from (Y1a _ _ (⟨x183000_1, x183001_1, x183002_1, x183003_1⟩ : S37) (Kd.R_reads' (Kd.R_mono (ok' := (fun k_ => (w.heap.size ≤ k_) ∧ k_ ≠ gb169 ∧ k_ ≠ gb182 ∧ k_ ≠ g)) (Ye.apart HI0.out (Kd.R_types (Kd.R_types (HO_183002.out) BK169.out (by decide)) BK182.out (by decide)) (by decide)) (fun k_ hk => ⟨hk.1.1.1, ⟨hk.1.1.2, ⟨hk.1.2, hk.2⟩⟩⟩))).2.1 (Kd.R_F (Kd.R_mono (ok' := (fun k_ => (w.heap.size ≤ k_) ∧ k_ ≠ gb169 ∧ k_ ≠ gb182 ∧ k_ ≠ g)) (Ye.apart HI0.out (Kd.R_types (Kd.R_types (HO_183002.out) BK169.out (by decide)) BK182.out (by decide)) (by decide)) (fun k_ hk => ⟨hk.1.1.1, ⟨hk.1.1.2, ⟨hk.1.2, hk.2⟩⟩⟩))) (Kd.N_reads' (Kd.N_mono (ok' := (fun k_ => (w.heap.size ≤ k_) ∧ k_ ≠ gb169 ∧ k_ ≠ gb182 ∧ k_ ≠ g)) (HO_183003.out) (fun k_ hk => ⟨hk.1, ⟨hk.2.2.1, ⟨hk.2.2.2.1, hk.2.2.2.2⟩⟩⟩))).2.1 (Kd.N_F (Kd.N_mono (ok' := (fun k_ => (w.heap.size ≤ k_) ∧ k_ ≠ gb169 ∧ k_ ≠ gb182 ∧ k_ ≠ g)) (HO_183003.out) (fun k_ hk => ⟨hk.1, ⟨hk.2.2.1, ⟨hk.2.2.2.1, hk.2.2.2.2⟩⟩⟩))))) (Y12.none _ _))); intro v189 w22 ho23 hb hg_ hnew_; clear hg_ hnew_; (first | rw [← Ny188.out] at ho23 | (simp only [Int.reduceToNat] at ho23; rw [← Ny188.out] at ho23)); have n_ := Y2W (Kd.N_lower ho23 (Ya (w := w) (g := g) (row := none) QK)) (Yh (g := gb169) (o := .cells #[.int .i64 0, .string (⟨#[]⟩ : ByteArray), .slice none 0 0, .slice none 0 0] 37 (0, 0)) QQ hb) (Yh (g := gb182) (o := .cells #[.int .i64 x183000_1, .string x183001_1, .slice Ao20 x183002_1.length co20, .slice Ao21 x183003_1.length co21] 37 (0, 0)) QQ hb) (Ye.below QI75_0 hb) (Y4.trans QK (Y4.of_below hb g none) (.inl rfl)) (Y5 QB hb); clear BK169 BK182 HI0 HK HB HO_183002 HO_183003; obtain ⟨HO190, BK169, BK182, HI0, HK, HB⟩ := n_; clear hb ho23; obtain ⟨Ao24, co24, eo24⟩ := Kd.N_slice HO190.out; subst eo24; obtain ⟨hcz25_0, hcz25_1, hcz25_2, hcz25_3, hfz25_0, hfz25_1, hfz25_2, hfz25_3⟩ := Yt BK182.out))
      go_roundg kj13
      case measure => have := HK1.out; have := HJ13.out; omega
      case rel => exact ⟨(t184), (x1001_13), (t186), (t187), (5), ((⟨#[]⟩ : ByteArray)), (([] : List ByteArray)), (y188), (.slice none 0 0), (.slice Ao24 y188.length co24), H', ⟨by have := HK1.out; have := HJ13.out; omega⟩, ⟨Z7⟩, ⟨by (with_reducible repeat (first | apply Kd.N_alloc | apply Kd.N_drewN | apply Kd.N_drew)); exact Kd.N_mono (Kd.N_far (p := ⟨gb182, 3, none⟩) (Kd.N_far (p := ⟨gb182, 2, none⟩) (Kd.N_far (p := ⟨gb182, 1, none⟩) (Kd.N_far (p := ⟨gb182, 0, none⟩) (Kd.N_mono HO190.out (fun k_ hk => (⟨hk, hk.2.2.1⟩ : _ ∧ k_ ≠ gb182))) (fun _ hk => hk.2) (.int .i64 5)) (fun _ hk => hk.2) (.string (⟨#[]⟩ : ByteArray))) (fun _ hk => hk.2) (.slice none 0 0)) (fun _ hk => hk.2) (.slice Ao24 y188.length co24)) (fun _ hk => ⟨hk.1.1, ⟨Z14, ⟨hk.1.2.1, ⟨hk.1.2.2.1, hk.1.2.2.2⟩⟩⟩⟩)⟩, ⟨Za⟩, ⟨by (with_reducible repeat (first | refine Y9 ?_ _ | refine Y8 ?_ | refine Y7 ?_ _)); exact Yp (cs := #[.int .i64 5, .string (⟨#[]⟩ : ByteArray), .slice none 0 0, .slice Ao21 x183003_1.length co21]) (by (with_reducible repeat (first | refine Y9 ?_ _ | refine Y8 ?_ | refine Y7 ?_ _)); exact Yp (cs := #[.int .i64 5, .string (⟨#[]⟩ : ByteArray), .slice Ao20 x183002_1.length co20, .slice Ao21 x183003_1.length co21]) (by (with_reducible repeat (first | refine Y9 ?_ _ | refine Y8 ?_ | refine Y7 ?_ _)); exact Yp (cs := #[.int .i64 5, .string x183001_1, .slice Ao20 x183002_1.length co20, .slice Ao21 x183003_1.length co21]) (by (with_reducible repeat (first | refine Y9 ?_ _ | refine Y8 ?_ | refine Y7 ?_ _)); exact Yp (cs := #[.int .i64 x183000_1, .string x183001_1, .slice Ao20 x183002_1.length co20, .slice Ao21 x183003_1.length co21]) QQ 0 _ rfl) 1 _ rfl) 2 _ rfl) 3 _ rfl⟩, ⟨QI75_0⟩, ⟨QK⟩, ⟨QB⟩⟩
   ·rw [if_neg c13] at H
    have c13b0 : (t183 == 42) = false := beq_eq_false_iff_ne.mpr c13
    have c13b1 : (t183 != 42) = true := bne_iff_ne.mpr c13
    by_cases c26 : t183 = 43
    ·rw [if_pos c26] at H
     have c26b0 : (t183 == 43) = true := beq_iff_eq.mpr c26
     have c26b1 : (t183 != 43) = false := bne_eq_false_iff_eq.mpr c26
     clear c26
     have HC27 := Y0.mk H
     clear H
     go_upto_region 10 with (first | ((with_reducible refine Yg (f := 53) rfl ?_); refine YG (some 11) rfl rfl Tryd.func53 Z4 rfl #[.pointer (some ⟨g, 0, none⟩)] rfl Z0 ?_; (with_reducible refine (Yc.calls k1 g x1000_1 x1001_1 x1002_1 x1003_1 t183 t184 t185 t186 t187 w0 _ ?side1 ?side2 A12.out).mono ?_); (case side1 => exact Z13); (case side2 => exact QB); rintro e w28 ⟨rfl, hi, hb, hk⟩; refine ⟨_, rfl, ?_⟩; have n0_ := Y0.mk (Kd.R_mono (Kd.R_keep (Ye.apart (show Ye w0 _ g x1000_1 x1001_1 x1002_1 x1003_1 from QI75_0) ZY (by decide)) hk (fun _ h => h.2)) (fun _ h => h.1)); have n1_ := Y0.mk (Kd.N_mono (Kd.N_keep (Kd.N_mono (ok := fun k_ => (((w.heap.size ≤ k_)) ∧ (some k_ ≠ (u183002 : Value).ownBlock ∧ (k_ ≠ gb169 ∧ (k_ ≠ gb182 ∧ k_ ≠ g))))) ZX (fun k_ hk_ => (⟨hk_, hk_.2.2.2.2⟩ : _ ∧ k_ ≠ g))) hk (fun _ h => h.2)) (fun _ h => h.1)); have n2_ := Y0.mk (Y4.blk hk (g' := gb169) (o := .cells #[.int .i64 0, .string (⟨#[]⟩ : ByteArray), .slice none 0 0, .slice none 0 0] 37 (0, 0)) QQ NB169_0.out (by simp)); have n3_ := Y0.mk (Y4.blk hk (g' := gb182) (o := .cells #[.int .i64 x183000_1, .string x183001_1, u183002, u183003] 37 (0, 0)) QQ NB182_0.out (by simp)); have n4_ := Y0.mk (Y4.trans QK hk (.inl rfl)); have n5_ := Y0.mk (hb); have n6_ := Y0.mk (hi); clear HO_183002 HO_183003 BK169 BK182 HK HB HI0; have HO_183002 := n0_; have HO_183003 := n1_; have BK169 := n2_; have BK182 := n3_; have HK := n4_; have HB := n5_; have HI0 := n6_; clear n0_ n1_ n2_ n3_ n4_ n5_ n6_; (try clear hb); (try clear hb2); (try clear hk); (try clear hi)))
     (try simp only [Act.put, List.setIfInBounds_toArray, List.set_cons_zero, List.set_cons_succ])
     go_cut [] (fun wc => ∃ (kq : Nat) (x1001_26 : Int), Y0 (Yd.j2 kq 6 t184 x1001_26 t186 t187 x183000_1 x183001_1 x183002_1 x183003_1 = some (r1, r2, r3, r4, r5, r6, r7, r8)) ∧ Y0 (kq ≤ k1) ∧ Y0 (Kd.R Kd.string 9 wc w.heap.size (fun k_ => (w.heap.size ≤ k_)) u183002 x183002_1) ∧ Y0 (Kd.N k37 37 wc w.heap.size (fun k_ => (w.heap.size ≤ k_) ∧ some k_ ≠ (u183002 : Value).ownBlock ∧ k_ ≠ gb169 ∧ k_ ≠ gb182 ∧ k_ ≠ g) u183003 x183003_1) ∧ Y0 (wc.heap[gb169]? = some (.cells #[.int .i64 0, .string (⟨#[]⟩ : ByteArray), (.slice none 0 0), (.slice none 0 0)] 37 (0, 0))) ∧ Y0 (wc.heap[gb182]? = some (.cells #[.int .i64 x183000_1, .string x183001_1, u183002, u183003] 37 (0, 0))) ∧ Y0 (Ye w0 wc g t184 x1001_26 t186 t187) ∧ Y0 (Y4 w wc g none) ∧ Y0 (Below w0.heap.size w0 wc))
     case first =>
      have H := HC27.out
      clear HC27
      have H' := Y0.mk H
      clear H
      obtain ⟨hcz29_0, hcz29_1, hcz29_2, hcz29_3, hfz29_0, hfz29_1, hfz29_2, hfz29_3⟩ := Yt HI0.out.1
      go_wp2
      go_meet
      case rel => exact Z8
     case rest =>
      clear HC27
      try clear c1
      try clear c2
      try clear p2
      try clear c4
      try clear c5
      try clear p6
      try clear c7
      try clear c8
      try clear c11
      try clear c12
      try clear c13
      try clear c13b0
      try clear c13b1
      try clear c17
      try clear c18
      try clear c26
      try clear c26b0
      try clear c26b1
      try clear hcz16_0 hcz16_1 hcz16_2 hcz16_3
      try clear hcz19_0 hcz19_1 hcz19_2 hcz19_3
      try clear hcz25_0 hcz25_1 hcz25_2 hcz25_3
      try clear hcz29_0 hcz29_1 hcz29_2 hcz29_3
      try clear hcz9_0 hcz9_1 hcz9_2 hcz9_3
      try clear hfz16_0
      try clear hfz16_1
      try clear hfz16_2
      try clear hfz16_3
      try clear hfz19_0
      try clear hfz19_1
      try clear hfz19_2
      try clear hfz19_3
      try clear hfz25_0
      try clear hfz25_1
      try clear hfz25_2
      try clear hfz25_3
      try clear hfz29_0
      try clear hfz29_1
      try clear hfz29_2
      try clear hfz29_3
      try clear hfz9_0
      try clear hfz9_1
      try clear hfz9_2
      try clear hfz9_3
      try clear p2
      try clear p6
      obtain ⟨kq, x1001_26, HA, HJ26, HO_183002, HO_183003, BK169, BK182, HI0, HK, HB⟩ := hcut
      cases kq with
      | zero => exact absurd HA.out (by simp [Yd.j2])
      | succ kj26 =>
       have H := HA.out
       clear HA
       simp only [Yd.j2] at H
       obtain ⟨y191, hy191⟩ : ∃ y_ : List (S37), y_ = (([(⟨x183000_1, x183001_1, x183002_1, x183003_1⟩ : S37)] : List (S37))) := ⟨_, rfl⟩
       replace H : (Yd.l0 kj26 t184 x1001_26 t186 t187 6 (⟨#[]⟩ : ByteArray) ([] : List ByteArray) y191) = some (r1, r2, r3, r4, r5, r6, r7, r8) := by first | (rw [hy191]; with_reducible exact H) | (have H2_ := (Option.bind_some _ _).symm.trans H; rw [hy191]; with_reducible exact H2_) | (have H2_ := (Option.bind_some _ _).symm.trans H; with_reducible exact H2_) | with_reducible exact H | (rw [hy191]; exact H) | exact H
       have Ny191 := Y0.mk hy191
       clear hy191
       have H' := Y0.mk H
       clear H
       have hnb30 := NB182_169.out
       have hnc30 := NB169_182.out
       have hnb31 := NB182_0.out
       have hnc31 := NB0_182.out
       obtain ⟨hcz32_0, hcz32_1, hcz32_2, hcz32_3, hfz32_0, hfz32_1, hfz32_2, hfz32_3⟩ := Yt BK182.out
       obtain ⟨Ao33, co33, eo33⟩ := Kd.R_slice HO_183002.out
       subst eo33
       obtain ⟨Ao34, co34, eo34⟩ := Kd.N_slice HO_183003.out
       subst eo34
       go_wp2_with (first | ((with_reducible refine Ym (N := 27) rfl ?_); refine Kd.N_lit k37 _ 37 ?hg (N' := 27) ?hd (xs := ([(⟨x183000_1, x183001_1, x183002_1, x183003_1⟩ : S37)] : List (S37))) (inner := [.int .i64 x183000_1, .string x183001_1, .slice Ao33 x183002_1.length co33, .slice Ao34 x183003_1.length co34]) (ok := (fun k_ => (w.heap.size ≤ k_) ∧ k_ ≠ gb169 ∧ k_ ≠ gb182 ∧ k_ ≠ g)) (okp := (fun k_ => (w.heap.size ≤ k_) ∧ k_ ≠ gb169 ∧ k_ ≠ gb182 ∧ k_ ≠ g)) ?hr ?hp (fun _ hk => hk) ((show ∀ k_, wc.heap.size ≤ k_ → (fun k_ => (w.heap.size ≤ k_) ∧ k_ ≠ gb169 ∧ k_ ≠ gb182 ∧ k_ ≠ g) k_ from fun k_ hk => ⟨(Nat.le_trans (Ya (w := w) (g := g) (row := none) QK) hk), Kd.freshB (g := gb169) (o := .cells #[.int .i64 0, .string (⟨#[]⟩ : ByteArray), .slice none 0 0, .slice none 0 0] 37 (0, 0)) QQ k_ hk, Kd.freshB (g := gb182) (o := .cells #[.int .i64 x183000_1, .string x183001_1, .slice Ao33 x183002_1.length co33, .slice Ao34 x183003_1.length co34] 37 (0, 0)) QQ k_ hk, Ye.fresh QI75_0 k_ hk⟩) _ (Nat.le_refl _)) (Below.refl _ _) (Nat.le_refl _) (by simp) ?_; (case hd => rfl); (case hg => rfl); (case hr => exact Z6); (case hp => exact (Y12.c4 (show Kd.FK k37 _ _ (⟨x183000_1, x183001_1, x183002_1, x183003_1⟩ : S37) [.int .i64 x183000_1, .string x183001_1, .slice Ao33 x183002_1.length co33, .slice Ao34 x183003_1.length co34] from (Y1a _ _ (⟨x183000_1, x183001_1, x183002_1, x183003_1⟩ : S37) (Kd.R_reads' (Kd.R_mono (ok' := (fun k_ => (w.heap.size ≤ k_) ∧ k_ ≠ gb169 ∧ k_ ≠ gb182 ∧ k_ ≠ g)) (Ye.apart HI0.out (Kd.R_types (Kd.R_types (HO_183002.out) BK169.out (by decide)) BK182.out (by decide)) (by decide)) (fun k_ hk => ⟨hk.1.1.1, ⟨hk.1.1.2, ⟨hk.1.2, hk.2⟩⟩⟩))).2.1 (Kd.R_F (Kd.R_mono (ok' := (fun k_ => (w.heap.size ≤ k_) ∧ k_ ≠ gb169 ∧ k_ ≠ gb182 ∧ k_ ≠ g)) (Ye.apart HI0.out (Kd.R_types (Kd.R_types (HO_183002.out) BK169.out (by decide)) BK182.out (by decide)) (by decide)) (fun k_ hk => ⟨hk.1.1.1, ⟨hk.1.1.2, ⟨hk.1.2, hk.2⟩⟩⟩))) (Kd.N_reads' (Kd.N_mono (ok' := (fun k_ => (w.heap.size ≤ k_) ∧ k_ ≠ gb169 ∧ k_ ≠ gb182 ∧ k_ ≠ g)) (HO_183003.out) (fun k_ hk => ⟨hk.1, ⟨hk.2.2.1, ⟨hk.2.2.2.1, hk.2.2.2.2⟩⟩⟩))).2.1 (Kd.N_F (Kd.N_mono (ok' := (fun k_ => (w.heap.size ≤ k_) ∧ k_ ≠ gb169 ∧ k_ ≠ gb182 ∧ k_ ≠ g)) (HO_183003.out) (fun k_ hk => ⟨hk.1, ⟨hk.2.2.1, ⟨hk.2.2.2.1, hk.2.2.2.2⟩⟩⟩))))) (Y12.none _ _))); intro v192 w35 ho36 hb hg_ hnew_; clear hg_ hnew_; (first | rw [← Ny191.out] at ho36 | (simp only [Int.reduceToNat] at ho36; rw [← Ny191.out] at ho36)); have n_ := Y2W (Kd.N_lower ho36 (Ya (w := w) (g := g) (row := none) QK)) (Yh (g := gb169) (o := .cells #[.int .i64 0, .string (⟨#[]⟩ : ByteArray), .slice none 0 0, .slice none 0 0] 37 (0, 0)) QQ hb) (Yh (g := gb182) (o := .cells #[.int .i64 x183000_1, .string x183001_1, .slice Ao33 x183002_1.length co33, .slice Ao34 x183003_1.length co34] 37 (0, 0)) QQ hb) (Ye.below QI75_0 hb) (Y4.trans QK (Y4.of_below hb g none) (.inl rfl)) (Y5 QB hb); clear BK169 BK182 HI0 HK HB HO_183002 HO_183003; obtain ⟨HO193, BK169, BK182, HI0, HK, HB⟩ := n_; clear hb ho36; obtain ⟨Ao37, co37, eo37⟩ := Kd.N_slice HO193.out; subst eo37; obtain ⟨hcz38_0, hcz38_1, hcz38_2, hcz38_3, hfz38_0, hfz38_1, hfz38_2, hfz38_3⟩ := Yt BK182.out))
       go_roundg kj26
       case measure => have := HK1.out; have := HJ26.out; omega
       case rel => exact ⟨(t184), (x1001_26), (t186), (t187), (6), ((⟨#[]⟩ : ByteArray)), (([] : List ByteArray)), (y191), (.slice none 0 0), (.slice Ao37 y191.length co37), H', ⟨by have := HK1.out; have := HJ26.out; omega⟩, ⟨Z7⟩, ⟨by (with_reducible repeat (first | apply Kd.N_alloc | apply Kd.N_drewN | apply Kd.N_drew)); exact Kd.N_mono (Kd.N_far (p := ⟨gb182, 3, none⟩) (Kd.N_far (p := ⟨gb182, 2, none⟩) (Kd.N_far (p := ⟨gb182, 1, none⟩) (Kd.N_far (p := ⟨gb182, 0, none⟩) (Kd.N_mono HO193.out (fun k_ hk => (⟨hk, hk.2.2.1⟩ : _ ∧ k_ ≠ gb182))) (fun _ hk => hk.2) (.int .i64 6)) (fun _ hk => hk.2) (.string (⟨#[]⟩ : ByteArray))) (fun _ hk => hk.2) (.slice none 0 0)) (fun _ hk => hk.2) (.slice Ao37 y191.length co37)) (fun _ hk => ⟨hk.1.1, ⟨Z14, ⟨hk.1.2.1, ⟨hk.1.2.2.1, hk.1.2.2.2⟩⟩⟩⟩)⟩, ⟨Za⟩, ⟨by (with_reducible repeat (first | refine Y9 ?_ _ | refine Y8 ?_ | refine Y7 ?_ _)); exact Yp (cs := #[.int .i64 6, .string (⟨#[]⟩ : ByteArray), .slice none 0 0, .slice Ao34 x183003_1.length co34]) (by (with_reducible repeat (first | refine Y9 ?_ _ | refine Y8 ?_ | refine Y7 ?_ _)); exact Yp (cs := #[.int .i64 6, .string (⟨#[]⟩ : ByteArray), .slice Ao33 x183002_1.length co33, .slice Ao34 x183003_1.length co34]) (by (with_reducible repeat (first | refine Y9 ?_ _ | refine Y8 ?_ | refine Y7 ?_ _)); exact Yp (cs := #[.int .i64 6, .string x183001_1, .slice Ao33 x183002_1.length co33, .slice Ao34 x183003_1.length co34]) (by (with_reducible repeat (first | refine Y9 ?_ _ | refine Y8 ?_ | refine Y7 ?_ _)); exact Yp (cs := #[.int .i64 x183000_1, .string x183001_1, .slice Ao33 x183002_1.length co33, .slice Ao34 x183003_1.length co34]) QQ 0 _ rfl) 1 _ rfl) 2 _ rfl) 3 _ rfl⟩, ⟨QI75_0⟩, ⟨QK⟩, ⟨QB⟩⟩
    ·rw [if_neg c26] at H
     have c26b0 : (t183 == 43) = false := beq_eq_false_iff_ne.mpr c26
     have c26b1 : (t183 != 43) = true := bne_iff_ne.mpr c26
     by_cases c39 : t183 = 63
     ·rw [if_pos c39] at H
      have c39b0 : (t183 == 63) = true := beq_iff_eq.mpr c39
      have c39b1 : (t183 != 63) = false := bne_eq_false_iff_eq.mpr c39
      clear c39
      have HC40 := Y0.mk H
      clear H
      go_upto_region 10 with (first | ((with_reducible refine Yg (f := 53) rfl ?_); refine YG (some 11) rfl rfl Tryd.func53 Z4 rfl #[.pointer (some ⟨g, 0, none⟩)] rfl Z0 ?_; (with_reducible refine (Yc.calls k1 g x1000_1 x1001_1 x1002_1 x1003_1 t183 t184 t185 t186 t187 w0 _ ?side1 ?side2 A12.out).mono ?_); (case side1 => exact Z13); (case side2 => exact QB); rintro e w41 ⟨rfl, hi, hb, hk⟩; refine ⟨_, rfl, ?_⟩; have n0_ := Y0.mk (Kd.R_mono (Kd.R_keep (Ye.apart (show Ye w0 _ g x1000_1 x1001_1 x1002_1 x1003_1 from QI75_0) ZY (by decide)) hk (fun _ h => h.2)) (fun _ h => h.1)); have n1_ := Y0.mk (Kd.N_mono (Kd.N_keep (Kd.N_mono (ok := fun k_ => (((w.heap.size ≤ k_)) ∧ (some k_ ≠ (u183002 : Value).ownBlock ∧ (k_ ≠ gb169 ∧ (k_ ≠ gb182 ∧ k_ ≠ g))))) ZX (fun k_ hk_ => (⟨hk_, hk_.2.2.2.2⟩ : _ ∧ k_ ≠ g))) hk (fun _ h => h.2)) (fun _ h => h.1)); have n2_ := Y0.mk (Y4.blk hk (g' := gb169) (o := .cells #[.int .i64 0, .string (⟨#[]⟩ : ByteArray), .slice none 0 0, .slice none 0 0] 37 (0, 0)) QQ NB169_0.out (by simp)); have n3_ := Y0.mk (Y4.blk hk (g' := gb182) (o := .cells #[.int .i64 x183000_1, .string x183001_1, u183002, u183003] 37 (0, 0)) QQ NB182_0.out (by simp)); have n4_ := Y0.mk (Y4.trans QK hk (.inl rfl)); have n5_ := Y0.mk (hb); have n6_ := Y0.mk (hi); clear HO_183002 HO_183003 BK169 BK182 HK HB HI0; have HO_183002 := n0_; have HO_183003 := n1_; have BK169 := n2_; have BK182 := n3_; have HK := n4_; have HB := n5_; have HI0 := n6_; clear n0_ n1_ n2_ n3_ n4_ n5_ n6_; (try clear hb); (try clear hb2); (try clear hk); (try clear hi)))
      (try simp only [Act.put, List.setIfInBounds_toArray, List.set_cons_zero, List.set_cons_succ])
      go_cut [] (fun wc => ∃ (kq : Nat) (x1001_39 : Int), Y0 (Yd.j3 kq 7 t184 x1001_39 t186 t187 x183000_1 x183001_1 x183002_1 x183003_1 = some (r1, r2, r3, r4, r5, r6, r7, r8)) ∧ Y0 (kq ≤ k1) ∧ Y0 (Kd.R Kd.string 9 wc w.heap.size (fun k_ => (w.heap.size ≤ k_)) u183002 x183002_1) ∧ Y0 (Kd.N k37 37 wc w.heap.size (fun k_ => (w.heap.size ≤ k_) ∧ some k_ ≠ (u183002 : Value).ownBlock ∧ k_ ≠ gb169 ∧ k_ ≠ gb182 ∧ k_ ≠ g) u183003 x183003_1) ∧ Y0 (wc.heap[gb169]? = some (.cells #[.int .i64 0, .string (⟨#[]⟩ : ByteArray), (.slice none 0 0), (.slice none 0 0)] 37 (0, 0))) ∧ Y0 (wc.heap[gb182]? = some (.cells #[.int .i64 x183000_1, .string x183001_1, u183002, u183003] 37 (0, 0))) ∧ Y0 (Ye w0 wc g t184 x1001_39 t186 t187) ∧ Y0 (Y4 w wc g none) ∧ Y0 (Below w0.heap.size w0 wc))
      case first =>
       have H := HC40.out
       clear HC40
       have H' := Y0.mk H
       clear H
       obtain ⟨hcz42_0, hcz42_1, hcz42_2, hcz42_3, hfz42_0, hfz42_1, hfz42_2, hfz42_3⟩ := Yt HI0.out.1
       go_wp2
       go_meet
       case rel => exact Z8
      case rest =>
       clear HC40
       try clear c1
       try clear c2
       try clear p2
       try clear c3
       try clear c4
       try clear c5
       try clear p6
       try clear c7
       try clear c8
       try clear c11
       try clear c12
       try clear c13
       try clear c13b0
       try clear c13b1
       try clear c17
       try clear c18
       try clear c26
       try clear c26b0
       try clear c26b1
       try clear c30
       try clear c31
       try clear c39
       try clear c39b0
       try clear c39b1
       try clear hcz16_0 hcz16_1 hcz16_2 hcz16_3
       try clear hcz19_0 hcz19_1 hcz19_2 hcz19_3
       try clear hcz25_0 hcz25_1 hcz25_2 hcz25_3
       try clear hcz29_0 hcz29_1 hcz29_2 hcz29_3
       try clear hcz32_0 hcz32_1 hcz32_2 hcz32_3
       try clear hcz38_0 hcz38_1 hcz38_2 hcz38_3
       try clear hcz42_0 hcz42_1 hcz42_2 hcz42_3
       try clear hcz9_0 hcz9_1 hcz9_2 hcz9_3
       try clear hfz16_0
       try clear hfz16_1
       try clear hfz16_2
       try clear hfz16_3
       try clear hfz19_0
       try clear hfz19_1
       try clear hfz19_2
       try clear hfz19_3
       try clear hfz25_0
       try clear hfz25_1
       try clear hfz25_2
       try clear hfz25_3
       try clear hfz29_0
       try clear hfz29_1
       try clear hfz29_2
       try clear hfz29_3
       try clear hfz32_0
       try clear hfz32_1
       try clear hfz32_2
       try clear hfz32_3
       try clear hfz38_0
       try clear hfz38_1
       try clear hfz38_2
       try clear hfz38_3
       try clear hfz42_0
       try clear hfz42_1
       try clear hfz42_2
       try clear hfz42_3
       try clear hfz9_0
       try clear hfz9_1
       try clear hfz9_2
       try clear hfz9_3
       try clear p2
       try clear p6
       obtain ⟨kq, x1001_39, HA, HJ39, HO_183002, HO_183003, BK169, BK182, HI0, HK, HB⟩ := hcut
       cases kq with
       | zero => exact absurd HA.out (by simp [Yd.j3])
       | succ kj39 =>
        have H := HA.out
        clear HA
        simp only [Yd.j3] at H
        obtain ⟨y194, hy194⟩ : ∃ y_ : List (S37), y_ = (([(⟨x183000_1, x183001_1, x183002_1, x183003_1⟩ : S37)] : List (S37))) := ⟨_, rfl⟩
        replace H : (Yd.l0 kj39 t184 x1001_39 t186 t187 7 (⟨#[]⟩ : ByteArray) ([] : List ByteArray) y194) = some (r1, r2, r3, r4, r5, r6, r7, r8) := by first | (rw [hy194]; with_reducible exact H) | (have H2_ := (Option.bind_some _ _).symm.trans H; rw [hy194]; with_reducible exact H2_) | (have H2_ := (Option.bind_some _ _).symm.trans H; with_reducible exact H2_) | with_reducible exact H | (rw [hy194]; exact H) | exact H
        have Ny194 := Y0.mk hy194
        clear hy194
        have H' := Y0.mk H
        clear H
        have hnb43 := NB182_169.out
        have hnc43 := NB169_182.out
        have hnb44 := NB182_0.out
        have hnc44 := NB0_182.out
        obtain ⟨hcz45_0, hcz45_1, hcz45_2, hcz45_3, hfz45_0, hfz45_1, hfz45_2, hfz45_3⟩ := Yt BK182.out
        obtain ⟨Ao46, co46, eo46⟩ := Kd.R_slice HO_183002.out
        subst eo46
        obtain ⟨Ao47, co47, eo47⟩ := Kd.N_slice HO_183003.out
        subst eo47
        go_wp2_with (first | ((with_reducible refine Ym (N := 27) rfl ?_); refine Kd.N_lit k37 _ 37 ?hg (N' := 27) ?hd (xs := ([(⟨x183000_1, x183001_1, x183002_1, x183003_1⟩ : S37)] : List (S37))) (inner := [.int .i64 x183000_1, .string x183001_1, .slice Ao46 x183002_1.length co46, .slice Ao47 x183003_1.length co47]) (ok := (fun k_ => (w.heap.size ≤ k_) ∧ k_ ≠ gb169 ∧ k_ ≠ gb182 ∧ k_ ≠ g)) (okp := (fun k_ => (w.heap.size ≤ k_) ∧ k_ ≠ gb169 ∧ k_ ≠ gb182 ∧ k_ ≠ g)) ?hr ?hp (fun _ hk => hk) ((show ∀ k_, wc.heap.size ≤ k_ → (fun k_ => (w.heap.size ≤ k_) ∧ k_ ≠ gb169 ∧ k_ ≠ gb182 ∧ k_ ≠ g) k_ from fun k_ hk => ⟨(Nat.le_trans (Ya (w := w) (g := g) (row := none) QK) hk), Kd.freshB (g := gb169) (o := .cells #[.int .i64 0, .string (⟨#[]⟩ : ByteArray), .slice none 0 0, .slice none 0 0] 37 (0, 0)) QQ k_ hk, Kd.freshB (g := gb182) (o := .cells #[.int .i64 x183000_1, .string x183001_1, .slice Ao46 x183002_1.length co46, .slice Ao47 x183003_1.length co47] 37 (0, 0)) QQ k_ hk, Ye.fresh QI75_0 k_ hk⟩) _ (Nat.le_refl _)) (Below.refl _ _) (Nat.le_refl _) (by simp) ?_; (case hd => rfl); (case hg => rfl); (case hr => exact Z6); (case hp => exact (Y12.c4 (show Kd.FK k37 _ _ (⟨x183000_1, x183001_1, x183002_1, x183003_1⟩ : S37) [.int .i64 x183000_1, .string x183001_1, .slice Ao46 x183002_1.length co46, .slice Ao47 x183003_1.length co47] from (Y1a _ _ (⟨x183000_1, x183001_1, x183002_1, x183003_1⟩ : S37) (Kd.R_reads' (Kd.R_mono (ok' := (fun k_ => (w.heap.size ≤ k_) ∧ k_ ≠ gb169 ∧ k_ ≠ gb182 ∧ k_ ≠ g)) (Ye.apart HI0.out (Kd.R_types (Kd.R_types (HO_183002.out) BK169.out (by decide)) BK182.out (by decide)) (by decide)) (fun k_ hk => ⟨hk.1.1.1, ⟨hk.1.1.2, ⟨hk.1.2, hk.2⟩⟩⟩))).2.1 (Kd.R_F (Kd.R_mono (ok' := (fun k_ => (w.heap.size ≤ k_) ∧ k_ ≠ gb169 ∧ k_ ≠ gb182 ∧ k_ ≠ g)) (Ye.apart HI0.out (Kd.R_types (Kd.R_types (HO_183002.out) BK169.out (by decide)) BK182.out (by decide)) (by decide)) (fun k_ hk => ⟨hk.1.1.1, ⟨hk.1.1.2, ⟨hk.1.2, hk.2⟩⟩⟩))) (Kd.N_reads' (Kd.N_mono (ok' := (fun k_ => (w.heap.size ≤ k_) ∧ k_ ≠ gb169 ∧ k_ ≠ gb182 ∧ k_ ≠ g)) (HO_183003.out) (fun k_ hk => ⟨hk.1, ⟨hk.2.2.1, ⟨hk.2.2.2.1, hk.2.2.2.2⟩⟩⟩))).2.1 (Kd.N_F (Kd.N_mono (ok' := (fun k_ => (w.heap.size ≤ k_) ∧ k_ ≠ gb169 ∧ k_ ≠ gb182 ∧ k_ ≠ g)) (HO_183003.out) (fun k_ hk => ⟨hk.1, ⟨hk.2.2.1, ⟨hk.2.2.2.1, hk.2.2.2.2⟩⟩⟩))))) (Y12.none _ _))); intro v195 w48 ho49 hb hg_ hnew_; clear hg_ hnew_; (first | rw [← Ny194.out] at ho49 | (simp only [Int.reduceToNat] at ho49; rw [← Ny194.out] at ho49)); have n_ := Y2W (Kd.N_lower ho49 (Ya (w := w) (g := g) (row := none) QK)) (Yh (g := gb169) (o := .cells #[.int .i64 0, .string (⟨#[]⟩ : ByteArray), .slice none 0 0, .slice none 0 0] 37 (0, 0)) QQ hb) (Yh (g := gb182) (o := .cells #[.int .i64 x183000_1, .string x183001_1, .slice Ao46 x183002_1.length co46, .slice Ao47 x183003_1.length co47] 37 (0, 0)) QQ hb) (Ye.below QI75_0 hb) (Y4.trans QK (Y4.of_below hb g none) (.inl rfl)) (Y5 QB hb); clear BK169 BK182 HI0 HK HB HO_183002 HO_183003; obtain ⟨HO196, BK169, BK182, HI0, HK, HB⟩ := n_; clear hb ho49; obtain ⟨Ao50, co50, eo50⟩ := Kd.N_slice HO196.out; subst eo50; obtain ⟨hcz51_0, hcz51_1, hcz51_2, hcz51_3, hfz51_0, hfz51_1, hfz51_2, hfz51_3⟩ := Yt BK182.out))
        go_roundg kj39
        case measure => have := HK1.out; have := HJ39.out; omega
        case rel => exact ⟨(t184), (x1001_39), (t186), (t187), (7), ((⟨#[]⟩ : ByteArray)), (([] : List ByteArray)), (y194), (.slice none 0 0), (.slice Ao50 y194.length co50), H', ⟨by have := HK1.out; have := HJ39.out; omega⟩, ⟨Z7⟩, ⟨by (with_reducible repeat (first | apply Kd.N_alloc | apply Kd.N_drewN | apply Kd.N_drew)); exact Kd.N_mono (Kd.N_far (p := ⟨gb182, 3, none⟩) (Kd.N_far (p := ⟨gb182, 2, none⟩) (Kd.N_far (p := ⟨gb182, 1, none⟩) (Kd.N_far (p := ⟨gb182, 0, none⟩) (Kd.N_mono HO196.out (fun k_ hk => (⟨hk, hk.2.2.1⟩ : _ ∧ k_ ≠ gb182))) (fun _ hk => hk.2) (.int .i64 7)) (fun _ hk => hk.2) (.string (⟨#[]⟩ : ByteArray))) (fun _ hk => hk.2) (.slice none 0 0)) (fun _ hk => hk.2) (.slice Ao50 y194.length co50)) (fun _ hk => ⟨hk.1.1, ⟨Z14, ⟨hk.1.2.1, ⟨hk.1.2.2.1, hk.1.2.2.2⟩⟩⟩⟩)⟩, ⟨Za⟩, ⟨by (with_reducible repeat (first | refine Y9 ?_ _ | refine Y8 ?_ | refine Y7 ?_ _)); exact Yp (cs := #[.int .i64 7, .string (⟨#[]⟩ : ByteArray), .slice none 0 0, .slice Ao47 x183003_1.length co47]) (by (with_reducible repeat (first | refine Y9 ?_ _ | refine Y8 ?_ | refine Y7 ?_ _)); exact Yp (cs := #[.int .i64 7, .string (⟨#[]⟩ : ByteArray), .slice Ao46 x183002_1.length co46, .slice Ao47 x183003_1.length co47]) (by (with_reducible repeat (first | refine Y9 ?_ _ | refine Y8 ?_ | refine Y7 ?_ _)); exact Yp (cs := #[.int .i64 7, .string x183001_1, .slice Ao46 x183002_1.length co46, .slice Ao47 x183003_1.length co47]) (by (with_reducible repeat (first | refine Y9 ?_ _ | refine Y8 ?_ | refine Y7 ?_ _)); exact Yp (cs := #[.int .i64 x183000_1, .string x183001_1, .slice Ao46 x183002_1.length co46, .slice Ao47 x183003_1.length co47]) QQ 0 _ rfl) 1 _ rfl) 2 _ rfl) 3 _ rfl⟩, ⟨QI75_0⟩, ⟨QK⟩, ⟨QB⟩⟩
     ·rw [if_neg c39] at H
      have c39b0 : (t183 == 63) = false := beq_eq_false_iff_ne.mpr c39
      have c39b1 : (t183 != 63) = true := bne_iff_ne.mpr c39
      simp only [Option.some.injEq, Prod.mk.injEq] at H
      obtain ⟨rfl, rfl, rfl, rfl, rfl, rfl, rfl, rfl⟩ := H
      go_wp2_with (first | ((with_reducible refine Yg (f := 53) rfl ?_); refine YG (some 11) rfl rfl Tryd.func53 Z4 rfl #[.pointer (some ⟨g, 0, none⟩)] rfl Z0 ?_; (with_reducible refine (Yc.calls k1 g x1000_1 x1001_1 x1002_1 x1003_1 t183 t184 t185 t186 t187 w0 _ ?side1 ?side2 A12.out).mono ?_); (case side1 => exact Z13); (case side2 => exact QB); rintro e w52 ⟨rfl, hi, hb, hk⟩; refine ⟨_, rfl, ?_⟩; have n0_ := Y0.mk (Kd.R_mono (Kd.R_keep (Ye.apart (show Ye w0 _ g x1000_1 x1001_1 x1002_1 x1003_1 from QI75_0) ZY (by decide)) hk (fun _ h => h.2)) (fun _ h => h.1)); have n1_ := Y0.mk (Kd.N_mono (Kd.N_keep (Kd.N_mono (ok := fun k_ => (((w.heap.size ≤ k_)) ∧ (some k_ ≠ (u183002 : Value).ownBlock ∧ (k_ ≠ gb169 ∧ (k_ ≠ gb182 ∧ k_ ≠ g))))) ZX (fun k_ hk_ => (⟨hk_, hk_.2.2.2.2⟩ : _ ∧ k_ ≠ g))) hk (fun _ h => h.2)) (fun _ h => h.1)); have n2_ := Y0.mk (Y4.blk hk (g' := gb169) (o := .cells #[.int .i64 0, .string (⟨#[]⟩ : ByteArray), .slice none 0 0, .slice none 0 0] 37 (0, 0)) QQ NB169_0.out (by simp)); have n3_ := Y0.mk (Y4.blk hk (g' := gb182) (o := .cells #[.int .i64 x183000_1, .string x183001_1, u183002, u183003] 37 (0, 0)) QQ NB182_0.out (by simp)); have n4_ := Y0.mk (Y4.trans QK hk (.inl rfl)); have n5_ := Y0.mk (hb); have n6_ := Y0.mk (hi); clear HO_183002 HO_183003 BK169 BK182 HK HB HI0; have HO_183002 := n0_; have HO_183003 := n1_; have BK169 := n2_; have BK182 := n3_; have HK := n4_; have HB := n5_; have HI0 := n6_; clear n0_ n1_ n2_ n3_ n4_ n5_ n6_; (try clear hb); (try clear hb2); (try clear hk); (try clear hi); have hnb53 := NB182_169.out; have hnc53 := NB169_182.out; have hnb54 := NB182_0.out; have hnc54 := NB0_182.out; obtain ⟨hcz55_0, hcz55_1, hcz55_2, hcz55_3, hfz55_0, hfz55_1, hfz55_2, hfz55_3⟩ := Yt BK182.out; have hnb56 := NB169_0.out; have hnc56 := NB0_169.out; obtain ⟨hcz57_0, hcz57_1, hcz57_2, hcz57_3, hfz57_0, hfz57_1, hfz57_2, hfz57_3⟩ := Yt BK169.out; obtain ⟨Ao58, co58, eo58⟩ := Kd.R_slice HO_183002.out; subst eo58; obtain ⟨Ao59, co59, eo59⟩ := Kd.N_slice HO_183003.out; subst eo59))
      (try rw [Exit.noGoto_ret])
      refine bodyPost_ret (results_cell_row rfl _ _ gb169 37 #[.int .i64 x183000_1, .string x183001_1, .slice Ao58 x183002_1.length co58, .slice Ao59 x183003_1.length co59] (0, 0) _ rfl (by (with_reducible repeat (first | refine Y9 ?_ _ | refine Y8 ?_ | refine Y7 ?_ _)); exact Yp (cs := #[.int .i64 x183000_1, .string x183001_1, .slice Ao58 x183002_1.length co58, .slice none 0 0]) (by (with_reducible repeat (first | refine Y9 ?_ _ | refine Y8 ?_ | refine Y7 ?_ _)); exact Yp (cs := #[.int .i64 x183000_1, .string x183001_1, .slice none 0 0, .slice none 0 0]) (by (with_reducible repeat (first | refine Y9 ?_ _ | refine Y8 ?_ | refine Y7 ?_ _)); exact Yp (cs := #[.int .i64 x183000_1, .string (⟨#[]⟩ : ByteArray), .slice none 0 0, .slice none 0 0]) Z1 1 _ rfl) 2 _ rfl) 3 _ rfl) Tryd.underlying37 rfl Z4) rfl ?_
      exact ⟨_, _, Z2, by (with_reducible repeat (first | apply Kd.R_alloc | apply Kd.R_drewN | apply Kd.R_drew)); exact Kd.R_mono (Kd.R_far (p := ⟨gb169, 3, none⟩) (Kd.R_far (p := ⟨gb169, 2, none⟩) (Kd.R_far (p := ⟨gb169, 1, none⟩) (Kd.R_far (p := ⟨gb169, 0, none⟩) (Kd.R_types HO_183002.out BK169.out (by decide)) (fun _ hk => hk.2) (.int .i64 x183000_1)) (fun _ hk => hk.2) (.string x183001_1)) (fun _ hk => hk.2) (.slice Ao58 x183002_1.length co58)) (fun _ hk => hk.2) (.slice Ao59 x183003_1.length co59)) (fun _ hk => hk.1), by (with_reducible repeat (first | apply Kd.N_alloc | apply Kd.N_drewN | apply Kd.N_drew)); exact Kd.N_mono (Kd.N_far (p := ⟨gb169, 3, none⟩) (Kd.N_far (p := ⟨gb169, 2, none⟩) (Kd.N_far (p := ⟨gb169, 1, none⟩) (Kd.N_far (p := ⟨gb169, 0, none⟩) (Kd.N_mono HO_183003.out (fun k_ hk => (⟨hk, hk.2.2.1⟩ : _ ∧ k_ ≠ gb169))) (fun _ hk => hk.2) (.int .i64 x183000_1)) (fun _ hk => hk.2) (.string x183001_1)) (fun _ hk => hk.2) (.slice Ao58 x183002_1.length co58)) (fun _ hk => hk.2) (.slice Ao59 x183003_1.length co59)) (fun _ hk => ⟨hk.1.1, hk.1.2.1⟩), QI75_0, QB, QK⟩
set_option maxHeartbeats 8000000 in
set_option maxRecDepth 100000 in
theorem Yv.Y2w (k : Nat) (ih : ∀ j_ < k, Yi.Spec j_ ∧ Yo.Spec j_ ∧ Yd.Spec j_ ∧ Yv.Spec j_ ∧ Yy.Spec j_) : ∀ (g : Nat) (s0_0 : ByteArray) (s0_1 : Int) (s0_2 : Int) (s0_3 : Int) (a1 : Int) (r1 : Int) (r2 : ByteArray) (r3 : List ByteArray) (r4 : List (S37)) (r5 : ByteArray) (r6 : Int) (r7 : Int) (r8 : Int) (w0 w : World) (hI : Ye w0 w g s0_0 s0_1 s0_2 s0_3) (hB : Below w0.heap.size w0 w) (hT : Tabs w0) (h : Yv.f k s0_0 s0_1 s0_2 s0_3 a1 = some (r1, r2, r3, r4, r5, r6, r7, r8)),
  Calls Tryd.prog 123 #[.pointer (some ⟨g, 0, none⟩), .int .i64 a1] w fun e w' => ∃ v2_ v3_ : Value, e = .returned (.agg #[.int .i64 r1, .string r2, v2_, v3_]) ∧ Kd.R Kd.string 9 w' w.heap.size (fun k_ => (w.heap.size ≤ k_)) v2_ r3 ∧ Kd.N k37 37 w' w.heap.size (fun k_ => (w.heap.size ≤ k_) ∧ some k_ ≠ (v2_ : Value).ownBlock) v3_ r4 ∧ Ye w0 w' g r5 r6 r7 r8 ∧ Below w0.heap.size w0 w' ∧ Y4 w w' g none := by
 intro g s0_0 s0_1 s0_2 s0_3 a1 r1 r2 r3 r4 r5 r6 r7 r8 w0 w hI hB hT h
 cases k with
 | zero => exact absurd h (by simp [Yv.f])
 | succ k =>
 simp only [Yv.f] at h
 have HT := Y0.mk hT
 clear hT
 have hu37 := Tryd.underlying37
 have HI0 := Y0.mk hI
 have HK := Y0.mk (Y4.refl w g none)
 have HL := Y0.mk hB.size
 clear hI
 have HW0 := Y0.mk hB.size
 have HB := Y0.mk hB
 clear hB
 have H : ((Yc.f k s0_0 s0_1 s0_2 s0_3).bind fun bt198 => (if bt198.1 = 94 then (if a1 ≥ 5 then ((Yb.f bt198.2.1 bt198.2.2.1 bt198.2.2.2.1 bt198.2.2.2.2 bt198.2.2.1 3).bind fun bt215 => (some (bt215.1, bt215.2.1, bt215.2.2.1, bt215.2.2.2.1, bt215.2.2.2.2.1, bt215.2.2.2.2.2.1, bt215.2.2.2.2.2.2.1, bt215.2.2.2.2.2.2.2))) else ((Yv.f k bt198.2.1 (wrap64 (bt198.2.2.1 + 1)) bt198.2.2.2.1 bt198.2.2.2.2 (wrap64 (a1 + 1))).bind fun bt227 => (some (2, (⟨#[]⟩ : ByteArray), ([] : List ByteArray), (([(⟨bt227.1, bt227.2.1, bt227.2.2.1, bt227.2.2.2.1⟩ : S37)] : List (S37))), bt227.2.2.2.2.1, bt227.2.2.2.2.2.1, bt227.2.2.2.2.2.2.1, bt227.2.2.2.2.2.2.2)))) else ((Yy.f k bt198.2.1 bt198.2.2.1 bt198.2.2.2.1 bt198.2.2.2.2 a1).bind fun bt203 => (some (bt203.1, bt203.2.1, bt203.2.2.1, bt203.2.2.2.1, bt203.2.2.2.2.1, bt203.2.2.2.2.2.1, bt203.2.2.2.2.2.2.1, bt203.2.2.2.2.2.2.2))))) = some (r1, r2, r3, r4, r5, r6, r7, r8) := h
 clear h
 replace H := Option.bind_eq_some_iff.mp H
 obtain ⟨⟨t198, t199, t200, t201, t202⟩, A30, H⟩ := H
 replace H : (if t198 = 94 then (if a1 ≥ 5 then ((Yb.f t199 t200 t201 t202 t200 3).bind fun bt215 => (some (bt215.1, bt215.2.1, bt215.2.2.1, bt215.2.2.2.1, bt215.2.2.2.2.1, bt215.2.2.2.2.2.1, bt215.2.2.2.2.2.2.1, bt215.2.2.2.2.2.2.2))) else ((Yv.f k t199 (wrap64 (t200 + 1)) t201 t202 (wrap64 (a1 + 1))).bind fun bt227 => (some (2, (⟨#[]⟩ : ByteArray), ([] : List ByteArray), (([(⟨bt227.1, bt227.2.1, bt227.2.2.1, bt227.2.2.2.1⟩ : S37)] : List (S37))), bt227.2.2.2.2.1, bt227.2.2.2.2.2.1, bt227.2.2.2.2.2.2.1, bt227.2.2.2.2.2.2.2)))) else ((Yy.f k t199 t200 t201 t202 a1).bind fun bt203 => (some (bt203.1, bt203.2.1, bt203.2.2.1, bt203.2.2.2.1, bt203.2.2.2.2.1, bt203.2.2.2.2.2.1, bt203.2.2.2.2.2.2.1, bt203.2.2.2.2.2.2.2)))) = some (r1, r2, r3, r4, r5, r6, r7, r8) := H
 have A3 := Y0.mk A30
 clear A30
 by_cases c4 : t198 = 94
 ·rw [if_pos c4] at H
  have c4b0 : (t198 == 94) = true := beq_iff_eq.mpr c4
  have c4b1 : (t198 != 94) = false := bne_eq_false_iff_eq.mpr c4
  clear c4
  by_cases c5 : a1 ≥ 5
  ·rw [if_pos c5] at H
   have c5b0 : decide (5 ≤ a1) = true := decide_eq_true c5
   clear c5
   replace H := Option.bind_eq_some_iff.mp H
   obtain ⟨⟨t215, t216, t217, t220, t223, t224, t225, t226⟩, A60, H⟩ := H
   replace H : (some (t215, t216, t217, t220, t223, t224, t225, t226)) = some (r1, r2, r3, r4, r5, r6, r7, r8) := H
   have A6 := Y0.mk A60
   clear A60
   simp only [Option.some.injEq, Prod.mk.injEq] at H
   obtain ⟨rfl, rfl, rfl, rfl, rfl, rfl, rfl, rfl⟩ := H
   go_enter Tryd.func123, Tryd.ntmps123
   go_wp2_with (first | ((with_reducible refine Ym (N := 4) rfl ?_); refine Yl ?hg (N := 4) ?hd (cs := #[.int .i64 0, .string (⟨#[]⟩ : ByteArray), .slice none 0 0, .slice none 0 0]) (t := 37) ?hr ?_; (case hd => rfl); (case hg => rfl); (case hr => exact Z6); intro gb197 hg w7 hbox hb; have n_ := Y3q (Ye.below QI75_0 hb) (Y4.trans QK (Y4.of_below hb g none) (.inl rfl)) (Y5 QB hb) (hbox) ((by rw [hg]; exact (Ya (w := w) (g := g) (row := none) QK) : w.heap.size ≤ gb197)) ((Nat.le_trans HW0.out (by rw [hg]; exact (Ya (w := w) (g := g) (row := none) QK) : w.heap.size ≤ gb197) : w0.heap.size ≤ gb197)) ((by rw [hg]; exact Nat.ne_of_lt (Ye.lt (show Ye w0 _ g s0_0 s0_1 s0_2 s0_3 from QI75_0)) : g ≠ gb197)) ((by rw [hg]; exact Nat.ne_of_gt (Ye.lt (show Ye w0 _ g s0_0 s0_1 s0_2 s0_3 from QI75_0)) : gb197 ≠ g)); clear HI0 HK HB; obtain ⟨HI0, HK, HB, BK197, GW197, GE197, NB0_197, NB197_0⟩ := n_; clear hb hbox hg) | ((with_reducible refine Yg (f := 53) rfl ?_); refine YG (some 6) rfl rfl Tryd.func53 Z4 rfl #[.pointer (some ⟨g, 0, none⟩)] rfl Z0 ?_; (with_reducible refine (Yc.calls k g s0_0 s0_1 s0_2 s0_3 t198 t199 t200 t201 t202 w0 _ ?side1 ?side2 A3.out).mono ?_); (case side1 => exact Z13); (case side2 => exact QB); rintro e w8 ⟨rfl, hi, hb, hk⟩; refine ⟨_, rfl, ?_⟩; have n_ := Y1T (Y4.blk hk (g' := gb197) (o := .cells #[.int .i64 0, .string (⟨#[]⟩ : ByteArray), .slice none 0 0, .slice none 0 0] 37 (0, 0)) QQ NB197_0.out (by simp)) (Y4.trans QK hk (.inl rfl)) (hb) (hi); clear BK197 HK HB HI0; obtain ⟨BK197, HK, HB, HI0⟩ := n_; (try clear hb); (try clear hb2); (try clear hk); (try clear hi); obtain ⟨HGz9, hgz9⟩ := HI0.out; have hcz9_0 := YA HGz9; have hcz9_1 := YB HGz9; have hcz9_2 := YC HGz9; have hcz9_3 := YD HGz9; have hfz9_0 := Y3 HGz9 0; have hfz9_1 := Y3 HGz9 1; have hfz9_2 := Y3 HGz9 2; have hfz9_3 := Y3 HGz9 3; clear HGz9 hgz9) | ((with_reducible refine Yg (f := 54) rfl ?_); refine YG (some 18) rfl rfl Tryd.func54 Z4 rfl #[.pointer (some ⟨g, 0, none⟩), .int .i64 t200, .int .i64 3] rfl Z0 ?_; (with_reducible refine (Yb.calls g t199 t200 t201 t202 t200 3 t215 t216 t217 t220 t223 t224 t225 t226 w0 _ ?side1 ?side2 A6.out).mono ?_); (case side1 => exact Z13); (case side2 => exact QB); rintro e w10 ⟨v218, v221, rfl, ho0, ho1, hi, hb, hk⟩; refine ⟨_, rfl, ?_⟩; have n0_ := Y0.mk (Y4.blk hk (g' := gb197) (o := .cells #[.int .i64 0, .string (⟨#[]⟩ : ByteArray), .slice none 0 0, .slice none 0 0] 37 (0, 0)) QQ NB197_0.out (by simp)); have n1_ := Y0.mk (Kd.R_lower (Kd.R_newM (M := fun k_ => (w.heap.size ≤ k_)) (Kd.R_mono (ok' := fun k_ => True) ho0 (fun _ hk_ => trivial)) (Ya (w := w) (g := g) (row := none) QK) (fun k_ h_ => h_)) (Ya (w := w) (g := g) (row := none) QK)); have n2_ := Y0.mk (Kd.N_lower (Kd.N_mono (ok' := fun k_ => (w.heap.size ≤ k_) ∧ some k_ ≠ (v218 : Value).ownBlock ∧ k_ ≠ gb197 ∧ k_ ≠ g) ho1 (fun k_ hk_ => ⟨(Nat.le_trans (Ya (w := w) (g := g) (row := none) QK) hk_.1), hk_.2, (Kd.freshB (g := gb197) (o := .cells #[.int .i64 0, .string (⟨#[]⟩ : ByteArray), .slice none 0 0, .slice none 0 0] 37 (0, 0)) QQ k_ hk_.1), (Ye.fresh QI75_0 k_ hk_.1)⟩)) (Ya (w := w) (g := g) (row := none) QK)); have n3_ := Y0.mk (Y4.trans QK hk (.inl rfl)); have n4_ := Y0.mk (hb); have n5_ := Y0.mk (hi); clear BK197 HK HB HI0; have BK197 := n0_; have HO219 := n1_; have HO222 := n2_; have HK := n3_; have HB := n4_; have HI0 := n5_; clear n0_ n1_ n2_ n3_ n4_ n5_; (try clear hb); (try clear hb2); (try clear hk); (try clear hi); (try clear ho0); (try clear ho1); have hnb11 := NB197_0.out; have hnc11 := NB0_197.out; obtain ⟨hcz12_0, hcz12_1, hcz12_2, hcz12_3, hfz12_0, hfz12_1, hfz12_2, hfz12_3⟩ := Yt BK197.out; obtain ⟨Ao13, co13, eo13⟩ := Kd.R_slice HO219.out; subst eo13; obtain ⟨Ao14, co14, eo14⟩ := Kd.N_slice HO222.out; subst eo14))
   refine bodyPost_ret (results_cell_row rfl _ _ gb197 37 #[.int .i64 t215, .string t216, .slice Ao13 t217.length co13, .slice Ao14 t220.length co14] (0, 0) _ rfl (by (with_reducible repeat (first | refine Y9 ?_ _ | refine Y8 ?_ | refine Y7 ?_ _)); exact Yp (cs := #[.int .i64 t215, .string t216, .slice Ao13 t217.length co13, .slice none 0 0]) (by (with_reducible repeat (first | refine Y9 ?_ _ | refine Y8 ?_ | refine Y7 ?_ _)); exact Yp (cs := #[.int .i64 t215, .string t216, .slice none 0 0, .slice none 0 0]) (by (with_reducible repeat (first | refine Y9 ?_ _ | refine Y8 ?_ | refine Y7 ?_ _)); exact Yp (cs := #[.int .i64 t215, .string (⟨#[]⟩ : ByteArray), .slice none 0 0, .slice none 0 0]) Z1 1 _ rfl) 2 _ rfl) 3 _ rfl) Tryd.underlying37 rfl Z4) rfl ?_
   exact ⟨_, _, Z2, by (with_reducible repeat (first | apply Kd.R_alloc | apply Kd.R_drewN | apply Kd.R_drew)); exact Kd.R_mono (Kd.R_far (p := ⟨gb197, 3, none⟩) (Kd.R_far (p := ⟨gb197, 2, none⟩) (Kd.R_far (p := ⟨gb197, 1, none⟩) (Kd.R_far (p := ⟨gb197, 0, none⟩) (Kd.R_types HO219.out BK197.out (by decide)) (fun _ hk => hk.2) (.int .i64 t215)) (fun _ hk => hk.2) (.string t216)) (fun _ hk => hk.2) (.slice Ao13 t217.length co13)) (fun _ hk => hk.2) (.slice Ao14 t220.length co14)) (fun _ hk => hk.1.1), by (with_reducible repeat (first | apply Kd.N_alloc | apply Kd.N_drewN | apply Kd.N_drew)); exact Kd.N_mono (Kd.N_far (p := ⟨gb197, 3, none⟩) (Kd.N_far (p := ⟨gb197, 2, none⟩) (Kd.N_far (p := ⟨gb197, 1, none⟩) (Kd.N_far (p := ⟨gb197, 0, none⟩) (Kd.N_mono HO222.out (fun k_ hk => (⟨hk, hk.2.2.1⟩ : _ ∧ k_ ≠ gb197))) (fun _ hk => hk.2) (.int .i64 t215)) (fun _ hk => hk.2) (.string t216)) (fun _ hk => hk.2) (.slice Ao13 t217.length co13)) (fun _ hk => hk.2) (.slice Ao14 t220.length co14)) (fun _ hk => ⟨hk.1.1, hk.1.2.1⟩), QI75_0, QB, QK⟩
  ·rw [if_neg c5] at H
   have c5b0 : decide (5 ≤ a1) = false := decide_eq_false c5
   clear c5
   replace H := Option.bind_eq_some_iff.mp H
   obtain ⟨⟨t227, t228, t229, t232, t235, t236, t237, t238⟩, A150, H⟩ := H
   replace H : (some (2, (⟨#[]⟩ : ByteArray), ([] : List ByteArray), (([(⟨t227, t228, t229, t232⟩ : S37)] : List (S37))), t235, t236, t237, t238)) = some (r1, r2, r3, r4, r5, r6, r7, r8) := H
   have A15 := Y0.mk A150
   clear A150
   obtain ⟨y239, hy239⟩ : ∃ y_ : List (S37), y_ = (([(⟨t227, t228, t229, t232⟩ : S37)] : List (S37))) := ⟨_, rfl⟩
   replace H : (some (2, (⟨#[]⟩ : ByteArray), ([] : List ByteArray), y239, t235, t236, t237, t238)) = some (r1, r2, r3, r4, r5, r6, r7, r8) := by first | (rw [hy239]; with_reducible exact H) | (have H2_ := (Option.bind_some _ _).symm.trans H; rw [hy239]; with_reducible exact H2_) | (have H2_ := (Option.bind_some _ _).symm.trans H; with_reducible exact H2_) | with_reducible exact H | (rw [hy239]; exact H) | exact H
   have Ny239 := Y0.mk hy239
   clear hy239
   simp only [Option.some.injEq, Prod.mk.injEq] at H
   obtain ⟨rfl, rfl, rfl, rfl, rfl, rfl, rfl, rfl⟩ := H
   go_enter Tryd.func123, Tryd.ntmps123
   go_wp2_with (first | ((with_reducible refine Ym (N := 4) rfl ?_); refine Yl ?hg (N := 4) ?hd (cs := #[.int .i64 0, .string (⟨#[]⟩ : ByteArray), .slice none 0 0, .slice none 0 0]) (t := 37) ?hr ?_; (case hd => rfl); (case hg => rfl); (case hr => exact Z6); intro gb197 hg w16 hbox hb; have n_ := Y3q (Ye.below QI75_0 hb) (Y4.trans QK (Y4.of_below hb g none) (.inl rfl)) (Y5 QB hb) (hbox) ((by rw [hg]; exact (Ya (w := w) (g := g) (row := none) QK) : w.heap.size ≤ gb197)) ((Nat.le_trans HW0.out (by rw [hg]; exact (Ya (w := w) (g := g) (row := none) QK) : w.heap.size ≤ gb197) : w0.heap.size ≤ gb197)) ((by rw [hg]; exact Nat.ne_of_lt (Ye.lt (show Ye w0 _ g s0_0 s0_1 s0_2 s0_3 from QI75_0)) : g ≠ gb197)) ((by rw [hg]; exact Nat.ne_of_gt (Ye.lt (show Ye w0 _ g s0_0 s0_1 s0_2 s0_3 from QI75_0)) : gb197 ≠ g)); clear HI0 HK HB; obtain ⟨HI0, HK, HB, BK197, GW197, GE197, NB0_197, NB197_0⟩ := n_; clear hb hbox hg) | ((with_reducible refine Yg (f := 53) rfl ?_); refine YG (some 6) rfl rfl Tryd.func53 Z4 rfl #[.pointer (some ⟨g, 0, none⟩)] rfl Z0 ?_; (with_reducible refine (Yc.calls k g s0_0 s0_1 s0_2 s0_3 t198 t199 t200 t201 t202 w0 _ ?side1 ?side2 A3.out).mono ?_); (case side1 => exact Z13); (case side2 => exact QB); rintro e w17 ⟨rfl, hi, hb, hk⟩; refine ⟨_, rfl, ?_⟩; have n_ := Y1T (Y4.blk hk (g' := gb197) (o := .cells #[.int .i64 0, .string (⟨#[]⟩ : ByteArray), .slice none 0 0, .slice none 0 0] 37 (0, 0)) QQ NB197_0.out (by simp)) (Y4.trans QK hk (.inl rfl)) (hb) (hi); clear BK197 HK HB HI0; obtain ⟨BK197, HK, HB, HI0⟩ := n_; (try clear hb); (try clear hb2); (try clear hk); (try clear hi); obtain ⟨HGz18, hgz18⟩ := HI0.out; have hcz18_0 := YA HGz18; have hcz18_1 := YB HGz18; have hcz18_2 := YC HGz18; have hcz18_3 := YD HGz18; have hfz18_0 := Y3 HGz18 0; have hfz18_1 := Y3 HGz18 1; have hfz18_2 := Y3 HGz18 2; have hfz18_3 := Y3 HGz18 3; clear HGz18 hgz18) | ((with_reducible refine Yg (f := 123) rfl ?_); refine YG (some 29) rfl rfl Tryd.func123 Z4 rfl #[.pointer (some ⟨g, 0, none⟩), .int .i64 (wrap64 (a1 + 1))] rfl Z0 ?_; (with_reducible refine ((ih k (by omega)).2.2.2.1 g t199 (wrap64 (t200 + 1)) t201 t202 (wrap64 (a1 + 1)) t227 t228 t229 t232 t235 t236 t237 t238 w0 _ ?side1 ?side2 ?side3 A15.out).mono ?_); (case side1 => exact Z13); (case side2 => exact QB); (case side3 => exact HT.out); rintro e w19 ⟨v230, v233, rfl, ho0, ho1, hi, hb, hk⟩; refine ⟨_, rfl, ?_⟩; have n0_ := Y0.mk (Y4.blk hk (g' := gb197) (o := .cells #[.int .i64 0, .string (⟨#[]⟩ : ByteArray), .slice none 0 0, .slice none 0 0] 37 (0, 0)) Z1c NB197_0.out (by simp)); have n1_ := Y0.mk (Kd.R_lower (Kd.R_newM (M := fun k_ => (w.heap.size ≤ k_)) (Kd.R_mono (ok' := fun k_ => True) ho0 (fun _ hk_ => trivial)) (Ya (w := w) (g := g) (row := none) QK) (fun k_ h_ => h_)) (Ya (w := w) (g := g) (row := none) QK)); have n2_ := Y0.mk (Kd.N_lower (Kd.N_mono (ok' := fun k_ => (w.heap.size ≤ k_) ∧ some k_ ≠ (v230 : Value).ownBlock ∧ k_ ≠ gb197 ∧ k_ ≠ g) ho1 (fun k_ hk_ => ⟨(Nat.le_trans (Ya (w := w) (g := g) (row := none) QK) hk_.1), hk_.2, (Kd.freshB (g := gb197) (o := .cells #[.int .i64 0, .string (⟨#[]⟩ : ByteArray), .slice none 0 0, .slice none 0 0] 37 (0, 0)) Z1c k_ hk_.1), (Ye.fresh QI75_0 k_ hk_.1)⟩)) (Ya (w := w) (g := g) (row := none) QK)); have n3_ := Y0.mk (Y4.trans QK hk (.inl rfl)); have n4_ := Y0.mk (hb); have n5_ := Y0.mk (hi); clear BK197 HK HB HI0; have BK197 := n0_; have HO231 := n1_; have HO234 := n2_; have HK := n3_; have HB := n4_; have HI0 := n5_; clear n0_ n1_ n2_ n3_ n4_ n5_; (try clear hb); (try clear hb2); (try clear hk); (try clear hi); (try clear ho0); (try clear ho1); obtain ⟨Ao20, co20, eo20⟩ := Kd.R_slice HO231.out; subst eo20; obtain ⟨Ao21, co21, eo21⟩ := Kd.N_slice HO234.out; subst eo21) | ((with_reducible refine Ym (N := 30) rfl ?_); refine Kd.N_lit k37 _ 37 ?hg (N' := 30) ?hd (xs := ([(⟨t227, t228, t229, t232⟩ : S37)] : List (S37))) (inner := [.int .i64 t227, .string t228, .slice Ao20 t229.length co20, .slice Ao21 t232.length co21]) (ok := (fun k_ => (w.heap.size ≤ k_) ∧ k_ ≠ gb197 ∧ k_ ≠ g)) (okp := (fun k_ => (w.heap.size ≤ k_) ∧ k_ ≠ gb197 ∧ k_ ≠ g)) ?hr ?hp (fun _ hk => hk) ((show ∀ k_, w19.heap.size ≤ k_ → (fun k_ => (w.heap.size ≤ k_) ∧ k_ ≠ gb197 ∧ k_ ≠ g) k_ from fun k_ hk => ⟨(Nat.le_trans (Ya (w := w) (g := g) (row := none) QK) hk), Kd.freshB (g := gb197) (o := .cells #[.int .i64 0, .string (⟨#[]⟩ : ByteArray), .slice none 0 0, .slice none 0 0] 37 (0, 0)) QQ k_ hk, Ye.fresh QI75_0 k_ hk⟩) _ (Nat.le_refl _)) (Below.refl _ _) (Nat.le_refl _) (by simp) ?_; (case hd => rfl); (case hg => rfl); (case hr => exact Z6); (case hp => exact (Y12.c4 (show Kd.FK k37 _ _ (⟨t227, t228, t229, t232⟩ : S37) [.int .i64 t227, .string t228, .slice Ao20 t229.length co20, .slice Ao21 t232.length co21] from (Y1a _ _ (⟨t227, t228, t229, t232⟩ : S37) (Kd.R_reads' (Kd.R_mono (ok' := (fun k_ => (w.heap.size ≤ k_) ∧ k_ ≠ gb197 ∧ k_ ≠ g)) (Ye.apart HI0.out (Kd.R_types (HO231.out) BK197.out (by decide)) (by decide)) (fun k_ hk => ⟨hk.1.1.1, ⟨hk.1.2, hk.2⟩⟩))).2.1 (Kd.R_F (Kd.R_mono (ok' := (fun k_ => (w.heap.size ≤ k_) ∧ k_ ≠ gb197 ∧ k_ ≠ g)) (Ye.apart HI0.out (Kd.R_types (HO231.out) BK197.out (by decide)) (by decide)) (fun k_ hk => ⟨hk.1.1.1, ⟨hk.1.2, hk.2⟩⟩))) (Kd.N_reads' (Kd.N_mono (ok' := (fun k_ => (w.heap.size ≤ k_) ∧ k_ ≠ gb197 ∧ k_ ≠ g)) (HO234.out) (fun k_ hk => ⟨hk.1, ⟨hk.2.2.1, hk.2.2.2⟩⟩))).2.1 (Kd.N_F (Kd.N_mono (ok' := (fun k_ => (w.heap.size ≤ k_) ∧ k_ ≠ gb197 ∧ k_ ≠ g)) (HO234.out) (fun k_ hk => ⟨hk.1, ⟨hk.2.2.1, hk.2.2.2⟩⟩))))) (Y12.none _ _))); intro v240 w22 ho23 hb hg_ hnew_; clear hg_ hnew_; (first | rw [← Ny239.out] at ho23 | (simp only [Int.reduceToNat] at ho23; rw [← Ny239.out] at ho23)); have n_ := Y3A (Kd.N_lower ho23 (Ya (w := w) (g := g) (row := none) QK)) (Ye.below QI75_0 hb) (Yh (g := gb197) (o := .cells #[.int .i64 0, .string (⟨#[]⟩ : ByteArray), .slice none 0 0, .slice none 0 0] 37 (0, 0)) QQ hb) (Y4.trans QK (Y4.of_below hb g none) (.inl rfl)) (Y5 QB hb); clear HI0 BK197 HK HB HO231 HO234; obtain ⟨HO241, HI0, BK197, HK, HB⟩ := n_; clear hb ho23; obtain ⟨Ao24, co24, eo24⟩ := Kd.N_slice HO241.out; subst eo24; have hnb25 := NB197_0.out; have hnc25 := NB0_197.out; obtain ⟨hcz26_0, hcz26_1, hcz26_2, hcz26_3, hfz26_0, hfz26_1, hfz26_2, hfz26_3⟩ := Yt BK197.out))
   refine bodyPost_ret (results_cell_row rfl _ _ gb197 37 #[.int .i64 2, .string (⟨#[]⟩ : ByteArray), .slice none 0 0, .slice Ao24 y239.length co24] (0, 0) _ rfl (by (with_reducible repeat (first | refine Y9 ?_ _ | refine Y8 ?_ | refine Y7 ?_ _)); exact Yp (cs := #[.int .i64 2, .string (⟨#[]⟩ : ByteArray), .slice none 0 0, .slice none 0 0]) (by (with_reducible repeat (first | refine Y9 ?_ _ | refine Y8 ?_ | refine Y7 ?_ _)); exact Yp (cs := #[.int .i64 2, .string (⟨#[]⟩ : ByteArray), .slice none 0 0, .slice none 0 0]) (by (with_reducible repeat (first | refine Y9 ?_ _ | refine Y8 ?_ | refine Y7 ?_ _)); exact Yp (cs := #[.int .i64 2, .string (⟨#[]⟩ : ByteArray), .slice none 0 0, .slice none 0 0]) Z1 1 _ rfl) 2 _ rfl) 3 _ rfl) Tryd.underlying37 rfl Z4) rfl ?_
   exact ⟨_, _, Z2, Z7, by (with_reducible repeat (first | apply Kd.N_alloc | apply Kd.N_drewN | apply Kd.N_drew)); exact Kd.N_mono (Kd.N_far (p := ⟨gb197, 3, none⟩) (Kd.N_far (p := ⟨gb197, 2, none⟩) (Kd.N_far (p := ⟨gb197, 1, none⟩) (Kd.N_far (p := ⟨gb197, 0, none⟩) (Kd.N_mono HO241.out (fun k_ hk => (⟨hk, hk.2.1⟩ : _ ∧ k_ ≠ gb197))) (fun _ hk => hk.2) (.int .i64 2)) (fun _ hk => hk.2) (.string (⟨#[]⟩ : ByteArray))) (fun _ hk => hk.2) (.slice none 0 0)) (fun _ hk => hk.2) (.slice Ao24 y239.length co24)) (fun _ hk => ⟨hk.1.1, Z14⟩), QI75_0, QB, QK⟩
 ·rw [if_neg c4] at H
  have c4b0 : (t198 == 94) = false := beq_eq_false_iff_ne.mpr c4
  have c4b1 : (t198 != 94) = true := bne_iff_ne.mpr c4
  replace H := Option.bind_eq_some_iff.mp H
  obtain ⟨⟨t203, t204, t205, t208, t211, t212, t213, t214⟩, A270, H⟩ := H
  replace H : (some (t203, t204, t205, t208, t211, t212, t213, t214)) = some (r1, r2, r3, r4, r5, r6, r7, r8) := H
  have A27 := Y0.mk A270
  clear A270
  simp only [Option.some.injEq, Prod.mk.injEq] at H
  obtain ⟨rfl, rfl, rfl, rfl, rfl, rfl, rfl, rfl⟩ := H
  go_enter Tryd.func123, Tryd.ntmps123
  go_wp2_with (first | ((with_reducible refine Ym (N := 4) rfl ?_); refine Yl ?hg (N := 4) ?hd (cs := #[.int .i64 0, .string (⟨#[]⟩ : ByteArray), .slice none 0 0, .slice none 0 0]) (t := 37) ?hr ?_; (case hd => rfl); (case hg => rfl); (case hr => exact Z6); intro gb197 hg w28 hbox hb; have n_ := Y3q (Ye.below QI75_0 hb) (Y4.trans QK (Y4.of_below hb g none) (.inl rfl)) (Y5 QB hb) (hbox) ((by rw [hg]; exact (Ya (w := w) (g := g) (row := none) QK) : w.heap.size ≤ gb197)) ((Nat.le_trans HW0.out (by rw [hg]; exact (Ya (w := w) (g := g) (row := none) QK) : w.heap.size ≤ gb197) : w0.heap.size ≤ gb197)) ((by rw [hg]; exact Nat.ne_of_lt (Ye.lt (show Ye w0 _ g s0_0 s0_1 s0_2 s0_3 from QI75_0)) : g ≠ gb197)) ((by rw [hg]; exact Nat.ne_of_gt (Ye.lt (show Ye w0 _ g s0_0 s0_1 s0_2 s0_3 from QI75_0)) : gb197 ≠ g)); clear HI0 HK HB; obtain ⟨HI0, HK, HB, BK197, GW197, GE197, NB0_197, NB197_0⟩ := n_; clear hb hbox hg) | ((with_reducible refine Yg (f := 53) rfl ?_); refine YG (some 6) rfl rfl Tryd.func53 Z4 rfl #[.pointer (some ⟨g, 0, none⟩)] rfl Z0 ?_; (with_reducible refine (Yc.calls k g s0_0 s0_1 s0_2 s0_3 t198 t199 t200 t201 t202 w0 _ ?side1 ?side2 A3.out).mono ?_); (case side1 => exact Z13); (case side2 => exact QB); rintro e w29 ⟨rfl, hi, hb, hk⟩; refine ⟨_, rfl, ?_⟩; have n_ := Y1T (Y4.blk hk (g' := gb197) (o := .cells #[.int .i64 0, .string (⟨#[]⟩ : ByteArray), .slice none 0 0, .slice none 0 0] 37 (0, 0)) QQ NB197_0.out (by simp)) (Y4.trans QK hk (.inl rfl)) (hb) (hi); clear BK197 HK HB HI0; obtain ⟨BK197, HK, HB, HI0⟩ := n_; (try clear hb); (try clear hb2); (try clear hk); (try clear hi)) | ((with_reducible refine Yg (f := 134) rfl ?_); refine YG (some 10) rfl rfl Tryd.func134 Z4 rfl #[.pointer (some ⟨g, 0, none⟩), .int .i64 a1] rfl Z0 ?_; (with_reducible refine ((ih k (by omega)).2.2.2.2 g t199 t200 t201 t202 a1 t203 t204 t205 t208 t211 t212 t213 t214 w0 _ ?side1 ?side2 ?side3 A27.out).mono ?_); (case side1 => exact Z13); (case side2 => exact QB); (case side3 => exact HT.out); rintro e w30 ⟨v206, v209, rfl, ho0, ho1, hi, hb, hk⟩; refine ⟨_, rfl, ?_⟩; have n0_ := Y0.mk (Y4.blk hk (g' := gb197) (o := .cells #[.int .i64 0, .string (⟨#[]⟩ : ByteArray), .slice none 0 0, .slice none 0 0] 37 (0, 0)) QQ NB197_0.out (by simp)); have n1_ := Y0.mk (Kd.R_lower (Kd.R_newM (M := fun k_ => (w.heap.size ≤ k_)) (Kd.R_mono (ok' := fun k_ => True) ho0 (fun _ hk_ => trivial)) (Ya (w := w) (g := g) (row := none) QK) (fun k_ h_ => h_)) (Ya (w := w) (g := g) (row := none) QK)); have n2_ := Y0.mk (Kd.N_lower (Kd.N_mono (ok' := fun k_ => (w.heap.size ≤ k_) ∧ some k_ ≠ (v206 : Value).ownBlock ∧ k_ ≠ gb197 ∧ k_ ≠ g) ho1 (fun k_ hk_ => ⟨(Nat.le_trans (Ya (w := w) (g := g) (row := none) QK) hk_.1), hk_.2, (Kd.freshB (g := gb197) (o := .cells #[.int .i64 0, .string (⟨#[]⟩ : ByteArray), .slice none 0 0, .slice none 0 0] 37 (0, 0)) QQ k_ hk_.1), (Ye.fresh QI75_0 k_ hk_.1)⟩)) (Ya (w := w) (g := g) (row := none) QK)); have n3_ := Y0.mk (Y4.trans QK hk (.inl rfl)); have n4_ := Y0.mk (hb); have n5_ := Y0.mk (hi); clear BK197 HK HB HI0; have BK197 := n0_; have HO207 := n1_; have HO210 := n2_; have HK := n3_; have HB := n4_; have HI0 := n5_; clear n0_ n1_ n2_ n3_ n4_ n5_; (try clear hb); (try clear hb2); (try clear hk); (try clear hi); (try clear ho0); (try clear ho1); have hnb31 := NB197_0.out; have hnc31 := NB0_197.out; obtain ⟨hcz32_0, hcz32_1, hcz32_2, hcz32_3, hfz32_0, hfz32_1, hfz32_2, hfz32_3⟩ := Yt BK197.out; obtain ⟨Ao33, co33, eo33⟩ := Kd.R_slice HO207.out; subst eo33; obtain ⟨Ao34, co34, eo34⟩ := Kd.N_slice HO210.out; subst eo34))
  refine bodyPost_ret (results_cell_row rfl _ _ gb197 37 #[.int .i64 t203, .string t204, .slice Ao33 t205.length co33, .slice Ao34 t208.length co34] (0, 0) _ rfl (by (with_reducible repeat (first | refine Y9 ?_ _ | refine Y8 ?_ | refine Y7 ?_ _)); exact Yp (cs := #[.int .i64 t203, .string t204, .slice Ao33 t205.length co33, .slice none 0 0]) (by (with_reducible repeat (first | refine Y9 ?_ _ | refine Y8 ?_ | refine Y7 ?_ _)); exact Yp (cs := #[.int .i64 t203, .string t204, .slice none 0 0, .slice none 0 0]) (by (with_reducible repeat (first | refine Y9 ?_ _ | refine Y8 ?_ | refine Y7 ?_ _)); exact Yp (cs := #[.int .i64 t203, .string (⟨#[]⟩ : ByteArray), .slice none 0 0, .slice none 0 0]) Z1 1 _ rfl) 2 _ rfl) 3 _ rfl) Tryd.underlying37 rfl Z4) rfl ?_
  exact ⟨_, _, Z2, by (with_reducible repeat (first | apply Kd.R_alloc | apply Kd.R_drewN | apply Kd.R_drew)); exact Kd.R_mono (Kd.R_far (p := ⟨gb197, 3, none⟩) (Kd.R_far (p := ⟨gb197, 2, none⟩) (Kd.R_far (p := ⟨gb197, 1, none⟩) (Kd.R_far (p := ⟨gb197, 0, none⟩) (Kd.R_types HO207.out BK197.out (by decide)) (fun _ hk => hk.2) (.int .i64 t203)) (fun _ hk => hk.2) (.string t204)) (fun _ hk => hk.2) (.slice Ao33 t205.length co33)) (fun _ hk => hk.2) (.slice Ao34 t208.length co34)) (fun _ hk => hk.1.1), by (with_reducible repeat (first | apply Kd.N_alloc | apply Kd.N_drewN | apply Kd.N_drew)); exact Kd.N_mono (Kd.N_far (p := ⟨gb197, 3, none⟩) (Kd.N_far (p := ⟨gb197, 2, none⟩) (Kd.N_far (p := ⟨gb197, 1, none⟩) (Kd.N_far (p := ⟨gb197, 0, none⟩) (Kd.N_mono HO210.out (fun k_ hk => (⟨hk, hk.2.2.1⟩ : _ ∧ k_ ≠ gb197))) (fun _ hk => hk.2) (.int .i64 t203)) (fun _ hk => hk.2) (.string t204)) (fun _ hk => hk.2) (.slice Ao33 t205.length co33)) (fun _ hk => hk.2) (.slice Ao34 t208.length co34)) (fun _ hk => ⟨hk.1.1, hk.1.2.1⟩), QI75_0, QB, QK⟩
set_option maxHeartbeats 8000000 in
set_option maxRecDepth 100000 in
theorem Yy.Y2w (k : Nat) (ih : ∀ j_ < k, Yi.Spec j_ ∧ Yo.Spec j_ ∧ Yd.Spec j_ ∧ Yv.Spec j_ ∧ Yy.Spec j_) : ∀ (g : Nat) (s0_0 : ByteArray) (s0_1 : Int) (s0_2 : Int) (s0_3 : Int) (a1 : Int) (r1 : Int) (r2 : ByteArray) (r3 : List ByteArray) (r4 : List (S37)) (r5 : ByteArray) (r6 : Int) (r7 : Int) (r8 : Int) (w0 w : World) (hI : Ye w0 w g s0_0 s0_1 s0_2 s0_3) (hB : Below w0.heap.size w0 w) (hT : Tabs w0) (h : Yy.f k s0_0 s0_1 s0_2 s0_3 a1 = some (r1, r2, r3, r4, r5, r6, r7, r8)),
  Calls Tryd.prog 134 #[.pointer (some ⟨g, 0, none⟩), .int .i64 a1] w fun e w' => ∃ v2_ v3_ : Value, e = .returned (.agg #[.int .i64 r1, .string r2, v2_, v3_]) ∧ Kd.R Kd.string 9 w' w.heap.size (fun k_ => (w.heap.size ≤ k_)) v2_ r3 ∧ Kd.N k37 37 w' w.heap.size (fun k_ => (w.heap.size ≤ k_) ∧ some k_ ≠ (v2_ : Value).ownBlock) v3_ r4 ∧ Ye w0 w' g r5 r6 r7 r8 ∧ Below w0.heap.size w0 w' ∧ Y4 w w' g none := by
 intro g s0_0 s0_1 s0_2 s0_3 a1 r1 r2 r3 r4 r5 r6 r7 r8 w0 w hI hB hT h
 cases k with
 | zero => exact absurd h (by simp [Yy.f])
 | succ k =>
 simp only [Yy.f] at h
 have HT := Y0.mk hT
 clear hT
 have hu37 := Tryd.underlying37
 have HI0 := Y0.mk hI
 have HK := Y0.mk (Y4.refl w g none)
 have HL := Y0.mk hB.size
 clear hI
 have HW0 := Y0.mk hB.size
 have HB := Y0.mk hB
 clear hB
 have H : ((Yc.f k s0_0 s0_1 s0_2 s0_3).bind fun bt243 => (if bt243.1 = 60 then ((YF.f k bt243.2.1 bt243.2.2.1 bt243.2.2.2.1 bt243.2.2.2.2).bind fun bt248 => (some (1, bt248.1, ([] : List ByteArray), ([] : List (S37)), bt248.2.1, bt248.2.2.1, bt248.2.2.2.1, bt248.2.2.2.2))) else (if bt243.1 = 33 then ((Yf.f k bt243.2.1 (wrap64 (bt243.2.2.1 + 1)) bt243.2.2.2.1 bt243.2.2.2.2).bind fun bt253 => (some (bt253.1, bt253.2.1, bt253.2.2.1, bt253.2.2.2.1, bt253.2.2.2.2.1, bt253.2.2.2.2.2.1, bt253.2.2.2.2.2.2.1, bt253.2.2.2.2.2.2.2))) else (if bt243.1 = 40 then (if a1 ≥ 5 then ((Yb.f bt243.2.1 bt243.2.2.1 bt243.2.2.2.1 bt243.2.2.2.2 bt243.2.2.1 3).bind fun bt265 => (some (bt265.1, bt265.2.1, bt265.2.2.1, bt265.2.2.2.1, bt265.2.2.2.2.1, bt265.2.2.2.2.2.1, bt265.2.2.2.2.2.2.1, bt265.2.2.2.2.2.2.2))) else ((Yi.f k bt243.2.1 (wrap64 (bt243.2.2.1 + 1)) bt243.2.2.2.1 bt243.2.2.2.2 (wrap64 (a1 + 1))).bind fun bt277 => ((YK.f k bt277.2.2.2.2.1 bt277.2.2.2.2.2.1 bt277.2.2.2.2.2.2.1 bt277.2.2.2.2.2.2.2 41).bind fun bt290 => (some (bt277.1, bt277.2.1, bt277.2.2.1, bt277.2.2.2.1, bt290.1, bt290.2.1, bt290.2.2.1, bt290.2.2.2))))) else ((Yb.f bt243.2.1 bt243.2.2.1 bt243.2.2.2.1 bt243.2.2.2.2 bt243.2.2.1 2).bind fun bt294 => (some (bt294.1, bt294.2.1, bt294.2.2.1, bt294.2.2.2.1, bt294.2.2.2.2.1, bt294.2.2.2.2.2.1, bt294.2.2.2.2.2.2.1, bt294.2.2.2.2.2.2.2))))))) = some (r1, r2, r3, r4, r5, r6, r7, r8) := h
 clear h
 replace H := Option.bind_eq_some_iff.mp H
 obtain ⟨⟨t243, t244, t245, t246, t247⟩, A30, H⟩ := H
 replace H : (if t243 = 60 then ((YF.f k t244 t245 t246 t247).bind fun bt248 => (some (1, bt248.1, ([] : List ByteArray), ([] : List (S37)), bt248.2.1, bt248.2.2.1, bt248.2.2.2.1, bt248.2.2.2.2))) else (if t243 = 33 then ((Yf.f k t244 (wrap64 (t245 + 1)) t246 t247).bind fun bt253 => (some (bt253.1, bt253.2.1, bt253.2.2.1, bt253.2.2.2.1, bt253.2.2.2.2.1, bt253.2.2.2.2.2.1, bt253.2.2.2.2.2.2.1, bt253.2.2.2.2.2.2.2))) else (if t243 = 40 then (if a1 ≥ 5 then ((Yb.f t244 t245 t246 t247 t245 3).bind fun bt265 => (some (bt265.1, bt265.2.1, bt265.2.2.1, bt265.2.2.2.1, bt265.2.2.2.2.1, bt265.2.2.2.2.2.1, bt265.2.2.2.2.2.2.1, bt265.2.2.2.2.2.2.2))) else ((Yi.f k t244 (wrap64 (t245 + 1)) t246 t247 (wrap64 (a1 + 1))).bind fun bt277 => ((YK.f k bt277.2.2.2.2.1 bt277.2.2.2.2.2.1 bt277.2.2.2.2.2.2.1 bt277.2.2.2.2.2.2.2 41).bind fun bt290 => (some (bt277.1, bt277.2.1, bt277.2.2.1, bt277.2.2.2.1, bt290.1, bt290.2.1, bt290.2.2.1, bt290.2.2.2))))) else ((Yb.f t244 t245 t246 t247 t245 2).bind fun bt294 => (some (bt294.1, bt294.2.1, bt294.2.2.1, bt294.2.2.2.1, bt294.2.2.2.2.1, bt294.2.2.2.2.2.1, bt294.2.2.2.2.2.2.1, bt294.2.2.2.2.2.2.2)))))) = some (r1, r2, r3, r4, r5, r6, r7, r8) := H
 have A3 := Y0.mk A30
 clear A30
 by_cases c4 : t243 = 60
 ·rw [if_pos c4] at H
  have c4b0 : (t243 == 60) = true := beq_iff_eq.mpr c4
  have c4b1 : (t243 != 60) = false := bne_eq_false_iff_eq.mpr c4
  clear c4
  replace H := Option.bind_eq_some_iff.mp H
  obtain ⟨⟨t248, t249, t250, t251, t252⟩, A50, H⟩ := H
  replace H : (some (1, t248, ([] : List ByteArray), ([] : List (S37)), t249, t250, t251, t252)) = some (r1, r2, r3, r4, r5, r6, r7, r8) := H
  have A5 := Y0.mk A50
  clear A50
  simp only [Option.some.injEq, Prod.mk.injEq] at H
  obtain ⟨rfl, rfl, rfl, rfl, rfl, rfl, rfl, rfl⟩ := H
  go_enter Tryd.func134, Tryd.ntmps134
  go_wp2_with (first | ((with_reducible refine Ym (N := 4) rfl ?_); refine Yl ?hg (N := 4) ?hd (cs := #[.int .i64 0, .string (⟨#[]⟩ : ByteArray), .slice none 0 0, .slice none 0 0]) (t := 37) ?hr ?_; (case hd => rfl); (case hg => rfl); (case hr => exact Z6); intro gb242 hg w6 hbox hb; have n_ := Y3q (Ye.below QI75_0 hb) (Y4.trans QK (Y4.of_below hb g none) (.inl rfl)) (Y5 QB hb) (hbox) ((by rw [hg]; exact (Ya (w := w) (g := g) (row := none) QK) : w.heap.size ≤ gb242)) ((Nat.le_trans HW0.out (by rw [hg]; exact (Ya (w := w) (g := g) (row := none) QK) : w.heap.size ≤ gb242) : w0.heap.size ≤ gb242)) ((by rw [hg]; exact Nat.ne_of_lt (Ye.lt (show Ye w0 _ g s0_0 s0_1 s0_2 s0_3 from QI75_0)) : g ≠ gb242)) ((by rw [hg]; exact Nat.ne_of_gt (Ye.lt (show Ye w0 _ g s0_0 s0_1 s0_2 s0_3 from QI75_0)) : gb242 ≠ g)); clear HI0 HK HB; obtain ⟨HI0, HK, HB, BK242, GW242, GE242, NB0_242, NB242_0⟩ := n_; clear hb hbox hg) | ((with_reducible refine Yg (f := 53) rfl ?_); refine YG (some 7) rfl rfl Tryd.func53 Z4 rfl #[.pointer (some ⟨g, 0, none⟩)] rfl Z0 ?_; (with_reducible refine (Yc.calls k g s0_0 s0_1 s0_2 s0_3 t243 t244 t245 t246 t247 w0 _ ?side1 ?side2 A3.out).mono ?_); (case side1 => exact Z13); (case side2 => exact QB); rintro e w7 ⟨rfl, hi, hb, hk⟩; refine ⟨_, rfl, ?_⟩; have n_ := Y1T (Y4.blk hk (g' := gb242) (o := .cells #[.int .i64 0, .string (⟨#[]⟩ : ByteArray), .slice none 0 0, .slice none 0 0] 37 (0, 0)) QQ NB242_0.out (by simp)) (Y4.trans QK hk (.inl rfl)) (hb) (hi); clear BK242 HK HB HI0; obtain ⟨BK242, HK, HB, HI0⟩ := n_; (try clear hb); (try clear hb2); (try clear hk); (try clear hi)) | ((with_reducible refine Yg (f := 140) rfl ?_); refine YG (some 11) rfl rfl Tryd.func140 Z4 rfl #[.pointer (some ⟨g, 0, none⟩)] rfl Z0 ?_; (with_reducible refine (YF.calls k g t244 t245 t246 t247 t248 t249 t250 t251 t252 w0 _ ?side1 ?side2 ?side3 A5.out).mono ?_); (case side1 => exact Z13); (case side2 => exact QB); (case side3 => exact HT.out); rintro e w8 ⟨rfl, hi, hb, hk⟩; refine ⟨_, rfl, ?_⟩; have n_ := Y1T (Y4.blk hk (g' := gb242) (o := .cells #[.int .i64 0, .string (⟨#[]⟩ : ByteArray), .slice none 0 0, .slice none 0 0] 37 (0, 0)) QQ NB242_0.out (by simp)) (Y4.trans QK hk (.inl rfl)) (hb) (hi); clear BK242 HK HB HI0; obtain ⟨BK242, HK, HB, HI0⟩ := n_; (try clear hb); (try clear hb2); (try clear hk); (try clear hi); have hnb9 := NB242_0.out; have hnc9 := NB0_242.out; obtain ⟨hcz10_0, hcz10_1, hcz10_2, hcz10_3, hfz10_0, hfz10_1, hfz10_2, hfz10_3⟩ := Yt BK242.out))
  refine bodyPost_ret (results_cell_row rfl _ _ gb242 37 #[.int .i64 1, .string t248, .slice none 0 0, .slice none 0 0] (0, 0) _ rfl (by (with_reducible repeat (first | refine Y9 ?_ _ | refine Y8 ?_ | refine Y7 ?_ _)); exact Yp (cs := #[.int .i64 1, .string t248, .slice none 0 0, .slice none 0 0]) (by (with_reducible repeat (first | refine Y9 ?_ _ | refine Y8 ?_ | refine Y7 ?_ _)); exact Yp (cs := #[.int .i64 1, .string t248, .slice none 0 0, .slice none 0 0]) Z1E 2 _ rfl) 3 _ rfl) Tryd.underlying37 rfl Z4) rfl ?_
  exact ⟨_, _, Z2, Z7, Z7, QI75_0, QB, QK⟩
 ·rw [if_neg c4] at H
  have c4b0 : (t243 == 60) = false := beq_eq_false_iff_ne.mpr c4
  have c4b1 : (t243 != 60) = true := bne_iff_ne.mpr c4
  by_cases c11 : t243 = 33
  ·rw [if_pos c11] at H
   have c11b0 : (t243 == 33) = true := beq_iff_eq.mpr c11
   have c11b1 : (t243 != 33) = false := bne_eq_false_iff_eq.mpr c11
   clear c11
   replace H := Option.bind_eq_some_iff.mp H
   obtain ⟨⟨t253, t254, t255, t258, t261, t262, t263, t264⟩, A120, H⟩ := H
   replace H : (some (t253, t254, t255, t258, t261, t262, t263, t264)) = some (r1, r2, r3, r4, r5, r6, r7, r8) := H
   have A12 := Y0.mk A120
   clear A120
   simp only [Option.some.injEq, Prod.mk.injEq] at H
   obtain ⟨rfl, rfl, rfl, rfl, rfl, rfl, rfl, rfl⟩ := H
   go_enter Tryd.func134, Tryd.ntmps134
   go_wp2_with (first | ((with_reducible refine Ym (N := 4) rfl ?_); refine Yl ?hg (N := 4) ?hd (cs := #[.int .i64 0, .string (⟨#[]⟩ : ByteArray), .slice none 0 0, .slice none 0 0]) (t := 37) ?hr ?_; (case hd => rfl); (case hg => rfl); (case hr => exact Z6); intro gb242 hg w13 hbox hb; have n_ := Y3q (Ye.below QI75_0 hb) (Y4.trans QK (Y4.of_below hb g none) (.inl rfl)) (Y5 QB hb) (hbox) ((by rw [hg]; exact (Ya (w := w) (g := g) (row := none) QK) : w.heap.size ≤ gb242)) ((Nat.le_trans HW0.out (by rw [hg]; exact (Ya (w := w) (g := g) (row := none) QK) : w.heap.size ≤ gb242) : w0.heap.size ≤ gb242)) ((by rw [hg]; exact Nat.ne_of_lt (Ye.lt (show Ye w0 _ g s0_0 s0_1 s0_2 s0_3 from QI75_0)) : g ≠ gb242)) ((by rw [hg]; exact Nat.ne_of_gt (Ye.lt (show Ye w0 _ g s0_0 s0_1 s0_2 s0_3 from QI75_0)) : gb242 ≠ g)); clear HI0 HK HB; obtain ⟨HI0, HK, HB, BK242, GW242, GE242, NB0_242, NB242_0⟩ := n_; clear hb hbox hg) | ((with_reducible refine Yg (f := 53) rfl ?_); refine YG (some 7) rfl rfl Tryd.func53 Z4 rfl #[.pointer (some ⟨g, 0, none⟩)] rfl Z0 ?_; (with_reducible refine (Yc.calls k g s0_0 s0_1 s0_2 s0_3 t243 t244 t245 t246 t247 w0 _ ?side1 ?side2 A3.out).mono ?_); (case side1 => exact Z13); (case side2 => exact QB); rintro e w14 ⟨rfl, hi, hb, hk⟩; refine ⟨_, rfl, ?_⟩; have n_ := Y1T (Y4.blk hk (g' := gb242) (o := .cells #[.int .i64 0, .string (⟨#[]⟩ : ByteArray), .slice none 0 0, .slice none 0 0] 37 (0, 0)) QQ NB242_0.out (by simp)) (Y4.trans QK hk (.inl rfl)) (hb) (hi); clear BK242 HK HB HI0; obtain ⟨BK242, HK, HB, HI0⟩ := n_; (try clear hb); (try clear hb2); (try clear hk); (try clear hi); obtain ⟨HGz15, hgz15⟩ := HI0.out; have hcz15_0 := YA HGz15; have hcz15_1 := YB HGz15; have hcz15_2 := YC HGz15; have hcz15_3 := YD HGz15; have hfz15_0 := Y3 HGz15 0; have hfz15_1 := Y3 HGz15 1; have hfz15_2 := Y3 HGz15 2; have hfz15_3 := Y3 HGz15 3; clear HGz15 hgz15) | ((with_reducible refine Yg (f := 141) rfl ?_); refine YG (some 23) rfl rfl Tryd.func141 Z4 rfl #[.pointer (some ⟨g, 0, none⟩)] rfl Z0 ?_; (with_reducible refine (Yf.calls k g t244 (wrap64 (t245 + 1)) t246 t247 t253 t254 t255 t258 t261 t262 t263 t264 w0 _ ?side1 ?side2 ?side3 A12.out).mono ?_); (case side1 => exact Z13); (case side2 => exact QB); (case side3 => exact HT.out); rintro e w16 ⟨v256, v259, rfl, ho0, ho1, hi, hb, hk⟩; refine ⟨_, rfl, ?_⟩; have n0_ := Y0.mk (Y4.blk hk (g' := gb242) (o := .cells #[.int .i64 0, .string (⟨#[]⟩ : ByteArray), .slice none 0 0, .slice none 0 0] 37 (0, 0)) ZQ NB242_0.out (by simp)); have n1_ := Y0.mk (Kd.R_lower (Kd.R_newM (M := fun k_ => (w.heap.size ≤ k_)) ho0 (Ya (w := w) (g := g) (row := none) QK) (fun k_ h_ => h_)) (Ya (w := w) (g := g) (row := none) QK)); have n2_ := Y0.mk (Kd.N_lower (Kd.N_mono (ok' := fun k_ => (w.heap.size ≤ k_) ∧ some k_ ≠ (v256 : Value).ownBlock ∧ k_ ≠ gb242 ∧ k_ ≠ g) (Kd.R_N (Kd.R_bound ho1)) (fun k_ hk_ => ⟨(Nat.le_trans (Ya (w := w) (g := g) (row := none) QK) hk_.2.1), hk_.1, (Kd.freshB (g := gb242) (o := .cells #[.int .i64 0, .string (⟨#[]⟩ : ByteArray), .slice none 0 0, .slice none 0 0] 37 (0, 0)) ZQ k_ hk_.2.1), (Ye.fresh QI75_0 k_ hk_.2.1)⟩)) (Ya (w := w) (g := g) (row := none) QK)); have n3_ := Y0.mk (Y4.trans QK hk (.inl rfl)); have n4_ := Y0.mk (hb); have n5_ := Y0.mk (hi); clear BK242 HK HB HI0; have BK242 := n0_; have HO257 := n1_; have HO260 := n2_; have HK := n3_; have HB := n4_; have HI0 := n5_; clear n0_ n1_ n2_ n3_ n4_ n5_; (try clear hb); (try clear hb2); (try clear hk); (try clear hi); (try clear ho0); (try clear ho1); have hnb17 := NB242_0.out; have hnc17 := NB0_242.out; obtain ⟨hcz18_0, hcz18_1, hcz18_2, hcz18_3, hfz18_0, hfz18_1, hfz18_2, hfz18_3⟩ := Yt BK242.out; obtain ⟨Ao19, co19, eo19⟩ := Kd.R_slice HO257.out; subst eo19; obtain ⟨Ao20, co20, eo20⟩ := Kd.N_slice HO260.out; subst eo20))
   refine bodyPost_ret (results_cell_row rfl _ _ gb242 37 #[.int .i64 t253, .string t254, .slice Ao19 t255.length co19, .slice Ao20 t258.length co20] (0, 0) _ rfl (by (with_reducible repeat (first | refine Y9 ?_ _ | refine Y8 ?_ | refine Y7 ?_ _)); exact Yp (cs := #[.int .i64 t253, .string t254, .slice Ao19 t255.length co19, .slice none 0 0]) (by (with_reducible repeat (first | refine Y9 ?_ _ | refine Y8 ?_ | refine Y7 ?_ _)); exact Yp (cs := #[.int .i64 t253, .string t254, .slice none 0 0, .slice none 0 0]) (by (with_reducible repeat (first | refine Y9 ?_ _ | refine Y8 ?_ | refine Y7 ?_ _)); exact Yp (cs := #[.int .i64 t253, .string (⟨#[]⟩ : ByteArray), .slice none 0 0, .slice none 0 0]) Z1 1 _ rfl) 2 _ rfl) 3 _ rfl) Tryd.underlying37 rfl Z4) rfl ?_
   exact ⟨_, _, Z2, by (with_reducible repeat (first | apply Kd.R_alloc | apply Kd.R_drewN | apply Kd.R_drew)); exact Kd.R_mono (Kd.R_far (p := ⟨gb242, 3, none⟩) (Kd.R_far (p := ⟨gb242, 2, none⟩) (Kd.R_far (p := ⟨gb242, 1, none⟩) (Kd.R_far (p := ⟨gb242, 0, none⟩) (Kd.R_types HO257.out BK242.out (by decide)) (fun _ hk => hk.2) (.int .i64 t253)) (fun _ hk => hk.2) (.string t254)) (fun _ hk => hk.2) (.slice Ao19 t255.length co19)) (fun _ hk => hk.2) (.slice Ao20 t258.length co20)) (fun _ hk => hk.1.1), by (with_reducible repeat (first | apply Kd.N_alloc | apply Kd.N_drewN | apply Kd.N_drew)); exact Kd.N_mono (Kd.N_far (p := ⟨gb242, 3, none⟩) (Kd.N_far (p := ⟨gb242, 2, none⟩) (Kd.N_far (p := ⟨gb242, 1, none⟩) (Kd.N_far (p := ⟨gb242, 0, none⟩) (Kd.N_mono HO260.out (fun k_ hk => (⟨hk, hk.2.2.1⟩ : _ ∧ k_ ≠ gb242))) (fun _ hk => hk.2) (.int .i64 t253)) (fun _ hk => hk.2) (.string t254)) (fun _ hk => hk.2) (.slice Ao19 t255.length co19)) (fun _ hk => hk.2) (.slice Ao20 t258.length co20)) (fun _ hk => ⟨hk.1.1, hk.1.2.1⟩), QI75_0, QB, QK⟩
  ·rw [if_neg c11] at H
   have c11b0 : (t243 == 33) = false := beq_eq_false_iff_ne.mpr c11
   have c11b1 : (t243 != 33) = true := bne_iff_ne.mpr c11
   by_cases c21 : t243 = 40
   ·rw [if_pos c21] at H
    have c21b0 : (t243 == 40) = true := beq_iff_eq.mpr c21
    have c21b1 : (t243 != 40) = false := bne_eq_false_iff_eq.mpr c21
    clear c21
    by_cases c22 : a1 ≥ 5
    ·rw [if_pos c22] at H
     have c22b0 : decide (5 ≤ a1) = true := decide_eq_true c22
     clear c22
     replace H := Option.bind_eq_some_iff.mp H
     obtain ⟨⟨t265, t266, t267, t270, t273, t274, t275, t276⟩, A230, H⟩ := H
     replace H : (some (t265, t266, t267, t270, t273, t274, t275, t276)) = some (r1, r2, r3, r4, r5, r6, r7, r8) := H
     have A23 := Y0.mk A230
     clear A230
     simp only [Option.some.injEq, Prod.mk.injEq] at H
     obtain ⟨rfl, rfl, rfl, rfl, rfl, rfl, rfl, rfl⟩ := H
     go_enter Tryd.func134, Tryd.ntmps134
     go_wp2_with (first | ((with_reducible refine Ym (N := 4) rfl ?_); refine Yl ?hg (N := 4) ?hd (cs := #[.int .i64 0, .string (⟨#[]⟩ : ByteArray), .slice none 0 0, .slice none 0 0]) (t := 37) ?hr ?_; (case hd => rfl); (case hg => rfl); (case hr => exact Z6); intro gb242 hg w24 hbox hb; have n_ := Y3q (Ye.below QI75_0 hb) (Y4.trans QK (Y4.of_below hb g none) (.inl rfl)) (Y5 QB hb) (hbox) ((by rw [hg]; exact (Ya (w := w) (g := g) (row := none) QK) : w.heap.size ≤ gb242)) ((Nat.le_trans HW0.out (by rw [hg]; exact (Ya (w := w) (g := g) (row := none) QK) : w.heap.size ≤ gb242) : w0.heap.size ≤ gb242)) ((by rw [hg]; exact Nat.ne_of_lt (Ye.lt (show Ye w0 _ g s0_0 s0_1 s0_2 s0_3 from QI75_0)) : g ≠ gb242)) ((by rw [hg]; exact Nat.ne_of_gt (Ye.lt (show Ye w0 _ g s0_0 s0_1 s0_2 s0_3 from QI75_0)) : gb242 ≠ g)); clear HI0 HK HB; obtain ⟨HI0, HK, HB, BK242, GW242, GE242, NB0_242, NB242_0⟩ := n_; clear hb hbox hg) | ((with_reducible refine Yg (f := 53) rfl ?_); refine YG (some 7) rfl rfl Tryd.func53 Z4 rfl #[.pointer (some ⟨g, 0, none⟩)] rfl Z0 ?_; (with_reducible refine (Yc.calls k g s0_0 s0_1 s0_2 s0_3 t243 t244 t245 t246 t247 w0 _ ?side1 ?side2 A3.out).mono ?_); (case side1 => exact Z13); (case side2 => exact QB); rintro e w25 ⟨rfl, hi, hb, hk⟩; refine ⟨_, rfl, ?_⟩; have n_ := Y1T (Y4.blk hk (g' := gb242) (o := .cells #[.int .i64 0, .string (⟨#[]⟩ : ByteArray), .slice none 0 0, .slice none 0 0] 37 (0, 0)) QQ NB242_0.out (by simp)) (Y4.trans QK hk (.inl rfl)) (hb) (hi); clear BK242 HK HB HI0; obtain ⟨BK242, HK, HB, HI0⟩ := n_; (try clear hb); (try clear hb2); (try clear hk); (try clear hi); obtain ⟨HGz26, hgz26⟩ := HI0.out; have hcz26_0 := YA HGz26; have hcz26_1 := YB HGz26; have hcz26_2 := YC HGz26; have hcz26_3 := YD HGz26; have hfz26_0 := Y3 HGz26 0; have hfz26_1 := Y3 HGz26 1; have hfz26_2 := Y3 HGz26 2; have hfz26_3 := Y3 HGz26 3; clear HGz26 hgz26) | ((with_reducible refine Yg (f := 54) rfl ?_); refine YG (some 33) rfl rfl Tryd.func54 Z4 rfl #[.pointer (some ⟨g, 0, none⟩), .int .i64 t245, .int .i64 3] rfl Z0 ?_; (with_reducible refine (Yb.calls g t244 t245 t246 t247 t245 3 t265 t266 t267 t270 t273 t274 t275 t276 w0 _ ?side1 ?side2 A23.out).mono ?_); (case side1 => exact Z13); (case side2 => exact QB); rintro e w27 ⟨v268, v271, rfl, ho0, ho1, hi, hb, hk⟩; refine ⟨_, rfl, ?_⟩; have n0_ := Y0.mk (Y4.blk hk (g' := gb242) (o := .cells #[.int .i64 0, .string (⟨#[]⟩ : ByteArray), .slice none 0 0, .slice none 0 0] 37 (0, 0)) QQ NB242_0.out (by simp)); have n1_ := Y0.mk (Kd.R_lower (Kd.R_newM (M := fun k_ => (w.heap.size ≤ k_)) (Kd.R_mono (ok' := fun k_ => True) ho0 (fun _ hk_ => trivial)) (Ya (w := w) (g := g) (row := none) QK) (fun k_ h_ => h_)) (Ya (w := w) (g := g) (row := none) QK)); have n2_ := Y0.mk (Kd.N_lower (Kd.N_mono (ok' := fun k_ => (w.heap.size ≤ k_) ∧ some k_ ≠ (v268 : Value).ownBlock ∧ k_ ≠ gb242 ∧ k_ ≠ g) ho1 (fun k_ hk_ => ⟨(Nat.le_trans (Ya (w := w) (g := g) (row := none) QK) hk_.1), hk_.2, (Kd.freshB (g := gb242) (o := .cells #[.int .i64 0, .string (⟨#[]⟩ : ByteArray), .slice none 0 0, .slice none 0 0] 37 (0, 0)) QQ k_ hk_.1), (Ye.fresh QI75_0 k_ hk_.1)⟩)) (Ya (w := w) (g := g) (row := none) QK)); have n3_ := Y0.mk (Y4.trans QK hk (.inl rfl)); have n4_ := Y0.mk (hb); have n5_ := Y0.mk (hi); clear BK242 HK HB HI0; have BK242 := n0_; have HO269 := n1_; have HO272 := n2_; have HK := n3_; have HB := n4_; have HI0 := n5_; clear n0_ n1_ n2_ n3_ n4_ n5_; (try clear hb); (try clear hb2); (try clear hk); (try clear hi); (try clear ho0); (try clear ho1); have hnb28 := NB242_0.out; have hnc28 := NB0_242.out; obtain ⟨hcz29_0, hcz29_1, hcz29_2, hcz29_3, hfz29_0, hfz29_1, hfz29_2, hfz29_3⟩ := Yt BK242.out; obtain ⟨Ao30, co30, eo30⟩ := Kd.R_slice HO269.out; subst eo30; obtain ⟨Ao31, co31, eo31⟩ := Kd.N_slice HO272.out; subst eo31))
     refine bodyPost_ret (results_cell_row rfl _ _ gb242 37 #[.int .i64 t265, .string t266, .slice Ao30 t267.length co30, .slice Ao31 t270.length co31] (0, 0) _ rfl (by (with_reducible repeat (first | refine Y9 ?_ _ | refine Y8 ?_ | refine Y7 ?_ _)); exact Yp (cs := #[.int .i64 t265, .string t266, .slice Ao30 t267.length co30, .slice none 0 0]) (by (with_reducible repeat (first | refine Y9 ?_ _ | refine Y8 ?_ | refine Y7 ?_ _)); exact Yp (cs := #[.int .i64 t265, .string t266, .slice none 0 0, .slice none 0 0]) (by (with_reducible repeat (first | refine Y9 ?_ _ | refine Y8 ?_ | refine Y7 ?_ _)); exact Yp (cs := #[.int .i64 t265, .string (⟨#[]⟩ : ByteArray), .slice none 0 0, .slice none 0 0]) Z1 1 _ rfl) 2 _ rfl) 3 _ rfl) Tryd.underlying37 rfl Z4) rfl ?_
     exact ⟨_, _, Z2, by (with_reducible repeat (first | apply Kd.R_alloc | apply Kd.R_drewN | apply Kd.R_drew)); exact Kd.R_mono (Kd.R_far (p := ⟨gb242, 3, none⟩) (Kd.R_far (p := ⟨gb242, 2, none⟩) (Kd.R_far (p := ⟨gb242, 1, none⟩) (Kd.R_far (p := ⟨gb242, 0, none⟩) (Kd.R_types HO269.out BK242.out (by decide)) (fun _ hk => hk.2) (.int .i64 t265)) (fun _ hk => hk.2) (.string t266)) (fun _ hk => hk.2) (.slice Ao30 t267.length co30)) (fun _ hk => hk.2) (.slice Ao31 t270.length co31)) (fun _ hk => hk.1.1), by (with_reducible repeat (first | apply Kd.N_alloc | apply Kd.N_drewN | apply Kd.N_drew)); exact Kd.N_mono (Kd.N_far (p := ⟨gb242, 3, none⟩) (Kd.N_far (p := ⟨gb242, 2, none⟩) (Kd.N_far (p := ⟨gb242, 1, none⟩) (Kd.N_far (p := ⟨gb242, 0, none⟩) (Kd.N_mono HO272.out (fun k_ hk => (⟨hk, hk.2.2.1⟩ : _ ∧ k_ ≠ gb242))) (fun _ hk => hk.2) (.int .i64 t265)) (fun _ hk => hk.2) (.string t266)) (fun _ hk => hk.2) (.slice Ao30 t267.length co30)) (fun _ hk => hk.2) (.slice Ao31 t270.length co31)) (fun _ hk => ⟨hk.1.1, hk.1.2.1⟩), QI75_0, QB, QK⟩
    ·rw [if_neg c22] at H
     have c22b0 : decide (5 ≤ a1) = false := decide_eq_false c22
     clear c22
     replace H := Option.bind_eq_some_iff.mp H
     obtain ⟨⟨t277, t278, t279, t282, t285, t286, t287, t288⟩, A320, H⟩ := H
     replace H : ((YK.f k t285 t286 t287 t288 41).bind fun bt290 => (some (t277, t278, t279, t282, bt290.1, bt290.2.1, bt290.2.2.1, bt290.2.2.2))) = some (r1, r2, r3, r4, r5, r6, r7, r8) := H
     have A32 := Y0.mk A320
     clear A320
     replace H := Option.bind_eq_some_iff.mp H
     obtain ⟨⟨t290, t291, t292, t293⟩, A330, H⟩ := H
     replace H : (some (t277, t278, t279, t282, t290, t291, t292, t293)) = some (r1, r2, r3, r4, r5, r6, r7, r8) := H
     have A33 := Y0.mk A330
     clear A330
     simp only [Option.some.injEq, Prod.mk.injEq] at H
     obtain ⟨rfl, rfl, rfl, rfl, rfl, rfl, rfl, rfl⟩ := H
     go_enter Tryd.func134, Tryd.ntmps134
     go_wp2_with (first | ((with_reducible refine Ym (N := 4) rfl ?_); refine Yl ?hg (N := 4) ?hd (cs := #[.int .i64 0, .string (⟨#[]⟩ : ByteArray), .slice none 0 0, .slice none 0 0]) (t := 37) ?hr ?_; (case hd => rfl); (case hg => rfl); (case hr => exact Z6); intro gb242 hg w34 hbox hb; have n_ := Y3q (Ye.below QI75_0 hb) (Y4.trans QK (Y4.of_below hb g none) (.inl rfl)) (Y5 QB hb) (hbox) ((by rw [hg]; exact (Ya (w := w) (g := g) (row := none) QK) : w.heap.size ≤ gb242)) ((Nat.le_trans HW0.out (by rw [hg]; exact (Ya (w := w) (g := g) (row := none) QK) : w.heap.size ≤ gb242) : w0.heap.size ≤ gb242)) ((by rw [hg]; exact Nat.ne_of_lt (Ye.lt (show Ye w0 _ g s0_0 s0_1 s0_2 s0_3 from QI75_0)) : g ≠ gb242)) ((by rw [hg]; exact Nat.ne_of_gt (Ye.lt (show Ye w0 _ g s0_0 s0_1 s0_2 s0_3 from QI75_0)) : gb242 ≠ g)); clear HI0 HK HB; obtain ⟨HI0, HK, HB, BK242, GW242, GE242, NB0_242, NB242_0⟩ := n_; clear hb hbox hg) | ((with_reducible refine Yg (f := 53) rfl ?_); refine YG (some 7) rfl rfl Tryd.func53 Z4 rfl #[.pointer (some ⟨g, 0, none⟩)] rfl Z0 ?_; (with_reducible refine (Yc.calls k g s0_0 s0_1 s0_2 s0_3 t243 t244 t245 t246 t247 w0 _ ?side1 ?side2 A3.out).mono ?_); (case side1 => exact Z13); (case side2 => exact QB); rintro e w35 ⟨rfl, hi, hb, hk⟩; refine ⟨_, rfl, ?_⟩; have n_ := Y1T (Y4.blk hk (g' := gb242) (o := .cells #[.int .i64 0, .string (⟨#[]⟩ : ByteArray), .slice none 0 0, .slice none 0 0] 37 (0, 0)) QQ NB242_0.out (by simp)) (Y4.trans QK hk (.inl rfl)) (hb) (hi); clear BK242 HK HB HI0; obtain ⟨BK242, HK, HB, HI0⟩ := n_; (try clear hb); (try clear hb2); (try clear hk); (try clear hi); obtain ⟨HGz36, hgz36⟩ := HI0.out; have hcz36_0 := YA HGz36; have hcz36_1 := YB HGz36; have hcz36_2 := YC HGz36; have hcz36_3 := YD HGz36; have hfz36_0 := Y3 HGz36 0; have hfz36_1 := Y3 HGz36 1; have hfz36_2 := Y3 HGz36 2; have hfz36_3 := Y3 HGz36 3; clear HGz36 hgz36) | ((with_reducible refine Yg (f := 52) rfl ?_); refine YG (some 44) rfl rfl Tryd.func52 Z4 rfl #[.pointer (some ⟨g, 0, none⟩), .int .i64 (wrap64 (a1 + 1))] rfl Z0 ?_; (with_reducible refine ((ih k (by omega)).1 g t244 (wrap64 (t245 + 1)) t246 t247 (wrap64 (a1 + 1)) t277 t278 t279 t282 t285 t286 t287 t288 w0 _ ?side1 ?side2 ?side3 A32.out).mono ?_); (case side1 => exact Z13); (case side2 => exact QB); (case side3 => exact HT.out); rintro e w37 ⟨v280, v283, rfl, ho0, ho1, hi, hb, hk⟩; refine ⟨_, rfl, ?_⟩; have n0_ := Y0.mk (Y4.blk hk (g' := gb242) (o := .cells #[.int .i64 0, .string (⟨#[]⟩ : ByteArray), .slice none 0 0, .slice none 0 0] 37 (0, 0)) ZQ NB242_0.out (by simp)); have n1_ := Y0.mk (Kd.R_lower (Kd.R_newM (M := fun k_ => (w.heap.size ≤ k_)) (Kd.R_mono (ok' := fun k_ => True) ho0 (fun _ hk_ => trivial)) (Ya (w := w) (g := g) (row := none) QK) (fun k_ h_ => h_)) (Ya (w := w) (g := g) (row := none) QK)); have n2_ := Y0.mk (Kd.N_lower (Kd.N_mono (ok' := fun k_ => (w.heap.size ≤ k_) ∧ some k_ ≠ (v280 : Value).ownBlock ∧ k_ ≠ gb242 ∧ k_ ≠ g) ho1 (fun k_ hk_ => ⟨(Nat.le_trans (Ya (w := w) (g := g) (row := none) QK) hk_.1), hk_.2, (Kd.freshB (g := gb242) (o := .cells #[.int .i64 0, .string (⟨#[]⟩ : ByteArray), .slice none 0 0, .slice none 0 0] 37 (0, 0)) ZQ k_ hk_.1), (Ye.fresh QI75_0 k_ hk_.1)⟩)) (Ya (w := w) (g := g) (row := none) QK)); have n3_ := Y0.mk (Y4.trans QK hk (.inl rfl)); have n4_ := Y0.mk (hb); have n5_ := Y0.mk (hi); clear BK242 HK HB HI0; have BK242 := n0_; have HO281 := n1_; have HO284 := n2_; have HK := n3_; have HB := n4_; have HI0 := n5_; clear n0_ n1_ n2_ n3_ n4_ n5_; (try clear hb); (try clear hb2); (try clear hk); (try clear hi); (try clear ho0); (try clear ho1)) | ((with_reducible refine Ym (N := 5) rfl ?_); refine Yl ?hg (N := 5) ?hd (cs := #[.int .i64 0, .string (⟨#[]⟩ : ByteArray), .slice none 0 0, .slice none 0 0]) (t := 37) ?hr ?_; (case hd => rfl); (case hg => rfl); (case hr => exact Z6); intro gb289 hg w38 hbox hb; have n0_ := Y0.mk (Kd.R_below (by (with_reducible repeat (first | apply Kd.R_alloc | apply Kd.R_drewN | apply Kd.R_drew)); exact HO281.out) hb); have n1_ := Y0.mk (Kd.N_below (Kd.N_elderB (by (with_reducible repeat (first | apply Kd.N_alloc | apply Kd.N_drewN | apply Kd.N_drew)); exact HO284.out) gb289 (Nat.le_of_eq hg.symm)) hb); have n2_ := Y0.mk (Ye.below QI75_0 hb); have n3_ := Y0.mk (Yh (g := gb242) (o := .cells #[.int .i64 0, .string (⟨#[]⟩ : ByteArray), .slice none 0 0, .slice none 0 0] 37 (0, 0)) QQ hb); have n4_ := Y0.mk (Y4.trans QK (Y4.of_below hb g none) (.inl rfl)); have n5_ := Y0.mk (Y5 QB hb); have n6_ := Y0.mk (hbox); have n7_ := Y0.mk ((by rw [hg]; exact (Ya (w := w) (g := g) (row := none) QK) : w.heap.size ≤ gb289)); have n8_ := Y0.mk ((Nat.le_trans HW0.out (by rw [hg]; exact (Ya (w := w) (g := g) (row := none) QK) : w.heap.size ≤ gb289) : w0.heap.size ≤ gb289)); have n9_ := Y0.mk ((by rw [hg]; exact Nat.ne_of_lt (YO (g := gb242) (o := .cells #[.int .i64 0, .string (⟨#[]⟩ : ByteArray), .slice none 0 0, .slice none 0 0] 37 (0, 0)) QQ) : gb242 ≠ gb289)); have n10_ := Y0.mk ((by rw [hg]; exact Nat.ne_of_gt (YO (g := gb242) (o := .cells #[.int .i64 0, .string (⟨#[]⟩ : ByteArray), .slice none 0 0, .slice none 0 0] 37 (0, 0)) QQ) : gb289 ≠ gb242)); have n11_ := Y0.mk ((by rw [hg]; exact Nat.ne_of_lt (Ye.lt (show Ye w0 _ g t285 t286 t287 t288 from QI75_0)) : g ≠ gb289)); have n12_ := Y0.mk ((by rw [hg]; exact Nat.ne_of_gt (Ye.lt (show Ye w0 _ g t285 t286 t287 t288 from QI75_0)) : gb289 ≠ g)); clear HO281 HO284 HI0 BK242 HK HB; have HO281 := n0_; have HO284 := n1_; have HI0 := n2_; have BK242 := n3_; have HK := n4_; have HB := n5_; have BK289 := n6_; have GW289 := n7_; have GE289 := n8_; have NB242_289 := n9_; have NB289_242 := n10_; have NB0_289 := n11_; have NB289_0 := n12_; clear n0_ n1_ n2_ n3_ n4_ n5_ n6_ n7_ n8_ n9_ n10_ n11_ n12_ hb hbox hg; have hnb39 := NB289_242.out; have hnc39 := NB242_289.out; have hnb40 := NB289_0.out; have hnc40 := NB0_289.out; obtain ⟨hcz41_0, hcz41_1, hcz41_2, hcz41_3, hfz41_0, hfz41_1, hfz41_2, hfz41_3⟩ := Yt BK289.out; obtain ⟨Ao42, co42, eo42⟩ := Kd.R_slice HO281.out; subst eo42; obtain ⟨Ao43, co43, eo43⟩ := Kd.N_slice HO284.out; subst eo43) | ((with_reducible refine Yg (f := 142) rfl ?_); refine YG (some 46) rfl rfl Tryd.func142 Z4 rfl #[.pointer (some ⟨g, 0, none⟩), .int .u8 41] rfl Z0 ?_; (with_reducible refine (YK.calls k g t285 t286 t287 t288 41 t290 t291 t292 t293 w0 _ ?side1 ?side2 A33.out).mono ?_); (case side1 => exact Z13); (case side2 => exact QB); rintro e w44 ⟨rfl, hi, hb, hk⟩; refine ⟨_, rfl, ?_⟩; have n0_ := Y0.mk (Y4.blk hk (g' := gb242) (o := .cells #[.int .i64 0, .string (⟨#[]⟩ : ByteArray), .slice none 0 0, .slice none 0 0] 37 (0, 0)) (by (with_reducible repeat (first | refine Y9 ?_ _ | refine Y8 ?_ | refine Y7 ?_ _)); exact YL (by (with_reducible repeat (first | refine Y9 ?_ _ | refine Y8 ?_ | refine Y7 ?_ _)); exact YL (by (with_reducible repeat (first | refine Y9 ?_ _ | refine Y8 ?_ | refine Y7 ?_ _)); exact YL (by (with_reducible repeat (first | refine Y9 ?_ _ | refine Y8 ?_ | refine Y7 ?_ _)); exact YL QQ NB242_289.out _) NB242_289.out _) NB242_289.out _) NB242_289.out _) NB242_0.out (by simp)); have n1_ := Y0.mk (Kd.R_mono (Kd.R_keep (Ye.apart (show Ye w0 _ g t285 t286 t287 t288 from QI75_0) (by (with_reducible repeat (first | apply Kd.R_alloc | apply Kd.R_drewN | apply Kd.R_drew)); exact (Kd.R_mono (Kd.R_far (p := ⟨gb289, 3, none⟩) (Kd.R_far (p := ⟨gb289, 2, none⟩) (Kd.R_far (p := ⟨gb289, 1, none⟩) (Kd.R_far (p := ⟨gb289, 0, none⟩) (Kd.R_types HO281.out BK289.out (by decide)) (fun _ hk => hk.2) (.int .i64 t277)) (fun _ hk => hk.2) (.string t278)) (fun _ hk => hk.2) (.slice Ao42 t279.length co42)) (fun _ hk => hk.2) (.slice Ao43 t282.length co43)) (fun _ h_ => h_.1))) (by decide)) hk (fun _ h => h.2)) (fun _ h => h.1)); have n2_ := Y0.mk (Kd.N_mono (Kd.N_keep (Kd.N_mono (ok := fun k_ => ((((w.heap.size ≤ k_)) ∧ (some k_ ≠ (.slice Ao42 t279.length co42 : Value).ownBlock ∧ (k_ ≠ gb242 ∧ k_ ≠ g))) ∧ k_ ≠ gb289)) (by (with_reducible repeat (first | apply Kd.N_alloc | apply Kd.N_drewN | apply Kd.N_drew)); exact (Kd.N_mono (Kd.N_far (p := ⟨gb289, 3, none⟩) (Kd.N_far (p := ⟨gb289, 2, none⟩) (Kd.N_far (p := ⟨gb289, 1, none⟩) (Kd.N_far (p := ⟨gb289, 0, none⟩) (Kd.N_mono HO284.out (fun k_ hk => (⟨hk, hk.2⟩ : _ ∧ k_ ≠ gb289))) (fun _ hk => hk.2) (.int .i64 t277)) (fun _ hk => hk.2) (.string t278)) (fun _ hk => hk.2) (.slice Ao42 t279.length co42)) (fun _ hk => hk.2) (.slice Ao43 t282.length co43)) (fun _ h_ => h_.1))) (fun k_ hk_ => (⟨hk_, hk_.1.2.2.2⟩ : _ ∧ k_ ≠ g))) hk (fun _ h => h.2)) (fun _ h => h.1)); have n3_ := Y0.mk (Y4.blk hk (g' := gb289) (o := .cells #[.int .i64 t277, .string t278, .slice Ao42 t279.length co42, .slice Ao43 t282.length co43] 37 (0, 0)) Z1t NB289_0.out (by simp)); have n4_ := Y0.mk (Y4.trans QK hk (.inl rfl)); have n5_ := Y0.mk (hb); have n6_ := Y0.mk (hi); clear BK242 HO281 HO284 BK289 HK HB HI0; have BK242 := n0_; have HO281 := n1_; have HO284 := n2_; have BK289 := n3_; have HK := n4_; have HB := n5_; have HI0 := n6_; clear n0_ n1_ n2_ n3_ n4_ n5_ n6_; (try clear hb); (try clear hb2); (try clear hk); (try clear hi); obtain ⟨hcz45_0, hcz45_1, hcz45_2, hcz45_3, hfz45_0, hfz45_1, hfz45_2, hfz45_3⟩ := Yt BK289.out; have hnb46 := NB242_0.out; have hnc46 := NB0_242.out; obtain ⟨hcz47_0, hcz47_1, hcz47_2, hcz47_3, hfz47_0, hfz47_1, hfz47_2, hfz47_3⟩ := Yt BK242.out))
     refine bodyPost_ret (results_cell_row rfl _ _ gb242 37 #[.int .i64 t277, .string t278, .slice Ao42 t279.length co42, .slice Ao43 t282.length co43] (0, 0) _ rfl Z1t Tryd.underlying37 rfl Z4) rfl ?_
     exact ⟨_, _, Z2, by (with_reducible repeat (first | apply Kd.R_alloc | apply Kd.R_drewN | apply Kd.R_drew)); exact Kd.R_mono (Kd.R_far (p := ⟨gb242, 3, none⟩) (Kd.R_far (p := ⟨gb242, 2, none⟩) (Kd.R_far (p := ⟨gb242, 1, none⟩) (Kd.R_far (p := ⟨gb242, 0, none⟩) (Kd.R_types HO281.out BK242.out (by decide)) (fun _ hk => hk.2) (.int .i64 t277)) (fun _ hk => hk.2) (.string t278)) (fun _ hk => hk.2) (.slice Ao42 t279.length co42)) (fun _ hk => hk.2) (.slice Ao43 t282.length co43)) (fun _ hk => hk.1.1), by (with_reducible repeat (first | apply Kd.N_alloc | apply Kd.N_drewN | apply Kd.N_drew)); exact Kd.N_mono (Kd.N_far (p := ⟨gb242, 3, none⟩) (Kd.N_far (p := ⟨gb242, 2, none⟩) (Kd.N_far (p := ⟨gb242, 1, none⟩) (Kd.N_far (p := ⟨gb242, 0, none⟩) (Kd.N_mono HO284.out (fun k_ hk => (⟨hk, hk.1.2.2.1⟩ : _ ∧ k_ ≠ gb242))) (fun _ hk => hk.2) (.int .i64 t277)) (fun _ hk => hk.2) (.string t278)) (fun _ hk => hk.2) (.slice Ao42 t279.length co42)) (fun _ hk => hk.2) (.slice Ao43 t282.length co43)) (fun _ hk => ⟨hk.1.1.1, hk.1.1.2.1⟩), QI75_0, QB, QK⟩
   ·rw [if_neg c21] at H
    have c21b0 : (t243 == 40) = false := beq_eq_false_iff_ne.mpr c21
    have c21b1 : (t243 != 40) = true := bne_iff_ne.mpr c21
    replace H := Option.bind_eq_some_iff.mp H
    obtain ⟨⟨t294, t295, t296, t299, t302, t303, t304, t305⟩, A480, H⟩ := H
    replace H : (some (t294, t295, t296, t299, t302, t303, t304, t305)) = some (r1, r2, r3, r4, r5, r6, r7, r8) := H
    have A48 := Y0.mk A480
    clear A480
    simp only [Option.some.injEq, Prod.mk.injEq] at H
    obtain ⟨rfl, rfl, rfl, rfl, rfl, rfl, rfl, rfl⟩ := H
    go_enter Tryd.func134, Tryd.ntmps134
    go_wp2_with (first | ((with_reducible refine Ym (N := 4) rfl ?_); refine Yl ?hg (N := 4) ?hd (cs := #[.int .i64 0, .string (⟨#[]⟩ : ByteArray), .slice none 0 0, .slice none 0 0]) (t := 37) ?hr ?_; (case hd => rfl); (case hg => rfl); (case hr => exact Z6); intro gb242 hg w49 hbox hb; have n_ := Y3q (Ye.below QI75_0 hb) (Y4.trans QK (Y4.of_below hb g none) (.inl rfl)) (Y5 QB hb) (hbox) ((by rw [hg]; exact (Ya (w := w) (g := g) (row := none) QK) : w.heap.size ≤ gb242)) ((Nat.le_trans HW0.out (by rw [hg]; exact (Ya (w := w) (g := g) (row := none) QK) : w.heap.size ≤ gb242) : w0.heap.size ≤ gb242)) ((by rw [hg]; exact Nat.ne_of_lt (Ye.lt (show Ye w0 _ g s0_0 s0_1 s0_2 s0_3 from QI75_0)) : g ≠ gb242)) ((by rw [hg]; exact Nat.ne_of_gt (Ye.lt (show Ye w0 _ g s0_0 s0_1 s0_2 s0_3 from QI75_0)) : gb242 ≠ g)); clear HI0 HK HB; obtain ⟨HI0, HK, HB, BK242, GW242, GE242, NB0_242, NB242_0⟩ := n_; clear hb hbox hg) | ((with_reducible refine Yg (f := 53) rfl ?_); refine YG (some 7) rfl rfl Tryd.func53 Z4 rfl #[.pointer (some ⟨g, 0, none⟩)] rfl Z0 ?_; (with_reducible refine (Yc.calls k g s0_0 s0_1 s0_2 s0_3 t243 t244 t245 t246 t247 w0 _ ?side1 ?side2 A3.out).mono ?_); (case side1 => exact Z13); (case side2 => exact QB); rintro e w50 ⟨rfl, hi, hb, hk⟩; refine ⟨_, rfl, ?_⟩; have n_ := Y1T (Y4.blk hk (g' := gb242) (o := .cells #[.int .i64 0, .string (⟨#[]⟩ : ByteArray), .slice none 0 0, .slice none 0 0] 37 (0, 0)) QQ NB242_0.out (by simp)) (Y4.trans QK hk (.inl rfl)) (hb) (hi); clear BK242 HK HB HI0; obtain ⟨BK242, HK, HB, HI0⟩ := n_; (try clear hb); (try clear hb2); (try clear hk); (try clear hi); obtain ⟨HGz51, hgz51⟩ := HI0.out; have hcz51_0 := YA HGz51; have hcz51_1 := YB HGz51; have hcz51_2 := YC HGz51; have hcz51_3 := YD HGz51; have hfz51_0 := Y3 HGz51 0; have hfz51_1 := Y3 HGz51 1; have hfz51_2 := Y3 HGz51 2; have hfz51_3 := Y3 HGz51 3; clear HGz51 hgz51) | ((with_reducible refine Yg (f := 54) rfl ?_); refine YG (some 53) rfl rfl Tryd.func54 Z4 rfl #[.pointer (some ⟨g, 0, none⟩), .int .i64 t245, .int .i64 2] rfl Z0 ?_; (with_reducible refine (Yb.calls g t244 t245 t246 t247 t245 2 t294 t295 t296 t299 t302 t303 t304 t305 w0 _ ?side1 ?side2 A48.out).mono ?_); (case side1 => exact Z13); (case side2 => exact QB); rintro e w52 ⟨v297, v300, rfl, ho0, ho1, hi, hb, hk⟩; refine ⟨_, rfl, ?_⟩; have n0_ := Y0.mk (Y4.blk hk (g' := gb242) (o := .cells #[.int .i64 0, .string (⟨#[]⟩ : ByteArray), .slice none 0 0, .slice none 0 0] 37 (0, 0)) QQ NB242_0.out (by simp)); have n1_ := Y0.mk (Kd.R_lower (Kd.R_newM (M := fun k_ => (w.heap.size ≤ k_)) (Kd.R_mono (ok' := fun k_ => True) ho0 (fun _ hk_ => trivial)) (Ya (w := w) (g := g) (row := none) QK) (fun k_ h_ => h_)) (Ya (w := w) (g := g) (row := none) QK)); have n2_ := Y0.mk (Kd.N_lower (Kd.N_mono (ok' := fun k_ => (w.heap.size ≤ k_) ∧ some k_ ≠ (v297 : Value).ownBlock ∧ k_ ≠ gb242 ∧ k_ ≠ g) ho1 (fun k_ hk_ => ⟨(Nat.le_trans (Ya (w := w) (g := g) (row := none) QK) hk_.1), hk_.2, (Kd.freshB (g := gb242) (o := .cells #[.int .i64 0, .string (⟨#[]⟩ : ByteArray), .slice none 0 0, .slice none 0 0] 37 (0, 0)) QQ k_ hk_.1), (Ye.fresh QI75_0 k_ hk_.1)⟩)) (Ya (w := w) (g := g) (row := none) QK)); have n3_ := Y0.mk (Y4.trans QK hk (.inl rfl)); have n4_ := Y0.mk (hb); have n5_ := Y0.mk (hi); clear BK242 HK HB HI0; have BK242 := n0_; have HO298 := n1_; have HO301 := n2_; have HK := n3_; have HB := n4_; have HI0 := n5_; clear n0_ n1_ n2_ n3_ n4_ n5_; (try clear hb); (try clear hb2); (try clear hk); (try clear hi); (try clear ho0); (try clear ho1); have hnb53 := NB242_0.out; have hnc53 := NB0_242.out; obtain ⟨hcz54_0, hcz54_1, hcz54_2, hcz54_3, hfz54_0, hfz54_1, hfz54_2, hfz54_3⟩ := Yt BK242.out; obtain ⟨Ao55, co55, eo55⟩ := Kd.R_slice HO298.out; subst eo55; obtain ⟨Ao56, co56, eo56⟩ := Kd.N_slice HO301.out; subst eo56))
    refine bodyPost_ret (results_cell_row rfl _ _ gb242 37 #[.int .i64 t294, .string t295, .slice Ao55 t296.length co55, .slice Ao56 t299.length co56] (0, 0) _ rfl (by (with_reducible repeat (first | refine Y9 ?_ _ | refine Y8 ?_ | refine Y7 ?_ _)); exact Yp (cs := #[.int .i64 t294, .string t295, .slice Ao55 t296.length co55, .slice none 0 0]) (by (with_reducible repeat (first | refine Y9 ?_ _ | refine Y8 ?_ | refine Y7 ?_ _)); exact Yp (cs := #[.int .i64 t294, .string t295, .slice none 0 0, .slice none 0 0]) (by (with_reducible repeat (first | refine Y9 ?_ _ | refine Y8 ?_ | refine Y7 ?_ _)); exact Yp (cs := #[.int .i64 t294, .string (⟨#[]⟩ : ByteArray), .slice none 0 0, .slice none 0 0]) Z1 1 _ rfl) 2 _ rfl) 3 _ rfl) Tryd.underlying37 rfl Z4) rfl ?_
    exact ⟨_, _, Z2, by (with_reducible repeat (first | apply Kd.R_alloc | apply Kd.R_drewN | apply Kd.R_drew)); exact Kd.R_mono (Kd.R_far (p := ⟨gb242, 3, none⟩) (Kd.R_far (p := ⟨gb242, 2, none⟩) (Kd.R_far (p := ⟨gb242, 1, none⟩) (Kd.R_far (p := ⟨gb242, 0, none⟩) (Kd.R_types HO298.out BK242.out (by decide)) (fun _ hk => hk.2) (.int .i64 t294)) (fun _ hk => hk.2) (.string t295)) (fun _ hk => hk.2) (.slice Ao55 t296.length co55)) (fun _ hk => hk.2) (.slice Ao56 t299.length co56)) (fun _ hk => hk.1.1), by (with_reducible repeat (first | apply Kd.N_alloc | apply Kd.N_drewN | apply Kd.N_drew)); exact Kd.N_mono (Kd.N_far (p := ⟨gb242, 3, none⟩) (Kd.N_far (p := ⟨gb242, 2, none⟩) (Kd.N_far (p := ⟨gb242, 1, none⟩) (Kd.N_far (p := ⟨gb242, 0, none⟩) (Kd.N_mono HO301.out (fun k_ hk => (⟨hk, hk.2.2.1⟩ : _ ∧ k_ ≠ gb242))) (fun _ hk => hk.2) (.int .i64 t294)) (fun _ hk => hk.2) (.string t295)) (fun _ hk => hk.2) (.slice Ao55 t296.length co55)) (fun _ hk => hk.2) (.slice Ao56 t299.length co56)) (fun _ hk => ⟨hk.1.1, hk.1.2.1⟩), QI75_0, QB, QK⟩
theorem Yi.joint : ∀ k, Yi.Spec k ∧ Yo.Spec k ∧ Yd.Spec k ∧ Yv.Spec k ∧ Yy.Spec k := by
 intro k
 induction k using Nat.strongRecOn with
 | _ k ih => exact ⟨Yi.Y2w k ih, Yo.Y2w k ih, Yd.Y2w k ih, Yv.Y2w k ih, Yy.Y2w k ih⟩
theorem Yi.calls (k : Nat) : Yi.Spec k := (Yi.joint k).1
def Yw.j0 : Nat → ByteArray → Bool → ByteArray → Int → Int → Int → Int → ByteArray → List ByteArray → List (S37) → Option (Int × ByteArray × List ByteArray × (List (S37)) × Int × Int)
 | 0, _, _, _, _, _, _, _, _, _, _ => none
 | k + 1, x0, x34, x103000, x103001, x103002, x103003, x116000, x116001, x116002, x116003 => if x34 = true then ((Yb.f x103000 x103001 x103002 x103003 x103001 2).bind fun bt121 => (if bt121.2.2.2.2.2.2.1 = 0 then (some (x116000, x116001, x116002, x116003, (x0.size : Int), 0)) else (some (0, (⟨#[]⟩ : ByteArray), ([] : List ByteArray), ([] : List (S37)), bt121.2.2.2.2.2.2.2, bt121.2.2.2.2.2.2.1)))) else (if x103002 = 0 then (some (x116000, x116001, x116002, x116003, (x0.size : Int), 0)) else (some (0, (⟨#[]⟩ : ByteArray), ([] : List ByteArray), ([] : List (S37)), x103003, x103002)))
def Yw.f (k : Nat) (a0 : ByteArray) : Option (Int × ByteArray × List ByteArray × (List (S37)) × Int × Int) := if (a0.size : Int) > 600 then (some (0, (⟨#[]⟩ : ByteArray), ([] : List ByteArray), ([] : List (S37)), 0, 4)) else ((Yi.f k a0 0 0 0 0).bind fun bt103 => ((Yc.f k bt103.2.2.2.2.1 bt103.2.2.2.2.2.1 bt103.2.2.2.2.2.2.1 bt103.2.2.2.2.2.2.2).bind fun bt116 => (if bt116.1 = 0 then (if bt116.2.2.2.1 = 0 then (Yw.j0 k a0 (decide (bt116.2.2.1 < (a0.size : Int))) bt116.2.1 bt116.2.2.1 bt116.2.2.2.1 bt116.2.2.2.2 bt103.1 bt103.2.1 bt103.2.2.1 bt103.2.2.2.1) else (Yw.j0 k a0 false bt116.2.1 bt116.2.2.1 bt116.2.2.2.1 bt116.2.2.2.2 bt103.1 bt103.2.1 bt103.2.2.1 bt103.2.2.2.1)) else (Yw.j0 k a0 true bt116.2.1 bt116.2.2.1 bt116.2.2.2.1 bt116.2.2.2.2 bt103.1 bt103.2.1 bt103.2.2.1 bt103.2.2.2.1))))
def Yw.T8 : Bool × List (List Nat × List Nat) := (true, [([], []), ([], []), ([1], [1]), ([2], [2]), ([3], [3]), ([], []), ([5], [5]), ([6], [6]), ([7], [7]), ([0, 0], [0]), ([4, 9, 0, 1, 2, 3, 4, 9], [4]), ([8, 10, 0, 1, 2, 3, 4, 5, 6, 7, 8, 9, 10], [8])])
def Yw.B8 : List Nat := [0, 0, 2, 6, 14, 0, 32, 96, 224, 1, 543, 2047]
theorem Yw.tab8 : Y2u .any (Y3L Tryd.f25 8) = Yw.T8 := by kernel_rfl
theorem Yw.bits8 : Y1P Yw.T8.2 Yw.B8 = true := by kernel_rfl
set_option maxHeartbeats 8000000 in
set_option maxRecDepth 100000 in
theorem Yw.calls (k : Nat) (a0 : ByteArray) (r1 : Int) (r2 : ByteArray) (r3 : List ByteArray) (r4 : List (S37)) (r5 : Int) (r6 : Int) (w : World) (hT : Tabs w) (h : Yw.f k a0 = some (r1, r2, r3, r4, r5, r6)) :
  Calls Tryd.prog 25 #[.string a0] w fun e w' => ∃ v2_ v3_ : Value, e = .returned (.tuple #[.agg #[.int .i64 r1, .string r2, v2_, v3_], .int .i64 r5, .int .i64 r6]) ∧ Kd.R Kd.string 9 w' w.heap.size (fun k_ => (w.heap.size ≤ k_)) v2_ r3 ∧ Kd.N k37 37 w' w.heap.size (fun k_ => (w.heap.size ≤ k_) ∧ some k_ ≠ (v2_ : Value).ownBlock) v3_ r4 ∧ Below w.heap.size w w' := by
 have HT := Y0.mk hT
 clear hT
 have hu37 := Tryd.underlying37
 have hu75 := Tryd.underlying75
 have HB := Y0.mk (Below.refl w.heap.size w)
 have H : (if (a0.size : Int) > 600 then (some (0, (⟨#[]⟩ : ByteArray), ([] : List ByteArray), ([] : List (S37)), 0, 4)) else ((Yi.f k a0 0 0 0 0).bind fun bt103 => ((Yc.f k bt103.2.2.2.2.1 bt103.2.2.2.2.2.1 bt103.2.2.2.2.2.2.1 bt103.2.2.2.2.2.2.2).bind fun bt116 => (if bt116.1 = 0 then (if bt116.2.2.2.1 = 0 then (Yw.j0 k a0 (decide (bt116.2.2.1 < (a0.size : Int))) bt116.2.1 bt116.2.2.1 bt116.2.2.2.1 bt116.2.2.2.2 bt103.1 bt103.2.1 bt103.2.2.1 bt103.2.2.2.1) else (Yw.j0 k a0 false bt116.2.1 bt116.2.2.1 bt116.2.2.2.1 bt116.2.2.2.2 bt103.1 bt103.2.1 bt103.2.2.1 bt103.2.2.2.1)) else (Yw.j0 k a0 true bt116.2.1 bt116.2.2.1 bt116.2.2.2.1 bt116.2.2.2.2 bt103.1 bt103.2.1 bt103.2.2.1 bt103.2.2.2.1))))) = some (r1, r2, r3, r4, r5, r6) := h
 clear h
 by_cases c2 : (a0.size : Int) > 600
 ·rw [if_pos c2] at H
  have c2b0 : decide (600 < (a0.size : Int)) = true := decide_eq_true c2
  have c2b1 : decide (600 < a0.size) = true := decide_eq_true (by omega)
  clear c2
  simp only [Option.some.injEq, Prod.mk.injEq] at H
  obtain ⟨rfl, rfl, rfl, rfl, rfl, rfl⟩ := H
  go_enter Tryd.func25, Tryd.ntmps25
  go_wp2_with (first | ((with_reducible refine Ym (N := 2) rfl ?_); (try (refine YH (by rfl) ?_; dsimp only)); refine Yl ?hg (N := 2) ?hd (cs := #[.int .i64 0, .string (⟨#[]⟩ : ByteArray), .slice none 0 0, .slice none 0 0]) (t := 37) ?hr ?_; (case hd => rfl); (case hg => rfl); (case hr => exact Z6); intro gb101 hg w3 hbox hb; have n_ := Y1T (Y5 QB hb) (hbox) ((by rw [hg]; exact (Y6 QB) : w.heap.size ≤ gb101)) ((by rw [hg]; exact (Y6 QB) : w.heap.size ≤ gb101)); clear HB; obtain ⟨HB, BK101, GW101, GE101⟩ := n_; clear hb hbox hg; obtain ⟨hcz4_0, hcz4_1, hcz4_2, hcz4_3, hfz4_0, hfz4_1, hfz4_2, hfz4_3⟩ := Yt BK101.out))
  refine bodyPost_ret (Y1O rfl _ _ gb101 37 #[.int .i64 0, .string (⟨#[]⟩ : ByteArray), .slice none 0 0, .slice none 0 0] (0, 0) _ rfl Z1p Tryd.underlying37 rfl Z4) rfl ?_
  exact ⟨_, _, Z2, Z7, Z7, QB⟩
 ·rw [if_neg c2] at H
  have c2b0 : decide (600 < (a0.size : Int)) = false := decide_eq_false c2
  have c2b1 : decide (600 < a0.size) = false := decide_eq_false (by omega)
  clear c2
  replace H := Option.bind_eq_some_iff.mp H
  obtain ⟨⟨t103, t104, t105, t108, t111, t112, t113, t114⟩, A50, H⟩ := H
  replace H : ((Yc.f k t111 t112 t113 t114).bind fun bt116 => (if bt116.1 = 0 then (if bt116.2.2.2.1 = 0 then (Yw.j0 k a0 (decide (bt116.2.2.1 < (a0.size : Int))) bt116.2.1 bt116.2.2.1 bt116.2.2.2.1 bt116.2.2.2.2 t103 t104 t105 t108) else (Yw.j0 k a0 false bt116.2.1 bt116.2.2.1 bt116.2.2.2.1 bt116.2.2.2.2 t103 t104 t105 t108)) else (Yw.j0 k a0 true bt116.2.1 bt116.2.2.1 bt116.2.2.2.1 bt116.2.2.2.2 t103 t104 t105 t108))) = some (r1, r2, r3, r4, r5, r6) := H
  have A5 := Y0.mk A50
  clear A50
  have HC6 := Y0.mk H
  clear H
  go_enter Tryd.func25, Tryd.ntmps25
  go_upto_region 5 with (first | ((with_reducible refine Ym (N := 2) rfl ?_); (try (refine YH (by rfl) ?_; dsimp only)); refine Yl ?hg (N := 2) ?hd (cs := #[.int .i64 0, .string (⟨#[]⟩ : ByteArray), .slice none 0 0, .slice none 0 0]) (t := 37) ?hr ?_; (case hd => rfl); (case hg => rfl); (case hr => exact Z6); intro gb101 hg w7 hbox hb; have n_ := Y1T (Y5 QB hb) (hbox) ((by rw [hg]; exact (Y6 QB) : w.heap.size ≤ gb101)) ((by rw [hg]; exact (Y6 QB) : w.heap.size ≤ gb101)); clear HB; obtain ⟨HB, BK101, GW101, GE101⟩ := n_; clear hb hbox hg) | ((with_reducible refine Ym (N := 13) rfl ?_); (try (refine YH (by rfl) ?_; dsimp only)); refine Yl ?hg (N := 13) ?hd (cs := #[.string a0, .int .i64 0, .int .i64 0, .int .i64 0]) (t := 75) ?hr ?_; (case hd => rfl); (case hg => rfl); (case hr => exact Z6); intro gb102 hg w8 hbox hb; have n_ := Y3p (Yh (g := gb101) (o := .cells #[.int .i64 0, .string (⟨#[]⟩ : ByteArray), .slice none 0 0, .slice none 0 0] 37 (0, 0)) QQ hb) (Y5 QB hb) ((by rw [hg]; exact (Y6 QB) : w.heap.size ≤ gb102)) ((by rw [hg]; exact (Y6 QB) : w.heap.size ≤ gb102)) ((by rw [hg]; exact Nat.ne_of_lt (YO (g := gb101) (o := .cells #[.int .i64 0, .string (⟨#[]⟩ : ByteArray), .slice none 0 0, .slice none 0 0] 37 (0, 0)) QQ) : gb101 ≠ gb102)) ((by rw [hg]; exact Nat.ne_of_gt (YO (g := gb101) (o := .cells #[.int .i64 0, .string (⟨#[]⟩ : ByteArray), .slice none 0 0, .slice none 0 0] 37 (0, 0)) QQ) : gb102 ≠ gb101)) ((⟨hbox, (by rw [hg]; exact (Y6 QB))⟩ : Ye w w8 gb102 a0 0 0 0)); clear BK101 HB; obtain ⟨BK101, HB, GW102, GE102, NB101_102, NB102_101, HI102⟩ := n_; clear hb hbox hg) | ((with_reducible refine Yg (f := 52) rfl ?_); refine YG (some 15) rfl rfl Tryd.func52 Z4 rfl #[.pointer (some ⟨gb102, 0, none⟩), .int .i64 0] rfl Z0 ?_; (with_reducible refine (Yi.calls k gb102 a0 0 0 0 0 t103 t104 t105 t108 t111 t112 t113 t114 w _ ?side1 ?side2 ?side3 A5.out).mono ?_); (case side1 => exact QI75_102); (case side2 => exact QB); (case side3 => exact HT.out); rintro e w9 ⟨v106, v109, rfl, ho0, ho1, hi, hb, hk⟩; refine ⟨_, rfl, ?_⟩; have n0_ := Y0.mk (Y4.blk hk (g' := gb101) (o := .cells #[.int .i64 0, .string (⟨#[]⟩ : ByteArray), .slice none 0 0, .slice none 0 0] 37 (0, 0)) QQ NB101_102.out (by simp)); have n1_ := Y0.mk (Kd.R_lower (Kd.R_newM (M := fun k_ => (w.heap.size ≤ k_)) (Kd.R_mono (ok' := fun k_ => True) ho0 (fun _ hk_ => trivial)) (Y6 QB) (fun k_ h_ => h_)) (Y6 QB)); have n2_ := Y0.mk (Kd.N_lower (Kd.N_mono (ok' := fun k_ => (w.heap.size ≤ k_) ∧ some k_ ≠ (v106 : Value).ownBlock ∧ k_ ≠ gb101 ∧ k_ ≠ gb102) ho1 (fun k_ hk_ => ⟨(Nat.le_trans (Y6 QB) hk_.1), hk_.2, (Kd.freshB (g := gb101) (o := .cells #[.int .i64 0, .string (⟨#[]⟩ : ByteArray), .slice none 0 0, .slice none 0 0] 37 (0, 0)) QQ k_ hk_.1), (Ye.fresh QI75_102 k_ hk_.1)⟩)) (Y6 QB)); have n3_ := Y0.mk (hb); have n4_ := Y0.mk (hi); clear BK101 HB HI102; have BK101 := n0_; have HO107 := n1_; have HO110 := n2_; have HB := n3_; have HI102 := n4_; clear n0_ n1_ n2_ n3_ n4_; (try clear hb); (try clear hb2); (try clear hk); (try clear hi); (try clear ho0); (try clear ho1)) | ((with_reducible refine Ym (N := 6) rfl ?_); (try (refine YH (by rfl) ?_; dsimp only)); refine Yl ?hg (N := 6) ?hd (cs := #[.int .i64 0, .string (⟨#[]⟩ : ByteArray), .slice none 0 0, .slice none 0 0]) (t := 37) ?hr ?_; (case hd => rfl); (case hg => rfl); (case hr => exact Z6); intro gb115 hg w10 hbox hb; have n0_ := Y0.mk (Kd.R_below (by (with_reducible repeat (first | apply Kd.R_alloc | apply Kd.R_drewN | apply Kd.R_drew)); exact HO107.out) hb); have n1_ := Y0.mk (Kd.N_below (Kd.N_elderB ZE gb115 (Nat.le_of_eq hg.symm)) hb); have n2_ := Y0.mk (Yh (g := gb101) (o := .cells #[.int .i64 0, .string (⟨#[]⟩ : ByteArray), .slice none 0 0, .slice none 0 0] 37 (0, 0)) QQ hb); have n3_ := Y0.mk (Ye.below QI75_102 hb); have n4_ := Y0.mk (Y5 QB hb); have n5_ := Y0.mk (hbox); have n6_ := Y0.mk ((by rw [hg]; exact (Y6 QB) : w.heap.size ≤ gb115)); have n7_ := Y0.mk ((by rw [hg]; exact (Y6 QB) : w.heap.size ≤ gb115)); have n8_ := Y0.mk ((by rw [hg]; exact Nat.ne_of_lt (YO (g := gb101) (o := .cells #[.int .i64 0, .string (⟨#[]⟩ : ByteArray), .slice none 0 0, .slice none 0 0] 37 (0, 0)) QQ) : gb101 ≠ gb115)); have n9_ := Y0.mk ((by rw [hg]; exact Nat.ne_of_gt (YO (g := gb101) (o := .cells #[.int .i64 0, .string (⟨#[]⟩ : ByteArray), .slice none 0 0, .slice none 0 0] 37 (0, 0)) QQ) : gb115 ≠ gb101)); have n10_ := Y0.mk ((by rw [hg]; exact Nat.ne_of_lt (Ye.lt (show Ye w _ gb102 t111 t112 t113 t114 from QI75_102)) : gb102 ≠ gb115)); have n11_ := Y0.mk ((by rw [hg]; exact Nat.ne_of_gt (Ye.lt (show Ye w _ gb102 t111 t112 t113 t114 from QI75_102)) : gb115 ≠ gb102)); clear HO107 HO110 BK101 HI102 HB; have HO107 := n0_; have HO110 := n1_; have BK101 := n2_; have HI102 := n3_; have HB := n4_; have BK115 := n5_; have GW115 := n6_; have GE115 := n7_; have NB101_115 := n8_; have NB115_101 := n9_; have NB102_115 := n10_; have NB115_102 := n11_; clear n0_ n1_ n2_ n3_ n4_ n5_ n6_ n7_ n8_ n9_ n10_ n11_ hb hbox hg; have hnb11 := NB115_101.out; have hnc11 := NB101_115.out; have hnb12 := NB115_102.out; have hnc12 := NB102_115.out; obtain ⟨hcz13_0, hcz13_1, hcz13_2, hcz13_3, hfz13_0, hfz13_1, hfz13_2, hfz13_3⟩ := Yt BK115.out; obtain ⟨Ao14, co14, eo14⟩ := Kd.R_slice HO107.out; subst eo14; obtain ⟨Ao15, co15, eo15⟩ := Kd.N_slice HO110.out; subst eo15))
  (try simp only [Act.put, List.setIfInBounds_toArray, List.set_cons_zero, List.set_cons_succ])
  go_cut [34] (fun v34 wc => ∃ (kq : Nat) (x34_5 : Bool) (x103000_5 : ByteArray) (x103001_5 : Int) (x103002_5 : Int) (x103003_5 : Int), v34 = .bool x34_5 ∧ Y0 (Yw.j0 kq a0 x34_5 x103000_5 x103001_5 x103002_5 x103003_5 t103 t104 t105 t108 = some (r1, r2, r3, r4, r5, r6)) ∧ Y0 (kq ≤ k) ∧ Y0 (Kd.R Kd.string 9 wc w.heap.size (fun k_ => (w.heap.size ≤ k_)) (.slice Ao14 t105.length co14) t105) ∧ Y0 (Kd.N k37 37 wc w.heap.size (fun k_ => (w.heap.size ≤ k_) ∧ some k_ ≠ ((.slice Ao14 t105.length co14) : Value).ownBlock ∧ k_ ≠ gb101 ∧ k_ ≠ gb115 ∧ k_ ≠ gb102) (.slice Ao15 t108.length co15) t108) ∧ Y0 (wc.heap[gb101]? = some (.cells #[.int .i64 0, .string (⟨#[]⟩ : ByteArray), (.slice none 0 0), (.slice none 0 0)] 37 (0, 0))) ∧ Y0 (wc.heap[gb115]? = some (.cells #[.int .i64 t103, .string t104, (.slice Ao14 t105.length co14), (.slice Ao15 t108.length co15)] 37 (0, 0))) ∧ Y0 (Ye w wc gb102 x103000_5 x103001_5 x103002_5 x103003_5) ∧ Y0 (Below w.heap.size w wc))
  case first =>
   have H := HC6.out
   clear HC6
   replace H := Option.bind_eq_some_iff.mp H
   obtain ⟨⟨t116, t117, t118, t119, t120⟩, A160, H⟩ := H
   replace H : (if t116 = 0 then (if t119 = 0 then (Yw.j0 k a0 (decide (t118 < (a0.size : Int))) t117 t118 t119 t120 t103 t104 t105 t108) else (Yw.j0 k a0 false t117 t118 t119 t120 t103 t104 t105 t108)) else (Yw.j0 k a0 true t117 t118 t119 t120 t103 t104 t105 t108)) = some (r1, r2, r3, r4, r5, r6) := H
   have A16 := Y0.mk A160
   clear A160
   by_cases c17 : t116 = 0
   ·rw [if_pos c17] at H
    have c17b0 : (t116 == 0) = true := beq_iff_eq.mpr c17
    have c17b1 : (t116 != 0) = false := bne_eq_false_iff_eq.mpr c17
    clear c17
    (first | rw [c17b0] | (simp only [Y11, Y18]; rw [c17b0]) | skip)
    by_cases c18 : t119 = 0
    ·rw [if_pos c18] at H
     have c18b0 : (t119 == 0) = true := beq_iff_eq.mpr c18
     have c18b1 : (t119 != 0) = false := bne_eq_false_iff_eq.mpr c18
     clear c18
     have H' := Y0.mk H
     clear H
     go_wp2_with (first | ((with_reducible refine Yg (f := 53) rfl ?_); refine YG (some 17) rfl rfl Tryd.func53 Z4 rfl #[.pointer (some ⟨gb102, 0, none⟩)] rfl Z0 ?_; (with_reducible refine (Yc.calls k gb102 t111 t112 t113 t114 t116 t117 t118 t119 t120 w _ ?side1 ?side2 A16.out).mono ?_); (case side1 => exact QI75_102); (case side2 => exact QB); rintro e w19 ⟨rfl, hi, hb, hk⟩; refine ⟨_, rfl, ?_⟩; have n0_ := Y0.mk (Y4.blk hk (g' := gb101) (o := .cells #[.int .i64 0, .string (⟨#[]⟩ : ByteArray), .slice none 0 0, .slice none 0 0] 37 (0, 0)) Zg NB101_102.out (by simp)); have n1_ := Y0.mk (Kd.R_mono (Kd.R_keep (Ye.apart (show Ye w _ gb102 t111 t112 t113 t114 from QI75_102) Zi (by decide)) hk (fun _ h => h.2)) (fun _ h => h.1)); have n2_ := Y0.mk (Kd.N_mono (Kd.N_keep (Kd.N_mono (ok := fun k_ => ((((w.heap.size ≤ k_)) ∧ (some k_ ≠ (.slice Ao14 t105.length co14 : Value).ownBlock ∧ (k_ ≠ gb101 ∧ k_ ≠ gb102))) ∧ k_ ≠ gb115)) Zh (fun k_ hk_ => (⟨hk_, hk_.1.2.2.2⟩ : _ ∧ k_ ≠ gb102))) hk (fun _ h => h.2)) (fun _ h => h.1)); have n3_ := Y0.mk (Y4.blk hk (g' := gb115) (o := .cells #[.int .i64 t103, .string t104, .slice Ao14 t105.length co14, .slice Ao15 t108.length co15] 37 (0, 0)) Z1n NB115_102.out (by simp)); have n4_ := Y0.mk (hb); have n5_ := Y0.mk (hi); clear BK101 HO107 HO110 BK115 HB HI102; have BK101 := n0_; have HO107 := n1_; have HO110 := n2_; have BK115 := n3_; have HB := n4_; have HI102 := n5_; clear n0_ n1_ n2_ n3_ n4_ n5_; (try clear hb); (try clear hb2); (try clear hk); (try clear hi); obtain ⟨HGz20, hgz20⟩ := HI102.out; have hcz20_0 := YA HGz20; have hcz20_1 := YB HGz20; have hcz20_2 := YC HGz20; have hcz20_3 := YD HGz20; have hfz20_0 := Y3 HGz20 0; have hfz20_1 := Y3 HGz20 1; have hfz20_2 := Y3 HGz20 2; have hfz20_3 := Y3 HGz20 3; clear HGz20 hgz20))
     go_meet
     case rel => exact ⟨_, (decide (t118 < (a0.size : Int))), (t117), (t118), (t119), (t120), Zb, H', ⟨Z10⟩, ⟨Z11⟩, ⟨ZS⟩, ⟨Zf⟩, ⟨Z15⟩, ⟨QI75_102⟩, ⟨QB⟩⟩
    ·rw [if_neg c18] at H
     have c18b0 : (t119 == 0) = false := beq_eq_false_iff_ne.mpr c18
     have c18b1 : (t119 != 0) = true := bne_iff_ne.mpr c18
     have H' := Y0.mk H
     clear H
     go_wp2_with (first | ((with_reducible refine Yg (f := 53) rfl ?_); refine YG (some 17) rfl rfl Tryd.func53 Z4 rfl #[.pointer (some ⟨gb102, 0, none⟩)] rfl Z0 ?_; (with_reducible refine (Yc.calls k gb102 t111 t112 t113 t114 t116 t117 t118 t119 t120 w _ ?side1 ?side2 A16.out).mono ?_); (case side1 => exact QI75_102); (case side2 => exact QB); rintro e w21 ⟨rfl, hi, hb, hk⟩; refine ⟨_, rfl, ?_⟩; have n0_ := Y0.mk (Y4.blk hk (g' := gb101) (o := .cells #[.int .i64 0, .string (⟨#[]⟩ : ByteArray), .slice none 0 0, .slice none 0 0] 37 (0, 0)) Zg NB101_102.out (by simp)); have n1_ := Y0.mk (Kd.R_mono (Kd.R_keep (Ye.apart (show Ye w _ gb102 t111 t112 t113 t114 from QI75_102) Zi (by decide)) hk (fun _ h => h.2)) (fun _ h => h.1)); have n2_ := Y0.mk (Kd.N_mono (Kd.N_keep (Kd.N_mono (ok := fun k_ => ((((w.heap.size ≤ k_)) ∧ (some k_ ≠ (.slice Ao14 t105.length co14 : Value).ownBlock ∧ (k_ ≠ gb101 ∧ k_ ≠ gb102))) ∧ k_ ≠ gb115)) Zh (fun k_ hk_ => (⟨hk_, hk_.1.2.2.2⟩ : _ ∧ k_ ≠ gb102))) hk (fun _ h => h.2)) (fun _ h => h.1)); have n3_ := Y0.mk (Y4.blk hk (g' := gb115) (o := .cells #[.int .i64 t103, .string t104, .slice Ao14 t105.length co14, .slice Ao15 t108.length co15] 37 (0, 0)) Z1n NB115_102.out (by simp)); have n4_ := Y0.mk (hb); have n5_ := Y0.mk (hi); clear BK101 HO107 HO110 BK115 HB HI102; have BK101 := n0_; have HO107 := n1_; have HO110 := n2_; have BK115 := n3_; have HB := n4_; have HI102 := n5_; clear n0_ n1_ n2_ n3_ n4_ n5_; (try clear hb); (try clear hb2); (try clear hk); (try clear hi); obtain ⟨HGz22, hgz22⟩ := HI102.out; have hcz22_0 := YA HGz22; have hcz22_1 := YB HGz22; have hcz22_2 := YC HGz22; have hcz22_3 := YD HGz22; have hfz22_0 := Y3 HGz22 0; have hfz22_1 := Y3 HGz22 1; have hfz22_2 := Y3 HGz22 2; have hfz22_3 := Y3 HGz22 3; clear HGz22 hgz22))
     go_meet
     case rel => exact ⟨_, (false), (t117), (t118), (t119), (t120), Zb, H', ⟨Z10⟩, ⟨Z11⟩, ⟨ZS⟩, ⟨Zf⟩, ⟨Z15⟩, ⟨QI75_102⟩, ⟨QB⟩⟩
   ·rw [if_neg c17] at H
    have c17b0 : (t116 == 0) = false := beq_eq_false_iff_ne.mpr c17
    have c17b1 : (t116 != 0) = true := bne_iff_ne.mpr c17
    (first | rw [c17b0] | (simp only [Y11, Y18]; rw [c17b0]) | skip)
    have H' := Y0.mk H
    clear H
    go_wp2_with (first | ((with_reducible refine Yg (f := 53) rfl ?_); refine YG (some 17) rfl rfl Tryd.func53 Z4 rfl #[.pointer (some ⟨gb102, 0, none⟩)] rfl Z0 ?_; (with_reducible refine (Yc.calls k gb102 t111 t112 t113 t114 t116 t117 t118 t119 t120 w _ ?side1 ?side2 A16.out).mono ?_); (case side1 => exact QI75_102); (case side2 => exact QB); rintro e w23 ⟨rfl, hi, hb, hk⟩; refine ⟨_, rfl, ?_⟩; have n0_ := Y0.mk (Y4.blk hk (g' := gb101) (o := .cells #[.int .i64 0, .string (⟨#[]⟩ : ByteArray), .slice none 0 0, .slice none 0 0] 37 (0, 0)) Zg NB101_102.out (by simp)); have n1_ := Y0.mk (Kd.R_mono (Kd.R_keep (Ye.apart (show Ye w _ gb102 t111 t112 t113 t114 from QI75_102) Zi (by decide)) hk (fun _ h => h.2)) (fun _ h => h.1)); have n2_ := Y0.mk (Kd.N_mono (Kd.N_keep (Kd.N_mono (ok := fun k_ => ((((w.heap.size ≤ k_)) ∧ (some k_ ≠ (.slice Ao14 t105.length co14 : Value).ownBlock ∧ (k_ ≠ gb101 ∧ k_ ≠ gb102))) ∧ k_ ≠ gb115)) Zh (fun k_ hk_ => (⟨hk_, hk_.1.2.2.2⟩ : _ ∧ k_ ≠ gb102))) hk (fun _ h => h.2)) (fun _ h => h.1)); have n3_ := Y0.mk (Y4.blk hk (g' := gb115) (o := .cells #[.int .i64 t103, .string t104, .slice Ao14 t105.length co14, .slice Ao15 t108.length co15] 37 (0, 0)) Z1n NB115_102.out (by simp)); have n4_ := Y0.mk (hb); have n5_ := Y0.mk (hi); clear BK101 HO107 HO110 BK115 HB HI102; have BK101 := n0_; have HO107 := n1_; have HO110 := n2_; have BK115 := n3_; have HB := n4_; have HI102 := n5_; clear n0_ n1_ n2_ n3_ n4_ n5_; (try clear hb); (try clear hb2); (try clear hk); (try clear hi)))
    go_meet
    case rel => exact ⟨_, (true), (t117), (t118), (t119), (t120), Zb, H', ⟨Z10⟩, ⟨Z11⟩, ⟨ZS⟩, ⟨Zf⟩, ⟨Z15⟩, ⟨QI75_102⟩, ⟨QB⟩⟩
  case rest =>
   clear HC6
   try clear c1
   try clear c2
   try clear c2b0
   try clear c2b1
   try clear p2
   try clear c5
   try clear c11
   try clear c12
   try clear c17
   try clear c17b0
   try clear c17b1
   try clear c18
   try clear c18b0
   try clear c18b1
   try clear hcz13_0 hcz13_1 hcz13_2 hcz13_3
   try clear hcz20_0 hcz20_1 hcz20_2 hcz20_3
   try clear hcz22_0 hcz22_1 hcz22_2 hcz22_3
   try clear hcz4_0 hcz4_1 hcz4_2 hcz4_3
   try clear hfz13_0
   try clear hfz13_1
   try clear hfz13_2
   try clear hfz13_3
   try clear hfz20_0
   try clear hfz20_1
   try clear hfz20_2
   try clear hfz20_3
   try clear hfz22_0
   try clear hfz22_1
   try clear hfz22_2
   try clear hfz22_3
   try clear hfz4_0
   try clear hfz4_1
   try clear hfz4_2
   try clear hfz4_3
   obtain ⟨kq, x34_5, x103000_5, x103001_5, x103002_5, x103003_5, rfl, HA, HJ5, HO_116002, HO_116003, BK101, BK115, HI102, HB⟩ := hcut
   cases kq with
   | zero => exact absurd HA.out (by simp [Yw.j0])
   | succ kj5 =>
    have H := HA.out
    clear HA
    simp only [Yw.j0] at H
    by_cases c24 : x34_5 = true
    ·subst c24
     have H1 : ((Yb.f x103000_5 x103001_5 x103002_5 x103003_5 x103001_5 2).bind fun bt121 => (if bt121.2.2.2.2.2.2.1 = 0 then (some (t103, t104, t105, t108, (a0.size : Int), 0)) else (some (0, (⟨#[]⟩ : ByteArray), ([] : List ByteArray), ([] : List (S37)), bt121.2.2.2.2.2.2.2, bt121.2.2.2.2.2.2.1)))) = some (r1, r2, r3, r4, r5, r6) := by rw [if_pos rfl] at H; exact H
     clear H
     have H := H1
     clear H1
     replace H := Option.bind_eq_some_iff.mp H
     obtain ⟨⟨t121, t122, t123, t126, t129, t130, t131, t132⟩, A250, H⟩ := H
     replace H : (if t131 = 0 then (some (t103, t104, t105, t108, (a0.size : Int), 0)) else (some (0, (⟨#[]⟩ : ByteArray), ([] : List ByteArray), ([] : List (S37)), t132, t131))) = some (r1, r2, r3, r4, r5, r6) := H
     have A25 := Y0.mk A250
     clear A250
     by_cases c26 : t131 = 0
     ·rw [if_pos c26] at H
      have c26b0 : (t131 == 0) = true := beq_iff_eq.mpr c26
      have c26b1 : (t131 != 0) = false := bne_eq_false_iff_eq.mpr c26
      clear c26
      simp only [Option.some.injEq, Prod.mk.injEq] at H
      obtain ⟨rfl, rfl, rfl, rfl, rfl, rfl⟩ := H
      obtain ⟨hcz27_0, hcz27_1, hcz27_2, hcz27_3, hfz27_0, hfz27_1, hfz27_2, hfz27_3⟩ := Yt HI102.out.1
      go_wp2_with (first | ((with_reducible refine Yg (f := 54) rfl ?_); refine YG (some 40) rfl rfl Tryd.func54 Z4 rfl #[.pointer (some ⟨gb102, 0, none⟩), .int .i64 x103001_5, .int .i64 2] rfl Z0 ?_; (with_reducible refine (Yb.calls gb102 x103000_5 x103001_5 x103002_5 x103003_5 x103001_5 2 t121 t122 t123 t126 t129 t130 t131 t132 w _ ?side1 ?side2 A25.out).mono ?_); (case side1 => exact QI75_102); (case side2 => exact QB); rintro e w28 ⟨v124, v127, rfl, ho0, ho1, hi, hb, hk⟩; refine ⟨_, rfl, ?_⟩; have n0_ := Y0.mk (Kd.R_mono (Kd.R_told (Kd.R_oldK (Ye.apart (show Ye w _ gb102 x103000_5 x103001_5 x103002_5 x103003_5 from QI75_102) Zw (by decide)) hk) (Kd.R_base ho0)) (fun _ h_ => h_.1)); have n1_ := Y0.mk (Kd.N_mono (Kd.N_told (Kd.N_told (Kd.N_oldK (Kd.N_mono (ok := fun k_ => (((w.heap.size ≤ k_)) ∧ (some k_ ≠ (.slice Ao14 t105.length co14 : Value).ownBlock ∧ (k_ ≠ gb101 ∧ (k_ ≠ gb115 ∧ k_ ≠ gb102))))) ZV (fun k_ hk_ => (⟨hk_, hk_.2.2.2.2⟩ : _ ∧ k_ ≠ gb102))) hk) (Kd.R_base ho0)) (Kd.N_base ho1)) (fun _ h_ => h_.1)); have n2_ := Y0.mk (Y4.blk hk (g' := gb101) (o := .cells #[.int .i64 0, .string (⟨#[]⟩ : ByteArray), .slice none 0 0, .slice none 0 0] 37 (0, 0)) QQ NB101_102.out (by simp)); have n3_ := Y0.mk (Y4.blk hk (g' := gb115) (o := .cells #[.int .i64 t103, .string t104, .slice Ao14 t105.length co14, .slice Ao15 t108.length co15] 37 (0, 0)) QQ NB115_102.out (by simp)); have n4_ := Y0.mk (Kd.R_lower (Kd.R_new' (Kd.R_newM (M := fun k_ => (w.heap.size ≤ k_)) (Kd.R_mono (ok' := fun k_ => True) ho0 (fun _ hk_ => trivial)) (Y6 QB) (fun k_ h_ => h_)) (Kd.R_lt Zw)) (Y6 QB)); have n5_ := Y0.mk (Kd.N_lower (Kd.N_mono (ok' := fun k_ => (w.heap.size ≤ k_) ∧ some k_ ≠ (v124 : Value).ownBlock ∧ some k_ ≠ (.slice Ao14 t105.length co14 : Value).ownBlock ∧ some k_ ≠ (.slice Ao15 t108.length co15 : Value).ownBlock ∧ k_ ≠ gb101 ∧ k_ ≠ gb115 ∧ k_ ≠ gb102) ho1 (fun k_ hk_ => ⟨(Nat.le_trans (Y6 QB) hk_.1), hk_.2, (Kd.fresh' (Kd.R_lt Zw) k_ hk_.1), (Kd.fresh' (Kd.N_lt ZV) k_ hk_.1), (Kd.freshB (g := gb101) (o := .cells #[.int .i64 0, .string (⟨#[]⟩ : ByteArray), .slice none 0 0, .slice none 0 0] 37 (0, 0)) QQ k_ hk_.1), (Kd.freshB (g := gb115) (o := .cells #[.int .i64 t103, .string t104, .slice Ao14 t105.length co14, .slice Ao15 t108.length co15] 37 (0, 0)) QQ k_ hk_.1), (Ye.fresh QI75_102 k_ hk_.1)⟩)) (Y6 QB)); have n6_ := Y0.mk (hb); have n7_ := Y0.mk (hi); clear HO_116002 HO_116003 BK101 BK115 HB HI102; have HO_116002 := n0_; have HO_116003 := n1_; have BK101 := n2_; have BK115 := n3_; have HO125 := n4_; have HO128 := n5_; have HB := n6_; have HI102 := n7_; clear n0_ n1_ n2_ n3_ n4_ n5_ n6_ n7_; (try clear hb); (try clear hb2); (try clear hk); (try clear hi); (try clear ho0); (try clear ho1); obtain ⟨HGz29, hgz29⟩ := HI102.out; have hcz29_0 := YA HGz29; have hcz29_1 := YB HGz29; have hcz29_2 := YC HGz29; have hcz29_3 := YD HGz29; have hfz29_0 := Y3 HGz29 0; have hfz29_1 := Y3 HGz29 1; have hfz29_2 := Y3 HGz29 2; have hfz29_3 := Y3 HGz29 3; clear HGz29 hgz29; have hnb30 := NB115_101.out; have hnc30 := NB101_115.out; have hnb31 := NB115_102.out; have hnc31 := NB102_115.out; obtain ⟨hcz32_0, hcz32_1, hcz32_2, hcz32_3, hfz32_0, hfz32_1, hfz32_2, hfz32_3⟩ := Yt BK115.out; have hnb33 := NB101_102.out; have hnc33 := NB102_101.out; obtain ⟨hcz34_0, hcz34_1, hcz34_2, hcz34_3, hfz34_0, hfz34_1, hfz34_2, hfz34_3⟩ := Yt BK101.out))
      refine bodyPost_ret (Y1O rfl _ _ gb101 37 #[.int .i64 t103, .string t104, .slice Ao14 t105.length co14, .slice Ao15 t108.length co15] (0, 0) _ rfl Z1n Tryd.underlying37 rfl Z4) rfl ?_
      exact ⟨_, _, Z2, by (with_reducible repeat (first | apply Kd.R_alloc | apply Kd.R_drewN | apply Kd.R_drew)); exact Kd.R_mono (Kd.R_far (p := ⟨gb101, 3, none⟩) (Kd.R_far (p := ⟨gb101, 2, none⟩) (Kd.R_far (p := ⟨gb101, 1, none⟩) (Kd.R_far (p := ⟨gb101, 0, none⟩) (Kd.R_types HO_116002.out BK101.out (by decide)) (fun _ hk => hk.2) (.int .i64 t103)) (fun _ hk => hk.2) (.string t104)) (fun _ hk => hk.2) (.slice Ao14 t105.length co14)) (fun _ hk => hk.2) (.slice Ao15 t108.length co15)) (fun _ hk => hk.1.1), by (with_reducible repeat (first | apply Kd.N_alloc | apply Kd.N_drewN | apply Kd.N_drew)); exact Kd.N_mono (Kd.N_far (p := ⟨gb101, 3, none⟩) (Kd.N_far (p := ⟨gb101, 2, none⟩) (Kd.N_far (p := ⟨gb101, 1, none⟩) (Kd.N_far (p := ⟨gb101, 0, none⟩) (Kd.N_mono HO_116003.out (fun k_ hk => (⟨hk, hk.1.1.2.2.1⟩ : _ ∧ k_ ≠ gb101))) (fun _ hk => hk.2) (.int .i64 t103)) (fun _ hk => hk.2) (.string t104)) (fun _ hk => hk.2) (.slice Ao14 t105.length co14)) (fun _ hk => hk.2) (.slice Ao15 t108.length co15)) (fun _ hk => ⟨hk.1.1.1.1, hk.1.1.1.2.1⟩), QB⟩
     ·rw [if_neg c26] at H
      have c26b0 : (t131 == 0) = false := beq_eq_false_iff_ne.mpr c26
      have c26b1 : (t131 != 0) = true := bne_iff_ne.mpr c26
      simp only [Option.some.injEq, Prod.mk.injEq] at H
      obtain ⟨rfl, rfl, rfl, rfl, rfl, rfl⟩ := H
      obtain ⟨hcz35_0, hcz35_1, hcz35_2, hcz35_3, hfz35_0, hfz35_1, hfz35_2, hfz35_3⟩ := Yt HI102.out.1
      try go_wp2_with (first | ((with_reducible refine Yg (f := 54) rfl ?_); refine YG (some 40) rfl rfl Tryd.func54 Z4 rfl #[.pointer (some ⟨gb102, 0, none⟩), .int .i64 x103001_5, .int .i64 2] rfl Z0 ?_; (with_reducible refine (Yb.calls gb102 x103000_5 x103001_5 x103002_5 x103003_5 x103001_5 2 t121 t122 t123 t126 t129 t130 t131 t132 w _ ?side1 ?side2 A25.out).mono ?_); (case side1 => exact QI75_102); (case side2 => exact QB); rintro e w36 ⟨v124, v127, rfl, ho0, ho1, hi, hb, hk⟩; refine ⟨_, rfl, ?_⟩; have n0_ := Y0.mk (Kd.R_mono (Kd.R_told (Kd.R_oldK (Ye.apart (show Ye w _ gb102 x103000_5 x103001_5 x103002_5 x103003_5 from QI75_102) Zw (by decide)) hk) (Kd.R_base ho0)) (fun _ h_ => h_.1)); have n1_ := Y0.mk (Kd.N_mono (Kd.N_told (Kd.N_told (Kd.N_oldK (Kd.N_mono (ok := fun k_ => (((w.heap.size ≤ k_)) ∧ (some k_ ≠ (.slice Ao14 t105.length co14 : Value).ownBlock ∧ (k_ ≠ gb101 ∧ (k_ ≠ gb115 ∧ k_ ≠ gb102))))) ZV (fun k_ hk_ => (⟨hk_, hk_.2.2.2.2⟩ : _ ∧ k_ ≠ gb102))) hk) (Kd.R_base ho0)) (Kd.N_base ho1)) (fun _ h_ => h_.1)); have n2_ := Y0.mk (Y4.blk hk (g' := gb101) (o := .cells #[.int .i64 0, .string (⟨#[]⟩ : ByteArray), .slice none 0 0, .slice none 0 0] 37 (0, 0)) QQ NB101_102.out (by simp)); have n3_ := Y0.mk (Y4.blk hk (g' := gb115) (o := .cells #[.int .i64 t103, .string t104, .slice Ao14 t105.length co14, .slice Ao15 t108.length co15] 37 (0, 0)) QQ NB115_102.out (by simp)); have n4_ := Y0.mk (Kd.R_lower (Kd.R_new' (Kd.R_newM (M := fun k_ => (w.heap.size ≤ k_)) (Kd.R_mono (ok' := fun k_ => True) ho0 (fun _ hk_ => trivial)) (Y6 QB) (fun k_ h_ => h_)) (Kd.R_lt Zw)) (Y6 QB)); have n5_ := Y0.mk (Kd.N_lower (Kd.N_mono (ok' := fun k_ => (w.heap.size ≤ k_) ∧ some k_ ≠ (v124 : Value).ownBlock ∧ some k_ ≠ (.slice Ao14 t105.length co14 : Value).ownBlock ∧ some k_ ≠ (.slice Ao15 t108.length co15 : Value).ownBlock ∧ k_ ≠ gb101 ∧ k_ ≠ gb115 ∧ k_ ≠ gb102) ho1 (fun k_ hk_ => ⟨(Nat.le_trans (Y6 QB) hk_.1), hk_.2, (Kd.fresh' (Kd.R_lt Zw) k_ hk_.1), (Kd.fresh' (Kd.N_lt ZV) k_ hk_.1), (Kd.freshB (g := gb101) (o := .cells #[.int .i64 0, .string (⟨#[]⟩ : ByteArray), .slice none 0 0, .slice none 0 0] 37 (0, 0)) QQ k_ hk_.1), (Kd.freshB (g := gb115) (o := .cells #[.int .i64 t103, .string t104, .slice Ao14 t105.length co14, .slice Ao15 t108.length co15] 37 (0, 0)) QQ k_ hk_.1), (Ye.fresh QI75_102 k_ hk_.1)⟩)) (Y6 QB)); have n6_ := Y0.mk (hb); have n7_ := Y0.mk (hi); clear HO_116002 HO_116003 BK101 BK115 HB HI102; have HO_116002 := n0_; have HO_116003 := n1_; have BK101 := n2_; have BK115 := n3_; have HO125 := n4_; have HO128 := n5_; have HB := n6_; have HI102 := n7_; clear n0_ n1_ n2_ n3_ n4_ n5_ n6_ n7_; (try clear hb); (try clear hb2); (try clear hk); (try clear hi); (try clear ho0); (try clear ho1); obtain ⟨HGz37, hgz37⟩ := HI102.out; have hcz37_0 := YA HGz37; have hcz37_1 := YB HGz37; have hcz37_2 := YC HGz37; have hcz37_3 := YD HGz37; have hfz37_0 := Y3 HGz37 0; have hfz37_1 := Y3 HGz37 1; have hfz37_2 := Y3 HGz37 2; have hfz37_3 := Y3 HGz37 3; clear HGz37 hgz37))
      have n_ := Y3q (Kd.R_drew HO_116002.out) (Kd.N_drew HO_116003.out) (Kd.R_drew HO125.out) (Kd.N_drew HO128.out) (Y8 BK101.out) (Y8 BK115.out) (Ye.drew HI102.out) (YI HB.out)
      clear HO_116002
      clear HO_116003
      clear HO125
      clear HO128
      clear BK101
      clear BK115
      clear HI102
      clear HB
      obtain ⟨HO_116002, HO_116003, HO125, HO128, BK101, BK115, HI102, HB⟩ := n_
      refine Y1v (n := 12) (S := fun w' => w'.cell? ⟨gb102, 0, none⟩ = some (.string t129) ∧ w'.cell? ⟨gb102, 1, none⟩ = some (.int .i64 t130) ∧ w'.cell? ⟨gb102, 2, none⟩ = some (.int .i64 t131) ∧ w'.cell? ⟨gb102, 3, none⟩ = some (.int .i64 t132)) (ds := []) bz12_0 Z4 rfl rfl ⟨YA HI102.out.1, YB HI102.out.1, YC HI102.out.1, YD HI102.out.1⟩ (fun hHeld => ?_); refine YT Yw.tab8 Yw.bits8 (fun HT_ HW_ => ?_)
      generalize w36.drew = w38 at HO_116002 HO_116003 HO125 HO128 BK101 BK115 HI102 HB hHeld ⊢
      refine pY 0 46 bz12_1 ?_
      refine pY 1 47 bz12_3 ?_
      refine pY 2 48 bz12_7 ?_
      refine pY 3 49 bz12_f ?_
      refine pY 5 51 bz12_2f ?_
      refine pY 6 52 bz12_6f ?_
      refine pY 7 53 bz12_ef ?_
      refine pT 4 50 bz12_ff ?_
      refine pT 8 54 Y3P ?_
      refine Y23 (i := 9) (N := none) Y3Q rfl rfl (Y1f HT_.out Z4) (by decide) (fun K hK => ?_)
      have hs39 : w38.cell? ⟨gb101, 0, none⟩ = some (.int .i64 0) := (Y2 BK101.out 0).trans rfl
      have hfs39 := Y3 BK101.out 0
      have hns39_1 := NB115_101.out
      have hms39_1 := NB101_115.out
      have hs40 : w38.cell? ⟨gb101, 1, none⟩ = some (.string (⟨#[]⟩ : ByteArray)) := (Y2 BK101.out 1).trans rfl
      have hfs40 := Y3 BK101.out 1
      have hns40_1 := NB115_101.out
      have hms40_1 := NB101_115.out
      have hs41 : w38.cell? ⟨gb101, 2, none⟩ = some (.slice none 0 0) := (Y2 BK101.out 2).trans rfl
      have hfs41 := Y3 BK101.out 2
      have hns41_1 := NB115_101.out
      have hms41_1 := NB101_115.out
      have hs42 : w38.cell? ⟨gb101, 3, none⟩ = some (.slice none 0 0) := (Y2 BK101.out 3).trans rfl
      have hfs42 := Y3 BK101.out 3
      have hns42_1 := NB115_101.out
      have hms42_1 := NB101_115.out
      refine skip_ (w1 := ?_) (by rfl) rfl ?_ ?_
      rotate_left
      ·go_simp
       rfl
      refine hK.out _ _ ⟨((Yr (p := ⟨gb101, _, none⟩) NB102_101.out _).trans (((Yr (p := ⟨gb101, _, none⟩) NB102_101.out _).trans (((Yr (p := ⟨gb101, _, none⟩) NB102_101.out _).trans (((Yr (p := ⟨gb101, _, none⟩) NB102_101.out _).trans (hHeld.1)))))))), ((Yr (p := ⟨gb101, _, none⟩) NB102_101.out _).trans (((Yr (p := ⟨gb101, _, none⟩) NB102_101.out _).trans (((Yr (p := ⟨gb101, _, none⟩) NB102_101.out _).trans (((Yr (p := ⟨gb101, _, none⟩) NB102_101.out _).trans (hHeld.2.1)))))))), ((Yr (p := ⟨gb101, _, none⟩) NB102_101.out _).trans (((Yr (p := ⟨gb101, _, none⟩) NB102_101.out _).trans (((Yr (p := ⟨gb101, _, none⟩) NB102_101.out _).trans (((Yr (p := ⟨gb101, _, none⟩) NB102_101.out _).trans (hHeld.2.2.1)))))))), ((Yr (p := ⟨gb101, _, none⟩) NB102_101.out _).trans (((Yr (p := ⟨gb101, _, none⟩) NB102_101.out _).trans (((Yr (p := ⟨gb101, _, none⟩) NB102_101.out _).trans (((Yr (p := ⟨gb101, _, none⟩) NB102_101.out _).trans (hHeld.2.2.2))))))))⟩ (fun hHeld => ?_)
      clear hK K
      refine pY 10 3 Y3R ?_
      refine pY 11 4 Y3S ?_
      refine Y1Q (Y1n HT_.out Z4) ?_
      try go_wp2
      refine bodyPost_ret (Y1O rfl _ _ gb101 37 #[.int .i64 0, .string (⟨#[]⟩ : ByteArray), .slice none 0 0, .slice none 0 0] (0, 0) _ rfl Z1p Tryd.underlying37 rfl Z4) rfl ?_
      exact ⟨_, _, Z2, Z7, Z7, QB⟩
    ·replace c24 := Bool.eq_false_iff.mpr c24
     subst c24
     have H1 : (if x103002_5 = 0 then (some (t103, t104, t105, t108, (a0.size : Int), 0)) else (some (0, (⟨#[]⟩ : ByteArray), ([] : List ByteArray), ([] : List (S37)), x103003_5, x103002_5))) = some (r1, r2, r3, r4, r5, r6) := by rw [if_neg (show ¬ (false = true) by decide)] at H; exact H
     clear H
     have H := H1
     clear H1
     by_cases c43 : x103002_5 = 0
     ·rw [if_pos c43] at H
      have c43b0 : (x103002_5 == 0) = true := beq_iff_eq.mpr c43
      have c43b1 : (x103002_5 != 0) = false := bne_eq_false_iff_eq.mpr c43
      clear c43
      simp only [Option.some.injEq, Prod.mk.injEq] at H
      obtain ⟨rfl, rfl, rfl, rfl, rfl, rfl⟩ := H
      obtain ⟨hcz44_0, hcz44_1, hcz44_2, hcz44_3, hfz44_0, hfz44_1, hfz44_2, hfz44_3⟩ := Yt HI102.out.1
      have hnb45 := NB115_101.out
      have hnc45 := NB101_115.out
      have hnb46 := NB115_102.out
      have hnc46 := NB102_115.out
      obtain ⟨hcz47_0, hcz47_1, hcz47_2, hcz47_3, hfz47_0, hfz47_1, hfz47_2, hfz47_3⟩ := Yt BK115.out
      have hnb48 := NB101_102.out
      have hnc48 := NB102_101.out
      obtain ⟨hcz49_0, hcz49_1, hcz49_2, hcz49_3, hfz49_0, hfz49_1, hfz49_2, hfz49_3⟩ := Yt BK101.out
      go_wp2
      refine bodyPost_ret (Y1O rfl _ _ gb101 37 #[.int .i64 t103, .string t104, .slice Ao14 t105.length co14, .slice Ao15 t108.length co15] (0, 0) _ rfl Z1n Tryd.underlying37 rfl Z4) rfl ?_
      exact ⟨_, _, Z2, by (with_reducible repeat (first | apply Kd.R_alloc | apply Kd.R_drewN | apply Kd.R_drew)); exact Kd.R_mono (Kd.R_far (p := ⟨gb101, 3, none⟩) (Kd.R_far (p := ⟨gb101, 2, none⟩) (Kd.R_far (p := ⟨gb101, 1, none⟩) (Kd.R_far (p := ⟨gb101, 0, none⟩) (Kd.R_types HO_116002.out BK101.out (by decide)) (fun _ hk => hk.2) (.int .i64 t103)) (fun _ hk => hk.2) (.string t104)) (fun _ hk => hk.2) (.slice Ao14 t105.length co14)) (fun _ hk => hk.2) (.slice Ao15 t108.length co15)) (fun _ hk => hk.1), by (with_reducible repeat (first | apply Kd.N_alloc | apply Kd.N_drewN | apply Kd.N_drew)); exact Kd.N_mono (Kd.N_far (p := ⟨gb101, 3, none⟩) (Kd.N_far (p := ⟨gb101, 2, none⟩) (Kd.N_far (p := ⟨gb101, 1, none⟩) (Kd.N_far (p := ⟨gb101, 0, none⟩) (Kd.N_mono HO_116003.out (fun k_ hk => (⟨hk, hk.2.2.1⟩ : _ ∧ k_ ≠ gb101))) (fun _ hk => hk.2) (.int .i64 t103)) (fun _ hk => hk.2) (.string t104)) (fun _ hk => hk.2) (.slice Ao14 t105.length co14)) (fun _ hk => hk.2) (.slice Ao15 t108.length co15)) (fun _ hk => ⟨hk.1.1, hk.1.2.1⟩), QB⟩
     ·rw [if_neg c43] at H
      have c43b0 : (x103002_5 == 0) = false := beq_eq_false_iff_ne.mpr c43
      have c43b1 : (x103002_5 != 0) = true := bne_iff_ne.mpr c43
      simp only [Option.some.injEq, Prod.mk.injEq] at H
      obtain ⟨rfl, rfl, rfl, rfl, rfl, rfl⟩ := H
      obtain ⟨hcz50_0, hcz50_1, hcz50_2, hcz50_3, hfz50_0, hfz50_1, hfz50_2, hfz50_3⟩ := Yt HI102.out.1
      try go_wp2
      have n_ := Y2W (Kd.R_drew HO_116002.out) (Kd.N_drew HO_116003.out) (Y8 BK101.out) (Y8 BK115.out) (Ye.drew HI102.out) (YI HB.out)
      clear HO_116002
      clear HO_116003
      clear BK101
      clear BK115
      clear HI102
      clear HB
      obtain ⟨HO_116002, HO_116003, BK101, BK115, HI102, HB⟩ := n_
      refine Y1v (n := 12) (S := fun w' => w'.cell? ⟨gb102, 0, none⟩ = some (.string x103000_5) ∧ w'.cell? ⟨gb102, 1, none⟩ = some (.int .i64 x103001_5) ∧ w'.cell? ⟨gb102, 2, none⟩ = some (.int .i64 x103002_5) ∧ w'.cell? ⟨gb102, 3, none⟩ = some (.int .i64 x103003_5)) (ds := []) bz12_0 Z4 rfl rfl ⟨YA HI102.out.1, YB HI102.out.1, YC HI102.out.1, YD HI102.out.1⟩ (fun hHeld => ?_); refine YT Yw.tab8 Yw.bits8 (fun HT_ HW_ => ?_)
      generalize wc.drew = w51 at HO_116002 HO_116003 BK101 BK115 HI102 HB hHeld ⊢
      refine pY 0 46 bz12_1 ?_
      refine pY 1 47 bz12_3 ?_
      refine pY 2 48 bz12_7 ?_
      refine pY 3 49 bz12_f ?_
      refine pY 5 51 bz12_2f ?_
      refine pY 6 52 bz12_6f ?_
      refine pY 7 53 bz12_ef ?_
      refine pT 4 50 bz12_ff ?_
      refine pT 8 54 Y3P ?_
      refine Y23 (i := 9) (N := none) Y3Q rfl rfl (Y1f HT_.out Z4) (by decide) (fun K hK => ?_)
      have hs52 : w51.cell? ⟨gb101, 0, none⟩ = some (.int .i64 0) := (Y2 BK101.out 0).trans rfl
      have hfs52 := Y3 BK101.out 0
      have hns52_1 := NB115_101.out
      have hms52_1 := NB101_115.out
      have hs53 : w51.cell? ⟨gb101, 1, none⟩ = some (.string (⟨#[]⟩ : ByteArray)) := (Y2 BK101.out 1).trans rfl
      have hfs53 := Y3 BK101.out 1
      have hns53_1 := NB115_101.out
      have hms53_1 := NB101_115.out
      have hs54 : w51.cell? ⟨gb101, 2, none⟩ = some (.slice none 0 0) := (Y2 BK101.out 2).trans rfl
      have hfs54 := Y3 BK101.out 2
      have hns54_1 := NB115_101.out
      have hms54_1 := NB101_115.out
      have hs55 : w51.cell? ⟨gb101, 3, none⟩ = some (.slice none 0 0) := (Y2 BK101.out 3).trans rfl
      have hfs55 := Y3 BK101.out 3
      have hns55_1 := NB115_101.out
      have hms55_1 := NB101_115.out
      refine skip_ (w1 := ?_) (by rfl) rfl ?_ ?_
      rotate_left
      ·go_simp
       rfl
      refine hK.out _ _ ⟨((Yr (p := ⟨gb101, _, none⟩) NB102_101.out _).trans (((Yr (p := ⟨gb101, _, none⟩) NB102_101.out _).trans (((Yr (p := ⟨gb101, _, none⟩) NB102_101.out _).trans (((Yr (p := ⟨gb101, _, none⟩) NB102_101.out _).trans (hHeld.1)))))))), ((Yr (p := ⟨gb101, _, none⟩) NB102_101.out _).trans (((Yr (p := ⟨gb101, _, none⟩) NB102_101.out _).trans (((Yr (p := ⟨gb101, _, none⟩) NB102_101.out _).trans (((Yr (p := ⟨gb101, _, none⟩) NB102_101.out _).trans (hHeld.2.1)))))))), ((Yr (p := ⟨gb101, _, none⟩) NB102_101.out _).trans (((Yr (p := ⟨gb101, _, none⟩) NB102_101.out _).trans (((Yr (p := ⟨gb101, _, none⟩) NB102_101.out _).trans (((Yr (p := ⟨gb101, _, none⟩) NB102_101.out _).trans (hHeld.2.2.1)))))))), ((Yr (p := ⟨gb101, _, none⟩) NB102_101.out _).trans (((Yr (p := ⟨gb101, _, none⟩) NB102_101.out _).trans (((Yr (p := ⟨gb101, _, none⟩) NB102_101.out _).trans (((Yr (p := ⟨gb101, _, none⟩) NB102_101.out _).trans (hHeld.2.2.2))))))))⟩ (fun hHeld => ?_)
      clear hK K
      refine pY 10 3 Y3R ?_
      refine pY 11 4 Y3S ?_
      refine Y1Q (Y1n HT_.out Z4) ?_
      try go_wp2
      refine bodyPost_ret (Y1O rfl _ _ gb101 37 #[.int .i64 0, .string (⟨#[]⟩ : ByteArray), .slice none 0 0, .slice none 0 0] (0, 0) _ rfl Z1p Tryd.underlying37 rfl Z4) rfl ?_
      exact ⟨_, _, Z2, Z7, Z7, QB⟩
end Go.Proofs.YtbpbfboaofkpaaaDoor.Print
end
section
set_option linter.unusedVariables false
namespace Go.Proofs.YtbpbfboaofkpaaaDoor.Print
open Go.RowKit Go.Shelf Go.Lib Go.Proofs.YtbpbfboaofkpaaaDoorW.PrintWords
def Y3j (sep : List UInt8) : List ByteArray → List UInt8
 | [] => []
 | [x] => x.data.toList
 | x :: y :: l => x.data.toList ++ (sep ++ Y3j sep (y :: l))
theorem Y43 (sep : List UInt8) : ∀ l : List ByteArray, Y3j sep l = Lib.join (l.map (·.data.toList)) sep
 | [] => rfl
 | [x] => by rw [List.map_cons, List.map_nil, Lib.join_one]; rfl
 | x :: y :: l => by
  have ih := Y43 sep (y :: l)
  rw [Y3j, ih, List.map_cons, List.map_cons, Lib.join_cons, Lib.join_cons]
  simp [Lib.joinTail]
theorem Y3k (sep : List UInt8) (hs : sep.length ≤ 1000) : ∀ l : List ByteArray, (∀ x ∈ l, x.size ≤ 1000000) → (Y3j sep l).length ≤ l.length * 1001000
 | [], _ => by simp [Y3j]
 | [x], h => by
  have := h x (List.mem_cons_self ..)
  have e : (Y3j sep [x]).length = x.size := Y35 x
  rw [e]; simp; omega
 | x :: y :: l, h => by
  have h1 := h x (List.mem_cons_self ..)
  have ih := Y3k sep hs (y :: l) (fun z hz => h z (List.mem_cons_of_mem _ hz))
  have e := Y35 x
  rw [Y3j, List.length_append, List.length_append, e]
  simp only [List.length_cons] at ih ⊢
  omega
def joinOk (l : List ByteArray) (s : ByteArray) : Bool := decide (l.length ≤ 1000000) && l.all (fun x => decide (x.size ≤ 1000000)) && decide (s.size ≤ 1000)
def strings_Join.f (l0 : List ByteArray) (a1 : ByteArray) : Option ByteArray := if joinOk l0 a1 then some ⟨(Y3j a1.data.toList l0).toArray⟩ else none
theorem strings_Join.calls (A0 : Option Addr) (c0 : Nat) (l0 : List ByteArray) (a1 : ByteArray) (r : ByteArray) (w : World) (hr0 : Kd.C Kd.string w A0 l0.length l0) (hc0 : l0.length ≤ c0) (h : strings_Join.f l0 a1 = some r) :
  Calls Tryd.prog 51 #[.slice A0 l0.length c0, .string a1] w fun e w' => e = .returned (.string r) ∧ Below w.heap.size w w' := by
 unfold strings_Join.f at h
 by_cases hj : joinOk l0 a1 = true
 ·rw [if_pos hj] at h
  obtain rfl := Option.some.inj h
  unfold joinOk at hj
  simp only [Bool.and_eq_true, decide_eq_true_eq, List.all_eq_true] at hj
  obtain ⟨⟨j1, j2⟩, j3⟩ := hj
  by_cases hn : l0.length = 0
  ·obtain rfl := List.length_eq_zero_iff.1 hn
   exact (Tryd.strings_Join_none A0 c0 a1 w).mono fun e w' ⟨he, hw⟩ => ⟨he, hw ▸ Below.refl _ _⟩
  ·obtain ⟨ad, hA⟩ : ∃ ad, A0 = some ad := by
    obtain ⟨ad, c, e, _⟩ := Kd.C_get hr0 (⟨#[]⟩ : ByteArray) 0 (by omega) (by omega)
    exact ⟨ad, e⟩
   subst hA
   have hcell : ∀ (j : Nat) x, l0[j]? = some x → w.cell? (ad.add j) = some (.string x) := by
    intro j x hx
    have hjl : j < l0.length := (List.getElem?_eq_some_iff.1 hx).1
    obtain ⟨ad', c, e, _, hK, hc⟩ := Kd.C_get hr0 (⟨#[]⟩ : ByteArray) (j : Int) (by omega) (by omega)
    obtain rfl := Option.some.inj e
    have hk : c = [.string (l0.getD (j : Int).toNat ⟨#[]⟩)] := hK
    subst hk
    have e1 : w.cell? (ad.add ((j : Int).toNat * 1 + 0)) = some (.string (l0.getD (j : Int).toNat ⟨#[]⟩)) := hc 0 _ rfl
    rw [Nat.mul_one, Nat.add_zero, Int.toNat_natCast, List.getD_eq_getElem?_getD, hx] at e1
    exact e1
   obtain ⟨bk, o, sp⟩ := ad
   have h0 := hcell 0 _ (List.getElem?_eq_getElem (by omega : 0 < l0.length))
   have hsp : sp = none := by
    have := World.cell?_spot h0
    simpa [Addr.add] using this
   subst hsp
   have hb := World.block_lt_of_cell? w _ h0
   have hp : ∀ j, (⟨bk, o, none⟩ : Addr).add j = ⟨bk, o + j, none⟩ := fun j => by unfold Addr.add; split <;> simp_all
   have hlen := Y3k a1.data.toList (by rw [Y35]; exact j3) l0 j2
   rw [Y43] at hlen ⊢
   exact Tryd.strings_Join bk o c0 l0 a1 w (fun j x hx => by rw [← hp j]; exact hcell j x hx) (by simpa [Addr.add] using hb) (by omega) hc0 (by omega)
 ·rw [if_neg hj] at h; cases h
end Go.Proofs.YtbpbfboaofkpaaaDoor.Print
end
section
namespace Go.Proofs.YtbpbfboaofkpaaaDoor.Print
open Go.RowKit Go.Proofs.YtbpbfboaofkpaaaDoorW.PrintWords Go.Proofs.YtbpbfboaofkpaaaDoorW.PrintLast Go.Proofs.YtbpbfboaofkpaaaDoorW.PrintMore
attribute [local go_sem] max2_int min2_int max_two min_two max_three min_three max_four min_four
set_option linter.unusedVariables false
set_option linter.unusedSimpArgs false
mutual
def Yu.f : Nat → Int → ByteArray → List ByteArray → List (S37) → Option (ByteArray)
 | 0, _, _, _, _ => none
 | k + 1, a0_0, a0_1, l0_2, l0_3 => if a0_0 = 1 then (if 1 + a0_1.size ≤ 9223372036854775807 then (if 1 + a0_1.size + 1 ≤ 9223372036854775807 then (some (((⟨#[60]⟩ : ByteArray) ++ a0_1) ++ (⟨#[62]⟩ : ByteArray))) else (none)) else (none)) else (if a0_0 = 2 then (if 0 < (l0_3.length : Int) then ((Yq.f k ((Y1 l0_3 0).f0) ((Y1 l0_3 0).f1) ((Y1 l0_3 0).f2) ((Y1 l0_3 0).f3)).bind fun t103 => (if 1 + t103.size ≤ 9223372036854775807 then (some ((⟨#[94]⟩ : ByteArray) ++ t103)) else (none))) else (none)) else (if a0_0 = 3 then (if 0 < (l0_3.length : Int) then ((Yq.f k ((Y1 l0_3 0).f0) ((Y1 l0_3 0).f1) ((Y1 l0_3 0).f2) ((Y1 l0_3 0).f3)).bind fun t105 => (if t105.size + 1 ≤ 9223372036854775807 then (if 1 < (l0_3.length : Int) then ((Yq.f k ((Y1 l0_3 1).f0) ((Y1 l0_3 1).f1) ((Y1 l0_3 1).f2) ((Y1 l0_3 1).f3)).bind fun t107 => (if t105.size + 1 + t107.size ≤ 9223372036854775807 then (some ((t105 ++ (⟨#[47]⟩ : ByteArray)) ++ t107)) else (none))) else (none)) else (none))) else (none)) else (if a0_0 = 4 then (if 0 < (l0_3.length : Int) then ((Yq.f k ((Y1 l0_3 0).f0) ((Y1 l0_3 0).f1) ((Y1 l0_3 0).f2) ((Y1 l0_3 0).f3)).bind fun t109 => (if t109.size + 1 ≤ 9223372036854775807 then (if 1 < (l0_3.length : Int) then ((Yq.f k ((Y1 l0_3 1).f0) ((Y1 l0_3 1).f1) ((Y1 l0_3 1).f2) ((Y1 l0_3 1).f3)).bind fun t111 => (if t109.size + 1 + t111.size ≤ 9223372036854775807 then (some ((t109 ++ (⟨#[124]⟩ : ByteArray)) ++ t111)) else (none))) else (none)) else (none))) else (none)) else (if a0_0 = 5 then (if 0 < (l0_3.length : Int) then ((Yq.f k ((Y1 l0_3 0).f0) ((Y1 l0_3 0).f1) ((Y1 l0_3 0).f2) ((Y1 l0_3 0).f3)).bind fun t113 => (if t113.size + 1 ≤ 9223372036854775807 then (some (t113 ++ (⟨#[42]⟩ : ByteArray))) else (none))) else (none)) else (if a0_0 = 6 then (if 0 < (l0_3.length : Int) then ((Yq.f k ((Y1 l0_3 0).f0) ((Y1 l0_3 0).f1) ((Y1 l0_3 0).f2) ((Y1 l0_3 0).f3)).bind fun t115 => (if t115.size + 1 ≤ 9223372036854775807 then (some (t115 ++ (⟨#[43]⟩ : ByteArray))) else (none))) else (none)) else (if a0_0 = 7 then (if 0 < (l0_3.length : Int) then ((Yq.f k ((Y1 l0_3 0).f0) ((Y1 l0_3 0).f1) ((Y1 l0_3 0).f2) ((Y1 l0_3 0).f3)).bind fun t117 => (if t117.size + 1 ≤ 9223372036854775807 then (some (t117 ++ (⟨#[63]⟩ : ByteArray))) else (none))) else (none)) else ((strings_Join.f l0_2 (⟨#[62, 124, 60]⟩ : ByteArray)).bind fun t118 => (if 3 + t118.size ≤ 9223372036854775807 then (if 3 + t118.size + 2 ≤ 9223372036854775807 then (some (((⟨#[33, 40, 60]⟩ : ByteArray) ++ t118) ++ (⟨#[62, 41]⟩ : ByteArray))) else (none)) else (none)))))))))
def Yq.f : Nat → Int → ByteArray → List ByteArray → List (S37) → Option (ByteArray)
 | 0, _, _, _, _ => none
 | k + 1, a0_0, a0_1, l0_2, l0_3 => if a0_0 = 1 then ((Yu.f k a0_0 a0_1 l0_2 l0_3).bind fun t120 => (some t120)) else ((Yu.f k a0_0 a0_1 l0_2 l0_3).bind fun t121 => (if 1 + t121.size ≤ 9223372036854775807 then (if 1 + t121.size + 1 ≤ 9223372036854775807 then (some (((⟨#[40]⟩ : ByteArray) ++ t121) ++ (⟨#[41]⟩ : ByteArray))) else (none)) else (none)))
end
abbrev Yu.Spec (k : Nat) : Prop := ∀ (a0_0 : Int) (a0_1 : ByteArray) (A0_2 : Option Addr) (c0_2 : Nat) (l0_2 : List ByteArray) (A0_3 : Option Addr) (c0_3 : Nat) (l0_3 : List (S37)) (r : ByteArray) (w : World) (hr0_2 : Kd.C Kd.string w A0_2 l0_2.length l0_2) (hc0_2 : l0_2.length ≤ c0_2) (hr0_3 : Kd.C k37 w A0_3 l0_3.length l0_3) (hc0_3 : l0_3.length ≤ c0_3) (h : Yu.f k a0_0 a0_1 l0_2 l0_3 = some r),
  Calls Tryd.prog 24 #[.agg #[.int .i64 a0_0, .string a0_1, .slice A0_2 l0_2.length c0_2, .slice A0_3 l0_3.length c0_3]] w fun e w' => e = .returned (.string r) ∧ Below w.heap.size w w'
abbrev Yq.Spec (k : Nat) : Prop := ∀ (a0_0 : Int) (a0_1 : ByteArray) (A0_2 : Option Addr) (c0_2 : Nat) (l0_2 : List ByteArray) (A0_3 : Option Addr) (c0_3 : Nat) (l0_3 : List (S37)) (r : ByteArray) (w : World) (hr0_2 : Kd.C Kd.string w A0_2 l0_2.length l0_2) (hc0_2 : l0_2.length ≤ c0_2) (hr0_3 : Kd.C k37 w A0_3 l0_3.length l0_3) (hc0_3 : l0_3.length ≤ c0_3) (h : Yq.f k a0_0 a0_1 l0_2 l0_3 = some r),
  Calls Tryd.prog 50 #[.agg #[.int .i64 a0_0, .string a0_1, .slice A0_2 l0_2.length c0_2, .slice A0_3 l0_3.length c0_3]] w fun e w' => e = .returned (.string r) ∧ Below w.heap.size w w'
set_option maxHeartbeats 8000000 in
def Yu.T7 : Bool × List (List Nat × List Nat) := (true, [([], []), ([0], [0]), ([1], [1]), ([2], [2]), ([3], [3]), ([4], [4]), ([], []), ([6], [6]), ([7], [7]), ([8], [8]), ([9, 4], [9]), ([5, 10], [5, 10]), ([11, 10, 0, 1, 2, 3, 4, 5, 6, 7, 8, 9, 10, 11], [11])])
def Yu.B7 : List Nat := [0, 1, 3, 7, 15, 31, 0, 64, 192, 448, 991, 2047, 4095]
theorem Yu.tab7 : Y2u .any (Y3L Tryd.f24 7) = Yu.T7 := by kernel_rfl
theorem Yu.bits7 : Y1P Yu.T7.2 Yu.B7 = true := by kernel_rfl
def Yu.T9 : Bool × List (List Nat × List Nat) := (true, [([], []), ([0], [0]), ([1], [1]), ([2], [2]), ([3], [3]), ([4], [4]), ([], []), ([6], [6]), ([7], [7]), ([8], [8]), ([9, 4], [9]), ([5, 10], [5, 10]), ([11, 10, 0, 1, 2, 3, 4, 5, 6, 7, 8, 9, 10, 11], [11])])
def Yu.B9 : List Nat := [0, 1, 3, 7, 15, 31, 0, 64, 192, 448, 991, 2047, 4095]
theorem Yu.tab9 : Y2u .any (Y3L Tryd.f24 9) = Yu.T9 := by kernel_rfl
theorem Yu.bits9 : Y1P Yu.T9.2 Yu.B9 = true := by kernel_rfl
end Go.Proofs.YtbpbfboaofkpaaaDoor.Print
end
