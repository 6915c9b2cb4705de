/- Proofs for this claim: printed by our driver and joined by pack.py; the last text holds the statement. -/
import Derived.Test.YtbpbfboaofkpaaaDoorQoQ2
import Derived.Lib.ValidLaws
set_option linter.unusedSimpArgs false
section
namespace Go.Proofs.YtbpbfboaofkpaaaDoor.Print
open Go.RowKit Go.Proofs.YtbpbfboaofkpaaaDoorW.PrintWords Go.Proofs.YtbpbfboaofkpaaaDoorW.PrintLast Go.Proofs.YtbpbfboaofkpaaaDoorW.PrintMore
attribute [local go_sem] max2_int min2_int max_two min_two max_three min_three max_four min_four
set_option linter.unusedVariables false
set_option linter.unusedSimpArgs false
set_option maxHeartbeats 8000000 in
set_option maxRecDepth 100000 in
theorem Y2.calls (k : Nat) (g : Nat) (s0_0 : ByteArray) (s0_1 : Bool) (r1 : Int) (r2 : ByteArray) (r3 : ByteArray) (r4 : ByteArray) (r5 : Bool) (w0 w : World) (hI : Ym w0 w g s0_0 s0_1) (hB : Below w0.heap.size w0 w) (hT : Tabs w0) (h : Y2.f k s0_0 s0_1 = some (r1, r2, r3, r4, r5)) :
  Calls Tryd.prog 43 #[.pointer (some ⟨g, 0, none⟩)] w fun e w' => e = .returned (.agg #[.int .i64 r1, .string r2, .string r3]) ∧ Ym w0 w' g r4 r5 ∧ Below w0.heap.size w0 w' ∧ Yb w w' g none := by
 have HT := Y0.mk hT
 clear hT
 have hu24 := Tryd.underlying24
 have HI0 := Y0.mk hI
 have HK := Y0.mk (Yb.refl w g none)
 have HL := Y0.mk hB.size
 clear hI
 have HW0 := Y0.mk hB.size
 have HB := Y0.mk hB
 clear hB
 have H : ((Y3.f s0_0 s0_1 (⟨#[60]⟩ : ByteArray)).bind fun bt103 => (if bt103.1 = true then (if 1 ≤ (bt103.2.1.size : Int) then ((Y7.f k (bt103.2.1.extract 1 bt103.2.1.size) bt103.2.2 62 false).bind fun bt106 => (Y2.j0 k bt106.2.1 bt106.2.2 1 bt106.1 (⟨#[]⟩ : ByteArray))) else (none)) else ((Y3.f bt103.2.1 bt103.2.2 (⟨#[95, 58]⟩ : ByteArray)).bind fun bt109 => (if bt109.1 = true then (if 2 ≤ (bt109.2.1.size : Int) then ((Yc.f k (bt109.2.1.extract 2 bt109.2.1.size) bt109.2.2 false).bind fun bt112 => (Y2.j0 k bt112.2.1 bt112.2.2 2 bt112.1 (⟨#[]⟩ : ByteArray))) else (none)) else ((Y3.f bt109.2.1 bt109.2.2 (⟨#[34]⟩ : ByteArray)).bind fun bt115 => (if bt115.1 = true then (if 1 ≤ (bt115.2.1.size : Int) then ((Yh.f k (bt115.2.1.extract 1 bt115.2.1.size) bt115.2.2).bind fun bt118 => (Y2.j0 k bt118.2.2.2.1 bt118.2.2.2.2 bt118.1 bt118.2.1 bt118.2.2.1)) else (none)) else (Y2.j0 k bt115.2.1 bt115.2.2 0 (⟨#[]⟩ : ByteArray) (⟨#[]⟩ : ByteArray)))))))) = some (r1, r2, r3, r4, r5) := h
 clear h
 have HC2 := Y0.mk H
 clear H
 go_enter Tryd.func43, Tryd.ntmps43
 go_upto_block 0 with (first | ((with_reducible refine Yt (N := 2) rfl ?_); refine Yp ?hg (N := 2) ?hd (cs := #[.int .i64 0, .string (⟨#[]⟩ : ByteArray), .string (⟨#[]⟩ : ByteArray)]) (t := 24) ?hr ?_; (case hd => rfl); (case hg => rfl); (case hr => exact Zb); intro gb101 hg w3 hbox hb; have n_ := put8 (Ym.below QI67_0 hb) (Yb.trans QK (Yb.of_below hb g none) (.inl rfl)) (Y8 QB hb) (hbox) ((by rw [hg]; exact (YN (w := w) (g := g) (row := none) QK) : w.heap.size ≤ gb101)) ((Nat.le_trans HW0.out (by rw [hg]; exact (YN (w := w) (g := g) (row := none) QK) : w.heap.size ≤ gb101) : w0.heap.size ≤ gb101)) ((by rw [hg]; exact Nat.ne_of_lt (Ym.lt (show Ym w0 _ g s0_0 s0_1 from QI67_0)) : g ≠ gb101)) ((by rw [hg]; exact Nat.ne_of_gt (Ym.lt (show Ym w0 _ g s0_0 s0_1 from QI67_0)) : gb101 ≠ g)); clear HI0 HK HB; obtain ⟨HI0, HK, HB, BK101, GW101, GE101, NB0_101, NB101_0⟩ := n_; clear hb hbox hg) | ((with_reducible refine Yt (N := 3) rfl ?_); refine Yp ?hg (N := 3) ?hd (cs := #[.int .i64 0, .string (⟨#[]⟩ : ByteArray), .string (⟨#[]⟩ : ByteArray)]) (t := 24) ?hr ?_; (case hd => rfl); (case hg => rfl); (case hr => exact Zb); intro gb102 hg w4 hbox hb; have n0_ := Y0.mk (Ym.below QI67_0 hb); have n1_ := Y0.mk (Y9 (g := gb101) (o := .cells #[.int .i64 0, .string (⟨#[]⟩ : ByteArray), .string (⟨#[]⟩ : ByteArray)] 24 (0, 0)) QQ hb); have n2_ := Y0.mk (Yb.trans QK (Yb.of_below hb g none) (.inl rfl)); have n3_ := Y0.mk (Y8 QB hb); have n4_ := Y0.mk (hbox); have n5_ := Y0.mk ((by rw [hg]; exact (YN (w := w) (g := g) (row := none) QK) : w.heap.size ≤ gb102)); have n6_ := Y0.mk ((Nat.le_trans HW0.out (by rw [hg]; exact (YN (w := w) (g := g) (row := none) QK) : w.heap.size ≤ gb102) : w0.heap.size ≤ gb102)); have n7_ := Y0.mk ((by rw [hg]; exact Nat.ne_of_lt (Yy (g := gb101) (o := .cells #[.int .i64 0, .string (⟨#[]⟩ : ByteArray), .string (⟨#[]⟩ : ByteArray)] 24 (0, 0)) QQ) : gb101 ≠ gb102)); have n8_ := Y0.mk ((by rw [hg]; exact Nat.ne_of_gt (Yy (g := gb101) (o := .cells #[.int .i64 0, .string (⟨#[]⟩ : ByteArray), .string (⟨#[]⟩ : ByteArray)] 24 (0, 0)) QQ) : gb102 ≠ gb101)); have n9_ := Y0.mk ((by rw [hg]; exact Nat.ne_of_lt (Ym.lt (show Ym w0 _ g s0_0 s0_1 from QI67_0)) : g ≠ gb102)); have n10_ := Y0.mk ((by rw [hg]; exact Nat.ne_of_gt (Ym.lt (show Ym w0 _ g s0_0 s0_1 from QI67_0)) : gb102 ≠ g)); clear HI0 BK101 HK HB; have HI0 := n0_; have BK101 := n1_; have HK := n2_; have HB := n3_; have BK102 := n4_; have GW102 := n5_; have GE102 := n6_; have NB101_102 := n7_; have NB102_101 := n8_; have NB0_102 := n9_; have NB102_0 := n10_; clear n0_ n1_ n2_ n3_ n4_ n5_ n6_ n7_ n8_ n9_ n10_ hb hbox hg; have hnb5 := NB102_101.out; have hnc5 := NB101_102.out; have hnb6 := NB102_0.out; have hnc6 := NB0_102.out; obtain ⟨hcz7_0, hcz7_1, hcz7_2, hfz7_0, hfz7_1, hfz7_2⟩ := Yr BK102.out))
 (try simp only [Act.put, List.setIfInBounds_toArray, List.set_cons_zero, List.set_cons_succ])
 go_cut [] (fun wc => ∃ (kq : Nat) (x1000_1 : ByteArray) (x1001_1 : Bool) (x103000_1 : Int) (x103001_1 : ByteArray) (x103002_1 : ByteArray), Y0 (Y2.j0 kq x1000_1 x1001_1 x103000_1 x103001_1 x103002_1 = some (r1, r2, r3, r4, r5)) ∧ Y0 (kq ≤ k) ∧ Y0 (wc.heap[gb101]? = some (.cells #[.int .i64 0, .string (⟨#[]⟩ : ByteArray), .string (⟨#[]⟩ : ByteArray)] 24 (0, 0))) ∧ Y0 (wc.heap[gb102]? = some (.cells #[.int .i64 x103000_1, .string x103001_1, .string x103002_1] 24 (0, 0))) ∧ Y0 (Ym w0 wc g x1000_1 x1001_1) ∧ Y0 (Yb w wc g none) ∧ Y0 (Below w0.heap.size w0 wc))
 case first =>
  have H := HC2.out
  clear HC2
  replace H := Option.bind_eq_some_iff.mp H
  obtain ⟨⟨t103, t104, t105⟩, A80, H⟩ := H
  replace H : (if t103 = true then (if 1 ≤ (t104.size : Int) then ((Y7.f k (t104.extract 1 t104.size) t105 62 false).bind fun bt106 => (Y2.j0 k bt106.2.1 bt106.2.2 1 bt106.1 (⟨#[]⟩ : ByteArray))) else (none)) else ((Y3.f t104 t105 (⟨#[95, 58]⟩ : ByteArray)).bind fun bt109 => (if bt109.1 = true then (if 2 ≤ (bt109.2.1.size : Int) then ((Yc.f k (bt109.2.1.extract 2 bt109.2.1.size) bt109.2.2 false).bind fun bt112 => (Y2.j0 k bt112.2.1 bt112.2.2 2 bt112.1 (⟨#[]⟩ : ByteArray))) else (none)) else ((Y3.f bt109.2.1 bt109.2.2 (⟨#[34]⟩ : ByteArray)).bind fun bt115 => (if bt115.1 = true then (if 1 ≤ (bt115.2.1.size : Int) then ((Yh.f k (bt115.2.1.extract 1 bt115.2.1.size) bt115.2.2).bind fun bt118 => (Y2.j0 k bt118.2.2.2.1 bt118.2.2.2.2 bt118.1 bt118.2.1 bt118.2.2.1)) else (none)) else (Y2.j0 k bt115.2.1 bt115.2.2 0 (⟨#[]⟩ : ByteArray) (⟨#[]⟩ : ByteArray))))))) = some (r1, r2, r3, r4, r5) := H
  have A8 := Y0.mk A80
  clear A80
  by_cases c9 : t103 = true
  ·subst c9
   have H1 : (if 1 ≤ (t104.size : Int) then ((Y7.f k (t104.extract 1 t104.size) t105 62 false).bind fun bt106 => (Y2.j0 k bt106.2.1 bt106.2.2 1 bt106.1 (⟨#[]⟩ : ByteArray))) else (none)) = some (r1, r2, r3, r4, r5) := by rw [if_pos rfl] at H; exact H
   clear H
   have H := H1
   clear H1
   by_cases c10 : 1 ≤ (t104.size : Int)
   ·rw [if_pos c10] at H
    have c10b0 := eq_true c10
    have c10b1 : decide (1 ≤ (t104.size : Int)) = true := decide_eq_true c10
    clear c10
    replace H := Option.bind_eq_some_iff.mp H
    obtain ⟨⟨t106, t107, t108⟩, A110, H⟩ := H
    replace H : (Y2.j0 k t107 t108 1 t106 (⟨#[]⟩ : ByteArray)) = some (r1, r2, r3, r4, r5) := H
    have A11 := Y0.mk A110
    clear A110
    have H' := Y0.mk H
    clear H
    go_wp2_with (first | ((with_reducible refine Ya (f := 82) rfl ?_); refine Yu (some 7) rfl rfl Tryd.func82 Z7 rfl #[.pointer (some ⟨g, 0, none⟩), .string (⟨#[60]⟩ : ByteArray)] rfl Z0 ?_; (with_reducible refine (Y3.calls g s0_0 s0_1 (⟨#[60]⟩ : ByteArray) true t104 t105 w0 _ ?side1 ?side2 A8.out).mono ?_); (case side1 => exact ZA); (case side2 => exact QB); rintro e w12 ⟨rfl, hi, hb, hk⟩; refine ⟨_, rfl, ?_⟩; have n_ := Y2G (Yb.blk hk (g' := gb101) (o := .cells #[.int .i64 0, .string (⟨#[]⟩ : ByteArray), .string (⟨#[]⟩ : ByteArray)] 24 (0, 0)) Z8 NB101_0.out (by simp)) (Yb.blk hk (g' := gb102) (o := .cells #[.int .i64 0, .string (⟨#[]⟩ : ByteArray), .string (⟨#[]⟩ : ByteArray)] 24 (0, 0)) ZL NB102_0.out (by simp)) (Yb.trans QK hk (.inl rfl)) (hb) (hi); clear BK101 BK102 HK HB HI0; obtain ⟨BK101, BK102, HK, HB, HI0⟩ := n_; (try clear hb); (try clear hb2); (try clear hk); (try clear hi); obtain ⟨HGz13, hgz13⟩ := HI0.out; have hcz13_0 := Y13 HGz13; have hcz13_1 := Y14 HGz13; have hfz13_0 := Yv HGz13 0; have hfz13_1 := Yv HGz13 1; clear HGz13 hgz13) | ((with_reducible refine Ya (f := 83) rfl ?_); refine Yu (some 17) rfl rfl Tryd.func83 Z7 rfl #[.pointer (some ⟨g, 0, none⟩), .int .u8 62, .bool false] rfl Z0 ?_; (with_reducible refine (Y7.calls k g (t104.extract 1 t104.size) t105 62 false t106 t107 t108 w0 _ ?side1 ?side2 A11.out).mono ?_); (case side1 => exact ZA); (case side2 => exact QB); rintro e w14 ⟨rfl, hi, hb, hk⟩; refine ⟨_, rfl, ?_⟩; have n_ := Y2G (Yb.blk hk (g' := gb101) (o := .cells #[.int .i64 0, .string (⟨#[]⟩ : ByteArray), .string (⟨#[]⟩ : ByteArray)] 24 (0, 0)) Zi NB101_0.out (by simp)) (Yb.blk hk (g' := gb102) (o := .cells #[.int .i64 0, .string (⟨#[]⟩ : ByteArray), .string (⟨#[]⟩ : ByteArray)] 24 (0, 0)) Zn NB102_0.out (by simp)) (Yb.trans QK hk (.inl rfl)) (hb) (hi); clear BK101 BK102 HK HB HI0; obtain ⟨BK101, BK102, HK, HB, HI0⟩ := n_; (try clear hb); (try clear hb2); (try clear hk); (try clear hi); have hnb15 := NB102_101.out; have hnc15 := NB101_102.out; have hnb16 := NB102_0.out; have hnc16 := NB0_102.out; obtain ⟨hcz17_0, hcz17_1, hcz17_2, hfz17_0, hfz17_1, hfz17_2⟩ := Yr BK102.out))
    go_meet
    case rel => exact ⟨_, (t107), (t108), (1), (t106), ((⟨#[]⟩ : ByteArray)), H', ⟨Zj⟩, ⟨Z8⟩, ⟨by (with_reducible repeat (first | refine Yo ?_ _ | refine Yg ?_ | refine Yn ?_ _)); exact YM (cs := #[.int .i64 1, .string t106, .string (⟨#[]⟩ : ByteArray)]) (by (with_reducible repeat (first | refine Yo ?_ _ | refine Yg ?_ | refine Yn ?_ _)); exact YM (cs := #[.int .i64 1, .string (⟨#[]⟩ : ByteArray), .string (⟨#[]⟩ : ByteArray)]) Z2 1 _ rfl) 2 _ rfl⟩, ⟨QI67_0⟩, ⟨QK⟩, ⟨QB⟩⟩
   ·rw [if_neg c10] at H
    exact Zd
  ·replace c9 := Bool.eq_false_iff.mpr c9
   subst c9
   have H1 : ((Y3.f t104 t105 (⟨#[95, 58]⟩ : ByteArray)).bind fun bt109 => (if bt109.1 = true then (if 2 ≤ (bt109.2.1.size : Int) then ((Yc.f k (bt109.2.1.extract 2 bt109.2.1.size) bt109.2.2 false).bind fun bt112 => (Y2.j0 k bt112.2.1 bt112.2.2 2 bt112.1 (⟨#[]⟩ : ByteArray))) else (none)) else ((Y3.f bt109.2.1 bt109.2.2 (⟨#[34]⟩ : ByteArray)).bind fun bt115 => (if bt115.1 = true then (if 1 ≤ (bt115.2.1.size : Int) then ((Yh.f k (bt115.2.1.extract 1 bt115.2.1.size) bt115.2.2).bind fun bt118 => (Y2.j0 k bt118.2.2.2.1 bt118.2.2.2.2 bt118.1 bt118.2.1 bt118.2.2.1)) else (none)) else (Y2.j0 k bt115.2.1 bt115.2.2 0 (⟨#[]⟩ : ByteArray) (⟨#[]⟩ : ByteArray)))))) = some (r1, r2, r3, r4, r5) := by rw [if_neg (show ¬ (false = true) by decide)] at H; exact H
   clear H
   have H := H1
   clear H1
   replace H := Option.bind_eq_some_iff.mp H
   obtain ⟨⟨t109, t110, t111⟩, A180, H⟩ := H
   replace H : (if t109 = true then (if 2 ≤ (t110.size : Int) then ((Yc.f k (t110.extract 2 t110.size) t111 false).bind fun bt112 => (Y2.j0 k bt112.2.1 bt112.2.2 2 bt112.1 (⟨#[]⟩ : ByteArray))) else (none)) else ((Y3.f t110 t111 (⟨#[34]⟩ : ByteArray)).bind fun bt115 => (if bt115.1 = true then (if 1 ≤ (bt115.2.1.size : Int) then ((Yh.f k (bt115.2.1.extract 1 bt115.2.1.size) bt115.2.2).bind fun bt118 => (Y2.j0 k bt118.2.2.2.1 bt118.2.2.2.2 bt118.1 bt118.2.1 bt118.2.2.1)) else (none)) else (Y2.j0 k bt115.2.1 bt115.2.2 0 (⟨#[]⟩ : ByteArray) (⟨#[]⟩ : ByteArray))))) = some (r1, r2, r3, r4, r5) := H
   have A18 := Y0.mk A180
   clear A180
   by_cases c19 : t109 = true
   ·subst c19
    have H1 : (if 2 ≤ (t110.size : Int) then ((Yc.f k (t110.extract 2 t110.size) t111 false).bind fun bt112 => (Y2.j0 k bt112.2.1 bt112.2.2 2 bt112.1 (⟨#[]⟩ : ByteArray))) else (none)) = some (r1, r2, r3, r4, r5) := by rw [if_pos rfl] at H; exact H
    clear H
    have H := H1
    clear H1
    by_cases c20 : 2 ≤ (t110.size : Int)
    ·rw [if_pos c20] at H
     have c20b0 := eq_true c20
     have c20b1 : decide (2 ≤ (t110.size : Int)) = true := decide_eq_true c20
     clear c20
     replace H := Option.bind_eq_some_iff.mp H
     obtain ⟨⟨t112, t113, t114⟩, A210, H⟩ := H
     replace H : (Y2.j0 k t113 t114 2 t112 (⟨#[]⟩ : ByteArray)) = some (r1, r2, r3, r4, r5) := H
     have A21 := Y0.mk A210
     clear A210
     have H' := Y0.mk H
     clear H
     go_wp2_with (first | ((with_reducible refine Ya (f := 82) rfl ?_); refine Yu (some 7) rfl rfl Tryd.func82 Z7 rfl #[.pointer (some ⟨g, 0, none⟩), .string (⟨#[60]⟩ : ByteArray)] rfl Z0 ?_; (with_reducible refine (Y3.calls g s0_0 s0_1 (⟨#[60]⟩ : ByteArray) false t104 t105 w0 _ ?side1 ?side2 A8.out).mono ?_); (case side1 => exact ZA); (case side2 => exact QB); rintro e w22 ⟨rfl, hi, hb, hk⟩; refine ⟨_, rfl, ?_⟩; have n_ := Y2G (Yb.blk hk (g' := gb101) (o := .cells #[.int .i64 0, .string (⟨#[]⟩ : ByteArray), .string (⟨#[]⟩ : ByteArray)] 24 (0, 0)) Z8 NB101_0.out (by simp)) (Yb.blk hk (g' := gb102) (o := .cells #[.int .i64 0, .string (⟨#[]⟩ : ByteArray), .string (⟨#[]⟩ : ByteArray)] 24 (0, 0)) ZL NB102_0.out (by simp)) (Yb.trans QK hk (.inl rfl)) (hb) (hi); clear BK101 BK102 HK HB HI0; obtain ⟨BK101, BK102, HK, HB, HI0⟩ := n_; (try clear hb); (try clear hb2); (try clear hk); (try clear hi)) | ((with_reducible refine Ya (f := 82) rfl ?_); refine Yu (some 21) rfl rfl Tryd.func82 Z7 rfl #[.pointer (some ⟨g, 0, none⟩), .string (⟨#[95, 58]⟩ : ByteArray)] rfl Z0 ?_; (with_reducible refine (Y3.calls g t104 t105 (⟨#[95, 58]⟩ : ByteArray) true t110 t111 w0 _ ?side1 ?side2 A18.out).mono ?_); (case side1 => exact ZA); (case side2 => exact QB); rintro e w23 ⟨rfl, hi, hb, hk⟩; refine ⟨_, rfl, ?_⟩; have n_ := Y2G (Yb.blk hk (g' := gb101) (o := .cells #[.int .i64 0, .string (⟨#[]⟩ : ByteArray), .string (⟨#[]⟩ : ByteArray)] 24 (0, 0)) QQ NB101_0.out (by simp)) (Yb.blk hk (g' := gb102) (o := .cells #[.int .i64 0, .string (⟨#[]⟩ : ByteArray), .string (⟨#[]⟩ : ByteArray)] 24 (0, 0)) QQ NB102_0.out (by simp)) (Yb.trans QK hk (.inl rfl)) (hb) (hi); clear BK101 BK102 HK HB HI0; obtain ⟨BK101, BK102, HK, HB, HI0⟩ := n_; (try clear hb); (try clear hb2); (try clear hk); (try clear hi); obtain ⟨HGz24, hgz24⟩ := HI0.out; have hcz24_0 := Y13 HGz24; have hcz24_1 := Y14 HGz24; have hfz24_0 := Yv HGz24 0; have hfz24_1 := Yv HGz24 1; clear HGz24 hgz24) | ((with_reducible refine Ya (f := 84) rfl ?_); refine Yu (some 31) rfl rfl Tryd.func84 Z7 rfl #[.pointer (some ⟨g, 0, none⟩), .bool false] rfl Z0 ?_; (with_reducible refine (Yc.calls k g (t110.extract 2 t110.size) t111 false t112 t113 t114 w0 _ ?side1 ?side2 A21.out).mono ?_); (case side1 => exact ZA); (case side2 => exact QB); rintro e w25 ⟨rfl, hi, hb, hk⟩; refine ⟨_, rfl, ?_⟩; have n_ := Y2G (Yb.blk hk (g' := gb101) (o := .cells #[.int .i64 0, .string (⟨#[]⟩ : ByteArray), .string (⟨#[]⟩ : ByteArray)] 24 (0, 0)) Zi NB101_0.out (by simp)) (Yb.blk hk (g' := gb102) (o := .cells #[.int .i64 0, .string (⟨#[]⟩ : ByteArray), .string (⟨#[]⟩ : ByteArray)] 24 (0, 0)) Zn NB102_0.out (by simp)) (Yb.trans QK hk (.inl rfl)) (hb) (hi); clear BK101 BK102 HK HB HI0; obtain ⟨BK101, BK102, HK, HB, HI0⟩ := n_; (try clear hb); (try clear hb2); (try clear hk); (try clear hi); have hnb26 := NB102_101.out; have hnc26 := NB101_102.out; have hnb27 := NB102_0.out; have hnc27 := NB0_102.out; obtain ⟨hcz28_0, hcz28_1, hcz28_2, hfz28_0, hfz28_1, hfz28_2⟩ := Yr BK102.out))
     go_meet
     case rel => exact ⟨_, (t113), (t114), (2), (t112), ((⟨#[]⟩ : ByteArray)), H', ⟨Zj⟩, ⟨Z8⟩, ⟨by (with_reducible repeat (first | refine Yo ?_ _ | refine Yg ?_ | refine Yn ?_ _)); exact YM (cs := #[.int .i64 2, .string t112, .string (⟨#[]⟩ : ByteArray)]) (by (with_reducible repeat (first | refine Yo ?_ _ | refine Yg ?_ | refine Yn ?_ _)); exact YM (cs := #[.int .i64 2, .string (⟨#[]⟩ : ByteArray), .string (⟨#[]⟩ : ByteArray)]) Z2 1 _ rfl) 2 _ rfl⟩, ⟨QI67_0⟩, ⟨QK⟩, ⟨QB⟩⟩
    ·rw [if_neg c20] at H
     exact Zd
   ·replace c19 := Bool.eq_false_iff.mpr c19
    subst c19
    have H1 : ((Y3.f t110 t111 (⟨#[34]⟩ : ByteArray)).bind fun bt115 => (if bt115.1 = true then (if 1 ≤ (bt115.2.1.size : Int) then ((Yh.f k (bt115.2.1.extract 1 bt115.2.1.size) bt115.2.2).bind fun bt118 => (Y2.j0 k bt118.2.2.2.1 bt118.2.2.2.2 bt118.1 bt118.2.1 bt118.2.2.1)) else (none)) else (Y2.j0 k bt115.2.1 bt115.2.2 0 (⟨#[]⟩ : ByteArray) (⟨#[]⟩ : ByteArray)))) = some (r1, r2, r3, r4, r5) := by rw [if_neg (show ¬ (false = true) by decide)] at H; exact H
    clear H
    have H := H1
    clear H1
    replace H := Option.bind_eq_some_iff.mp H
    obtain ⟨⟨t115, t116, t117⟩, A290, H⟩ := H
    replace H : (if t115 = true then (if 1 ≤ (t116.size : Int) then ((Yh.f k (t116.extract 1 t116.size) t117).bind fun bt118 => (Y2.j0 k bt118.2.2.2.1 bt118.2.2.2.2 bt118.1 bt118.2.1 bt118.2.2.1)) else (none)) else (Y2.j0 k t116 t117 0 (⟨#[]⟩ : ByteArray) (⟨#[]⟩ : ByteArray))) = some (r1, r2, r3, r4, r5) := H
    have A29 := Y0.mk A290
    clear A290
    by_cases c30 : t115 = true
    ·subst c30
     have H1 : (if 1 ≤ (t116.size : Int) then ((Yh.f k (t116.extract 1 t116.size) t117).bind fun bt118 => (Y2.j0 k bt118.2.2.2.1 bt118.2.2.2.2 bt118.1 bt118.2.1 bt118.2.2.1)) else (none)) = some (r1, r2, r3, r4, r5) := by rw [if_pos rfl] at H; exact H
     clear H
     have H := H1
     clear H1
     by_cases c31 : 1 ≤ (t116.size : Int)
     ·rw [if_pos c31] at H
      have c31b0 := eq_true c31
      have c31b1 : decide (1 ≤ (t116.size : Int)) = true := decide_eq_true c31
      clear c31
      replace H := Option.bind_eq_some_iff.mp H
      obtain ⟨⟨t118, t119, t120, t121, t122⟩, A320, H⟩ := H
      replace H : (Y2.j0 k t121 t122 t118 t119 t120) = some (r1, r2, r3, r4, r5) := H
      have A32 := Y0.mk A320
      clear A320
      have H' := Y0.mk H
      clear H
      go_wp2_with (first | ((with_reducible refine Ya (f := 82) rfl ?_); refine Yu (some 7) rfl rfl Tryd.func82 Z7 rfl #[.pointer (some ⟨g, 0, none⟩), .string (⟨#[60]⟩ : ByteArray)] rfl Z0 ?_; (with_reducible refine (Y3.calls g s0_0 s0_1 (⟨#[60]⟩ : ByteArray) false t104 t105 w0 _ ?side1 ?side2 A8.out).mono ?_); (case side1 => exact ZA); (case side2 => exact QB); rintro e w33 ⟨rfl, hi, hb, hk⟩; refine ⟨_, rfl, ?_⟩; have n_ := Y2G (Yb.blk hk (g' := gb101) (o := .cells #[.int .i64 0, .string (⟨#[]⟩ : ByteArray), .string (⟨#[]⟩ : ByteArray)] 24 (0, 0)) Z8 NB101_0.out (by simp)) (Yb.blk hk (g' := gb102) (o := .cells #[.int .i64 0, .string (⟨#[]⟩ : ByteArray), .string (⟨#[]⟩ : ByteArray)] 24 (0, 0)) ZL NB102_0.out (by simp)) (Yb.trans QK hk (.inl rfl)) (hb) (hi); clear BK101 BK102 HK HB HI0; obtain ⟨BK101, BK102, HK, HB, HI0⟩ := n_; (try clear hb); (try clear hb2); (try clear hk); (try clear hi)) | ((with_reducible refine Ya (f := 82) rfl ?_); refine Yu (some 21) rfl rfl Tryd.func82 Z7 rfl #[.pointer (some ⟨g, 0, none⟩), .string (⟨#[95, 58]⟩ : ByteArray)] rfl Z0 ?_; (with_reducible refine (Y3.calls g t104 t105 (⟨#[95, 58]⟩ : ByteArray) false t110 t111 w0 _ ?side1 ?side2 A18.out).mono ?_); (case side1 => exact ZA); (case side2 => exact QB); rintro e w34 ⟨rfl, hi, hb, hk⟩; refine ⟨_, rfl, ?_⟩; have n_ := Y2G (Yb.blk hk (g' := gb101) (o := .cells #[.int .i64 0, .string (⟨#[]⟩ : ByteArray), .string (⟨#[]⟩ : ByteArray)] 24 (0, 0)) QQ NB101_0.out (by simp)) (Yb.blk hk (g' := gb102) (o := .cells #[.int .i64 0, .string (⟨#[]⟩ : ByteArray), .string (⟨#[]⟩ : ByteArray)] 24 (0, 0)) QQ NB102_0.out (by simp)) (Yb.trans QK hk (.inl rfl)) (hb) (hi); clear BK101 BK102 HK HB HI0; obtain ⟨BK101, BK102, HK, HB, HI0⟩ := n_; (try clear hb); (try clear hb2); (try clear hk); (try clear hi)) | ((with_reducible refine Ya (f := 82) rfl ?_); refine Yu (some 35) rfl rfl Tryd.func82 Z7 rfl #[.pointer (some ⟨g, 0, none⟩), .string (⟨#[34]⟩ : ByteArray)] rfl Z0 ?_; (with_reducible refine (Y3.calls g t110 t111 (⟨#[34]⟩ : ByteArray) true t116 t117 w0 _ ?side1 ?side2 A29.out).mono ?_); (case side1 => exact ZA); (case side2 => exact QB); rintro e w35 ⟨rfl, hi, hb, hk⟩; refine ⟨_, rfl, ?_⟩; have n_ := Y2G (Yb.blk hk (g' := gb101) (o := .cells #[.int .i64 0, .string (⟨#[]⟩ : ByteArray), .string (⟨#[]⟩ : ByteArray)] 24 (0, 0)) QQ NB101_0.out (by simp)) (Yb.blk hk (g' := gb102) (o := .cells #[.int .i64 0, .string (⟨#[]⟩ : ByteArray), .string (⟨#[]⟩ : ByteArray)] 24 (0, 0)) QQ NB102_0.out (by simp)) (Yb.trans QK hk (.inl rfl)) (hb) (hi); clear BK101 BK102 HK HB HI0; obtain ⟨BK101, BK102, HK, HB, HI0⟩ := n_; (try clear hb); (try clear hb2); (try clear hk); (try clear hi); obtain ⟨HGz36, hgz36⟩ := HI0.out; have hcz36_0 := Y13 HGz36; have hcz36_1 := Y14 HGz36; have hfz36_0 := Yv HGz36 0; have hfz36_1 := Yv HGz36 1; clear HGz36 hgz36) | ((with_reducible refine Ya (f := 85) rfl ?_); refine Yu (some 45) rfl rfl Tryd.func85 Z7 rfl #[.pointer (some ⟨g, 0, none⟩)] rfl Z0 ?_; (with_reducible refine (Yh.calls k g (t116.extract 1 t116.size) t117 t118 t119 t120 t121 t122 w0 _ ?side1 ?side2 A32.out).mono ?_); (case side1 => exact ZA); (case side2 => exact QB); rintro e w37 ⟨rfl, hi, hb, hk⟩; refine ⟨_, rfl, ?_⟩; have n_ := Y2G (Yb.blk hk (g' := gb101) (o := .cells #[.int .i64 0, .string (⟨#[]⟩ : ByteArray), .string (⟨#[]⟩ : ByteArray)] 24 (0, 0)) Zi NB101_0.out (by simp)) (Yb.blk hk (g' := gb102) (o := .cells #[.int .i64 0, .string (⟨#[]⟩ : ByteArray), .string (⟨#[]⟩ : ByteArray)] 24 (0, 0)) Zn NB102_0.out (by simp)) (Yb.trans QK hk (.inl rfl)) (hb) (hi); clear BK101 BK102 HK HB HI0; obtain ⟨BK101, BK102, HK, HB, HI0⟩ := n_; (try clear hb); (try clear hb2); (try clear hk); (try clear hi); have hnb38 := NB102_101.out; have hnc38 := NB101_102.out; have hnb39 := NB102_0.out; have hnc39 := NB0_102.out; obtain ⟨hcz40_0, hcz40_1, hcz40_2, hfz40_0, hfz40_1, hfz40_2⟩ := Yr BK102.out))
      go_meet
      case rel => exact ⟨_, (t121), (t122), (t118), (t119), (t120), H', ⟨Zj⟩, ⟨Z8⟩, ⟨by (with_reducible repeat (first | refine Yo ?_ _ | refine Yg ?_ | refine Yn ?_ _)); exact YM (cs := #[.int .i64 t118, .string t119, .string (⟨#[]⟩ : ByteArray)]) (by (with_reducible repeat (first | refine Yo ?_ _ | refine Yg ?_ | refine Yn ?_ _)); exact YM (cs := #[.int .i64 t118, .string (⟨#[]⟩ : ByteArray), .string (⟨#[]⟩ : ByteArray)]) Z2 1 _ rfl) 2 _ rfl⟩, ⟨QI67_0⟩, ⟨QK⟩, ⟨QB⟩⟩
     ·rw [if_neg c31] at H
      exact Zd
    ·replace c30 := Bool.eq_false_iff.mpr c30
     subst c30
     have H1 : (Y2.j0 k t116 t117 0 (⟨#[]⟩ : ByteArray) (⟨#[]⟩ : ByteArray)) = some (r1, r2, r3, r4, r5) := by rw [if_neg (show ¬ (false = true) by decide)] at H; exact H
     clear H
     have H := H1
     clear H1
     have H' := Y0.mk H
     clear H
     go_wp2_with (first | ((with_reducible refine Ya (f := 82) rfl ?_); refine Yu (some 7) rfl rfl Tryd.func82 Z7 rfl #[.pointer (some ⟨g, 0, none⟩), .string (⟨#[60]⟩ : ByteArray)] rfl Z0 ?_; (with_reducible refine (Y3.calls g s0_0 s0_1 (⟨#[60]⟩ : ByteArray) false t104 t105 w0 _ ?side1 ?side2 A8.out).mono ?_); (case side1 => exact ZA); (case side2 => exact QB); rintro e w41 ⟨rfl, hi, hb, hk⟩; refine ⟨_, rfl, ?_⟩; have n_ := Y2G (Yb.blk hk (g' := gb101) (o := .cells #[.int .i64 0, .string (⟨#[]⟩ : ByteArray), .string (⟨#[]⟩ : ByteArray)] 24 (0, 0)) Z8 NB101_0.out (by simp)) (Yb.blk hk (g' := gb102) (o := .cells #[.int .i64 0, .string (⟨#[]⟩ : ByteArray), .string (⟨#[]⟩ : ByteArray)] 24 (0, 0)) ZL NB102_0.out (by simp)) (Yb.trans QK hk (.inl rfl)) (hb) (hi); clear BK101 BK102 HK HB HI0; obtain ⟨BK101, BK102, HK, HB, HI0⟩ := n_; (try clear hb); (try clear hb2); (try clear hk); (try clear hi)) | ((with_reducible refine Ya (f := 82) rfl ?_); refine Yu (some 21) rfl rfl Tryd.func82 Z7 rfl #[.pointer (some ⟨g, 0, none⟩), .string (⟨#[95, 58]⟩ : ByteArray)] rfl Z0 ?_; (with_reducible refine (Y3.calls g t104 t105 (⟨#[95, 58]⟩ : ByteArray) false t110 t111 w0 _ ?side1 ?side2 A18.out).mono ?_); (case side1 => exact ZA); (case side2 => exact QB); rintro e w42 ⟨rfl, hi, hb, hk⟩; refine ⟨_, rfl, ?_⟩; have n_ := Y2G (Yb.blk hk (g' := gb101) (o := .cells #[.int .i64 0, .string (⟨#[]⟩ : ByteArray), .string (⟨#[]⟩ : ByteArray)] 24 (0, 0)) QQ NB101_0.out (by simp)) (Yb.blk hk (g' := gb102) (o := .cells #[.int .i64 0, .string (⟨#[]⟩ : ByteArray), .string (⟨#[]⟩ : ByteArray)] 24 (0, 0)) QQ NB102_0.out (by simp)) (Yb.trans QK hk (.inl rfl)) (hb) (hi); clear BK101 BK102 HK HB HI0; obtain ⟨BK101, BK102, HK, HB, HI0⟩ := n_; (try clear hb); (try clear hb2); (try clear hk); (try clear hi)) | ((with_reducible refine Ya (f := 82) rfl ?_); refine Yu (some 35) rfl rfl Tryd.func82 Z7 rfl #[.pointer (some ⟨g, 0, none⟩), .string (⟨#[34]⟩ : ByteArray)] rfl Z0 ?_; (with_reducible refine (Y3.calls g t110 t111 (⟨#[34]⟩ : ByteArray) false t116 t117 w0 _ ?side1 ?side2 A29.out).mono ?_); (case side1 => exact ZA); (case side2 => exact QB); rintro e w43 ⟨rfl, hi, hb, hk⟩; refine ⟨_, rfl, ?_⟩; have n_ := Y2G (Yb.blk hk (g' := gb101) (o := .cells #[.int .i64 0, .string (⟨#[]⟩ : ByteArray), .string (⟨#[]⟩ : ByteArray)] 24 (0, 0)) QQ NB101_0.out (by simp)) (Yb.blk hk (g' := gb102) (o := .cells #[.int .i64 0, .string (⟨#[]⟩ : ByteArray), .string (⟨#[]⟩ : ByteArray)] 24 (0, 0)) QQ NB102_0.out (by simp)) (Yb.trans QK hk (.inl rfl)) (hb) (hi); clear BK101 BK102 HK HB HI0; obtain ⟨BK101, BK102, HK, HB, HI0⟩ := n_; (try clear hb); (try clear hb2); (try clear hk); (try clear hi)))
     go_meet
     case rel => exact ⟨_, (t116), (t117), (0), ((⟨#[]⟩ : ByteArray)), ((⟨#[]⟩ : ByteArray)), H', ⟨Zj⟩, ⟨Zf⟩, ⟨Zh⟩, ⟨QI67_0⟩, ⟨QK⟩, ⟨QB⟩⟩
 case rest =>
  clear HC2
  try clear c1
  try clear c2
  try clear p2
  try clear c3
  try clear c4
  try clear c5
  try clear c6
  try clear c8
  try clear c9
  try clear c10
  try clear c10b0
  try clear c10b1
  try clear c15
  try clear c16
  try clear c19
  try clear c20
  try clear c20b0
  try clear c20b1
  try clear c26
  try clear c27
  try clear c30
  try clear c31
  try clear c31b0
  try clear c31b1
  try clear c38
  try clear c39
  try clear c43
  try clear hcz13_0 hcz13_1
  try clear hcz17_0 hcz17_1 hcz17_2
  try clear hcz24_0 hcz24_1
  try clear hcz28_0 hcz28_1 hcz28_2
  try clear hcz36_0 hcz36_1
  try clear hcz40_0 hcz40_1 hcz40_2
  try clear hcz7_0 hcz7_1 hcz7_2
  try clear hfz13_0
  try clear hfz13_1
  try clear hfz17_0
  try clear hfz17_1
  try clear hfz17_2
  try clear hfz24_0
  try clear hfz24_1
  try clear hfz28_0
  try clear hfz28_1
  try clear hfz28_2
  try clear hfz36_0
  try clear hfz36_1
  try clear hfz40_0
  try clear hfz40_1
  try clear hfz40_2
  try clear hfz7_0
  try clear hfz7_1
  try clear hfz7_2
  obtain ⟨kq, x1000_1, x1001_1, x103000_1, x103001_1, x103002_1, HA, HJ1, BK101, BK102, HI0, HK, HB⟩ := hcut
  cases kq with
  | zero => exact absurd HA.out (by simp [Y2.j0])
  | succ kj1 =>
   have H := HA.out
   clear HA
   simp only [Y2.j0] at H
   have HC44 := Y0.mk H
   clear H
   go_upto_region 11 with (fail)
   go_cut [55] (fun v55 wc => ∃ (kq : Nat) (x55_43 : Bool), v55 = .bool x55_43 ∧ Y0 (Y2.j1 kq x55_43 x1000_1 x1001_1 x103000_1 x103001_1 x103002_1 = some (r1, r2, r3, r4, r5)) ∧ Y0 (kq ≤ kj1) ∧ Y0 (wc.heap[gb101]? = some (.cells #[.int .i64 0, .string (⟨#[]⟩ : ByteArray), .string (⟨#[]⟩ : ByteArray)] 24 (0, 0))) ∧ Y0 (wc.heap[gb102]? = some (.cells #[.int .i64 x103000_1, .string x103001_1, .string x103002_1] 24 (0, 0))) ∧ Y0 (Ym w0 wc g x1000_1 x1001_1) ∧ Y0 (Yb w wc g none) ∧ Y0 (Below w0.heap.size w0 wc))
   case first =>
    have H := HC44.out
    clear HC44
    by_cases c45 : x1001_1 = true
    ·subst c45
     have H1 : (Y2.j1 kj1 false x1000_1 true x103000_1 x103001_1 x103002_1) = some (r1, r2, r3, r4, r5) := by rw [if_pos rfl] at H; exact H
     clear H
     have H := H1
     clear H1
     have H' := Y0.mk H
     clear H
     obtain ⟨hcz46_0, hcz46_1, hfz46_0, hfz46_1⟩ := Y1e HI0.out.1
     go_wp2
     go_meet
     case rel => exact ⟨_, (false), Z4, H', ⟨by have := HJ1.out; first | omega | exact Nat.le_refl _⟩, ⟨Zf⟩, ⟨Zh⟩, ⟨QI67_0⟩, ⟨QK⟩, ⟨QB⟩⟩
    ·replace c45 := Bool.eq_false_iff.mpr c45
     subst c45
     have H1 : ((Ye.f kj1 x103000_1 x103001_1 x103002_1).bind fun t123 => (Y2.j1 kj1 (!t123) x1000_1 false x103000_1 x103001_1 x103002_1)) = some (r1, r2, r3, r4, r5) := by rw [if_neg (show ¬ (false = true) by decide)] at H; exact H
     clear H
     have H := H1
     clear H1
     replace H := Option.bind_eq_some_iff.mp H
     obtain ⟨t123, A470, H⟩ := H
     replace H : (Y2.j1 kj1 (!t123) x1000_1 false x103000_1 x103001_1 x103002_1) = some (r1, r2, r3, r4, r5) := H
     have A47 := Y0.mk A470
     clear A470
     have H' := Y0.mk H
     clear H
     obtain ⟨hcz48_0, hcz48_1, hfz48_0, hfz48_1⟩ := Y1e HI0.out.1
     have hnb49 := NB102_101.out
     have hnc49 := NB101_102.out
     have hnb50 := NB102_0.out
     have hnc50 := NB0_102.out
     obtain ⟨hcz51_0, hcz51_1, hcz51_2, hfz51_0, hfz51_1, hfz51_2⟩ := Yr BK102.out
     go_wp2_with (first | (go_at_call 20; (with_reducible refine (Ye.calls kj1 x103000_1 x103001_1 x103002_1 t123 _ ?side1 A47.out).mono ?_); (case side1 => exact Z3); rintro e w52 ⟨rfl, hb⟩; have n_ := Y2G (Y9 (g := gb101) (o := .cells #[.int .i64 0, .string (⟨#[]⟩ : ByteArray), .string (⟨#[]⟩ : ByteArray)] 24 (0, 0)) QQ hb) (Y9 (g := gb102) (o := .cells #[.int .i64 x103000_1, .string x103001_1, .string x103002_1] 24 (0, 0)) QQ hb) (Ym.below QI67_0 hb) (Yb.trans QK (Yb.of_below hb g none) (.inl rfl)) (Y8 QB hb); clear BK101 BK102 HI0 HK HB; obtain ⟨BK101, BK102, HI0, HK, HB⟩ := n_; (try clear hb); (try clear hb2); (try clear hk); (try clear hi)))
     go_meet
     case rel => exact ⟨_, (!t123), Z4, H', ⟨by have := HJ1.out; first | omega | exact Nat.le_refl _⟩, ⟨Zf⟩, ⟨Zh⟩, ⟨QI67_0⟩, ⟨QK⟩, ⟨QB⟩⟩
   case rest =>
    clear HC44
    try clear c1
    try clear c2
    try clear p2
    try clear c3
    try clear c4
    try clear c5
    try clear c6
    try clear c8
    try clear c9
    try clear c10
    try clear c10b0
    try clear c10b1
    try clear c15
    try clear c16
    try clear c19
    try clear c20
    try clear c20b0
    try clear c20b1
    try clear c26
    try clear c27
    try clear c30
    try clear c31
    try clear c31b0
    try clear c31b1
    try clear c38
    try clear c39
    try clear c43
    try clear c45
    try clear c49
    try clear c50
    try clear hcz13_0 hcz13_1
    try clear hcz17_0 hcz17_1 hcz17_2
    try clear hcz24_0 hcz24_1
    try clear hcz28_0 hcz28_1 hcz28_2
    try clear hcz36_0 hcz36_1
    try clear hcz40_0 hcz40_1 hcz40_2
    try clear hcz46_0 hcz46_1
    try clear hcz48_0 hcz48_1
    try clear hcz51_0 hcz51_1 hcz51_2
    try clear hcz7_0 hcz7_1 hcz7_2
    try clear hfz13_0
    try clear hfz13_1
    try clear hfz17_0
    try clear hfz17_1
    try clear hfz17_2
    try clear hfz24_0
    try clear hfz24_1
    try clear hfz28_0
    try clear hfz28_1
    try clear hfz28_2
    try clear hfz36_0
    try clear hfz36_1
    try clear hfz40_0
    try clear hfz40_1
    try clear hfz40_2
    try clear hfz46_0
    try clear hfz46_1
    try clear hfz48_0
    try clear hfz48_1
    try clear hfz51_0
    try clear hfz51_1
    try clear hfz51_2
    try clear hfz7_0
    try clear hfz7_1
    try clear hfz7_2
    try clear p2
    obtain ⟨kq, x55_43, rfl, HA, HJ43, BK101, BK102, HI0, HK, HB⟩ := hcut
    cases kq with
    | zero => exact absurd HA.out (by simp [Y2.j1])
    | succ kj43 =>
     have H := HA.out
     clear HA
     simp only [Y2.j1] at H
     by_cases c53 : x55_43 = true
     ·subst c53
      have H1 : ((Yk.f x1000_1 x1001_1).bind fun bt124 => ((Yf.f kj43 bt124.1 bt124.2).bind fun bt126 => (some (x103000_1, x103001_1, x103002_1, bt126.1, bt126.2)))) = some (r1, r2, r3, r4, r5) := by rw [if_pos rfl] at H; exact H
      clear H
      have H := H1
      clear H1
      replace H := Option.bind_eq_some_iff.mp H
      obtain ⟨⟨t124, t125⟩, A540, H⟩ := H
      replace H : ((Yf.f kj43 t124 t125).bind fun bt126 => (some (x103000_1, x103001_1, x103002_1, bt126.1, bt126.2))) = some (r1, r2, r3, r4, r5) := H
      have A54 := Y0.mk A540
      clear A540
      replace H := Option.bind_eq_some_iff.mp H
      obtain ⟨⟨t126, t127⟩, A550, H⟩ := H
      replace H : (some (x103000_1, x103001_1, x103002_1, t126, t127)) = some (r1, r2, r3, r4, r5) := H
      have A55 := Y0.mk A550
      clear A550
      simp only [Option.some.injEq, Prod.mk.injEq] at H
      obtain ⟨rfl, rfl, rfl, rfl, rfl⟩ := H
      go_wp2_with (first | ((with_reducible refine Ya (f := 86) rfl ?_); refine Yu (some 57) rfl rfl Tryd.func86 Z7 rfl #[.pointer (some ⟨g, 0, none⟩)] rfl Z0 ?_; (with_reducible refine (Yk.calls g x1000_1 x1001_1 t124 t125 w0 _ ?side1 ?side2 A54.out).mono ?_); (case side1 => exact ZA); (case side2 => exact QB); rintro e w56 ⟨rfl, hi, hb, hk⟩; refine ⟨_, rfl, ?_⟩; have n_ := Y2G (Yb.blk hk (g' := gb101) (o := .cells #[.int .i64 0, .string (⟨#[]⟩ : ByteArray), .string (⟨#[]⟩ : ByteArray)] 24 (0, 0)) QQ NB101_0.out (by simp)) (Yb.blk hk (g' := gb102) (o := .cells #[.int .i64 x103000_1, .string x103001_1, .string x103002_1] 24 (0, 0)) QQ NB102_0.out (by simp)) (Yb.trans QK hk (.inl rfl)) (hb) (hi); clear BK101 BK102 HK HB HI0; obtain ⟨BK101, BK102, HK, HB, HI0⟩ := n_; (try clear hb); (try clear hb2); (try clear hk); (try clear hi)) | ((with_reducible refine Ya (f := 87) rfl ?_); refine Yu (some 59) rfl rfl Tryd.func87 Z7 rfl #[.pointer (some ⟨g, 0, none⟩)] rfl Z0 ?_; (with_reducible refine (Yf.calls kj43 g t124 t125 t126 t127 w0 _ ?side1 ?side2 A55.out).mono ?_); (case side1 => exact ZA); (case side2 => exact QB); rintro e w57 ⟨rfl, hi, hb, hk⟩; refine ⟨_, rfl, ?_⟩; have n_ := Y2G (Yb.blk hk (g' := gb101) (o := .cells #[.int .i64 0, .string (⟨#[]⟩ : ByteArray), .string (⟨#[]⟩ : ByteArray)] 24 (0, 0)) QQ NB101_0.out (by simp)) (Yb.blk hk (g' := gb102) (o := .cells #[.int .i64 x103000_1, .string x103001_1, .string x103002_1] 24 (0, 0)) QQ NB102_0.out (by simp)) (Yb.trans QK hk (.inl rfl)) (hb) (hi); clear BK101 BK102 HK HB HI0; obtain ⟨BK101, BK102, HK, HB, HI0⟩ := n_; (try clear hb); (try clear hb2); (try clear hk); (try clear hi); have hnb58 := NB102_101.out; have hnc58 := NB101_102.out; have hnb59 := NB102_0.out; have hnc59 := NB0_102.out; obtain ⟨hcz60_0, hcz60_1, hcz60_2, hfz60_0, hfz60_1, hfz60_2⟩ := Yr BK102.out; have hnb61 := NB101_0.out; have hnc61 := NB0_101.out; obtain ⟨hcz62_0, hcz62_1, hcz62_2, hfz62_0, hfz62_1, hfz62_2⟩ := Yr BK101.out))
      refine bodyPost_ret (results_cell_row rfl _ _ gb101 24 #[.int .i64 x103000_1, .string x103001_1, .string x103002_1] (0, 0) _ rfl ZR Tryd.underlying24 rfl Z7) rfl ?_
      exact ZV
     ·replace c53 := Bool.eq_false_iff.mpr c53
      subst c53
      have H1 : ((Yf.f kj43 x1000_1 x1001_1).bind fun bt128 => (some (x103000_1, x103001_1, x103002_1, bt128.1, bt128.2))) = some (r1, r2, r3, r4, r5) := by rw [if_neg (show ¬ (false = true) by decide)] at H; exact H
      clear H
      have H := H1
      clear H1
      replace H := Option.bind_eq_some_iff.mp H
      obtain ⟨⟨t128, t129⟩, A630, H⟩ := H
      replace H : (some (x103000_1, x103001_1, x103002_1, t128, t129)) = some (r1, r2, r3, r4, r5) := H
      have A63 := Y0.mk A630
      clear A630
      simp only [Option.some.injEq, Prod.mk.injEq] at H
      obtain ⟨rfl, rfl, rfl, rfl, rfl⟩ := H
      go_wp2_with (first | ((with_reducible refine Ya (f := 87) rfl ?_); refine Yu (some 59) rfl rfl Tryd.func87 Z7 rfl #[.pointer (some ⟨g, 0, none⟩)] rfl Z0 ?_; (with_reducible refine (Yf.calls kj43 g x1000_1 x1001_1 t128 t129 w0 _ ?side1 ?side2 A63.out).mono ?_); (case side1 => exact ZA); (case side2 => exact QB); rintro e w64 ⟨rfl, hi, hb, hk⟩; refine ⟨_, rfl, ?_⟩; have n_ := Y2G (Yb.blk hk (g' := gb101) (o := .cells #[.int .i64 0, .string (⟨#[]⟩ : ByteArray), .string (⟨#[]⟩ : ByteArray)] 24 (0, 0)) QQ NB101_0.out (by simp)) (Yb.blk hk (g' := gb102) (o := .cells #[.int .i64 x103000_1, .string x103001_1, .string x103002_1] 24 (0, 0)) QQ NB102_0.out (by simp)) (Yb.trans QK hk (.inl rfl)) (hb) (hi); clear BK101 BK102 HK HB HI0; obtain ⟨BK101, BK102, HK, HB, HI0⟩ := n_; (try clear hb); (try clear hb2); (try clear hk); (try clear hi); have hnb65 := NB102_101.out; have hnc65 := NB101_102.out; have hnb66 := NB102_0.out; have hnc66 := NB0_102.out; obtain ⟨hcz67_0, hcz67_1, hcz67_2, hfz67_0, hfz67_1, hfz67_2⟩ := Yr BK102.out; have hnb68 := NB101_0.out; have hnc68 := NB0_101.out; obtain ⟨hcz69_0, hcz69_1, hcz69_2, hfz69_0, hfz69_1, hfz69_2⟩ := Yr BK101.out))
      refine bodyPost_ret (results_cell_row rfl _ _ gb101 24 #[.int .i64 x103000_1, .string x103001_1, .string x103002_1] (0, 0) _ rfl ZR Tryd.underlying24 rfl Z7) rfl ?_
      exact ZV
def Yx.f (k : Nat) (a0 : ByteArray) : Option (Int × ByteArray × ByteArray × Bool) := (utf8_ValidString.f a0).bind fun t102 => (if t102 = true then ((Y2.f k a0 false).bind fun bt104 => (if bt104.2.2.2.2 = true then (some (0, (⟨#[]⟩ : ByteArray), (⟨#[]⟩ : ByteArray), false)) else (if bt104.2.2.2.1.toList = ([] : List UInt8) then ((YD.f k bt104.1 bt104.2.1 bt104.2.2.1).bind fun t110 => (if t110.toList = a0.toList then (some (bt104.1, bt104.2.1, bt104.2.2.1, true)) else (some (0, (⟨#[]⟩ : ByteArray), (⟨#[]⟩ : ByteArray), false)))) else (some (0, (⟨#[]⟩ : ByteArray), (⟨#[]⟩ : ByteArray), false))))) else (some (0, (⟨#[]⟩ : ByteArray), (⟨#[]⟩ : ByteArray), false)))
set_option maxHeartbeats 8000000 in
set_option maxRecDepth 100000 in
theorem Yx.calls (k : Nat) (a0 : ByteArray) (r1 : Int) (r2 : ByteArray) (r3 : ByteArray) (r4 : Bool) (w : World) (hT : Tabs w) (h : Yx.f k a0 = some (r1, r2, r3, r4)) :
  Calls Tryd.prog 18 #[.string a0] w fun e w' => e = .returned (.tuple #[.agg #[.int .i64 r1, .string r2, .string r3], .bool r4]) ∧ Below w.heap.size w w' := by
 have HT := Y0.mk hT
 clear hT
 have hu24 := Tryd.underlying24
 have hu67 := Tryd.underlying67
 have HB := Y0.mk (Below.refl w.heap.size w)
 have H : ((utf8_ValidString.f a0).bind fun t102 => (if t102 = true then ((Y2.f k a0 false).bind fun bt104 => (if bt104.2.2.2.2 = true then (some (0, (⟨#[]⟩ : ByteArray), (⟨#[]⟩ : ByteArray), false)) else (if bt104.2.2.2.1.toList = ([] : List UInt8) then ((YD.f k bt104.1 bt104.2.1 bt104.2.2.1).bind fun t110 => (if t110.toList = a0.toList then (some (bt104.1, bt104.2.1, bt104.2.2.1, true)) else (some (0, (⟨#[]⟩ : ByteArray), (⟨#[]⟩ : ByteArray), false)))) else (some (0, (⟨#[]⟩ : ByteArray), (⟨#[]⟩ : ByteArray), false))))) else (some (0, (⟨#[]⟩ : ByteArray), (⟨#[]⟩ : ByteArray), false)))) = some (r1, r2, r3, r4) := h
 clear h
 replace H := Option.bind_eq_some_iff.mp H
 obtain ⟨t102, A20, H⟩ := H
 replace H : (if t102 = true then ((Y2.f k a0 false).bind fun bt104 => (if bt104.2.2.2.2 = true then (some (0, (⟨#[]⟩ : ByteArray), (⟨#[]⟩ : ByteArray), false)) else (if bt104.2.2.2.1.toList = ([] : List UInt8) then ((YD.f k bt104.1 bt104.2.1 bt104.2.2.1).bind fun t110 => (if t110.toList = a0.toList then (some (bt104.1, bt104.2.1, bt104.2.2.1, true)) else (some (0, (⟨#[]⟩ : ByteArray), (⟨#[]⟩ : ByteArray), false)))) else (some (0, (⟨#[]⟩ : ByteArray), (⟨#[]⟩ : ByteArray), false))))) else (some (0, (⟨#[]⟩ : ByteArray), (⟨#[]⟩ : ByteArray), false))) = some (r1, r2, r3, r4) := H
 have A2 := Y0.mk A20
 clear A20
 by_cases c3 : t102 = true
 ·subst c3
  have H1 : ((Y2.f k a0 false).bind fun bt104 => (if bt104.2.2.2.2 = true then (some (0, (⟨#[]⟩ : ByteArray), (⟨#[]⟩ : ByteArray), false)) else (if bt104.2.2.2.1.toList = ([] : List UInt8) then ((YD.f k bt104.1 bt104.2.1 bt104.2.2.1).bind fun t110 => (if t110.toList = a0.toList then (some (bt104.1, bt104.2.1, bt104.2.2.1, true)) else (some (0, (⟨#[]⟩ : ByteArray), (⟨#[]⟩ : ByteArray), false)))) else (some (0, (⟨#[]⟩ : ByteArray), (⟨#[]⟩ : ByteArray), false))))) = some (r1, r2, r3, r4) := by rw [if_pos rfl] at H; exact H
  clear H
  have H := H1
  clear H1
  replace H := Option.bind_eq_some_iff.mp H
  obtain ⟨⟨t104, t105, t106, t107, t108⟩, A40, H⟩ := H
  replace H : (if t108 = true then (some (0, (⟨#[]⟩ : ByteArray), (⟨#[]⟩ : ByteArray), false)) else (if t107.toList = ([] : List UInt8) then ((YD.f k t104 t105 t106).bind fun t110 => (if t110.toList = a0.toList then (some (t104, t105, t106, true)) else (some (0, (⟨#[]⟩ : ByteArray), (⟨#[]⟩ : ByteArray), false)))) else (some (0, (⟨#[]⟩ : ByteArray), (⟨#[]⟩ : ByteArray), false)))) = some (r1, r2, r3, r4) := H
  have A4 := Y0.mk A40
  clear A40
  by_cases c5 : t108 = true
  ·subst c5
   have H1 : (some (0, (⟨#[]⟩ : ByteArray), (⟨#[]⟩ : ByteArray), false)) = some (r1, r2, r3, r4) := by rw [if_pos rfl] at H; exact H
   clear H
   have H := H1
   clear H1
   simp only [Option.some.injEq, Prod.mk.injEq] at H
   obtain ⟨rfl, rfl, rfl, rfl⟩ := H
   go_enter Tryd.func18, Tryd.ntmps18
   go_wp2_with (first | ((with_reducible refine Yt (N := 2) rfl ?_); refine Yp ?hg (N := 2) ?hd (cs := #[.int .i64 0, .string (⟨#[]⟩ : ByteArray), .string (⟨#[]⟩ : ByteArray)]) (t := 24) ?hr ?_; (case hd => rfl); (case hg => rfl); (case hr => exact Zb); intro gb101 hg w6 hbox hb; have n_ := Y1L (Y8 QB hb) (hbox) ((by rw [hg]; exact (Yd QB) : w.heap.size ≤ gb101)) ((by rw [hg]; exact (Yd QB) : w.heap.size ≤ gb101)); clear HB; obtain ⟨HB, BK101, GW101, GE101⟩ := n_; clear hb hbox hg) | ((with_reducible refine Ya (f := 38) rfl ?_); refine Yu (some 7) rfl rfl Tryd.func38 Z7 rfl #[.string a0] rfl Z0 ?_; (with_reducible refine (utf8_ValidString.calls a0 true _ ?side1 A2.out).mono ?_); (case side1 => exact Z3); rintro e w7 ⟨rfl, hb⟩; refine ⟨_, rfl, ?_⟩; have n_ := Y2f (Y9 (g := gb101) (o := .cells #[.int .i64 0, .string (⟨#[]⟩ : ByteArray), .string (⟨#[]⟩ : ByteArray)] 24 (0, 0)) QQ hb) (Y8 QB hb); clear BK101 HB; obtain ⟨BK101, HB⟩ := n_; (try clear hb); (try clear hb2); (try clear hk); (try clear hi)) | ((with_reducible refine Yt (N := 12) rfl ?_); refine Yp ?hg (N := 12) ?hd (cs := #[.string a0, .bool false]) (t := 67) ?hr ?_; (case hd => rfl); (case hg => rfl); (case hr => exact Zb); intro gb103 hg w8 hbox hb; have n_ := put7 (Y9 (g := gb101) (o := .cells #[.int .i64 0, .string (⟨#[]⟩ : ByteArray), .string (⟨#[]⟩ : ByteArray)] 24 (0, 0)) QQ hb) (Y8 QB hb) ((by rw [hg]; exact (Yd QB) : w.heap.size ≤ gb103)) ((by rw [hg]; exact (Yd QB) : w.heap.size ≤ gb103)) ((by rw [hg]; exact Nat.ne_of_lt (Yy (g := gb101) (o := .cells #[.int .i64 0, .string (⟨#[]⟩ : ByteArray), .string (⟨#[]⟩ : ByteArray)] 24 (0, 0)) QQ) : gb101 ≠ gb103)) ((by rw [hg]; exact Nat.ne_of_gt (Yy (g := gb101) (o := .cells #[.int .i64 0, .string (⟨#[]⟩ : ByteArray), .string (⟨#[]⟩ : ByteArray)] 24 (0, 0)) QQ) : gb103 ≠ gb101)) ((⟨hbox, ZB⟩ : Ym w w8 gb103 a0 false)); clear BK101 HB; obtain ⟨BK101, HB, GW103, GE103, NB101_103, NB103_101, HI103⟩ := n_; clear hb hbox hg) | ((with_reducible refine Ya (f := 43) rfl ?_); refine Yu (some 14) rfl rfl Tryd.func43 Z7 rfl #[.pointer (some ⟨gb103, 0, none⟩)] rfl Z0 ?_; (with_reducible refine (Y2.calls k gb103 a0 false t104 t105 t106 t107 true w _ ?side1 ?side2 ?side3 A4.out).mono ?_); (case side1 => exact QI67_103); (case side2 => exact QB); (case side3 => exact HT.out); rintro e w9 ⟨rfl, hi, hb, hk⟩; refine ⟨_, rfl, ?_⟩; have n_ := Y1X (Yb.blk hk (g' := gb101) (o := .cells #[.int .i64 0, .string (⟨#[]⟩ : ByteArray), .string (⟨#[]⟩ : ByteArray)] 24 (0, 0)) QQ NB101_103.out (by simp)) (hb) (hi); clear BK101 HB HI103; obtain ⟨BK101, HB, HI103⟩ := n_; (try clear hb); (try clear hb2); (try clear hk); (try clear hi)) | ((with_reducible refine Yt (N := 5) rfl ?_); refine Yp ?hg (N := 5) ?hd (cs := #[.int .i64 0, .string (⟨#[]⟩ : ByteArray), .string (⟨#[]⟩ : ByteArray)]) (t := 24) ?hr ?_; (case hd => rfl); (case hg => rfl); (case hr => exact Zb); intro gb109 hg w10 hbox hb; have n0_ := Y0.mk (Y9 (g := gb101) (o := .cells #[.int .i64 0, .string (⟨#[]⟩ : ByteArray), .string (⟨#[]⟩ : ByteArray)] 24 (0, 0)) QQ hb); have n1_ := Y0.mk (Ym.below QI67_103 hb); have n2_ := Y0.mk (Y8 QB hb); have n3_ := Y0.mk (hbox); have n4_ := Y0.mk ((by rw [hg]; exact (Yd QB) : w.heap.size ≤ gb109)); have n5_ := Y0.mk ((by rw [hg]; exact (Yd QB) : w.heap.size ≤ gb109)); have n6_ := Y0.mk ((by rw [hg]; exact Nat.ne_of_lt (Yy (g := gb101) (o := .cells #[.int .i64 0, .string (⟨#[]⟩ : ByteArray), .string (⟨#[]⟩ : ByteArray)] 24 (0, 0)) QQ) : gb101 ≠ gb109)); have n7_ := Y0.mk ((by rw [hg]; exact Nat.ne_of_gt (Yy (g := gb101) (o := .cells #[.int .i64 0, .string (⟨#[]⟩ : ByteArray), .string (⟨#[]⟩ : ByteArray)] 24 (0, 0)) QQ) : gb109 ≠ gb101)); have n8_ := Y0.mk ((by rw [hg]; exact Nat.ne_of_lt (Ym.lt (show Ym w _ gb103 t107 true from QI67_103)) : gb103 ≠ gb109)); have n9_ := Y0.mk ((by rw [hg]; exact Nat.ne_of_gt (Ym.lt (show Ym w _ gb103 t107 true from QI67_103)) : gb109 ≠ gb103)); clear BK101 HI103 HB; have BK101 := n0_; have HI103 := n1_; have HB := n2_; have BK109 := n3_; have GW109 := n4_; have GE109 := n5_; have NB101_109 := n6_; have NB109_101 := n7_; have NB103_109 := n8_; have NB109_103 := n9_; clear n0_ n1_ n2_ n3_ n4_ n5_ n6_ n7_ n8_ n9_ hb hbox hg; have hnb11 := NB109_101.out; have hnc11 := NB101_109.out; have hnb12 := NB109_103.out; have hnc12 := NB103_109.out; obtain ⟨hcz13_0, hcz13_1, hcz13_2, hfz13_0, hfz13_1, hfz13_2⟩ := Yr BK109.out; obtain ⟨HGz14, hgz14⟩ := HI103.out; have hcz14_0 := Y13 HGz14; have hcz14_1 := Y14 HGz14; have hfz14_0 := Yv HGz14 0; have hfz14_1 := Yv HGz14 1; clear HGz14 hgz14; have hnb15 := NB101_103.out; have hnc15 := NB103_101.out; obtain ⟨hcz16_0, hcz16_1, hcz16_2, hfz16_0, hfz16_1, hfz16_2⟩ := Yr BK101.out))
   refine bodyPost_ret (Y1Q rfl _ _ gb101 24 #[.int .i64 0, .string (⟨#[]⟩ : ByteArray), .string (⟨#[]⟩ : ByteArray)] (0, 0) _ rfl ZQ Tryd.underlying24 rfl Z7) rfl ?_
   exact ZT
  ·replace c5 := Bool.eq_false_iff.mpr c5
   subst c5
   have H1 : (if t107.toList = ([] : List UInt8) then ((YD.f k t104 t105 t106).bind fun t110 => (if t110.toList = a0.toList then (some (t104, t105, t106, true)) else (some (0, (⟨#[]⟩ : ByteArray), (⟨#[]⟩ : ByteArray), false)))) else (some (0, (⟨#[]⟩ : ByteArray), (⟨#[]⟩ : ByteArray), false))) = some (r1, r2, r3, r4) := by rw [if_neg (show ¬ (false = true) by decide)] at H; exact H
   clear H
   have H := H1
   clear H1
   by_cases c17 : t107.toList = ([] : List UInt8)
   ·rw [if_pos c17] at H
    have c17b0 : (t107.toList == ([] : List UInt8)) = true := beq_iff_eq.mpr c17
    have c17b1 : (t107.toList != ([] : List UInt8)) = false := bne_eq_false_iff_eq.mpr c17
    clear c17
    replace H := Option.bind_eq_some_iff.mp H
    obtain ⟨t110, A180, H⟩ := H
    replace H : (if t110.toList = a0.toList then (some (t104, t105, t106, true)) else (some (0, (⟨#[]⟩ : ByteArray), (⟨#[]⟩ : ByteArray), false))) = some (r1, r2, r3, r4) := H
    have A18 := Y0.mk A180
    clear A180
    by_cases c19 : t110.toList = a0.toList
    ·rw [if_pos c19] at H
     have c19b0 : (t110.toList == a0.toList) = true := beq_iff_eq.mpr c19
     have c19b1 : (t110.toList != a0.toList) = false := bne_eq_false_iff_eq.mpr c19
     clear c19
     simp only [Option.some.injEq, Prod.mk.injEq] at H
     obtain ⟨rfl, rfl, rfl, rfl⟩ := H
     go_enter Tryd.func18, Tryd.ntmps18
     go_wp2_with (first | ((with_reducible refine Yt (N := 2) rfl ?_); refine Yp ?hg (N := 2) ?hd (cs := #[.int .i64 0, .string (⟨#[]⟩ : ByteArray), .string (⟨#[]⟩ : ByteArray)]) (t := 24) ?hr ?_; (case hd => rfl); (case hg => rfl); (case hr => exact Zb); intro gb101 hg w20 hbox hb; have n_ := Y1L (Y8 QB hb) (hbox) ((by rw [hg]; exact (Yd QB) : w.heap.size ≤ gb101)) ((by rw [hg]; exact (Yd QB) : w.heap.size ≤ gb101)); clear HB; obtain ⟨HB, BK101, GW101, GE101⟩ := n_; clear hb hbox hg) | ((with_reducible refine Ya (f := 38) rfl ?_); refine Yu (some 7) rfl rfl Tryd.func38 Z7 rfl #[.string a0] rfl Z0 ?_; (with_reducible refine (utf8_ValidString.calls a0 true _ ?side1 A2.out).mono ?_); (case side1 => exact Z3); rintro e w21 ⟨rfl, hb⟩; refine ⟨_, rfl, ?_⟩; have n_ := Y2f (Y9 (g := gb101) (o := .cells #[.int .i64 0, .string (⟨#[]⟩ : ByteArray), .string (⟨#[]⟩ : ByteArray)] 24 (0, 0)) QQ hb) (Y8 QB hb); clear BK101 HB; obtain ⟨BK101, HB⟩ := n_; (try clear hb); (try clear hb2); (try clear hk); (try clear hi)) | ((with_reducible refine Yt (N := 12) rfl ?_); refine Yp ?hg (N := 12) ?hd (cs := #[.string a0, .bool false]) (t := 67) ?hr ?_; (case hd => rfl); (case hg => rfl); (case hr => exact Zb); intro gb103 hg w22 hbox hb; have n_ := put7 (Y9 (g := gb101) (o := .cells #[.int .i64 0, .string (⟨#[]⟩ : ByteArray), .string (⟨#[]⟩ : ByteArray)] 24 (0, 0)) QQ hb) (Y8 QB hb) ((by rw [hg]; exact (Yd QB) : w.heap.size ≤ gb103)) ((by rw [hg]; exact (Yd QB) : w.heap.size ≤ gb103)) ((by rw [hg]; exact Nat.ne_of_lt (Yy (g := gb101) (o := .cells #[.int .i64 0, .string (⟨#[]⟩ : ByteArray), .string (⟨#[]⟩ : ByteArray)] 24 (0, 0)) QQ) : gb101 ≠ gb103)) ((by rw [hg]; exact Nat.ne_of_gt (Yy (g := gb101) (o := .cells #[.int .i64 0, .string (⟨#[]⟩ : ByteArray), .string (⟨#[]⟩ : ByteArray)] 24 (0, 0)) QQ) : gb103 ≠ gb101)) ((⟨hbox, ZB⟩ : Ym w w22 gb103 a0 false)); clear BK101 HB; obtain ⟨BK101, HB, GW103, GE103, NB101_103, NB103_101, HI103⟩ := n_; clear hb hbox hg) | ((with_reducible refine Ya (f := 43) rfl ?_); refine Yu (some 14) rfl rfl Tryd.func43 Z7 rfl #[.pointer (some ⟨gb103, 0, none⟩)] rfl Z0 ?_; (with_reducible refine (Y2.calls k gb103 a0 false t104 t105 t106 t107 false w _ ?side1 ?side2 ?side3 A4.out).mono ?_); (case side1 => exact QI67_103); (case side2 => exact QB); (case side3 => exact HT.out); rintro e w23 ⟨rfl, hi, hb, hk⟩; refine ⟨_, rfl, ?_⟩; have n_ := Y1X (Yb.blk hk (g' := gb101) (o := .cells #[.int .i64 0, .string (⟨#[]⟩ : ByteArray), .string (⟨#[]⟩ : ByteArray)] 24 (0, 0)) QQ NB101_103.out (by simp)) (hb) (hi); clear BK101 HB HI103; obtain ⟨BK101, HB, HI103⟩ := n_; (try clear hb); (try clear hb2); (try clear hk); (try clear hi)) | ((with_reducible refine Yt (N := 5) rfl ?_); refine Yp ?hg (N := 5) ?hd (cs := #[.int .i64 0, .string (⟨#[]⟩ : ByteArray), .string (⟨#[]⟩ : ByteArray)]) (t := 24) ?hr ?_; (case hd => rfl); (case hg => rfl); (case hr => exact Zb); intro gb109 hg w24 hbox hb; have n0_ := Y0.mk (Y9 (g := gb101) (o := .cells #[.int .i64 0, .string (⟨#[]⟩ : ByteArray), .string (⟨#[]⟩ : ByteArray)] 24 (0, 0)) QQ hb); have n1_ := Y0.mk (Ym.below QI67_103 hb); have n2_ := Y0.mk (Y8 QB hb); have n3_ := Y0.mk (hbox); have n4_ := Y0.mk ((by rw [hg]; exact (Yd QB) : w.heap.size ≤ gb109)); have n5_ := Y0.mk ((by rw [hg]; exact (Yd QB) : w.heap.size ≤ gb109)); have n6_ := Y0.mk ((by rw [hg]; exact Nat.ne_of_lt (Yy (g := gb101) (o := .cells #[.int .i64 0, .string (⟨#[]⟩ : ByteArray), .string (⟨#[]⟩ : ByteArray)] 24 (0, 0)) QQ) : gb101 ≠ gb109)); have n7_ := Y0.mk ((by rw [hg]; exact Nat.ne_of_gt (Yy (g := gb101) (o := .cells #[.int .i64 0, .string (⟨#[]⟩ : ByteArray), .string (⟨#[]⟩ : ByteArray)] 24 (0, 0)) QQ) : gb109 ≠ gb101)); have n8_ := Y0.mk ((by rw [hg]; exact Nat.ne_of_lt (Ym.lt (show Ym w _ gb103 t107 false from QI67_103)) : gb103 ≠ gb109)); have n9_ := Y0.mk ((by rw [hg]; exact Nat.ne_of_gt (Ym.lt (show Ym w _ gb103 t107 false from QI67_103)) : gb109 ≠ gb103)); clear BK101 HI103 HB; have BK101 := n0_; have HI103 := n1_; have HB := n2_; have BK109 := n3_; have GW109 := n4_; have GE109 := n5_; have NB101_109 := n6_; have NB109_101 := n7_; have NB103_109 := n8_; have NB109_103 := n9_; clear n0_ n1_ n2_ n3_ n4_ n5_ n6_ n7_ n8_ n9_ hb hbox hg; have hnb25 := NB109_101.out; have hnc25 := NB101_109.out; have hnb26 := NB109_103.out; have hnc26 := NB103_109.out; obtain ⟨hcz27_0, hcz27_1, hcz27_2, hfz27_0, hfz27_1, hfz27_2⟩ := Yr BK109.out; obtain ⟨HGz28, hgz28⟩ := HI103.out; have hcz28_0 := Y13 HGz28; have hcz28_1 := Y14 HGz28; have hfz28_0 := Yv HGz28 0; have hfz28_1 := Yv HGz28 1; clear HGz28 hgz28) | (go_at_call 44; (with_reducible refine (YD.calls k t104 t105 t106 t110 _ A18.out).mono ?_); rintro e w29 ⟨rfl, hb⟩; have n_ := Y1L (Y9 (g := gb101) (o := .cells #[.int .i64 0, .string (⟨#[]⟩ : ByteArray), .string (⟨#[]⟩ : ByteArray)] 24 (0, 0)) Zc hb) (Ym.below (show Ym w (((w24.setCell ⟨gb109, 0, none⟩ (.int .i64 t104)).setCell ⟨gb109, 1, none⟩ (.string t105)).setCell ⟨gb109, 2, none⟩ (.string t106)) gb103 t107 false from QI67_103) hb) (Y9 (g := gb109) (o := .cells #[.int .i64 t104, .string t105, .string t106] 24 (0, 0)) ZP hb) (Y8 QB hb); clear BK101 HI103 BK109 HB; obtain ⟨BK101, HI103, BK109, HB⟩ := n_; (try clear hb); (try clear hb2); (try clear hk); (try clear hi); obtain ⟨hcz30_0, hcz30_1, hcz30_2, hfz30_0, hfz30_1, hfz30_2⟩ := Yr BK109.out; have hnb31 := NB101_103.out; have hnc31 := NB103_101.out; obtain ⟨hcz32_0, hcz32_1, hcz32_2, hfz32_0, hfz32_1, hfz32_2⟩ := Yr BK101.out))
     refine bodyPost_ret (Y1Q rfl _ _ gb101 24 #[.int .i64 t104, .string t105, .string t106] (0, 0) _ rfl ZP Tryd.underlying24 rfl Z7) rfl ?_
     exact ZT
    ·rw [if_neg c19] at H
     have c19b0 : (t110.toList == a0.toList) = false := beq_eq_false_iff_ne.mpr c19
     have c19b1 : (t110.toList != a0.toList) = true := bne_iff_ne.mpr c19
     simp only [Option.some.injEq, Prod.mk.injEq] at H
     obtain ⟨rfl, rfl, rfl, rfl⟩ := H
     go_enter Tryd.func18, Tryd.ntmps18
     go_wp2_with (first | ((with_reducible refine Yt (N := 2) rfl ?_); refine Yp ?hg (N := 2) ?hd (cs := #[.int .i64 0, .string (⟨#[]⟩ : ByteArray), .string (⟨#[]⟩ : ByteArray)]) (t := 24) ?hr ?_; (case hd => rfl); (case hg => rfl); (case hr => exact Zb); intro gb101 hg w33 hbox hb; have n_ := Y1L (Y8 QB hb) (hbox) ((by rw [hg]; exact (Yd QB) : w.heap.size ≤ gb101)) ((by rw [hg]; exact (Yd QB) : w.heap.size ≤ gb101)); clear HB; obtain ⟨HB, BK101, GW101, GE101⟩ := n_; clear hb hbox hg) | ((with_reducible refine Ya (f := 38) rfl ?_); refine Yu (some 7) rfl rfl Tryd.func38 Z7 rfl #[.string a0] rfl Z0 ?_; (with_reducible refine (utf8_ValidString.calls a0 true _ ?side1 A2.out).mono ?_); (case side1 => exact Z3); rintro e w34 ⟨rfl, hb⟩; refine ⟨_, rfl, ?_⟩; have n_ := Y2f (Y9 (g := gb101) (o := .cells #[.int .i64 0, .string (⟨#[]⟩ : ByteArray), .string (⟨#[]⟩ : ByteArray)] 24 (0, 0)) QQ hb) (Y8 QB hb); clear BK101 HB; obtain ⟨BK101, HB⟩ := n_; (try clear hb); (try clear hb2); (try clear hk); (try clear hi)) | ((with_reducible refine Yt (N := 12) rfl ?_); refine Yp ?hg (N := 12) ?hd (cs := #[.string a0, .bool false]) (t := 67) ?hr ?_; (case hd => rfl); (case hg => rfl); (case hr => exact Zb); intro gb103 hg w35 hbox hb; have n_ := put7 (Y9 (g := gb101) (o := .cells #[.int .i64 0, .string (⟨#[]⟩ : ByteArray), .string (⟨#[]⟩ : ByteArray)] 24 (0, 0)) QQ hb) (Y8 QB hb) ((by rw [hg]; exact (Yd QB) : w.heap.size ≤ gb103)) ((by rw [hg]; exact (Yd QB) : w.heap.size ≤ gb103)) ((by rw [hg]; exact Nat.ne_of_lt (Yy (g := gb101) (o := .cells #[.int .i64 0, .string (⟨#[]⟩ : ByteArray), .string (⟨#[]⟩ : ByteArray)] 24 (0, 0)) QQ) : gb101 ≠ gb103)) ((by rw [hg]; exact Nat.ne_of_gt (Yy (g := gb101) (o := .cells #[.int .i64 0, .string (⟨#[]⟩ : ByteArray), .string (⟨#[]⟩ : ByteArray)] 24 (0, 0)) QQ) : gb103 ≠ gb101)) ((⟨hbox, ZB⟩ : Ym w w35 gb103 a0 false)); clear BK101 HB; obtain ⟨BK101, HB, GW103, GE103, NB101_103, NB103_101, HI103⟩ := n_; clear hb hbox hg) | ((with_reducible refine Ya (f := 43) rfl ?_); refine Yu (some 14) rfl rfl Tryd.func43 Z7 rfl #[.pointer (some ⟨gb103, 0, none⟩)] rfl Z0 ?_; (with_reducible refine (Y2.calls k gb103 a0 false t104 t105 t106 t107 false w _ ?side1 ?side2 ?side3 A4.out).mono ?_); (case side1 => exact QI67_103); (case side2 => exact QB); (case side3 => exact HT.out); rintro e w36 ⟨rfl, hi, hb, hk⟩; refine ⟨_, rfl, ?_⟩; have n_ := Y1X (Yb.blk hk (g' := gb101) (o := .cells #[.int .i64 0, .string (⟨#[]⟩ : ByteArray), .string (⟨#[]⟩ : ByteArray)] 24 (0, 0)) QQ NB101_103.out (by simp)) (hb) (hi); clear BK101 HB HI103; obtain ⟨BK101, HB, HI103⟩ := n_; (try clear hb); (try clear hb2); (try clear hk); (try clear hi)) | ((with_reducible refine Yt (N := 5) rfl ?_); refine Yp ?hg (N := 5) ?hd (cs := #[.int .i64 0, .string (⟨#[]⟩ : ByteArray), .string (⟨#[]⟩ : ByteArray)]) (t := 24) ?hr ?_; (case hd => rfl); (case hg => rfl); (case hr => exact Zb); intro gb109 hg w37 hbox hb; have n0_ := Y0.mk (Y9 (g := gb101) (o := .cells #[.int .i64 0, .string (⟨#[]⟩ : ByteArray), .string (⟨#[]⟩ : ByteArray)] 24 (0, 0)) QQ hb); have n1_ := Y0.mk (Ym.below QI67_103 hb); have n2_ := Y0.mk (Y8 QB hb); have n3_ := Y0.mk (hbox); have n4_ := Y0.mk ((by rw [hg]; exact (Yd QB) : w.heap.size ≤ gb109)); have n5_ := Y0.mk ((by rw [hg]; exact (Yd QB) : w.heap.size ≤ gb109)); have n6_ := Y0.mk ((by rw [hg]; exact Nat.ne_of_lt (Yy (g := gb101) (o := .cells #[.int .i64 0, .string (⟨#[]⟩ : ByteArray), .string (⟨#[]⟩ : ByteArray)] 24 (0, 0)) QQ) : gb101 ≠ gb109)); have n7_ := Y0.mk ((by rw [hg]; exact Nat.ne_of_gt (Yy (g := gb101) (o := .cells #[.int .i64 0, .string (⟨#[]⟩ : ByteArray), .string (⟨#[]⟩ : ByteArray)] 24 (0, 0)) QQ) : gb109 ≠ gb101)); have n8_ := Y0.mk ((by rw [hg]; exact Nat.ne_of_lt (Ym.lt (show Ym w _ gb103 t107 false from QI67_103)) : gb103 ≠ gb109)); have n9_ := Y0.mk ((by rw [hg]; exact Nat.ne_of_gt (Ym.lt (show Ym w _ gb103 t107 false from QI67_103)) : gb109 ≠ gb103)); clear BK101 HI103 HB; have BK101 := n0_; have HI103 := n1_; have HB := n2_; have BK109 := n3_; have GW109 := n4_; have GE109 := n5_; have NB101_109 := n6_; have NB109_101 := n7_; have NB103_109 := n8_; have NB109_103 := n9_; clear n0_ n1_ n2_ n3_ n4_ n5_ n6_ n7_ n8_ n9_ hb hbox hg; have hnb38 := NB109_101.out; have hnc38 := NB101_109.out; have hnb39 := NB109_103.out; have hnc39 := NB103_109.out; obtain ⟨hcz40_0, hcz40_1, hcz40_2, hfz40_0, hfz40_1, hfz40_2⟩ := Yr BK109.out; obtain ⟨HGz41, hgz41⟩ := HI103.out; have hcz41_0 := Y13 HGz41; have hcz41_1 := Y14 HGz41; have hfz41_0 := Yv HGz41 0; have hfz41_1 := Yv HGz41 1; clear HGz41 hgz41) | (go_at_call 44; (with_reducible refine (YD.calls k t104 t105 t106 t110 _ A18.out).mono ?_); rintro e w42 ⟨rfl, hb⟩; have n_ := Y1L (Y9 (g := gb101) (o := .cells #[.int .i64 0, .string (⟨#[]⟩ : ByteArray), .string (⟨#[]⟩ : ByteArray)] 24 (0, 0)) Zc hb) (Ym.below (show Ym w (((w37.setCell ⟨gb109, 0, none⟩ (.int .i64 t104)).setCell ⟨gb109, 1, none⟩ (.string t105)).setCell ⟨gb109, 2, none⟩ (.string t106)) gb103 t107 false from QI67_103) hb) (Y9 (g := gb109) (o := .cells #[.int .i64 t104, .string t105, .string t106] 24 (0, 0)) ZP hb) (Y8 QB hb); clear BK101 HI103 BK109 HB; obtain ⟨BK101, HI103, BK109, HB⟩ := n_; (try clear hb); (try clear hb2); (try clear hk); (try clear hi); have hnb43 := NB101_103.out; have hnc43 := NB103_101.out; obtain ⟨hcz44_0, hcz44_1, hcz44_2, hfz44_0, hfz44_1, hfz44_2⟩ := Yr BK101.out))
     refine bodyPost_ret (Y1Q rfl _ _ gb101 24 #[.int .i64 0, .string (⟨#[]⟩ : ByteArray), .string (⟨#[]⟩ : ByteArray)] (0, 0) _ rfl ZL Tryd.underlying24 rfl Z7) rfl ?_
     exact ZT
   ·rw [if_neg c17] at H
    have c17b0 : (t107.toList == ([] : List UInt8)) = false := beq_eq_false_iff_ne.mpr c17
    have c17b1 : (t107.toList != ([] : List UInt8)) = true := bne_iff_ne.mpr c17
    simp only [Option.some.injEq, Prod.mk.injEq] at H
    obtain ⟨rfl, rfl, rfl, rfl⟩ := H
    go_enter Tryd.func18, Tryd.ntmps18
    go_wp2_with (first | ((with_reducible refine Yt (N := 2) rfl ?_); refine Yp ?hg (N := 2) ?hd (cs := #[.int .i64 0, .string (⟨#[]⟩ : ByteArray), .string (⟨#[]⟩ : ByteArray)]) (t := 24) ?hr ?_; (case hd => rfl); (case hg => rfl); (case hr => exact Zb); intro gb101 hg w45 hbox hb; have n_ := Y1L (Y8 QB hb) (hbox) ((by rw [hg]; exact (Yd QB) : w.heap.size ≤ gb101)) ((by rw [hg]; exact (Yd QB) : w.heap.size ≤ gb101)); clear HB; obtain ⟨HB, BK101, GW101, GE101⟩ := n_; clear hb hbox hg) | ((with_reducible refine Ya (f := 38) rfl ?_); refine Yu (some 7) rfl rfl Tryd.func38 Z7 rfl #[.string a0] rfl Z0 ?_; (with_reducible refine (utf8_ValidString.calls a0 true _ ?side1 A2.out).mono ?_); (case side1 => exact Z3); rintro e w46 ⟨rfl, hb⟩; refine ⟨_, rfl, ?_⟩; have n_ := Y2f (Y9 (g := gb101) (o := .cells #[.int .i64 0, .string (⟨#[]⟩ : ByteArray), .string (⟨#[]⟩ : ByteArray)] 24 (0, 0)) QQ hb) (Y8 QB hb); clear BK101 HB; obtain ⟨BK101, HB⟩ := n_; (try clear hb); (try clear hb2); (try clear hk); (try clear hi)) | ((with_reducible refine Yt (N := 12) rfl ?_); refine Yp ?hg (N := 12) ?hd (cs := #[.string a0, .bool false]) (t := 67) ?hr ?_; (case hd => rfl); (case hg => rfl); (case hr => exact Zb); intro gb103 hg w47 hbox hb; have n_ := put7 (Y9 (g := gb101) (o := .cells #[.int .i64 0, .string (⟨#[]⟩ : ByteArray), .string (⟨#[]⟩ : ByteArray)] 24 (0, 0)) QQ hb) (Y8 QB hb) ((by rw [hg]; exact (Yd QB) : w.heap.size ≤ gb103)) ((by rw [hg]; exact (Yd QB) : w.heap.size ≤ gb103)) ((by rw [hg]; exact Nat.ne_of_lt (Yy (g := gb101) (o := .cells #[.int .i64 0, .string (⟨#[]⟩ : ByteArray), .string (⟨#[]⟩ : ByteArray)] 24 (0, 0)) QQ) : gb101 ≠ gb103)) ((by rw [hg]; exact Nat.ne_of_gt (Yy (g := gb101) (o := .cells #[.int .i64 0, .string (⟨#[]⟩ : ByteArray), .string (⟨#[]⟩ : ByteArray)] 24 (0, 0)) QQ) : gb103 ≠ gb101)) ((⟨hbox, ZB⟩ : Ym w w47 gb103 a0 false)); clear BK101 HB; obtain ⟨BK101, HB, GW103, GE103, NB101_103, NB103_101, HI103⟩ := n_; clear hb hbox hg) | ((with_reducible refine Ya (f := 43) rfl ?_); refine Yu (some 14) rfl rfl Tryd.func43 Z7 rfl #[.pointer (some ⟨gb103, 0, none⟩)] rfl Z0 ?_; (with_reducible refine (Y2.calls k gb103 a0 false t104 t105 t106 t107 false w _ ?side1 ?side2 ?side3 A4.out).mono ?_); (case side1 => exact QI67_103); (case side2 => exact QB); (case side3 => exact HT.out); rintro e w48 ⟨rfl, hi, hb, hk⟩; refine ⟨_, rfl, ?_⟩; have n_ := Y1X (Yb.blk hk (g' := gb101) (o := .cells #[.int .i64 0, .string (⟨#[]⟩ : ByteArray), .string (⟨#[]⟩ : ByteArray)] 24 (0, 0)) QQ NB101_103.out (by simp)) (hb) (hi); clear BK101 HB HI103; obtain ⟨BK101, HB, HI103⟩ := n_; (try clear hb); (try clear hb2); (try clear hk); (try clear hi)) | ((with_reducible refine Yt (N := 5) rfl ?_); refine Yp ?hg (N := 5) ?hd (cs := #[.int .i64 0, .string (⟨#[]⟩ : ByteArray), .string (⟨#[]⟩ : ByteArray)]) (t := 24) ?hr ?_; (case hd => rfl); (case hg => rfl); (case hr => exact Zb); intro gb109 hg w49 hbox hb; have n0_ := Y0.mk (Y9 (g := gb101) (o := .cells #[.int .i64 0, .string (⟨#[]⟩ : ByteArray), .string (⟨#[]⟩ : ByteArray)] 24 (0, 0)) QQ hb); have n1_ := Y0.mk (Ym.below QI67_103 hb); have n2_ := Y0.mk (Y8 QB hb); have n3_ := Y0.mk (hbox); have n4_ := Y0.mk ((by rw [hg]; exact (Yd QB) : w.heap.size ≤ gb109)); have n5_ := Y0.mk ((by rw [hg]; exact (Yd QB) : w.heap.size ≤ gb109)); have n6_ := Y0.mk ((by rw [hg]; exact Nat.ne_of_lt (Yy (g := gb101) (o := .cells #[.int .i64 0, .string (⟨#[]⟩ : ByteArray), .string (⟨#[]⟩ : ByteArray)] 24 (0, 0)) QQ) : gb101 ≠ gb109)); have n7_ := Y0.mk ((by rw [hg]; exact Nat.ne_of_gt (Yy (g := gb101) (o := .cells #[.int .i64 0, .string (⟨#[]⟩ : ByteArray), .string (⟨#[]⟩ : ByteArray)] 24 (0, 0)) QQ) : gb109 ≠ gb101)); have n8_ := Y0.mk ((by rw [hg]; exact Nat.ne_of_lt (Ym.lt (show Ym w _ gb103 t107 false from QI67_103)) : gb103 ≠ gb109)); have n9_ := Y0.mk ((by rw [hg]; exact Nat.ne_of_gt (Ym.lt (show Ym w _ gb103 t107 false from QI67_103)) : gb109 ≠ gb103)); clear BK101 HI103 HB; have BK101 := n0_; have HI103 := n1_; have HB := n2_; have BK109 := n3_; have GW109 := n4_; have GE109 := n5_; have NB101_109 := n6_; have NB109_101 := n7_; have NB103_109 := n8_; have NB109_103 := n9_; clear n0_ n1_ n2_ n3_ n4_ n5_ n6_ n7_ n8_ n9_ hb hbox hg; have hnb50 := NB109_101.out; have hnc50 := NB101_109.out; have hnb51 := NB109_103.out; have hnc51 := NB103_109.out; obtain ⟨hcz52_0, hcz52_1, hcz52_2, hfz52_0, hfz52_1, hfz52_2⟩ := Yr BK109.out; obtain ⟨HGz53, hgz53⟩ := HI103.out; have hcz53_0 := Y13 HGz53; have hcz53_1 := Y14 HGz53; have hfz53_0 := Yv HGz53 0; have hfz53_1 := Yv HGz53 1; clear HGz53 hgz53; have hnb54 := NB101_103.out; have hnc54 := NB103_101.out; obtain ⟨hcz55_0, hcz55_1, hcz55_2, hfz55_0, hfz55_1, hfz55_2⟩ := Yr BK101.out))
    refine bodyPost_ret (Y1Q rfl _ _ gb101 24 #[.int .i64 0, .string (⟨#[]⟩ : ByteArray), .string (⟨#[]⟩ : ByteArray)] (0, 0) _ rfl ZQ Tryd.underlying24 rfl Z7) rfl ?_
    exact ZT
 ·replace c3 := Bool.eq_false_iff.mpr c3
  subst c3
  have H1 : (some (0, (⟨#[]⟩ : ByteArray), (⟨#[]⟩ : ByteArray), false)) = some (r1, r2, r3, r4) := by rw [if_neg (show ¬ (false = true) by decide)] at H; exact H
  clear H
  have H := H1
  clear H1
  simp only [Option.some.injEq, Prod.mk.injEq] at H
  obtain ⟨rfl, rfl, rfl, rfl⟩ := H
  go_enter Tryd.func18, Tryd.ntmps18
  go_wp2_with (first | ((with_reducible refine Yt (N := 2) rfl ?_); refine Yp ?hg (N := 2) ?hd (cs := #[.int .i64 0, .string (⟨#[]⟩ : ByteArray), .string (⟨#[]⟩ : ByteArray)]) (t := 24) ?hr ?_; (case hd => rfl); (case hg => rfl); (case hr => exact Zb); intro gb101 hg w56 hbox hb; have n_ := Y1L (Y8 QB hb) (hbox) ((by rw [hg]; exact (Yd QB) : w.heap.size ≤ gb101)) ((by rw [hg]; exact (Yd QB) : w.heap.size ≤ gb101)); clear HB; obtain ⟨HB, BK101, GW101, GE101⟩ := n_; clear hb hbox hg) | ((with_reducible refine Ya (f := 38) rfl ?_); refine Yu (some 7) rfl rfl Tryd.func38 Z7 rfl #[.string a0] rfl Z0 ?_; (with_reducible refine (utf8_ValidString.calls a0 false _ ?side1 A2.out).mono ?_); (case side1 => exact Z3); rintro e w57 ⟨rfl, hb⟩; refine ⟨_, rfl, ?_⟩; have n_ := Y2f (Y9 (g := gb101) (o := .cells #[.int .i64 0, .string (⟨#[]⟩ : ByteArray), .string (⟨#[]⟩ : ByteArray)] 24 (0, 0)) QQ hb) (Y8 QB hb); clear BK101 HB; obtain ⟨BK101, HB⟩ := n_; (try clear hb); (try clear hb2); (try clear hk); (try clear hi); obtain ⟨hcz58_0, hcz58_1, hcz58_2, hfz58_0, hfz58_1, hfz58_2⟩ := Yr BK101.out))
  refine bodyPost_ret (Y1Q rfl _ _ gb101 24 #[.int .i64 0, .string (⟨#[]⟩ : ByteArray), .string (⟨#[]⟩ : ByteArray)] (0, 0) _ rfl ZL Tryd.underlying24 rfl Z7) rfl ?_
  exact ZT
attribute [local go_sem high] eqA24
def triviumlaw4_TermOne.j0 : Nat → Bool → Int → ByteArray → ByteArray → Int → ByteArray → ByteArray → Option (Bool)
 | 0, _, _, _, _, _, _, _ => none
 | k + 1, x22, x102000, x102001, x102002, x103000, x103001, x103002 => if x22 = true then (some true) else ((Yj.f x102000 x102001 x102002).bind fun t109 => ((Yj.f x103000 x103001 x103002).bind fun t110 => ((Yx.f k t109).bind fun bt111 => (if ((t109.toList == t110.toList) == (x102000 == x103000 && (x102001.toList == x103001.toList && (x102002.toList == x103002.toList)))) = true then ((Y1b.f x102000 x102001 x102002 x103000 x103001 x103002).bind fun t116 => (if ((t116 == 0) == (x102000 == x103000 && (x102001.toList == x103001.toList && (x102002.toList == x103002.toList)))) = true then (if bt111.2.2.2 = true then (if (bt111.1 == x102000 && (bt111.2.1.toList == x102001.toList && (bt111.2.2.1.toList == x102002.toList))) = true then (if (t109.size : Int) ≤ 250 then ((Ys.f k).bind fun t117 => (some t117)) else (some false)) else (some false)) else (some false)) else (some false))) else (some false)))))
def triviumlaw4_TermOne.f (k : Nat) (a0_0 : Int) (a0_1 : ByteArray) (a0_2 : ByteArray) (a1_0 : Int) (a1_1 : ByteArray) (a1_2 : ByteArray) : Option (Bool) := (Yi.f k (([(⟨a0_0, a0_1, a0_2⟩ : S24), (⟨a1_0, a1_1, a1_2⟩ : S24)] : List (S24)))).bind fun t106 => (if t106 = true then (triviumlaw4_TermOne.j0 k true a0_0 a0_1 a0_2 a1_0 a1_1 a1_2) else ((Ye.f k a0_0 a0_1 a0_2).bind fun t107 => (if t107 = true then ((Ye.f k a1_0 a1_1 a1_2).bind fun t108 => (triviumlaw4_TermOne.j0 k (!t108) a0_0 a0_1 a0_2 a1_0 a1_1 a1_2)) else (triviumlaw4_TermOne.j0 k true a0_0 a0_1 a0_2 a1_0 a1_1 a1_2))))
def triviumlaw4_TermOne.T5 : Bool × List (List Nat × List Nat) := (true, [([], []), ([], []), ([0, 1], [0, 1]), ([], []), ([], []), ([3, 4], [3, 4]), ([2, 5], [2, 5]), ([6], [6]), ([7], [7]), ([7], [7]), ([8, 9, 7, 7], [7, 8, 9]), ([10, 7], [7, 10]), ([7], [7]), ([7], [7]), ([12, 13, 7], [7, 12, 13]), ([11, 14, 7], [7, 11, 14]), ([7, 15], [7, 15]), ([16, 10], [16]), ([17], [17]), ([17, 18], [17, 18]), ([19, 17], [19]), ([20], [20]), ([20], [20]), ([21, 22, 20], [20, 21, 22]), ([20, 23], [20, 23]), ([24, 20], [24]), ([25], [25]), ([26, 25], [25, 26]), ([27, 25], [25, 27]), ([25, 28], [25, 28]), ([29, 25], [29]), ([30, 30], [30]), ([30, 31], [30, 31]), ([32, 31, 0, 1, 2, 3, 4, 5, 6, 7, 8, 9, 10, 11, 12, 13, 14, 15, 16, 17, 18, 19, 20, 21, 22, 23, 24, 25, 26, 27, 28, 29, 30, 31, 32], [32])])
def triviumlaw4_TermOne.B5 : List Nat := [0, 0, 3, 0, 0, 24, 63, 127, 255, 255, 1023, 2047, 255, 255, 12543, 32767, 65535, 131071, 262143, 524287, 1048575, 2097151, 2097151, 8388607, 16777215, 33554431, 67108863, 134217727, 268435455, 536870911, 1073741823, 2147483647, 4294967295, 8589934591]
theorem triviumlaw4_TermOne.tab5 : Y2T .any (opsOf Tryd.f4 5) = triviumlaw4_TermOne.T5 := by kernel_rfl
theorem triviumlaw4_TermOne.bits5 : Y2i triviumlaw4_TermOne.T5.2 triviumlaw4_TermOne.B5 = true := by kernel_rfl
set_option maxHeartbeats 8000000 in
set_option maxRecDepth 100000 in
theorem triviumlaw4_TermOne.calls (k : Nat) (a0_0 : Int) (a0_1 : ByteArray) (a0_2 : ByteArray) (a1_0 : Int) (a1_1 : ByteArray) (a1_2 : ByteArray) (r : Bool) (w : World) (hT : Tabs w) (h : triviumlaw4_TermOne.f k a0_0 a0_1 a0_2 a1_0 a1_1 a1_2 = some r) :
  Calls Tryd.prog 4 #[.agg #[.int .i64 a0_0, .string a0_1, .string a0_2], .agg #[.int .i64 a1_0, .string a1_1, .string a1_2]] w fun e w' => e = .returned (.bool r) ∧ Below w.heap.size w w' := by
 have HT := Y0.mk hT
 clear hT
 have hu24 := Tryd.underlying24
 have HB := Y0.mk (Below.refl w.heap.size w)
 have H : ((Yi.f k (([(⟨a0_0, a0_1, a0_2⟩ : S24), (⟨a1_0, a1_1, a1_2⟩ : S24)] : List (S24)))).bind fun t106 => (if t106 = true then (triviumlaw4_TermOne.j0 k true a0_0 a0_1 a0_2 a1_0 a1_1 a1_2) else ((Ye.f k a0_0 a0_1 a0_2).bind fun t107 => (if t107 = true then ((Ye.f k a1_0 a1_1 a1_2).bind fun t108 => (triviumlaw4_TermOne.j0 k (!t108) a0_0 a0_1 a0_2 a1_0 a1_1 a1_2)) else (triviumlaw4_TermOne.j0 k true a0_0 a0_1 a0_2 a1_0 a1_1 a1_2))))) = some r := h
 clear h
 have HC3 := Y0.mk H
 clear H
 go_enter Tryd.func4, Tryd.ntmps4
 go_upto_region 1 with (first | ((with_reducible refine Yt (N := 2) rfl ?_); (try (refine YP (by rfl) ?_; dsimp only)); refine Yp ?hg (N := 2) ?hd (cs := #[.int .i64 a0_0, .string a0_1, .string a0_2]) (t := 24) ?hr ?_; (case hd => rfl); (case hg => rfl); (case hr => exact Zb); intro gb101 hg w4 hbox hb; have n_ := Y1L (Y8 QB hb) (hbox) ((by rw [hg]; exact (Yd QB) : w.heap.size ≤ gb101)) ((by rw [hg]; exact (Yd QB) : w.heap.size ≤ gb101)); clear HB; obtain ⟨HB, BK101, GW101, GE101⟩ := n_; clear hb hbox hg) | ((with_reducible refine Yt (N := 3) rfl ?_); (try (refine YP (by rfl) ?_; dsimp only)); refine Yp ?hg (N := 3) ?hd (cs := #[.int .i64 a1_0, .string a1_1, .string a1_2]) (t := 24) ?hr ?_; (case hd => rfl); (case hg => rfl); (case hr => exact Zb); intro gb102 hg w5 hbox hb; have n_ := put7 (Y9 (g := gb101) (o := .cells #[.int .i64 a0_0, .string a0_1, .string a0_2] 24 (0, 0)) QQ hb) (Y8 QB hb) (hbox) ((by rw [hg]; exact (Yd QB) : w.heap.size ≤ gb102)) ((by rw [hg]; exact (Yd QB) : w.heap.size ≤ gb102)) ((by rw [hg]; exact Nat.ne_of_lt (Yy (g := gb101) (o := .cells #[.int .i64 a0_0, .string a0_1, .string a0_2] 24 (0, 0)) QQ) : gb101 ≠ gb102)) ((by rw [hg]; exact Nat.ne_of_gt (Yy (g := gb101) (o := .cells #[.int .i64 a0_0, .string a0_1, .string a0_2] 24 (0, 0)) QQ) : gb102 ≠ gb101)); clear BK101 HB; obtain ⟨BK101, HB, BK102, GW102, GE102, NB101_102, NB102_101⟩ := n_; clear hb hbox hg))
 (try simp only [Act.put, List.setIfInBounds_toArray, List.set_cons_zero, List.set_cons_succ])
 go_cut [22] (fun v22 wc => ∃ (kq : Nat) (x22_2 : Bool), v22 = .bool x22_2 ∧ Y0 (triviumlaw4_TermOne.j0 kq x22_2 a0_0 a0_1 a0_2 a1_0 a1_1 a1_2 = some r) ∧ Y0 (kq ≤ k) ∧ Y0 (wc.heap[gb101]? = some (.cells #[.int .i64 a0_0, .string a0_1, .string a0_2] 24 (0, 0))) ∧ Y0 (wc.heap[gb102]? = some (.cells #[.int .i64 a1_0, .string a1_1, .string a1_2] 24 (0, 0))) ∧ Y0 (Below w.heap.size w wc))
 case first =>
  have H := HC3.out
  clear HC3
  obtain ⟨y103, hy103⟩ : ∃ y_ : List (S24), y_ = (([(⟨a0_0, a0_1, a0_2⟩ : S24), (⟨a1_0, a1_1, a1_2⟩ : S24)] : List (S24))) := ⟨_, rfl⟩
  replace H : ((Yi.f k y103).bind fun t106 => (if t106 = true then (triviumlaw4_TermOne.j0 k true a0_0 a0_1 a0_2 a1_0 a1_1 a1_2) else ((Ye.f k a0_0 a0_1 a0_2).bind fun t107 => (if t107 = true then ((Ye.f k a1_0 a1_1 a1_2).bind fun t108 => (triviumlaw4_TermOne.j0 k (!t108) a0_0 a0_1 a0_2 a1_0 a1_1 a1_2)) else (triviumlaw4_TermOne.j0 k true a0_0 a0_1 a0_2 a1_0 a1_1 a1_2))))) = some r := by first | (rw [hy103]; with_reducible exact H) | (have H2_ := (Option.bind_some _ _).symm.trans H; rw [hy103]; with_reducible exact H2_) | (have H2_ := (Option.bind_some _ _).symm.trans H; with_reducible exact H2_) | with_reducible exact H | (rw [hy103]; exact H) | exact H
  have Ny103 := Y0.mk hy103
  clear hy103
  replace H := Option.bind_eq_some_iff.mp H
  obtain ⟨t106, A60, H⟩ := H
  replace H : (if t106 = true then (triviumlaw4_TermOne.j0 k true a0_0 a0_1 a0_2 a1_0 a1_1 a1_2) else ((Ye.f k a0_0 a0_1 a0_2).bind fun t107 => (if t107 = true then ((Ye.f k a1_0 a1_1 a1_2).bind fun t108 => (triviumlaw4_TermOne.j0 k (!t108) a0_0 a0_1 a0_2 a1_0 a1_1 a1_2)) else (triviumlaw4_TermOne.j0 k true a0_0 a0_1 a0_2 a1_0 a1_1 a1_2)))) = some r := H
  have A6 := Y0.mk A60
  clear A60
  by_cases c7 : t106 = true
  ·subst c7
   have H1 : (triviumlaw4_TermOne.j0 k true a0_0 a0_1 a0_2 a1_0 a1_1 a1_2) = some r := by rw [if_pos rfl] at H; exact H
   clear H
   have H := H1
   clear H1
   have H' := Y0.mk H
   clear H
   have hnb8 := NB101_102.out
   have hnc8 := NB102_101.out
   obtain ⟨hcz9_0, hcz9_1, hcz9_2, hfz9_0, hfz9_1, hfz9_2⟩ := Yr BK101.out
   obtain ⟨hcz10_0, hcz10_1, hcz10_2, hfz10_0, hfz10_1, hfz10_2⟩ := Yr BK102.out
   go_wp2_with (first | ((with_reducible refine Yt (N := 11) rfl ?_); (try (refine YP (by rfl) ?_; dsimp only)); refine Kd.R_lit k24 _ 24 ?hg (N := 11) ?hd (xs := ([(⟨a0_0, a0_1, a0_2⟩ : S24), (⟨a1_0, a1_1, a1_2⟩ : S24)] : List (S24))) (inner := [.int .i64 a0_0, .string a0_1, .string a0_2, .int .i64 a1_0, .string a1_1, .string a1_2]) (ok := fun _ => True) (okp := fun _ => True) ?hr ?hp (fun _ hk => hk) trivial (Below.refl _ _) (Nat.le_refl _) (by simp) ?_; (case hd => rfl); (case hg => rfl); (case hr => exact Zb); (case hp => exact Zg); intro v104 w11 ho12 hb hg_ hnew_; clear hg_ hnew_; (first | rw [← Ny103.out] at ho12 | (simp only [Int.reduceToNat] at ho12; rw [← Ny103.out] at ho12)); have n_ := Y1L (Kd.R_lower (Kd.R_newB (Kd.R_newB ho12 (g := gb101) (o := .cells #[.int .i64 a0_0, .string a0_1, .string a0_2] 24 (0, 0)) QQ) (g := gb102) (o := .cells #[.int .i64 a1_0, .string a1_1, .string a1_2] 24 (0, 0)) QQ) (Yd QB)) (Y9 (g := gb101) (o := .cells #[.int .i64 a0_0, .string a0_1, .string a0_2] 24 (0, 0)) QQ hb) (Y9 (g := gb102) (o := .cells #[.int .i64 a1_0, .string a1_1, .string a1_2] 24 (0, 0)) QQ hb) (Y8 QB hb); clear BK101 BK102 HB; obtain ⟨HO105, BK101, BK102, HB⟩ := n_; clear hb ho12; obtain ⟨Ao13, co13, eo13⟩ := Kd.R_slice HO105.out; subst eo13) | ((with_reducible refine Ya (f := 19) rfl ?_); refine Yu (some 12) rfl rfl Tryd.func19 Z7 rfl #[.slice Ao13 y103.length co13] rfl Z0 ?_; (with_reducible refine (Yi.calls k _ _ y103 true _ ?side1 ?side2 A6.out).mono ?_); (case side1 => exact Zm); (case side2 => exact (Kd.R_reads' HO105.out).2.1); rintro e w' ⟨rfl, ⟨nd, rfl⟩⟩; refine ⟨_, rfl, ?_⟩))
   go_meet
   case rel => exact ⟨_, (true), Z4, H', ⟨Zj⟩, ⟨Zf⟩, ⟨Zh⟩, ⟨QB⟩⟩
  ·replace c7 := Bool.eq_false_iff.mpr c7
   subst c7
   have H1 : ((Ye.f k a0_0 a0_1 a0_2).bind fun t107 => (if t107 = true then ((Ye.f k a1_0 a1_1 a1_2).bind fun t108 => (triviumlaw4_TermOne.j0 k (!t108) a0_0 a0_1 a0_2 a1_0 a1_1 a1_2)) else (triviumlaw4_TermOne.j0 k true a0_0 a0_1 a0_2 a1_0 a1_1 a1_2))) = some r := by rw [if_neg (show ¬ (false = true) by decide)] at H; exact H
   clear H
   have H := H1
   clear H1
   replace H := Option.bind_eq_some_iff.mp H
   obtain ⟨t107, A140, H⟩ := H
   replace H : (if t107 = true then ((Ye.f k a1_0 a1_1 a1_2).bind fun t108 => (triviumlaw4_TermOne.j0 k (!t108) a0_0 a0_1 a0_2 a1_0 a1_1 a1_2)) else (triviumlaw4_TermOne.j0 k true a0_0 a0_1 a0_2 a1_0 a1_1 a1_2)) = some r := H
   have A14 := Y0.mk A140
   clear A140
   by_cases c15 : t107 = true
   ·subst c15
    have H1 : ((Ye.f k a1_0 a1_1 a1_2).bind fun t108 => (triviumlaw4_TermOne.j0 k (!t108) a0_0 a0_1 a0_2 a1_0 a1_1 a1_2)) = some r := by rw [if_pos rfl] at H; exact H
    clear H
    have H := H1
    clear H1
    replace H := Option.bind_eq_some_iff.mp H
    obtain ⟨t108, A160, H⟩ := H
    replace H : (triviumlaw4_TermOne.j0 k (!t108) a0_0 a0_1 a0_2 a1_0 a1_1 a1_2) = some r := H
    have A16 := Y0.mk A160
    clear A160
    have H' := Y0.mk H
    clear H
    have hnb17 := NB101_102.out
    have hnc17 := NB102_101.out
    obtain ⟨hcz18_0, hcz18_1, hcz18_2, hfz18_0, hfz18_1, hfz18_2⟩ := Yr BK101.out
    obtain ⟨hcz19_0, hcz19_1, hcz19_2, hfz19_0, hfz19_1, hfz19_2⟩ := Yr BK102.out
    go_wp2_with (first | ((with_reducible refine Yt (N := 11) rfl ?_); (try (refine YP (by rfl) ?_; dsimp only)); refine Kd.R_lit k24 _ 24 ?hg (N := 11) ?hd (xs := ([(⟨a0_0, a0_1, a0_2⟩ : S24), (⟨a1_0, a1_1, a1_2⟩ : S24)] : List (S24))) (inner := [.int .i64 a0_0, .string a0_1, .string a0_2, .int .i64 a1_0, .string a1_1, .string a1_2]) (ok := fun _ => True) (okp := fun _ => True) ?hr ?hp (fun _ hk => hk) trivial (Below.refl _ _) (Nat.le_refl _) (by simp) ?_; (case hd => rfl); (case hg => rfl); (case hr => exact Zb); (case hp => exact Zg); intro v104 w20 ho21 hb hg_ hnew_; clear hg_ hnew_; (first | rw [← Ny103.out] at ho21 | (simp only [Int.reduceToNat] at ho21; rw [← Ny103.out] at ho21)); have n_ := Y1L (Kd.R_lower (Kd.R_newB (Kd.R_newB ho21 (g := gb101) (o := .cells #[.int .i64 a0_0, .string a0_1, .string a0_2] 24 (0, 0)) QQ) (g := gb102) (o := .cells #[.int .i64 a1_0, .string a1_1, .string a1_2] 24 (0, 0)) QQ) (Yd QB)) (Y9 (g := gb101) (o := .cells #[.int .i64 a0_0, .string a0_1, .string a0_2] 24 (0, 0)) QQ hb) (Y9 (g := gb102) (o := .cells #[.int .i64 a1_0, .string a1_1, .string a1_2] 24 (0, 0)) QQ hb) (Y8 QB hb); clear BK101 BK102 HB; obtain ⟨HO105, BK101, BK102, HB⟩ := n_; clear hb ho21; obtain ⟨Ao22, co22, eo22⟩ := Kd.R_slice HO105.out; subst eo22) | ((with_reducible refine Ya (f := 19) rfl ?_); refine Yu (some 12) rfl rfl Tryd.func19 Z7 rfl #[.slice Ao22 y103.length co22] rfl Z0 ?_; (with_reducible refine (Yi.calls k _ _ y103 false _ ?side1 ?side2 A6.out).mono ?_); (case side1 => exact Zm); (case side2 => exact (Kd.R_reads' HO105.out).2.1); rintro e w' ⟨rfl, ⟨nd, rfl⟩⟩; refine ⟨_, rfl, ?_⟩; obtain ⟨hcz23_0, hcz23_1, hcz23_2, hfz23_0, hfz23_1, hfz23_2⟩ := Yr BK101.out) | (go_at_call 20; (with_reducible refine (Ye.calls k a0_0 a0_1 a0_2 true _ ?side1 A14.out).mono ?_); (case side1 => exact Z3); rintro e w24 ⟨rfl, hb⟩; have n_ := Y1L (Kd.R_below Zp hb) (Y9 (g := gb101) (o := .cells #[.int .i64 a0_0, .string a0_1, .string a0_2] 24 (0, 0)) QQ hb) (Y9 (g := gb102) (o := .cells #[.int .i64 a1_0, .string a1_1, .string a1_2] 24 (0, 0)) QQ hb) (Y8 QB hb); clear HO105 BK101 BK102 HB; obtain ⟨HO105, BK101, BK102, HB⟩ := n_; (try clear hb); (try clear hb2); (try clear hk); (try clear hi); obtain ⟨hcz25_0, hcz25_1, hcz25_2, hfz25_0, hfz25_1, hfz25_2⟩ := Yr BK102.out) | (go_at_call 20; (with_reducible refine (Ye.calls k a1_0 a1_1 a1_2 t108 _ ?side1 A16.out).mono ?_); (case side1 => exact Z3); rintro e w26 ⟨rfl, hb⟩; have n_ := Y1L (Kd.R_below Zp hb) (Y9 (g := gb101) (o := .cells #[.int .i64 a0_0, .string a0_1, .string a0_2] 24 (0, 0)) QQ hb) (Y9 (g := gb102) (o := .cells #[.int .i64 a1_0, .string a1_1, .string a1_2] 24 (0, 0)) QQ hb) (Y8 QB hb); clear HO105 BK101 BK102 HB; obtain ⟨HO105, BK101, BK102, HB⟩ := n_; (try clear hb); (try clear hb2); (try clear hk); (try clear hi)))
    go_meet
    case rel => exact ⟨_, (!t108), Z4, H', ⟨Zj⟩, ⟨Zf⟩, ⟨Zh⟩, ⟨QB⟩⟩
   ·replace c15 := Bool.eq_false_iff.mpr c15
    subst c15
    have H1 : (triviumlaw4_TermOne.j0 k true a0_0 a0_1 a0_2 a1_0 a1_1 a1_2) = some r := by rw [if_neg (show ¬ (false = true) by decide)] at H; exact H
    clear H
    have H := H1
    clear H1
    have H' := Y0.mk H
    clear H
    have hnb27 := NB101_102.out
    have hnc27 := NB102_101.out
    obtain ⟨hcz28_0, hcz28_1, hcz28_2, hfz28_0, hfz28_1, hfz28_2⟩ := Yr BK101.out
    obtain ⟨hcz29_0, hcz29_1, hcz29_2, hfz29_0, hfz29_1, hfz29_2⟩ := Yr BK102.out
    go_wp2_with (first | ((with_reducible refine Yt (N := 11) rfl ?_); (try (refine YP (by rfl) ?_; dsimp only)); refine Kd.R_lit k24 _ 24 ?hg (N := 11) ?hd (xs := ([(⟨a0_0, a0_1, a0_2⟩ : S24), (⟨a1_0, a1_1, a1_2⟩ : S24)] : List (S24))) (inner := [.int .i64 a0_0, .string a0_1, .string a0_2, .int .i64 a1_0, .string a1_1, .string a1_2]) (ok := fun _ => True) (okp := fun _ => True) ?hr ?hp (fun _ hk => hk) trivial (Below.refl _ _) (Nat.le_refl _) (by simp) ?_; (case hd => rfl); (case hg => rfl); (case hr => exact Zb); (case hp => exact Zg); intro v104 w30 ho31 hb hg_ hnew_; clear hg_ hnew_; (first | rw [← Ny103.out] at ho31 | (simp only [Int.reduceToNat] at ho31; rw [← Ny103.out] at ho31)); have n_ := Y1L (Kd.R_lower (Kd.R_newB (Kd.R_newB ho31 (g := gb101) (o := .cells #[.int .i64 a0_0, .string a0_1, .string a0_2] 24 (0, 0)) QQ) (g := gb102) (o := .cells #[.int .i64 a1_0, .string a1_1, .string a1_2] 24 (0, 0)) QQ) (Yd QB)) (Y9 (g := gb101) (o := .cells #[.int .i64 a0_0, .string a0_1, .string a0_2] 24 (0, 0)) QQ hb) (Y9 (g := gb102) (o := .cells #[.int .i64 a1_0, .string a1_1, .string a1_2] 24 (0, 0)) QQ hb) (Y8 QB hb); clear BK101 BK102 HB; obtain ⟨HO105, BK101, BK102, HB⟩ := n_; clear hb ho31; obtain ⟨Ao32, co32, eo32⟩ := Kd.R_slice HO105.out; subst eo32) | ((with_reducible refine Ya (f := 19) rfl ?_); refine Yu (some 12) rfl rfl Tryd.func19 Z7 rfl #[.slice Ao32 y103.length co32] rfl Z0 ?_; (with_reducible refine (Yi.calls k _ _ y103 false _ ?side1 ?side2 A6.out).mono ?_); (case side1 => exact Zm); (case side2 => exact (Kd.R_reads' HO105.out).2.1); rintro e w' ⟨rfl, ⟨nd, rfl⟩⟩; refine ⟨_, rfl, ?_⟩; obtain ⟨hcz33_0, hcz33_1, hcz33_2, hfz33_0, hfz33_1, hfz33_2⟩ := Yr BK101.out) | (go_at_call 20; (with_reducible refine (Ye.calls k a0_0 a0_1 a0_2 false _ ?side1 A14.out).mono ?_); (case side1 => exact Z3); rintro e w34 ⟨rfl, hb⟩; have n_ := Y1L (Kd.R_below Zp hb) (Y9 (g := gb101) (o := .cells #[.int .i64 a0_0, .string a0_1, .string a0_2] 24 (0, 0)) QQ hb) (Y9 (g := gb102) (o := .cells #[.int .i64 a1_0, .string a1_1, .string a1_2] 24 (0, 0)) QQ hb) (Y8 QB hb); clear HO105 BK101 BK102 HB; obtain ⟨HO105, BK101, BK102, HB⟩ := n_; (try clear hb); (try clear hb2); (try clear hk); (try clear hi)))
    go_meet
    case rel => exact ⟨_, (true), Z4, H', ⟨Zj⟩, ⟨Zf⟩, ⟨Zh⟩, ⟨QB⟩⟩
 case rest =>
  clear HC3
  try clear c1
  try clear c2
  try clear p2
  try clear c3
  try clear c4
  try clear c7
  try clear c8
  try clear c15
  try clear c17
  try clear c19
  try clear c27
  try clear hcz10_0 hcz10_1 hcz10_2
  try clear hcz18_0 hcz18_1 hcz18_2
  try clear hcz19_0 hcz19_1 hcz19_2
  try clear hcz23_0 hcz23_1 hcz23_2
  try clear hcz25_0 hcz25_1 hcz25_2
  try clear hcz28_0 hcz28_1 hcz28_2
  try clear hcz29_0 hcz29_1 hcz29_2
  try clear hcz33_0 hcz33_1 hcz33_2
  try clear hcz9_0 hcz9_1 hcz9_2
  try clear hfz10_0
  try clear hfz10_1
  try clear hfz10_2
  try clear hfz18_0
  try clear hfz18_1
  try clear hfz18_2
  try clear hfz19_0
  try clear hfz19_1
  try clear hfz19_2
  try clear hfz23_0
  try clear hfz23_1
  try clear hfz23_2
  try clear hfz25_0
  try clear hfz25_1
  try clear hfz25_2
  try clear hfz28_0
  try clear hfz28_1
  try clear hfz28_2
  try clear hfz29_0
  try clear hfz29_1
  try clear hfz29_2
  try clear hfz33_0
  try clear hfz33_1
  try clear hfz33_2
  try clear hfz9_0
  try clear hfz9_1
  try clear hfz9_2
  obtain ⟨kq, x22_2, rfl, HA, HJ2, BK101, BK102, HB⟩ := hcut
  cases kq with
  | zero => exact absurd HA.out (by simp [triviumlaw4_TermOne.j0])
  | succ kj2 =>
   have H := HA.out
   clear HA
   simp only [triviumlaw4_TermOne.j0] at H
   by_cases c35 : x22_2 = true
   ·subst c35
    have H1 : (some true) = some r := by rw [if_pos rfl] at H; exact H
    clear H
    have H := H1
    clear H1
    obtain rfl := Option.some.inj H
    go_wp2
    go_ret
    exact ZT
   ·replace c35 := Bool.eq_false_iff.mpr c35
    subst c35
    have H1 : ((Yj.f a0_0 a0_1 a0_2).bind fun t109 => ((Yj.f a1_0 a1_1 a1_2).bind fun t110 => ((Yx.f kj2 t109).bind fun bt111 => (if ((t109.toList == t110.toList) == (a0_0 == a1_0 && (a0_1.toList == a1_1.toList && (a0_2.toList == a1_2.toList)))) = true then ((Y1b.f a0_0 a0_1 a0_2 a1_0 a1_1 a1_2).bind fun t116 => (if ((t116 == 0) == (a0_0 == a1_0 && (a0_1.toList == a1_1.toList && (a0_2.toList == a1_2.toList)))) = true then (if bt111.2.2.2 = true then (if (bt111.1 == a0_0 && (bt111.2.1.toList == a0_1.toList && (bt111.2.2.1.toList == a0_2.toList))) = true then (if (t109.size : Int) ≤ 250 then ((Ys.f kj2).bind fun t117 => (some t117)) else (some false)) else (some false)) else (some false)) else (some false))) else (some false))))) = some r := by rw [if_neg (show ¬ (false = true) by decide)] at H; exact H
    clear H
    have H := H1
    clear H1
    replace H := Option.bind_eq_some_iff.mp H
    obtain ⟨t109, A360, H⟩ := H
    replace H : ((Yj.f a1_0 a1_1 a1_2).bind fun t110 => ((Yx.f kj2 t109).bind fun bt111 => (if ((t109.toList == t110.toList) == (a0_0 == a1_0 && (a0_1.toList == a1_1.toList && (a0_2.toList == a1_2.toList)))) = true then ((Y1b.f a0_0 a0_1 a0_2 a1_0 a1_1 a1_2).bind fun t116 => (if ((t116 == 0) == (a0_0 == a1_0 && (a0_1.toList == a1_1.toList && (a0_2.toList == a1_2.toList)))) = true then (if bt111.2.2.2 = true then (if (bt111.1 == a0_0 && (bt111.2.1.toList == a0_1.toList && (bt111.2.2.1.toList == a0_2.toList))) = true then (if (t109.size : Int) ≤ 250 then ((Ys.f kj2).bind fun t117 => (some t117)) else (some false)) else (some false)) else (some false)) else (some false))) else (some false)))) = some r := H
    have A36 := Y0.mk A360
    clear A360
    replace H := Option.bind_eq_some_iff.mp H
    obtain ⟨t110, A370, H⟩ := H
    replace H : ((Yx.f kj2 t109).bind fun bt111 => (if ((t109.toList == t110.toList) == (a0_0 == a1_0 && (a0_1.toList == a1_1.toList && (a0_2.toList == a1_2.toList)))) = true then ((Y1b.f a0_0 a0_1 a0_2 a1_0 a1_1 a1_2).bind fun t116 => (if ((t116 == 0) == (a0_0 == a1_0 && (a0_1.toList == a1_1.toList && (a0_2.toList == a1_2.toList)))) = true then (if bt111.2.2.2 = true then (if (bt111.1 == a0_0 && (bt111.2.1.toList == a0_1.toList && (bt111.2.2.1.toList == a0_2.toList))) = true then (if (t109.size : Int) ≤ 250 then ((Ys.f kj2).bind fun t117 => (some t117)) else (some false)) else (some false)) else (some false)) else (some false))) else (some false))) = some r := H
    have A37 := Y0.mk A370
    clear A370
    replace H := Option.bind_eq_some_iff.mp H
    obtain ⟨⟨t111, t112, t113, t114⟩, A380, H⟩ := H
    replace H : (if ((t109.toList == t110.toList) == (a0_0 == a1_0 && (a0_1.toList == a1_1.toList && (a0_2.toList == a1_2.toList)))) = true then ((Y1b.f a0_0 a0_1 a0_2 a1_0 a1_1 a1_2).bind fun t116 => (if ((t116 == 0) == (a0_0 == a1_0 && (a0_1.toList == a1_1.toList && (a0_2.toList == a1_2.toList)))) = true then (if t114 = true then (if (t111 == a0_0 && (t112.toList == a0_1.toList && (t113.toList == a0_2.toList))) = true then (if (t109.size : Int) ≤ 250 then ((Ys.f kj2).bind fun t117 => (some t117)) else (some false)) else (some false)) else (some false)) else (some false))) else (some false)) = some r := H
    have A38 := Y0.mk A380
    clear A380
    by_cases c39 : ((t109.toList == t110.toList) == (a0_0 == a1_0 && (a0_1.toList == a1_1.toList && (a0_2.toList == a1_2.toList)))) = true
    ·rw [if_pos c39] at H
     have c39b0 : ((t109.toList == t110.toList) == (a0_0 == a1_0 && (a0_1.toList == a1_1.toList && (a0_2.toList == a1_2.toList)))) = true := c39
     (try (have c39b1 : (((t109.toList = t110.toList) = (a0_0 = a1_0 ∧ a0_1.toList = a1_1.toList ∧ (a0_2.toList = a1_2.toList)))) = True := eq_true (by simpa using c39)))
     (try (have c39b2 : decide ((t109.toList == t110.toList) = (a0_0 == a1_0 && (a0_1.toList == a1_1.toList && (a0_2.toList == a1_2.toList)))) = true := by simpa using c39))
     (try (have c39b3 : ((t109.toList == t110.toList) == (a0_0 == a1_0 && (a0_1.toList == a1_1.toList && (a0_2.toList == a1_2.toList)))) = true := by simpa using c39))
     (try rw [show ((t109.toList == t110.toList) == (a0_0 == a1_0 && (a0_1.toList == a1_1.toList && (a0_2.toList == a1_2.toList)))) = true from by first | simpa using c39 | simpa [show ∀ l_ : List UInt8, (l_ != ([] : List UInt8)) = !l_.isEmpty from fun l_ => by cases l_ <;> rfl, show ∀ l_ : List UInt8, (l_ == ([] : List UInt8)) = l_.isEmpty from fun l_ => by cases l_ <;> rfl] using c39])
     clear c39
     replace H := Option.bind_eq_some_iff.mp H
     obtain ⟨t116, A400, H⟩ := H
     replace H : (if ((t116 == 0) == (a0_0 == a1_0 && (a0_1.toList == a1_1.toList && (a0_2.toList == a1_2.toList)))) = true then (if t114 = true then (if (t111 == a0_0 && (t112.toList == a0_1.toList && (t113.toList == a0_2.toList))) = true then (if (t109.size : Int) ≤ 250 then ((Ys.f kj2).bind fun t117 => (some t117)) else (some false)) else (some false)) else (some false)) else (some false)) = some r := H
     have A40 := Y0.mk A400
     clear A400
     by_cases c41 : ((t116 == 0) == (a0_0 == a1_0 && (a0_1.toList == a1_1.toList && (a0_2.toList == a1_2.toList)))) = true
     ·rw [if_pos c41] at H
      have c41b0 : ((t116 == 0) == (a0_0 == a1_0 && (a0_1.toList == a1_1.toList && (a0_2.toList == a1_2.toList)))) = true := c41
      (try (have c41b1 : (((t116 = 0) = (a0_0 = a1_0 ∧ a0_1.toList = a1_1.toList ∧ (a0_2.toList = a1_2.toList)))) = True := eq_true (by simpa using c41)))
      (try (have c41b2 : decide ((t116 == 0) = (a0_0 == a1_0 && (a0_1.toList == a1_1.toList && (a0_2.toList == a1_2.toList)))) = true := by simpa using c41))
      (try (have c41b3 : ((t116 == 0) == (a0_0 == a1_0 && (a0_1.toList == a1_1.toList && (a0_2.toList == a1_2.toList)))) = true := by simpa using c41))
      (try rw [show ((t116 == 0) == (a0_0 == a1_0 && (a0_1.toList == a1_1.toList && (a0_2.toList == a1_2.toList)))) = true from by first | simpa using c41 | simpa [show ∀ l_ : List UInt8, (l_ != ([] : List UInt8)) = !l_.isEmpty from fun l_ => by cases l_ <;> rfl, show ∀ l_ : List UInt8, (l_ == ([] : List UInt8)) = l_.isEmpty from fun l_ => by cases l_ <;> rfl] using c41])
      clear c41
      by_cases c42 : t114 = true
      ·subst c42
       have H1 : (if (t111 == a0_0 && (t112.toList == a0_1.toList && (t113.toList == a0_2.toList))) = true then (if (t109.size : Int) ≤ 250 then ((Ys.f kj2).bind fun t117 => (some t117)) else (some false)) else (some false)) = some r := by rw [if_pos rfl] at H; exact H
       clear H
       have H := H1
       clear H1
       by_cases c43 : (t111 == a0_0 && (t112.toList == a0_1.toList && (t113.toList == a0_2.toList))) = true
       ·rw [if_pos c43] at H
        have c43b0 : (t111 == a0_0 && (t112.toList == a0_1.toList && (t113.toList == a0_2.toList))) = true := c43
        (try (have c43b1 : ((t111 = a0_0 ∧ t112.toList = a0_1.toList ∧ (t113.toList = a0_2.toList))) = True := eq_true (by simpa using c43)))
        (try (have c43b2 : decide (t111 = a0_0 && (t112.toList == a0_1.toList && (t113.toList == a0_2.toList))) = true := by simpa using c43))
        (try (have c43b3 : (t111 == a0_0 && (t112.toList == a0_1.toList && (t113.toList == a0_2.toList))) = true := by simpa using c43))
        clear c43
        by_cases c44 : (t109.size : Int) ≤ 250
        ·rw [if_pos c44] at H
         have c44b0 : decide ((t109.size : Int) ≤ 250) = true := decide_eq_true c44
         have c44b1 : decide (t109.size ≤ 250) = true := decide_eq_true (by omega)
         clear c44
         replace H := Option.bind_eq_some_iff.mp H
         obtain ⟨t117, A450, H⟩ := H
         replace H : (some t117) = some r := H
         have A45 := Y0.mk A450
         clear A450
         obtain rfl := Option.some.inj H
         try go_wp2
         have n_ := Y1X (Yg BK101.out) (Yg BK102.out) (YH HB.out)
         clear BK101
         clear BK102
         clear HB
         obtain ⟨BK101, BK102, HB⟩ := n_
         refine Y1K (n := 6) (S := fun w' => w'.cell? ⟨gb101, 0, none⟩ = some (.int .i64 a0_0) ∧ w'.cell? ⟨gb101, 1, none⟩ = some (.string a0_1) ∧ w'.cell? ⟨gb101, 2, none⟩ = some (.string a0_2) ∧ w'.cell? ⟨gb102, 0, none⟩ = some (.int .i64 a1_0) ∧ w'.cell? ⟨gb102, 1, none⟩ = some (.string a1_1) ∧ w'.cell? ⟨gb102, 2, none⟩ = some (.string a1_2)) (ds := []) #[false, false, false, false, false, false] Z7 rfl rfl ⟨(Y1 BK101.out 0).trans rfl, (Y1 BK101.out 1).trans rfl, (Y1 BK101.out 2).trans rfl, (Y1 BK102.out 0).trans rfl, (Y1 BK102.out 1).trans rfl, (Y1 BK102.out 2).trans rfl⟩ (fun hHeld => ?_)
         generalize wc.drew = w46 at BK101 BK102 HB hHeld ⊢
         refine Y29 (i := 0) (N := some 23) (v := ?_) (a' := ?_) #[true, false, false, false, false, false] rfl rfl Z7 (fun _ _ _ h => h) (Or.inl ⟨by rfl, ?_⟩) hHeld ?_ ?_
         rotate_left
         ·rintro w' ⟨s0, s1, s2, s3, s4, s5⟩
          go_simp
          with_reducible rfl
         rotate_left
         ·simp only [Act.put, List.setIfInBounds_toArray, List.set_cons_zero, List.set_cons_succ, YI, YJ]
          rfl
         refine Y29 (i := 2) (N := some 25) (v := ?_) (a' := ?_) #[true, false, true, false, false, false] rfl rfl Z7 (fun _ _ _ h => h) (Or.inl ⟨by rfl, ?_⟩) hHeld ?_ ?_
         rotate_left
         ·rintro w' ⟨s0, s1, s2, s3, s4, s5⟩
          go_simp
          with_reducible rfl
         rotate_left
         ·simp only [Act.put, List.setIfInBounds_toArray, List.set_cons_zero, List.set_cons_succ, YI, YJ]
          rfl
         refine Y2Q (i := 1) (N := some 24) #[true, true, true, false, false, false] rfl rfl Z7 (by decide) (fun K hK => ?_)
         refine Y1G Tryd.func17 Z7 rfl #[.agg #[.int .i64 a0_0, .string a0_1, .string a0_2]] (by rfl) rfl rfl Z0 ?_
         with_reducible refine (Yj.calls a0_0 a0_1 a0_2 t109 _ A36.out).mono ?_
         rintro e w47 ⟨rfl, hb⟩
         refine ⟨_, rfl, ?_⟩
         have n_ := Y1X (Y9 (g := gb101) (o := .cells #[.int .i64 a0_0, .string a0_1, .string a0_2] 24 (0, 0)) QQ hb) (Y9 (g := gb102) (o := .cells #[.int .i64 a1_0, .string a1_1, .string a1_2] 24 (0, 0)) QQ hb) (Y8 QB hb)
         clear BK101
         clear BK102
         clear HB
         obtain ⟨BK101, BK102, HB⟩ := n_
         (try clear hb)
         (try clear hb2)
         (try clear hk)
         (try clear hi)
         refine hK.out _ _ ⟨(Y1 BK101.out 0).trans rfl, (Y1 BK101.out 1).trans rfl, (Y1 BK101.out 2).trans rfl, (Y1 BK102.out 0).trans rfl, (Y1 BK102.out 1).trans rfl, (Y1 BK102.out 2).trans rfl⟩ (fun hHeld => ?_)
         clear hK K
         refine Y1J (a' := ?_) ?_ ?_
         rotate_left
         ·show Act.put _ (some 24) _ = _
          simp only [Act.put, List.setIfInBounds_toArray, List.set_cons_zero, List.set_cons_succ, YI, YJ]
          rfl
         refine Y2Q (i := 3) (N := some 26) #[true, true, true, true, false, false] rfl rfl Z7 (by decide) (fun K hK => ?_)
         refine Y1G Tryd.func17 Z7 rfl #[.agg #[.int .i64 a1_0, .string a1_1, .string a1_2]] (by rfl) rfl rfl Z0 ?_
         with_reducible refine (Yj.calls a1_0 a1_1 a1_2 t110 _ A37.out).mono ?_
         rintro e w48 ⟨rfl, hb⟩
         refine ⟨_, rfl, ?_⟩
         have n_ := Y1X (Y9 (g := gb101) (o := .cells #[.int .i64 a0_0, .string a0_1, .string a0_2] 24 (0, 0)) QQ hb) (Y9 (g := gb102) (o := .cells #[.int .i64 a1_0, .string a1_1, .string a1_2] 24 (0, 0)) QQ hb) (Y8 QB hb)
         clear BK101
         clear BK102
         clear HB
         obtain ⟨BK101, BK102, HB⟩ := n_
         (try clear hb)
         (try clear hb2)
         (try clear hk)
         (try clear hi)
         refine hK.out _ _ ⟨(Y1 BK101.out 0).trans rfl, (Y1 BK101.out 1).trans rfl, (Y1 BK101.out 2).trans rfl, (Y1 BK102.out 0).trans rfl, (Y1 BK102.out 1).trans rfl, (Y1 BK102.out 2).trans rfl⟩ (fun hHeld => ?_)
         clear hK K
         refine Y1J (a' := ?_) ?_ ?_
         rotate_left
         ·show Act.put _ (some 26) _ = _
          simp only [Act.put, List.setIfInBounds_toArray, List.set_cons_zero, List.set_cons_succ, YI, YJ]
          rfl
         refine Y2h (i := 4) (N := some 5) (v := ?_) (a' := ?_) #[true, true, true, true, true, false] rfl rfl Z7 (fun _ _ _ h => h) (Or.inl ⟨by rfl, ?_⟩) ?_ ?_
         rotate_left
         ·intro w'
          go_simp
          with_reducible rfl
         rotate_left
         ·simp only [Act.put, List.setIfInBounds_toArray, List.set_cons_zero, List.set_cons_succ, YI, YJ]
          rfl
         refine Y2h (i := 5) (N := some 6) (v := ?_) (a' := ?_) #[true, true, true, true, true, true] rfl rfl Z7 (fun _ _ _ h => h) (Or.inl ⟨by rfl, ?_⟩) ?_ ?_
         rotate_left
         ·intro w'
          go_simp
          with_reducible rfl
         rotate_left
         ·simp only [Act.put, List.setIfInBounds_toArray, List.set_cons_zero, List.set_cons_succ, YI, YJ]
          rfl
         refine Y2g Z7 ?_
         try go_wp2_with (first | ((with_reducible refine Ya (f := 18) rfl ?_); refine Yu (some 29) rfl rfl Tryd.func18 Z7 rfl #[.string t109] rfl Z0 ?_; (with_reducible refine (Yx.calls kj2 t109 t111 t112 t113 true _ ?side1 A38.out).mono ?_); (case side1 => exact Z3); rintro e w49 ⟨rfl, hb⟩; refine ⟨_, rfl, ?_⟩; have n_ := Y1X (Y9 (g := gb101) (o := .cells #[.int .i64 a0_0, .string a0_1, .string a0_2] 24 (0, 0)) QQ hb) (Y9 (g := gb102) (o := .cells #[.int .i64 a1_0, .string a1_1, .string a1_2] 24 (0, 0)) QQ hb) (Y8 QB hb); clear BK101 BK102 HB; obtain ⟨BK101, BK102, HB⟩ := n_; (try clear hb); (try clear hb2); (try clear hk); (try clear hi)) | ((with_reducible refine Yt (N := 7) rfl ?_); (try (refine YP (by rfl) ?_; dsimp only)); refine Yp ?hg (N := 7) ?hd (cs := #[.int .i64 0, .string (⟨#[]⟩ : ByteArray), .string (⟨#[]⟩ : ByteArray)]) (t := 24) ?hr ?_; (case hd => rfl); (case hg => rfl); (case hr => exact Zb); intro gb115 hg w50 hbox hb; have n0_ := Y0.mk (Y9 (g := gb101) (o := .cells #[.int .i64 a0_0, .string a0_1, .string a0_2] 24 (0, 0)) QQ hb); have n1_ := Y0.mk (Y9 (g := gb102) (o := .cells #[.int .i64 a1_0, .string a1_1, .string a1_2] 24 (0, 0)) QQ hb); have n2_ := Y0.mk (Y8 QB hb); have n3_ := Y0.mk (hbox); have n4_ := Y0.mk ((by rw [hg]; exact (Yd QB) : w.heap.size ≤ gb115)); have n5_ := Y0.mk ((by rw [hg]; exact (Yd QB) : w.heap.size ≤ gb115)); have n6_ := Y0.mk ((by rw [hg]; exact Nat.ne_of_lt (Yy (g := gb101) (o := .cells #[.int .i64 a0_0, .string a0_1, .string a0_2] 24 (0, 0)) QQ) : gb101 ≠ gb115)); have n7_ := Y0.mk ((by rw [hg]; exact Nat.ne_of_gt (Yy (g := gb101) (o := .cells #[.int .i64 a0_0, .string a0_1, .string a0_2] 24 (0, 0)) QQ) : gb115 ≠ gb101)); have n8_ := Y0.mk ((by rw [hg]; exact Nat.ne_of_lt (Yy (g := gb102) (o := .cells #[.int .i64 a1_0, .string a1_1, .string a1_2] 24 (0, 0)) QQ) : gb102 ≠ gb115)); have n9_ := Y0.mk ((by rw [hg]; exact Nat.ne_of_gt (Yy (g := gb102) (o := .cells #[.int .i64 a1_0, .string a1_1, .string a1_2] 24 (0, 0)) QQ) : gb115 ≠ gb102)); clear BK101 BK102 HB; have BK101 := n0_; have BK102 := n1_; have HB := n2_; have BK115 := n3_; have GW115 := n4_; have GE115 := n5_; have NB101_115 := n6_; have NB115_101 := n7_; have NB102_115 := n8_; have NB115_102 := n9_; clear n0_ n1_ n2_ n3_ n4_ n5_ n6_ n7_ n8_ n9_ hb hbox hg; have hnb51 := NB115_101.out; have hnc51 := NB101_115.out; have hnb52 := NB115_102.out; have hnc52 := NB102_115.out; obtain ⟨hcz53_0, hcz53_1, hcz53_2, hfz53_0, hfz53_1, hfz53_2⟩ := Yr BK115.out))
         have n0_ : Y0 ((((w50.setCell ⟨gb115, 0, none⟩ (.int .i64 t111)).setCell ⟨gb115, 1, none⟩ (.string t112)).setCell ⟨gb115, 2, none⟩ (.string t113)).heap[gb101]? = some (.cells #[.int .i64 a0_0, .string a0_1, .string a0_2] 24 (0, 0))) := ⟨Z9⟩
         have n1_ : Y0 ((((w50.setCell ⟨gb115, 0, none⟩ (.int .i64 t111)).setCell ⟨gb115, 1, none⟩ (.string t112)).setCell ⟨gb115, 2, none⟩ (.string t113)).heap[gb102]? = some (.cells #[.int .i64 a1_0, .string a1_1, .string a1_2] 24 (0, 0))) := ⟨Za⟩
         have n2_ : Y0 ((((w50.setCell ⟨gb115, 0, none⟩ (.int .i64 t111)).setCell ⟨gb115, 1, none⟩ (.string t112)).setCell ⟨gb115, 2, none⟩ (.string t113)).heap[gb115]? = some (.cells #[.int .i64 t111, .string t112, .string t113] 24 (0, 0))) := ⟨ZM⟩
         have n3_ : Y0 (Below w.heap.size w (((w50.setCell ⟨gb115, 0, none⟩ (.int .i64 t111)).setCell ⟨gb115, 1, none⟩ (.string t112)).setCell ⟨gb115, 2, none⟩ (.string t113))) := ⟨QB⟩
         (try clear BK101)
         (try clear BK102)
         (try clear BK115)
         (try clear HB)
         generalize (((w50.setCell ⟨gb115, 0, none⟩ (.int .i64 t111)).setCell ⟨gb115, 1, none⟩ (.string t112)).setCell ⟨gb115, 2, none⟩ (.string t113)) = w54 at n0_ n1_ n2_ n3_ ⊢
         have BK101 := n0_
         have BK102 := n1_
         have BK115 := n2_
         have HB := n3_
         clear n0_ n1_ n2_ n3_
         have n_ := Y1L (Yg BK101.out) (Yg BK102.out) (Yg BK115.out) (YH HB.out)
         clear BK101
         clear BK102
         clear BK115
         clear HB
         obtain ⟨BK101, BK102, BK115, HB⟩ := n_
         refine Y1K (n := 34) (S := fun w' => w'.cell? ⟨gb101, 0, none⟩ = some (.int .i64 a0_0) ∧ w'.cell? ⟨gb101, 1, none⟩ = some (.string a0_1) ∧ w'.cell? ⟨gb101, 2, none⟩ = some (.string a0_2) ∧ w'.cell? ⟨gb102, 0, none⟩ = some (.int .i64 a1_0) ∧ w'.cell? ⟨gb102, 1, none⟩ = some (.string a1_1) ∧ w'.cell? ⟨gb102, 2, none⟩ = some (.string a1_2) ∧ w'.cell? ⟨gb115, 0, none⟩ = some (.int .i64 t111) ∧ w'.cell? ⟨gb115, 1, none⟩ = some (.string t112) ∧ w'.cell? ⟨gb115, 2, none⟩ = some (.string t113)) (ds := []) Y38 Z7 rfl rfl ⟨(Y1 BK101.out 0).trans rfl, (Y1 BK101.out 1).trans rfl, (Y1 BK101.out 2).trans rfl, (Y1 BK102.out 0).trans rfl, (Y1 BK102.out 1).trans rfl, (Y1 BK102.out 2).trans rfl, (Y1 BK115.out 0).trans rfl, (Y1 BK115.out 1).trans rfl, (Y1 BK115.out 2).trans rfl⟩ (fun hHeld => ?_); refine Y1A triviumlaw4_TermOne.tab5 triviumlaw4_TermOne.bits5 (fun HT_ HW_ => ?_)
         generalize w54.drew = w55 at BK101 BK102 BK115 HB hHeld ⊢
         refine pY 0 32 Y39 ?_
         refine pY 1 33 Y3a ?_
         refine pY 2 34 Y3b ?_
         refine pT 3 35 Y3c ?_
         refine pT 4 36 Y2r ?_
         refine pY 5 37 Y2s ?_
         refine pY 6 38 Y2t ?_
         refine pY 7 39 Y2u ?_
         refine pT 8 40 Y2a ?_
         refine pT 9 41 Y2b ?_
         refine pT 12 44 Y1Y ?_
         refine pT 13 45 Y1Z ?_
         refine pY 14 46 Y20 ?_
         refine Y2Q (i := 10) (N := some 42) Y21 rfl rfl (Y2B HT_.out Z7) (by decide) (fun K hK => ?_)
         refine Y1G Tryd.func21 Z7 rfl #[.agg #[.int .i64 a0_0, .string a0_1, .string a0_2], .agg #[.int .i64 a1_0, .string a1_1, .string a1_2]] (by rfl) rfl rfl Z0 ?_
         with_reducible refine (Y1b.calls a0_0 a0_1 a0_2 a1_0 a1_1 a1_2 t116 _ A40.out).mono ?_
         rintro e w56 ⟨rfl, hb⟩
         refine ⟨_, rfl, ?_⟩
         have n_ := Y1L (Y9 (g := gb101) (o := .cells #[.int .i64 a0_0, .string a0_1, .string a0_2] 24 (0, 0)) QQ hb) (Y9 (g := gb102) (o := .cells #[.int .i64 a1_0, .string a1_1, .string a1_2] 24 (0, 0)) QQ hb) (Y9 (g := gb115) (o := .cells #[.int .i64 t111, .string t112, .string t113] 24 (0, 0)) QQ hb) (Y8 QB hb)
         clear BK101
         clear BK102
         clear BK115
         clear HB
         obtain ⟨BK101, BK102, BK115, HB⟩ := n_
         (try clear hb)
         (try clear hb2)
         (try clear hk)
         (try clear hi)
         refine hK.out _ _ ⟨(Y1 BK101.out 0).trans rfl, (Y1 BK101.out 1).trans rfl, (Y1 BK101.out 2).trans rfl, (Y1 BK102.out 0).trans rfl, (Y1 BK102.out 1).trans rfl, (Y1 BK102.out 2).trans rfl, (Y1 BK115.out 0).trans rfl, (Y1 BK115.out 1).trans rfl, (Y1 BK115.out 2).trans rfl⟩ (fun hHeld => ?_)
         clear hK K
         refine Y1J (a' := ?_) ?_ ?_
         rotate_left
         ·show Act.put _ (some 42) _ = _
          simp only [Act.put, List.setIfInBounds_toArray, List.set_cons_zero, List.set_cons_succ, YI, YJ]
          rfl
         refine pY 11 43 Y1O ?_
         refine pY 15 47 Y1P ?_
         refine pY 16 48 Y1C ?_
         refine pY 17 49 Y1D ?_
         refine pY 18 50 Y1E ?_
         refine pY 19 51 Y1F ?_
         refine pY 20 52 Y1o ?_
         refine pT 21 53 Y1p ?_
         refine pT 22 54 Y1q ?_
         refine pY 23 55 Y1r ?_
         refine pY 24 56 Y1f ?_
         refine pY 25 57 Y1g ?_
         refine pY 26 58 Y1h ?_
         refine pY 27 59 Y1i ?_
         refine pY 28 60 Y17 ?_
         refine pY 29 61 Y18 ?_
         refine pY 30 62 Y19 ?_
         refine Y2Q (i := 31) (N := some 63) Y1a rfl rfl (Y2B HT_.out Z7) (by decide) (fun K hK => ?_)
         refine Y1G Tryd.func16 Z7 rfl #[] (by rfl) rfl rfl Z0 ?_
         with_reducible refine (Ys.calls kj2  t117 _ ?side1 A45.out).mono ?_
         (case side1 => exact Z3)
         rintro e w57 ⟨rfl, hb⟩
         refine ⟨_, rfl, ?_⟩
         have n_ := Y1L (Y9 (g := gb101) (o := .cells #[.int .i64 a0_0, .string a0_1, .string a0_2] 24 (0, 0)) QQ hb) (Y9 (g := gb102) (o := .cells #[.int .i64 a1_0, .string a1_1, .string a1_2] 24 (0, 0)) QQ hb) (Y9 (g := gb115) (o := .cells #[.int .i64 t111, .string t112, .string t113] 24 (0, 0)) QQ hb) (Y8 QB hb)
         clear BK101
         clear BK102
         clear BK115
         clear HB
         obtain ⟨BK101, BK102, BK115, HB⟩ := n_
         (try clear hb)
         (try clear hb2)
         (try clear hk)
         (try clear hi)
         refine hK.out _ _ ⟨(Y1 BK101.out 0).trans rfl, (Y1 BK101.out 1).trans rfl, (Y1 BK101.out 2).trans rfl, (Y1 BK102.out 0).trans rfl, (Y1 BK102.out 1).trans rfl, (Y1 BK102.out 2).trans rfl, (Y1 BK115.out 0).trans rfl, (Y1 BK115.out 1).trans rfl, (Y1 BK115.out 2).trans rfl⟩ (fun hHeld => ?_)
         clear hK K
         refine Y1J (a' := ?_) ?_ ?_
         rotate_left
         ·show Act.put _ (some 63) _ = _
          simp only [Act.put, List.setIfInBounds_toArray, List.set_cons_zero, List.set_cons_succ, YI, YJ]
          rfl
         refine pY 32 64 YZ ?_
         refine pY 33 4 Y10 ?_
         refine Y2g (Y23 HT_.out Z7) ?_
         try go_wp2
         go_ret
         exact ZT
        ·rw [if_neg c44] at H
         have c44b0 : decide ((t109.size : Int) ≤ 250) = false := decide_eq_false c44
         have c44b1 : decide (t109.size ≤ 250) = false := decide_eq_false (by omega)
         clear c44
         obtain rfl := Option.some.inj H
         try go_wp2
         have n_ := Y1X (Yg BK101.out) (Yg BK102.out) (YH HB.out)
         clear BK101
         clear BK102
         clear HB
         obtain ⟨BK101, BK102, HB⟩ := n_
         refine Y1K (n := 6) (S := fun w' => w'.cell? ⟨gb101, 0, none⟩ = some (.int .i64 a0_0) ∧ w'.cell? ⟨gb101, 1, none⟩ = some (.string a0_1) ∧ w'.cell? ⟨gb101, 2, none⟩ = some (.string a0_2) ∧ w'.cell? ⟨gb102, 0, none⟩ = some (.int .i64 a1_0) ∧ w'.cell? ⟨gb102, 1, none⟩ = some (.string a1_1) ∧ w'.cell? ⟨gb102, 2, none⟩ = some (.string a1_2)) (ds := []) #[false, false, false, false, false, false] Z7 rfl rfl ⟨(Y1 BK101.out 0).trans rfl, (Y1 BK101.out 1).trans rfl, (Y1 BK101.out 2).trans rfl, (Y1 BK102.out 0).trans rfl, (Y1 BK102.out 1).trans rfl, (Y1 BK102.out 2).trans rfl⟩ (fun hHeld => ?_)
         generalize wc.drew = w58 at BK101 BK102 HB hHeld ⊢
         refine Y29 (i := 0) (N := some 23) (v := ?_) (a' := ?_) #[true, false, false, false, false, false] rfl rfl Z7 (fun _ _ _ h => h) (Or.inl ⟨by rfl, ?_⟩) hHeld ?_ ?_
         rotate_left
         ·rintro w' ⟨s0, s1, s2, s3, s4, s5⟩
          go_simp
          with_reducible rfl
         rotate_left
         ·simp only [Act.put, List.setIfInBounds_toArray, List.set_cons_zero, List.set_cons_succ, YI, YJ]
          rfl
         refine Y29 (i := 2) (N := some 25) (v := ?_) (a' := ?_) #[true, false, true, false, false, false] rfl rfl Z7 (fun _ _ _ h => h) (Or.inl ⟨by rfl, ?_⟩) hHeld ?_ ?_
         rotate_left
         ·rintro w' ⟨s0, s1, s2, s3, s4, s5⟩
          go_simp
          with_reducible rfl
         rotate_left
         ·simp only [Act.put, List.setIfInBounds_toArray, List.set_cons_zero, List.set_cons_succ, YI, YJ]
          rfl
         refine Y2Q (i := 1) (N := some 24) #[true, true, true, false, false, false] rfl rfl Z7 (by decide) (fun K hK => ?_)
         refine Y1G Tryd.func17 Z7 rfl #[.agg #[.int .i64 a0_0, .string a0_1, .string a0_2]] (by rfl) rfl rfl Z0 ?_
         with_reducible refine (Yj.calls a0_0 a0_1 a0_2 t109 _ A36.out).mono ?_
         rintro e w59 ⟨rfl, hb⟩
         refine ⟨_, rfl, ?_⟩
         have n_ := Y1X (Y9 (g := gb101) (o := .cells #[.int .i64 a0_0, .string a0_1, .string a0_2] 24 (0, 0)) QQ hb) (Y9 (g := gb102) (o := .cells #[.int .i64 a1_0, .string a1_1, .string a1_2] 24 (0, 0)) QQ hb) (Y8 QB hb)
         clear BK101
         clear BK102
         clear HB
         obtain ⟨BK101, BK102, HB⟩ := n_
         (try clear hb)
         (try clear hb2)
         (try clear hk)
         (try clear hi)
         refine hK.out _ _ ⟨(Y1 BK101.out 0).trans rfl, (Y1 BK101.out 1).trans rfl, (Y1 BK101.out 2).trans rfl, (Y1 BK102.out 0).trans rfl, (Y1 BK102.out 1).trans rfl, (Y1 BK102.out 2).trans rfl⟩ (fun hHeld => ?_)
         clear hK K
         refine Y1J (a' := ?_) ?_ ?_
         rotate_left
         ·show Act.put _ (some 24) _ = _
          simp only [Act.put, List.setIfInBounds_toArray, List.set_cons_zero, List.set_cons_succ, YI, YJ]
          rfl
         refine Y2Q (i := 3) (N := some 26) #[true, true, true, true, false, false] rfl rfl Z7 (by decide) (fun K hK => ?_)
         refine Y1G Tryd.func17 Z7 rfl #[.agg #[.int .i64 a1_0, .string a1_1, .string a1_2]] (by rfl) rfl rfl Z0 ?_
         with_reducible refine (Yj.calls a1_0 a1_1 a1_2 t110 _ A37.out).mono ?_
         rintro e w60 ⟨rfl, hb⟩
         refine ⟨_, rfl, ?_⟩
         have n_ := Y1X (Y9 (g := gb101) (o := .cells #[.int .i64 a0_0, .string a0_1, .string a0_2] 24 (0, 0)) QQ hb) (Y9 (g := gb102) (o := .cells #[.int .i64 a1_0, .string a1_1, .string a1_2] 24 (0, 0)) QQ hb) (Y8 QB hb)
         clear BK101
         clear BK102
         clear HB
         obtain ⟨BK101, BK102, HB⟩ := n_
         (try clear hb)
         (try clear hb2)
         (try clear hk)
         (try clear hi)
         refine hK.out _ _ ⟨(Y1 BK101.out 0).trans rfl, (Y1 BK101.out 1).trans rfl, (Y1 BK101.out 2).trans rfl, (Y1 BK102.out 0).trans rfl, (Y1 BK102.out 1).trans rfl, (Y1 BK102.out 2).trans rfl⟩ (fun hHeld => ?_)
         clear hK K
         refine Y1J (a' := ?_) ?_ ?_
         rotate_left
         ·show Act.put _ (some 26) _ = _
          simp only [Act.put, List.setIfInBounds_toArray, List.set_cons_zero, List.set_cons_succ, YI, YJ]
          rfl
         refine Y2h (i := 4) (N := some 5) (v := ?_) (a' := ?_) #[true, true, true, true, true, false] rfl rfl Z7 (fun _ _ _ h => h) (Or.inl ⟨by rfl, ?_⟩) ?_ ?_
         rotate_left
         ·intro w'
          go_simp
          with_reducible rfl
         rotate_left
         ·simp only [Act.put, List.setIfInBounds_toArray, List.set_cons_zero, List.set_cons_succ, YI, YJ]
          rfl
         refine Y2h (i := 5) (N := some 6) (v := ?_) (a' := ?_) #[true, true, true, true, true, true] rfl rfl Z7 (fun _ _ _ h => h) (Or.inl ⟨by rfl, ?_⟩) ?_ ?_
         rotate_left
         ·intro w'
          go_simp
          with_reducible rfl
         rotate_left
         ·simp only [Act.put, List.setIfInBounds_toArray, List.set_cons_zero, List.set_cons_succ, YI, YJ]
          rfl
         refine Y2g Z7 ?_
         try go_wp2_with (first | ((with_reducible refine Ya (f := 18) rfl ?_); refine Yu (some 29) rfl rfl Tryd.func18 Z7 rfl #[.string t109] rfl Z0 ?_; (with_reducible refine (Yx.calls kj2 t109 t111 t112 t113 true _ ?side1 A38.out).mono ?_); (case side1 => exact Z3); rintro e w61 ⟨rfl, hb⟩; refine ⟨_, rfl, ?_⟩; have n_ := Y1X (Y9 (g := gb101) (o := .cells #[.int .i64 a0_0, .string a0_1, .string a0_2] 24 (0, 0)) QQ hb) (Y9 (g := gb102) (o := .cells #[.int .i64 a1_0, .string a1_1, .string a1_2] 24 (0, 0)) QQ hb) (Y8 QB hb); clear BK101 BK102 HB; obtain ⟨BK101, BK102, HB⟩ := n_; (try clear hb); (try clear hb2); (try clear hk); (try clear hi)) | ((with_reducible refine Yt (N := 7) rfl ?_); (try (refine YP (by rfl) ?_; dsimp only)); refine Yp ?hg (N := 7) ?hd (cs := #[.int .i64 0, .string (⟨#[]⟩ : ByteArray), .string (⟨#[]⟩ : ByteArray)]) (t := 24) ?hr ?_; (case hd => rfl); (case hg => rfl); (case hr => exact Zb); intro gb115 hg w62 hbox hb; have n0_ := Y0.mk (Y9 (g := gb101) (o := .cells #[.int .i64 a0_0, .string a0_1, .string a0_2] 24 (0, 0)) QQ hb); have n1_ := Y0.mk (Y9 (g := gb102) (o := .cells #[.int .i64 a1_0, .string a1_1, .string a1_2] 24 (0, 0)) QQ hb); have n2_ := Y0.mk (Y8 QB hb); have n3_ := Y0.mk (hbox); have n4_ := Y0.mk ((by rw [hg]; exact (Yd QB) : w.heap.size ≤ gb115)); have n5_ := Y0.mk ((by rw [hg]; exact (Yd QB) : w.heap.size ≤ gb115)); have n6_ := Y0.mk ((by rw [hg]; exact Nat.ne_of_lt (Yy (g := gb101) (o := .cells #[.int .i64 a0_0, .string a0_1, .string a0_2] 24 (0, 0)) QQ) : gb101 ≠ gb115)); have n7_ := Y0.mk ((by rw [hg]; exact Nat.ne_of_gt (Yy (g := gb101) (o := .cells #[.int .i64 a0_0, .string a0_1, .string a0_2] 24 (0, 0)) QQ) : gb115 ≠ gb101)); have n8_ := Y0.mk ((by rw [hg]; exact Nat.ne_of_lt (Yy (g := gb102) (o := .cells #[.int .i64 a1_0, .string a1_1, .string a1_2] 24 (0, 0)) QQ) : gb102 ≠ gb115)); have n9_ := Y0.mk ((by rw [hg]; exact Nat.ne_of_gt (Yy (g := gb102) (o := .cells #[.int .i64 a1_0, .string a1_1, .string a1_2] 24 (0, 0)) QQ) : gb115 ≠ gb102)); clear BK101 BK102 HB; have BK101 := n0_; have BK102 := n1_; have HB := n2_; have BK115 := n3_; have GW115 := n4_; have GE115 := n5_; have NB101_115 := n6_; have NB115_101 := n7_; have NB102_115 := n8_; have NB115_102 := n9_; clear n0_ n1_ n2_ n3_ n4_ n5_ n6_ n7_ n8_ n9_ hb hbox hg; have hnb63 := NB115_101.out; have hnc63 := NB101_115.out; have hnb64 := NB115_102.out; have hnc64 := NB102_115.out; obtain ⟨hcz65_0, hcz65_1, hcz65_2, hfz65_0, hfz65_1, hfz65_2⟩ := Yr BK115.out))
         have n0_ : Y0 ((((w62.setCell ⟨gb115, 0, none⟩ (.int .i64 t111)).setCell ⟨gb115, 1, none⟩ (.string t112)).setCell ⟨gb115, 2, none⟩ (.string t113)).heap[gb101]? = some (.cells #[.int .i64 a0_0, .string a0_1, .string a0_2] 24 (0, 0))) := ⟨Z9⟩
         have n1_ : Y0 ((((w62.setCell ⟨gb115, 0, none⟩ (.int .i64 t111)).setCell ⟨gb115, 1, none⟩ (.string t112)).setCell ⟨gb115, 2, none⟩ (.string t113)).heap[gb102]? = some (.cells #[.int .i64 a1_0, .string a1_1, .string a1_2] 24 (0, 0))) := ⟨Za⟩
         have n2_ : Y0 ((((w62.setCell ⟨gb115, 0, none⟩ (.int .i64 t111)).setCell ⟨gb115, 1, none⟩ (.string t112)).setCell ⟨gb115, 2, none⟩ (.string t113)).heap[gb115]? = some (.cells #[.int .i64 t111, .string t112, .string t113] 24 (0, 0))) := ⟨ZM⟩
         have n3_ : Y0 (Below w.heap.size w (((w62.setCell ⟨gb115, 0, none⟩ (.int .i64 t111)).setCell ⟨gb115, 1, none⟩ (.string t112)).setCell ⟨gb115, 2, none⟩ (.string t113))) := ⟨QB⟩
         (try clear BK101)
         (try clear BK102)
         (try clear BK115)
         (try clear HB)
         generalize (((w62.setCell ⟨gb115, 0, none⟩ (.int .i64 t111)).setCell ⟨gb115, 1, none⟩ (.string t112)).setCell ⟨gb115, 2, none⟩ (.string t113)) = w66 at n0_ n1_ n2_ n3_ ⊢
         have BK101 := n0_
         have BK102 := n1_
         have BK115 := n2_
         have HB := n3_
         clear n0_ n1_ n2_ n3_
         have n_ := Y1L (Yg BK101.out) (Yg BK102.out) (Yg BK115.out) (YH HB.out)
         clear BK101
         clear BK102
         clear BK115
         clear HB
         obtain ⟨BK101, BK102, BK115, HB⟩ := n_
         refine Y1K (n := 34) (S := fun w' => w'.cell? ⟨gb101, 0, none⟩ = some (.int .i64 a0_0) ∧ w'.cell? ⟨gb101, 1, none⟩ = some (.string a0_1) ∧ w'.cell? ⟨gb101, 2, none⟩ = some (.string a0_2) ∧ w'.cell? ⟨gb102, 0, none⟩ = some (.int .i64 a1_0) ∧ w'.cell? ⟨gb102, 1, none⟩ = some (.string a1_1) ∧ w'.cell? ⟨gb102, 2, none⟩ = some (.string a1_2) ∧ w'.cell? ⟨gb115, 0, none⟩ = some (.int .i64 t111) ∧ w'.cell? ⟨gb115, 1, none⟩ = some (.string t112) ∧ w'.cell? ⟨gb115, 2, none⟩ = some (.string t113)) (ds := []) Y38 Z7 rfl rfl ⟨(Y1 BK101.out 0).trans rfl, (Y1 BK101.out 1).trans rfl, (Y1 BK101.out 2).trans rfl, (Y1 BK102.out 0).trans rfl, (Y1 BK102.out 1).trans rfl, (Y1 BK102.out 2).trans rfl, (Y1 BK115.out 0).trans rfl, (Y1 BK115.out 1).trans rfl, (Y1 BK115.out 2).trans rfl⟩ (fun hHeld => ?_); refine Y1A triviumlaw4_TermOne.tab5 triviumlaw4_TermOne.bits5 (fun HT_ HW_ => ?_)
         generalize w66.drew = w67 at BK101 BK102 BK115 HB hHeld ⊢
         refine pY 0 32 Y39 ?_
         refine pY 1 33 Y3a ?_
         refine pY 2 34 Y3b ?_
         refine pT 3 35 Y3c ?_
         refine pT 4 36 Y2r ?_
         refine pY 5 37 Y2s ?_
         refine pY 6 38 Y2t ?_
         refine pY 7 39 Y2u ?_
         refine pT 8 40 Y2a ?_
         refine pT 9 41 Y2b ?_
         refine pT 12 44 Y1Y ?_
         refine pT 13 45 Y1Z ?_
         refine pY 14 46 Y20 ?_
         refine Y2Q (i := 10) (N := some 42) Y21 rfl rfl (Y2B HT_.out Z7) (by decide) (fun K hK => ?_)
         refine Y1G Tryd.func21 Z7 rfl #[.agg #[.int .i64 a0_0, .string a0_1, .string a0_2], .agg #[.int .i64 a1_0, .string a1_1, .string a1_2]] (by rfl) rfl rfl Z0 ?_
         with_reducible refine (Y1b.calls a0_0 a0_1 a0_2 a1_0 a1_1 a1_2 t116 _ A40.out).mono ?_
         rintro e w68 ⟨rfl, hb⟩
         refine ⟨_, rfl, ?_⟩
         have n_ := Y1L (Y9 (g := gb101) (o := .cells #[.int .i64 a0_0, .string a0_1, .string a0_2] 24 (0, 0)) QQ hb) (Y9 (g := gb102) (o := .cells #[.int .i64 a1_0, .string a1_1, .string a1_2] 24 (0, 0)) QQ hb) (Y9 (g := gb115) (o := .cells #[.int .i64 t111, .string t112, .string t113] 24 (0, 0)) QQ hb) (Y8 QB hb)
         clear BK101
         clear BK102
         clear BK115
         clear HB
         obtain ⟨BK101, BK102, BK115, HB⟩ := n_
         (try clear hb)
         (try clear hb2)
         (try clear hk)
         (try clear hi)
         refine hK.out _ _ ⟨(Y1 BK101.out 0).trans rfl, (Y1 BK101.out 1).trans rfl, (Y1 BK101.out 2).trans rfl, (Y1 BK102.out 0).trans rfl, (Y1 BK102.out 1).trans rfl, (Y1 BK102.out 2).trans rfl, (Y1 BK115.out 0).trans rfl, (Y1 BK115.out 1).trans rfl, (Y1 BK115.out 2).trans rfl⟩ (fun hHeld => ?_)
         clear hK K
         refine Y1J (a' := ?_) ?_ ?_
         rotate_left
         ·show Act.put _ (some 42) _ = _
          simp only [Act.put, List.setIfInBounds_toArray, List.set_cons_zero, List.set_cons_succ, YI, YJ]
          rfl
         refine pY 11 43 Y1O ?_
         refine pY 15 47 Y1P ?_
         refine pY 16 48 Y1C ?_
         refine pY 17 49 Y1D ?_
         refine pY 18 50 Y1E ?_
         refine pY 19 51 Y1F ?_
         refine pY 20 52 Y1o ?_
         refine pT 21 53 Y1p ?_
         refine pT 22 54 Y1q ?_
         refine pY 23 55 Y1r ?_
         refine pY 24 56 Y1f ?_
         refine pY 25 57 Y1g ?_
         refine pY 26 58 Y1h ?_
         refine pY 27 59 Y1i ?_
         refine pY 28 60 Y17 ?_
         refine pY 29 61 Y18 ?_
         refine pY 30 62 Y19 ?_
         refine pU 31 63 Y1a ?_
         refine pY 32 64 YZ ?_
         refine pY 33 4 Y10 ?_
         refine Y2g (Y23 HT_.out Z7) ?_
         try go_wp2
         go_ret
         exact ZT
       ·rw [if_neg c43] at H
        have c43b0 : (t111 == a0_0 && (t112.toList == a0_1.toList && (t113.toList == a0_2.toList))) = false := by simpa using c43
        (try (have c43b1 : ((t111 = a0_0 ∧ t112.toList = a0_1.toList ∧ (t113.toList = a0_2.toList))) = False := eq_false (by simpa using c43)))
        (try (have c43b2 : decide (t111 = a0_0 && (t112.toList == a0_1.toList && (t113.toList == a0_2.toList))) = false := by simpa using c43))
        (try (have c43b3 : (t111 == a0_0 && (t112.toList == a0_1.toList && (t113.toList == a0_2.toList))) = false := by simpa using c43))
        (try (have c43b4 : ¬ (t111 = a0_0 && (t112.toList == a0_1.toList && (t113.toList == a0_2.toList))) := by simpa using c43))
        clear c43
        obtain rfl := Option.some.inj H
        try go_wp2
        have n_ := Y1X (Yg BK101.out) (Yg BK102.out) (YH HB.out)
        clear BK101
        clear BK102
        clear HB
        obtain ⟨BK101, BK102, HB⟩ := n_
        refine Y1K (n := 6) (S := fun w' => w'.cell? ⟨gb101, 0, none⟩ = some (.int .i64 a0_0) ∧ w'.cell? ⟨gb101, 1, none⟩ = some (.string a0_1) ∧ w'.cell? ⟨gb101, 2, none⟩ = some (.string a0_2) ∧ w'.cell? ⟨gb102, 0, none⟩ = some (.int .i64 a1_0) ∧ w'.cell? ⟨gb102, 1, none⟩ = some (.string a1_1) ∧ w'.cell? ⟨gb102, 2, none⟩ = some (.string a1_2)) (ds := []) #[false, false, false, false, false, false] Z7 rfl rfl ⟨(Y1 BK101.out 0).trans rfl, (Y1 BK101.out 1).trans rfl, (Y1 BK101.out 2).trans rfl, (Y1 BK102.out 0).trans rfl, (Y1 BK102.out 1).trans rfl, (Y1 BK102.out 2).trans rfl⟩ (fun hHeld => ?_)
        generalize wc.drew = w69 at BK101 BK102 HB hHeld ⊢
        refine Y29 (i := 0) (N := some 23) (v := ?_) (a' := ?_) #[true, false, false, false, false, false] rfl rfl Z7 (fun _ _ _ h => h) (Or.inl ⟨by rfl, ?_⟩) hHeld ?_ ?_
        rotate_left
        ·rintro w' ⟨s0, s1, s2, s3, s4, s5⟩
         go_simp
         with_reducible rfl
        rotate_left
        ·simp only [Act.put, List.setIfInBounds_toArray, List.set_cons_zero, List.set_cons_succ, YI, YJ]
         rfl
        refine Y29 (i := 2) (N := some 25) (v := ?_) (a' := ?_) #[true, false, true, false, false, false] rfl rfl Z7 (fun _ _ _ h => h) (Or.inl ⟨by rfl, ?_⟩) hHeld ?_ ?_
        rotate_left
        ·rintro w' ⟨s0, s1, s2, s3, s4, s5⟩
         go_simp
         with_reducible rfl
        rotate_left
        ·simp only [Act.put, List.setIfInBounds_toArray, List.set_cons_zero, List.set_cons_succ, YI, YJ]
         rfl
        refine Y2Q (i := 1) (N := some 24) #[true, true, true, false, false, false] rfl rfl Z7 (by decide) (fun K hK => ?_)
        refine Y1G Tryd.func17 Z7 rfl #[.agg #[.int .i64 a0_0, .string a0_1, .string a0_2]] (by rfl) rfl rfl Z0 ?_
        with_reducible refine (Yj.calls a0_0 a0_1 a0_2 t109 _ A36.out).mono ?_
        rintro e w70 ⟨rfl, hb⟩
        refine ⟨_, rfl, ?_⟩
        have n_ := Y1X (Y9 (g := gb101) (o := .cells #[.int .i64 a0_0, .string a0_1, .string a0_2] 24 (0, 0)) QQ hb) (Y9 (g := gb102) (o := .cells #[.int .i64 a1_0, .string a1_1, .string a1_2] 24 (0, 0)) QQ hb) (Y8 QB hb)
        clear BK101
        clear BK102
        clear HB
        obtain ⟨BK101, BK102, HB⟩ := n_
        (try clear hb)
        (try clear hb2)
        (try clear hk)
        (try clear hi)
        refine hK.out _ _ ⟨(Y1 BK101.out 0).trans rfl, (Y1 BK101.out 1).trans rfl, (Y1 BK101.out 2).trans rfl, (Y1 BK102.out 0).trans rfl, (Y1 BK102.out 1).trans rfl, (Y1 BK102.out 2).trans rfl⟩ (fun hHeld => ?_)
        clear hK K
        refine Y1J (a' := ?_) ?_ ?_
        rotate_left
        ·show Act.put _ (some 24) _ = _
         simp only [Act.put, List.setIfInBounds_toArray, List.set_cons_zero, List.set_cons_succ, YI, YJ]
         rfl
        refine Y2Q (i := 3) (N := some 26) #[true, true, true, true, false, false] rfl rfl Z7 (by decide) (fun K hK => ?_)
        refine Y1G Tryd.func17 Z7 rfl #[.agg #[.int .i64 a1_0, .string a1_1, .string a1_2]] (by rfl) rfl rfl Z0 ?_
        with_reducible refine (Yj.calls a1_0 a1_1 a1_2 t110 _ A37.out).mono ?_
        rintro e w71 ⟨rfl, hb⟩
        refine ⟨_, rfl, ?_⟩
        have n_ := Y1X (Y9 (g := gb101) (o := .cells #[.int .i64 a0_0, .string a0_1, .string a0_2] 24 (0, 0)) QQ hb) (Y9 (g := gb102) (o := .cells #[.int .i64 a1_0, .string a1_1, .string a1_2] 24 (0, 0)) QQ hb) (Y8 QB hb)
        clear BK101
        clear BK102
        clear HB
        obtain ⟨BK101, BK102, HB⟩ := n_
        (try clear hb)
        (try clear hb2)
        (try clear hk)
        (try clear hi)
        refine hK.out _ _ ⟨(Y1 BK101.out 0).trans rfl, (Y1 BK101.out 1).trans rfl, (Y1 BK101.out 2).trans rfl, (Y1 BK102.out 0).trans rfl, (Y1 BK102.out 1).trans rfl, (Y1 BK102.out 2).trans rfl⟩ (fun hHeld => ?_)
        clear hK K
        refine Y1J (a' := ?_) ?_ ?_
        rotate_left
        ·show Act.put _ (some 26) _ = _
         simp only [Act.put, List.setIfInBounds_toArray, List.set_cons_zero, List.set_cons_succ, YI, YJ]
         rfl
        refine Y2h (i := 4) (N := some 5) (v := ?_) (a' := ?_) #[true, true, true, true, true, false] rfl rfl Z7 (fun _ _ _ h => h) (Or.inl ⟨by rfl, ?_⟩) ?_ ?_
        rotate_left
        ·intro w'
         go_simp
         with_reducible rfl
        rotate_left
        ·simp only [Act.put, List.setIfInBounds_toArray, List.set_cons_zero, List.set_cons_succ, YI, YJ]
         rfl
        refine Y2h (i := 5) (N := some 6) (v := ?_) (a' := ?_) #[true, true, true, true, true, true] rfl rfl Z7 (fun _ _ _ h => h) (Or.inl ⟨by rfl, ?_⟩) ?_ ?_
        rotate_left
        ·intro w'
         go_simp
         with_reducible rfl
        rotate_left
        ·simp only [Act.put, List.setIfInBounds_toArray, List.set_cons_zero, List.set_cons_succ, YI, YJ]
         rfl
        refine Y2g Z7 ?_
        try go_wp2_with (first | ((with_reducible refine Ya (f := 18) rfl ?_); refine Yu (some 29) rfl rfl Tryd.func18 Z7 rfl #[.string t109] rfl Z0 ?_; (with_reducible refine (Yx.calls kj2 t109 t111 t112 t113 true _ ?side1 A38.out).mono ?_); (case side1 => exact Z3); rintro e w72 ⟨rfl, hb⟩; refine ⟨_, rfl, ?_⟩; have n_ := Y1X (Y9 (g := gb101) (o := .cells #[.int .i64 a0_0, .string a0_1, .string a0_2] 24 (0, 0)) QQ hb) (Y9 (g := gb102) (o := .cells #[.int .i64 a1_0, .string a1_1, .string a1_2] 24 (0, 0)) QQ hb) (Y8 QB hb); clear BK101 BK102 HB; obtain ⟨BK101, BK102, HB⟩ := n_; (try clear hb); (try clear hb2); (try clear hk); (try clear hi)) | ((with_reducible refine Yt (N := 7) rfl ?_); (try (refine YP (by rfl) ?_; dsimp only)); refine Yp ?hg (N := 7) ?hd (cs := #[.int .i64 0, .string (⟨#[]⟩ : ByteArray), .string (⟨#[]⟩ : ByteArray)]) (t := 24) ?hr ?_; (case hd => rfl); (case hg => rfl); (case hr => exact Zb); intro gb115 hg w73 hbox hb; have n0_ := Y0.mk (Y9 (g := gb101) (o := .cells #[.int .i64 a0_0, .string a0_1, .string a0_2] 24 (0, 0)) QQ hb); have n1_ := Y0.mk (Y9 (g := gb102) (o := .cells #[.int .i64 a1_0, .string a1_1, .string a1_2] 24 (0, 0)) QQ hb); have n2_ := Y0.mk (Y8 QB hb); have n3_ := Y0.mk (hbox); have n4_ := Y0.mk ((by rw [hg]; exact (Yd QB) : w.heap.size ≤ gb115)); have n5_ := Y0.mk ((by rw [hg]; exact (Yd QB) : w.heap.size ≤ gb115)); have n6_ := Y0.mk ((by rw [hg]; exact Nat.ne_of_lt (Yy (g := gb101) (o := .cells #[.int .i64 a0_0, .string a0_1, .string a0_2] 24 (0, 0)) QQ) : gb101 ≠ gb115)); have n7_ := Y0.mk ((by rw [hg]; exact Nat.ne_of_gt (Yy (g := gb101) (o := .cells #[.int .i64 a0_0, .string a0_1, .string a0_2] 24 (0, 0)) QQ) : gb115 ≠ gb101)); have n8_ := Y0.mk ((by rw [hg]; exact Nat.ne_of_lt (Yy (g := gb102) (o := .cells #[.int .i64 a1_0, .string a1_1, .string a1_2] 24 (0, 0)) QQ) : gb102 ≠ gb115)); have n9_ := Y0.mk ((by rw [hg]; exact Nat.ne_of_gt (Yy (g := gb102) (o := .cells #[.int .i64 a1_0, .string a1_1, .string a1_2] 24 (0, 0)) QQ) : gb115 ≠ gb102)); clear BK101 BK102 HB; have BK101 := n0_; have BK102 := n1_; have HB := n2_; have BK115 := n3_; have GW115 := n4_; have GE115 := n5_; have NB101_115 := n6_; have NB115_101 := n7_; have NB102_115 := n8_; have NB115_102 := n9_; clear n0_ n1_ n2_ n3_ n4_ n5_ n6_ n7_ n8_ n9_ hb hbox hg; have hnb74 := NB115_101.out; have hnc74 := NB101_115.out; have hnb75 := NB115_102.out; have hnc75 := NB102_115.out; obtain ⟨hcz76_0, hcz76_1, hcz76_2, hfz76_0, hfz76_1, hfz76_2⟩ := Yr BK115.out))
        have n0_ : Y0 ((((w73.setCell ⟨gb115, 0, none⟩ (.int .i64 t111)).setCell ⟨gb115, 1, none⟩ (.string t112)).setCell ⟨gb115, 2, none⟩ (.string t113)).heap[gb101]? = some (.cells #[.int .i64 a0_0, .string a0_1, .string a0_2] 24 (0, 0))) := ⟨Z9⟩
        have n1_ : Y0 ((((w73.setCell ⟨gb115, 0, none⟩ (.int .i64 t111)).setCell ⟨gb115, 1, none⟩ (.string t112)).setCell ⟨gb115, 2, none⟩ (.string t113)).heap[gb102]? = some (.cells #[.int .i64 a1_0, .string a1_1, .string a1_2] 24 (0, 0))) := ⟨Za⟩
        have n2_ : Y0 ((((w73.setCell ⟨gb115, 0, none⟩ (.int .i64 t111)).setCell ⟨gb115, 1, none⟩ (.string t112)).setCell ⟨gb115, 2, none⟩ (.string t113)).heap[gb115]? = some (.cells #[.int .i64 t111, .string t112, .string t113] 24 (0, 0))) := ⟨ZM⟩
        have n3_ : Y0 (Below w.heap.size w (((w73.setCell ⟨gb115, 0, none⟩ (.int .i64 t111)).setCell ⟨gb115, 1, none⟩ (.string t112)).setCell ⟨gb115, 2, none⟩ (.string t113))) := ⟨QB⟩
        (try clear BK101)
        (try clear BK102)
        (try clear BK115)
        (try clear HB)
        generalize (((w73.setCell ⟨gb115, 0, none⟩ (.int .i64 t111)).setCell ⟨gb115, 1, none⟩ (.string t112)).setCell ⟨gb115, 2, none⟩ (.string t113)) = w77 at n0_ n1_ n2_ n3_ ⊢
        have BK101 := n0_
        have BK102 := n1_
        have BK115 := n2_
        have HB := n3_
        clear n0_ n1_ n2_ n3_
        have n_ := Y1L (Yg BK101.out) (Yg BK102.out) (Yg BK115.out) (YH HB.out)
        clear BK101
        clear BK102
        clear BK115
        clear HB
        obtain ⟨BK101, BK102, BK115, HB⟩ := n_
        refine Y1K (n := 34) (S := fun w' => w'.cell? ⟨gb101, 0, none⟩ = some (.int .i64 a0_0) ∧ w'.cell? ⟨gb101, 1, none⟩ = some (.string a0_1) ∧ w'.cell? ⟨gb101, 2, none⟩ = some (.string a0_2) ∧ w'.cell? ⟨gb102, 0, none⟩ = some (.int .i64 a1_0) ∧ w'.cell? ⟨gb102, 1, none⟩ = some (.string a1_1) ∧ w'.cell? ⟨gb102, 2, none⟩ = some (.string a1_2) ∧ w'.cell? ⟨gb115, 0, none⟩ = some (.int .i64 t111) ∧ w'.cell? ⟨gb115, 1, none⟩ = some (.string t112) ∧ w'.cell? ⟨gb115, 2, none⟩ = some (.string t113)) (ds := []) Y38 Z7 rfl rfl ⟨(Y1 BK101.out 0).trans rfl, (Y1 BK101.out 1).trans rfl, (Y1 BK101.out 2).trans rfl, (Y1 BK102.out 0).trans rfl, (Y1 BK102.out 1).trans rfl, (Y1 BK102.out 2).trans rfl, (Y1 BK115.out 0).trans rfl, (Y1 BK115.out 1).trans rfl, (Y1 BK115.out 2).trans rfl⟩ (fun hHeld => ?_); refine Y1A triviumlaw4_TermOne.tab5 triviumlaw4_TermOne.bits5 (fun HT_ HW_ => ?_)
        generalize w77.drew = w78 at BK101 BK102 BK115 HB hHeld ⊢
        refine pY 0 32 Y39 ?_
        refine pY 1 33 Y3a ?_
        refine pY 2 34 Y3b ?_
        refine pT 3 35 Y3c ?_
        refine pT 4 36 Y2r ?_
        refine pY 5 37 Y2s ?_
        refine pY 6 38 Y2t ?_
        refine pY 7 39 Y2u ?_
        refine pT 8 40 Y2a ?_
        refine pT 9 41 Y2b ?_
        refine pT 12 44 Y1Y ?_
        refine pT 13 45 Y1Z ?_
        refine pY 14 46 Y20 ?_
        refine Y2Q (i := 10) (N := some 42) Y21 rfl rfl (Y2B HT_.out Z7) (by decide) (fun K hK => ?_)
        refine Y1G Tryd.func21 Z7 rfl #[.agg #[.int .i64 a0_0, .string a0_1, .string a0_2], .agg #[.int .i64 a1_0, .string a1_1, .string a1_2]] (by rfl) rfl rfl Z0 ?_
        with_reducible refine (Y1b.calls a0_0 a0_1 a0_2 a1_0 a1_1 a1_2 t116 _ A40.out).mono ?_
        rintro e w79 ⟨rfl, hb⟩
        refine ⟨_, rfl, ?_⟩
        have n_ := Y1L (Y9 (g := gb101) (o := .cells #[.int .i64 a0_0, .string a0_1, .string a0_2] 24 (0, 0)) QQ hb) (Y9 (g := gb102) (o := .cells #[.int .i64 a1_0, .string a1_1, .string a1_2] 24 (0, 0)) QQ hb) (Y9 (g := gb115) (o := .cells #[.int .i64 t111, .string t112, .string t113] 24 (0, 0)) QQ hb) (Y8 QB hb)
        clear BK101
        clear BK102
        clear BK115
        clear HB
        obtain ⟨BK101, BK102, BK115, HB⟩ := n_
        (try clear hb)
        (try clear hb2)
        (try clear hk)
        (try clear hi)
        refine hK.out _ _ ⟨(Y1 BK101.out 0).trans rfl, (Y1 BK101.out 1).trans rfl, (Y1 BK101.out 2).trans rfl, (Y1 BK102.out 0).trans rfl, (Y1 BK102.out 1).trans rfl, (Y1 BK102.out 2).trans rfl, (Y1 BK115.out 0).trans rfl, (Y1 BK115.out 1).trans rfl, (Y1 BK115.out 2).trans rfl⟩ (fun hHeld => ?_)
        clear hK K
        refine Y1J (a' := ?_) ?_ ?_
        rotate_left
        ·show Act.put _ (some 42) _ = _
         simp only [Act.put, List.setIfInBounds_toArray, List.set_cons_zero, List.set_cons_succ, YI, YJ]
         rfl
        refine pY 11 43 Y1O ?_
        refine pY 15 47 Y1P ?_
        refine pY 16 48 Y1C ?_
        refine pY 17 49 Y1D ?_
        refine pY 18 50 Y1E ?_
        refine pY 19 51 Y1F ?_
        refine pY 20 52 Y1o ?_
        refine pT 21 53 Y1p ?_
        refine pT 22 54 Y1q ?_
        refine pY 23 55 Y1r ?_
        refine pY 24 56 Y1f ?_
        refine pY 25 57 Y1g ?_
        refine pU 26 58 Y1h ?_
        refine pU 27 59 Y1i ?_
        refine pU 28 60 Y17 ?_
        refine pY 29 61 Y18 ?_
        refine pY 30 62 Y19 ?_
        refine pU 31 63 Y1a ?_
        refine pY 32 64 YZ ?_
        refine pY 33 4 Y10 ?_
        refine Y2g (Y23 HT_.out Z7) ?_
        try go_wp2
        go_ret
        exact ZT
      ·replace c42 := Bool.eq_false_iff.mpr c42
       subst c42
       have H1 : (some false) = some r := by rw [if_neg (show ¬ (false = true) by decide)] at H; exact H
       clear H
       have H := H1
       clear H1
       obtain rfl := Option.some.inj H
       try go_wp2
       have n_ := Y1X (Yg BK101.out) (Yg BK102.out) (YH HB.out)
       clear BK101
       clear BK102
       clear HB
       obtain ⟨BK101, BK102, HB⟩ := n_
       refine Y1K (n := 6) (S := fun w' => w'.cell? ⟨gb101, 0, none⟩ = some (.int .i64 a0_0) ∧ w'.cell? ⟨gb101, 1, none⟩ = some (.string a0_1) ∧ w'.cell? ⟨gb101, 2, none⟩ = some (.string a0_2) ∧ w'.cell? ⟨gb102, 0, none⟩ = some (.int .i64 a1_0) ∧ w'.cell? ⟨gb102, 1, none⟩ = some (.string a1_1) ∧ w'.cell? ⟨gb102, 2, none⟩ = some (.string a1_2)) (ds := []) #[false, false, false, false, false, false] Z7 rfl rfl ⟨(Y1 BK101.out 0).trans rfl, (Y1 BK101.out 1).trans rfl, (Y1 BK101.out 2).trans rfl, (Y1 BK102.out 0).trans rfl, (Y1 BK102.out 1).trans rfl, (Y1 BK102.out 2).trans rfl⟩ (fun hHeld => ?_)
       generalize wc.drew = w80 at BK101 BK102 HB hHeld ⊢
       refine Y29 (i := 0) (N := some 23) (v := ?_) (a' := ?_) #[true, false, false, false, false, false] rfl rfl Z7 (fun _ _ _ h => h) (Or.inl ⟨by rfl, ?_⟩) hHeld ?_ ?_
       rotate_left
       ·rintro w' ⟨s0, s1, s2, s3, s4, s5⟩
        go_simp
        with_reducible rfl
       rotate_left
       ·simp only [Act.put, List.setIfInBounds_toArray, List.set_cons_zero, List.set_cons_succ, YI, YJ]
        rfl
       refine Y29 (i := 2) (N := some 25) (v := ?_) (a' := ?_) #[true, false, true, false, false, false] rfl rfl Z7 (fun _ _ _ h => h) (Or.inl ⟨by rfl, ?_⟩) hHeld ?_ ?_
       rotate_left
       ·rintro w' ⟨s0, s1, s2, s3, s4, s5⟩
        go_simp
        with_reducible rfl
       rotate_left
       ·simp only [Act.put, List.setIfInBounds_toArray, List.set_cons_zero, List.set_cons_succ, YI, YJ]
        rfl
       refine Y2Q (i := 1) (N := some 24) #[true, true, true, false, false, false] rfl rfl Z7 (by decide) (fun K hK => ?_)
       refine Y1G Tryd.func17 Z7 rfl #[.agg #[.int .i64 a0_0, .string a0_1, .string a0_2]] (by rfl) rfl rfl Z0 ?_
       with_reducible refine (Yj.calls a0_0 a0_1 a0_2 t109 _ A36.out).mono ?_
       rintro e w81 ⟨rfl, hb⟩
       refine ⟨_, rfl, ?_⟩
       have n_ := Y1X (Y9 (g := gb101) (o := .cells #[.int .i64 a0_0, .string a0_1, .string a0_2] 24 (0, 0)) QQ hb) (Y9 (g := gb102) (o := .cells #[.int .i64 a1_0, .string a1_1, .string a1_2] 24 (0, 0)) QQ hb) (Y8 QB hb)
       clear BK101
       clear BK102
       clear HB
       obtain ⟨BK101, BK102, HB⟩ := n_
       (try clear hb)
       (try clear hb2)
       (try clear hk)
       (try clear hi)
       refine hK.out _ _ ⟨(Y1 BK101.out 0).trans rfl, (Y1 BK101.out 1).trans rfl, (Y1 BK101.out 2).trans rfl, (Y1 BK102.out 0).trans rfl, (Y1 BK102.out 1).trans rfl, (Y1 BK102.out 2).trans rfl⟩ (fun hHeld => ?_)
       clear hK K
       refine Y1J (a' := ?_) ?_ ?_
       rotate_left
       ·show Act.put _ (some 24) _ = _
        simp only [Act.put, List.setIfInBounds_toArray, List.set_cons_zero, List.set_cons_succ, YI, YJ]
        rfl
       refine Y2Q (i := 3) (N := some 26) #[true, true, true, true, false, false] rfl rfl Z7 (by decide) (fun K hK => ?_)
       refine Y1G Tryd.func17 Z7 rfl #[.agg #[.int .i64 a1_0, .string a1_1, .string a1_2]] (by rfl) rfl rfl Z0 ?_
       with_reducible refine (Yj.calls a1_0 a1_1 a1_2 t110 _ A37.out).mono ?_
       rintro e w82 ⟨rfl, hb⟩
       refine ⟨_, rfl, ?_⟩
       have n_ := Y1X (Y9 (g := gb101) (o := .cells #[.int .i64 a0_0, .string a0_1, .string a0_2] 24 (0, 0)) QQ hb) (Y9 (g := gb102) (o := .cells #[.int .i64 a1_0, .string a1_1, .string a1_2] 24 (0, 0)) QQ hb) (Y8 QB hb)
       clear BK101
       clear BK102
       clear HB
       obtain ⟨BK101, BK102, HB⟩ := n_
       (try clear hb)
       (try clear hb2)
       (try clear hk)
       (try clear hi)
       refine hK.out _ _ ⟨(Y1 BK101.out 0).trans rfl, (Y1 BK101.out 1).trans rfl, (Y1 BK101.out 2).trans rfl, (Y1 BK102.out 0).trans rfl, (Y1 BK102.out 1).trans rfl, (Y1 BK102.out 2).trans rfl⟩ (fun hHeld => ?_)
       clear hK K
       refine Y1J (a' := ?_) ?_ ?_
       rotate_left
       ·show Act.put _ (some 26) _ = _
        simp only [Act.put, List.setIfInBounds_toArray, List.set_cons_zero, List.set_cons_succ, YI, YJ]
        rfl
       refine Y2h (i := 4) (N := some 5) (v := ?_) (a' := ?_) #[true, true, true, true, true, false] rfl rfl Z7 (fun _ _ _ h => h) (Or.inl ⟨by rfl, ?_⟩) ?_ ?_
       rotate_left
       ·intro w'
        go_simp
        with_reducible rfl
       rotate_left
       ·simp only [Act.put, List.setIfInBounds_toArray, List.set_cons_zero, List.set_cons_succ, YI, YJ]
        rfl
       refine Y2h (i := 5) (N := some 6) (v := ?_) (a' := ?_) #[true, true, true, true, true, true] rfl rfl Z7 (fun _ _ _ h => h) (Or.inl ⟨by rfl, ?_⟩) ?_ ?_
       rotate_left
       ·intro w'
        go_simp
        with_reducible rfl
       rotate_left
       ·simp only [Act.put, List.setIfInBounds_toArray, List.set_cons_zero, List.set_cons_succ, YI, YJ]
        rfl
       refine Y2g Z7 ?_
       try go_wp2_with (first | ((with_reducible refine Ya (f := 18) rfl ?_); refine Yu (some 29) rfl rfl Tryd.func18 Z7 rfl #[.string t109] rfl Z0 ?_; (with_reducible refine (Yx.calls kj2 t109 t111 t112 t113 false _ ?side1 A38.out).mono ?_); (case side1 => exact Z3); rintro e w83 ⟨rfl, hb⟩; refine ⟨_, rfl, ?_⟩; have n_ := Y1X (Y9 (g := gb101) (o := .cells #[.int .i64 a0_0, .string a0_1, .string a0_2] 24 (0, 0)) QQ hb) (Y9 (g := gb102) (o := .cells #[.int .i64 a1_0, .string a1_1, .string a1_2] 24 (0, 0)) QQ hb) (Y8 QB hb); clear BK101 BK102 HB; obtain ⟨BK101, BK102, HB⟩ := n_; (try clear hb); (try clear hb2); (try clear hk); (try clear hi)) | ((with_reducible refine Yt (N := 7) rfl ?_); (try (refine YP (by rfl) ?_; dsimp only)); refine Yp ?hg (N := 7) ?hd (cs := #[.int .i64 0, .string (⟨#[]⟩ : ByteArray), .string (⟨#[]⟩ : ByteArray)]) (t := 24) ?hr ?_; (case hd => rfl); (case hg => rfl); (case hr => exact Zb); intro gb115 hg w84 hbox hb; have n0_ := Y0.mk (Y9 (g := gb101) (o := .cells #[.int .i64 a0_0, .string a0_1, .string a0_2] 24 (0, 0)) QQ hb); have n1_ := Y0.mk (Y9 (g := gb102) (o := .cells #[.int .i64 a1_0, .string a1_1, .string a1_2] 24 (0, 0)) QQ hb); have n2_ := Y0.mk (Y8 QB hb); have n3_ := Y0.mk (hbox); have n4_ := Y0.mk ((by rw [hg]; exact (Yd QB) : w.heap.size ≤ gb115)); have n5_ := Y0.mk ((by rw [hg]; exact (Yd QB) : w.heap.size ≤ gb115)); have n6_ := Y0.mk ((by rw [hg]; exact Nat.ne_of_lt (Yy (g := gb101) (o := .cells #[.int .i64 a0_0, .string a0_1, .string a0_2] 24 (0, 0)) QQ) : gb101 ≠ gb115)); have n7_ := Y0.mk ((by rw [hg]; exact Nat.ne_of_gt (Yy (g := gb101) (o := .cells #[.int .i64 a0_0, .string a0_1, .string a0_2] 24 (0, 0)) QQ) : gb115 ≠ gb101)); have n8_ := Y0.mk ((by rw [hg]; exact Nat.ne_of_lt (Yy (g := gb102) (o := .cells #[.int .i64 a1_0, .string a1_1, .string a1_2] 24 (0, 0)) QQ) : gb102 ≠ gb115)); have n9_ := Y0.mk ((by rw [hg]; exact Nat.ne_of_gt (Yy (g := gb102) (o := .cells #[.int .i64 a1_0, .string a1_1, .string a1_2] 24 (0, 0)) QQ) : gb115 ≠ gb102)); clear BK101 BK102 HB; have BK101 := n0_; have BK102 := n1_; have HB := n2_; have BK115 := n3_; have GW115 := n4_; have GE115 := n5_; have NB101_115 := n6_; have NB115_101 := n7_; have NB102_115 := n8_; have NB115_102 := n9_; clear n0_ n1_ n2_ n3_ n4_ n5_ n6_ n7_ n8_ n9_ hb hbox hg; have hnb85 := NB115_101.out; have hnc85 := NB101_115.out; have hnb86 := NB115_102.out; have hnc86 := NB102_115.out; obtain ⟨hcz87_0, hcz87_1, hcz87_2, hfz87_0, hfz87_1, hfz87_2⟩ := Yr BK115.out))
       have n0_ : Y0 ((((w84.setCell ⟨gb115, 0, none⟩ (.int .i64 t111)).setCell ⟨gb115, 1, none⟩ (.string t112)).setCell ⟨gb115, 2, none⟩ (.string t113)).heap[gb101]? = some (.cells #[.int .i64 a0_0, .string a0_1, .string a0_2] 24 (0, 0))) := ⟨Z9⟩
       have n1_ : Y0 ((((w84.setCell ⟨gb115, 0, none⟩ (.int .i64 t111)).setCell ⟨gb115, 1, none⟩ (.string t112)).setCell ⟨gb115, 2, none⟩ (.string t113)).heap[gb102]? = some (.cells #[.int .i64 a1_0, .string a1_1, .string a1_2] 24 (0, 0))) := ⟨Za⟩
       have n2_ : Y0 ((((w84.setCell ⟨gb115, 0, none⟩ (.int .i64 t111)).setCell ⟨gb115, 1, none⟩ (.string t112)).setCell ⟨gb115, 2, none⟩ (.string t113)).heap[gb115]? = some (.cells #[.int .i64 t111, .string t112, .string t113] 24 (0, 0))) := ⟨ZM⟩
       have n3_ : Y0 (Below w.heap.size w (((w84.setCell ⟨gb115, 0, none⟩ (.int .i64 t111)).setCell ⟨gb115, 1, none⟩ (.string t112)).setCell ⟨gb115, 2, none⟩ (.string t113))) := ⟨QB⟩
       (try clear BK101)
       (try clear BK102)
       (try clear BK115)
       (try clear HB)
       generalize (((w84.setCell ⟨gb115, 0, none⟩ (.int .i64 t111)).setCell ⟨gb115, 1, none⟩ (.string t112)).setCell ⟨gb115, 2, none⟩ (.string t113)) = w88 at n0_ n1_ n2_ n3_ ⊢
       have BK101 := n0_
       have BK102 := n1_
       have BK115 := n2_
       have HB := n3_
       clear n0_ n1_ n2_ n3_
       have n_ := Y1L (Yg BK101.out) (Yg BK102.out) (Yg BK115.out) (YH HB.out)
       clear BK101
       clear BK102
       clear BK115
       clear HB
       obtain ⟨BK101, BK102, BK115, HB⟩ := n_
       refine Y1K (n := 34) (S := fun w' => w'.cell? ⟨gb101, 0, none⟩ = some (.int .i64 a0_0) ∧ w'.cell? ⟨gb101, 1, none⟩ = some (.string a0_1) ∧ w'.cell? ⟨gb101, 2, none⟩ = some (.string a0_2) ∧ w'.cell? ⟨gb102, 0, none⟩ = some (.int .i64 a1_0) ∧ w'.cell? ⟨gb102, 1, none⟩ = some (.string a1_1) ∧ w'.cell? ⟨gb102, 2, none⟩ = some (.string a1_2)) (ds := []) Y38 Z7 rfl rfl ⟨(Y1 BK101.out 0).trans rfl, (Y1 BK101.out 1).trans rfl, (Y1 BK101.out 2).trans rfl, (Y1 BK102.out 0).trans rfl, (Y1 BK102.out 1).trans rfl, (Y1 BK102.out 2).trans rfl⟩ (fun hHeld => ?_); refine Y1A triviumlaw4_TermOne.tab5 triviumlaw4_TermOne.bits5 (fun HT_ HW_ => ?_)
       generalize w88.drew = w89 at BK101 BK102 BK115 HB hHeld ⊢
       refine pY 0 32 Y39 ?_
       refine pY 1 33 Y3a ?_
       refine pY 2 34 Y3b ?_
       refine pT 3 35 Y3c ?_
       refine pT 4 36 Y2r ?_
       refine pY 5 37 Y2s ?_
       refine pY 6 38 Y2t ?_
       refine pY 7 39 Y2u ?_
       refine pT 8 40 Y2a ?_
       refine pT 9 41 Y2b ?_
       refine pT 12 44 Y1Y ?_
       refine pT 13 45 Y1Z ?_
       refine pY 14 46 Y20 ?_
       refine Y2Q (i := 10) (N := some 42) Y21 rfl rfl (Y2B HT_.out Z7) (by decide) (fun K hK => ?_)
       refine Y1G Tryd.func21 Z7 rfl #[.agg #[.int .i64 a0_0, .string a0_1, .string a0_2], .agg #[.int .i64 a1_0, .string a1_1, .string a1_2]] (by rfl) rfl rfl Z0 ?_
       with_reducible refine (Y1b.calls a0_0 a0_1 a0_2 a1_0 a1_1 a1_2 t116 _ A40.out).mono ?_
       rintro e w90 ⟨rfl, hb⟩
       refine ⟨_, rfl, ?_⟩
       have n_ := Y1L (Y9 (g := gb101) (o := .cells #[.int .i64 a0_0, .string a0_1, .string a0_2] 24 (0, 0)) QQ hb) (Y9 (g := gb102) (o := .cells #[.int .i64 a1_0, .string a1_1, .string a1_2] 24 (0, 0)) QQ hb) (Y9 (g := gb115) (o := .cells #[.int .i64 t111, .string t112, .string t113] 24 (0, 0)) QQ hb) (Y8 QB hb)
       clear BK101
       clear BK102
       clear BK115
       clear HB
       obtain ⟨BK101, BK102, BK115, HB⟩ := n_
       (try clear hb)
       (try clear hb2)
       (try clear hk)
       (try clear hi)
       refine hK.out _ _ ⟨(Y1 BK101.out 0).trans rfl, (Y1 BK101.out 1).trans rfl, (Y1 BK101.out 2).trans rfl, (Y1 BK102.out 0).trans rfl, (Y1 BK102.out 1).trans rfl, (Y1 BK102.out 2).trans rfl⟩ (fun hHeld => ?_)
       clear hK K
       refine Y1J (a' := ?_) ?_ ?_
       rotate_left
       ·show Act.put _ (some 42) _ = _
        simp only [Act.put, List.setIfInBounds_toArray, List.set_cons_zero, List.set_cons_succ, YI, YJ]
        rfl
       refine pY 11 43 Y1O ?_
       refine pY 15 47 Y1P ?_
       refine pY 16 48 Y1C ?_
       refine pY 17 49 Y1D ?_
       refine pY 18 50 Y1E ?_
       refine pY 19 51 Y1F ?_
       refine pY 20 52 Y1o ?_
       refine pU 21 53 Y1p ?_
       refine pU 22 54 Y1q ?_
       refine pU 23 55 Y1r ?_
       refine pY 24 56 Y1f ?_
       refine pY 25 57 Y1g ?_
       refine pU 26 58 Y1h ?_
       refine pU 27 59 Y1i ?_
       refine pU 28 60 Y17 ?_
       refine pY 29 61 Y18 ?_
       refine pY 30 62 Y19 ?_
       refine pU 31 63 Y1a ?_
       refine pY 32 64 YZ ?_
       refine pY 33 4 Y10 ?_
       refine Y2g (Y23 HT_.out Z7) ?_
       try go_wp2
       go_ret
       exact ZT
     ·rw [if_neg c41] at H
      have c41b0 : ((t116 == 0) == (a0_0 == a1_0 && (a0_1.toList == a1_1.toList && (a0_2.toList == a1_2.toList)))) = false := by simpa using c41
      (try (have c41b1 : (((t116 = 0) = (a0_0 = a1_0 ∧ a0_1.toList = a1_1.toList ∧ (a0_2.toList = a1_2.toList)))) = False := eq_false (by simpa using c41)))
      (try (have c41b2 : decide ((t116 == 0) = (a0_0 == a1_0 && (a0_1.toList == a1_1.toList && (a0_2.toList == a1_2.toList)))) = false := by simpa using c41))
      (try (have c41b3 : ((t116 == 0) == (a0_0 == a1_0 && (a0_1.toList == a1_1.toList && (a0_2.toList == a1_2.toList)))) = false := by simpa using c41))
      (try (have c41b4 : ¬ ((t116 == 0) = (a0_0 == a1_0 && (a0_1.toList == a1_1.toList && (a0_2.toList == a1_2.toList)))) := by simpa using c41))
      (try rw [show ((t116 == 0) == (a0_0 == a1_0 && (a0_1.toList == a1_1.toList && (a0_2.toList == a1_2.toList)))) = false from by first | simpa using c41 | simpa [show ∀ l_ : List UInt8, (l_ != ([] : List UInt8)) = !l_.isEmpty from fun l_ => by cases l_ <;> rfl, show ∀ l_ : List UInt8, (l_ == ([] : List UInt8)) = l_.isEmpty from fun l_ => by cases l_ <;> rfl] using c41])
      clear c41
      obtain rfl := Option.some.inj H
      try go_wp2
      have n_ := Y1X (Yg BK101.out) (Yg BK102.out) (YH HB.out)
      clear BK101
      clear BK102
      clear HB
      obtain ⟨BK101, BK102, HB⟩ := n_
      refine Y1K (n := 6) (S := fun w' => w'.cell? ⟨gb101, 0, none⟩ = some (.int .i64 a0_0) ∧ w'.cell? ⟨gb101, 1, none⟩ = some (.string a0_1) ∧ w'.cell? ⟨gb101, 2, none⟩ = some (.string a0_2) ∧ w'.cell? ⟨gb102, 0, none⟩ = some (.int .i64 a1_0) ∧ w'.cell? ⟨gb102, 1, none⟩ = some (.string a1_1) ∧ w'.cell? ⟨gb102, 2, none⟩ = some (.string a1_2)) (ds := []) #[false, false, false, false, false, false] Z7 rfl rfl ⟨(Y1 BK101.out 0).trans rfl, (Y1 BK101.out 1).trans rfl, (Y1 BK101.out 2).trans rfl, (Y1 BK102.out 0).trans rfl, (Y1 BK102.out 1).trans rfl, (Y1 BK102.out 2).trans rfl⟩ (fun hHeld => ?_)
      generalize wc.drew = w91 at BK101 BK102 HB hHeld ⊢
      refine Y29 (i := 0) (N := some 23) (v := ?_) (a' := ?_) #[true, false, false, false, false, false] rfl rfl Z7 (fun _ _ _ h => h) (Or.inl ⟨by rfl, ?_⟩) hHeld ?_ ?_
      rotate_left
      ·rintro w' ⟨s0, s1, s2, s3, s4, s5⟩
       go_simp
       with_reducible rfl
      rotate_left
      ·simp only [Act.put, List.setIfInBounds_toArray, List.set_cons_zero, List.set_cons_succ, YI, YJ]
       rfl
      refine Y29 (i := 2) (N := some 25) (v := ?_) (a' := ?_) #[true, false, true, false, false, false] rfl rfl Z7 (fun _ _ _ h => h) (Or.inl ⟨by rfl, ?_⟩) hHeld ?_ ?_
      rotate_left
      ·rintro w' ⟨s0, s1, s2, s3, s4, s5⟩
       go_simp
       with_reducible rfl
      rotate_left
      ·simp only [Act.put, List.setIfInBounds_toArray, List.set_cons_zero, List.set_cons_succ, YI, YJ]
       rfl
      refine Y2Q (i := 1) (N := some 24) #[true, true, true, false, false, false] rfl rfl Z7 (by decide) (fun K hK => ?_)
      refine Y1G Tryd.func17 Z7 rfl #[.agg #[.int .i64 a0_0, .string a0_1, .string a0_2]] (by rfl) rfl rfl Z0 ?_
      with_reducible refine (Yj.calls a0_0 a0_1 a0_2 t109 _ A36.out).mono ?_
      rintro e w92 ⟨rfl, hb⟩
      refine ⟨_, rfl, ?_⟩
      have n_ := Y1X (Y9 (g := gb101) (o := .cells #[.int .i64 a0_0, .string a0_1, .string a0_2] 24 (0, 0)) QQ hb) (Y9 (g := gb102) (o := .cells #[.int .i64 a1_0, .string a1_1, .string a1_2] 24 (0, 0)) QQ hb) (Y8 QB hb)
      clear BK101
      clear BK102
      clear HB
      obtain ⟨BK101, BK102, HB⟩ := n_
      (try clear hb)
      (try clear hb2)
      (try clear hk)
      (try clear hi)
      refine hK.out _ _ ⟨(Y1 BK101.out 0).trans rfl, (Y1 BK101.out 1).trans rfl, (Y1 BK101.out 2).trans rfl, (Y1 BK102.out 0).trans rfl, (Y1 BK102.out 1).trans rfl, (Y1 BK102.out 2).trans rfl⟩ (fun hHeld => ?_)
      clear hK K
      refine Y1J (a' := ?_) ?_ ?_
      rotate_left
      ·show Act.put _ (some 24) _ = _
       simp only [Act.put, List.setIfInBounds_toArray, List.set_cons_zero, List.set_cons_succ, YI, YJ]
       rfl
      refine Y2Q (i := 3) (N := some 26) #[true, true, true, true, false, false] rfl rfl Z7 (by decide) (fun K hK => ?_)
      refine Y1G Tryd.func17 Z7 rfl #[.agg #[.int .i64 a1_0, .string a1_1, .string a1_2]] (by rfl) rfl rfl Z0 ?_
      with_reducible refine (Yj.calls a1_0 a1_1 a1_2 t110 _ A37.out).mono ?_
      rintro e w93 ⟨rfl, hb⟩
      refine ⟨_, rfl, ?_⟩
      have n_ := Y1X (Y9 (g := gb101) (o := .cells #[.int .i64 a0_0, .string a0_1, .string a0_2] 24 (0, 0)) QQ hb) (Y9 (g := gb102) (o := .cells #[.int .i64 a1_0, .string a1_1, .string a1_2] 24 (0, 0)) QQ hb) (Y8 QB hb)
      clear BK101
      clear BK102
      clear HB
      obtain ⟨BK101, BK102, HB⟩ := n_
      (try clear hb)
      (try clear hb2)
      (try clear hk)
      (try clear hi)
      refine hK.out _ _ ⟨(Y1 BK101.out 0).trans rfl, (Y1 BK101.out 1).trans rfl, (Y1 BK101.out 2).trans rfl, (Y1 BK102.out 0).trans rfl, (Y1 BK102.out 1).trans rfl, (Y1 BK102.out 2).trans rfl⟩ (fun hHeld => ?_)
      clear hK K
      refine Y1J (a' := ?_) ?_ ?_
      rotate_left
      ·show Act.put _ (some 26) _ = _
       simp only [Act.put, List.setIfInBounds_toArray, List.set_cons_zero, List.set_cons_succ, YI, YJ]
       rfl
      refine Y2h (i := 4) (N := some 5) (v := ?_) (a' := ?_) #[true, true, true, true, true, false] rfl rfl Z7 (fun _ _ _ h => h) (Or.inl ⟨by rfl, ?_⟩) ?_ ?_
      rotate_left
      ·intro w'
       go_simp
       with_reducible rfl
      rotate_left
      ·simp only [Act.put, List.setIfInBounds_toArray, List.set_cons_zero, List.set_cons_succ, YI, YJ]
       rfl
      refine Y2h (i := 5) (N := some 6) (v := ?_) (a' := ?_) #[true, true, true, true, true, true] rfl rfl Z7 (fun _ _ _ h => h) (Or.inl ⟨by rfl, ?_⟩) ?_ ?_
      rotate_left
      ·intro w'
       go_simp
       with_reducible rfl
      rotate_left
      ·simp only [Act.put, List.setIfInBounds_toArray, List.set_cons_zero, List.set_cons_succ, YI, YJ]
       rfl
      refine Y2g Z7 ?_
      try go_wp2_with (first | ((with_reducible refine Ya (f := 18) rfl ?_); refine Yu (some 29) rfl rfl Tryd.func18 Z7 rfl #[.string t109] rfl Z0 ?_; (with_reducible refine (Yx.calls kj2 t109 t111 t112 t113 t114 _ ?side1 A38.out).mono ?_); (case side1 => exact Z3); rintro e w94 ⟨rfl, hb⟩; refine ⟨_, rfl, ?_⟩; have n_ := Y1X (Y9 (g := gb101) (o := .cells #[.int .i64 a0_0, .string a0_1, .string a0_2] 24 (0, 0)) QQ hb) (Y9 (g := gb102) (o := .cells #[.int .i64 a1_0, .string a1_1, .string a1_2] 24 (0, 0)) QQ hb) (Y8 QB hb); clear BK101 BK102 HB; obtain ⟨BK101, BK102, HB⟩ := n_; (try clear hb); (try clear hb2); (try clear hk); (try clear hi)) | ((with_reducible refine Yt (N := 7) rfl ?_); (try (refine YP (by rfl) ?_; dsimp only)); refine Yp ?hg (N := 7) ?hd (cs := #[.int .i64 0, .string (⟨#[]⟩ : ByteArray), .string (⟨#[]⟩ : ByteArray)]) (t := 24) ?hr ?_; (case hd => rfl); (case hg => rfl); (case hr => exact Zb); intro gb115 hg w95 hbox hb; have n0_ := Y0.mk (Y9 (g := gb101) (o := .cells #[.int .i64 a0_0, .string a0_1, .string a0_2] 24 (0, 0)) QQ hb); have n1_ := Y0.mk (Y9 (g := gb102) (o := .cells #[.int .i64 a1_0, .string a1_1, .string a1_2] 24 (0, 0)) QQ hb); have n2_ := Y0.mk (Y8 QB hb); have n3_ := Y0.mk (hbox); have n4_ := Y0.mk ((by rw [hg]; exact (Yd QB) : w.heap.size ≤ gb115)); have n5_ := Y0.mk ((by rw [hg]; exact (Yd QB) : w.heap.size ≤ gb115)); have n6_ := Y0.mk ((by rw [hg]; exact Nat.ne_of_lt (Yy (g := gb101) (o := .cells #[.int .i64 a0_0, .string a0_1, .string a0_2] 24 (0, 0)) QQ) : gb101 ≠ gb115)); have n7_ := Y0.mk ((by rw [hg]; exact Nat.ne_of_gt (Yy (g := gb101) (o := .cells #[.int .i64 a0_0, .string a0_1, .string a0_2] 24 (0, 0)) QQ) : gb115 ≠ gb101)); have n8_ := Y0.mk ((by rw [hg]; exact Nat.ne_of_lt (Yy (g := gb102) (o := .cells #[.int .i64 a1_0, .string a1_1, .string a1_2] 24 (0, 0)) QQ) : gb102 ≠ gb115)); have n9_ := Y0.mk ((by rw [hg]; exact Nat.ne_of_gt (Yy (g := gb102) (o := .cells #[.int .i64 a1_0, .string a1_1, .string a1_2] 24 (0, 0)) QQ) : gb115 ≠ gb102)); clear BK101 BK102 HB; have BK101 := n0_; have BK102 := n1_; have HB := n2_; have BK115 := n3_; have GW115 := n4_; have GE115 := n5_; have NB101_115 := n6_; have NB115_101 := n7_; have NB102_115 := n8_; have NB115_102 := n9_; clear n0_ n1_ n2_ n3_ n4_ n5_ n6_ n7_ n8_ n9_ hb hbox hg; have hnb96 := NB115_101.out; have hnc96 := NB101_115.out; have hnb97 := NB115_102.out; have hnc97 := NB102_115.out; obtain ⟨hcz98_0, hcz98_1, hcz98_2, hfz98_0, hfz98_1, hfz98_2⟩ := Yr BK115.out))
      have n0_ : Y0 ((((w95.setCell ⟨gb115, 0, none⟩ (.int .i64 t111)).setCell ⟨gb115, 1, none⟩ (.string t112)).setCell ⟨gb115, 2, none⟩ (.string t113)).heap[gb101]? = some (.cells #[.int .i64 a0_0, .string a0_1, .string a0_2] 24 (0, 0))) := ⟨Z9⟩
      have n1_ : Y0 ((((w95.setCell ⟨gb115, 0, none⟩ (.int .i64 t111)).setCell ⟨gb115, 1, none⟩ (.string t112)).setCell ⟨gb115, 2, none⟩ (.string t113)).heap[gb102]? = some (.cells #[.int .i64 a1_0, .string a1_1, .string a1_2] 24 (0, 0))) := ⟨Za⟩
      have n2_ : Y0 ((((w95.setCell ⟨gb115, 0, none⟩ (.int .i64 t111)).setCell ⟨gb115, 1, none⟩ (.string t112)).setCell ⟨gb115, 2, none⟩ (.string t113)).heap[gb115]? = some (.cells #[.int .i64 t111, .string t112, .string t113] 24 (0, 0))) := ⟨ZM⟩
      have n3_ : Y0 (Below w.heap.size w (((w95.setCell ⟨gb115, 0, none⟩ (.int .i64 t111)).setCell ⟨gb115, 1, none⟩ (.string t112)).setCell ⟨gb115, 2, none⟩ (.string t113))) := ⟨QB⟩
      (try clear BK101)
      (try clear BK102)
      (try clear BK115)
      (try clear HB)
      generalize (((w95.setCell ⟨gb115, 0, none⟩ (.int .i64 t111)).setCell ⟨gb115, 1, none⟩ (.string t112)).setCell ⟨gb115, 2, none⟩ (.string t113)) = w99 at n0_ n1_ n2_ n3_ ⊢
      have BK101 := n0_
      have BK102 := n1_
      have BK115 := n2_
      have HB := n3_
      clear n0_ n1_ n2_ n3_
      have n_ := Y1L (Yg BK101.out) (Yg BK102.out) (Yg BK115.out) (YH HB.out)
      clear BK101
      clear BK102
      clear BK115
      clear HB
      obtain ⟨BK101, BK102, BK115, HB⟩ := n_
      refine Y1K (n := 34) (S := fun w' => w'.cell? ⟨gb101, 0, none⟩ = some (.int .i64 a0_0) ∧ w'.cell? ⟨gb101, 1, none⟩ = some (.string a0_1) ∧ w'.cell? ⟨gb101, 2, none⟩ = some (.string a0_2) ∧ w'.cell? ⟨gb102, 0, none⟩ = some (.int .i64 a1_0) ∧ w'.cell? ⟨gb102, 1, none⟩ = some (.string a1_1) ∧ w'.cell? ⟨gb102, 2, none⟩ = some (.string a1_2)) (ds := []) Y38 Z7 rfl rfl ⟨(Y1 BK101.out 0).trans rfl, (Y1 BK101.out 1).trans rfl, (Y1 BK101.out 2).trans rfl, (Y1 BK102.out 0).trans rfl, (Y1 BK102.out 1).trans rfl, (Y1 BK102.out 2).trans rfl⟩ (fun hHeld => ?_); refine Y1A triviumlaw4_TermOne.tab5 triviumlaw4_TermOne.bits5 (fun HT_ HW_ => ?_)
      generalize w99.drew = w100 at BK101 BK102 BK115 HB hHeld ⊢
      refine pY 0 32 Y39 ?_
      refine pY 1 33 Y3a ?_
      refine pY 2 34 Y3b ?_
      refine pT 3 35 Y3c ?_
      refine pT 4 36 Y2r ?_
      refine pY 5 37 Y2s ?_
      refine pY 6 38 Y2t ?_
      refine pY 7 39 Y2u ?_
      refine pT 8 40 Y2a ?_
      refine pT 9 41 Y2b ?_
      refine pT 12 44 Y1Y ?_
      refine pT 13 45 Y1Z ?_
      refine pY 14 46 Y20 ?_
      refine Y2Q (i := 10) (N := some 42) Y21 rfl rfl (Y2B HT_.out Z7) (by decide) (fun K hK => ?_)
      refine Y1G Tryd.func21 Z7 rfl #[.agg #[.int .i64 a0_0, .string a0_1, .string a0_2], .agg #[.int .i64 a1_0, .string a1_1, .string a1_2]] (by rfl) rfl rfl Z0 ?_
      with_reducible refine (Y1b.calls a0_0 a0_1 a0_2 a1_0 a1_1 a1_2 t116 _ A40.out).mono ?_
      rintro e w101 ⟨rfl, hb⟩
      refine ⟨_, rfl, ?_⟩
      have n_ := Y1L (Y9 (g := gb101) (o := .cells #[.int .i64 a0_0, .string a0_1, .string a0_2] 24 (0, 0)) QQ hb) (Y9 (g := gb102) (o := .cells #[.int .i64 a1_0, .string a1_1, .string a1_2] 24 (0, 0)) QQ hb) (Y9 (g := gb115) (o := .cells #[.int .i64 t111, .string t112, .string t113] 24 (0, 0)) QQ hb) (Y8 QB hb)
      clear BK101
      clear BK102
      clear BK115
      clear HB
      obtain ⟨BK101, BK102, BK115, HB⟩ := n_
      (try clear hb)
      (try clear hb2)
      (try clear hk)
      (try clear hi)
      refine hK.out _ _ ⟨(Y1 BK101.out 0).trans rfl, (Y1 BK101.out 1).trans rfl, (Y1 BK101.out 2).trans rfl, (Y1 BK102.out 0).trans rfl, (Y1 BK102.out 1).trans rfl, (Y1 BK102.out 2).trans rfl⟩ (fun hHeld => ?_)
      clear hK K
      refine Y1J (a' := ?_) ?_ ?_
      rotate_left
      ·show Act.put _ (some 42) _ = _
       simp only [Act.put, List.setIfInBounds_toArray, List.set_cons_zero, List.set_cons_succ, YI, YJ]
       rfl
      refine pY 11 43 Y1O ?_
      refine pY 15 47 Y1P ?_
      refine pY 16 48 Y1C ?_
      refine pY 17 49 Y1D ?_
      refine pU 18 50 Y1E ?_
      refine pY 19 51 Y1F ?_
      refine pY 20 52 Y1o ?_
      refine pU 21 53 Y1p ?_
      refine pU 22 54 Y1q ?_
      refine pU 23 55 Y1r ?_
      refine pY 24 56 Y1f ?_
      refine pY 25 57 Y1g ?_
      refine pU 26 58 Y1h ?_
      refine pU 27 59 Y1i ?_
      refine pU 28 60 Y17 ?_
      refine pY 29 61 Y18 ?_
      refine pY 30 62 Y19 ?_
      refine pU 31 63 Y1a ?_
      refine pY 32 64 YZ ?_
      refine pY 33 4 Y10 ?_
      refine Y2g (Y23 HT_.out Z7) ?_
      try go_wp2
      go_ret
      exact ZT
    ·rw [if_neg c39] at H
     have c39b0 : ((t109.toList == t110.toList) == (a0_0 == a1_0 && (a0_1.toList == a1_1.toList && (a0_2.toList == a1_2.toList)))) = false := by simpa using c39
     (try (have c39b1 : (((t109.toList = t110.toList) = (a0_0 = a1_0 ∧ a0_1.toList = a1_1.toList ∧ (a0_2.toList = a1_2.toList)))) = False := eq_false (by simpa using c39)))
     (try (have c39b2 : decide ((t109.toList == t110.toList) = (a0_0 == a1_0 && (a0_1.toList == a1_1.toList && (a0_2.toList == a1_2.toList)))) = false := by simpa using c39))
     (try (have c39b3 : ((t109.toList == t110.toList) == (a0_0 == a1_0 && (a0_1.toList == a1_1.toList && (a0_2.toList == a1_2.toList)))) = false := by simpa using c39))
     (try (have c39b4 : ¬ ((t109.toList == t110.toList) = (a0_0 == a1_0 && (a0_1.toList == a1_1.toList && (a0_2.toList == a1_2.toList)))) := by simpa using c39))
     (try rw [show ((t109.toList == t110.toList) == (a0_0 == a1_0 && (a0_1.toList == a1_1.toList && (a0_2.toList == a1_2.toList)))) = false from by first | simpa using c39 | simpa [show ∀ l_ : List UInt8, (l_ != ([] : List UInt8)) = !l_.isEmpty from fun l_ => by cases l_ <;> rfl, show ∀ l_ : List UInt8, (l_ == ([] : List UInt8)) = l_.isEmpty from fun l_ => by cases l_ <;> rfl] using c39])
     clear c39
     obtain rfl := Option.some.inj H
     try go_wp2
     have n_ := Y1X (Yg BK101.out) (Yg BK102.out) (YH HB.out)
     clear BK101
     clear BK102
     clear HB
     obtain ⟨BK101, BK102, HB⟩ := n_
     refine Y1K (n := 6) (S := fun w' => w'.cell? ⟨gb101, 0, none⟩ = some (.int .i64 a0_0) ∧ w'.cell? ⟨gb101, 1, none⟩ = some (.string a0_1) ∧ w'.cell? ⟨gb101, 2, none⟩ = some (.string a0_2) ∧ w'.cell? ⟨gb102, 0, none⟩ = some (.int .i64 a1_0) ∧ w'.cell? ⟨gb102, 1, none⟩ = some (.string a1_1) ∧ w'.cell? ⟨gb102, 2, none⟩ = some (.string a1_2)) (ds := []) #[false, false, false, false, false, false] Z7 rfl rfl ⟨(Y1 BK101.out 0).trans rfl, (Y1 BK101.out 1).trans rfl, (Y1 BK101.out 2).trans rfl, (Y1 BK102.out 0).trans rfl, (Y1 BK102.out 1).trans rfl, (Y1 BK102.out 2).trans rfl⟩ (fun hHeld => ?_)
     generalize wc.drew = w102 at BK101 BK102 HB hHeld ⊢
     refine Y29 (i := 0) (N := some 23) (v := ?_) (a' := ?_) #[true, false, false, false, false, false] rfl rfl Z7 (fun _ _ _ h => h) (Or.inl ⟨by rfl, ?_⟩) hHeld ?_ ?_
     rotate_left
     ·rintro w' ⟨s0, s1, s2, s3, s4, s5⟩
      go_simp
      with_reducible rfl
     rotate_left
     ·simp only [Act.put, List.setIfInBounds_toArray, List.set_cons_zero, List.set_cons_succ, YI, YJ]
      rfl
     refine Y29 (i := 2) (N := some 25) (v := ?_) (a' := ?_) #[true, false, true, false, false, false] rfl rfl Z7 (fun _ _ _ h => h) (Or.inl ⟨by rfl, ?_⟩) hHeld ?_ ?_
     rotate_left
     ·rintro w' ⟨s0, s1, s2, s3, s4, s5⟩
      go_simp
      with_reducible rfl
     rotate_left
     ·simp only [Act.put, List.setIfInBounds_toArray, List.set_cons_zero, List.set_cons_succ, YI, YJ]
      rfl
     refine Y2Q (i := 1) (N := some 24) #[true, true, true, false, false, false] rfl rfl Z7 (by decide) (fun K hK => ?_)
     refine Y1G Tryd.func17 Z7 rfl #[.agg #[.int .i64 a0_0, .string a0_1, .string a0_2]] (by rfl) rfl rfl Z0 ?_
     with_reducible refine (Yj.calls a0_0 a0_1 a0_2 t109 _ A36.out).mono ?_
     rintro e w103 ⟨rfl, hb⟩
     refine ⟨_, rfl, ?_⟩
     have n_ := Y1X (Y9 (g := gb101) (o := .cells #[.int .i64 a0_0, .string a0_1, .string a0_2] 24 (0, 0)) QQ hb) (Y9 (g := gb102) (o := .cells #[.int .i64 a1_0, .string a1_1, .string a1_2] 24 (0, 0)) QQ hb) (Y8 QB hb)
     clear BK101
     clear BK102
     clear HB
     obtain ⟨BK101, BK102, HB⟩ := n_
     (try clear hb)
     (try clear hb2)
     (try clear hk)
     (try clear hi)
     refine hK.out _ _ ⟨(Y1 BK101.out 0).trans rfl, (Y1 BK101.out 1).trans rfl, (Y1 BK101.out 2).trans rfl, (Y1 BK102.out 0).trans rfl, (Y1 BK102.out 1).trans rfl, (Y1 BK102.out 2).trans rfl⟩ (fun hHeld => ?_)
     clear hK K
     refine Y1J (a' := ?_) ?_ ?_
     rotate_left
     ·show Act.put _ (some 24) _ = _
      simp only [Act.put, List.setIfInBounds_toArray, List.set_cons_zero, List.set_cons_succ, YI, YJ]
      rfl
     refine Y2Q (i := 3) (N := some 26) #[true, true, true, true, false, false] rfl rfl Z7 (by decide) (fun K hK => ?_)
     refine Y1G Tryd.func17 Z7 rfl #[.agg #[.int .i64 a1_0, .string a1_1, .string a1_2]] (by rfl) rfl rfl Z0 ?_
     with_reducible refine (Yj.calls a1_0 a1_1 a1_2 t110 _ A37.out).mono ?_
     rintro e w104 ⟨rfl, hb⟩
     refine ⟨_, rfl, ?_⟩
     have n_ := Y1X (Y9 (g := gb101) (o := .cells #[.int .i64 a0_0, .string a0_1, .string a0_2] 24 (0, 0)) QQ hb) (Y9 (g := gb102) (o := .cells #[.int .i64 a1_0, .string a1_1, .string a1_2] 24 (0, 0)) QQ hb) (Y8 QB hb)
     clear BK101
     clear BK102
     clear HB
     obtain ⟨BK101, BK102, HB⟩ := n_
     (try clear hb)
     (try clear hb2)
     (try clear hk)
     (try clear hi)
     refine hK.out _ _ ⟨(Y1 BK101.out 0).trans rfl, (Y1 BK101.out 1).trans rfl, (Y1 BK101.out 2).trans rfl, (Y1 BK102.out 0).trans rfl, (Y1 BK102.out 1).trans rfl, (Y1 BK102.out 2).trans rfl⟩ (fun hHeld => ?_)
     clear hK K
     refine Y1J (a' := ?_) ?_ ?_
     rotate_left
     ·show Act.put _ (some 26) _ = _
      simp only [Act.put, List.setIfInBounds_toArray, List.set_cons_zero, List.set_cons_succ, YI, YJ]
      rfl
     refine Y2h (i := 4) (N := some 5) (v := ?_) (a' := ?_) #[true, true, true, true, true, false] rfl rfl Z7 (fun _ _ _ h => h) (Or.inl ⟨by rfl, ?_⟩) ?_ ?_
     rotate_left
     ·intro w'
      go_simp
      with_reducible rfl
     rotate_left
     ·simp only [Act.put, List.setIfInBounds_toArray, List.set_cons_zero, List.set_cons_succ, YI, YJ]
      rfl
     refine Y2h (i := 5) (N := some 6) (v := ?_) (a' := ?_) #[true, true, true, true, true, true] rfl rfl Z7 (fun _ _ _ h => h) (Or.inl ⟨by rfl, ?_⟩) ?_ ?_
     rotate_left
     ·intro w'
      go_simp
      with_reducible rfl
     rotate_left
     ·simp only [Act.put, List.setIfInBounds_toArray, List.set_cons_zero, List.set_cons_succ, YI, YJ]
      rfl
     refine Y2g Z7 ?_
     try go_wp2_with (first | ((with_reducible refine Ya (f := 18) rfl ?_); refine Yu (some 29) rfl rfl Tryd.func18 Z7 rfl #[.string t109] rfl Z0 ?_; (with_reducible refine (Yx.calls kj2 t109 t111 t112 t113 t114 _ ?side1 A38.out).mono ?_); (case side1 => exact Z3); rintro e w105 ⟨rfl, hb⟩; refine ⟨_, rfl, ?_⟩; have n_ := Y1X (Y9 (g := gb101) (o := .cells #[.int .i64 a0_0, .string a0_1, .string a0_2] 24 (0, 0)) QQ hb) (Y9 (g := gb102) (o := .cells #[.int .i64 a1_0, .string a1_1, .string a1_2] 24 (0, 0)) QQ hb) (Y8 QB hb); clear BK101 BK102 HB; obtain ⟨BK101, BK102, HB⟩ := n_; (try clear hb); (try clear hb2); (try clear hk); (try clear hi)) | ((with_reducible refine Yt (N := 7) rfl ?_); (try (refine YP (by rfl) ?_; dsimp only)); refine Yp ?hg (N := 7) ?hd (cs := #[.int .i64 0, .string (⟨#[]⟩ : ByteArray), .string (⟨#[]⟩ : ByteArray)]) (t := 24) ?hr ?_; (case hd => rfl); (case hg => rfl); (case hr => exact Zb); intro gb115 hg w106 hbox hb; have n0_ := Y0.mk (Y9 (g := gb101) (o := .cells #[.int .i64 a0_0, .string a0_1, .string a0_2] 24 (0, 0)) QQ hb); have n1_ := Y0.mk (Y9 (g := gb102) (o := .cells #[.int .i64 a1_0, .string a1_1, .string a1_2] 24 (0, 0)) QQ hb); have n2_ := Y0.mk (Y8 QB hb); have n3_ := Y0.mk (hbox); have n4_ := Y0.mk ((by rw [hg]; exact (Yd QB) : w.heap.size ≤ gb115)); have n5_ := Y0.mk ((by rw [hg]; exact (Yd QB) : w.heap.size ≤ gb115)); have n6_ := Y0.mk ((by rw [hg]; exact Nat.ne_of_lt (Yy (g := gb101) (o := .cells #[.int .i64 a0_0, .string a0_1, .string a0_2] 24 (0, 0)) QQ) : gb101 ≠ gb115)); have n7_ := Y0.mk ((by rw [hg]; exact Nat.ne_of_gt (Yy (g := gb101) (o := .cells #[.int .i64 a0_0, .string a0_1, .string a0_2] 24 (0, 0)) QQ) : gb115 ≠ gb101)); have n8_ := Y0.mk ((by rw [hg]; exact Nat.ne_of_lt (Yy (g := gb102) (o := .cells #[.int .i64 a1_0, .string a1_1, .string a1_2] 24 (0, 0)) QQ) : gb102 ≠ gb115)); have n9_ := Y0.mk ((by rw [hg]; exact Nat.ne_of_gt (Yy (g := gb102) (o := .cells #[.int .i64 a1_0, .string a1_1, .string a1_2] 24 (0, 0)) QQ) : gb115 ≠ gb102)); clear BK101 BK102 HB; have BK101 := n0_; have BK102 := n1_; have HB := n2_; have BK115 := n3_; have GW115 := n4_; have GE115 := n5_; have NB101_115 := n6_; have NB115_101 := n7_; have NB102_115 := n8_; have NB115_102 := n9_; clear n0_ n1_ n2_ n3_ n4_ n5_ n6_ n7_ n8_ n9_ hb hbox hg; have hnb107 := NB115_101.out; have hnc107 := NB101_115.out; have hnb108 := NB115_102.out; have hnc108 := NB102_115.out; obtain ⟨hcz109_0, hcz109_1, hcz109_2, hfz109_0, hfz109_1, hfz109_2⟩ := Yr BK115.out))
     have n0_ : Y0 ((((w106.setCell ⟨gb115, 0, none⟩ (.int .i64 t111)).setCell ⟨gb115, 1, none⟩ (.string t112)).setCell ⟨gb115, 2, none⟩ (.string t113)).heap[gb101]? = some (.cells #[.int .i64 a0_0, .string a0_1, .string a0_2] 24 (0, 0))) := ⟨Z9⟩
     have n1_ : Y0 ((((w106.setCell ⟨gb115, 0, none⟩ (.int .i64 t111)).setCell ⟨gb115, 1, none⟩ (.string t112)).setCell ⟨gb115, 2, none⟩ (.string t113)).heap[gb102]? = some (.cells #[.int .i64 a1_0, .string a1_1, .string a1_2] 24 (0, 0))) := ⟨Za⟩
     have n2_ : Y0 ((((w106.setCell ⟨gb115, 0, none⟩ (.int .i64 t111)).setCell ⟨gb115, 1, none⟩ (.string t112)).setCell ⟨gb115, 2, none⟩ (.string t113)).heap[gb115]? = some (.cells #[.int .i64 t111, .string t112, .string t113] 24 (0, 0))) := ⟨ZM⟩
     have n3_ : Y0 (Below w.heap.size w (((w106.setCell ⟨gb115, 0, none⟩ (.int .i64 t111)).setCell ⟨gb115, 1, none⟩ (.string t112)).setCell ⟨gb115, 2, none⟩ (.string t113))) := ⟨QB⟩
     (try clear BK101)
     (try clear BK102)
     (try clear BK115)
     (try clear HB)
     generalize (((w106.setCell ⟨gb115, 0, none⟩ (.int .i64 t111)).setCell ⟨gb115, 1, none⟩ (.string t112)).setCell ⟨gb115, 2, none⟩ (.string t113)) = w110 at n0_ n1_ n2_ n3_ ⊢
     have BK101 := n0_
     have BK102 := n1_
     have BK115 := n2_
     have HB := n3_
     clear n0_ n1_ n2_ n3_
     have n_ := Y1L (Yg BK101.out) (Yg BK102.out) (Yg BK115.out) (YH HB.out)
     clear BK101
     clear BK102
     clear BK115
     clear HB
     obtain ⟨BK101, BK102, BK115, HB⟩ := n_
     refine Y1K (n := 34) (S := fun w' => w'.cell? ⟨gb101, 0, none⟩ = some (.int .i64 a0_0) ∧ w'.cell? ⟨gb101, 1, none⟩ = some (.string a0_1) ∧ w'.cell? ⟨gb101, 2, none⟩ = some (.string a0_2) ∧ w'.cell? ⟨gb102, 0, none⟩ = some (.int .i64 a1_0) ∧ w'.cell? ⟨gb102, 1, none⟩ = some (.string a1_1) ∧ w'.cell? ⟨gb102, 2, none⟩ = some (.string a1_2)) (ds := []) Y38 Z7 rfl rfl ⟨(Y1 BK101.out 0).trans rfl, (Y1 BK101.out 1).trans rfl, (Y1 BK101.out 2).trans rfl, (Y1 BK102.out 0).trans rfl, (Y1 BK102.out 1).trans rfl, (Y1 BK102.out 2).trans rfl⟩ (fun hHeld => ?_); refine Y1A triviumlaw4_TermOne.tab5 triviumlaw4_TermOne.bits5 (fun HT_ HW_ => ?_)
     generalize w110.drew = w111 at BK101 BK102 BK115 HB hHeld ⊢
     refine pY 0 32 Y39 ?_
     refine pY 1 33 Y3a ?_
     refine pY 2 34 Y3b ?_
     refine pT 3 35 Y3c ?_
     refine pT 4 36 Y2r ?_
     refine pY 5 37 Y2s ?_
     refine pY 6 38 Y2t ?_
     refine pY 7 39 Y2u ?_
     refine pU 8 40 Y2a ?_
     refine pU 9 41 Y2b ?_
     refine pU 10 42 bz34_7ff ?_
     refine pU 11 43 bz34_fff ?_
     refine pU 12 44 bz34_1fff ?_
     refine pU 13 45 bz34_3fff ?_
     refine pU 14 46 Y1O ?_
     refine pU 15 47 Y1P ?_
     refine pY 16 48 Y1C ?_
     refine pY 17 49 Y1D ?_
     refine pU 18 50 Y1E ?_
     refine pY 19 51 Y1F ?_
     refine pY 20 52 Y1o ?_
     refine pU 21 53 Y1p ?_
     refine pU 22 54 Y1q ?_
     refine pU 23 55 Y1r ?_
     refine pY 24 56 Y1f ?_
     refine pY 25 57 Y1g ?_
     refine pU 26 58 Y1h ?_
     refine pU 27 59 Y1i ?_
     refine pU 28 60 Y17 ?_
     refine pY 29 61 Y18 ?_
     refine pY 30 62 Y19 ?_
     refine pU 31 63 Y1a ?_
     refine pY 32 64 YZ ?_
     refine pY 33 4 Y10 ?_
     refine Y2g (Y23 HT_.out Z7) ?_
     try go_wp2
     go_ret
     exact ZT
end Go.Proofs.YtbpbfboaofkpaaaDoor.Print
end
section
namespace Go.Proofs.YtbpbfboaofkpaaaDoor.Print
open Go.RowKit Go.Proofs.YtbpbfboaofkpaaaDoorW.PrintWords Go.Proofs.YtbpbfboaofkpaaaDoorW.PrintLast Go.Proofs.YtbpbfboaofkpaaaDoorW.PrintMore
attribute [local go_sem] max2_int min2_int max_two min_two max_three min_three max_four min_four
set_option linter.unusedVariables false
set_option linter.unusedSimpArgs false
def YR (w0 W : World) (g : Nat) (f0 : ByteArray) (f1 : Int) (f2 : Int) (f3 : Int) : Prop := W.heap[g]? = some (.cells #[.string f0, .int .i64 f1, .int .i64 f2, .int .i64 f3] 75 (0, 0)) ∧ w0.heap.size ≤ g
theorem YR.grown {w0 W : World} {g : Nat} {f0 : ByteArray} {f1 : Int} {f2 : Int} {f3 : Int} {W1 : World} {row : Option Nat} (h : YR w0 W g f0 f1 f2 f3) (hw : W.grownBy W1 row) (hne : some g ≠ row) : YR w0 W1 g f0 f1 f2 f3 := by
 obtain ⟨hb, hg⟩ := h
 exact ⟨Y2K hb hw hne, hg⟩
theorem YR.fresh {w0 W : World} {g : Nat} {f0 : ByteArray} {f1 : Int} {f2 : Int} {f3 : Int} (h : YR w0 W g f0 f1 f2 f3) : ∀ k, W.heap.size ≤ k → k ≠ g := by
 obtain ⟨hb, hg⟩ := h
 exact Kd.freshB hb
theorem YR.kept {w0 W : World} {g : Nat} {f0 : ByteArray} {f1 : Int} {f2 : Int} {f3 : Int} {W1 : World} {S : Nat → Prop} (h : YR w0 W g f0 f1 f2 f3) (hk : Y2e W W1 S) (hne : ¬ S g) : YR w0 W1 g f0 f1 f2 f3 := by
 obtain ⟨hb, hg⟩ := h
 exact ⟨Y3p hb hk hne, hg⟩
theorem YR.below {w0 W : World} {g : Nat} {f0 : ByteArray} {f1 : Int} {f2 : Int} {f3 : Int} {W1 : World} (h : YR w0 W g f0 f1 f2 f3) (hw : Below W.heap.size W W1) : YR w0 W1 g f0 f1 f2 f3 := h.grown (Y1v hw none) (by simp)
theorem YR.alloc {w0 W : World} {g : Nat} {f0 : ByteArray} {f1 : Int} {f2 : Int} {f3 : Int} (h : YR w0 W g f0 f1 f2 f3) (o : Obj) : YR w0 (W.alloc o) g f0 f1 f2 f3 := h.below (YW (Below.refl _ _) o)
theorem YR.drewN {w0 W : World} {g : Nat} {f0 : ByteArray} {f1 : Int} {f2 : Int} {f3 : Int} (h : YR w0 W g f0 f1 f2 f3) (m : Nat) : YR w0 (W.drewN m) g f0 f1 f2 f3 := h
theorem YR.drew {w0 W : World} {g : Nat} {f0 : ByteArray} {f1 : Int} {f2 : Int} {f3 : Int} (h : YR w0 W g f0 f1 f2 f3) : YR w0 W.drew g f0 f1 f2 f3 := h
theorem YR.at_ {w0 W : World} {g : Nat} {f0 : ByteArray} {f1 : Int} {f2 : Int} {f3 : Int} {w' : World} {m : Nat} (hq : W.drewN m = w') (h : YR w0 W g f0 f1 f2 f3) : YR w0 w' g f0 f1 f2 f3 := by subst hq; exact YR.drewN h m
theorem YR.apart {w0 W : World} {g : Nat} {f0 : ByteArray} {f1 : Int} {f2 : Int} {f3 : Int} {α : Type} {d : Kd α} {e : Nat} {base : Nat} {ok : Nat → Prop} {v : Value} {xs : List α} (h : YR w0 W g f0 f1 f2 f3) (ho : d.R e W base ok v xs) (ht : ∀ q, q ∈ e :: d.E → q ≠ 75) : d.R e W base (fun k => ok k ∧ k ≠ g) v xs := by
 obtain ⟨hb, hg⟩ := h
 exact Kd.R_types ho hb ht
theorem YR.Y3h {w0 W : World} {g : Nat} {f0 : ByteArray} {f1 : Int} {f2 : Int} {f3 : Int} {α : Type} {d : Kd α} {e : Nat} {base : Nat} {ok : Nat → Prop} {v : Value} {xs : List α} (h : YR w0 W g f0 f1 f2 f3) (ho : d.R e W base ok v xs) (ht : e ≠ 75) : some g ≠ v.ownBlock := by
 obtain ⟨hb, hg⟩ := h
 exact Kd.R_ne ho hb ht
theorem YR.lt {w0 W : World} {g : Nat} {f0 : ByteArray} {f1 : Int} {f2 : Int} {f3 : Int} (h : YR w0 W g f0 f1 f2 f3) : g < W.heap.size := by
 obtain ⟨hb, hg⟩ := h
 exact Yy hb
theorem YR.ge {w0 W : World} {g : Nat} {f0 : ByteArray} {f1 : Int} {f2 : Int} {f3 : Int} (h : YR w0 W g f0 f1 f2 f3) : w0.heap.size ≤ g := by
 obtain ⟨hb, hg⟩ := h
 exact hg
theorem YR.far {w0 W : World} {g : Nat} {f0 : ByteArray} {f1 : Int} {f2 : Int} {f3 : Int} {p : Addr} (h : YR w0 W g f0 f1 f2 f3) (hne : g ≠ p.block) (u : Value) : YR w0 (W.setCell p u) g f0 f1 f2 f3 := by
 obtain ⟨hb, hg⟩ := h
 exact ⟨YQ hb hne u, hg⟩
theorem YR.set_0 {w0 W : World} {g : Nat} {f0 : ByteArray} {f1 : Int} {f2 : Int} {f3 : Int} (h : YR w0 W g f0 f1 f2 f3) (x : ByteArray) : YR w0 (W.setCell ⟨g, 0, none⟩ (.string x)) g x f1 f2 f3 := by
 obtain ⟨hb, hg⟩ := h
 exact ZF
theorem YR.set_1 {w0 W : World} {g : Nat} {f0 : ByteArray} {f1 : Int} {f2 : Int} {f3 : Int} (h : YR w0 W g f0 f1 f2 f3) (x : Int) : YR w0 (W.setCell ⟨g, 1, none⟩ (.int .i64 x)) g f0 x f2 f3 := by
 obtain ⟨hb, hg⟩ := h
 exact ⟨by simpa using Y2L hb 1 (.int .i64 x), hg⟩
def YS (w0 W : World) (g : Nat) (f0 : ByteArray) (f1 : Int) (f2 : Int) (f3 : Int) : Prop := W.heap[g]? = some (.cells #[.string f0, .int .i64 f1, .int .i64 f2, .int .i64 f3] 81 (0, 0)) ∧ w0.heap.size ≤ g
theorem YS.grown {w0 W : World} {g : Nat} {f0 : ByteArray} {f1 : Int} {f2 : Int} {f3 : Int} {W1 : World} {row : Option Nat} (h : YS w0 W g f0 f1 f2 f3) (hw : W.grownBy W1 row) (hne : some g ≠ row) : YS w0 W1 g f0 f1 f2 f3 := by
 obtain ⟨hb, hg⟩ := h
 exact ⟨Y2K hb hw hne, hg⟩
theorem YS.fresh {w0 W : World} {g : Nat} {f0 : ByteArray} {f1 : Int} {f2 : Int} {f3 : Int} (h : YS w0 W g f0 f1 f2 f3) : ∀ k, W.heap.size ≤ k → k ≠ g := by
 obtain ⟨hb, hg⟩ := h
 exact Kd.freshB hb
theorem YS.kept {w0 W : World} {g : Nat} {f0 : ByteArray} {f1 : Int} {f2 : Int} {f3 : Int} {W1 : World} {S : Nat → Prop} (h : YS w0 W g f0 f1 f2 f3) (hk : Y2e W W1 S) (hne : ¬ S g) : YS w0 W1 g f0 f1 f2 f3 := by
 obtain ⟨hb, hg⟩ := h
 exact ⟨Y3p hb hk hne, hg⟩
theorem YS.below {w0 W : World} {g : Nat} {f0 : ByteArray} {f1 : Int} {f2 : Int} {f3 : Int} {W1 : World} (h : YS w0 W g f0 f1 f2 f3) (hw : Below W.heap.size W W1) : YS w0 W1 g f0 f1 f2 f3 := h.grown (Y1v hw none) (by simp)
theorem YS.alloc {w0 W : World} {g : Nat} {f0 : ByteArray} {f1 : Int} {f2 : Int} {f3 : Int} (h : YS w0 W g f0 f1 f2 f3) (o : Obj) : YS w0 (W.alloc o) g f0 f1 f2 f3 := h.below (YW (Below.refl _ _) o)
theorem YS.drewN {w0 W : World} {g : Nat} {f0 : ByteArray} {f1 : Int} {f2 : Int} {f3 : Int} (h : YS w0 W g f0 f1 f2 f3) (m : Nat) : YS w0 (W.drewN m) g f0 f1 f2 f3 := h
theorem YS.drew {w0 W : World} {g : Nat} {f0 : ByteArray} {f1 : Int} {f2 : Int} {f3 : Int} (h : YS w0 W g f0 f1 f2 f3) : YS w0 W.drew g f0 f1 f2 f3 := h
theorem YS.at_ {w0 W : World} {g : Nat} {f0 : ByteArray} {f1 : Int} {f2 : Int} {f3 : Int} {w' : World} {m : Nat} (hq : W.drewN m = w') (h : YS w0 W g f0 f1 f2 f3) : YS w0 w' g f0 f1 f2 f3 := by subst hq; exact YS.drewN h m
theorem YS.apart {w0 W : World} {g : Nat} {f0 : ByteArray} {f1 : Int} {f2 : Int} {f3 : Int} {α : Type} {d : Kd α} {e : Nat} {base : Nat} {ok : Nat → Prop} {v : Value} {xs : List α} (h : YS w0 W g f0 f1 f2 f3) (ho : d.R e W base ok v xs) (ht : ∀ q, q ∈ e :: d.E → q ≠ 81) : d.R e W base (fun k => ok k ∧ k ≠ g) v xs := by
 obtain ⟨hb, hg⟩ := h
 exact Kd.R_types ho hb ht
theorem YS.Y3h {w0 W : World} {g : Nat} {f0 : ByteArray} {f1 : Int} {f2 : Int} {f3 : Int} {α : Type} {d : Kd α} {e : Nat} {base : Nat} {ok : Nat → Prop} {v : Value} {xs : List α} (h : YS w0 W g f0 f1 f2 f3) (ho : d.R e W base ok v xs) (ht : e ≠ 81) : some g ≠ v.ownBlock := by
 obtain ⟨hb, hg⟩ := h
 exact Kd.R_ne ho hb ht
theorem YS.lt {w0 W : World} {g : Nat} {f0 : ByteArray} {f1 : Int} {f2 : Int} {f3 : Int} (h : YS w0 W g f0 f1 f2 f3) : g < W.heap.size := by
 obtain ⟨hb, hg⟩ := h
 exact Yy hb
theorem YS.ge {w0 W : World} {g : Nat} {f0 : ByteArray} {f1 : Int} {f2 : Int} {f3 : Int} (h : YS w0 W g f0 f1 f2 f3) : w0.heap.size ≤ g := by
 obtain ⟨hb, hg⟩ := h
 exact hg
theorem YS.far {w0 W : World} {g : Nat} {f0 : ByteArray} {f1 : Int} {f2 : Int} {f3 : Int} {p : Addr} (h : YS w0 W g f0 f1 f2 f3) (hne : g ≠ p.block) (u : Value) : YS w0 (W.setCell p u) g f0 f1 f2 f3 := by
 obtain ⟨hb, hg⟩ := h
 exact ⟨YQ hb hne u, hg⟩
theorem YS.set_0 {w0 W : World} {g : Nat} {f0 : ByteArray} {f1 : Int} {f2 : Int} {f3 : Int} (h : YS w0 W g f0 f1 f2 f3) (x : ByteArray) : YS w0 (W.setCell ⟨g, 0, none⟩ (.string x)) g x f1 f2 f3 := by
 obtain ⟨hb, hg⟩ := h
 exact ZF
theorem YS.set_1 {w0 W : World} {g : Nat} {f0 : ByteArray} {f1 : Int} {f2 : Int} {f3 : Int} (h : YS w0 W g f0 f1 f2 f3) (x : Int) : YS w0 (W.setCell ⟨g, 1, none⟩ (.int .i64 x)) g f0 x f2 f3 := by
 obtain ⟨hb, hg⟩ := h
 exact ⟨by simpa using Y2L hb 1 (.int .i64 x), hg⟩
end Go.Proofs.YtbpbfboaofkpaaaDoor.Print
end
section
set_option linter.unusedVariables false
set_option linter.unusedSimpArgs false
namespace Go.Proofs.YtbpbfboaofkpaaaDoor.Print
open Go.RowKit Go.Shelf Go.Lib Go.Proofs.YtbpbfboaofkpaaaDoorW.PrintWords
def Suf (s : ByteArray) (l : List UInt8) : Prop := ∃ pre, s.data.toList = pre ++ l
def ps (s : ByteArray) (l : List UInt8) : Int := (s.size : Int) - (l.length : Int)
def hd : List UInt8 → Int
 | [] => 0
 | c :: _ => (c.toNat : Int)
def skip : List UInt8 → List UInt8
 | [] => []
 | c :: l => if c = 32 then skip l else c :: l
theorem Suf.tail {s : ByteArray} {c : UInt8} {l : List UInt8} (h : Suf s (c :: l)) : Suf s l := by
 obtain ⟨pre, h⟩ := h
 exact ⟨pre ++ [c], by simpa using h⟩
theorem Suf.app {s : ByteArray} {t l : List UInt8} (h : Suf s (t ++ l)) : Suf s l := by
 obtain ⟨pre, h⟩ := h
 exact ⟨pre ++ t, by simpa using h⟩
theorem Suf.skip {s : ByteArray} : ∀ {l : List UInt8}, Suf s l → Suf s (skip l)
 | [], h => h
 | c :: l, h => by
  unfold Print.skip
  by_cases e : c = 32
  ·rw [if_pos e]; exact Suf.skip h.tail
  ·rw [if_neg e]; exact h
theorem Suf.len {s : ByteArray} {l : List UInt8} (h : Suf s l) : l.length ≤ s.size := by
 obtain ⟨pre, h⟩ := h
 have := congrArg List.length h
 rw [Array.length_toList, List.length_append] at this
 have e : s.size = s.data.size := rfl
 omega
theorem Suf.whole (s : ByteArray) : Suf s s.data.toList := ⟨[], rfl⟩
theorem Y2d (s : ByteArray) : ps s s.data.toList = 0 := by
 unfold ps
 rw [Array.length_toList]
 have e : s.size = s.data.size := rfl
 omega
theorem Suf.ps0 {s : ByteArray} {l : List UInt8} (h : Suf s l) : 0 ≤ ps s l := by
 have := h.len; unfold ps; omega
theorem Y3i (s : ByteArray) : ps s [] = s.size := by simp [ps]
theorem Y3A (s : ByteArray) (c : UInt8) (l : List UInt8) : ps s (c :: l) < s.size := by simp [ps]; omega
theorem ps_le (s : ByteArray) (l : List UInt8) : ps s l ≤ s.size := by unfold ps; omega
theorem Y26 {s : ByteArray} (hs : s.size ≤ 100000000) {c : UInt8} {l : List UInt8} (h : Suf s (c :: l)) : wrap64 (ps s (c :: l) + 1) = ps s l := by
 have := h.len
 simp only [List.length_cons] at this
 unfold ps wrap64
 simp only [List.length_cons]
 omega
theorem Y3q {s : ByteArray} {c : UInt8} {l : List UInt8} (h : Suf s (c :: l)) : bt s (ps s (c :: l)) = (c.toNat : Int) := by
 obtain ⟨pre, h⟩ := h
 have hl := congrArg List.length h
 rw [Array.length_toList, List.length_append, List.length_cons] at hl
 have e : s.size = s.data.size := rfl
 have hp : (ps s (c :: l)).toNat = pre.length := by unfold ps; simp only [List.length_cons]; omega
 have hlt : (ps s (c :: l)).toNat < s.size := by omega
 unfold bt
 rw [dif_pos hlt]
 have hlt2 : (ps s (c :: l)).toNat < s.data.toList.length := by rw [Array.length_toList]; omega
 have : s[(ps s (c :: l)).toNat] = s.data.toList[(ps s (c :: l)).toNat] := rfl
 rw [this]
 simp [h, hp]
theorem u8_eq {c : UInt8} {n : Nat} (h : n < 256) : ((c.toNat : Int) = (n : Int)) ↔ c = UInt8.ofNat n := by
 constructor
 ·intro e
  apply UInt8.toNat_inj.mp
  rw [UInt8.toNat_ofNat']
  omega
 ·intro e
  rw [e, UInt8.toNat_ofNat']
  omega
def upGt : List UInt8 → Option (List UInt8 × List UInt8)
 | [] => none
 | c :: l => if c = 62 then some ([], l) else (upGt l).map fun x => (c :: x.1, x.2)
def iriR (l : List UInt8) : Option (ByteArray × List UInt8) :=
 match skip l with
 | [] => none
 | c :: r => if c = 60 then
   match upGt r with
   | none => none
   | some (t, l1) => if Y3f ⟨t.toArray⟩ then some (⟨t.toArray⟩, l1) else none
  else none
theorem Y2E {s : ByteArray} {r : List UInt8} (h : Suf s r) : (s.extract (ps s r).toNat s.size).data.toList = r := by
 obtain ⟨pre, h⟩ := h
 have hl := congrArg List.length h
 rw [Array.length_toList, List.length_append] at hl
 have e : s.size = s.data.size := rfl
 have hp : (ps s r).toNat = pre.length := by unfold ps; omega
 rw [hp, ByteArray.data_extract, Array.toList_extract, h]
 rw [List.extract_eq_take_drop]
 simp
 apply List.take_of_length_le
 omega
theorem YX {a b : ByteArray} (h : a.data.toList = b.data.toList) : a = b := by
 cases a; cases b
 congr
 exact Array.toList_inj.mp h
theorem Y1c (a : ByteArray) : a.data.toList.length = a.size := by rw [Array.length_toList]; rfl
theorem Y4l {s : ByteArray} {t l1 : List UInt8} {r : List UInt8} (h : Suf s r) (hr : r = t ++ l1) : (s.extract (ps s r).toNat (ps s l1).toNat) = ⟨t.toArray⟩ := by
 apply YX
 obtain ⟨pre, h⟩ := h
 have hl := congrArg List.length h
 rw [Array.length_toList, List.length_append] at hl
 have e : s.size = s.data.size := rfl
 have hrl := congrArg List.length hr
 rw [List.length_append] at hrl
 have hp : (ps s r).toNat = pre.length := by unfold ps; omega
 have hp2 : (ps s l1).toNat = pre.length + t.length := by unfold ps; omega
 rw [hp, hp2, ByteArray.data_extract, Array.toList_extract, h, hr]
 rw [List.extract_eq_take_drop]
 simp
theorem Ev.up {α : Type} {g : Nat → Option α} {r : α} (h : Ev (fun k => g (k + 1)) r) : Ev g r := Ev.step (fun _ => rfl) h
inductive Res where
 | ok (p : S37) (l : List UInt8)
 | bad (c : Int) (l : List UInt8)
inductive NT where
 | path | pathL (p : S37) | seq | seqL (p : S37) | step | stepL (p : S37) | back | nt | notL (ts : List ByteArray)
def pK (k : Int) (l : List S37) : S37 := ⟨k, ⟨#[]⟩, [], l⟩
def pIri (t : ByteArray) : S37 := ⟨1, t, [], []⟩
def pNot (l : List ByteArray) : S37 := ⟨8, ⟨#[]⟩, l, []⟩
def signK (n : Int) : Int := if n = 42 then 5 else if n = 43 then 6 else 7
inductive P : NT → Nat → List UInt8 → Res → Prop
 | path_ok {d l p l1 res} : P .seq d l (.ok p l1) → P (.pathL p) d l1 res → P .path d l res
 | path_bad {d l c lb} : P .seq d l (.bad c lb) → P .path d l (.bad c lb)
 | pathL_more {d p l r q l1 res} : skip l = 124 :: r → P .seq d r (.ok q l1) → P (.pathL (pK 4 [p, q])) d l1 res → P (.pathL p) d l res
 | pathL_bad {d p l r c lb} : skip l = 124 :: r → P .seq d r (.bad c lb) → P (.pathL p) d l (.bad c lb)
 | pathL_end {d p l} : hd (skip l) ≠ 124 → P (.pathL p) d l (.ok p (skip l))
 | seq_ok {d l p l1 res} : P .step d l (.ok p l1) → P (.seqL p) d l1 res → P .seq d l res
 | seq_bad {d l c lb} : P .step d l (.bad c lb) → P .seq d l (.bad c lb)
 | seqL_more {d p l r q l1 res} : skip l = 47 :: r → P .step d r (.ok q l1) → P (.seqL (pK 3 [p, q])) d l1 res → P (.seqL p) d l res
 | seqL_bad {d p l r c lb} : skip l = 47 :: r → P .step d r (.bad c lb) → P (.seqL p) d l (.bad c lb)
 | seqL_end {d p l} : hd (skip l) ≠ 47 → P (.seqL p) d l (.ok p (skip l))
 | step_ok {d l p l1 res} : P .back d l (.ok p l1) → P (.stepL p) d l1 res → P .step d l res
 | step_bad {d l c lb} : P .back d l (.bad c lb) → P .step d l (.bad c lb)
 | stepL_more {d p l c r res} : skip l = c :: r → (c = 42 ∨ c = 43 ∨ c = 63) → P (.stepL (pK (signK c.toNat) [p])) d r res → P (.stepL p) d l res
 | stepL_end {d p l} : hd (skip l) ≠ 42 → hd (skip l) ≠ 43 → hd (skip l) ≠ 63 → P (.stepL p) d l (.ok p (skip l))
 | up_ok {d l r p l1} : skip l = 94 :: r → d < 5 → P .back (d + 1) r (.ok p l1) → P .back d l (.ok (pK 2 [p]) l1)
 | up_bad {d l r c lb} : skip l = 94 :: r → d < 5 → P .back (d + 1) r (.bad c lb) → P .back d l (.bad c lb)
 | full {d l c r} : skip l = c :: r → (c = 94 ∨ c = 40) → 5 ≤ d → P .back d l (.bad 3 (skip l))
 | iri_ok {d l r t l1} : skip l = 60 :: r → iriR l = some (t, l1) → P .back d l (.ok (pIri t) l1)
 | iri_bad {d l r} : skip l = 60 :: r → iriR l = none → P .back d l (.bad 2 (skip l))
 | not_ {d l r res} : skip l = 33 :: r → P .nt d r res → P .back d l res
 | br_ok {d l r p l1 r1} : skip l = 40 :: r → d < 5 → P .path (d + 1) r (.ok p l1) → skip l1 = 41 :: r1 → P .back d l (.ok p r1)
 | br_bad {d l r c lb} : skip l = 40 :: r → d < 5 → P .path (d + 1) r (.bad c lb) → P .back d l (.bad c lb)
 | br_open {d l r p l1} : skip l = 40 :: r → d < 5 → P .path (d + 1) r (.ok p l1) → hd (skip l1) ≠ 41 → P .back d l (.bad 2 (skip l1))
 | other {d l} : hd (skip l) ≠ 94 → hd (skip l) ≠ 60 → hd (skip l) ≠ 33 → hd (skip l) ≠ 40 → P .back d l (.bad 2 (skip l))
 | nt_one {d l t l1} : hd l ≠ 40 → iriR l = some (t, l1) → P .nt d l (.ok (pNot [t]) l1)
 | nt_one_bad {d l} : hd l ≠ 40 → iriR l = none → P .nt d l (.bad 2 (skip l))
 | nt_br {d r t l1 res} : iriR r = some (t, l1) → P (.notL [t]) d l1 res → P .nt d (40 :: r) res
 | nt_br_bad {d r} : iriR r = none → P .nt d (40 :: r) (.bad 2 (skip r))
 | notL_more {d ts l r t l1 res} : skip l = 124 :: r → iriR r = some (t, l1) → P (.notL (ts ++ [t])) d l1 res → P (.notL ts) d l res
 | notL_bad {d ts l r} : skip l = 124 :: r → iriR r = none → P (.notL ts) d l (.bad 2 (skip r))
 | notL_end {d ts l r} : skip l = 41 :: r → P (.notL ts) d l (.ok (pNot ts) r)
 | notL_open {d ts l} : hd (skip l) ≠ 124 → hd (skip l) ≠ 41 → P (.notL ts) d l (.bad 2 (skip l))
def Le (l : List UInt8) : Res → Prop
 | .ok _ l1 => l1.length ≤ l.length
 | .bad _ _ => True
theorem Le.up {l l' : List UInt8} {res : Res} (h : Le l' res) (hl : l'.length ≤ l.length) : Le l res := by
 cases res
 ·exact Nat.le_trans h hl
 ·trivial
inductive Ans where
 | ok (p : S37)
 | bad (c at_ : Int)
inductive Whole (s : ByteArray) : Ans → Prop
 | long : s.size > 600 → Whole s (.bad 4 0)
 | ok {p l} : s.size ≤ 600 → P .path 0 s.data.toList (.ok p l) → skip l = [] → Whole s (.ok p)
 | bad {c lb} : s.size ≤ 600 → P .path 0 s.data.toList (.bad c lb) → Whole s (.bad c (ps s lb))
 | rest {p l} : s.size ≤ 600 → P .path 0 s.data.toList (.ok p l) → skip l ≠ [] → Whole s (.bad 2 (ps s (skip l)))
theorem tl_inj {a b : ByteArray} : a.toList = b.toList ↔ a = b := by
 rw [Lib.toList_data, Lib.toList_data]
 exact ⟨YX, fun h => by rw [h]⟩
inductive Small : Nat → S37 → Prop
 | mk {m a b c d} : b.size ≤ 300 → c.length ≤ 20 → (∀ x ∈ c, x.size ≤ 300) → d.length ≤ 4 → (∀ q ∈ d, Small m q) → Small (m + 1) ⟨a, b, c, d⟩
theorem dec_cont (s : ByteArray) (i k : Nat) (h1 : 1 ≤ k) (h2 : k < (Utf8.decode s i).2) : (s.get! (i + k)).toNat / 64 = 2 := by
 unfold Utf8.decode at h2
 simp only at h2
 split at h2
 ·simp at h2; omega
 split at h2
 ·rename_i _ hc
  simp only [Bool.and_eq_true, beq_iff_eq, decide_eq_true_eq] at hc
  have e : k = 1 := by split at h2 <;> simp at h2 <;> omega
  rw [e]; exact hc.2.2
 split at h2
 ·rename_i _ _ hc
  simp only [Bool.and_eq_true, beq_iff_eq, decide_eq_true_eq] at hc
  have e : k = 1 ∨ k = 2 := by split at h2 <;> simp at h2 <;> omega
  rcases e with rfl | rfl
  ·exact hc.1.2.2
  ·exact hc.2.2
 split at h2
 ·rename_i _ _ _ hc
  simp only [Bool.and_eq_true, beq_iff_eq, decide_eq_true_eq] at hc
  have e : k = 1 ∨ k = 2 ∨ k = 3 := by split at h2 <;> simp at h2 <;> omega
  rcases e with rfl | rfl | rfl
  ·exact hc.1.1.2.2
  ·exact hc.1.2.2
  ·exact hc.2.2
 ·simp at h2; omega
theorem dec_pos (s : ByteArray) (i : Nat) : 1 ≤ (Utf8.decode s i).2 := by
 unfold Utf8.decode
 simp only
 repeat' split
 all_goals simp
theorem Y4o (p : Nat → Bool) (s : ByteArray) : ∀ (b i j : Nat), i ≤ j → j < s.size → s.size - i ≤ b → (s.get! j).toNat < 128 → (Y1j s b i).all p = true → p (s.get! j).toNat = true
 | 0, i, j, h1, h2, h3, h4, h5 => by omega
 | b + 1, i, j, h1, h2, h3, h4, h5 => by
  unfold Y1j at h5
  rw [if_pos (by omega), List.all_cons, Bool.and_eq_true] at h5
  by_cases e : j = i
  ·subst e
   have : Utf8.decode s j = ((s.get! j).toNat, 1) := by
    unfold Utf8.decode
    simp only [Nat.add_zero]
    rw [if_pos h4]
   rw [this] at h5
   exact h5.1
  ·by_cases h6 : i + (Utf8.decode s i).2 ≤ j
   ·exact Y4o p s b _ j h6 h2 (by have := dec_pos s i; omega) h4 h5.2
   ·have := dec_cont s i (j - i) (by omega) (by omega)
    rw [show i + (j - i) = j by omega] at this
    omega
theorem iri_no {t : ByteArray} (h : Y3f t = true) (c : UInt8) (hc : c.toNat < 128) (hp : YG c.toNat = false) : ¬ c ∈ t.data.toList := by
 intro hm
 obtain ⟨j, hj, he⟩ := List.getElem_of_mem hm
 rw [Y1c] at hj
 unfold Y3f at h
 simp only [Bool.and_eq_true, decide_eq_true_eq] at h
 have h2 := h.2
 rw [Y2J] at h2
 have hj2 : j < t.data.size := hj
 have hg : t.get! j = c := by
  rw [← he]
  show t.data[j]! = _
  rw [getElem!_pos t.data j hj2]
  simp
 have := Y4o YG t t.size 0 j (by omega) hj (by omega) (by rw [hg]; exact hc) h2
 rw [hg, hp] at this
 cases this
theorem len2 {l : List UInt8} (h : 1 < l.length) : ∃ a b t, l = a :: b :: t := by
 match l, h with
 | a :: b :: t, _ => exact ⟨a, b, t, rfl⟩
theorem len3 {l : List UInt8} (h : 2 < l.length) : ∃ a b c t, l = a :: b :: c :: t := by
 match l, h with
 | a :: b :: c :: t, _ => exact ⟨a, b, c, t, rfl⟩
theorem len4 {l : List UInt8} (h : 3 < l.length) : ∃ a b c d t, l = a :: b :: c :: d :: t := by
 match l, h with
 | a :: b :: c :: d :: t, _ => exact ⟨a, b, c, d, t, rfl⟩
set_option maxRecDepth 100000 in
theorem dec_more {l : List UInt8} {r w : Nat} (h : decodeL l = (r, w)) (hh : 128 ≤ (l.getD 0 0).toNat) (ok : ¬ (r = 65533 ∧ w = 1)) :
  (w = 2 ∧ ∃ a b t, l = a :: b :: t ∧ 128 ≤ a.toNat ∧ 128 ≤ b.toNat ∧ ∀ y, decodeL (a :: b :: y) = (r, 2)) ∨
  (w = 3 ∧ ∃ a b c t, l = a :: b :: c :: t ∧ 128 ≤ a.toNat ∧ 128 ≤ b.toNat ∧ 128 ≤ c.toNat ∧ ∀ y, decodeL (a :: b :: c :: y) = (r, 3)) ∨
  (w = 4 ∧ ∃ a b c d t, l = a :: b :: c :: d :: t ∧ 128 ≤ a.toNat ∧ 128 ≤ b.toNat ∧ 128 ≤ c.toNat ∧ 128 ≤ d.toNat ∧ ∀ y, decodeL (a :: b :: c :: d :: y) = (r, 4)) := by
 rw [decodeL_N] at h
 unfold decodeN at h
 rw [if_neg (by omega)] at h
 by_cases h2 : (l.getD 0 0).toNat / 32 = 6 ∧ 1 < l.length ∧ (l.getD 1 0).toNat / 64 = 2
 ·rw [if_pos h2] at h
  obtain ⟨a, b, t, rfl⟩ := len2 h2.2.1
  obtain ⟨e1, _, e2⟩ := h2
  ·simp only [List.getD_cons_zero, List.getD_cons_succ] at h e1 e2 hh
   split at h
   ·rename_i hc
    simp only [Prod.mk.injEq] at h
    obtain ⟨rfl, rfl⟩ := h
    refine .inl ⟨rfl, a, b, t, rfl, hh, by omega, fun y => ?_⟩
    rw [decodeL_N]
    simp only [List.getD_cons_zero, List.getD_cons_succ, List.length_cons]
    unfold decodeN
    rw [if_neg (by omega), if_pos ⟨e1, by omega, e2⟩, if_pos hc]
   ·simp only [Prod.mk.injEq] at h; exact absurd ⟨h.1.symm, h.2.symm⟩ ok
 ·rw [if_neg h2] at h
  by_cases h3 : (l.getD 0 0).toNat / 16 = 14 ∧ (1 < l.length ∧ (l.getD 1 0).toNat / 64 = 2) ∧ (2 < l.length ∧ (l.getD 2 0).toNat / 64 = 2)
  ·rw [if_pos h3] at h
   obtain ⟨a, b, c, t, rfl⟩ := len3 h3.2.2.1
   obtain ⟨e1, ⟨_, e2⟩, ⟨_, e3⟩⟩ := h3
   ·simp only [List.getD_cons_zero, List.getD_cons_succ] at h e1 e2 e3 hh
    split at h
    ·rename_i hc
     simp only [Prod.mk.injEq] at h
     obtain ⟨rfl, rfl⟩ := h
     refine .inr (.inl ⟨rfl, a, b, c, t, rfl, hh, by omega, by omega, fun y => ?_⟩)
     rw [decodeL_N]
     simp only [List.getD_cons_zero, List.getD_cons_succ, List.length_cons]
     unfold decodeN
     rw [if_neg (by omega), if_neg (by omega), if_pos ⟨e1, ⟨by omega, e2⟩, by omega, e3⟩, if_pos hc]
    ·simp only [Prod.mk.injEq] at h; exact absurd ⟨h.1.symm, h.2.symm⟩ ok
  ·rw [if_neg h3] at h
   by_cases h4 : (l.getD 0 0).toNat / 8 = 30 ∧ (1 < l.length ∧ (l.getD 1 0).toNat / 64 = 2) ∧ (2 < l.length ∧ (l.getD 2 0).toNat / 64 = 2) ∧ (3 < l.length ∧ (l.getD 3 0).toNat / 64 = 2)
   ·rw [if_pos h4] at h
    obtain ⟨a, b, c, d, t, rfl⟩ := len4 h4.2.2.2.1
    obtain ⟨e1, ⟨_, e2⟩, ⟨_, e3⟩, ⟨_, e4⟩⟩ := h4
    ·simp only [List.getD_cons_zero, List.getD_cons_succ] at h e1 e2 e3 e4 hh
     split at h
     ·rename_i hc
      simp only [Prod.mk.injEq] at h
      obtain ⟨rfl, rfl⟩ := h
      refine .inr (.inr ⟨rfl, a, b, c, d, t, rfl, hh, by omega, by omega, by omega, fun y => ?_⟩)
      rw [decodeL_N]
      simp only [List.getD_cons_zero, List.getD_cons_succ, List.length_cons]
      unfold decodeN
      rw [if_neg (by omega), if_neg (by omega), if_neg (by omega), if_pos ⟨e1, ⟨by omega, e2⟩, ⟨by omega, e3⟩, by omega, e4⟩, if_pos hc]
     ·simp only [Prod.mk.injEq] at h; exact absurd ⟨h.1.symm, h.2.symm⟩ ok
   ·rw [if_neg h4] at h
    simp only [Prod.mk.injEq] at h
    exact absurd ⟨h.1.symm, h.2.symm⟩ ok
theorem Y1B {c : UInt8} (h : 128 ≤ c.toNat) : Y24 c = [c] := by
 have n34 : c ≠ 34 := fun e => by rw [e] at h; exact absurd h (by decide)
 have n92 : c ≠ 92 := fun e => by rw [e] at h; exact absurd h (by decide)
 have n10 : c ≠ 10 := fun e => by rw [e] at h; exact absurd h (by decide)
 have n13 : c ≠ 13 := fun e => by rw [e] at h; exact absurd h (by decide)
 have n9 : c ≠ 9 := fun e => by rw [e] at h; exact absurd h (by decide)
 have n8 : c ≠ 8 := fun e => by rw [e] at h; exact absurd h (by decide)
 have n12 : c ≠ 12 := fun e => by rw [e] at h; exact absurd h (by decide)
 unfold Y24
 rw [if_neg n34, if_neg n92, if_neg n10, if_neg n13, if_neg n9, if_neg n8, if_neg n12, if_neg (by omega)]
theorem Y47 : ∀ n : Fin 128, ∀ b ∈ Y24 (UInt8.ofNat n.val), b.toNat < 128 := by decide +kernel
theorem esc_low {c : UInt8} (h : c.toNat < 128) : ∀ b ∈ Y24 c, b.toNat < 128 := by
 have := Y47 ⟨c.toNat, h⟩
 simpa using this
theorem Y2U : ∀ (p l : List UInt8), (∀ b ∈ p, b.toNat < 128) → validD (p ++ l) = validD l
 | [], l, _ => rfl
 | c :: p, l, h => by
  rw [List.cons_append, validD_cons c _ (h c (List.mem_cons_self ..)), Y2U p l (fun b m => h b (List.mem_cons_of_mem _ m))]
theorem YY (c : UInt8) (l : List UInt8) : Y15 (c :: l) = Y24 c ++ Y15 l := rfl
theorem Y1R (s : List UInt8) (hs : validD s = true) : ∀ (n : Nat) (l : List UInt8), l.length ≤ n → validD l = true → validD (Y15 l ++ s) = true ∧ validD (l ++ s) = true
 | n, [], _, _ => ⟨hs, hs⟩
 | 0, c :: l, h, _ => by simp at h
 | n + 1, c :: l, h, hv => by
  simp only [List.length_cons] at h
  by_cases hc : c.toNat < 128
  ·rw [validD_cons c l hc] at hv
   obtain ⟨i1, i2⟩ := Y1R s hs n l (by omega) hv
   refine ⟨?_, ?_⟩
   ·rw [YY, List.append_assoc, Y2U _ _ (esc_low hc)]; exact i1
   ·rw [List.cons_append, validD_cons c _ hc]; exact i2
  ·rw [validD_step _ (by simp)] at hv
   have hok : ¬ ((decodeL (c :: l)).1 = 65533 ∧ (decodeL (c :: l)).2 = 1) := by
    intro q; rw [if_pos q] at hv; cases hv
   rw [if_neg hok] at hv
   have hh : 128 ≤ ((c :: l).getD 0 0).toNat := by simp; omega
   rcases dec_more (r := (decodeL (c :: l)).1) (w := (decodeL (c :: l)).2) rfl hh hok with ⟨hw, a, b, t, e, ha, hb, hd⟩ | ⟨hw, a, b, d, t, e, ha, hb, hd0, hd⟩ | ⟨hw, a, b, d, f, t, e, ha, hb, hd0, hf, hd⟩
   ·rw [hw, e] at hv
    simp only [List.drop_succ_cons, List.drop_zero] at hv
    have hl := congrArg List.length e
    simp only [List.length_cons] at hl
    obtain ⟨i1, i2⟩ := Y1R s hs n t (by omega) hv
    have key : ∀ y, validD y = true → validD (a :: b :: y) = true := by
     intro y hy
     rw [validD_step _ (by simp), hd y]
     simp only [List.drop_succ_cons, List.drop_zero]
     rw [if_neg (by omega)]; exact hy
    rw [e, YY, YY, Y1B ha, Y1B hb]
    exact ⟨key _ i1, key _ i2⟩
   ·rw [hw, e] at hv
    simp only [List.drop_succ_cons, List.drop_zero] at hv
    have hl := congrArg List.length e
    simp only [List.length_cons] at hl
    obtain ⟨i1, i2⟩ := Y1R s hs n t (by omega) hv
    have key : ∀ y, validD y = true → validD (a :: b :: d :: y) = true := by
     intro y hy
     rw [validD_step _ (by simp), hd y]
     simp only [List.drop_succ_cons, List.drop_zero]
     rw [if_neg (by omega)]; exact hy
    rw [e, YY, YY, YY, Y1B ha, Y1B hb, Y1B hd0]
    exact ⟨key _ i1, key _ i2⟩
   ·rw [hw, e] at hv
    simp only [List.drop_succ_cons, List.drop_zero] at hv
    have hl := congrArg List.length e
    simp only [List.length_cons] at hl
    obtain ⟨i1, i2⟩ := Y1R s hs n t (by omega) hv
    have key : ∀ y, validD y = true → validD (a :: b :: d :: f :: y) = true := by
     intro y hy
     rw [validD_step _ (by simp), hd y]
     simp only [List.drop_succ_cons, List.drop_zero]
     rw [if_neg (by omega)]; exact hy
    rw [e, YY, YY, YY, YY, Y1B ha, Y1B hb, Y1B hd0, Y1B hf]
    exact ⟨key _ i1, key _ i2⟩
theorem bits15 (n : Int) (h0 : 0 ≤ n) (h1 : n < 256) : Go.bits .and .u8 n 15 = n % 16 := by
 have := bits_mask .u8 8 (by decide) wraps_u8 4 (by decide) n h0 h1
 simpa using this
theorem hex_ext : ∀ a : Fin 16, (⟨#[48, 49, 50, 51, 52, 53, 54, 55, 56, 57, 65, 66, 67, 68, 69, 70]⟩ : ByteArray).extract a.val (a.val + 1) = ⟨#[Y2Y a.val]⟩ := by decide +kernel
theorem hexAt (a : Int) (h0 : 0 ≤ a) (h1 : a < 16) : (⟨#[48, 49, 50, 51, 52, 53, 54, 55, 56, 57, 65, 66, 67, 68, 69, 70]⟩ : ByteArray).extract a.toNat ((a + 1) % 256).toNat = ⟨#[Y2Y a.toNat]⟩ := by
 have := hex_ext ⟨a.toNat, by omega⟩
 rw [show ((a + 1) % 256).toNat = a.toNat + 1 by omega]
 exact this
def idx7 (c : Int) : Int := if c = 34 then 0 else if c = 92 then 1 else if c = 10 then 2 else if c = 13 then 3 else if c = 9 then 4 else if c = 8 then 5 else if c = 12 then 6 else 7
theorem w64 (i : Int) (h0 : 0 ≤ i) (h1 : i < 1000) : wrap64 (i + 1) = i + 1 := by unfold wrap64; omega
theorem esc_find (x0 x6 : ByteArray) (x7 c : Int) (r : ByteArray) (h : Ev (fun k => Y5.j2 k x0 x6 x7 c (idx7 c)) r) : Ev (fun k => Y5.l1 k x0 x6 x7 c 0) r := by
 have b0 : bt (⟨#[34, 92, 10, 13, 9, 8, 12]⟩ : ByteArray) 0 = 34 := rfl
 have b1 : bt (⟨#[34, 92, 10, 13, 9, 8, 12]⟩ : ByteArray) 1 = 92 := rfl
 have b2 : bt (⟨#[34, 92, 10, 13, 9, 8, 12]⟩ : ByteArray) 2 = 10 := rfl
 have b3 : bt (⟨#[34, 92, 10, 13, 9, 8, 12]⟩ : ByteArray) 3 = 13 := rfl
 have b4 : bt (⟨#[34, 92, 10, 13, 9, 8, 12]⟩ : ByteArray) 4 = 9 := rfl
 have b5 : bt (⟨#[34, 92, 10, 13, 9, 8, 12]⟩ : ByteArray) 5 = 8 := rfl
 have b6 : bt (⟨#[34, 92, 10, 13, 9, 8, 12]⟩ : ByteArray) 6 = 12 := rfl
 unfold idx7 at h
 have w0 : wrap64 ((0 : Int) + 1) = 1 := w64 0 (by decide) (by decide)
 have w1 : wrap64 ((1 : Int) + 1) = 2 := w64 1 (by decide) (by decide)
 have w2 : wrap64 ((2 : Int) + 1) = 3 := w64 2 (by decide) (by decide)
 have w3 : wrap64 ((3 : Int) + 1) = 4 := w64 3 (by decide) (by decide)
 have w4 : wrap64 ((4 : Int) + 1) = 5 := w64 4 (by decide) (by decide)
 have w5 : wrap64 ((5 : Int) + 1) = 6 := w64 5 (by decide) (by decide)
 have w6 : wrap64 ((6 : Int) + 1) = 7 := w64 6 (by decide) (by decide)
 have st : ∀ (i b : Int), 0 ≤ i → i < 7 → bt (⟨#[34, 92, 10, 13, 9, 8, 12]⟩ : ByteArray) i = b → (c = b → Ev (fun k => Y5.j2 k x0 x6 x7 c i) r) → (c ≠ b → Ev (fun k => Y5.l1 k x0 x6 x7 c (wrap64 (i + 1))) r) → Ev (fun k => Y5.l1 k x0 x6 x7 c i) r := by
  intro i b h0 h7 hb hy hn
  refine Ev.up ?_
  by_cases e : c = b
  ·simp only [Y5.l1, if_pos h7, if_pos h0, hb, if_pos e.symm]; exact hy e
  ·simp only [Y5.l1, if_pos h7, if_pos h0, hb, if_neg (show ¬ b = c from fun q => e q.symm)]; exact hn e
 refine st 0 34 (by decide) (by decide) b0 (fun e => by rw [if_pos e] at h; exact h) fun e0 => ?_
 rw [if_neg e0] at h; rw [w0]
 refine st 1 92 (by decide) (by decide) b1 (fun e => by rw [if_pos e] at h; exact h) fun e1 => ?_
 rw [if_neg e1] at h; rw [w1]
 refine st 2 10 (by decide) (by decide) b2 (fun e => by rw [if_pos e] at h; exact h) fun e2 => ?_
 rw [if_neg e2] at h; rw [w2]
 refine st 3 13 (by decide) (by decide) b3 (fun e => by rw [if_pos e] at h; exact h) fun e3 => ?_
 rw [if_neg e3] at h; rw [w3]
 refine st 4 9 (by decide) (by decide) b4 (fun e => by rw [if_pos e] at h; exact h) fun e4 => ?_
 rw [if_neg e4] at h; rw [w4]
 refine st 5 8 (by decide) (by decide) b5 (fun e => by rw [if_pos e] at h; exact h) fun e5 => ?_
 rw [if_neg e5] at h; rw [w5]
 refine st 6 12 (by decide) (by decide) b6 (fun e => by rw [if_pos e] at h; exact h) fun e6 => ?_
 rw [if_neg e6] at h; rw [w6]
 refine Ev.up ?_
 simp only [Y5.l1, if_neg (show ¬ (7 : Int) < 7 by decide)]
 exact h
theorem esc_to : ∀ i : Fin 7, (⟨#[34, 92, 110, 114, 116, 98, 102]⟩ : ByteArray).extract i.val (i.val + 1) = ⟨#[[34, 92, 110, 114, 116, 98, 102].getD i.val 0]⟩ := by decide +kernel
theorem esc_step (s x : ByteArray) (hs : s.size ≤ 100000) (hx : x.size ≤ 10000000) {c : UInt8} {l : List UInt8} (h : Suf s (c :: l)) (r : ByteArray) (hr : Ev (fun k => Y5.l0 k s (x ++ ⟨(Y24 c).toArray⟩) (ps s l)) r) :
  Ev (fun k => Y5.l0 k s x (ps s (c :: l))) r := by
 have q1 := Y3A s c l
 have q2 := h.ps0
 have q3 := Y26 (by omega) h
 have q4 := ps_le s l
 have q5 : ps s (c :: l) + 1 = ps s l := by simp [ps]; omega
 refine Ev.up ?_
 simp only [Y5.l0, if_pos q1, if_pos q2, Y3q h]
 refine esc_find _ _ _ _ _ ?_
 have eqs : ∀ n : Nat, n < 256 → ((c.toNat : Int) = (n : Int) ↔ c = UInt8.ofNat n) := fun n hn => u8_eq hn
 have letter : ∀ (i n : Nat) (m : UInt8), i < 7 → n < 256 → c = UInt8.ofNat n → idx7 (n : Int) = (i : Int) → [34, 92, 110, 114, 116, 98, 102].getD i 0 = m → Y24 c = [92, m] → Ev (fun k => Y5.j2 k s x (ps s (c :: l)) (c.toNat : Int) (idx7 (c.toNat : Int))) r := by
  intro i n m hi hn hc hx7 hm he
  have hcn : (c.toNat : Int) = (n : Int) := (eqs n hn).mpr hc
  rw [hcn, hx7]
  have e7 := esc_to ⟨i, hi⟩
  refine Ev.up ?_
  have w := w64 (i : Int) (by omega) (by omega)
  simp only [Y5.j2, w, if_pos (show (i : Int) < 7 by omega), if_pos (show x.size + 1 ≤ 9223372036854775807 by omega), if_pos (show (0 : Int) ≤ (i : Int) by omega), if_pos (show (i : Int) ≤ (i : Int) + 1 by omega), if_pos (show (i : Int) + 1 ≤ 7 by omega), if_pos (show x.size + 1 + ((i : Int) + 1).toNat - (i : Int).toNat ≤ 9223372036854775807 by omega), q3]
  rw [he] at hr
  rw [show (i : Int).toNat = i by omega, show ((i : Int) + 1).toNat = i + 1 by omega, e7, hm]
  have : x ++ (⟨#[92]⟩ : ByteArray) ++ ⟨#[m]⟩ = x ++ ⟨[92, m].toArray⟩ := by apply YX; simp
  rw [this]
  exact hr
 by_cases c34 : c = 34
 ·exact letter 0 34 34 (by decide) (by decide) c34 rfl rfl (by rw [c34]; rfl)
 by_cases c92 : c = 92
 ·exact letter 1 92 92 (by decide) (by decide) c92 rfl rfl (by rw [c92]; rfl)
 by_cases c10 : c = 10
 ·exact letter 2 10 110 (by decide) (by decide) c10 rfl rfl (by rw [c10]; rfl)
 by_cases c13 : c = 13
 ·exact letter 3 13 114 (by decide) (by decide) c13 rfl rfl (by rw [c13]; rfl)
 by_cases c9 : c = 9
 ·exact letter 4 9 116 (by decide) (by decide) c9 rfl rfl (by rw [c9]; rfl)
 by_cases c8 : c = 8
 ·exact letter 5 8 98 (by decide) (by decide) c8 rfl rfl (by rw [c8]; rfl)
 by_cases c12 : c = 12
 ·exact letter 6 12 102 (by decide) (by decide) c12 rfl rfl (by rw [c12]; rfl)
 have nn : ∀ n : Nat, n < 256 → c ≠ UInt8.ofNat n → ¬ (c.toNat : Int) = (n : Int) := fun n hn hc q => hc ((eqs n hn).mp q)
 have i7 : idx7 (c.toNat : Int) = 7 := by
  unfold idx7
  have m34 : ¬ (c.toNat : Int) = 34 := nn 34 (by omega) c34
  have m92 : ¬ (c.toNat : Int) = 92 := nn 92 (by omega) c92
  have m10 : ¬ (c.toNat : Int) = 10 := nn 10 (by omega) c10
  have m13 : ¬ (c.toNat : Int) = 13 := nn 13 (by omega) c13
  have m9 : ¬ (c.toNat : Int) = 9 := nn 9 (by omega) c9
  have m8 : ¬ (c.toNat : Int) = 8 := nn 8 (by omega) c8
  have m12 : ¬ (c.toNat : Int) = 12 := nn 12 (by omega) c12
  rw [if_neg m34, if_neg m92, if_neg m10, if_neg m13, if_neg m9, if_neg m8, if_neg m12]
 rw [i7]
 have hlt := c.toNat_lt
 have heb : Y24 c = if c.toNat < 32 ∨ c.toNat = 127 then [92, 117, 48, 48, Y2Y (c.toNat / 16), Y2Y (c.toNat % 16)] else [c] := by
  unfold Y24
  rw [if_neg c34, if_neg c92, if_neg c10, if_neg c13, if_neg c9, if_neg c8, if_neg c12]
 have hb15 := bits15 (c.toNat : Int) (by omega) (by omega)
 have ha1 : ((c.toNat : Int) / 16 + 1) % 256 = (c.toNat : Int) / 16 + 1 := by omega
 have ha2 : ((c.toNat : Int) % 16 + 1) % 256 = (c.toNat : Int) % 16 + 1 := by omega
 have hex : ∀ p : Prop, [Decidable p] → True → (Y24 c = [92, 117, 48, 48, Y2Y (c.toNat / 16), Y2Y (c.toNat % 16)]) →
   Ev (fun k => Y5.l0 k s (((x ++ (⟨#[92, 117, 48, 48]⟩ : ByteArray)) ++ ((⟨#[48, 49, 50, 51, 52, 53, 54, 55, 56, 57, 65, 66, 67, 68, 69, 70]⟩ : ByteArray).extract ((c.toNat : Int) / 16).toNat ((((c.toNat : Int) / 16) + 1) % 256).toNat)) ++ ((⟨#[48, 49, 50, 51, 52, 53, 54, 55, 56, 57, 65, 66, 67, 68, 69, 70]⟩ : ByteArray).extract ((c.toNat : Int) % 16).toNat ((((c.toNat : Int) % 16) + 1) % 256).toNat)) (ps s l)) r := by
  intro _ _ _ he
  rw [hexAt _ (by omega) (by omega), hexAt _ (by omega) (by omega)]
  rw [he] at hr
  have : x ++ (⟨#[92, 117, 48, 48]⟩ : ByteArray) ++ ⟨#[Y2Y ((c.toNat : Int) / 16).toNat]⟩ ++ ⟨#[Y2Y ((c.toNat : Int) % 16).toNat]⟩ = x ++ ⟨[92, 117, 48, 48, Y2Y (c.toNat / 16), Y2Y (c.toNat % 16)].toArray⟩ := by
   rw [show ((c.toNat : Int) / 16).toNat = c.toNat / 16 by omega, show ((c.toNat : Int) % 16).toNat = c.toNat % 16 by omega]
   apply YX; simp
  rw [this]
  exact hr
 have z1 : x.size + 4 ≤ 9223372036854775807 := by omega
 have z2 : (0 : Int) ≤ (c.toNat : Int) / 16 := by omega
 have z3 : (c.toNat : Int) / 16 ≤ (((c.toNat : Int) / 16) + 1) % 256 := by omega
 have z4 : (((c.toNat : Int) / 16) + 1) % 256 ≤ 16 := by omega
 have z5 : x.size + 4 + ((((c.toNat : Int) / 16) + 1) % 256).toNat - ((c.toNat : Int) / 16).toNat ≤ 9223372036854775807 := by omega
 have z6 : (0 : Int) ≤ (c.toNat : Int) % 16 := by omega
 have z7 : (c.toNat : Int) % 16 ≤ (((c.toNat : Int) % 16) + 1) % 256 := by omega
 have z8 : (((c.toNat : Int) % 16) + 1) % 256 ≤ 16 := by omega
 have z9 : x.size + 4 + (((((c.toNat : Int) / 16) + 1) % 256).toNat - ((c.toNat : Int) / 16).toNat) + ((((c.toNat : Int) % 16) + 1) % 256).toNat - ((c.toNat : Int) % 16).toNat ≤ 9223372036854775807 := by omega
 refine Ev.up ?_
 by_cases lo : c.toNat < 32
 ·simp only [Y5.j2, if_neg (show ¬ (7 : Int) < 7 by decide), if_pos (show (c.toNat : Int) < 32 by omega), hb15, if_pos z1, if_pos z2, if_pos z3, if_pos z4, if_pos z5, if_pos z6, if_pos z7, if_pos z8, if_pos z9, q3]
  exact hex True trivial (by rw [heb, if_pos (Or.inl lo)])
 ·by_cases c127 : c.toNat = 127
  ·simp only [Y5.j2, if_neg (show ¬ (7 : Int) < 7 by decide), if_neg (show ¬ (c.toNat : Int) < 32 by omega), if_pos (show (c.toNat : Int) = 127 by omega), hb15, if_pos z1, if_pos z2, if_pos z3, if_pos z4, if_pos z5, if_pos z6, if_pos z7, if_pos z8, if_pos z9, q3]
   exact hex True trivial (by rw [heb, if_pos (Or.inr c127)])
  ·simp only [Y5.j2, if_neg (show ¬ (7 : Int) < 7 by decide), if_neg (show ¬ (c.toNat : Int) < 32 by omega), if_neg (show ¬ (c.toNat : Int) = 127 by omega), q3, if_pos q2, if_pos (show ps s (c :: l) ≤ ps s l by omega), if_pos q4, if_pos (show x.size + (ps s l).toNat - (ps s (c :: l)).toNat ≤ 9223372036854775807 by omega)]
   rw [heb, if_neg (by omega)] at hr
   have := Y4l (t := [c]) (l1 := l) h rfl
   rw [this]
   exact hr
theorem Y4k (s : ByteArray) (hs : s.size ≤ 100000) : ∀ (l : List UInt8) (x : ByteArray), Suf s l → x.size ≤ 6 * (s.size - l.length) → Ev (fun k => Y5.l0 k s x (ps s l)) (x ++ ⟨(Y15 l).toArray⟩)
 | [], x, h, hx => by
  refine Ev.up ?_
  simp only [Y5.l0, if_neg (show ¬ ps s [] < (s.size : Int) by rw [Y3i]; omega)]
  have : x ++ (⟨(Y15 []).toArray⟩ : ByteArray) = x := by apply YX; simp [Y15]
  rw [this]
  exact ZC
 | c :: l, x, h, hx => by
  have hlen := h.len
  simp only [List.length_cons] at hlen hx
  have hb := Y3t c
  have hz : (x ++ (⟨(Y24 c).toArray⟩ : ByteArray)).size = x.size + (Y24 c).length := by simp; rfl
  have ih := Y4k s hs l (x ++ ⟨(Y24 c).toArray⟩) h.tail (by rw [hz]; omega)
  refine esc_step s x hs (by omega) h _ ?_
  have : x ++ (⟨(Y15 (c :: l)).toArray⟩ : ByteArray) = x ++ ⟨(Y24 c).toArray⟩ ++ ⟨(Y15 l).toArray⟩ := by apply YX; simp [YY]
  rw [this]
  exact ih
theorem escaped_r (s : ByteArray) (hs : s.size ≤ 100000) : Ev (fun k => Y5.f k s) ⟨(Y15 s.data.toList).toArray⟩ := by
 have := Y4k s hs s.data.toList ⟨#[]⟩ (Suf.whole s) (by rw [Y1c]; simp; rfl)
 rw [Y2d] at this
 have e : (⟨#[]⟩ : ByteArray) ++ ⟨(Y15 s.data.toList).toArray⟩ = ⟨(Y15 s.data.toList).toArray⟩ := by apply YX; simp
 rw [e] at this
 exact this
theorem Ev.uniq {α : Type} {g : Nat → Option α} {r r' : α} (h : Ev g r) (h' : Ev g r') : r = r' := by
 obtain ⟨k, h⟩ := h
 obtain ⟨k', h'⟩ := h'
 have a := h (max k k') (Nat.le_max_left _ _)
 have b := h' (max k k') (Nat.le_max_right _ _)
 rw [a] at b
 exact Option.some.inj b
theorem Y45 {a : ByteArray} {i : Nat} {c : UInt8} (h : a.data.toList[i]? = some c) : bt a (i : Int) = (c.toNat : Int) := by
 obtain ⟨hi, hc⟩ := List.getElem?_eq_some_iff.1 h
 have hlt : ((i : Nat) : Int).toNat < a.size := by rw [Y1c] at hi; omega
 unfold bt
 rw [dif_pos hlt]
 have : a[((i : Nat) : Int).toNat] = a.data.toList[((i : Nat) : Int).toNat]'(by rw [Y1c]; exact hlt) := rfl
 rw [this, ← hc]
 rfl
theorem hexD_all : ∀ n : Fin 16, ((Y2Y n.val).toNat : Int) = if n.val < 10 then 48 + (n.val : Int) else 55 + (n.val : Int) := by decide +kernel
theorem Y2F (x0 : ByteArray) (v : Int) (i n : Nat) (hv0 : 0 ≤ v) (hv : v < 100000) (hi : i < 4) (hn : n < 16) (hb : x0.data.toList[i]? = some (Y2Y n)) :
  ∀ k, ∃ m, m ≤ 3 ∧ Y4.l0 (k + m) x0 4 v (i : Int) = Y4.l0 k x0 4 (v * 16 + n) ((i + 1 : Nat) : Int) := by
 intro k
 have hbt := Y45 hb
 have hd := hexD_all ⟨n, hn⟩
 have hsz : i < x0.size := by have := (List.getElem?_eq_some_iff.1 hb).1; rw [Y1c] at this; exact this
 have w1 : wrap64 (v * 16) = v * 16 := by unfold wrap64; omega
 have w2 : wrap64 ((i : Int) + 1) = ((i + 1 : Nat) : Int) := by unfold wrap64; omega
 simp only at hd
 by_cases h10 : n < 10
 ·rw [if_pos h10] at hd
  rw [hd] at hbt
  refine ⟨2, by omega, ?_⟩
  show Y4.l0 (k + 1 + 1) x0 4 v (i : Int) = _
  have w3 : wrap64 (v * 16 + (48 + (n : Int) - 48) % 256) = v * 16 + n := by unfold wrap64; omega
  simp only [Y4.l0, if_pos (show (i : Int) < 4 by omega), if_pos (show (0 : Int) ≤ (i : Int) by omega), if_pos (show (i : Int) < (x0.size : Int) by omega), hbt, if_pos (show 48 + (n : Int) ≥ 48 by omega), decide_eq_true (show 48 + (n : Int) ≤ 57 by omega), Y4.j1, if_true, w1, w2, w3]
 ·rw [if_neg h10] at hd
  rw [hd] at hbt
  refine ⟨3, by omega, ?_⟩
  show Y4.l0 (k + 1 + 1 + 1) x0 4 v (i : Int) = _
  have w3 : wrap64 (v * 16 + (55 + (n : Int) - 65) % 256) = v * 16 + (n - 10) := by unfold wrap64; omega
  have w4 : wrap64 (v * 16 + ((n : Int) - 10) + 10) = v * 16 + n := by unfold wrap64; omega
  simp only [Y4.l0, if_pos (show (i : Int) < 4 by omega), if_pos (show (0 : Int) ≤ (i : Int) by omega), if_pos (show (i : Int) < (x0.size : Int) by omega), hbt, if_pos (show 55 + (n : Int) ≥ 48 by omega), decide_eq_false (show ¬ 55 + (n : Int) ≤ 57 by omega), Y4.j1, Bool.false_eq_true, if_false, if_neg (show ¬ 55 + (n : Int) ≥ 97 by omega), Y4.j2, if_pos (show 55 + (n : Int) ≥ 65 by omega), if_pos (show 55 + (n : Int) ≤ 70 by omega), w1, w2, w3, w4]
theorem hex_read (x0 : ByteArray) (a b : Nat) (ha : a < 8) (hb : b < 16) (rest : List UInt8) (h : x0.data.toList = 48 :: 48 :: Y2Y a :: Y2Y b :: rest) : Y4.f 40 x0 4 = some ((a * 16 + b : Nat) : Int) := by
 have hl := congrArg List.length h
 rw [Y1c] at hl
 simp only [List.length_cons] at hl
 obtain ⟨m4, l4, e4⟩ := Y2F x0 (a : Int) 3 b (by omega) (by omega) (by omega) hb (by rw [h]; rfl) 1
 obtain ⟨m3, l3, e3⟩ := Y2F x0 0 2 a (by omega) (by omega) (by omega) (by omega) (by rw [h]; rfl) (1 + m4)
 obtain ⟨m2, l2, e2⟩ := Y2F x0 0 1 0 (by omega) (by omega) (by omega) (by omega) (by rw [h]; rfl) (1 + m4 + m3)
 obtain ⟨m1, l1, e1⟩ := Y2F x0 0 0 0 (by omega) (by omega) (by omega) (by omega) (by rw [h]; rfl) (1 + m4 + m3 + m2)
 have fin : Y4.l0 1 x0 4 ((a : Int) * 16 + b) ((3 + 1 : Nat) : Int) = some ((a * 16 + b : Nat) : Int) := by
  have w : wrap32 ((a : Int) * 16 + b) = ((a * 16 + b : Nat) : Int) := by unfold wrap32; omega
  show Y4.l0 (0 + 1) x0 4 ((a : Int) * 16 + b) ((3 + 1 : Nat) : Int) = _
  simp only [Y4.l0, if_neg (show ¬ (((3 + 1 : Nat) : Int)) < 4 by omega), if_neg (show ¬ (a : Int) * 16 + b > 1114111 by omega), if_neg (show ¬ (a : Int) * 16 + b ≥ 55296 by omega), w]
 have all : Y4.f (1 + m4 + m3 + m2 + m1) x0 4 = some ((a * 16 + b : Nat) : Int) := by
  unfold Y4.f
  rw [if_neg (by omega)]
  have e1' : Y4.l0 (1 + m4 + m3 + m2 + m1) x0 4 0 0 = Y4.l0 (1 + m4 + m3 + m2) x0 4 0 ((1 : Nat) : Int) := by simpa using e1
  have e2' : Y4.l0 (1 + m4 + m3 + m2) x0 4 0 ((1 : Nat) : Int) = Y4.l0 (1 + m4 + m3) x0 4 0 ((2 : Nat) : Int) := by simpa using e2
  have e3' : Y4.l0 (1 + m4 + m3) x0 4 0 ((2 : Nat) : Int) = Y4.l0 (1 + m4) x0 4 (a : Int) ((3 : Nat) : Int) := by simpa using e3
  rw [e1', e2', e3', e4, fin]
 exact Y3J (g := fun k => Y4.f k x0 4) (fun k => Y4.mono x0 4 k) (show 1 + m4 + m3 + m2 + m1 ≤ 40 by omega) all
theorem runes_low (n : Nat) (h : n < 128) : runesBytes [((n : Nat) : Int)] = ⟨#[UInt8.ofNat n]⟩ := by
 unfold runesBytes Utf8.encode
 simp only [List.foldl_cons, List.foldl_nil]
 have hv : Utf8.valid (n : Int) = true := by unfold Utf8.valid; simp; omega
 simp only [hv, if_true]
 rw [show ((n : Nat) : Int).toNat = n by omega, if_pos h]
 rfl
theorem esc_read {c : UInt8} {e : List UInt8} (he : Y24 c = 92 :: e) (hne : e ≠ []) (a0 : ByteArray) (rest : List UInt8) (h : a0.data.toList = e ++ rest) (hz : a0.size ≤ 10000000) : YB.f a0 true = some (⟨#[c]⟩, (e.length : Int)) := by
 have hl := congrArg List.length h
 rw [Y1c, List.length_append] at hl
 have hpos : 0 < e.length := List.length_pos_iff.2 hne
 have letter : ∀ (m : UInt8), e = [m] → (m.toNat : Int) ≠ 117 → (m.toNat : Int) ≠ 85 → Y3u Y2A (m.toNat : Int) = (⟨#[c]⟩, 1) → YB.f a0 true = some (⟨#[c]⟩, (e.length : Int)) := by
  intro m hm n1 n2 hg
  have hb : bt a0 0 = (m.toNat : Int) := Y45 (i := 0) (by rw [h, hm]; rfl)
  unfold YB.f
  rw [if_neg (by omega), if_pos (by omega), hb, if_neg n1, if_neg n2, if_pos rfl, hg, hm]
  rfl
 by_cases c34 : c = 34
 ·subst c34; injection he with _ he; exact letter 34 he.symm (by decide) (by decide) (by decide)
 by_cases c92 : c = 92
 ·subst c92; injection he with _ he; exact letter 92 he.symm (by decide) (by decide) (by decide)
 by_cases c10 : c = 10
 ·subst c10; injection he with _ he; exact letter 110 he.symm (by decide) (by decide) (by decide)
 by_cases c13 : c = 13
 ·subst c13; injection he with _ he; exact letter 114 he.symm (by decide) (by decide) (by decide)
 by_cases c9 : c = 9
 ·subst c9; injection he with _ he; exact letter 116 he.symm (by decide) (by decide) (by decide)
 by_cases c8 : c = 8
 ·subst c8; injection he with _ he; exact letter 98 he.symm (by decide) (by decide) (by decide)
 by_cases c12 : c = 12
 ·subst c12; injection he with _ he; exact letter 102 he.symm (by decide) (by decide) (by decide)
 unfold Y24 at he
 rw [if_neg c34, if_neg c92, if_neg c10, if_neg c13, if_neg c9, if_neg c8, if_neg c12] at he
 by_cases lo : c.toNat < 32 ∨ c.toNat = 127
 ·rw [if_pos lo] at he
  injection he with _ he
  have hb : bt a0 0 = 117 := Y45 (c := 117) (i := 0) (by rw [h, ← he]; rfl)
  have hx : (a0.extract 1 a0.size).data.toList = 48 :: 48 :: Y2Y (c.toNat / 16) :: Y2Y (c.toNat % 16) :: rest := by
   have hs : Suf a0 ([48, 48, Y2Y (c.toNat / 16), Y2Y (c.toNat % 16)] ++ rest) := ⟨[117], by rw [h, ← he]; rfl⟩
   have := Y2E hs
   have hp : (ps a0 ([48, 48, Y2Y (c.toNat / 16), Y2Y (c.toNat % 16)] ++ rest)).toNat = 1 := by
    have hle := congrArg List.length he
    simp only [List.length_cons, List.length_nil] at hle
    unfold ps
    simp only [List.length_append, List.length_cons, List.length_nil]
    omega
   rw [hp] at this
   exact this
  have hr := hex_read _ (c.toNat / 16) (c.toNat % 16) (by omega) (by omega) rest hx
  unfold YB.f
  rw [if_neg (by omega), if_pos (by omega), hb, if_pos rfl]
  unfold Y3L
  rw [hr]
  have hc : c.toNat / 16 * 16 + c.toNat % 16 = c.toNat := by omega
  simp only [Option.bind_some, if_neg (show ¬ (((c.toNat / 16 * 16 + c.toNat % 16 : Nat)) : Int) < 0 by omega), hc]
  rw [runes_low c.toNat (by omega), ← he]
  simp
 ·rw [if_neg lo] at he
  injection he with h1 h2
  exact absurd h2.symm hne
theorem Y3v : ∀ n : Fin 256, (Y24 (UInt8.ofNat n.val) = [UInt8.ofNat n.val] ∧ n.val ≠ 34 ∧ n.val ≠ 92 ∧ n.val ≠ 10 ∧ n.val ≠ 13) ∨ ((Y24 (UInt8.ofNat n.val)).head? = some 92 ∧ (Y24 (UInt8.ofNat n.val)).tail ≠ []) := by decide +kernel
theorem esc_cases (c : UInt8) : (Y24 c = [c] ∧ (c.toNat : Int) ≠ 34 ∧ (c.toNat : Int) ≠ 92 ∧ (c.toNat : Int) ≠ 10 ∧ (c.toNat : Int) ≠ 13) ∨ ∃ e, e ≠ [] ∧ Y24 c = 92 :: e := by
 have h := Y3v ⟨c.toNat, c.toNat_lt⟩
 simp only [UInt8.ofNat_toNat] at h
 rcases h with ⟨h1, h2, h3, h4, h5⟩ | ⟨h1, h2⟩
 ·exact .inl ⟨h1, by omega, by omega, by omega, by omega⟩
 ·refine .inr ⟨(Y24 c).tail, h2, ?_⟩
  cases he : Y24 c with
  | nil => rw [he] at h1; cases h1
  | cons a t => rw [he] at h1; simp at h1; rw [h1]; rfl
theorem rest_is {s : ByteArray} {c : UInt8} {rest : List UInt8} (hs : s.size ≤ 10000000) (h : Suf s (c :: rest)) : s.extract (wrap64 (ps s (c :: rest) + 1)).toNat s.size = ⟨rest.toArray⟩ := by
 rw [Y26 (by omega) h]
 apply YX
 rw [Y2E h.tail]
theorem Y4r (s : ByteArray) (hs : s.size ≤ 10000000) (b : Bool) (x : ByteArray) (e : UInt8) (n : Int) (hn : n = (e.toNat : Int)) (rest : List UInt8) (h : Suf s (e :: rest)) :
  Ev (fun k => Y7.l0 k n b x (ps s (e :: rest)) s false) (x, ⟨rest.toArray⟩, false) := by
 refine Ev.up ?_
 have q3 := Y26 (by omega) h
 simp only [Y7.l0, if_pos (Y3A s e rest), if_pos h.ps0, Y3q h, if_pos hn.symm]
 rw [rest_is hs h, q3]
 simp only [if_pos h.tail.ps0, if_pos (ps_le s rest)]
 exact ZC
theorem Y4s (s : ByteArray) (hs : s.size ≤ 10000000) (b : Bool) (x : ByteArray) (hx : x.size ≤ 10000000) (n : Int) (c : UInt8) (l : List UInt8) (h : Suf s (c :: l)) (h0 : (c.toNat : Int) ≠ n) (h1 : (c.toNat : Int) ≠ 92) (h2 : (c.toNat : Int) ≠ 10) (h3 : (c.toNat : Int) ≠ 13) (r : ByteArray × ByteArray × Bool)
  (hr : Ev (fun k => Y7.l0 k n b (x ++ ⟨#[c]⟩) (ps s l) s false) r) : Ev (fun k => Y7.l0 k n b x (ps s (c :: l)) s false) r := by
 refine Ev.up ?_
 have q3 := Y26 (by omega) h
 have q5 : ps s (c :: l) + 1 = ps s l := by simp [ps]; omega
 have ex := Y4l (t := [c]) (l1 := l) h rfl
 have q2 := h.ps0
 have q4 := ps_le s l
 simp only [Y7.l0, if_pos (Y3A s c l), if_pos q2, Y3q h, if_neg h0, if_neg h1, if_neg h2, if_neg h3, q3, if_pos (show ps s (c :: l) ≤ ps s l by omega), if_pos q4, if_pos (show x.size + (ps s l).toNat - (ps s (c :: l)).toNat ≤ 9223372036854775807 by omega)]
 rw [ex]
 exact hr
theorem snoc1 (x : ByteArray) (c : UInt8) (t : List UInt8) : x ++ (⟨(c :: t).toArray⟩ : ByteArray) = x ++ ⟨#[c]⟩ ++ ⟨t.toArray⟩ := by apply YX; simp
theorem Y3k (x : ByteArray) (c : UInt8) : (x ++ (⟨#[c]⟩ : ByteArray)).size = x.size + 1 := by rw [ByteArray.size_append]; rfl
theorem snoc0 (x : ByteArray) : x ++ (⟨([] : List UInt8).toArray⟩ : ByteArray) = x := by apply YX; simp
theorem Y3C (s : ByteArray) (hs : s.size ≤ 1000000) (rest : List UInt8) : ∀ (t : List UInt8) (x : ByteArray), Suf s (Y15 t ++ 34 :: rest) → x.size + t.length ≤ 1000000 →
  Ev (fun k => Y7.l0 k 34 true x (ps s (Y15 t ++ 34 :: rest)) s false) (x ++ ⟨t.toArray⟩, ⟨rest.toArray⟩, false)
 | [], x, h, hx => by rw [snoc0]; exact Y4r s (by omega) true x 34 34 rfl rest h
 | c :: t, x, h, hx => by
  simp only [List.length_cons] at hx
  rw [snoc1]
  rw [YY, List.append_assoc] at h ⊢
  have hz := Y3k x c
  rcases esc_cases c with ⟨he, n34, n92, n10, n13⟩ | ⟨e, hne, he⟩
  ·rw [he] at h ⊢
   have ih := Y3C s hs rest t (x ++ ⟨#[c]⟩) h.tail (by rw [hz]; omega)
   exact Y4s s (by omega) true x (by omega) 34 c _ h n34 n92 n10 n13 _ ih
  ·rw [he, List.cons_append] at h ⊢
   have hl1 : Suf s (e ++ (Y15 t ++ 34 :: rest)) := h.tail
   have hl2 := hl1.app
   have ih := Y3C s hs rest t (x ++ ⟨#[c]⟩) hl2 (by rw [hz]; omega)
   refine Ev.up ?_
   have q3 := Y26 (by omega) h
   have q1 := Y3A s 92 (e ++ (Y15 t ++ 34 :: rest))
   have hlen := h.len
   simp only [List.cons_append, List.length_cons, List.length_append] at hlen
   have hex := Y2E hl1
   have her := esc_read he hne (s.extract (ps s (e ++ (Y15 t ++ 34 :: rest))).toNat s.size) _ hex (by rw [← Y1c, hex]; simp only [List.length_append, List.length_cons]; omega)
   have hen : ¬ (e.length : Int) = 0 := by have := List.length_pos_iff.2 hne; omega
   have hw : wrap64 (wrap64 (ps s (92 :: (e ++ (Y15 t ++ 34 :: rest))) + (e.length : Int)) + 1) = ps s (Y15 t ++ 34 :: rest) := by
    unfold ps wrap64
    simp only [List.length_cons, List.length_append]
    omega
   have b92 : ((UInt8.toNat 92 : Nat) : Int) = 92 := rfl
   simp only [List.cons_append, Y7.l0, if_pos q1, if_pos h.ps0, Y3q h, b92, if_neg (show ¬ (92 : Int) = 34 by decide), if_true, q3, if_pos hl1.ps0, if_pos (ps_le s (e ++ (Y15 t ++ 34 :: rest))), her, Option.bind_some, if_neg hen]
   have c1 : (⟨#[c]⟩ : ByteArray).size = 1 := rfl
   have hcz : x.size + (⟨#[c]⟩ : ByteArray).size ≤ 9223372036854775807 := by omega
   simp only [if_pos hcz, hw]
   exact ih
theorem Y3l (s : ByteArray) (hs : s.size ≤ 1000000) (n : UInt8) (rest : List UInt8) : ∀ (t : List UInt8) (x : ByteArray), Suf s (t ++ n :: rest) → x.size + t.length ≤ 1000000 → (∀ c ∈ t, c ≠ n ∧ c ≠ 92 ∧ c ≠ 10 ∧ c ≠ 13) →
  Ev (fun k => Y7.l0 k (n.toNat : Int) false x (ps s (t ++ n :: rest)) s false) (x ++ ⟨t.toArray⟩, ⟨rest.toArray⟩, false)
 | [], x, h, hx, _ => by rw [snoc0]; exact Y4r s (by omega) false x n _ rfl rest h
 | c :: t, x, h, hx, ha => by
  simp only [List.length_cons] at hx
  rw [snoc1]
  have hz := Y3k x c
  have ih := Y3l s hs n rest t (x ++ ⟨#[c]⟩) h.tail (by rw [hz]; omega) (fun d m => ha d (List.mem_cons_of_mem _ m))
  obtain ⟨a0, a1, a2, a3⟩ := ha c (List.mem_cons_self ..)
  have ne : ∀ m : Nat, m < 256 → c ≠ UInt8.ofNat m → (c.toNat : Int) ≠ (m : Int) := fun m hm hc q => hc ((u8_eq hm).mp q)
  refine Y4s s (by omega) false x (by omega) _ c _ h ?_ (ne 92 (by omega) a1) (ne 10 (by omega) a2) (ne 13 (by omega) a3) _ ih
  intro q
  exact a0 (UInt8.toNat_inj.mp (by omega))
theorem alnum_all : ∀ n : Fin 256, Yz.f (n.val : Int) = some (Y1l n.val) := by decide +kernel
theorem Y3o (c : UInt8) : Yz.f (c.toNat : Int) = some (Y1l c.toNat) := alnum_all ⟨c.toNat, c.toNat_lt⟩
theorem label_t (s : ByteArray) (hs : s.size ≤ 100000) : ∀ l, Suf s l → ∃ b, Ev (fun k => Yl.l0 k s (ps s l)) b ∧ (b = true → (∀ c ∈ l, Y1l c.toNat = true) ∧ s.size ≤ 8)
 | [], h => by
  by_cases h1 : (s.size : Int) ≥ 1
  ·refine ⟨decide ((s.size : Int) ≤ 8), Ev.up ?_, fun q => ⟨by simp, Zr⟩⟩
   simp only [Yl.l0, Y3i, if_neg (show ¬ (s.size : Int) < s.size by omega), if_pos h1]
   exact ZC
  ·refine ⟨false, Ev.up ?_, fun q => by cases q⟩
   simp only [Yl.l0, Y3i, if_neg (show ¬ (s.size : Int) < s.size by omega), if_neg h1]
   exact ZC
 | c :: l, h => by
  cases hc : Y1l c.toNat with
  | true =>
   obtain ⟨b, hb, hq⟩ := label_t s hs l h.tail
   refine ⟨b, Ev.up ?_, fun q => ⟨?_, (hq q).2⟩⟩
   ·simp only [Yl.l0, if_pos (Y3A s c l), if_pos h.ps0, Y3q h, Y3o, hc, Option.bind_some, if_true, Y26 (by omega) h]
    exact hb
   ·intro d hd
    rcases List.mem_cons.1 hd with rfl | hd
    ·exact hc
    ·exact (hq q).1 d hd
  | false =>
   refine ⟨false, Ev.up ?_, fun q => by cases q⟩
   simp only [Yl.l0, if_pos (Y3A s c l), if_pos h.ps0, Y3q h, Y3o, hc, Option.bind_some, Bool.false_eq_true, if_false]
   exact ZC
def Y1S (c : UInt8) : Prop := Y2D c.toNat = true ∨ Y2z c.toNat = true ∨ c = 45
theorem lang_t (s : ByteArray) (hs : s.size ≤ 100000) : ∀ l, Suf s l → ∀ x3 x4, ∃ b, Ev (fun k => Y6.l0 k s x3 x4 (ps s l)) b ∧ (b = true → (∀ c ∈ l, Y1S c) ∧ s.size ≤ 16)
 | [], h, x3, x4 => by
  by_cases h1 : x4 > 0
  ·refine ⟨decide ((s.size : Int) ≤ 16), Ev.up ?_, fun q => ⟨by simp, Zr⟩⟩
   simp only [Y6.l0, Y3i, if_neg (show ¬ (s.size : Int) < s.size by omega), if_pos h1]
   exact ZC
  ·refine ⟨false, Ev.up ?_, fun q => by cases q⟩
   simp only [Y6.l0, Y3i, if_neg (show ¬ (s.size : Int) < s.size by omega), if_neg h1]
   exact ZC
 | c :: l, h, x3, x4 => by
  have ih := lang_t s hs l h.tail
  have q1 := Y3A s c l
  have q2 := h.ps0
  have q3 := Y26 (by omega) h
  have hb := Y3q h
  have more : Y1S c → ∀ y3 y4, ∃ b, Ev (fun k => Y6.l0 k s y3 y4 (wrap64 (ps s (c :: l) + 1))) b ∧ (b = true → (∀ d ∈ c :: l, Y1S d) ∧ s.size ≤ 16) := by
   intro hc y3 y4
   obtain ⟨b, h1, h2⟩ := ih y3 y4
   rw [q3]
   refine ⟨b, h1, fun q => ⟨?_, (h2 q).2⟩⟩
   intro d hd
   rcases List.mem_cons.1 hd with rfl | hd
   ·exact hc
   ·exact (h2 q).1 d hd
  have j3 : ∀ t, (t = true → Y1S c) → ∃ b, Ev (fun k => Y6.j3 k s x3 x4 (ps s (c :: l)) t) b ∧ (b = true → (∀ d ∈ c :: l, Y1S d) ∧ s.size ≤ 16) := by
   intro t ht
   cases t with
   | false => exact ⟨false, Ev.up (by simp only [Y6.j3, Bool.false_eq_true, if_false]; exact Ev.now _), fun q => by cases q⟩
   | true =>
    by_cases h8 : wrap64 (x4 + 1) > 8
    ·exact ⟨false, Ev.up (by simp only [Y6.j3, if_true, if_pos h8]; exact Ev.now _), fun q => by cases q⟩
    ·obtain ⟨b, h1, h2⟩ := more (ht rfl) x3 (wrap64 (x4 + 1))
     exact ⟨b, Ev.up (by simp only [Y6.j3, if_true, if_neg h8]; exact h1), h2⟩
  have j2 : ∀ a d t, (a = true → Y1S c) → (d = true → Y1S c) → (t = true → Y1S c) → ∃ b, Ev (fun k => Y6.j2 k s x3 x4 (ps s (c :: l)) a d t) b ∧ (b = true → (∀ d ∈ c :: l, Y1S d) ∧ s.size ≤ 16) := by
   intro a d t ha hd ht
   cases t with
   | true =>
    obtain ⟨b, h1, h2⟩ := more (ht rfl) (wrap64 (x3 + 1)) 0
    exact ⟨b, Ev.up (by simp only [Y6.j2, if_true]; exact h1), h2⟩
   | false =>
    cases a with
    | true =>
     obtain ⟨b, h1, h2⟩ := j3 true ha
     exact ZD
    | false =>
     cases d with
     | true =>
      obtain ⟨b, h1, h2⟩ := j3 (decide (x3 > 0)) (fun _ => hd rfl)
      exact ZD
     | false =>
      obtain ⟨b, h1, h2⟩ := j3 false (fun q => by cases q)
      exact ⟨b, Ev.up (by simp only [Y6.j2, Bool.false_eq_true, if_false]; exact h1), h2⟩
  have j1 : ∀ a d, (a = true → Y1S c) → (d = true → Y1S c) → ∃ b, Ev (fun k => Y6.j1 k s x3 x4 (ps s (c :: l)) a d) b ∧ (b = true → (∀ d ∈ c :: l, Y1S d) ∧ s.size ≤ 16) := by
   intro a d ha hd
   by_cases h45 : (c.toNat : Int) = 45
   ·obtain ⟨b, h1, h2⟩ := j2 a d (decide (x4 > 0)) ha hd (fun _ => .inr (.inr ((u8_eq (n := 45) (by omega)).mp h45)))
    exact ⟨b, Ev.up (by simp only [Y6.j1, if_pos q2, if_pos q1, hb, if_pos h45]; exact h1), h2⟩
   ·obtain ⟨b, h1, h2⟩ := j2 a d false ha hd (fun q => by cases q)
    exact ⟨b, Ev.up (by simp only [Y6.j1, if_pos q2, if_pos q1, hb, if_neg h45]; exact h1), h2⟩
  have sm : 97 ≤ c.toNat → c.toNat ≤ 122 → Y1S c := fun a b => .inl (by unfold Y2D; simp [a, b])
  have dg : 48 ≤ c.toNat → c.toNat ≤ 57 → Y1S c := fun a b => .inr (.inl (by unfold Y2z; simp [a, b]))
  by_cases h97 : (c.toNat : Int) ≥ 97
  ·have h48 : (c.toNat : Int) ≥ 48 := by omega
   obtain ⟨b, h1, h2⟩ := j1 (decide ((c.toNat : Int) ≤ 122)) (decide ((c.toNat : Int) ≤ 57)) (fun q => sm (by omega) Zr) (fun q => dg (by omega) Zr)
   exact ⟨b, Ev.up (by simp only [Y6.l0, if_pos q2, if_pos q1, hb, if_pos h97, if_pos h48]; exact h1), h2⟩
  ·by_cases h48 : (c.toNat : Int) ≥ 48
   ·obtain ⟨b, h1, h2⟩ := j1 false (decide ((c.toNat : Int) ≤ 57)) (fun q => by cases q) (fun q => dg (by omega) Zr)
    exact ⟨b, Ev.up (by simp only [Y6.l0, if_pos q2, if_pos q1, hb, if_neg h97, if_pos h48]; exact h1), h2⟩
   ·obtain ⟨b, h1, h2⟩ := j1 false false (fun q => by cases q) (fun q => by cases q)
    exact ⟨b, Ev.up (by simp only [Y6.l0, if_pos q2, if_pos q1, hb, if_neg h97, if_neg h48]; exact h1), h2⟩
def Okay (k : Int) (t e : ByteArray) : Prop :=
 (k = 1 ∧ Y3f t = true ∧ e = ⟨#[]⟩) ∨ (k = 2 ∧ (∀ c ∈ t.data.toList, Y1l c.toNat = true) ∧ t.size ≤ 8 ∧ e = ⟨#[]⟩) ∨
 (k = 3 ∧ validD t.data.toList = true ∧ t.size ≤ 30 ∧ e = ⟨#[]⟩) ∨ (k = 4 ∧ validD t.data.toList = true ∧ t.size ≤ 30 ∧ (∀ c ∈ e.data.toList, Y1S c) ∧ e.size ≤ 16) ∨
 (k = 5 ∧ validD t.data.toList = true ∧ t.size ≤ 30 ∧ Y3f e = true)
theorem emp_q {t : ByteArray} (h : (t.toList == ([] : List UInt8)) = true) : t = ⟨#[]⟩ := by
 rw [beq_iff_eq, Lib.toList_data] at h
 exact YX h
theorem is_j0 (t e : ByteArray) (ht : t.size ≤ 300) (he : e.size ≤ 300) (k : Int) (x : Bool) (hx : x = true → validD t.data.toList = true ∧ t.size ≤ 30) :
  ∃ b, Ev (fun n => Ye.j0 n x k t e) b ∧ (b = true → Okay k t e) := by
 have sz : ∀ y : ByteArray, y.size ≤ 300 → YE.f y = some (Y3f y) := fun y hy => by unfold YE.f; rw [if_pos (by unfold Y28; exact decide_eq_true (by omega))]
 by_cases k1 : k = 1
 ·cases hi : Y3f t with
  | true => exact ⟨_, Ev.up (by simp only [Ye.j0, if_pos k1, sz t ht, hi, Option.bind_some, if_true]; exact Ev.now _), fun q => .inl ⟨k1, hi, emp_q q⟩⟩
  | false => exact ⟨false, Ev.up (by simp only [Ye.j0, if_pos k1, sz t ht, hi, Option.bind_some, Bool.false_eq_true, if_false]; exact Ev.now _), fun q => by cases q⟩
 by_cases k2 : k = 2
 ·obtain ⟨b, h1, h2⟩ := label_t t (by omega) t.data.toList (Suf.whole t)
  rw [Y2d] at h1
  cases b with
  | true =>
   refine ⟨_, Ev.up ?_, fun q => .inr (.inl ⟨k2, (h2 rfl).1, (h2 rfl).2, emp_q q⟩)⟩
   simp only [Ye.j0, if_neg k1, if_pos k2]
   exact Ev.bind (g := fun n => Yl.f n t) h1 (by simp only [if_true]; exact Ev.now _)
  | false =>
   refine ⟨false, Ev.up ?_, fun q => by cases q⟩
   simp only [Ye.j0, if_neg k1, if_pos k2]
   exact Ev.bind (g := fun n => Yl.f n t) h1 (by simp only [Bool.false_eq_true, if_false]; exact Ev.now _)
 by_cases k3 : k = 3
 ·cases x with
  | true => exact ⟨_, Ev.up (by simp only [Ye.j0, if_neg k1, if_neg k2, if_pos k3, if_true]; exact Ev.now _), fun q => .inr (.inr (.inl ⟨k3, (hx rfl).1, (hx rfl).2, emp_q q⟩))⟩
  | false => exact ⟨false, Ev.up (by simp only [Ye.j0, if_neg k1, if_neg k2, if_pos k3, Bool.false_eq_true, if_false]; exact Ev.now _), fun q => by cases q⟩
 by_cases k4 : k = 4
 ·cases x with
  | true =>
   obtain ⟨b, h1, h2⟩ := lang_t e (by omega) e.data.toList (Suf.whole e) 0 0
   rw [Y2d] at h1
   refine ⟨b, Ev.up ?_, fun q => .inr (.inr (.inr (.inl ⟨k4, (hx rfl).1, (hx rfl).2, (h2 q).1, (h2 q).2⟩)))⟩
   simp only [Ye.j0, if_neg k1, if_neg k2, if_neg k3, if_pos k4, if_true]
   exact Ev.bind (g := fun n => Y6.f n e) h1 (Ev.now _)
  | false => exact ⟨false, Ev.up (by simp only [Ye.j0, if_neg k1, if_neg k2, if_neg k3, if_pos k4, Bool.false_eq_true, if_false]; exact Ev.now _), fun q => by cases q⟩
 by_cases k5 : k = 5
 ·cases x with
  | true => exact ⟨Y3f e, Ev.up (by simp only [Ye.j0, if_neg k1, if_neg k2, if_neg k3, if_neg k4, if_pos k5, if_true, sz e he, Option.bind_some]; exact Ev.now _), fun q => .inr (.inr (.inr (.inr ⟨k5, (hx rfl).1, (hx rfl).2, q⟩)))⟩
  | false => exact ⟨false, Ev.up (by simp only [Ye.j0, if_neg k1, if_neg k2, if_neg k3, if_neg k4, if_pos k5, Bool.false_eq_true, if_false]; exact Ev.now _), fun q => by cases q⟩
 exact ⟨false, Ev.up (by simp only [Ye.j0, if_neg k1, if_neg k2, if_neg k3, if_neg k4, if_neg k5]; exact Ev.now _), fun q => by cases q⟩
theorem is_t (k : Int) (t e : ByteArray) (ht : t.size ≤ 300) (he : e.size ≤ 300) : ∃ b, Ev (fun n => Ye.f n k t e) b ∧ (b = true → Okay k t e) := by
 have v : utf8_ValidString.f t = some (validD t.data.toList) := by unfold utf8_ValidString.f; rw [if_pos (by unfold Y28; exact decide_eq_true (by omega))]
 cases hv : validD t.data.toList with
 | true =>
  obtain ⟨b, h1, h2⟩ := is_j0 t e ht he k (decide ((t.size : Int) ≤ 30)) (fun q => ⟨hv, Zr⟩)
  refine ⟨b, ?_, h2⟩
  unfold Ye.f
  simp only [v, hv, Option.bind_some, if_true]
  exact h1
 | false =>
  obtain ⟨b, h1, h2⟩ := is_j0 t e ht he k false (fun q => by cases q)
  refine ⟨b, ?_, h2⟩
  unfold Ye.f
  simp only [v, hv, Option.bind_some, Bool.false_eq_true, if_false]
  exact h1
def B (l : List UInt8) : ByteArray := ⟨l.toArray⟩
theorem B_l (l : List UInt8) : (B l).data.toList = l := rfl
theorem Y1W (l : List UInt8) : (B l).size = l.length := by rw [← Y1c]; rfl
theorem B_of (t : ByteArray) : B t.data.toList = t := YX rfl
theorem ext_all (s : ByteArray) : s.extract 0 s.size = s := by apply YX; simp
theorem ext_end (s : ByteArray) : s.extract s.size s.size = ⟨#[]⟩ := by apply YX; simp
theorem drop_B (p l : List UInt8) (n m : Nat) (hn : n = p.length) (hm : m = (B (p ++ l)).size) : (B (p ++ l)).extract n m = B l := by
 subst hn; subst hm
 apply YX
 have hs : Suf (B (p ++ l)) l := ⟨p, rfl⟩
 have := Y2E hs
 have hp : (ps (B (p ++ l)) l).toNat = p.length := by unfold ps; rw [Y1W, List.length_append]; omega
 rw [hp] at this
 exact this
theorem run_all (s : ByteArray) (hs : s.size ≤ 100000) (d e : Bool) : ∀ l, Suf s l → (∀ c ∈ l, Y1l c.toNat = true ∨ (d = true ∧ c = 45)) → Ev (fun k => Yc.l0 k d (ps s l) s e) (s, ⟨#[]⟩, e)
 | [], h, ha => by
  refine Ev.up ?_
  simp only [Yc.l0, Y3i, if_neg (show ¬ (s.size : Int) < s.size by omega), if_pos (show (0 : Int) ≤ s.size by omega), if_pos (show (s.size : Int) ≤ s.size by omega), Int.toNat_natCast, ext_all, ext_end]
  exact ZC
 | c :: l, h, ha => by
  have ih := run_all s hs d e l h.tail (fun x m => ha x (List.mem_cons_of_mem _ m))
  refine Ev.up ?_
  have q3 := Y26 (by omega) h
  rcases ha c (List.mem_cons_self ..) with hc | ⟨hd, hc⟩
  ·simp only [Yc.l0, if_pos (Y3A s c l), if_pos h.ps0, Y3q h, Y3o, hc, Option.bind_some, if_true, q3]
   exact ih
  ·have h45 : (c.toNat : Int) = 45 := (u8_eq (n := 45) (by omega)).mpr hc
   have hf : Y1l c.toNat = false := by rw [hc]; decide
   simp only [Yc.l0, if_pos (Y3A s c l), if_pos h.ps0, Y3q h, Y3o, hf, Option.bind_some, Bool.false_eq_true, if_false, if_pos hd, if_pos h45, q3]
   exact ih
theorem run_f (s : ByteArray) (hs : s.size ≤ 100000) (d e : Bool) (ha : ∀ c ∈ s.data.toList, Y1l c.toNat = true ∨ (d = true ∧ c = 45)) : Ev (fun k => Yc.f k s e d) (s, ⟨#[]⟩, e) := by
 have := run_all s hs d e _ (Suf.whole s) ha
 rw [Y2d] at this
 exact this
theorem Y49 (p l : List UInt8) (e : Bool) : Y3.f (B (p ++ l)) e (B p) = some (true, B (p ++ l), e) := by
 have hx : ((B (p ++ l)).extract 0 (((B p).size : Int)).toNat).toList = (B p).toList := by
  rw [Lib.toList_data, Lib.toList_data, B_l, ByteArray.data_extract, Array.toList_extract, List.extract_eq_take_drop, B_l]
  simp [Y1W]
 have h1 : ((B (p ++ l)).size : Int) ≥ ((B p).size : Int) := by simp only [Y1W, List.length_append]; omega
 unfold Y3.f
 rw [if_pos h1, if_pos (by omega), if_pos h1, hx, beq_self_eq_true]
end Go.Proofs.YtbpbfboaofkpaaaDoor.Print
end
