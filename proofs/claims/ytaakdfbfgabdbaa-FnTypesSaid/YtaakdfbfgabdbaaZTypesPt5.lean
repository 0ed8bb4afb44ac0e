/- Printed by a program of this session: what functions of the translation come to, each contract as it stands. No condition. -/
import Derived.Test.YtaakdfbfgabdbaaZTypesSh
import Derived.Test.YtaakdfbfgabdbaaZTypesExtM
import Derived.Test.YtaakdfbfgabdbaaZTypesPt3
import Derived.Test.YtaakdfbfgabdbaaZTypesPt4
namespace Go.Proofs.Ytaakdfbfgabdbaa.Pt
open Go.RowKit Go.Proofs.Ytaakdfbfgabdbaa.Ext Go.Proofs.YtaakdfbfgabdbaaW.PrintWords Go.Proofs.YtaakdfbfgabdbaaW.PrintLast Go.Proofs.YtaakdfbfgabdbaaW.PrintMore
attribute [local go_sem] max2_int min2_int max_two min_two max_three min_three max_four min_four   -- for this text's walks alone
set_option linter.unusedVariables false
set_option linter.unusedSimpArgs false

/-! ### spec_l3Bent: function 22 -/
def spec_l3Bent.l0 : Nat → Int → Int → List Int → Int → Int → Int → List ByteArray → List (S27) → Option (Int × List ByteArray × (List (S27)) × Int × Int)
 | 0, _, _, _, _, _, _, _, _ => none
 | k + 1, x4, x5, x1000, x1001, x1002, x275000, x275001, x275002 => if x5 < x4 then ((spec_l3Bag.f k x275000 x275001 x275002).bind fun bt319 => (spec_l3Bent.l0 k x4 (wrap64 (x5 + 1)) x1000 x1001 x1002 bt319.1 bt319.2.1 bt319.2.2)) else (some (x275000, x275001, x275002, x1001, x1002))
def spec_l3Bent.f (k : Nat) (s0_0 : List Int) (s0_1 : Int) (s0_2 : Int) : Option (Int × List ByteArray × (List (S27)) × Int × Int) := (spec_l3Draw.f k s0_0 s0_1 s0_2 4).bind fun bt265 => ((spec_l1Below.f s0_0 bt265.2.2.2.1 bt265.2.2.2.2 10).bind fun bt275 => (if bt275.1 = 0 then ((spec_l1Below.f s0_0 bt275.2.1 bt275.2.2 7).bind fun bt278 => (some (bt278.1, bt265.2.1, bt265.2.2.1, bt278.2.1, bt278.2.2))) else (if bt275.1 = 1 then ((spec_l1Pick.f s0_0 bt275.2.1 bt275.2.2 (([(⟨#[97]⟩ : ByteArray), (⟨#[122]⟩ : ByteArray), (⟨#[105, 102]⟩ : ByteArray)] : List ByteArray))).bind fun bt284 => (if bt265.2.1.length < 8796093022208 then (some (bt265.1, (bt265.2.1 ++ [bt284.1]), bt265.2.2.1, bt284.2.1, bt284.2.2)) else (none))) else (if bt275.1 = 2 then ((spec_l3Int.f).bind fun bt290 => (if bt265.2.2.1.length < 2513169434916 then (some (bt265.1, bt265.2.1, (bt265.2.2.1 ++ [(⟨bt290.1, bt290.2.1, bt290.2.2⟩ : S27)]), bt275.2.1, bt275.2.2)) else (none))) else (if bt275.1 = 3 then ((spec_l3Draw.f k s0_0 bt275.2.1 bt275.2.2 2).bind fun bt300 => ((spec_l3Fun.f k bt265.1 bt265.2.1 bt265.2.2.1 bt300.1 bt300.2.1 bt300.2.2.1).bind fun bt309 => (some (bt309.1, bt309.2.1, bt309.2.2, bt300.2.2.2.1, bt300.2.2.2.2)))) else (if bt275.1 = 4 then ((spec_l1Below.f s0_0 bt275.2.1 bt275.2.2 5).bind fun bt316 => (spec_l3Bent.l0 k (wrap64 (1 + bt316.1)) 0 s0_0 bt316.2.1 bt316.2.2 bt265.1 bt265.2.1 bt265.2.2.1)) else (some (bt265.1, bt265.2.1, bt265.2.2.1, bt275.2.1, bt275.2.2))))))))
def spec_l3Bent.T6 : Bool × List (List Nat × List Nat) := (true, [([], []), ([0], [0]), ([], []), ([], []), ([2, 3], [2, 3]), ([4], [4]), ([1, 5, 4], [1, 5]), ([0, 1, 2, 3, 4, 5, 6], []), ([7, 6, 6, 0, 1, 2, 3, 4, 5, 6], [6, 7])])
def spec_l3Bent.B6 : List Nat := [0, 1, 0, 0, 12, 28, 63, 127, 255]
theorem spec_l3Bent.tab6 : rtab .any (opsOf Try.f22 6) = spec_l3Bent.T6 := by kernel_rfl
theorem spec_l3Bent.bits6 : waitsOk spec_l3Bent.T6.2 spec_l3Bent.B6 = true := by kernel_rfl
set_option maxHeartbeats 8000000 in
set_option maxRecDepth 100000 in
theorem spec_l3Bent.calls (k : Nat) (g : Nat) (s0_0 : List Int) (s0_1 : Int) (s0_2 : Int) (r1 : Int) (r2 : List ByteArray) (r3 : List (S27)) (r4 : Int) (r5 : Int) (w0 w : World) (hI : IsS58 w0 w g s0_0 s0_1 s0_2) (hB : Below w0.heap.size w0 w) (h : spec_l3Bent.f k s0_0 s0_1 s0_2 = some (r1, r2, r3, r4, r5)) :
  Calls Try.prog 22 #[.pointer (some ⟨g, 0, none⟩)] w fun e w' => ∃ v1_ v2_ : Value, e = .returned (.agg #[.int .i64 r1, v1_, v2_]) ∧ Kd.R Kd.string 9 w' w.heap.size (fun k_ => (w.heap.size ≤ k_)) v1_ r2 ∧ Kd.N k27 27 w' w.heap.size (fun k_ => (w.heap.size ≤ k_) ∧ some k_ ≠ (v1_ : Value).ownBlock) v2_ r3 ∧ IsS58 w0 w' g s0_0 r4 r5 ∧ Below w0.heap.size w0 w' ∧ KeepBut w w' g none := by
 have hu27 := Try.underlying27
 have HI0 := Aside0.mk hI
 have HK := Aside0.mk (KeepBut.refl w g none)
 have HL := Aside0.mk hB.size
 clear hI
 have HW0 := Aside0.mk hB.size
 have HB := Aside0.mk hB
 clear hB
 have H : ((spec_l3Draw.f k s0_0 s0_1 s0_2 4).bind fun bt265 => ((spec_l1Below.f s0_0 bt265.2.2.2.1 bt265.2.2.2.2 10).bind fun bt275 => (if bt275.1 = 0 then ((spec_l1Below.f s0_0 bt275.2.1 bt275.2.2 7).bind fun bt278 => (some (bt278.1, bt265.2.1, bt265.2.2.1, bt278.2.1, bt278.2.2))) else (if bt275.1 = 1 then ((spec_l1Pick.f s0_0 bt275.2.1 bt275.2.2 (([(⟨#[97]⟩ : ByteArray), (⟨#[122]⟩ : ByteArray), (⟨#[105, 102]⟩ : ByteArray)] : List ByteArray))).bind fun bt284 => (if bt265.2.1.length < 8796093022208 then (some (bt265.1, (bt265.2.1 ++ [bt284.1]), bt265.2.2.1, bt284.2.1, bt284.2.2)) else (none))) else (if bt275.1 = 2 then ((spec_l3Int.f).bind fun bt290 => (if bt265.2.2.1.length < 2513169434916 then (some (bt265.1, bt265.2.1, (bt265.2.2.1 ++ [(⟨bt290.1, bt290.2.1, bt290.2.2⟩ : S27)]), bt275.2.1, bt275.2.2)) else (none))) else (if bt275.1 = 3 then ((spec_l3Draw.f k s0_0 bt275.2.1 bt275.2.2 2).bind fun bt300 => ((spec_l3Fun.f k bt265.1 bt265.2.1 bt265.2.2.1 bt300.1 bt300.2.1 bt300.2.2.1).bind fun bt309 => (some (bt309.1, bt309.2.1, bt309.2.2, bt300.2.2.2.1, bt300.2.2.2.2)))) else (if bt275.1 = 4 then ((spec_l1Below.f s0_0 bt275.2.1 bt275.2.2 5).bind fun bt316 => (spec_l3Bent.l0 k (wrap64 (1 + bt316.1)) 0 s0_0 bt316.2.1 bt316.2.2 bt265.1 bt265.2.1 bt265.2.2.1)) else (some (bt265.1, bt265.2.1, bt265.2.2.1, bt275.2.1, bt275.2.2))))))))) = some (r1, r2, r3, r4, r5) := h
 clear h
 replace H := Option.bind_eq_some_iff.mp H
 obtain ⟨⟨t265, t266, t269, t272, t273⟩, A20, H⟩ := H
 replace H : ((spec_l1Below.f s0_0 t272 t273 10).bind fun bt275 => (if bt275.1 = 0 then ((spec_l1Below.f s0_0 bt275.2.1 bt275.2.2 7).bind fun bt278 => (some (bt278.1, t266, t269, bt278.2.1, bt278.2.2))) else (if bt275.1 = 1 then ((spec_l1Pick.f s0_0 bt275.2.1 bt275.2.2 (([(⟨#[97]⟩ : ByteArray), (⟨#[122]⟩ : ByteArray), (⟨#[105, 102]⟩ : ByteArray)] : List ByteArray))).bind fun bt284 => (if t266.length < 8796093022208 then (some (t265, (t266 ++ [bt284.1]), t269, bt284.2.1, bt284.2.2)) else (none))) else (if bt275.1 = 2 then ((spec_l3Int.f).bind fun bt290 => (if t269.length < 2513169434916 then (some (t265, t266, (t269 ++ [(⟨bt290.1, bt290.2.1, bt290.2.2⟩ : S27)]), bt275.2.1, bt275.2.2)) else (none))) else (if bt275.1 = 3 then ((spec_l3Draw.f k s0_0 bt275.2.1 bt275.2.2 2).bind fun bt300 => ((spec_l3Fun.f k t265 t266 t269 bt300.1 bt300.2.1 bt300.2.2.1).bind fun bt309 => (some (bt309.1, bt309.2.1, bt309.2.2, bt300.2.2.2.1, bt300.2.2.2.2)))) else (if bt275.1 = 4 then ((spec_l1Below.f s0_0 bt275.2.1 bt275.2.2 5).bind fun bt316 => (spec_l3Bent.l0 k (wrap64 (1 + bt316.1)) 0 s0_0 bt316.2.1 bt316.2.2 t265 t266 t269)) else (some (t265, t266, t269, bt275.2.1, bt275.2.2)))))))) = some (r1, r2, r3, r4, r5) := H
 have A2 := Aside0.mk A20
 clear A20
 replace H := Option.bind_eq_some_iff.mp H
 obtain ⟨⟨t275, t276, t277⟩, A30, H⟩ := H
 replace H : (if t275 = 0 then ((spec_l1Below.f s0_0 t276 t277 7).bind fun bt278 => (some (bt278.1, t266, t269, bt278.2.1, bt278.2.2))) else (if t275 = 1 then ((spec_l1Pick.f s0_0 t276 t277 (([(⟨#[97]⟩ : ByteArray), (⟨#[122]⟩ : ByteArray), (⟨#[105, 102]⟩ : ByteArray)] : List ByteArray))).bind fun bt284 => (if t266.length < 8796093022208 then (some (t265, (t266 ++ [bt284.1]), t269, bt284.2.1, bt284.2.2)) else (none))) else (if t275 = 2 then ((spec_l3Int.f).bind fun bt290 => (if t269.length < 2513169434916 then (some (t265, t266, (t269 ++ [(⟨bt290.1, bt290.2.1, bt290.2.2⟩ : S27)]), t276, t277)) else (none))) else (if t275 = 3 then ((spec_l3Draw.f k s0_0 t276 t277 2).bind fun bt300 => ((spec_l3Fun.f k t265 t266 t269 bt300.1 bt300.2.1 bt300.2.2.1).bind fun bt309 => (some (bt309.1, bt309.2.1, bt309.2.2, bt300.2.2.2.1, bt300.2.2.2.2)))) else (if t275 = 4 then ((spec_l1Below.f s0_0 t276 t277 5).bind fun bt316 => (spec_l3Bent.l0 k (wrap64 (1 + bt316.1)) 0 s0_0 bt316.2.1 bt316.2.2 t265 t266 t269)) else (some (t265, t266, t269, t276, t277))))))) = some (r1, r2, r3, r4, r5) := H
 have A3 := Aside0.mk A30
 clear A30
 have HC4 := Aside0.mk H
 clear H
 go_enter Try.func22, Try.ntmps22
 go_upto_if 10 with (first | ((with_reducible refine gate_dst (N := 2) rfl ?_); refine box_event ?hg (N := 2) ?hd (cs := #[.int .i64 0, .slice none 0 0, .slice none 0 0]) (t := 27) ?hr ?_; (case hd => rfl); (case hg => rfl); (case hr => exact hrw); intro gb264 hg w5 hbox hb; have n0_ := Aside0.mk (IsS58.below (by repeat (first | (with_reducible first | exact HI0.out | apply IsS58.alloc | apply IsS58.drewN | apply IsS58.drew | apply IsS58.set_1 | apply IsS58.set_2) | exact HI0.out)) hb); have n1_ := Aside0.mk (KeepBut.trans (by repeat (first | (with_reducible first | exact HK.out | apply KeepBut.set_ | apply keep_drewN | apply keep_drew | apply keep_alloc) | exact HK.out)) (KeepBut.of_below hb g none) (.inl rfl)); have n2_ := Aside0.mk (below_step (by repeat (first | (with_reducible first | exact HB.out | apply below_alloc | apply pw_below_drewN | apply below_drew1 | refine below_set ?_ (IsS58.ge HI0.out)) | exact HB.out)) hb); have n3_ := Aside0.mk (hbox); have n4_ := Aside0.mk ((by rw [hg]; exact (keep_size (w := w) (g := g) (row := none) (by repeat (first | (with_reducible first | exact HK.out | apply KeepBut.set_ | apply keep_drewN | apply keep_drew | apply keep_alloc) | exact HK.out))) : w.heap.size ≤ gb264)); have n5_ := Aside0.mk ((Nat.le_trans HW0.out (by rw [hg]; exact (keep_size (w := w) (g := g) (row := none) (by repeat (first | (with_reducible first | exact HK.out | apply KeepBut.set_ | apply keep_drewN | apply keep_drew | apply keep_alloc) | exact HK.out))) : w.heap.size ≤ gb264) : w0.heap.size ≤ gb264)); have n6_ := Aside0.mk ((by rw [hg]; exact Nat.ne_of_lt (IsS58.lt (show IsS58 w0 _ g s0_0 s0_1 s0_2 from by repeat (first | (with_reducible first | exact HI0.out | apply IsS58.alloc | apply IsS58.drewN | apply IsS58.drew | apply IsS58.set_1 | apply IsS58.set_2) | exact HI0.out))) : g ≠ gb264)); have n7_ := Aside0.mk ((by rw [hg]; exact Nat.ne_of_gt (IsS58.lt (show IsS58 w0 _ g s0_0 s0_1 s0_2 from by repeat (first | (with_reducible first | exact HI0.out | apply IsS58.alloc | apply IsS58.drewN | apply IsS58.drew | apply IsS58.set_1 | apply IsS58.set_2) | exact HI0.out))) : gb264 ≠ g)); clear HI0; clear HK; clear HB; revert n0_ n1_ n2_ n3_ n4_ n5_ n6_ n7_; intro HI0 HK HB BK264 GW264 GE264 NB0_264 NB264_0; clear hb hbox hg) | ((with_reducible refine gate_callee (f := 31) rfl ?_); refine goesL_ (some 7) rfl rfl Try.func31 kr rfl #[.pointer (some ⟨g, 0, none⟩), .int .i64 4] rfl mpw ?_; (with_reducible refine (spec_l3Draw.calls k g s0_0 s0_1 s0_2 4 t265 t266 t269 t272 t273 w0 _ ?side1 ?side2 A2.out).mono ?_); (case side1 => repeat (first | (with_reducible first | exact HI0.out | apply IsS58.alloc | apply IsS58.drewN | apply IsS58.drew | apply IsS58.set_1 | apply IsS58.set_2 | refine IsS58.far ?_ NB0_264.out _) | exact HI0.out)); (case side2 => repeat (first | (with_reducible first | exact HB.out | apply below_alloc | apply pw_below_drewN | apply below_drew1 | refine below_set ?_ (IsS58.ge HI0.out) | refine below_set ?_ GE264.out) | exact HB.out)); rintro e w6 ⟨v267, v270, rfl, ho0, ho1, hi, hb, hk⟩; refine ⟨_, rfl, ?_⟩; have n0_ := Aside0.mk (KeepBut.blk hk (g' := gb264) (o := .cells #[.int .i64 0, .slice none 0 0, .slice none 0 0] 27 (0, 0)) bkw NB264_0.out (by simp)); have n1_ := Aside0.mk (Kd.R_lower (Kd.R_newM (M := fun k_ => (w.heap.size ≤ k_)) (Kd.R_mono (ok' := fun k_ => True) ho0 (fun _ hk_ => trivial)) (keep_size (w := w) (g := g) (row := none) (by repeat (first | (with_reducible first | exact HK.out | apply KeepBut.set_ | apply keep_drewN | apply keep_drew | apply keep_alloc | refine keep_far ?_ GW264.out _) | exact HK.out))) (fun k_ h_ => h_)) (keep_size (w := w) (g := g) (row := none) (by repeat (first | (with_reducible first | exact HK.out | apply KeepBut.set_ | apply keep_drewN | apply keep_drew | apply keep_alloc | refine keep_far ?_ GW264.out _) | exact HK.out)))); have n2_ := Aside0.mk (Kd.N_lower (Kd.N_mono (ok' := fun k_ => (w.heap.size ≤ k_) ∧ some k_ ≠ (v267 : Value).ownBlock ∧ k_ ≠ gb264 ∧ k_ ≠ g) ho1 (fun k_ hk_ => ⟨(Nat.le_trans (keep_size (w := w) (g := g) (row := none) (by repeat (first | (with_reducible first | exact HK.out | apply KeepBut.set_ | apply keep_drewN | apply keep_drew | apply keep_alloc | refine keep_far ?_ GW264.out _) | exact HK.out))) hk_.1), hk_.2, (Kd.freshB (g := gb264) (o := .cells #[.int .i64 0, .slice none 0 0, .slice none 0 0] 27 (0, 0)) bkw k_ hk_.1), (IsS58.fresh (by repeat (first | (with_reducible first | exact HI0.out | apply IsS58.alloc | apply IsS58.drewN | apply IsS58.drew | apply IsS58.set_1 | apply IsS58.set_2 | refine IsS58.far ?_ NB0_264.out _) | exact HI0.out)) k_ hk_.1)⟩)) (keep_size (w := w) (g := g) (row := none) (by repeat (first | (with_reducible first | exact HK.out | apply KeepBut.set_ | apply keep_drewN | apply keep_drew | apply keep_alloc | refine keep_far ?_ GW264.out _) | exact HK.out)))); have n3_ := Aside0.mk (KeepBut.trans (by repeat (first | (with_reducible first | exact HK.out | apply KeepBut.set_ | apply keep_drewN | apply keep_drew | apply keep_alloc | refine keep_far ?_ GW264.out _) | exact HK.out)) hk (.inl rfl)); have n4_ := Aside0.mk (hb); have n5_ := Aside0.mk (hi); clear BK264; clear HK; clear HB; clear HI0; revert n0_ n1_ n2_ n3_ n4_ n5_; intro BK264 HO268 HO271 HK HB HI0; (try clear hb); (try clear hb2); (try clear hk); (try clear hi); (try clear ho0); (try clear ho1)) | ((with_reducible refine gate_dst (N := 3) rfl ?_); refine box_event ?hg (N := 3) ?hd (cs := #[.int .i64 0, .slice none 0 0, .slice none 0 0]) (t := 27) ?hr ?_; (case hd => rfl); (case hg => rfl); (case hr => exact hrw); intro gb274 hg w7 hbox hb; have n0_ := Aside0.mk (Kd.R_below (by (with_reducible repeat (first | apply Kd.R_alloc | apply Kd.R_drewN | apply Kd.R_drew)); exact HO268.out) hb); have n1_ := Aside0.mk (Kd.N_below (Kd.N_elderB (by (with_reducible repeat (first | apply Kd.N_alloc | apply Kd.N_drewN | apply Kd.N_drew)); exact HO271.out) gb274 (Nat.le_of_eq hg.symm)) hb); have n2_ := Aside0.mk (IsS58.below (by repeat (first | (with_reducible first | exact HI0.out | apply IsS58.alloc | apply IsS58.drewN | apply IsS58.drew | apply IsS58.set_1 | apply IsS58.set_2 | refine IsS58.far ?_ NB0_264.out _) | exact HI0.out)) hb); have n3_ := Aside0.mk (blk_below (g := gb264) (o := .cells #[.int .i64 0, .slice none 0 0, .slice none 0 0] 27 (0, 0)) bkw hb); have n4_ := Aside0.mk (KeepBut.trans (by repeat (first | (with_reducible first | exact HK.out | apply KeepBut.set_ | apply keep_drewN | apply keep_drew | apply keep_alloc | refine keep_far ?_ GW264.out _) | exact HK.out)) (KeepBut.of_below hb g none) (.inl rfl)); have n5_ := Aside0.mk (below_step (by repeat (first | (with_reducible first | exact HB.out | apply below_alloc | apply pw_below_drewN | apply below_drew1 | refine below_set ?_ (IsS58.ge HI0.out) | refine below_set ?_ GE264.out) | exact HB.out)) hb); have n6_ := Aside0.mk (hbox); have n7_ := Aside0.mk ((by rw [hg]; exact (keep_size (w := w) (g := g) (row := none) (by repeat (first | (with_reducible first | exact HK.out | apply KeepBut.set_ | apply keep_drewN | apply keep_drew | apply keep_alloc | refine keep_far ?_ GW264.out _) | exact HK.out))) : w.heap.size ≤ gb274)); have n8_ := Aside0.mk ((Nat.le_trans HW0.out (by rw [hg]; exact (keep_size (w := w) (g := g) (row := none) (by repeat (first | (with_reducible first | exact HK.out | apply KeepBut.set_ | apply keep_drewN | apply keep_drew | apply keep_alloc | refine keep_far ?_ GW264.out _) | exact HK.out))) : w.heap.size ≤ gb274) : w0.heap.size ≤ gb274)); have n9_ := Aside0.mk ((by rw [hg]; exact Nat.ne_of_lt (blk_lt (g := gb264) (o := .cells #[.int .i64 0, .slice none 0 0, .slice none 0 0] 27 (0, 0)) bkw) : gb264 ≠ gb274)); have n10_ := Aside0.mk ((by rw [hg]; exact Nat.ne_of_gt (blk_lt (g := gb264) (o := .cells #[.int .i64 0, .slice none 0 0, .slice none 0 0] 27 (0, 0)) bkw) : gb274 ≠ gb264)); have n11_ := Aside0.mk ((by rw [hg]; exact Nat.ne_of_lt (IsS58.lt (show IsS58 w0 _ g s0_0 t272 t273 from by repeat (first | (with_reducible first | exact HI0.out | apply IsS58.alloc | apply IsS58.drewN | apply IsS58.drew | apply IsS58.set_1 | apply IsS58.set_2 | refine IsS58.far ?_ NB0_264.out _) | exact HI0.out))) : g ≠ gb274)); have n12_ := Aside0.mk ((by rw [hg]; exact Nat.ne_of_gt (IsS58.lt (show IsS58 w0 _ g s0_0 t272 t273 from by repeat (first | (with_reducible first | exact HI0.out | apply IsS58.alloc | apply IsS58.drewN | apply IsS58.drew | apply IsS58.set_1 | apply IsS58.set_2 | refine IsS58.far ?_ NB0_264.out _) | exact HI0.out))) : gb274 ≠ g)); clear HO268; clear HO271; clear HI0; clear BK264; clear HK; clear HB; revert n0_ n1_ n2_ n3_ n4_ n5_ n6_ n7_ n8_ n9_ n10_ n11_ n12_; intro HO268 HO271 HI0 BK264 HK HB BK274 GW274 GE274 NB264_274 NB274_264 NB0_274 NB274_0; clear hb hbox hg; have hnb8 := NB274_264.out; have hnc8 := NB264_274.out; have hnb9 := NB274_0.out; have hnc9 := NB0_274.out; obtain ⟨hcz10_0, hcz10_1, hcz10_2⟩ := cls3 BK274.out; obtain ⟨hfz10_0, hfz10_1, hfz10_2⟩ := frz3 BK274.out; obtain ⟨Ao11, co11, eo11⟩ := Kd.R_slice HO268.out; subst eo11; obtain ⟨Ao12, co12, eo12⟩ := Kd.N_slice HO271.out; subst eo12) | ((with_reducible refine gate_callee (f := 44) rfl ?_); refine goesL_ (some 9) rfl rfl Try.func44 kr rfl #[.pointer (some ⟨g, 0, none⟩), .int .i64 10] rfl mpw ?_; (with_reducible refine (spec_l1Below.calls g s0_0 t272 t273 10 t275 t276 t277 w0 _ ?side1 ?side2 A3.out).mono ?_); (case side1 => repeat (first | (with_reducible first | exact HI0.out | apply IsS58.alloc | apply IsS58.drewN | apply IsS58.drew | apply IsS58.set_1 | apply IsS58.set_2 | refine IsS58.far ?_ NB0_264.out _ | refine IsS58.far ?_ NB0_274.out _) | exact HI0.out)); (case side2 => repeat (first | (with_reducible first | exact HB.out | apply below_alloc | apply pw_below_drewN | apply below_drew1 | refine below_set ?_ (IsS58.ge HI0.out) | refine below_set ?_ GE264.out | refine below_set ?_ GE274.out) | exact HB.out)); rintro e w13 ⟨rfl, hi, hb, hk⟩; refine ⟨_, rfl, ?_⟩; have n0_ := Aside0.mk (KeepBut.blk hk (g' := gb264) (o := .cells #[.int .i64 0, .slice none 0 0, .slice none 0 0] 27 (0, 0)) (by (with_reducible repeat (first | refine blk_drewN ?_ _ | refine blk_drew ?_ | refine blk_alloc ?_ _)); refine blk_far ?_ NB264_274.out _; (with_reducible repeat (first | refine blk_drewN ?_ _ | refine blk_drew ?_ | refine blk_alloc ?_ _)); refine blk_far ?_ NB264_274.out _; (with_reducible repeat (first | refine blk_drewN ?_ _ | refine blk_drew ?_ | refine blk_alloc ?_ _)); refine blk_far ?_ NB264_274.out _; (with_reducible repeat (first | refine blk_drewN ?_ _ | refine blk_drew ?_ | refine blk_alloc ?_ _)); exact BK264.out) NB264_0.out (by simp)); have n1_ := Aside0.mk (Kd.R_mono (Kd.R_keep (IsS58.apart (show IsS58 w0 _ g s0_0 t272 t273 from by repeat (first | (with_reducible first | exact HI0.out | apply IsS58.alloc | apply IsS58.drewN | apply IsS58.drew | apply IsS58.set_1 | apply IsS58.set_2 | refine IsS58.far ?_ NB0_264.out _ | refine IsS58.far ?_ NB0_274.out _) | exact HI0.out)) (by (with_reducible repeat (first | apply Kd.R_alloc | apply Kd.R_drewN | apply Kd.R_drew)); exact (Kd.R_mono (Kd.R_far (p := ⟨gb274, 2, none⟩) (Kd.R_far (p := ⟨gb274, 1, none⟩) (Kd.R_far (p := ⟨gb274, 0, none⟩) (Kd.R_types HO268.out BK274.out (by decide)) (fun _ hk => hk.2) (.int .i64 t265)) (fun _ hk => hk.2) (.slice Ao11 t266.length co11)) (fun _ hk => hk.2) (.slice Ao12 t269.length co12)) (fun _ h_ => h_.1))) (by decide)) hk (fun _ h => h.2)) (fun _ h => h.1)); have n2_ := Aside0.mk (Kd.N_mono (Kd.N_keep (Kd.N_mono (ok := fun k_ => ((((w.heap.size ≤ k_)) ∧ (some k_ ≠ (.slice Ao11 t266.length co11 : Value).ownBlock ∧ (k_ ≠ gb264 ∧ k_ ≠ g))) ∧ k_ ≠ gb274)) (by (with_reducible repeat (first | apply Kd.N_alloc | apply Kd.N_drewN | apply Kd.N_drew)); exact (Kd.N_mono (Kd.N_far (p := ⟨gb274, 2, none⟩) (Kd.N_far (p := ⟨gb274, 1, none⟩) (Kd.N_far (p := ⟨gb274, 0, none⟩) (Kd.N_mono HO271.out (fun k_ hk => (⟨hk, hk.2⟩ : _ ∧ k_ ≠ gb274))) (fun _ hk => hk.2) (.int .i64 t265)) (fun _ hk => hk.2) (.slice Ao11 t266.length co11)) (fun _ hk => hk.2) (.slice Ao12 t269.length co12)) (fun _ h_ => h_.1))) (fun k_ hk_ => (⟨hk_, hk_.1.2.2.2⟩ : _ ∧ k_ ≠ g))) hk (fun _ h => h.2)) (fun _ h => h.1)); have n3_ := Aside0.mk (KeepBut.blk hk (g' := gb274) (o := .cells #[.int .i64 t265, .slice Ao11 t266.length co11, .slice Ao12 t269.length co12] 27 (0, 0)) (by (with_reducible repeat (first | refine blk_drewN ?_ _ | refine blk_drew ?_ | refine blk_alloc ?_ _)); refine blk_put (cs := #[.int .i64 t265, .slice Ao11 t266.length co11, .slice none 0 0]) ?_ 2 _ rfl; (with_reducible repeat (first | refine blk_drewN ?_ _ | refine blk_drew ?_ | refine blk_alloc ?_ _)); refine blk_put (cs := #[.int .i64 t265, .slice none 0 0, .slice none 0 0]) ?_ 1 _ rfl; (with_reducible repeat (first | refine blk_drewN ?_ _ | refine blk_drew ?_ | refine blk_alloc ?_ _)); refine blk_put (cs := #[.int .i64 0, .slice none 0 0, .slice none 0 0]) ?_ 0 _ rfl; (with_reducible repeat (first | refine blk_drewN ?_ _ | refine blk_drew ?_ | refine blk_alloc ?_ _)); exact BK274.out) NB274_0.out (by simp)); have n4_ := Aside0.mk (KeepBut.trans (by repeat (first | (with_reducible first | exact HK.out | apply KeepBut.set_ | apply keep_drewN | apply keep_drew | apply keep_alloc | refine keep_far ?_ GW264.out _ | refine keep_far ?_ GW274.out _) | exact HK.out)) hk (.inl rfl)); have n5_ := Aside0.mk (hb); have n6_ := Aside0.mk (hi); clear BK264; clear HO268; clear HO271; clear BK274; clear HK; clear HB; clear HI0; revert n0_ n1_ n2_ n3_ n4_ n5_ n6_; intro BK264 HO268 HO271 BK274 HK HB HI0; (try clear hb); (try clear hb2); (try clear hk); (try clear hi)))
 have H := HC4.out
 clear HC4
 by_cases c14 : t275 = 0
 ·rw [if_pos c14] at H
  have c14b0 : (t275 == 0) = true := beq_iff_eq.mpr c14
  have c14b1 : (t275 != 0) = false := bne_eq_false_iff_eq.mpr c14
  clear c14
  (first | rw [c14b0] | (simp only [i64_w, i32_w]; rw [c14b0]) | (rw [c14b1]; (try simp only [Bool.not_true, Bool.not_false])) | skip)
  replace H := Option.bind_eq_some_iff.mp H
  obtain ⟨⟨t278, t279, t280⟩, A150, H⟩ := H
  replace H : (some (t278, t266, t269, t279, t280)) = some (r1, r2, r3, r4, r5) := H
  have A15 := Aside0.mk A150
  clear A150
  simp only [Option.some.injEq, Prod.mk.injEq] at H
  obtain ⟨rfl, rfl, rfl, rfl, rfl⟩ := H
  go_wp2_with (first | ((with_reducible refine gate_callee (f := 44) rfl ?_); refine goesL_ (some 13) rfl rfl Try.func44 kr rfl #[.pointer (some ⟨g, 0, none⟩), .int .i64 7] rfl mpw ?_; (with_reducible refine (spec_l1Below.calls g s0_0 t276 t277 7 t278 t279 t280 w0 _ ?side1 ?side2 A15.out).mono ?_); (case side1 => repeat (first | (with_reducible first | exact HI0.out | apply IsS58.alloc | apply IsS58.drewN | apply IsS58.drew | apply IsS58.set_1 | apply IsS58.set_2 | refine IsS58.far ?_ NB0_264.out _ | refine IsS58.far ?_ NB0_274.out _) | exact HI0.out)); (case side2 => repeat (first | (with_reducible first | exact HB.out | apply below_alloc | apply pw_below_drewN | apply below_drew1 | refine below_set ?_ (IsS58.ge HI0.out) | refine below_set ?_ GE264.out | refine below_set ?_ GE274.out) | exact HB.out)); rintro e w16 ⟨rfl, hi, hb, hk⟩; refine ⟨_, rfl, ?_⟩; have n0_ := Aside0.mk (KeepBut.blk hk (g' := gb264) (o := .cells #[.int .i64 0, .slice none 0 0, .slice none 0 0] 27 (0, 0)) bkw NB264_0.out (by simp)); have n1_ := Aside0.mk (Kd.R_mono (Kd.R_keep (IsS58.apart (show IsS58 w0 _ g s0_0 t276 t277 from by repeat (first | (with_reducible first | exact HI0.out | apply IsS58.alloc | apply IsS58.drewN | apply IsS58.drew | apply IsS58.set_1 | apply IsS58.set_2 | refine IsS58.far ?_ NB0_264.out _ | refine IsS58.far ?_ NB0_274.out _) | exact HI0.out)) (by (with_reducible repeat (first | apply Kd.R_alloc | apply Kd.R_drewN | apply Kd.R_drew)); exact HO268.out) (by decide)) hk (fun _ h => h.2)) (fun _ h => h.1)); have n2_ := Aside0.mk (Kd.N_mono (Kd.N_keep (Kd.N_mono (ok := fun k_ => ((((w.heap.size ≤ k_)) ∧ (some k_ ≠ (.slice Ao11 t266.length co11 : Value).ownBlock ∧ (k_ ≠ gb264 ∧ k_ ≠ g))) ∧ k_ ≠ gb274)) (by (with_reducible repeat (first | apply Kd.N_alloc | apply Kd.N_drewN | apply Kd.N_drew)); exact HO271.out) (fun k_ hk_ => (⟨hk_, hk_.1.2.2.2⟩ : _ ∧ k_ ≠ g))) hk (fun _ h => h.2)) (fun _ h => h.1)); have n3_ := Aside0.mk (KeepBut.blk hk (g' := gb274) (o := .cells #[.int .i64 t265, .slice Ao11 t266.length co11, .slice Ao12 t269.length co12] 27 (0, 0)) bkw NB274_0.out (by simp)); have n4_ := Aside0.mk (KeepBut.trans (by repeat (first | (with_reducible first | exact HK.out | apply KeepBut.set_ | apply keep_drewN | apply keep_drew | apply keep_alloc | refine keep_far ?_ GW264.out _ | refine keep_far ?_ GW274.out _) | exact HK.out)) hk (.inl rfl)); have n5_ := Aside0.mk (hb); have n6_ := Aside0.mk (hi); clear BK264; clear HO268; clear HO271; clear BK274; clear HK; clear HB; clear HI0; revert n0_ n1_ n2_ n3_ n4_ n5_ n6_; intro BK264 HO268 HO271 BK274 HK HB HI0; (try clear hb); (try clear hb2); (try clear hk); (try clear hi); have hnb17 := NB274_264.out; have hnc17 := NB264_274.out; have hnb18 := NB274_0.out; have hnc18 := NB0_274.out; obtain ⟨hcz19_0, hcz19_1, hcz19_2⟩ := cls3 BK274.out; obtain ⟨hfz19_0, hfz19_1, hfz19_2⟩ := frz3 BK274.out; have hnb20 := NB264_0.out; have hnc20 := NB0_264.out; obtain ⟨hcz21_0, hcz21_1, hcz21_2⟩ := cls3 BK264.out; obtain ⟨hfz21_0, hfz21_1, hfz21_2⟩ := frz3 BK264.out))
  refine bodyPost_ret (results_cell_row rfl _ _ gb264 27 #[.int .i64 t278, .slice Ao11 t266.length co11, .slice Ao12 t269.length co12] (0, 0) _ rfl (by (with_reducible repeat (first | refine blk_drewN ?_ _ | refine blk_drew ?_ | refine blk_alloc ?_ _)); refine blk_put (cs := #[.int .i64 t278, .slice Ao11 t266.length co11, .slice none 0 0]) ?_ 2 _ rfl; (with_reducible repeat (first | refine blk_drewN ?_ _ | refine blk_drew ?_ | refine blk_alloc ?_ _)); refine blk_put (cs := #[.int .i64 t278, .slice none 0 0, .slice none 0 0]) ?_ 1 _ rfl; (with_reducible repeat (first | refine blk_drewN ?_ _ | refine blk_drew ?_ | refine blk_alloc ?_ _)); refine blk_put (cs := #[.int .i64 0, .slice none 0 0, .slice none 0 0]) ?_ 0 _ rfl; (with_reducible repeat (first | refine blk_drewN ?_ _ | refine blk_drew ?_ | refine blk_alloc ?_ _)); refine blk_far ?_ NB264_274.out _; (with_reducible repeat (first | refine blk_drewN ?_ _ | refine blk_drew ?_ | refine blk_alloc ?_ _)); exact BK264.out) Try.underlying27 rfl kr) rfl ?_
  exact ⟨_, _, rfw, by (with_reducible repeat (first | apply Kd.R_alloc | apply Kd.R_drewN | apply Kd.R_drew)); exact Kd.R_mono (Kd.R_far (p := ⟨gb264, 2, none⟩) (Kd.R_far (p := ⟨gb264, 1, none⟩) (Kd.R_far (p := ⟨gb264, 0, none⟩) (Kd.R_far (p := ⟨gb274, 0, none⟩) (Kd.R_types (Kd.R_types HO268.out BK274.out (by decide)) BK264.out (by decide)) (fun _ hk => hk.1.2) (.int .i64 t278)) (fun _ hk => hk.2) (.int .i64 t278)) (fun _ hk => hk.2) (.slice Ao11 t266.length co11)) (fun _ hk => hk.2) (.slice Ao12 t269.length co12)) (fun _ hk => hk.1.1.1), by (with_reducible repeat (first | apply Kd.N_alloc | apply Kd.N_drewN | apply Kd.N_drew)); exact Kd.N_mono (Kd.N_far (p := ⟨gb264, 2, none⟩) (Kd.N_far (p := ⟨gb264, 1, none⟩) (Kd.N_far (p := ⟨gb264, 0, none⟩) (Kd.N_far (p := ⟨gb274, 0, none⟩) (Kd.N_mono (Kd.N_mono HO271.out (fun k_ hk => (⟨hk, hk.2⟩ : _ ∧ k_ ≠ gb274))) (fun k_ hk => (⟨hk, hk.1.1.2.2.1⟩ : _ ∧ k_ ≠ gb264))) (fun _ hk => hk.1.2) (.int .i64 t278)) (fun _ hk => hk.2) (.int .i64 t278)) (fun _ hk => hk.2) (.slice Ao11 t266.length co11)) (fun _ hk => hk.2) (.slice Ao12 t269.length co12)) (fun _ hk => ⟨hk.1.1.1.1, hk.1.1.1.2.1⟩), by repeat (first | (with_reducible first | exact HI0.out | apply IsS58.alloc | apply IsS58.drewN | apply IsS58.drew | apply IsS58.set_1 | apply IsS58.set_2 | refine IsS58.far ?_ NB0_264.out _ | refine IsS58.far ?_ NB0_274.out _) | exact HI0.out), by repeat (first | (with_reducible first | exact HB.out | apply below_alloc | apply pw_below_drewN | apply below_drew1 | refine below_set ?_ (IsS58.ge HI0.out) | refine below_set ?_ GE264.out | refine below_set ?_ GE274.out) | exact HB.out), by repeat (first | (with_reducible first | exact HK.out | apply KeepBut.set_ | apply keep_drewN | apply keep_drew | apply keep_alloc | refine keep_far ?_ GW264.out _ | refine keep_far ?_ GW274.out _) | exact HK.out)⟩
 rw [if_neg c14] at H
 have c14b0 : (t275 == 0) = false := beq_eq_false_iff_ne.mpr c14
 have c14b1 : (t275 != 0) = true := bne_iff_ne.mpr c14
 (first | rw [c14b0] | (simp only [i64_w, i32_w]; rw [c14b0]) | (rw [c14b1]; (try simp only [Bool.not_true, Bool.not_false])) | skip)
 by_cases c22 : t275 = 1
 ·rw [if_pos c22] at H
  have c22b0 : (t275 == 1) = true := beq_iff_eq.mpr c22
  have c22b1 : (t275 != 1) = false := bne_eq_false_iff_eq.mpr c22
  clear c22
  obtain ⟨y281, hy281⟩ : ∃ y_ : List ByteArray, y_ = (([(⟨#[97]⟩ : ByteArray), (⟨#[122]⟩ : ByteArray), (⟨#[105, 102]⟩ : ByteArray)] : List ByteArray)) := ⟨_, rfl⟩
  replace H : ((spec_l1Pick.f s0_0 t276 t277 y281).bind fun bt284 => (if t266.length < 8796093022208 then (some (t265, (t266 ++ [bt284.1]), t269, bt284.2.1, bt284.2.2)) else (none))) = some (r1, r2, r3, r4, r5) := by first | (rw [hy281]; with_reducible exact H) | (have H2_ := (Option.bind_some _ _).symm.trans H; rw [hy281]; with_reducible exact H2_) | (have H2_ := (Option.bind_some _ _).symm.trans H; with_reducible exact H2_) | with_reducible exact H | (rw [hy281]; exact H) | exact H
  have Ny281 := Aside0.mk hy281
  clear hy281
  replace H := Option.bind_eq_some_iff.mp H
  obtain ⟨⟨t284, t285, t286⟩, A230, H⟩ := H
  replace H : (if t266.length < 8796093022208 then (some (t265, (t266 ++ [t284]), t269, t285, t286)) else (none)) = some (r1, r2, r3, r4, r5) := H
  have A23 := Aside0.mk A230
  clear A230
  by_cases c24 : t266.length < 8796093022208
  case neg =>
   rw [if_neg c24] at H
   exact absurd H (by simp)
  rw [if_pos c24] at H
  have LMc24 := Aside0.mk c24
  clear c24
  obtain ⟨y287, hy287⟩ : ∃ y_ : List ByteArray, y_ = (t266 ++ [t284]) := ⟨_, rfl⟩
  replace H : (some (t265, y287, t269, t285, t286)) = some (r1, r2, r3, r4, r5) := by first | (rw [hy287]; with_reducible exact H) | (have H2_ := (Option.bind_some _ _).symm.trans H; rw [hy287]; with_reducible exact H2_) | (have H2_ := (Option.bind_some _ _).symm.trans H; with_reducible exact H2_) | with_reducible exact H | (rw [hy287]; exact H) | exact H
  have Ny287 := Aside0.mk hy287
  clear hy287
  simp only [Option.some.injEq, Prod.mk.injEq] at H
  obtain ⟨rfl, rfl, rfl, rfl, rfl⟩ := H
  try go_wp2
  have n0_ := Aside0.mk (Kd.R_drew HO268.out)
  have n1_ := Aside0.mk (Kd.N_drew HO271.out)
  have n2_ := Aside0.mk (blk_drew BK264.out)
  have n3_ := Aside0.mk (blk_drew BK274.out)
  have n4_ := Aside0.mk (IsS58.drew HI0.out)
  have n5_ := Aside0.mk (keep_drew HK.out)
  have n6_ := Aside0.mk (below_drew1 HB.out)
  clear HO268
  clear HO271
  clear BK264
  clear BK274
  clear HI0
  clear HK
  clear HB
  revert n0_ n1_ n2_ n3_ n4_ n5_ n6_
  intro HO268 HO271 BK264 BK274 HI0 HK HB
  refine start_ (n := 9) (S := fun w' => w'.cell? ⟨gb274, 0, none⟩ = some (.int .i64 t265) ∧ w'.cell? ⟨gb274, 1, none⟩ = some (.slice Ao11 t266.length co11) ∧ w'.cell? ⟨gb274, 2, none⟩ = some (.slice Ao12 t269.length co12)) (ds := [8]) #[false,false,false,false,false,false,false,false,false] kr rfl rfl ⟨(blk_cell BK274.out 0).trans rfl, (blk_cell BK274.out 1).trans rfl, (blk_cell BK274.out 2).trans rfl⟩ (fun hHeld => ?_); refine with_tabW spec_l3Bent.tab6 spec_l3Bent.bits6 (fun HT_ HW_ => ?_)
  generalize w13.drew = w25 at HO268 HO271 BK264 BK274 HI0 HK HB hHeld ⊢
  refine pure_ (i := 0) (N := some 17) (v := ?_) (a' := ?_) (bm 9 1) rfl rfl (any_of HT_.out kr) qi (Or.inl ⟨by rfl, ?_⟩) ?_ ?_
  rotate_left
  ·intro w'
   go_simp
   with_reducible rfl
  rotate_left
  ·simp only [sx]
   rfl
  refine pure_ (i := 2) (N := some 19) (v := ?_) (a' := ?_) (bm 9 5) rfl rfl (any_of HT_.out kr) qi (Or.inl ⟨by rfl, ?_⟩) ?_ ?_
  rotate_left
  ·intro w'
   go_simp
   with_reducible rfl
  rotate_left
  ·simp only [sx]
   rfl
  refine take_ (i := 1) (N := some 18) (v := ?_) (a' := ?_) (bm 9 7) rfl rfl (take_ofW HT_.out HW_.out kr) qi (Or.inl ⟨by rfl, ?_⟩) hHeld ?_ ?_
  rotate_left
  ·rintro w' ⟨s0, s1, s2⟩
   go_simp
   with_reducible rfl
  rotate_left
  ·simp only [sx]
   rfl
  refine one_ (i := 3) (N := some 20) (bm 9 15) rfl rfl (one_of HT_.out kr) (by decide) (fun K hK => ?_)
  refine Kd.R_lit_step Kd.string _ 9 ?hg (N := 20) ?hd (xs := ([(⟨#[97]⟩ : ByteArray), (⟨#[122]⟩ : ByteArray), (⟨#[105, 102]⟩ : ByteArray)] : List ByteArray)) (inner := [.string (⟨#[97]⟩ : ByteArray), .string (⟨#[122]⟩ : ByteArray), .string (⟨#[105, 102]⟩ : ByteArray)]) (ok := fun _ => True) (okp := fun _ => True) ?hr ?hp (fun _ hk => hk) trivial (Below.refl _ _) (Nat.le_refl _) (by simp) ?_; (case hd => rfl); (case hg => rfl); (case hr => exact hrw); (case hp => exact (Reps.one (show Kd.M Kd.string _ _ _ (⟨#[97]⟩ : ByteArray) [.string (⟨#[97]⟩ : ByteArray)] from rfl) (Reps.one (show Kd.M Kd.string _ _ _ (⟨#[122]⟩ : ByteArray) [.string (⟨#[122]⟩ : ByteArray)] from rfl) (Reps.one (show Kd.M Kd.string _ _ _ (⟨#[105, 102]⟩ : ByteArray) [.string (⟨#[105, 102]⟩ : ByteArray)] from rfl) (Reps.none _ _)))))
  intro v282 w26 ho27 hb hg_ hnew_
  clear hg_ hnew_
  (first | rw [← Ny281.out] at ho27 | (simp only [Int.reduceToNat] at ho27; rw [← Ny281.out] at ho27))
  have n0_ := Aside0.mk (Kd.R_elder' (by (with_reducible repeat (first | apply Kd.R_alloc | apply Kd.R_drewN | apply Kd.R_drew)); exact HO268.out) (Kd.R_base ho27) hb)
  have n1_ := Aside0.mk (Kd.N_elder' (by (with_reducible repeat (first | apply Kd.N_alloc | apply Kd.N_drewN | apply Kd.N_drew)); exact HO271.out) (Kd.R_base ho27) hb)
  have n2_ := Aside0.mk (Kd.R_lower (Kd.R_new' (Kd.R_newM (M := fun k_ => (w.heap.size ≤ k_)) ho27 (keep_size (w := w) (g := g) (row := none) (by repeat (first | (with_reducible first | exact HK.out | apply KeepBut.set_ | apply keep_drewN | apply keep_drew | apply keep_alloc | refine keep_far ?_ GW264.out _ | refine keep_far ?_ GW274.out _) | exact HK.out))) (fun k_ h_ => h_)) (Kd.R_lt (by (with_reducible repeat (first | apply Kd.R_alloc | apply Kd.R_drewN | apply Kd.R_drew)); exact HO268.out))) (keep_size (w := w) (g := g) (row := none) (by repeat (first | (with_reducible first | exact HK.out | apply KeepBut.set_ | apply keep_drewN | apply keep_drew | apply keep_alloc | refine keep_far ?_ GW264.out _ | refine keep_far ?_ GW274.out _) | exact HK.out))))
  have n3_ := Aside0.mk (IsS58.below (by repeat (first | (with_reducible first | exact HI0.out | apply IsS58.alloc | apply IsS58.drewN | apply IsS58.drew | apply IsS58.set_1 | apply IsS58.set_2 | refine IsS58.far ?_ NB0_264.out _ | refine IsS58.far ?_ NB0_274.out _) | exact HI0.out)) hb)
  have n4_ := Aside0.mk (blk_below (g := gb264) (o := .cells #[.int .i64 0, .slice none 0 0, .slice none 0 0] 27 (0, 0)) bkw hb)
  have n5_ := Aside0.mk (blk_below (g := gb274) (o := .cells #[.int .i64 t265, .slice Ao11 t266.length co11, .slice Ao12 t269.length co12] 27 (0, 0)) bkw hb)
  have n6_ := Aside0.mk (KeepBut.trans (by repeat (first | (with_reducible first | exact HK.out | apply KeepBut.set_ | apply keep_drewN | apply keep_drew | apply keep_alloc | refine keep_far ?_ GW264.out _ | refine keep_far ?_ GW274.out _) | exact HK.out)) (KeepBut.of_below hb g none) (.inl rfl))
  have n7_ := Aside0.mk (below_step (by repeat (first | (with_reducible first | exact HB.out | apply below_alloc | apply pw_below_drewN | apply below_drew1 | refine below_set ?_ (IsS58.ge HI0.out) | refine below_set ?_ GE264.out | refine below_set ?_ GE274.out) | exact HB.out)) hb)
  clear HO268
  clear HO271
  clear HI0
  clear BK264
  clear BK274
  clear HK
  clear HB
  revert n0_ n1_ n2_ n3_ n4_ n5_ n6_ n7_
  intro HO268 HO271 HO283 HI0 BK264 BK274 HK HB
  clear hb ho27
  obtain ⟨Ao28, co28, eo28⟩ := Kd.R_slice HO283.out
  (first | subst eo28 | (injection eo28 with f1_ f2_ f3_; have f4_ := f1_.symm; have f5_ := f3_.symm; clear f1_ f2_ f3_; subst f4_; subst f5_))
  refine hK.out _ _ ⟨(blk_cell BK274.out 0).trans rfl, (blk_cell BK274.out 1).trans rfl, (blk_cell BK274.out 2).trans rfl⟩ (fun hHeld => ?_)
  clear hK K
  refine norm_ (a' := ?_) ?_ ?_
  rotate_left
  ·show Act.put _ (some 20) _ = _
   simp only [sx]
   rfl
  refine one_ (i := 4) (N := some 21) (bm 9 31) rfl rfl (one_of HT_.out kr) (by decide) (fun K hK => ?_)
  refine goes_ Try.func32 kr rfl #[.pointer (some ⟨g, 0, none⟩), .slice Ao28 y281.length co28] (by rfl) rfl rfl mpw ?_
  with_reducible refine (spec_l1Pick.calls g s0_0 t276 t277 _ _ y281 t284 t285 t286 w0 _ ?side1 ?side2 ?side3 ?side4 ?side5 A23.out).mono ?_
  (case side1 => repeat (first | (with_reducible first | exact HI0.out | apply IsS58.alloc | apply IsS58.drewN | apply IsS58.drew | apply IsS58.set_1 | apply IsS58.set_2 | refine IsS58.far ?_ NB0_264.out _ | refine IsS58.far ?_ NB0_274.out _) | exact HI0.out))
  (case side2 => repeat (first | (with_reducible first | exact HB.out | apply below_alloc | apply pw_below_drewN | apply below_drew1 | refine below_set ?_ (IsS58.ge HI0.out) | refine below_set ?_ GE264.out | refine below_set ?_ GE274.out) | exact HB.out))
  (case side3 => repeat (first | exact (Kd.R_reads' HO283.out).2.2 | (with_reducible refine Kd.C_alloc ?_ _) | (with_reducible refine Kd.C_drewN ?_ _) | (with_reducible refine Kd.C_drew ?_)))
  (case side4 => exact (Kd.R_reads' HO283.out).2.1)
  (case side5 => exact far_slice (IsS58.own_ne HI0.out HO283.out (by decide)))
  rintro e w29 ⟨rfl, hi, hb, hk⟩
  refine ⟨_, rfl, ?_⟩
  have n0_ := Aside0.mk (KeepBut.blk hk (g' := gb264) (o := .cells #[.int .i64 0, .slice none 0 0, .slice none 0 0] 27 (0, 0)) bkw NB264_0.out (by simp))
  have n1_ := Aside0.mk (Kd.R_mono (Kd.R_keep (IsS58.apart (show IsS58 w0 _ g s0_0 t276 t277 from by repeat (first | (with_reducible first | exact HI0.out | apply IsS58.alloc | apply IsS58.drewN | apply IsS58.drew | apply IsS58.set_1 | apply IsS58.set_2 | refine IsS58.far ?_ NB0_264.out _ | refine IsS58.far ?_ NB0_274.out _) | exact HI0.out)) (by (with_reducible repeat (first | apply Kd.R_alloc | apply Kd.R_drewN | apply Kd.R_drew)); exact HO268.out) (by decide)) hk (fun _ h => h.2)) (fun _ h => h.1))
  have n2_ := Aside0.mk (Kd.N_mono (Kd.N_keep (Kd.N_mono (ok := fun k_ => (((((w.heap.size ≤ k_)) ∧ (some k_ ≠ (.slice Ao11 t266.length co11 : Value).ownBlock ∧ (k_ ≠ gb264 ∧ k_ ≠ g))) ∧ k_ ≠ gb274) ∧ some k_ ≠ (.slice Ao28 y281.length co28 : Value).ownBlock)) (by (with_reducible repeat (first | apply Kd.N_alloc | apply Kd.N_drewN | apply Kd.N_drew)); exact HO271.out) (fun k_ hk_ => (⟨hk_, hk_.1.1.2.2.2⟩ : _ ∧ k_ ≠ g))) hk (fun _ h => h.2)) (fun _ h => h.1))
  have n3_ := Aside0.mk (KeepBut.blk hk (g' := gb274) (o := .cells #[.int .i64 t265, .slice Ao11 t266.length co11, .slice Ao12 t269.length co12] 27 (0, 0)) bkw NB274_0.out (by simp))
  have n4_ := Aside0.mk (Kd.R_mono (Kd.R_keep (IsS58.apart (show IsS58 w0 _ g s0_0 t276 t277 from by repeat (first | (with_reducible first | exact HI0.out | apply IsS58.alloc | apply IsS58.drewN | apply IsS58.drew | apply IsS58.set_1 | apply IsS58.set_2 | refine IsS58.far ?_ NB0_264.out _ | refine IsS58.far ?_ NB0_274.out _) | exact HI0.out)) (by (with_reducible repeat (first | apply Kd.R_alloc | apply Kd.R_drewN | apply Kd.R_drew)); exact HO283.out) (by decide)) hk (fun _ h => h.2)) (fun _ h => h.1))
  have n5_ := Aside0.mk (KeepBut.trans (by repeat (first | (with_reducible first | exact HK.out | apply KeepBut.set_ | apply keep_drewN | apply keep_drew | apply keep_alloc | refine keep_far ?_ GW264.out _ | refine keep_far ?_ GW274.out _) | exact HK.out)) hk (.inl rfl))
  have n6_ := Aside0.mk (hb)
  have n7_ := Aside0.mk (hi)
  clear BK264
  clear HO268
  clear HO271
  clear BK274
  clear HO283
  clear HK
  clear HB
  clear HI0
  revert n0_ n1_ n2_ n3_ n4_ n5_ n6_ n7_
  intro BK264 HO268 HO271 BK274 HO283 HK HB HI0
  (try clear hb)
  (try clear hb2)
  (try clear hk)
  (try clear hi)
  refine hK.out _ _ ⟨(blk_cell BK274.out 0).trans rfl, (blk_cell BK274.out 1).trans rfl, (blk_cell BK274.out 2).trans rfl⟩ (fun hHeld => ?_)
  clear hK K
  refine norm_ (a' := ?_) ?_ ?_
  rotate_left
  ·show Act.put _ (some 21) _ = _
   simp only [sx]
   rfl
  refine one_ (i := 5) (N := some 22) (bm 9 63) rfl rfl (one_of HT_.out kr) (by decide) (fun K hK => ?_)
  refine value_ (w1 := ?_) (v := ?_) (by rfl) rfl ?_ ?_
  rotate_left 2
  ·go_simp
   constructor
   ·rfl
   ·rfl
  refine hK.out _ _ ⟨(blk_cell (blk_alloc BK274.out _) 0).trans rfl, (blk_cell (blk_alloc BK274.out _) 1).trans rfl, (blk_cell (blk_alloc BK274.out _) 2).trans rfl⟩ (fun hHeld => ?_)
  clear hK K
  refine norm_ (a' := ?_) ?_ ?_
  rotate_left
  ·show Act.put _ (some 22) _ = _
   simp only [sx]
   rfl
  refine one_ (i := 6) (N := some 23) (bm 9 127) rfl rfl (one_of HT_.out kr) (by decide) (fun K hK => ?_)
  refine Kd.R_append_step Kd.string w.heap.size (by rfl) (.tmp 18) (.tmp 22) 24 9 (.string ⟨#[]⟩) 16 rfl Try.underlying24 info9 rfl (by decide) (by omega) (.slice Ao11 t266.length co11) t266 t284 [.string t284] (fun k_ => (w.heap.size ≤ k_) ∧ some k_ ≠ (.slice Ao28 y281.length co28 : Value).ownBlock) (fun _ => False) rfl rfl ?aP (fun _ hk => hk.elim) ?aF ?aO (Below.refl _ _) ?aS ?aL ?_
  (case aP => exact rfl)
  (case aF => exact (fun k_ hk => ⟨(Nat.le_trans (keep_size (w := w) (g := g) (row := none) (by repeat (first | (with_reducible first | exact HK.out | apply KeepBut.set_ | apply keep_drewN | apply keep_drew | apply keep_alloc | refine keep_far ?_ GW264.out _ | refine keep_far ?_ GW274.out _) | exact HK.out))) hk), Kd.fresh' (Kd.R_lt (by (with_reducible repeat (first | apply Kd.R_alloc | apply Kd.R_drewN | apply Kd.R_drew)); exact HO283.out)) k_ hk⟩))
  (case aO => exact (by (with_reducible repeat (first | apply Kd.R_alloc | apply Kd.R_drewN | apply Kd.R_drew)); exact Kd.R_mono HO268.out (fun _ hk => ⟨hk.1.1, hk.2⟩)))
  (case aS => exact (keep_size (w := w) (g := g) (row := none) (by repeat (first | (with_reducible first | exact HK.out | apply KeepBut.set_ | apply keep_drewN | apply keep_drew | apply keep_alloc | refine keep_far ?_ GW264.out _ | refine keep_far ?_ GW274.out _) | exact HK.out))))
  (case aL => have := LMc24.out; omega)
  intro v288 w30 ho hb hg hat
  rw [← Ny287.out] at ho
  have n0_ := Aside0.mk (IsS58.grown (by repeat (first | (with_reducible first | exact HI0.out | apply IsS58.alloc | apply IsS58.drewN | apply IsS58.drew | apply IsS58.set_1 | apply IsS58.set_2 | refine IsS58.far ?_ NB0_264.out _ | refine IsS58.far ?_ NB0_274.out _) | exact HI0.out)) hg (IsS58.own_ne HI0.out HO268.out (by decide)))
  have n1_ := Aside0.mk (blk_grown (g := gb264) (o := .cells #[.int .i64 0, .slice none 0 0, .slice none 0 0] 27 (0, 0)) bkw hg (Kd.R_ne HO268.out BK264.out (by decide)))
  have n2_ := Aside0.mk (Kd.N_afterv (ok := (fun k_ => (w.heap.size ≤ k_) ∧ some k_ ≠ (.slice Ao28 y281.length co28 : Value).ownBlock ∧ k_ ≠ gb264 ∧ k_ ≠ g ∧ k_ ≠ gb274)) (by (with_reducible repeat (first | apply Kd.N_alloc | apply Kd.N_drewN | apply Kd.N_drew)); exact Kd.N_mono HO271.out (fun _ hk => ⟨⟨hk.1.1.1, ⟨hk.2, ⟨hk.1.1.2.2.1, ⟨hk.1.1.2.2.2, hk.1.2⟩⟩⟩⟩, hk.1.1.2.1⟩)) hg hat)
  have n3_ := Aside0.mk (blk_grown (g := gb274) (o := .cells #[.int .i64 t265, .slice Ao11 t266.length co11, .slice Ao12 t269.length co12] 27 (0, 0)) bkw hg (Kd.R_ne HO268.out BK274.out (by decide)))
  have n4_ := Aside0.mk (Kd.R_after (ok := (fun k_ => (w.heap.size ≤ k_))) (by (with_reducible repeat (first | apply Kd.R_alloc | apply Kd.R_drewN | apply Kd.R_drew)); exact Kd.R_mono HO283.out (fun _ hk => ⟨hk.1.1, hk.2⟩)) hg hat)
  have n5_ := Aside0.mk (below_weaken (by repeat (first | (with_reducible first | exact HB.out | apply below_alloc | apply pw_below_drewN | apply below_drew1 | refine below_set ?_ (IsS58.ge HI0.out) | refine below_set ?_ GE264.out | refine below_set ?_ GE274.out) | exact HB.out)) HL.out hb)
  have n6_ := Aside0.mk (KeepBut.trans (by repeat (first | (with_reducible first | exact HK.out | apply KeepBut.set_ | apply keep_drewN | apply keep_drew | apply keep_alloc | refine keep_far ?_ GW264.out _ | refine keep_far ?_ GW274.out _) | exact HK.out)) (KeepBut.of_grown hg g) (Kd.R_base2 HO268.out))
  have n7_ := Aside0.mk (ho)
  clear HI0
  clear BK264
  clear HO271
  clear BK274
  clear HO283
  clear HB
  clear HK
  clear HO268
  revert n0_ n1_ n2_ n3_ n4_ n5_ n6_ n7_
  intro HI0 BK264 HO271 BK274 HO283 HB HK HO289
  clear ho hb hg hat
  obtain ⟨Ao31, co31, eo31⟩ := Kd.R_slice HO289.out
  (first | subst eo31 | (injection eo31 with f1_ f2_ f3_; have f4_ := f1_.symm; have f5_ := f3_.symm; clear f1_ f2_ f3_; subst f4_; subst f5_))
  refine hK.out _ _ ⟨(blk_cell BK274.out 0).trans rfl, (blk_cell BK274.out 1).trans rfl, (blk_cell BK274.out 2).trans rfl⟩ (fun hHeld => ?_)
  clear hK K
  refine norm_ (a' := ?_) ?_ ?_
  rotate_left
  ·show Act.put _ (some 23) _ = _
   simp only [sx]
   rfl
  refine pure_ (i := 7) (N := some 24) (v := ?_) (a' := ?_) (bm 9 255) rfl rfl (any_of HT_.out kr) qi (Or.inl ⟨by rfl, ?_⟩) ?_ ?_
  rotate_left
  ·intro w'
   go_simp
   with_reducible rfl
  rotate_left
  ·simp only [sx]
   rfl
  refine last_ (i := 8) (N := none) (bm 9 511) rfl rfl (one_of HT_.out kr) (by decide) (fun K hK => ?_)
  have hs32 : w30.cell? ⟨gb274, 1, none⟩ = some (.slice Ao11 t266.length co11) := (blk_cell BK274.out 1).trans rfl
  have hfs32 := blk_frozen BK274.out 1
  have hns32_0 := NB264_274.out
  have hms32_0 := NB274_264.out
  refine skip_ (w1 := ?_) (by rfl) rfl ?_ ?_
  rotate_left
  ·go_simp
   rfl
  refine hK.out _ _ ?_
  clear hK K
  refine done_ (done_of HT_.out kr) ?_
  have hnb33 := NB274_264.out
  have hnc33 := NB264_274.out
  have hnb34 := NB274_0.out
  have hnc34 := NB0_274.out
  obtain ⟨hcz35_0, hcz35_1, hcz35_2⟩ := cls3 BK274.out
  obtain ⟨hfz35_0, hfz35_1, hfz35_2⟩ := frz3 BK274.out
  have hnb36 := NB264_0.out
  have hnc36 := NB0_264.out
  obtain ⟨hcz37_0, hcz37_1, hcz37_2⟩ := cls3 BK264.out
  obtain ⟨hfz37_0, hfz37_1, hfz37_2⟩ := frz3 BK264.out
  try go_wp2
  refine bodyPost_ret (results_cell_row rfl _ _ gb264 27 #[.int .i64 t265, .slice Ao31 y287.length co31, .slice Ao12 t269.length co12] (0, 0) _ rfl (by (with_reducible repeat (first | refine blk_drewN ?_ _ | refine blk_drew ?_ | refine blk_alloc ?_ _)); refine blk_put (cs := #[.int .i64 t265, .slice Ao31 y287.length co31, .slice none 0 0]) ?_ 2 _ rfl; (with_reducible repeat (first | refine blk_drewN ?_ _ | refine blk_drew ?_ | refine blk_alloc ?_ _)); refine blk_put (cs := #[.int .i64 t265, .slice none 0 0, .slice none 0 0]) ?_ 1 _ rfl; (with_reducible repeat (first | refine blk_drewN ?_ _ | refine blk_drew ?_ | refine blk_alloc ?_ _)); refine blk_put (cs := #[.int .i64 0, .slice none 0 0, .slice none 0 0]) ?_ 0 _ rfl; (with_reducible repeat (first | refine blk_drewN ?_ _ | refine blk_drew ?_ | refine blk_alloc ?_ _)); refine blk_far ?_ NB264_274.out _; (with_reducible repeat (first | refine blk_drewN ?_ _ | refine blk_drew ?_ | refine blk_alloc ?_ _)); exact BK264.out) Try.underlying27 rfl kr) rfl ?_
  exact ⟨_, _, rfw, by (with_reducible repeat (first | apply Kd.R_alloc | apply Kd.R_drewN | apply Kd.R_drew)); exact Kd.R_mono (Kd.R_far (p := ⟨gb264, 2, none⟩) (Kd.R_far (p := ⟨gb264, 1, none⟩) (Kd.R_far (p := ⟨gb264, 0, none⟩) (Kd.R_far (p := ⟨gb274, 1, none⟩) (Kd.R_types (Kd.R_types HO289.out BK274.out (by decide)) BK264.out (by decide)) (fun _ hk => hk.1.2) (.slice Ao31 y287.length co31)) (fun _ hk => hk.2) (.int .i64 t265)) (fun _ hk => hk.2) (.slice Ao31 y287.length co31)) (fun _ hk => hk.2) (.slice Ao12 t269.length co12)) (fun _ hk => hk.1.1.1), by (with_reducible repeat (first | apply Kd.N_alloc | apply Kd.N_drewN | apply Kd.N_drew)); exact Kd.N_mono (Kd.N_far (p := ⟨gb264, 2, none⟩) (Kd.N_far (p := ⟨gb264, 1, none⟩) (Kd.N_far (p := ⟨gb264, 0, none⟩) (Kd.N_far (p := ⟨gb274, 1, none⟩) (Kd.N_mono (Kd.N_mono HO271.out (fun k_ hk => (⟨hk, hk.1.2.2.2.2⟩ : _ ∧ k_ ≠ gb274))) (fun k_ hk => (⟨hk, hk.1.1.2.2.1⟩ : _ ∧ k_ ≠ gb264))) (fun _ hk => hk.1.2) (.slice Ao31 y287.length co31)) (fun _ hk => hk.2) (.int .i64 t265)) (fun _ hk => hk.2) (.slice Ao31 y287.length co31)) (fun _ hk => hk.2) (.slice Ao12 t269.length co12)) (fun _ hk => ⟨hk.1.1.1.1, hk.1.1.2⟩), by repeat (first | (with_reducible first | exact HI0.out | apply IsS58.alloc | apply IsS58.drewN | apply IsS58.drew | apply IsS58.set_1 | apply IsS58.set_2 | refine IsS58.far ?_ NB0_264.out _ | refine IsS58.far ?_ NB0_274.out _) | exact HI0.out), by repeat (first | (with_reducible first | exact HB.out | apply below_alloc | apply pw_below_drewN | apply below_drew1 | refine below_set ?_ (IsS58.ge HI0.out) | refine below_set ?_ GE264.out | refine below_set ?_ GE274.out) | exact HB.out), by repeat (first | (with_reducible first | exact HK.out | apply KeepBut.set_ | apply keep_drewN | apply keep_drew | apply keep_alloc | refine keep_far ?_ GW264.out _ | refine keep_far ?_ GW274.out _) | exact HK.out)⟩
 rw [if_neg c22] at H
 have c22b0 : (t275 == 1) = false := beq_eq_false_iff_ne.mpr c22
 have c22b1 : (t275 != 1) = true := bne_iff_ne.mpr c22
 by_cases c38 : t275 = 2
 ·rw [if_pos c38] at H
  have c38b0 : (t275 == 2) = true := beq_iff_eq.mpr c38
  have c38b1 : (t275 != 2) = false := bne_eq_false_iff_eq.mpr c38
  clear c38
  replace H := Option.bind_eq_some_iff.mp H
  obtain ⟨⟨t290, t291, t294⟩, A390, H⟩ := H
  replace H : (if t269.length < 2513169434916 then (some (t265, t266, (t269 ++ [(⟨t290, t291, t294⟩ : S27)]), t276, t277)) else (none)) = some (r1, r2, r3, r4, r5) := H
  have A39 := Aside0.mk A390
  clear A390
  by_cases c40 : t269.length < 2513169434916
  case neg =>
   rw [if_neg c40] at H
   exact absurd H (by simp)
  rw [if_pos c40] at H
  have LMc40 := Aside0.mk c40
  clear c40
  obtain ⟨y297, hy297⟩ : ∃ y_ : List (S27), y_ = (t269 ++ [(⟨t290, t291, t294⟩ : S27)]) := ⟨_, rfl⟩
  replace H : (some (t265, t266, y297, t276, t277)) = some (r1, r2, r3, r4, r5) := by first | (rw [hy297]; with_reducible exact H) | (have H2_ := (Option.bind_some _ _).symm.trans H; rw [hy297]; with_reducible exact H2_) | (have H2_ := (Option.bind_some _ _).symm.trans H; with_reducible exact H2_) | with_reducible exact H | (rw [hy297]; exact H) | exact H
  have Ny297 := Aside0.mk hy297
  clear hy297
  simp only [Option.some.injEq, Prod.mk.injEq] at H
  obtain ⟨rfl, rfl, rfl, rfl, rfl⟩ := H
  try go_wp2
  have n0_ := Aside0.mk (Kd.R_drew HO268.out)
  have n1_ := Aside0.mk (Kd.N_drew HO271.out)
  have n2_ := Aside0.mk (blk_drew BK264.out)
  have n3_ := Aside0.mk (blk_drew BK274.out)
  have n4_ := Aside0.mk (IsS58.drew HI0.out)
  have n5_ := Aside0.mk (keep_drew HK.out)
  have n6_ := Aside0.mk (below_drew1 HB.out)
  clear HO268
  clear HO271
  clear BK264
  clear BK274
  clear HI0
  clear HK
  clear HB
  revert n0_ n1_ n2_ n3_ n4_ n5_ n6_
  intro HO268 HO271 BK264 BK274 HI0 HK HB
  refine start_ (n := 7) (S := fun w' => w'.cell? ⟨gb274, 0, none⟩ = some (.int .i64 t265) ∧ w'.cell? ⟨gb274, 1, none⟩ = some (.slice Ao11 t266.length co11) ∧ w'.cell? ⟨gb274, 2, none⟩ = some (.slice Ao12 t269.length co12)) (ds := [6]) #[false,false,false,false,false,false,false] kr rfl rfl ⟨(blk_cell BK274.out 0).trans rfl, (blk_cell BK274.out 1).trans rfl, (blk_cell BK274.out 2).trans rfl⟩ (fun hHeld => ?_)
  generalize w13.drew = w41 at HO268 HO271 BK264 BK274 HI0 HK HB hHeld ⊢
  refine pure_ (i := 0) (N := some 27) (v := ?_) (a' := ?_) (bm 7 1) rfl rfl kr qi (Or.inl ⟨by rfl, ?_⟩) ?_ ?_
  rotate_left
  ·intro w'
   go_simp
   with_reducible rfl
  rotate_left
  ·simp only [sx]
   rfl
  refine take_ (i := 1) (N := some 28) (v := ?_) (a' := ?_) (bm 7 3) rfl rfl kr qi (Or.inl ⟨by rfl, ?_⟩) hHeld ?_ ?_
  rotate_left
  ·rintro w' ⟨s0, s1, s2⟩
   go_simp
   with_reducible rfl
  rotate_left
  ·simp only [sx]
   rfl
  refine one_ (i := 2) (N := some 29) (bm 7 7) rfl rfl kr (by decide) (fun K hK => ?_)
  refine goes_ Try.func45 kr rfl #[] (by rfl) rfl rfl mpw ?_
  with_reducible refine (spec_l3Int.calls  t290 t291 t294 _ A39.out).mono ?_
  rintro e w42 ⟨v292, v295, rfl, ho0, ho1, hb⟩
  refine ⟨_, rfl, ?_⟩
  obtain ⟨N43, EN43⟩ := Ow.name_size hb
  have n0_ := Aside0.mk (Kd.R_elder' (by (with_reducible repeat (first | apply Kd.R_alloc | apply Kd.R_drewN | apply Kd.R_drew)); exact HO268.out) (Kd.R_base ho0) hb)
  have n1_ := Aside0.mk (Kd.N_mono (Kd.N_told (Kd.N_told (Kd.N_old (by (with_reducible repeat (first | apply Kd.N_alloc | apply Kd.N_drewN | apply Kd.N_drew)); exact HO271.out) hb) (Kd.R_base ho0)) (by first | exact Kd.N_base ho1 | exact Kd.S_base ho1)) (fun _ h_ => h_.1))
  have n2_ := Aside0.mk (Kd.R_lower (Ow.R_geN (Kd.R_new' (Kd.R_newM (M := fun k_ => (w.heap.size ≤ k_)) ho0 (keep_size (w := w) (g := g) (row := none) (by repeat (first | (with_reducible first | exact HK.out | apply KeepBut.set_ | apply keep_drewN | apply keep_drew | apply keep_alloc | refine keep_far ?_ GW264.out _ | refine keep_far ?_ GW274.out _) | exact HK.out))) (fun k_ h_ => h_)) (Kd.R_lt (by (with_reducible repeat (first | apply Kd.R_alloc | apply Kd.R_drewN | apply Kd.R_drew)); exact HO268.out))) EN43.out) (keep_size (w := w) (g := g) (row := none) (by repeat (first | (with_reducible first | exact HK.out | apply KeepBut.set_ | apply keep_drewN | apply keep_drew | apply keep_alloc | refine keep_far ?_ GW264.out _ | refine keep_far ?_ GW274.out _) | exact HK.out))))
  have n3_ := Aside0.mk (Kd.N_lower (Kd.N_mono (ok' := fun k_ => (w.heap.size ≤ k_) ∧ some k_ ≠ (v292 : Value).ownBlock ∧ some k_ ≠ (.slice Ao11 t266.length co11 : Value).ownBlock ∧ some k_ ≠ (.slice Ao12 t269.length co12 : Value).ownBlock ∧ k_ ≠ gb264 ∧ k_ ≠ gb274 ∧ k_ ≠ g) (Kd.S_N (Kd.S_bound ho1)) (fun k_ hk_ => ⟨(Nat.le_trans (keep_size (w := w) (g := g) (row := none) (by repeat (first | (with_reducible first | exact HK.out | apply KeepBut.set_ | apply keep_drewN | apply keep_drew | apply keep_alloc | refine keep_far ?_ GW264.out _ | refine keep_far ?_ GW274.out _) | exact HK.out))) hk_.2.1), hk_.1, (Kd.fresh' (Kd.R_lt (by (with_reducible repeat (first | apply Kd.R_alloc | apply Kd.R_drewN | apply Kd.R_drew)); exact HO268.out)) k_ hk_.2.1), (Kd.fresh' (Kd.N_lt (by (with_reducible repeat (first | apply Kd.N_alloc | apply Kd.N_drewN | apply Kd.N_drew)); exact HO271.out)) k_ hk_.2.1), (Kd.freshB (g := gb264) (o := .cells #[.int .i64 0, .slice none 0 0, .slice none 0 0] 27 (0, 0)) bkw k_ hk_.2.1), (Kd.freshB (g := gb274) (o := .cells #[.int .i64 t265, .slice Ao11 t266.length co11, .slice Ao12 t269.length co12] 27 (0, 0)) bkw k_ hk_.2.1), (IsS58.fresh (by repeat (first | (with_reducible first | exact HI0.out | apply IsS58.alloc | apply IsS58.drewN | apply IsS58.drew | apply IsS58.set_1 | apply IsS58.set_2 | refine IsS58.far ?_ NB0_264.out _ | refine IsS58.far ?_ NB0_274.out _) | exact HI0.out)) k_ hk_.2.1)⟩)) (keep_size (w := w) (g := g) (row := none) (by repeat (first | (with_reducible first | exact HK.out | apply KeepBut.set_ | apply keep_drewN | apply keep_drew | apply keep_alloc | refine keep_far ?_ GW264.out _ | refine keep_far ?_ GW274.out _) | exact HK.out))))
  have n4_ := Aside0.mk (IsS58.below (by repeat (first | (with_reducible first | exact HI0.out | apply IsS58.alloc | apply IsS58.drewN | apply IsS58.drew | apply IsS58.set_1 | apply IsS58.set_2 | refine IsS58.far ?_ NB0_264.out _ | refine IsS58.far ?_ NB0_274.out _) | exact HI0.out)) hb)
  have n5_ := Aside0.mk (blk_below (g := gb264) (o := .cells #[.int .i64 0, .slice none 0 0, .slice none 0 0] 27 (0, 0)) bkw hb)
  have n6_ := Aside0.mk (blk_below (g := gb274) (o := .cells #[.int .i64 t265, .slice Ao11 t266.length co11, .slice Ao12 t269.length co12] 27 (0, 0)) bkw hb)
  have n7_ := Aside0.mk (KeepBut.trans (by repeat (first | (with_reducible first | exact HK.out | apply KeepBut.set_ | apply keep_drewN | apply keep_drew | apply keep_alloc | refine keep_far ?_ GW264.out _ | refine keep_far ?_ GW274.out _) | exact HK.out)) (KeepBut.of_below hb g none) (.inl rfl))
  have n8_ := Aside0.mk (below_step (by repeat (first | (with_reducible first | exact HB.out | apply below_alloc | apply pw_below_drewN | apply below_drew1 | refine below_set ?_ (IsS58.ge HI0.out) | refine below_set ?_ GE264.out | refine below_set ?_ GE274.out) | exact HB.out)) hb)
  clear HO268
  clear HO271
  clear HI0
  clear BK264
  clear BK274
  clear HK
  clear HB
  revert n0_ n1_ n2_ n3_ n4_ n5_ n6_ n7_ n8_
  intro HO268 HO271 HO293 HO296 HI0 BK264 BK274 HK HB
  (try clear hb)
  (try clear hb2)
  (try clear hk)
  (try clear hi)
  (try clear ho0)
  (try clear ho1)
  obtain ⟨Ao45, co45, eo45⟩ := Kd.R_slice HO293.out
  (first | subst eo45 | (injection eo45 with f1_ f2_ f3_; have f4_ := f1_.symm; have f5_ := f3_.symm; clear f1_ f2_ f3_; subst f4_; subst f5_))
  obtain ⟨Ao46, co46, eo46⟩ := Kd.N_slice HO296.out
  (first | subst eo46 | (injection eo46 with f1_ f2_ f3_; have f4_ := f1_.symm; have f5_ := f3_.symm; clear f1_ f2_ f3_; subst f4_; subst f5_))
  refine hK.out _ _ ⟨(blk_cell BK274.out 0).trans rfl, (blk_cell BK274.out 1).trans rfl, (blk_cell BK274.out 2).trans rfl⟩ (fun hHeld => ?_)
  clear hK K
  refine norm_ (a' := ?_) ?_ ?_
  rotate_left
  ·show Act.put _ (some 29) _ = _
   simp only [sx]
   rfl
  refine one_ (i := 3) (N := some 30) (bm 7 15) rfl rfl kr (by decide) (fun K hK => ?_)
  refine value_ (w1 := ?_) (v := ?_) (by rfl) rfl ?_ ?_
  rotate_left 2
  ·go_simp
   constructor
   ·rfl
   ·rfl
  refine hK.out _ _ ⟨(blk_cell (blk_alloc BK274.out _) 0).trans rfl, (blk_cell (blk_alloc BK274.out _) 1).trans rfl, (blk_cell (blk_alloc BK274.out _) 2).trans rfl⟩ (fun hHeld => ?_)
  clear hK K
  refine norm_ (a' := ?_) ?_ ?_
  rotate_left
  ·show Act.put _ (some 30) _ = _
   simp only [sx]
   rfl
  refine one_ (i := 4) (N := some 31) (bm 7 31) rfl rfl kr (by decide) (fun K hK => ?_)
  refine Kd.N_append_step k27 w.heap.size (by rfl) (.tmp 28) (.tmp 30) 25 27 (.agg #[(.int .i64 0), (.slice none 0 0), (.slice none 0 0)]) 56 rfl Try.underlying25 info27 rfl (by decide) (by omega) (.slice Ao12 t269.length co12) t269 (⟨t290, t291, t294⟩ : S27) [.int .i64 t290, .slice Ao45 t291.length co45, .slice Ao46 t294.length co46] (fun k_ => (w.heap.size ≤ k_) ∧ some k_ ≠ (.slice Ao11 t266.length co11 : Value).ownBlock ∧ k_ ≠ gb264 ∧ k_ ≠ gb274 ∧ k_ ≠ g) (fun k_ => ((fun k_ => (w.heap.size ≤ k_) ∧ some k_ ≠ (.slice Ao11 t266.length co11 : Value).ownBlock ∧ k_ ≠ gb264 ∧ k_ ≠ gb274 ∧ k_ ≠ g)) k_ ∧ some k_ ≠ (.slice Ao12 t269.length co12 : Value).ownBlock) rfl rfl ?aP (fun _ hk => hk) ?aF ?aO (Below.refl _ _) ?aS ?aL ?_
  (case aP => exact (k27_mkF _ _ (⟨t290, t291, t294⟩ : S27) (Kd.R_reads' (Kd.R_mono (ok' := (fun k_ => ((fun k_ => (w.heap.size ≤ k_) ∧ some k_ ≠ (.slice Ao11 t266.length co11 : Value).ownBlock ∧ k_ ≠ gb264 ∧ k_ ≠ gb274 ∧ k_ ≠ g)) k_ ∧ some k_ ≠ (.slice Ao12 t269.length co12 : Value).ownBlock)) (IsS58.apart HI0.out (Kd.R_types (Kd.R_types (Kd.R_apart' (HO293.out) (Kd.N_typed HO271.out) (by decide)) BK264.out (by decide)) BK274.out (by decide)) (by decide)) (fun k_ hk => ⟨⟨hk.1.1.1.1.1.1.1, ⟨hk.1.1.1.1.1.2, ⟨hk.1.1.2, ⟨hk.1.2, hk.2⟩⟩⟩⟩, hk.1.1.1.2⟩))).2.1 (Kd.R_F (Kd.R_mono (ok' := (fun k_ => ((fun k_ => (w.heap.size ≤ k_) ∧ some k_ ≠ (.slice Ao11 t266.length co11 : Value).ownBlock ∧ k_ ≠ gb264 ∧ k_ ≠ gb274 ∧ k_ ≠ g)) k_ ∧ some k_ ≠ (.slice Ao12 t269.length co12 : Value).ownBlock)) (IsS58.apart HI0.out (Kd.R_types (Kd.R_types (Kd.R_apart' (HO293.out) (Kd.N_typed HO271.out) (by decide)) BK264.out (by decide)) BK274.out (by decide)) (by decide)) (fun k_ hk => ⟨⟨hk.1.1.1.1.1.1.1, ⟨hk.1.1.1.1.1.2, ⟨hk.1.1.2, ⟨hk.1.2, hk.2⟩⟩⟩⟩, hk.1.1.1.2⟩))) (Kd.N_reads' (Kd.N_mono (ok' := (fun k_ => ((fun k_ => (w.heap.size ≤ k_) ∧ some k_ ≠ (.slice Ao11 t266.length co11 : Value).ownBlock ∧ k_ ≠ gb264 ∧ k_ ≠ gb274 ∧ k_ ≠ g)) k_ ∧ some k_ ≠ (.slice Ao12 t269.length co12 : Value).ownBlock)) (HO296.out) (fun k_ hk => ⟨⟨hk.1, ⟨hk.2.2.1, ⟨hk.2.2.2.2.1, ⟨hk.2.2.2.2.2.1, hk.2.2.2.2.2.2⟩⟩⟩⟩, hk.2.2.2.1⟩))).2.1 (Kd.N_F (Kd.N_mono (ok' := (fun k_ => ((fun k_ => (w.heap.size ≤ k_) ∧ some k_ ≠ (.slice Ao11 t266.length co11 : Value).ownBlock ∧ k_ ≠ gb264 ∧ k_ ≠ gb274 ∧ k_ ≠ g)) k_ ∧ some k_ ≠ (.slice Ao12 t269.length co12 : Value).ownBlock)) (HO296.out) (fun k_ hk => ⟨⟨hk.1, ⟨hk.2.2.1, ⟨hk.2.2.2.2.1, ⟨hk.2.2.2.2.2.1, hk.2.2.2.2.2.2⟩⟩⟩⟩, hk.2.2.2.1⟩)))))
  (case aF => exact (fun k_ hk => ⟨(Nat.le_trans (keep_size (w := w) (g := g) (row := none) (by repeat (first | (with_reducible first | exact HK.out | apply KeepBut.set_ | apply keep_drewN | apply keep_drew | apply keep_alloc | refine keep_far ?_ GW264.out _ | refine keep_far ?_ GW274.out _) | exact HK.out))) hk), Kd.fresh' (Kd.R_lt (by (with_reducible repeat (first | apply Kd.R_alloc | apply Kd.R_drewN | apply Kd.R_drew)); exact HO268.out)) k_ hk, Kd.freshB (g := gb264) (o := .cells #[.int .i64 0, .slice none 0 0, .slice none 0 0] 27 (0, 0)) bkw k_ hk, Kd.freshB (g := gb274) (o := .cells #[.int .i64 t265, .slice Ao11 t266.length co11, .slice Ao12 t269.length co12] 27 (0, 0)) bkw k_ hk, IsS58.fresh (by repeat (first | (with_reducible first | exact HI0.out | apply IsS58.alloc | apply IsS58.drewN | apply IsS58.drew | apply IsS58.set_1 | apply IsS58.set_2 | refine IsS58.far ?_ NB0_264.out _ | refine IsS58.far ?_ NB0_274.out _) | exact HI0.out)) k_ hk⟩))
  (case aO => exact (by (with_reducible repeat (first | apply Kd.N_alloc | apply Kd.N_drewN | apply Kd.N_drew)); exact Kd.N_mono HO271.out (fun _ hk => ⟨hk.1.1.1.1, ⟨hk.1.1.1.2.1, ⟨hk.1.1.1.2.2.1, ⟨hk.1.1.2, hk.1.1.1.2.2.2⟩⟩⟩⟩)))
  (case aS => exact (keep_size (w := w) (g := g) (row := none) (by repeat (first | (with_reducible first | exact HK.out | apply KeepBut.set_ | apply keep_drewN | apply keep_drew | apply keep_alloc | refine keep_far ?_ GW264.out _ | refine keep_far ?_ GW274.out _) | exact HK.out))))
  (case aL => have := LMc40.out; omega)
  intro v298 w44 ho hb hg hat
  rw [← Ny297.out] at ho
  have n0_ := Aside0.mk (IsS58.grown (by repeat (first | (with_reducible first | exact HI0.out | apply IsS58.alloc | apply IsS58.drewN | apply IsS58.drew | apply IsS58.set_1 | apply IsS58.set_2 | refine IsS58.far ?_ NB0_264.out _ | refine IsS58.far ?_ NB0_274.out _) | exact HI0.out)) hg (IsS58.own_neN HI0.out HO271.out (by decide)))
  have n1_ := Aside0.mk (blk_grown (g := gb264) (o := .cells #[.int .i64 0, .slice none 0 0, .slice none 0 0] 27 (0, 0)) bkw hg (Kd.N_away HO271.out (fun _ hk => hk.1.1.1.2.2.1)))
  have n2_ := Aside0.mk (Kd.R_over' (by (with_reducible repeat (first | apply Kd.R_alloc | apply Kd.R_drewN | apply Kd.R_drew)); exact HO268.out) (Kd.N_typed (by (with_reducible repeat (first | apply Kd.N_alloc | apply Kd.N_drewN | apply Kd.N_drew)); exact HO271.out)) (by decide) hg)
  have n3_ := Aside0.mk (blk_grown (g := gb274) (o := .cells #[.int .i64 t265, .slice Ao11 t266.length co11, .slice Ao12 t269.length co12] 27 (0, 0)) bkw hg (Kd.N_away HO271.out (fun _ hk => hk.1.1.2)))
  have n4_ := Aside0.mk (below_weaken (by repeat (first | (with_reducible first | exact HB.out | apply below_alloc | apply pw_below_drewN | apply below_drew1 | refine below_set ?_ (IsS58.ge HI0.out) | refine below_set ?_ GE264.out | refine below_set ?_ GE274.out) | exact HB.out)) HL.out hb)
  have n5_ := Aside0.mk (KeepBut.trans (by repeat (first | (with_reducible first | exact HK.out | apply KeepBut.set_ | apply keep_drewN | apply keep_drew | apply keep_alloc | refine keep_far ?_ GW264.out _ | refine keep_far ?_ GW274.out _) | exact HK.out)) (KeepBut.of_grown hg g) (Kd.N_base2 HO271.out))
  have n6_ := Aside0.mk (ho)
  clear HI0
  clear BK264
  clear HO268
  clear BK274
  clear HB
  clear HK
  clear HO271
  clear HO293
  clear HO296
  revert n0_ n1_ n2_ n3_ n4_ n5_ n6_
  intro HI0 BK264 HO268 BK274 HB HK HO299
  clear ho hb hg hat
  obtain ⟨Ao47, co47, eo47⟩ := Kd.N_slice HO299.out
  (first | subst eo47 | (injection eo47 with f1_ f2_ f3_; have f4_ := f1_.symm; have f5_ := f3_.symm; clear f1_ f2_ f3_; subst f4_; subst f5_))
  refine hK.out _ _ ⟨(blk_cell BK274.out 0).trans rfl, (blk_cell BK274.out 1).trans rfl, (blk_cell BK274.out 2).trans rfl⟩ (fun hHeld => ?_)
  clear hK K
  refine norm_ (a' := ?_) ?_ ?_
  rotate_left
  ·show Act.put _ (some 31) _ = _
   simp only [sx]
   rfl
  refine pure_ (i := 5) (N := some 32) (v := ?_) (a' := ?_) (bm 7 63) rfl rfl kr qi (Or.inl ⟨by rfl, ?_⟩) ?_ ?_
  rotate_left
  ·intro w'
   go_simp
   with_reducible rfl
  rotate_left
  ·simp only [sx]
   rfl
  refine last_ (i := 6) (N := none) (bm 7 127) rfl rfl kr (by decide) (fun K hK => ?_)
  have hs48 : w44.cell? ⟨gb274, 2, none⟩ = some (.slice Ao12 t269.length co12) := (blk_cell BK274.out 2).trans rfl
  have hfs48 := blk_frozen BK274.out 2
  have hns48_0 := NB264_274.out
  have hms48_0 := NB274_264.out
  refine skip_ (w1 := ?_) (by rfl) rfl ?_ ?_
  rotate_left
  ·go_simp
   rfl
  refine hK.out _ _ ?_
  clear hK K
  refine done_ kr ?_
  have hnb49 := NB274_264.out
  have hnc49 := NB264_274.out
  have hnb50 := NB274_0.out
  have hnc50 := NB0_274.out
  obtain ⟨hcz51_0, hcz51_1, hcz51_2⟩ := cls3 BK274.out
  obtain ⟨hfz51_0, hfz51_1, hfz51_2⟩ := frz3 BK274.out
  have hnb52 := NB264_0.out
  have hnc52 := NB0_264.out
  obtain ⟨hcz53_0, hcz53_1, hcz53_2⟩ := cls3 BK264.out
  obtain ⟨hfz53_0, hfz53_1, hfz53_2⟩ := frz3 BK264.out
  try go_wp2
  refine bodyPost_ret (results_cell_row rfl _ _ gb264 27 #[.int .i64 t265, .slice Ao11 t266.length co11, .slice Ao47 y297.length co47] (0, 0) _ rfl (by (with_reducible repeat (first | refine blk_drewN ?_ _ | refine blk_drew ?_ | refine blk_alloc ?_ _)); refine blk_put (cs := #[.int .i64 t265, .slice Ao11 t266.length co11, .slice none 0 0]) ?_ 2 _ rfl; (with_reducible repeat (first | refine blk_drewN ?_ _ | refine blk_drew ?_ | refine blk_alloc ?_ _)); refine blk_put (cs := #[.int .i64 t265, .slice none 0 0, .slice none 0 0]) ?_ 1 _ rfl; (with_reducible repeat (first | refine blk_drewN ?_ _ | refine blk_drew ?_ | refine blk_alloc ?_ _)); refine blk_put (cs := #[.int .i64 0, .slice none 0 0, .slice none 0 0]) ?_ 0 _ rfl; (with_reducible repeat (first | refine blk_drewN ?_ _ | refine blk_drew ?_ | refine blk_alloc ?_ _)); refine blk_far ?_ NB264_274.out _; (with_reducible repeat (first | refine blk_drewN ?_ _ | refine blk_drew ?_ | refine blk_alloc ?_ _)); exact BK264.out) Try.underlying27 rfl kr) rfl ?_
  exact ⟨_, _, rfw, by (with_reducible repeat (first | apply Kd.R_alloc | apply Kd.R_drewN | apply Kd.R_drew)); exact Kd.R_mono (Kd.R_far (p := ⟨gb264, 2, none⟩) (Kd.R_far (p := ⟨gb264, 1, none⟩) (Kd.R_far (p := ⟨gb264, 0, none⟩) (Kd.R_far (p := ⟨gb274, 2, none⟩) (Kd.R_types (Kd.R_types HO268.out BK274.out (by decide)) BK264.out (by decide)) (fun _ hk => hk.1.2) (.slice Ao47 y297.length co47)) (fun _ hk => hk.2) (.int .i64 t265)) (fun _ hk => hk.2) (.slice Ao11 t266.length co11)) (fun _ hk => hk.2) (.slice Ao47 y297.length co47)) (fun _ hk => hk.1.1.1.1), by (with_reducible repeat (first | apply Kd.N_alloc | apply Kd.N_drewN | apply Kd.N_drew)); exact Kd.N_mono (Kd.N_far (p := ⟨gb264, 2, none⟩) (Kd.N_far (p := ⟨gb264, 1, none⟩) (Kd.N_far (p := ⟨gb264, 0, none⟩) (Kd.N_far (p := ⟨gb274, 2, none⟩) (Kd.N_mono (Kd.N_mono HO299.out (fun k_ hk => (⟨hk, hk.2.2.2.1⟩ : _ ∧ k_ ≠ gb274))) (fun k_ hk => (⟨hk, hk.1.2.2.1⟩ : _ ∧ k_ ≠ gb264))) (fun _ hk => hk.1.2) (.slice Ao47 y297.length co47)) (fun _ hk => hk.2) (.int .i64 t265)) (fun _ hk => hk.2) (.slice Ao11 t266.length co11)) (fun _ hk => hk.2) (.slice Ao47 y297.length co47)) (fun _ hk => ⟨hk.1.1.1, hk.1.1.2.1⟩), by repeat (first | (with_reducible first | exact HI0.out | apply IsS58.alloc | apply IsS58.drewN | apply IsS58.drew | apply IsS58.set_1 | apply IsS58.set_2 | refine IsS58.far ?_ NB0_264.out _ | refine IsS58.far ?_ NB0_274.out _) | exact HI0.out), by repeat (first | (with_reducible first | exact HB.out | apply below_alloc | apply pw_below_drewN | apply below_drew1 | refine below_set ?_ (IsS58.ge HI0.out) | refine below_set ?_ GE264.out | refine below_set ?_ GE274.out) | exact HB.out), by repeat (first | (with_reducible first | exact HK.out | apply KeepBut.set_ | apply keep_drewN | apply keep_drew | apply keep_alloc | refine keep_far ?_ GW264.out _ | refine keep_far ?_ GW274.out _) | exact HK.out)⟩
 rw [if_neg c38] at H
 have c38b0 : (t275 == 2) = false := beq_eq_false_iff_ne.mpr c38
 have c38b1 : (t275 != 2) = true := bne_iff_ne.mpr c38
 by_cases c54 : t275 = 3
 ·rw [if_pos c54] at H
  have c54b0 : (t275 == 3) = true := beq_iff_eq.mpr c54
  have c54b1 : (t275 != 3) = false := bne_eq_false_iff_eq.mpr c54
  clear c54
  replace H := Option.bind_eq_some_iff.mp H
  obtain ⟨⟨t300, t301, t304, t307, t308⟩, A550, H⟩ := H
  replace H : ((spec_l3Fun.f k t265 t266 t269 t300 t301 t304).bind fun bt309 => (some (bt309.1, bt309.2.1, bt309.2.2, t307, t308))) = some (r1, r2, r3, r4, r5) := H
  have A55 := Aside0.mk A550
  clear A550
  replace H := Option.bind_eq_some_iff.mp H
  obtain ⟨⟨t309, t310, t313⟩, A560, H⟩ := H
  replace H : (some (t309, t310, t313, t307, t308)) = some (r1, r2, r3, r4, r5) := H
  have A56 := Aside0.mk A560
  clear A560
  simp only [Option.some.injEq, Prod.mk.injEq] at H
  obtain ⟨rfl, rfl, rfl, rfl, rfl⟩ := H
  try go_wp2
  have n0_ := Aside0.mk (Kd.R_drew HO268.out)
  have n1_ := Aside0.mk (Kd.N_drew HO271.out)
  have n2_ := Aside0.mk (blk_drew BK264.out)
  have n3_ := Aside0.mk (blk_drew BK274.out)
  have n4_ := Aside0.mk (IsS58.drew HI0.out)
  have n5_ := Aside0.mk (keep_drew HK.out)
  have n6_ := Aside0.mk (below_drew1 HB.out)
  clear HO268
  clear HO271
  clear BK264
  clear BK274
  clear HI0
  clear HK
  clear HB
  revert n0_ n1_ n2_ n3_ n4_ n5_ n6_
  intro HO268 HO271 BK264 BK274 HI0 HK HB
  refine start_ (n := 5) (S := fun w' => w'.cell? ⟨gb274, 0, none⟩ = some (.int .i64 t265) ∧ w'.cell? ⟨gb274, 1, none⟩ = some (.slice Ao11 t266.length co11) ∧ w'.cell? ⟨gb274, 2, none⟩ = some (.slice Ao12 t269.length co12)) (ds := [4]) #[false,false,false,false,false] kr rfl rfl ⟨(blk_cell BK274.out 0).trans rfl, (blk_cell BK274.out 1).trans rfl, (blk_cell BK274.out 2).trans rfl⟩ (fun hHeld => ?_)
  generalize w13.drew = w57 at HO268 HO271 BK264 BK274 HI0 HK HB hHeld ⊢
  refine pure_ (i := 1) (N := some 36) (v := ?_) (a' := ?_) (bm 5 2) rfl rfl kr qi (Or.inl ⟨by rfl, ?_⟩) ?_ ?_
  rotate_left
  ·intro w'
   go_simp
   with_reducible rfl
  rotate_left
  ·simp only [sx]
   rfl
  refine take_ (i := 0) (N := some 35) (v := ?_) (a' := ?_) (bm 5 3) rfl rfl kr qi (Or.inl ⟨by rfl, ?_⟩) hHeld ?_ ?_
  rotate_left
  ·rintro w' ⟨s0, s1, s2⟩
   go_simp
   with_reducible rfl
  rotate_left
  ·simp only [sx]
   rfl
  refine one_ (i := 2) (N := some 37) (bm 5 7) rfl rfl kr (by decide) (fun K hK => ?_)
  refine goes_ Try.func31 kr rfl #[.pointer (some ⟨g, 0, none⟩), .int .i64 2] (by rfl) rfl rfl mpw ?_
  with_reducible refine (spec_l3Draw.calls k g s0_0 t276 t277 2 t300 t301 t304 t307 t308 w0 _ ?side1 ?side2 A55.out).mono ?_
  (case side1 => repeat (first | (with_reducible first | exact HI0.out | apply IsS58.alloc | apply IsS58.drewN | apply IsS58.drew | apply IsS58.set_1 | apply IsS58.set_2 | refine IsS58.far ?_ NB0_264.out _ | refine IsS58.far ?_ NB0_274.out _) | exact HI0.out))
  (case side2 => repeat (first | (with_reducible first | exact HB.out | apply below_alloc | apply pw_below_drewN | apply below_drew1 | refine below_set ?_ (IsS58.ge HI0.out) | refine below_set ?_ GE264.out | refine below_set ?_ GE274.out) | exact HB.out))
  rintro e w58 ⟨v302, v305, rfl, ho0, ho1, hi, hb, hk⟩
  refine ⟨_, rfl, ?_⟩
  have n0_ := Aside0.mk (KeepBut.blk hk (g' := gb264) (o := .cells #[.int .i64 0, .slice none 0 0, .slice none 0 0] 27 (0, 0)) bkw NB264_0.out (by simp))
  have n1_ := Aside0.mk (Kd.R_mono (Kd.R_told (Kd.R_oldK (IsS58.apart (show IsS58 w0 _ g s0_0 t276 t277 from by repeat (first | (with_reducible first | exact HI0.out | apply IsS58.alloc | apply IsS58.drewN | apply IsS58.drew | apply IsS58.set_1 | apply IsS58.set_2 | refine IsS58.far ?_ NB0_264.out _ | refine IsS58.far ?_ NB0_274.out _) | exact HI0.out)) (by (with_reducible repeat (first | apply Kd.R_alloc | apply Kd.R_drewN | apply Kd.R_drew)); exact HO268.out) (by decide)) hk) (Kd.R_base ho0)) (fun _ h_ => h_.1))
  have n2_ := Aside0.mk (Kd.N_mono (Kd.N_told (Kd.N_told (Kd.N_oldK (Kd.N_mono (ok := fun k_ => ((((w.heap.size ≤ k_)) ∧ (some k_ ≠ (.slice Ao11 t266.length co11 : Value).ownBlock ∧ (k_ ≠ gb264 ∧ k_ ≠ g))) ∧ k_ ≠ gb274)) (by (with_reducible repeat (first | apply Kd.N_alloc | apply Kd.N_drewN | apply Kd.N_drew)); exact HO271.out) (fun k_ hk_ => (⟨hk_, hk_.1.2.2.2⟩ : _ ∧ k_ ≠ g))) hk) (Kd.R_base ho0)) (by first | exact Kd.N_base ho1 | exact Kd.S_base ho1)) (fun _ h_ => h_.1))
  have n3_ := Aside0.mk (KeepBut.blk hk (g' := gb274) (o := .cells #[.int .i64 t265, .slice Ao11 t266.length co11, .slice Ao12 t269.length co12] 27 (0, 0)) bkw NB274_0.out (by simp))
  have n4_ := Aside0.mk (Kd.R_lower (Kd.R_new' (Kd.R_newM (M := fun k_ => (w.heap.size ≤ k_)) (Kd.R_mono (ok' := fun k_ => True) ho0 (fun _ hk_ => trivial)) (keep_size (w := w) (g := g) (row := none) (by repeat (first | (with_reducible first | exact HK.out | apply KeepBut.set_ | apply keep_drewN | apply keep_drew | apply keep_alloc | refine keep_far ?_ GW264.out _ | refine keep_far ?_ GW274.out _) | exact HK.out))) (fun k_ h_ => h_)) (Kd.R_lt (by (with_reducible repeat (first | apply Kd.R_alloc | apply Kd.R_drewN | apply Kd.R_drew)); exact HO268.out))) (keep_size (w := w) (g := g) (row := none) (by repeat (first | (with_reducible first | exact HK.out | apply KeepBut.set_ | apply keep_drewN | apply keep_drew | apply keep_alloc | refine keep_far ?_ GW264.out _ | refine keep_far ?_ GW274.out _) | exact HK.out))))
  have n5_ := Aside0.mk (Kd.N_lower (Kd.N_mono (ok' := fun k_ => (w.heap.size ≤ k_) ∧ some k_ ≠ (v302 : Value).ownBlock ∧ some k_ ≠ (.slice Ao11 t266.length co11 : Value).ownBlock ∧ some k_ ≠ (.slice Ao12 t269.length co12 : Value).ownBlock ∧ k_ ≠ gb264 ∧ k_ ≠ gb274 ∧ k_ ≠ g) ho1 (fun k_ hk_ => ⟨(Nat.le_trans (keep_size (w := w) (g := g) (row := none) (by repeat (first | (with_reducible first | exact HK.out | apply KeepBut.set_ | apply keep_drewN | apply keep_drew | apply keep_alloc | refine keep_far ?_ GW264.out _ | refine keep_far ?_ GW274.out _) | exact HK.out))) hk_.1), hk_.2, (Kd.fresh' (Kd.R_lt (by (with_reducible repeat (first | apply Kd.R_alloc | apply Kd.R_drewN | apply Kd.R_drew)); exact HO268.out)) k_ hk_.1), (Kd.fresh' (Kd.N_lt (by (with_reducible repeat (first | apply Kd.N_alloc | apply Kd.N_drewN | apply Kd.N_drew)); exact HO271.out)) k_ hk_.1), (Kd.freshB (g := gb264) (o := .cells #[.int .i64 0, .slice none 0 0, .slice none 0 0] 27 (0, 0)) bkw k_ hk_.1), (Kd.freshB (g := gb274) (o := .cells #[.int .i64 t265, .slice Ao11 t266.length co11, .slice Ao12 t269.length co12] 27 (0, 0)) bkw k_ hk_.1), (IsS58.fresh (by repeat (first | (with_reducible first | exact HI0.out | apply IsS58.alloc | apply IsS58.drewN | apply IsS58.drew | apply IsS58.set_1 | apply IsS58.set_2 | refine IsS58.far ?_ NB0_264.out _ | refine IsS58.far ?_ NB0_274.out _) | exact HI0.out)) k_ hk_.1)⟩)) (keep_size (w := w) (g := g) (row := none) (by repeat (first | (with_reducible first | exact HK.out | apply KeepBut.set_ | apply keep_drewN | apply keep_drew | apply keep_alloc | refine keep_far ?_ GW264.out _ | refine keep_far ?_ GW274.out _) | exact HK.out))))
  have n6_ := Aside0.mk (KeepBut.trans (by repeat (first | (with_reducible first | exact HK.out | apply KeepBut.set_ | apply keep_drewN | apply keep_drew | apply keep_alloc | refine keep_far ?_ GW264.out _ | refine keep_far ?_ GW274.out _) | exact HK.out)) hk (.inl rfl))
  have n7_ := Aside0.mk (hb)
  have n8_ := Aside0.mk (hi)
  clear BK264
  clear HO268
  clear HO271
  clear BK274
  clear HK
  clear HB
  clear HI0
  revert n0_ n1_ n2_ n3_ n4_ n5_ n6_ n7_ n8_
  intro BK264 HO268 HO271 BK274 HO303 HO306 HK HB HI0
  (try clear hb)
  (try clear hb2)
  (try clear hk)
  (try clear hi)
  (try clear ho0)
  (try clear ho1)
  obtain ⟨Ao59, co59, eo59⟩ := Kd.R_slice HO303.out
  (first | subst eo59 | (injection eo59 with f1_ f2_ f3_; have f4_ := f1_.symm; have f5_ := f3_.symm; clear f1_ f2_ f3_; subst f4_; subst f5_))
  obtain ⟨Ao60, co60, eo60⟩ := Kd.N_slice HO306.out
  (first | subst eo60 | (injection eo60 with f1_ f2_ f3_; have f4_ := f1_.symm; have f5_ := f3_.symm; clear f1_ f2_ f3_; subst f4_; subst f5_))
  refine hK.out _ _ ⟨(blk_cell BK274.out 0).trans rfl, (blk_cell BK274.out 1).trans rfl, (blk_cell BK274.out 2).trans rfl⟩ (fun hHeld => ?_)
  clear hK K
  refine norm_ (a' := ?_) ?_ ?_
  rotate_left
  ·show Act.put _ (some 37) _ = _
   simp only [sx]
   rfl
  refine one_ (i := 3) (N := some 38) (bm 5 15) rfl rfl kr (by decide) (fun K hK => ?_)
  refine goes_ Try.func46 kr rfl #[.agg #[.int .i64 t265, .slice Ao11 t266.length co11, .slice Ao12 t269.length co12], .agg #[.int .i64 t300, .slice Ao59 t301.length co59, .slice Ao60 t304.length co60]] (by rfl) rfl rfl mpw ?_
  with_reducible refine (spec_l3Fun.calls k t265 _ _ t266 _ _ t269 t300 _ _ t301 _ _ t304 t309 t310 t313 _ ?side1 ?side2 ?side3 ?side4 ?side5 ?side6 ?side7 ?side8 A56.out).mono ?_
  (case side1 => repeat (first | exact (Kd.R_reads' HO268.out).2.2 | (with_reducible refine Kd.C_alloc ?_ _) | (with_reducible refine Kd.C_drewN ?_ _) | (with_reducible refine Kd.C_drew ?_)))
  (case side2 => exact (Kd.R_reads' HO268.out).2.1)
  (case side3 => repeat (first | exact (Kd.N_reads' HO271.out).2.2 | (with_reducible refine Kd.C_alloc ?_ _) | (with_reducible refine Kd.C_drewN ?_ _) | (with_reducible refine Kd.C_drew ?_)))
  (case side4 => exact (Kd.N_reads' HO271.out).2.1)
  (case side5 => repeat (first | exact (Kd.R_reads' HO303.out).2.2 | (with_reducible refine Kd.C_alloc ?_ _) | (with_reducible refine Kd.C_drewN ?_ _) | (with_reducible refine Kd.C_drew ?_)))
  (case side6 => exact (Kd.R_reads' HO303.out).2.1)
  (case side7 => repeat (first | exact (Kd.N_reads' HO306.out).2.2 | (with_reducible refine Kd.C_alloc ?_ _) | (with_reducible refine Kd.C_drewN ?_ _) | (with_reducible refine Kd.C_drew ?_)))
  (case side8 => exact (Kd.N_reads' HO306.out).2.1)
  rintro e w61 ⟨v311, v314, rfl, ho0, ho1, hb⟩
  refine ⟨_, rfl, ?_⟩
  obtain ⟨N62, EN62⟩ := Ow.name_size hb
  have n0_ := Aside0.mk (Kd.R_elder' (by (with_reducible repeat (first | apply Kd.R_alloc | apply Kd.R_drewN | apply Kd.R_drew)); exact HO268.out) (Kd.R_base ho0) hb)
  have n1_ := Aside0.mk (Kd.N_mono (Kd.N_told (Kd.N_told (Kd.N_old (by (with_reducible repeat (first | apply Kd.N_alloc | apply Kd.N_drewN | apply Kd.N_drew)); exact HO271.out) hb) (Kd.R_base ho0)) (by first | exact Kd.N_base ho1 | exact Kd.S_base ho1)) (fun _ h_ => h_.1))
  have n2_ := Aside0.mk (Kd.R_elder' (by (with_reducible repeat (first | apply Kd.R_alloc | apply Kd.R_drewN | apply Kd.R_drew)); exact HO303.out) (Kd.R_base ho0) hb)
  have n3_ := Aside0.mk (Kd.N_mono (Kd.N_told (Kd.N_told (Kd.N_old (by (with_reducible repeat (first | apply Kd.N_alloc | apply Kd.N_drewN | apply Kd.N_drew)); exact HO306.out) hb) (Kd.R_base ho0)) (by first | exact Kd.N_base ho1 | exact Kd.S_base ho1)) (fun _ h_ => h_.1))
  have n4_ := Aside0.mk (Kd.R_lower (Ow.R_geN (Kd.R_new' (Kd.R_new' (Kd.R_newM (M := fun k_ => (w.heap.size ≤ k_)) (Kd.R_mono (ok' := fun k_ => True) ho0 (fun _ hk_ => trivial)) (keep_size (w := w) (g := g) (row := none) (by repeat (first | (with_reducible first | exact HK.out | apply KeepBut.set_ | apply keep_drewN | apply keep_drew | apply keep_alloc | refine keep_far ?_ GW264.out _ | refine keep_far ?_ GW274.out _) | exact HK.out))) (fun k_ h_ => h_)) (Kd.R_lt (by (with_reducible repeat (first | apply Kd.R_alloc | apply Kd.R_drewN | apply Kd.R_drew)); exact HO268.out))) (Kd.R_lt (by (with_reducible repeat (first | apply Kd.R_alloc | apply Kd.R_drewN | apply Kd.R_drew)); exact HO303.out))) EN62.out) (keep_size (w := w) (g := g) (row := none) (by repeat (first | (with_reducible first | exact HK.out | apply KeepBut.set_ | apply keep_drewN | apply keep_drew | apply keep_alloc | refine keep_far ?_ GW264.out _ | refine keep_far ?_ GW274.out _) | exact HK.out))))
  have n5_ := Aside0.mk (Kd.N_lower (Kd.N_mono (ok' := fun k_ => (w.heap.size ≤ k_) ∧ some k_ ≠ (v311 : Value).ownBlock ∧ some k_ ≠ (.slice Ao11 t266.length co11 : Value).ownBlock ∧ some k_ ≠ (.slice Ao12 t269.length co12 : Value).ownBlock ∧ some k_ ≠ (.slice Ao59 t301.length co59 : Value).ownBlock ∧ some k_ ≠ (.slice Ao60 t304.length co60 : Value).ownBlock ∧ k_ ≠ gb264 ∧ k_ ≠ gb274 ∧ k_ ≠ g) ho1 (fun k_ hk_ => ⟨(Nat.le_trans (keep_size (w := w) (g := g) (row := none) (by repeat (first | (with_reducible first | exact HK.out | apply KeepBut.set_ | apply keep_drewN | apply keep_drew | apply keep_alloc | refine keep_far ?_ GW264.out _ | refine keep_far ?_ GW274.out _) | exact HK.out))) hk_.1), hk_.2, (Kd.fresh' (Kd.R_lt (by (with_reducible repeat (first | apply Kd.R_alloc | apply Kd.R_drewN | apply Kd.R_drew)); exact HO268.out)) k_ hk_.1), (Kd.fresh' (Kd.N_lt (by (with_reducible repeat (first | apply Kd.N_alloc | apply Kd.N_drewN | apply Kd.N_drew)); exact HO271.out)) k_ hk_.1), (Kd.fresh' (Kd.R_lt (by (with_reducible repeat (first | apply Kd.R_alloc | apply Kd.R_drewN | apply Kd.R_drew)); exact HO303.out)) k_ hk_.1), (Kd.fresh' (Kd.N_lt (by (with_reducible repeat (first | apply Kd.N_alloc | apply Kd.N_drewN | apply Kd.N_drew)); exact HO306.out)) k_ hk_.1), (Kd.freshB (g := gb264) (o := .cells #[.int .i64 0, .slice none 0 0, .slice none 0 0] 27 (0, 0)) bkw k_ hk_.1), (Kd.freshB (g := gb274) (o := .cells #[.int .i64 t265, .slice Ao11 t266.length co11, .slice Ao12 t269.length co12] 27 (0, 0)) bkw k_ hk_.1), (IsS58.fresh (by repeat (first | (with_reducible first | exact HI0.out | apply IsS58.alloc | apply IsS58.drewN | apply IsS58.drew | apply IsS58.set_1 | apply IsS58.set_2 | refine IsS58.far ?_ NB0_264.out _ | refine IsS58.far ?_ NB0_274.out _) | exact HI0.out)) k_ hk_.1)⟩)) (keep_size (w := w) (g := g) (row := none) (by repeat (first | (with_reducible first | exact HK.out | apply KeepBut.set_ | apply keep_drewN | apply keep_drew | apply keep_alloc | refine keep_far ?_ GW264.out _ | refine keep_far ?_ GW274.out _) | exact HK.out))))
  have n6_ := Aside0.mk (IsS58.below (by repeat (first | (with_reducible first | exact HI0.out | apply IsS58.alloc | apply IsS58.drewN | apply IsS58.drew | apply IsS58.set_1 | apply IsS58.set_2 | refine IsS58.far ?_ NB0_264.out _ | refine IsS58.far ?_ NB0_274.out _) | exact HI0.out)) hb)
  have n7_ := Aside0.mk (blk_below (g := gb264) (o := .cells #[.int .i64 0, .slice none 0 0, .slice none 0 0] 27 (0, 0)) bkw hb)
  have n8_ := Aside0.mk (blk_below (g := gb274) (o := .cells #[.int .i64 t265, .slice Ao11 t266.length co11, .slice Ao12 t269.length co12] 27 (0, 0)) bkw hb)
  have n9_ := Aside0.mk (KeepBut.trans (by repeat (first | (with_reducible first | exact HK.out | apply KeepBut.set_ | apply keep_drewN | apply keep_drew | apply keep_alloc | refine keep_far ?_ GW264.out _ | refine keep_far ?_ GW274.out _) | exact HK.out)) (KeepBut.of_below hb g none) (.inl rfl))
  have n10_ := Aside0.mk (below_step (by repeat (first | (with_reducible first | exact HB.out | apply below_alloc | apply pw_below_drewN | apply below_drew1 | refine below_set ?_ (IsS58.ge HI0.out) | refine below_set ?_ GE264.out | refine below_set ?_ GE274.out) | exact HB.out)) hb)
  clear HO268
  clear HO271
  clear HO303
  clear HO306
  clear HI0
  clear BK264
  clear BK274
  clear HK
  clear HB
  revert n0_ n1_ n2_ n3_ n4_ n5_ n6_ n7_ n8_ n9_ n10_
  intro HO268 HO271 HO303 HO306 HO312 HO315 HI0 BK264 BK274 HK HB
  (try clear hb)
  (try clear hb2)
  (try clear hk)
  (try clear hi)
  (try clear ho0)
  (try clear ho1)
  obtain ⟨Ao64, co64, eo64⟩ := Kd.R_slice HO312.out
  (first | subst eo64 | (injection eo64 with f1_ f2_ f3_; have f4_ := f1_.symm; have f5_ := f3_.symm; clear f1_ f2_ f3_; subst f4_; subst f5_))
  obtain ⟨Ao66, co66, eo66⟩ := Kd.N_slice HO315.out
  (first | subst eo66 | (injection eo66 with f1_ f2_ f3_; have f4_ := f1_.symm; have f5_ := f3_.symm; clear f1_ f2_ f3_; subst f4_; subst f5_))
  refine hK.out _ _ ⟨(blk_cell BK274.out 0).trans rfl, (blk_cell BK274.out 1).trans rfl, (blk_cell BK274.out 2).trans rfl⟩ (fun hHeld => ?_)
  clear hK K
  refine norm_ (a' := ?_) ?_ ?_
  rotate_left
  ·show Act.put _ (some 38) _ = _
   simp only [sx]
   rfl
  refine last_ (i := 4) (N := none) (bm 5 31) rfl rfl kr (by decide) (fun K hK => ?_)
  have hs63 : w61.cell? ⟨gb274, 0, none⟩ = some (.int .i64 t265) := (blk_cell BK274.out 0).trans rfl
  have hfs63 := blk_frozen BK274.out 0
  have hns63_0 := NB264_274.out
  have hms63_0 := NB274_264.out
  have hs65 : w61.cell? ⟨gb274, 1, none⟩ = some (.slice Ao11 t266.length co11) := (blk_cell BK274.out 1).trans rfl
  have hfs65 := blk_frozen BK274.out 1
  have hns65_0 := NB264_274.out
  have hms65_0 := NB274_264.out
  have hs67 : w61.cell? ⟨gb274, 2, none⟩ = some (.slice Ao12 t269.length co12) := (blk_cell BK274.out 2).trans rfl
  have hfs67 := blk_frozen BK274.out 2
  have hns67_0 := NB264_274.out
  have hms67_0 := NB274_264.out
  refine skip_ (w1 := ?_) (by rfl) rfl ?_ ?_
  rotate_left
  ·go_simp
   rfl
  refine hK.out _ _ ?_
  clear hK K
  refine done_ kr ?_
  have hnb68 := NB274_264.out
  have hnc68 := NB264_274.out
  have hnb69 := NB274_0.out
  have hnc69 := NB0_274.out
  obtain ⟨hcz70_0, hcz70_1, hcz70_2⟩ := cls3 BK274.out
  obtain ⟨hfz70_0, hfz70_1, hfz70_2⟩ := frz3 BK274.out
  have hnb71 := NB264_0.out
  have hnc71 := NB0_264.out
  obtain ⟨hcz72_0, hcz72_1, hcz72_2⟩ := cls3 BK264.out
  obtain ⟨hfz72_0, hfz72_1, hfz72_2⟩ := frz3 BK264.out
  try go_wp2
  refine bodyPost_ret (results_cell_row rfl _ _ gb264 27 #[.int .i64 t309, .slice Ao64 t310.length co64, .slice Ao66 t313.length co66] (0, 0) _ rfl (by (with_reducible repeat (first | refine blk_drewN ?_ _ | refine blk_drew ?_ | refine blk_alloc ?_ _)); refine blk_put (cs := #[.int .i64 t309, .slice Ao64 t310.length co64, .slice none 0 0]) ?_ 2 _ rfl; (with_reducible repeat (first | refine blk_drewN ?_ _ | refine blk_drew ?_ | refine blk_alloc ?_ _)); refine blk_put (cs := #[.int .i64 t309, .slice none 0 0, .slice none 0 0]) ?_ 1 _ rfl; (with_reducible repeat (first | refine blk_drewN ?_ _ | refine blk_drew ?_ | refine blk_alloc ?_ _)); refine blk_put (cs := #[.int .i64 0, .slice none 0 0, .slice none 0 0]) ?_ 0 _ rfl; (with_reducible repeat (first | refine blk_drewN ?_ _ | refine blk_drew ?_ | refine blk_alloc ?_ _)); refine blk_far ?_ NB264_274.out _; (with_reducible repeat (first | refine blk_drewN ?_ _ | refine blk_drew ?_ | refine blk_alloc ?_ _)); refine blk_far ?_ NB264_274.out _; (with_reducible repeat (first | refine blk_drewN ?_ _ | refine blk_drew ?_ | refine blk_alloc ?_ _)); refine blk_far ?_ NB264_274.out _; (with_reducible repeat (first | refine blk_drewN ?_ _ | refine blk_drew ?_ | refine blk_alloc ?_ _)); exact BK264.out) Try.underlying27 rfl kr) rfl ?_
  exact ⟨_, _, rfw, by (with_reducible repeat (first | apply Kd.R_alloc | apply Kd.R_drewN | apply Kd.R_drew)); exact Kd.R_mono (Kd.R_far (p := ⟨gb264, 2, none⟩) (Kd.R_far (p := ⟨gb264, 1, none⟩) (Kd.R_far (p := ⟨gb264, 0, none⟩) (Kd.R_far (p := ⟨gb274, 2, none⟩) (Kd.R_far (p := ⟨gb274, 1, none⟩) (Kd.R_far (p := ⟨gb274, 0, none⟩) (Kd.R_types (Kd.R_types HO312.out BK274.out (by decide)) BK264.out (by decide)) (fun _ hk => hk.1.2) (.int .i64 t309)) (fun _ hk => hk.1.2) (.slice Ao64 t310.length co64)) (fun _ hk => hk.1.2) (.slice Ao66 t313.length co66)) (fun _ hk => hk.2) (.int .i64 t309)) (fun _ hk => hk.2) (.slice Ao64 t310.length co64)) (fun _ hk => hk.2) (.slice Ao66 t313.length co66)) (fun _ hk => hk.1.1.1.1.1.1), by (with_reducible repeat (first | apply Kd.N_alloc | apply Kd.N_drewN | apply Kd.N_drew)); exact Kd.N_mono (Kd.N_far (p := ⟨gb264, 2, none⟩) (Kd.N_far (p := ⟨gb264, 1, none⟩) (Kd.N_far (p := ⟨gb264, 0, none⟩) (Kd.N_far (p := ⟨gb274, 2, none⟩) (Kd.N_far (p := ⟨gb274, 1, none⟩) (Kd.N_far (p := ⟨gb274, 0, none⟩) (Kd.N_mono (Kd.N_mono HO315.out (fun k_ hk => (⟨hk, hk.2.2.2.2.2.2.2.1⟩ : _ ∧ k_ ≠ gb274))) (fun k_ hk => (⟨hk, hk.1.2.2.2.2.2.2.1⟩ : _ ∧ k_ ≠ gb264))) (fun _ hk => hk.1.2) (.int .i64 t309)) (fun _ hk => hk.1.2) (.slice Ao64 t310.length co64)) (fun _ hk => hk.1.2) (.slice Ao66 t313.length co66)) (fun _ hk => hk.2) (.int .i64 t309)) (fun _ hk => hk.2) (.slice Ao64 t310.length co64)) (fun _ hk => hk.2) (.slice Ao66 t313.length co66)) (fun _ hk => ⟨hk.1.1.1, hk.1.1.2.1⟩), by repeat (first | (with_reducible first | exact HI0.out | apply IsS58.alloc | apply IsS58.drewN | apply IsS58.drew | apply IsS58.set_1 | apply IsS58.set_2 | refine IsS58.far ?_ NB0_264.out _ | refine IsS58.far ?_ NB0_274.out _) | exact HI0.out), by repeat (first | (with_reducible first | exact HB.out | apply below_alloc | apply pw_below_drewN | apply below_drew1 | refine below_set ?_ (IsS58.ge HI0.out) | refine below_set ?_ GE264.out | refine below_set ?_ GE274.out) | exact HB.out), by repeat (first | (with_reducible first | exact HK.out | apply KeepBut.set_ | apply keep_drewN | apply keep_drew | apply keep_alloc | refine keep_far ?_ GW264.out _ | refine keep_far ?_ GW274.out _) | exact HK.out)⟩
 rw [if_neg c54] at H
 have c54b0 : (t275 == 3) = false := beq_eq_false_iff_ne.mpr c54
 have c54b1 : (t275 != 3) = true := bne_iff_ne.mpr c54
 by_cases c73 : t275 = 4
 case neg =>
  rw [if_neg c73] at H
  have c73b0 : (t275 == 4) = false := beq_eq_false_iff_ne.mpr c73
  have c73b1 : (t275 != 4) = true := bne_iff_ne.mpr c73
  simp only [Option.some.injEq, Prod.mk.injEq] at H
  obtain ⟨rfl, rfl, rfl, rfl, rfl⟩ := H
  have hnb95 := NB274_264.out
  have hnc95 := NB264_274.out
  have hnb96 := NB274_0.out
  have hnc96 := NB0_274.out
  obtain ⟨hcz97_0, hcz97_1, hcz97_2⟩ := cls3 BK274.out
  obtain ⟨hfz97_0, hfz97_1, hfz97_2⟩ := frz3 BK274.out
  have hnb98 := NB264_0.out
  have hnc98 := NB0_264.out
  obtain ⟨hcz99_0, hcz99_1, hcz99_2⟩ := cls3 BK264.out
  obtain ⟨hfz99_0, hfz99_1, hfz99_2⟩ := frz3 BK264.out
  go_wp2
  refine bodyPost_ret (results_cell_row rfl _ _ gb264 27 #[.int .i64 t265, .slice Ao11 t266.length co11, .slice Ao12 t269.length co12] (0, 0) _ rfl (by (with_reducible repeat (first | refine blk_drewN ?_ _ | refine blk_drew ?_ | refine blk_alloc ?_ _)); refine blk_put (cs := #[.int .i64 t265, .slice Ao11 t266.length co11, .slice none 0 0]) ?_ 2 _ rfl; (with_reducible repeat (first | refine blk_drewN ?_ _ | refine blk_drew ?_ | refine blk_alloc ?_ _)); refine blk_put (cs := #[.int .i64 t265, .slice none 0 0, .slice none 0 0]) ?_ 1 _ rfl; (with_reducible repeat (first | refine blk_drewN ?_ _ | refine blk_drew ?_ | refine blk_alloc ?_ _)); refine blk_put (cs := #[.int .i64 0, .slice none 0 0, .slice none 0 0]) ?_ 0 _ rfl; (with_reducible repeat (first | refine blk_drewN ?_ _ | refine blk_drew ?_ | refine blk_alloc ?_ _)); exact BK264.out) Try.underlying27 rfl kr) rfl ?_
  exact ⟨_, _, rfw, by (with_reducible repeat (first | apply Kd.R_alloc | apply Kd.R_drewN | apply Kd.R_drew)); exact Kd.R_mono (Kd.R_far (p := ⟨gb264, 2, none⟩) (Kd.R_far (p := ⟨gb264, 1, none⟩) (Kd.R_far (p := ⟨gb264, 0, none⟩) (Kd.R_types HO268.out BK264.out (by decide)) (fun _ hk => hk.2) (.int .i64 t265)) (fun _ hk => hk.2) (.slice Ao11 t266.length co11)) (fun _ hk => hk.2) (.slice Ao12 t269.length co12)) (fun _ hk => hk.1.1), by (with_reducible repeat (first | apply Kd.N_alloc | apply Kd.N_drewN | apply Kd.N_drew)); exact Kd.N_mono (Kd.N_far (p := ⟨gb264, 2, none⟩) (Kd.N_far (p := ⟨gb264, 1, none⟩) (Kd.N_far (p := ⟨gb264, 0, none⟩) (Kd.N_mono HO271.out (fun k_ hk => (⟨hk, hk.1.2.2.1⟩ : _ ∧ k_ ≠ gb264))) (fun _ hk => hk.2) (.int .i64 t265)) (fun _ hk => hk.2) (.slice Ao11 t266.length co11)) (fun _ hk => hk.2) (.slice Ao12 t269.length co12)) (fun _ hk => ⟨hk.1.1.1, hk.1.1.2.1⟩), by repeat (first | (with_reducible first | exact HI0.out | apply IsS58.alloc | apply IsS58.drewN | apply IsS58.drew | apply IsS58.set_1 | apply IsS58.set_2 | refine IsS58.far ?_ NB0_264.out _ | refine IsS58.far ?_ NB0_274.out _) | exact HI0.out), by repeat (first | (with_reducible first | exact HB.out | apply below_alloc | apply pw_below_drewN | apply below_drew1 | refine below_set ?_ (IsS58.ge HI0.out) | refine below_set ?_ GE264.out | refine below_set ?_ GE274.out) | exact HB.out), by repeat (first | (with_reducible first | exact HK.out | apply KeepBut.set_ | apply keep_drewN | apply keep_drew | apply keep_alloc | refine keep_far ?_ GW264.out _ | refine keep_far ?_ GW274.out _) | exact HK.out)⟩
 rw [if_pos c73] at H
 have c73b0 : (t275 == 4) = true := beq_iff_eq.mpr c73
 have c73b1 : (t275 != 4) = false := bne_eq_false_iff_eq.mpr c73
 clear c73
 replace H := Option.bind_eq_some_iff.mp H
 obtain ⟨⟨t316, t317, t318⟩, A740, H⟩ := H
 replace H : (spec_l3Bent.l0 k (wrap64 (1 + t316)) 0 s0_0 t317 t318 t265 t266 t269) = some (r1, r2, r3, r4, r5) := H
 have A74 := Aside0.mk A740
 clear A740
 have H' := Aside0.mk H
 clear H
 go_wp2_with (first | ((with_reducible refine gate_callee (f := 44) rfl ?_); refine goesL_ (some 42) rfl rfl Try.func44 kr rfl #[.pointer (some ⟨g, 0, none⟩), .int .i64 5] rfl mpw ?_; (with_reducible refine (spec_l1Below.calls g s0_0 t276 t277 5 t316 t317 t318 w0 _ ?side1 ?side2 A74.out).mono ?_); (case side1 => repeat (first | (with_reducible first | exact HI0.out | apply IsS58.alloc | apply IsS58.drewN | apply IsS58.drew | apply IsS58.set_1 | apply IsS58.set_2 | refine IsS58.far ?_ NB0_264.out _ | refine IsS58.far ?_ NB0_274.out _) | exact HI0.out)); (case side2 => repeat (first | (with_reducible first | exact HB.out | apply below_alloc | apply pw_below_drewN | apply below_drew1 | refine below_set ?_ (IsS58.ge HI0.out) | refine below_set ?_ GE264.out | refine below_set ?_ GE274.out) | exact HB.out)); rintro e w75 ⟨rfl, hi, hb, hk⟩; refine ⟨_, rfl, ?_⟩; have n0_ := Aside0.mk (KeepBut.blk hk (g' := gb264) (o := .cells #[.int .i64 0, .slice none 0 0, .slice none 0 0] 27 (0, 0)) bkw NB264_0.out (by simp)); have n1_ := Aside0.mk (Kd.R_mono (Kd.R_keep (IsS58.apart (show IsS58 w0 _ g s0_0 t276 t277 from by repeat (first | (with_reducible first | exact HI0.out | apply IsS58.alloc | apply IsS58.drewN | apply IsS58.drew | apply IsS58.set_1 | apply IsS58.set_2 | refine IsS58.far ?_ NB0_264.out _ | refine IsS58.far ?_ NB0_274.out _) | exact HI0.out)) (by (with_reducible repeat (first | apply Kd.R_alloc | apply Kd.R_drewN | apply Kd.R_drew)); exact HO268.out) (by decide)) hk (fun _ h => h.2)) (fun _ h => h.1)); have n2_ := Aside0.mk (Kd.N_mono (Kd.N_keep (Kd.N_mono (ok := fun k_ => ((((w.heap.size ≤ k_)) ∧ (some k_ ≠ (.slice Ao11 t266.length co11 : Value).ownBlock ∧ (k_ ≠ gb264 ∧ k_ ≠ g))) ∧ k_ ≠ gb274)) (by (with_reducible repeat (first | apply Kd.N_alloc | apply Kd.N_drewN | apply Kd.N_drew)); exact HO271.out) (fun k_ hk_ => (⟨hk_, hk_.1.2.2.2⟩ : _ ∧ k_ ≠ g))) hk (fun _ h => h.2)) (fun _ h => h.1)); have n3_ := Aside0.mk (KeepBut.blk hk (g' := gb274) (o := .cells #[.int .i64 t265, .slice Ao11 t266.length co11, .slice Ao12 t269.length co12] 27 (0, 0)) bkw NB274_0.out (by simp)); have n4_ := Aside0.mk (KeepBut.trans (by repeat (first | (with_reducible first | exact HK.out | apply KeepBut.set_ | apply keep_drewN | apply keep_drew | apply keep_alloc | refine keep_far ?_ GW264.out _ | refine keep_far ?_ GW274.out _) | exact HK.out)) hk (.inl rfl)); have n5_ := Aside0.mk (hb); have n6_ := Aside0.mk (hi); clear BK264; clear HO268; clear HO271; clear BK274; clear HK; clear HB; clear HI0; revert n0_ n1_ n2_ n3_ n4_ n5_ n6_; intro BK264 HO268 HO271 BK274 HK HB HI0; (try clear hb); (try clear hb2); (try clear hk); (try clear hi)))
 go_loopg [5] k (fun kq v5 w' => ∃ (x5_1 : Int) (x275000_1 : Int) (x275001_1 : List ByteArray) (x275002_1 : List (S27)) (u275001 : Value) (u275002 : Value), v5 = .int .i64 x5_1 ∧ Aside0 (spec_l3Bent.l0 kq (wrap64 (1 + t316)) x5_1 s0_0 t317 t318 x275000_1 x275001_1 x275002_1 = some (r1, r2, r3, r4, r5)) ∧ Aside0 (kq ≤ k) ∧ Aside0 (Kd.R Kd.string 9 w' w.heap.size (fun k_ => (w.heap.size ≤ k_)) u275001 x275001_1) ∧ Aside0 (Kd.N k27 27 w' w.heap.size (fun k_ => (w.heap.size ≤ k_) ∧ some k_ ≠ (u275001 : Value).ownBlock ∧ k_ ≠ gb264 ∧ k_ ≠ gb274 ∧ k_ ≠ g) u275002 x275002_1) ∧ Aside0 (w'.heap[gb264]? = some (.cells #[.int .i64 0, (.slice none 0 0), (.slice none 0 0)] 27 (0, 0))) ∧ Aside0 (w'.heap[gb274]? = some (.cells #[.int .i64 x275000_1, u275001, u275002] 27 (0, 0))) ∧ Aside0 (IsS58 w0 w' g s0_0 t317 t318) ∧ Aside0 (KeepBut w w' g none) ∧ Aside0 (Below w0.heap.size w0 w'))
 case atStart => exact ⟨(0), (t265), (t266), (t269), (.slice Ao11 t266.length co11), (.slice Ao12 t269.length co12), rfs, H', ⟨Nat.le_refl _⟩, ⟨by (with_reducible repeat (first | apply Kd.R_alloc | apply Kd.R_drewN | apply Kd.R_drew)); exact Kd.R_mono HO268.out (fun _ hk => hk.1)⟩, ⟨by (with_reducible repeat (first | apply Kd.N_alloc | apply Kd.N_drewN | apply Kd.N_drew)); exact Kd.N_mono HO271.out (fun _ hk => ⟨hk.1.1, ⟨hk.1.2.1, ⟨hk.1.2.2.1, ⟨hk.2, hk.1.2.2.2⟩⟩⟩⟩)⟩, ⟨bkw⟩, ⟨bkw⟩, ⟨by repeat (first | (with_reducible first | exact HI0.out | apply IsS58.alloc | apply IsS58.drewN | apply IsS58.drew | apply IsS58.set_1 | apply IsS58.set_2 | refine IsS58.far ?_ NB0_264.out _ | refine IsS58.far ?_ NB0_274.out _) | exact HI0.out)⟩, ⟨by repeat (first | (with_reducible first | exact HK.out | apply KeepBut.set_ | apply keep_drewN | apply keep_drew | apply keep_alloc | refine keep_far ?_ GW264.out _ | refine keep_far ?_ GW274.out _) | exact HK.out)⟩, ⟨by repeat (first | (with_reducible first | exact HB.out | apply below_alloc | apply pw_below_drewN | apply below_drew1 | refine below_set ?_ (IsS58.ge HI0.out) | refine below_set ?_ GE264.out | refine below_set ?_ GE274.out) | exact HB.out)⟩⟩
 case round =>
  clear H'
  (try clear c2); (try clear p2); (try clear c3); (try clear c4); (try clear c5); (try clear c6); (try clear p6); (try clear c7); (try clear c22); (try clear c22b0); (try clear c22b1); (try clear c24); (try clear c31); (try clear c32); (try clear c33); (try clear c34); (try clear c36); (try clear c38); (try clear c38b0); (try clear c38b1); (try clear c40); (try clear c44); (try clear c45); (try clear c46); (try clear c49); (try clear c50); (try clear c52); (try clear c54); (try clear c54b0); (try clear c54b1); (try clear p64); (try clear c68); (try clear c69); (try clear c71); (try clear c73); (try clear c73b0); (try clear c73b1); (try clear hcz35_0); (try clear hcz35_1); (try clear hcz35_2); (try clear hcz37_0); (try clear hcz37_1); (try clear hcz37_2); (try clear hcz51_0); (try clear hcz51_1); (try clear hcz51_2); (try clear hcz53_0); (try clear hcz53_1); (try clear hcz53_2); (try clear hcz70_0); (try clear hcz70_1); (try clear hcz70_2); (try clear hcz72_0); (try clear hcz72_1); (try clear hcz72_2); (try clear hfz35_0); (try clear hfz35_1); (try clear hfz35_2); (try clear hfz37_0); (try clear hfz37_1); (try clear hfz37_2); (try clear hfz51_0); (try clear hfz51_1); (try clear hfz51_2); (try clear hfz53_0); (try clear hfz53_1); (try clear hfz53_2); (try clear hfz70_0); (try clear hfz70_1); (try clear hfz70_2); (try clear hfz72_0); (try clear hfz72_1); (try clear hfz72_2)
  obtain ⟨x5_1, x275000_1, x275001_1, x275002_1, u275001, u275002, rfl, HA, HK1, HO_275001, HO_275002, BK264, BK274, HI0, HK, HB⟩ := hrel
  cases gk with
  | zero => exact absurd HA.out (by simp [spec_l3Bent.l0])
  | succ k1 =>
   have H := HA.out
   clear HA
   simp only [spec_l3Bent.l0] at H
   by_cases c76 : x5_1 < (wrap64 (1 + t316))
   case neg =>
    rw [if_neg c76] at H
    have c76b0 : decide (x5_1 < (wrap64 (1 + t316))) = false := decide_eq_false c76
    clear c76
    simp only [Option.some.injEq, Prod.mk.injEq] at H
    obtain ⟨rfl, rfl, rfl, rfl, rfl⟩ := H
    have hnb88 := NB274_264.out
    have hnc88 := NB264_274.out
    have hnb89 := NB274_0.out
    have hnc89 := NB0_274.out
    obtain ⟨hcz90_0, hcz90_1, hcz90_2⟩ := cls3 BK274.out
    obtain ⟨hfz90_0, hfz90_1, hfz90_2⟩ := frz3 BK274.out
    have hnb91 := NB264_0.out
    have hnc91 := NB0_264.out
    obtain ⟨hcz92_0, hcz92_1, hcz92_2⟩ := cls3 BK264.out
    obtain ⟨hfz92_0, hfz92_1, hfz92_2⟩ := frz3 BK264.out
    obtain ⟨Ao93, co93, eo93⟩ := Kd.R_slice HO_275001.out
    subst eo93
    obtain ⟨Ao94, co94, eo94⟩ := Kd.N_slice HO_275002.out
    subst eo94
    go_wp2
    refine bodyPost_ret (results_cell_row rfl _ _ gb264 27 #[.int .i64 x275000_1, .slice Ao93 x275001_1.length co93, .slice Ao94 x275002_1.length co94] (0, 0) _ rfl (by (with_reducible repeat (first | refine blk_drewN ?_ _ | refine blk_drew ?_ | refine blk_alloc ?_ _)); refine blk_put (cs := #[.int .i64 x275000_1, .slice Ao93 x275001_1.length co93, .slice none 0 0]) ?_ 2 _ rfl; (with_reducible repeat (first | refine blk_drewN ?_ _ | refine blk_drew ?_ | refine blk_alloc ?_ _)); refine blk_put (cs := #[.int .i64 x275000_1, .slice none 0 0, .slice none 0 0]) ?_ 1 _ rfl; (with_reducible repeat (first | refine blk_drewN ?_ _ | refine blk_drew ?_ | refine blk_alloc ?_ _)); refine blk_put (cs := #[.int .i64 0, .slice none 0 0, .slice none 0 0]) ?_ 0 _ rfl; (with_reducible repeat (first | refine blk_drewN ?_ _ | refine blk_drew ?_ | refine blk_alloc ?_ _)); exact BK264.out) Try.underlying27 rfl kr) rfl ?_
    exact ⟨_, _, rfw, by (with_reducible repeat (first | apply Kd.R_alloc | apply Kd.R_drewN | apply Kd.R_drew)); exact Kd.R_mono (Kd.R_far (p := ⟨gb264, 2, none⟩) (Kd.R_far (p := ⟨gb264, 1, none⟩) (Kd.R_far (p := ⟨gb264, 0, none⟩) (Kd.R_types HO_275001.out BK264.out (by decide)) (fun _ hk => hk.2) (.int .i64 x275000_1)) (fun _ hk => hk.2) (.slice Ao93 x275001_1.length co93)) (fun _ hk => hk.2) (.slice Ao94 x275002_1.length co94)) (fun _ hk => hk.1), by (with_reducible repeat (first | apply Kd.N_alloc | apply Kd.N_drewN | apply Kd.N_drew)); exact Kd.N_mono (Kd.N_far (p := ⟨gb264, 2, none⟩) (Kd.N_far (p := ⟨gb264, 1, none⟩) (Kd.N_far (p := ⟨gb264, 0, none⟩) (Kd.N_mono HO_275002.out (fun k_ hk => (⟨hk, hk.2.2.1⟩ : _ ∧ k_ ≠ gb264))) (fun _ hk => hk.2) (.int .i64 x275000_1)) (fun _ hk => hk.2) (.slice Ao93 x275001_1.length co93)) (fun _ hk => hk.2) (.slice Ao94 x275002_1.length co94)) (fun _ hk => ⟨hk.1.1, hk.1.2.1⟩), by repeat (first | (with_reducible first | exact HI0.out | apply IsS58.alloc | apply IsS58.drewN | apply IsS58.drew | apply IsS58.set_1 | apply IsS58.set_2 | refine IsS58.far ?_ NB0_264.out _ | refine IsS58.far ?_ NB0_274.out _) | exact HI0.out), by repeat (first | (with_reducible first | exact HB.out | apply below_alloc | apply pw_below_drewN | apply below_drew1 | refine below_set ?_ (IsS58.ge HI0.out) | refine below_set ?_ GE264.out | refine below_set ?_ GE274.out) | exact HB.out), by repeat (first | (with_reducible first | exact HK.out | apply KeepBut.set_ | apply keep_drewN | apply keep_drew | apply keep_alloc | refine keep_far ?_ GW264.out _ | refine keep_far ?_ GW274.out _) | exact HK.out)⟩
   rw [if_pos c76] at H
   have c76b0 : decide (x5_1 < (wrap64 (1 + t316))) = true := decide_eq_true c76
   clear c76
   replace H := Option.bind_eq_some_iff.mp H
   obtain ⟨⟨t319, t320, t323⟩, A770, H⟩ := H
   replace H : (spec_l3Bent.l0 k1 (wrap64 (1 + t316)) (wrap64 (x5_1 + 1)) s0_0 t317 t318 t319 t320 t323) = some (r1, r2, r3, r4, r5) := H
   have A77 := Aside0.mk A770
   clear A770
   have H' := Aside0.mk H
   clear H
   have hnb78 := NB274_264.out
   have hnc78 := NB264_274.out
   have hnb79 := NB274_0.out
   have hnc79 := NB0_274.out
   obtain ⟨hcz80_0, hcz80_1, hcz80_2⟩ := cls3 BK274.out
   obtain ⟨hfz80_0, hfz80_1, hfz80_2⟩ := frz3 BK274.out
   obtain ⟨Ao81, co81, eo81⟩ := Kd.R_slice HO_275001.out
   subst eo81
   obtain ⟨Ao82, co82, eo82⟩ := Kd.N_slice HO_275002.out
   subst eo82
   go_wp2_with (first | ((with_reducible refine gate_callee (f := 47) rfl ?_); refine goesL_ (some 50) rfl rfl Try.func47 kr rfl #[.agg #[.int .i64 x275000_1, .slice Ao81 x275001_1.length co81, .slice Ao82 x275002_1.length co82]] rfl mpw ?_; (with_reducible refine (spec_l3Bag.calls k1 x275000_1 _ _ x275001_1 _ _ x275002_1 t319 t320 t323 _ ?side1 ?side2 ?side3 ?side4 A77.out).mono ?_); (case side1 => repeat (first | exact (Kd.R_reads' HO_275001.out).2.2 | (with_reducible refine Kd.C_alloc ?_ _) | (with_reducible refine Kd.C_drewN ?_ _) | (with_reducible refine Kd.C_drew ?_))); (case side2 => exact (Kd.R_reads' HO_275001.out).2.1); (case side3 => repeat (first | exact (Kd.N_reads' HO_275002.out).2.2 | (with_reducible refine Kd.C_alloc ?_ _) | (with_reducible refine Kd.C_drewN ?_ _) | (with_reducible refine Kd.C_drew ?_))); (case side4 => exact (Kd.N_reads' HO_275002.out).2.1); rintro e w83 ⟨v321, v324, rfl, ho0, ho1, hb⟩; refine ⟨_, rfl, ?_⟩; obtain ⟨N84, EN84⟩ := Ow.name_size hb; have n0_ := Aside0.mk (Kd.R_elder' (by (with_reducible repeat (first | apply Kd.R_alloc | apply Kd.R_drewN | apply Kd.R_drew)); exact HO_275001.out) (Kd.R_base ho0) hb); have n1_ := Aside0.mk (Kd.N_mono (Kd.N_told (Kd.N_told (Kd.N_old (by (with_reducible repeat (first | apply Kd.N_alloc | apply Kd.N_drewN | apply Kd.N_drew)); exact HO_275002.out) hb) (Kd.R_base ho0)) (by first | exact Kd.N_base ho1 | exact Kd.S_base ho1)) (fun _ h_ => h_.1)); have n2_ := Aside0.mk (Kd.R_lower (Ow.R_geN (Kd.R_new' (Kd.R_newM (M := fun k_ => (w.heap.size ≤ k_)) (Kd.R_mono (ok' := fun k_ => True) ho0 (fun _ hk_ => trivial)) (keep_size (w := w) (g := g) (row := none) (by repeat (first | (with_reducible first | exact HK.out | apply KeepBut.set_ | apply keep_drewN | apply keep_drew | apply keep_alloc | refine keep_far ?_ GW264.out _ | refine keep_far ?_ GW274.out _) | exact HK.out))) (fun k_ h_ => h_)) (Kd.R_lt (by (with_reducible repeat (first | apply Kd.R_alloc | apply Kd.R_drewN | apply Kd.R_drew)); exact HO_275001.out))) EN84.out) (keep_size (w := w) (g := g) (row := none) (by repeat (first | (with_reducible first | exact HK.out | apply KeepBut.set_ | apply keep_drewN | apply keep_drew | apply keep_alloc | refine keep_far ?_ GW264.out _ | refine keep_far ?_ GW274.out _) | exact HK.out)))); have n3_ := Aside0.mk (Kd.N_lower (Kd.N_mono (ok' := fun k_ => (w.heap.size ≤ k_) ∧ some k_ ≠ (v321 : Value).ownBlock ∧ some k_ ≠ (.slice Ao81 x275001_1.length co81 : Value).ownBlock ∧ some k_ ≠ (.slice Ao82 x275002_1.length co82 : Value).ownBlock ∧ k_ ≠ gb264 ∧ k_ ≠ gb274 ∧ k_ ≠ g) ho1 (fun k_ hk_ => ⟨(Nat.le_trans (keep_size (w := w) (g := g) (row := none) (by repeat (first | (with_reducible first | exact HK.out | apply KeepBut.set_ | apply keep_drewN | apply keep_drew | apply keep_alloc | refine keep_far ?_ GW264.out _ | refine keep_far ?_ GW274.out _) | exact HK.out))) hk_.1), hk_.2, (Kd.fresh' (Kd.R_lt (by (with_reducible repeat (first | apply Kd.R_alloc | apply Kd.R_drewN | apply Kd.R_drew)); exact HO_275001.out)) k_ hk_.1), (Kd.fresh' (Kd.N_lt (by (with_reducible repeat (first | apply Kd.N_alloc | apply Kd.N_drewN | apply Kd.N_drew)); exact HO_275002.out)) k_ hk_.1), (Kd.freshB (g := gb264) (o := .cells #[.int .i64 0, .slice none 0 0, .slice none 0 0] 27 (0, 0)) bkw k_ hk_.1), (Kd.freshB (g := gb274) (o := .cells #[.int .i64 x275000_1, .slice Ao81 x275001_1.length co81, .slice Ao82 x275002_1.length co82] 27 (0, 0)) bkw k_ hk_.1), (IsS58.fresh (by repeat (first | (with_reducible first | exact HI0.out | apply IsS58.alloc | apply IsS58.drewN | apply IsS58.drew | apply IsS58.set_1 | apply IsS58.set_2 | refine IsS58.far ?_ NB0_264.out _ | refine IsS58.far ?_ NB0_274.out _) | exact HI0.out)) k_ hk_.1)⟩)) (keep_size (w := w) (g := g) (row := none) (by repeat (first | (with_reducible first | exact HK.out | apply KeepBut.set_ | apply keep_drewN | apply keep_drew | apply keep_alloc | refine keep_far ?_ GW264.out _ | refine keep_far ?_ GW274.out _) | exact HK.out)))); have n4_ := Aside0.mk (blk_below (g := gb264) (o := .cells #[.int .i64 0, .slice none 0 0, .slice none 0 0] 27 (0, 0)) bkw hb); have n5_ := Aside0.mk (blk_below (g := gb274) (o := .cells #[.int .i64 x275000_1, .slice Ao81 x275001_1.length co81, .slice Ao82 x275002_1.length co82] 27 (0, 0)) bkw hb); have n6_ := Aside0.mk (IsS58.below (by repeat (first | (with_reducible first | exact HI0.out | apply IsS58.alloc | apply IsS58.drewN | apply IsS58.drew | apply IsS58.set_1 | apply IsS58.set_2 | refine IsS58.far ?_ NB0_264.out _ | refine IsS58.far ?_ NB0_274.out _) | exact HI0.out)) hb); have n7_ := Aside0.mk (KeepBut.trans (by repeat (first | (with_reducible first | exact HK.out | apply KeepBut.set_ | apply keep_drewN | apply keep_drew | apply keep_alloc | refine keep_far ?_ GW264.out _ | refine keep_far ?_ GW274.out _) | exact HK.out)) (KeepBut.of_below hb g none) (.inl rfl)); have n8_ := Aside0.mk (below_step (by repeat (first | (with_reducible first | exact HB.out | apply below_alloc | apply pw_below_drewN | apply below_drew1 | refine below_set ?_ (IsS58.ge HI0.out) | refine below_set ?_ GE264.out | refine below_set ?_ GE274.out) | exact HB.out)) hb); clear HO_275001; clear HO_275002; clear BK264; clear BK274; clear HI0; clear HK; clear HB; revert n0_ n1_ n2_ n3_ n4_ n5_ n6_ n7_ n8_; intro HO_275001 HO_275002 HO322 HO325 BK264 BK274 HI0 HK HB; (try clear hb); (try clear hb2); (try clear hk); (try clear hi); (try clear ho0); (try clear ho1); obtain ⟨hcz85_0, hcz85_1, hcz85_2⟩ := cls3 BK274.out; obtain ⟨hfz85_0, hfz85_1, hfz85_2⟩ := frz3 BK274.out; obtain ⟨Ao86, co86, eo86⟩ := Kd.R_slice HO322.out; subst eo86; obtain ⟨Ao87, co87, eo87⟩ := Kd.N_slice HO325.out; subst eo87))
   go_roundg k1
   case measure => have := HK1.out; omega
   case rel => exact ⟨(wrap64 (x5_1 + 1)), (t319), (t320), (t323), (.slice Ao86 t320.length co86), (.slice Ao87 t323.length co87), rfs, H', ⟨by have := HK1.out; omega⟩, ⟨by (with_reducible repeat (first | apply Kd.R_alloc | apply Kd.R_drewN | apply Kd.R_drew)); exact Kd.R_mono (Kd.R_far (p := ⟨gb274, 2, none⟩) (Kd.R_far (p := ⟨gb274, 1, none⟩) (Kd.R_far (p := ⟨gb274, 0, none⟩) (Kd.R_types HO322.out BK274.out (by decide)) (fun _ hk => hk.2) (.int .i64 t319)) (fun _ hk => hk.2) (.slice Ao86 t320.length co86)) (fun _ hk => hk.2) (.slice Ao87 t323.length co87)) (fun _ hk => hk.1.1.1.1)⟩, ⟨by (with_reducible repeat (first | apply Kd.N_alloc | apply Kd.N_drewN | apply Kd.N_drew)); exact Kd.N_mono (Kd.N_far (p := ⟨gb274, 2, none⟩) (Kd.N_far (p := ⟨gb274, 1, none⟩) (Kd.N_far (p := ⟨gb274, 0, none⟩) (Kd.N_mono HO325.out (fun k_ hk => (⟨hk, hk.2.2.2.2.2.1⟩ : _ ∧ k_ ≠ gb274))) (fun _ hk => hk.2) (.int .i64 t319)) (fun _ hk => hk.2) (.slice Ao86 t320.length co86)) (fun _ hk => hk.2) (.slice Ao87 t323.length co87)) (fun _ hk => ⟨hk.1.1, ⟨hk.1.2.1, ⟨hk.1.2.2.2.2.1, ⟨hk.1.2.2.2.2.2.1, hk.1.2.2.2.2.2.2⟩⟩⟩⟩)⟩, ⟨by (with_reducible repeat (first | refine blk_drewN ?_ _ | refine blk_drew ?_ | refine blk_alloc ?_ _)); refine blk_far ?_ NB264_274.out _; (with_reducible repeat (first | refine blk_drewN ?_ _ | refine blk_drew ?_ | refine blk_alloc ?_ _)); refine blk_far ?_ NB264_274.out _; (with_reducible repeat (first | refine blk_drewN ?_ _ | refine blk_drew ?_ | refine blk_alloc ?_ _)); refine blk_far ?_ NB264_274.out _; (with_reducible repeat (first | refine blk_drewN ?_ _ | refine blk_drew ?_ | refine blk_alloc ?_ _)); exact BK264.out⟩, ⟨by (with_reducible repeat (first | refine blk_drewN ?_ _ | refine blk_drew ?_ | refine blk_alloc ?_ _)); refine blk_put (cs := #[.int .i64 t319, .slice Ao86 t320.length co86, .slice Ao82 x275002_1.length co82]) ?_ 2 _ rfl; (with_reducible repeat (first | refine blk_drewN ?_ _ | refine blk_drew ?_ | refine blk_alloc ?_ _)); refine blk_put (cs := #[.int .i64 t319, .slice Ao81 x275001_1.length co81, .slice Ao82 x275002_1.length co82]) ?_ 1 _ rfl; (with_reducible repeat (first | refine blk_drewN ?_ _ | refine blk_drew ?_ | refine blk_alloc ?_ _)); refine blk_put (cs := #[.int .i64 x275000_1, .slice Ao81 x275001_1.length co81, .slice Ao82 x275002_1.length co82]) ?_ 0 _ rfl; (with_reducible repeat (first | refine blk_drewN ?_ _ | refine blk_drew ?_ | refine blk_alloc ?_ _)); exact BK274.out⟩, ⟨by repeat (first | (with_reducible first | exact HI0.out | apply IsS58.alloc | apply IsS58.drewN | apply IsS58.drew | apply IsS58.set_1 | apply IsS58.set_2 | refine IsS58.far ?_ NB0_264.out _ | refine IsS58.far ?_ NB0_274.out _) | exact HI0.out)⟩, ⟨by repeat (first | (with_reducible first | exact HK.out | apply KeepBut.set_ | apply keep_drewN | apply keep_drew | apply keep_alloc | refine keep_far ?_ GW264.out _ | refine keep_far ?_ GW274.out _) | exact HK.out)⟩, ⟨by repeat (first | (with_reducible first | exact HB.out | apply below_alloc | apply pw_below_drewN | apply below_drew1 | refine below_set ?_ (IsS58.ge HI0.out) | refine below_set ?_ GE264.out | refine below_set ?_ GE274.out) | exact HB.out)⟩⟩

end Go.Proofs.Ytaakdfbfgabdbaa.Pt
