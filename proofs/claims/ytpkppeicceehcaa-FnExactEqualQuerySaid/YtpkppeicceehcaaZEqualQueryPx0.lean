/- Printed by a program of this session: what functions of the translation come to, each contract as it stands. No condition. -/
import Derived.Test.YtpkppeicceehcaaProg
import Derived.Below
import Derived.Deep.Draws
import Derived.Deep.AppendLies
import Derived.Maps.AppendAt
import Derived.OwnWalk
import Derived.Laws.BytesArg
import Derived.Laws.MakeOwn
import Derived.Laws.OwnMore
import Derived.Deep.OwnRows
import Derived.Tactics
import Derived.Lib.ConvBytes
import Derived.Laws.Slices
import Derived.WalkKit
import Derived.KernelRfl
import Derived.RowKit3
import Derived.Deep.LoopGhost
import Derived.Deep.QuietTactic
import Derived.BigQuiet
import Derived.WideLaws
import Derived.Deep.DeepCutAuto
import Derived.Deep.CutBlock
import Derived.Deep.RegionHeld3
import Derived.Laws.Rows
import Derived.Lib.AppendStr
import Derived.ArgAppend
import Derived.Laws.IdiomCopy
import Derived.OrdersHeld
import Derived.Laws.BitsLemmas
import Derived.RowKit
import Derived.Laws.Cover1
import Derived.Test.YtpkppeicceehcaaZEqualQueryWLastM
import Derived.Test.YtpkppeicceehcaaZEqualQueryWWords
namespace Go.Proofs.Ytpkppeicceehcaa.Px
open Go.RowKit Go.Proofs.Ytpkppeicceehcaa.Ext Go.Proofs.YtpkppeicceehcaaW.PrintWords Go.Proofs.YtpkppeicceehcaaW.PrintLast Go.Proofs.YtpkppeicceehcaaW.PrintMore
attribute [local go_sem] max2_int min2_int max_two min_two max_three min_three max_four min_four   -- for this text's walks alone
set_option linter.unusedVariables false
set_option linter.unusedSimpArgs false



def errW : Option Int → Value
 | none => .nilIface
 | some c => .iface 0 (.int .i64 c)
theorem errW_none : errW none = .nilIface := rfl
theorem errW_some (c : Int) : errW (some c) = .iface 0 (.int .i64 c) := rfl

theorem info9 : (Try.prog.info? 9).map (fun i => (i.zero, i.size, i.bytes)) = some (some (.string ⟨#[]⟩), 1, 16) := by kernel_rfl
theorem info41 : (Try.prog.info? 41).map (fun i => (i.zero, i.size, i.bytes)) = some (some (.agg #[(.int .i64 0), (.slice none 0 0), (.slice none 0 0)]), 3, 56) := by kernel_rfl
theorem info44 : (Try.prog.info? 44).map (fun i => (i.zero, i.size, i.bytes)) = some (some (.agg #[(.int .i64 0), (.string ⟨#[]⟩), (.int .i64 0), (.int .i64 0), (.slice none 0 0), (.slice none 0 0), (.slice none 0 0), (.slice none 0 0)]), 8, 136) := by kernel_rfl
theorem info47 : (Try.prog.info? 47).map (fun i => (i.zero, i.size, i.bytes)) = some (some (.agg #[(.int .i64 0), (.int .i64 0), (.string ⟨#[]⟩), (.int .i64 0), (.int .i64 0), (.slice none 0 0), (.slice none 0 0), (.slice none 0 0), (.slice none 0 0), (.slice none 0 0), (.slice none 0 0), (.slice none 0 0)]), 12, 216) := by kernel_rfl
theorem info49 : (Try.prog.info? 49).map (fun i => (i.zero, i.size, i.bytes)) = some (some (.agg #[(.slice none 0 0), (.int .i64 0), (.string ⟨#[]⟩), (.int .i64 0), (.int .i64 0), (.slice none 0 0), (.slice none 0 0), (.slice none 0 0), (.slice none 0 0), (.int .i64 0), (.int .i64 0), (.string ⟨#[]⟩), (.int .i64 0), (.int .i64 0), (.slice none 0 0), (.slice none 0 0), (.slice none 0 0), (.slice none 0 0), (.slice none 0 0), (.slice none 0 0), (.slice none 0 0)]), 21, 376) := by kernel_rfl
theorem info77 : (Try.prog.info? 77).map (fun i => (i.zero, i.size, i.bytes)) = some (some (.agg #[(.string ⟨#[]⟩), (.string ⟨#[]⟩)]), 2, 32) := by kernel_rfl
-- the values' own types
theorem nest_C_back {β : Type} {D : Nat → Kd β} {d : Kd β} (hs : ∀ n, (D n).sz = d.sz) (hle : ∀ n m, n ≤ m → ∀ w x cs, (D n).K w x cs → (D m).K w x cs) (hb : ∀ w x cs, d.K w x cs → ∃ n, (D n).K w x cs) {w : World} {A : Option Addr} {l : Nat} {xs : List β} (h : d.C w A l xs) : ∃ n, (D n).C w A l xs := by
 rcases Nat.eq_zero_or_pos l with hz | hpos
 ·subst hz
  exact ⟨0, h.1, h.2.1, fun hp => absurd hp (Nat.lt_irrefl 0)⟩
 ·obtain ⟨ad, e, hc⟩ := h.2.2 hpos
  obtain ⟨N, hN⟩ := Kd.bounded (P := fun n j => ∀ p, xs[j]? = some p → ∃ c, c.length = d.sz ∧ (D n).K w p c ∧ ∀ i u, c[i]? = some u → w.cell? (ad.add (j * d.sz + i)) = some u)
   (fun n n' j hnm hp p hj => by
    obtain ⟨c, h1, h2, h3⟩ := hp p hj
    exact ⟨c, h1, hle _ _ hnm _ _ _ h2, h3⟩) xs.length
   (fun j hj => by
    obtain ⟨c, h1, h2, h3⟩ := hc j _ (List.getElem?_eq_getElem hj)
    obtain ⟨n, h2⟩ := hb _ _ _ h2
    refine ⟨n, fun p hp => ?_⟩
    rw [List.getElem?_eq_getElem hj] at hp
    injection hp with hp
    rw [← hp]
    exact ⟨c, h1, h2, h3⟩)
  refine ⟨N, h.1, h.2.1, fun _ => ⟨ad, e, fun j p hj => ?_⟩⟩
  rw [hs N]
  exact hN j (List.getElem?_eq_some_iff.1 hj).1 p hj
theorem nest_R_back {β : Type} {D : Nat → Kd β} {d : Kd β} (hs : ∀ n, (D n).sz = d.sz) (hle : ∀ n m, n ≤ m → ∀ w base ok x cs, (D n).M w base ok x cs → (D m).M w base ok x cs) (hb : ∀ w base ok x cs, d.M w base ok x cs → ∃ n, (D n).M w base ok x cs) {e : Nat} {w : World} {base : Nat} {ok : Nat → Prop} {v : Value} {xs : List β} (h : d.R e w base ok v xs) : ∃ n, (D n).R e w base ok v xs := by
 obtain ⟨h0, inner, ho, hr⟩ := h
 obtain ⟨N, hN⟩ := Kd.reps_bounded (R := fun n p c => (D n).M w base (fun k => ok k ∧ some k ≠ v.ownBlock) p c) (fun n m p c hnm hp => hle _ _ hnm _ _ _ _ _ hp) (hr.imp_ (fun _ _ hp => hb _ _ _ _ _ hp))
 refine ⟨N, h0, inner, ?_, ?_⟩
 ·rw [hs N]; exact ho
 ·rw [hs N]; exact hN
/-! #### struct type 89 -/
structure S89 where
 f0 : ByteArray
 f1 : ByteArray
def z89 : S89 := ⟨(⟨#[]⟩ : ByteArray), (⟨#[]⟩ : ByteArray)⟩
def k89 : Kd S89 := Kd.iso (Kd.pair Kd.string Kd.string) (fun x : S89 => (x.f0, x.f1))
theorem k89_open {w : World} {x : S89} {cs : List Value} (h : k89.K w x cs) : cs = [.string x.f0, .string x.f1] := by
 obtain ⟨_, _, rfl, rfl, rfl⟩ := h
 exact rfl
def rd_T89 (xs : List S89) (i : Int) : S89 := xs.getD i.toNat z89
theorem at_T89 {w : World} {A : Option Addr} {n : Nat} {xs : List S89} (h : Kd.C k89 w A n xs) (i : Int) (h0 : 0 ≤ i) (h1 : i < n) : ∃ ad , A = some ad ∧ w.cell? (ad.add (i.toNat * 2)) = some (.string (rd_T89 xs i).f0) ∧ w.cell? ⟨(ad.add (i.toNat * 2)).block, (ad.add (i.toNat * 2)).off + 1, none⟩ = some (.string (rd_T89 xs i).f1) := by
 obtain ⟨ad, c, e, _, hK, hc0⟩ := Kd.C_get h z89 i h0 h1
 have hc : ∀ j u, c[j]? = some u → w.cell? (ad.add (i.toNat * 2 + j)) = some u := hc0
 obtain rfl := k89_open hK
 exact ⟨ad, e, hc 0 _ rfl, by rw [← add_field _ _ 1 (by omega)]; exact hc 1 _ rfl⟩

/-! #### struct type 65, nested in itself -/
structure S65 where
 f0 : Int
 f1 : (List ByteArray)
 f2 : (List S65)
def z65 : S65 := ⟨(0 : Int), ([] : List ByteArray), ([] : List S65)⟩
def F65 (d : Kd S65) : Kd S65 := Kd.iso (Kd.pair (Kd.int .i64) (Kd.pair (Kd.slice 9 Kd.string) (Kd.slice 65 d))) (fun x : S65 => (x.f0, x.f1, x.f2))
theorem mono65 : Kd.Mono F65 := Kd.mono_iso _ (Kd.mono_pair (Kd.mono_const _) (Kd.mono_pair (Kd.mono_const _) (Kd.mono_slice 65 Kd.mono_id)))
theorem sub65 : Kd.Sub F65 [9, 65] := Kd.sub_iso _ (Kd.sub_pair (Kd.sub_const _ (by decide)) (Kd.sub_pair (Kd.sub_const _ (by decide)) (Kd.sub_slice 65 (by decide) Kd.sub_id)))
theorem sz65 : ∀ n, (Kd.upto F65 3 [9, 65] n).sz = 3 := Kd.upto_sz (fun _ => rfl)
def k65 : Kd S65 := Kd.fix F65 3 [9, 65] sz65 (Kd.upto_E sub65)
theorem k65_open {w : World} {x : S65} {cs : List Value} (h : k65.K w x cs) : ∃ A1 c1 A2 c2, cs = [.int .i64 x.f0, .slice A1 x.f1.length c1, .slice A2 x.f2.length c2] ∧ x.f1.length ≤ c1 ∧ Kd.string.C w A1 x.f1.length x.f1 ∧ x.f2.length ≤ c2 ∧ k65.C w A2 x.f2.length x.f2 := by
 obtain ⟨n, h⟩ := h
 cases n with
 | zero => exact h.elim
 | succ n =>
  obtain ⟨_, _, rfl, rfl, ⟨_, _, rfl, ⟨A1, c1, rfl, l1, g1⟩, ⟨A2, c2, rfl, l2, g2⟩⟩⟩ := h
  exact ⟨A1, c1, A2, c2, rfl, l1, g1, l2, Kd.fix_C g2⟩
theorem k65_mk (w : World) (x : S65) {A1 : Option Addr} {c1 : Nat} (l1 : x.f1.length ≤ c1) (g1 : Kd.string.C w A1 x.f1.length x.f1) {A2 : Option Addr} {c2 : Nat} (l2 : x.f2.length ≤ c2) (g2 : k65.C w A2 x.f2.length x.f2) : k65.K w x [.int .i64 x.f0, .slice A1 x.f1.length c1, .slice A2 x.f2.length c2] := by
 obtain ⟨n2, q2⟩ := Kd.fix_C_back mono65 g2
 have r2 := Kd.upto_C_le mono65 sz65 (show n2 ≤ n2 by omega) q2
 exact ⟨n2 + 1, ⟨[.int .i64 x.f0], [.slice A1 x.f1.length c1, .slice A2 x.f2.length c2], rfl, rfl, ⟨[.slice A1 x.f1.length c1], [.slice A2 x.f2.length c2], rfl, ⟨A1, c1, rfl, l1, g1⟩, ⟨A2, c2, rfl, l2, r2⟩⟩⟩⟩
def rd_T65 (xs : List S65) (i : Int) : S65 := xs.getD i.toNat z65
theorem at_T65 {w : World} {A : Option Addr} {n : Nat} {xs : List S65} (h : Kd.C k65 w A n xs) (i : Int) (h0 : 0 ≤ i) (h1 : i < n) : ∃ ad A1 c1 A2 c2, A = some ad ∧ w.cell? (ad.add (i.toNat * 3)) = some (.int .i64 (rd_T65 xs i).f0) ∧ w.cell? ⟨(ad.add (i.toNat * 3)).block, (ad.add (i.toNat * 3)).off + 1, none⟩ = some (.slice A1 (rd_T65 xs i).f1.length c1) ∧ w.cell? ⟨(ad.add (i.toNat * 3)).block, (ad.add (i.toNat * 3)).off + 2, none⟩ = some (.slice A2 (rd_T65 xs i).f2.length c2) ∧ (rd_T65 xs i).f1.length ≤ c1 ∧ Kd.string.C w A1 (rd_T65 xs i).f1.length (rd_T65 xs i).f1 ∧ (rd_T65 xs i).f2.length ≤ c2 ∧ k65.C w A2 (rd_T65 xs i).f2.length (rd_T65 xs i).f2 := by
 obtain ⟨ad, c, e, _, hK, hc0⟩ := Kd.C_get h z65 i h0 h1
 have hc : ∀ j u, c[j]? = some u → w.cell? (ad.add (i.toNat * 3 + j)) = some u := hc0
 obtain ⟨A1, c1, A2, c2, rfl, l1, g1, l2, g2⟩ := k65_open hK
 exact ⟨ad, A1, c1, A2, c2, e, hc 0 _ rfl, by rw [← add_field _ _ 1 (by omega)]; exact hc 1 _ rfl, by rw [← add_field _ _ 2 (by omega)]; exact hc 2 _ rfl, l1, g1, l2, g2⟩

/-! #### struct type 68, nested in itself -/
structure S68 where
 f0 : Int
 f1 : ByteArray
 f2 : Int
 f3 : S65
 f4 : (List ByteArray)
 f5 : (List S68)
def z68 : S68 := ⟨(0 : Int), (⟨#[]⟩ : ByteArray), (0 : Int), z65, ([] : List ByteArray), ([] : List S68)⟩
def F68 (d : Kd S68) : Kd S68 := Kd.iso (Kd.pair (Kd.int .i64) (Kd.pair Kd.string (Kd.pair (Kd.int .i64) (Kd.pair k65 (Kd.pair (Kd.slice 9 Kd.string) (Kd.slice 68 d)))))) (fun x : S68 => (x.f0, x.f1, x.f2, x.f3, x.f4, x.f5))
theorem mono68 : Kd.Mono F68 := Kd.mono_iso _ (Kd.mono_pair (Kd.mono_const _) (Kd.mono_pair (Kd.mono_const _) (Kd.mono_pair (Kd.mono_const _) (Kd.mono_pair (Kd.mono_const _) (Kd.mono_pair (Kd.mono_const _) (Kd.mono_slice 68 Kd.mono_id))))))
theorem sub68 : Kd.Sub F68 [9, 65, 68] := Kd.sub_iso _ (Kd.sub_pair (Kd.sub_const _ (by decide)) (Kd.sub_pair (Kd.sub_const _ (by decide)) (Kd.sub_pair (Kd.sub_const _ (by decide)) (Kd.sub_pair (Kd.sub_const _ (by decide)) (Kd.sub_pair (Kd.sub_const _ (by decide)) (Kd.sub_slice 68 (by decide) Kd.sub_id))))))
theorem sz68 : ∀ n, (Kd.upto F68 8 [9, 65, 68] n).sz = 8 := Kd.upto_sz (fun _ => rfl)
def k68 : Kd S68 := Kd.fix F68 8 [9, 65, 68] sz68 (Kd.upto_E sub68)
theorem k68_open {w : World} {x : S68} {cs : List Value} (h : k68.K w x cs) : ∃ A4 c4 A5 c5 A6 c6 A7 c7, cs = [.int .i64 x.f0, .string x.f1, .int .i64 x.f2, .int .i64 x.f3.f0, .slice A4 x.f3.f1.length c4, .slice A5 x.f3.f2.length c5, .slice A6 x.f4.length c6, .slice A7 x.f5.length c7] ∧ x.f3.f1.length ≤ c4 ∧ Kd.string.C w A4 x.f3.f1.length x.f3.f1 ∧ x.f3.f2.length ≤ c5 ∧ k65.C w A5 x.f3.f2.length x.f3.f2 ∧ x.f4.length ≤ c6 ∧ Kd.string.C w A6 x.f4.length x.f4 ∧ x.f5.length ≤ c7 ∧ k68.C w A7 x.f5.length x.f5 := by
 obtain ⟨n, h⟩ := h
 cases n with
 | zero => exact h.elim
 | succ n =>
  obtain ⟨_, _, rfl, rfl, ⟨_, _, rfl, rfl, ⟨_, _, rfl, rfl, ⟨_, _, rfl, s3, ⟨_, _, rfl, ⟨A6, c6, rfl, l6, g6⟩, ⟨A7, c7, rfl, l7, g7⟩⟩⟩⟩⟩⟩ := h
  obtain ⟨A4, c4, A5, c5, rfl, l4, g4, l5, g5⟩ := k65_open s3
  exact ⟨A4, c4, A5, c5, A6, c6, A7, c7, rfl, l4, g4, l5, g5, l6, g6, l7, Kd.fix_C g7⟩
theorem k68_mk (w : World) (x : S68) {A4 : Option Addr} {c4 : Nat} (l4 : x.f3.f1.length ≤ c4) (g4 : Kd.string.C w A4 x.f3.f1.length x.f3.f1) {A5 : Option Addr} {c5 : Nat} (l5 : x.f3.f2.length ≤ c5) (g5 : k65.C w A5 x.f3.f2.length x.f3.f2) {A6 : Option Addr} {c6 : Nat} (l6 : x.f4.length ≤ c6) (g6 : Kd.string.C w A6 x.f4.length x.f4) {A7 : Option Addr} {c7 : Nat} (l7 : x.f5.length ≤ c7) (g7 : k68.C w A7 x.f5.length x.f5) : k68.K w x [.int .i64 x.f0, .string x.f1, .int .i64 x.f2, .int .i64 x.f3.f0, .slice A4 x.f3.f1.length c4, .slice A5 x.f3.f2.length c5, .slice A6 x.f4.length c6, .slice A7 x.f5.length c7] := by
 obtain ⟨n7, q7⟩ := Kd.fix_C_back mono68 g7
 have r7 := Kd.upto_C_le mono68 sz68 (show n7 ≤ n7 by omega) q7
 exact ⟨n7 + 1, ⟨[.int .i64 x.f0], [.string x.f1, .int .i64 x.f2, .int .i64 x.f3.f0, .slice A4 x.f3.f1.length c4, .slice A5 x.f3.f2.length c5, .slice A6 x.f4.length c6, .slice A7 x.f5.length c7], rfl, rfl, ⟨[.string x.f1], [.int .i64 x.f2, .int .i64 x.f3.f0, .slice A4 x.f3.f1.length c4, .slice A5 x.f3.f2.length c5, .slice A6 x.f4.length c6, .slice A7 x.f5.length c7], rfl, rfl, ⟨[.int .i64 x.f2], [.int .i64 x.f3.f0, .slice A4 x.f3.f1.length c4, .slice A5 x.f3.f2.length c5, .slice A6 x.f4.length c6, .slice A7 x.f5.length c7], rfl, rfl, ⟨[.int .i64 x.f3.f0, .slice A4 x.f3.f1.length c4, .slice A5 x.f3.f2.length c5], [.slice A6 x.f4.length c6, .slice A7 x.f5.length c7], rfl, (k65_mk w x.f3 l4 g4 l5 g5), ⟨[.slice A6 x.f4.length c6], [.slice A7 x.f5.length c7], rfl, ⟨A6, c6, rfl, l6, g6⟩, ⟨A7, c7, rfl, l7, r7⟩⟩⟩⟩⟩⟩⟩
def rd_T68 (xs : List S68) (i : Int) : S68 := xs.getD i.toNat z68
theorem at_T68 {w : World} {A : Option Addr} {n : Nat} {xs : List S68} (h : Kd.C k68 w A n xs) (i : Int) (h0 : 0 ≤ i) (h1 : i < n) : ∃ ad A4 c4 A5 c5 A6 c6 A7 c7, A = some ad ∧ w.cell? (ad.add (i.toNat * 8)) = some (.int .i64 (rd_T68 xs i).f0) ∧ w.cell? ⟨(ad.add (i.toNat * 8)).block, (ad.add (i.toNat * 8)).off + 1, none⟩ = some (.string (rd_T68 xs i).f1) ∧ w.cell? ⟨(ad.add (i.toNat * 8)).block, (ad.add (i.toNat * 8)).off + 2, none⟩ = some (.int .i64 (rd_T68 xs i).f2) ∧ w.cell? ⟨(ad.add (i.toNat * 8)).block, (ad.add (i.toNat * 8)).off + 3, none⟩ = some (.int .i64 (rd_T68 xs i).f3.f0) ∧ w.cell? ⟨(ad.add (i.toNat * 8)).block, (ad.add (i.toNat * 8)).off + 4, none⟩ = some (.slice A4 (rd_T68 xs i).f3.f1.length c4) ∧ w.cell? ⟨(ad.add (i.toNat * 8)).block, (ad.add (i.toNat * 8)).off + 5, none⟩ = some (.slice A5 (rd_T68 xs i).f3.f2.length c5) ∧ w.cell? ⟨(ad.add (i.toNat * 8)).block, (ad.add (i.toNat * 8)).off + 6, none⟩ = some (.slice A6 (rd_T68 xs i).f4.length c6) ∧ w.cell? ⟨(ad.add (i.toNat * 8)).block, (ad.add (i.toNat * 8)).off + 7, none⟩ = some (.slice A7 (rd_T68 xs i).f5.length c7) ∧ (rd_T68 xs i).f3.f1.length ≤ c4 ∧ Kd.string.C w A4 (rd_T68 xs i).f3.f1.length (rd_T68 xs i).f3.f1 ∧ (rd_T68 xs i).f3.f2.length ≤ c5 ∧ k65.C w A5 (rd_T68 xs i).f3.f2.length (rd_T68 xs i).f3.f2 ∧ (rd_T68 xs i).f4.length ≤ c6 ∧ Kd.string.C w A6 (rd_T68 xs i).f4.length (rd_T68 xs i).f4 ∧ (rd_T68 xs i).f5.length ≤ c7 ∧ k68.C w A7 (rd_T68 xs i).f5.length (rd_T68 xs i).f5 := by
 obtain ⟨ad, c, e, _, hK, hc0⟩ := Kd.C_get h z68 i h0 h1
 have hc : ∀ j u, c[j]? = some u → w.cell? (ad.add (i.toNat * 8 + j)) = some u := hc0
 obtain ⟨A4, c4, A5, c5, A6, c6, A7, c7, rfl, l4, g4, l5, g5, l6, g6, l7, g7⟩ := k68_open hK
 exact ⟨ad, A4, c4, A5, c5, A6, c6, A7, c7, e, hc 0 _ rfl, by rw [← add_field _ _ 1 (by omega)]; exact hc 1 _ rfl, by rw [← add_field _ _ 2 (by omega)]; exact hc 2 _ rfl, by rw [← add_field _ _ 3 (by omega)]; exact hc 3 _ rfl, by rw [← add_field _ _ 4 (by omega)]; exact hc 4 _ rfl, by rw [← add_field _ _ 5 (by omega)]; exact hc 5 _ rfl, by rw [← add_field _ _ 6 (by omega)]; exact hc 6 _ rfl, by rw [← add_field _ _ 7 (by omega)]; exact hc 7 _ rfl, l4, g4, l5, g5, l6, g6, l7, g7⟩

/-! #### struct types 71, 73, 24, nested in each other -/
structure SC73 (H : Type) where
 f0 : (List S89)
 f1 : S68
 f2 : H
structure SQ24 (H : Type) where
 f0 : List (SC73 H)
/-! #### struct type 71, nested in itself -/
structure S71 where
 f0 : Int
 f1 : S68
 f2 : (List ByteArray)
 f3 : (List S71)
 f4 : (SQ24 S71)
abbrev S73 := SC73 S71
abbrev S24 := SQ24 S71
def z71 : S71 := ⟨(0 : Int), z68, ([] : List ByteArray), ([] : List S71), ⟨[]⟩⟩
def KC73 (d : Kd S71) : Kd S73 := Kd.iso (Kd.pair (Kd.slice 89 k89) (Kd.pair k68 d)) (fun x : S73 => (x.f0, x.f1, x.f2))
def KQ24 (d : Kd S71) : Kd S24 := Kd.iso (Kd.slice 73 (KC73 d)) (fun x : S24 => x.f0)
theorem monoC73 : Kd.Mono KC73 := Kd.mono_iso _ (Kd.mono_pair (Kd.mono_const _) (Kd.mono_pair (Kd.mono_const _) Kd.mono_id))
theorem monoQ24 : Kd.Mono KQ24 := Kd.mono_iso _ (Kd.mono_slice 73 monoC73)
theorem subC73 : Kd.Sub KC73 [9, 65, 68, 71, 73, 89] := Kd.sub_iso _ (Kd.sub_pair (Kd.sub_const _ (by decide)) (Kd.sub_pair (Kd.sub_const _ (by decide)) Kd.sub_id))
theorem subQ24 : Kd.Sub KQ24 [9, 65, 68, 71, 73, 89] := Kd.sub_iso _ (Kd.sub_slice 73 (by decide) subC73)
def F71 (d : Kd S71) : Kd S71 := Kd.iso (Kd.pair (Kd.int .i64) (Kd.pair k68 (Kd.pair (Kd.slice 9 Kd.string) (Kd.pair (Kd.slice 71 d) (KQ24 d))))) (fun x : S71 => (x.f0, x.f1, x.f2, x.f3, x.f4))
theorem mono71 : Kd.Mono F71 := Kd.mono_iso _ (Kd.mono_pair (Kd.mono_const _) (Kd.mono_pair (Kd.mono_const _) (Kd.mono_pair (Kd.mono_const _) (Kd.mono_pair (Kd.mono_slice 71 Kd.mono_id) monoQ24))))
theorem sub71 : Kd.Sub F71 [9, 65, 68, 71, 73, 89] := Kd.sub_iso _ (Kd.sub_pair (Kd.sub_const _ (by decide)) (Kd.sub_pair (Kd.sub_const _ (by decide)) (Kd.sub_pair (Kd.sub_const _ (by decide)) (Kd.sub_pair (Kd.sub_slice 71 (by decide) Kd.sub_id) subQ24))))
theorem sz71 : ∀ n, (Kd.upto F71 12 [9, 65, 68, 71, 73, 89] n).sz = 12 := Kd.upto_sz (fun _ => rfl)
def k71 : Kd S71 := Kd.fix F71 12 [9, 65, 68, 71, 73, 89] sz71 (Kd.upto_E sub71)
def k73 : Kd S73 := KC73 k71
def k24 : Kd S24 := KQ24 k71
theorem backK73 : ∀ w x cs, k73.K w x cs → ∃ n, (KC73 (Kd.upto F71 12 [9, 65, 68, 71, 73, 89] n)).K w x cs := by
 rintro w x cs ⟨_, _, rfl, h0, ⟨_, _, rfl, h1, ⟨n, h2⟩⟩⟩
 exact ⟨n, ⟨_, _, rfl, h0, ⟨_, _, rfl, h1, h2⟩⟩⟩
theorem liftC73 {n : Nat} {w : World} {A : Option Addr} {l : Nat} {xs : List S73} (h : (KC73 (Kd.upto F71 12 [9, 65, 68, 71, 73, 89] n)).C w A l xs) : k73.C w A l xs := Kd.C_imp (d' := k73) (monoC73.sz _ k71 (sz71 n)) (monoC73.K _ k71 (sz71 n) (fun _ _ _ hp => ⟨n, hp⟩)) h
theorem leC73 {n m : Nat} (hnm : n ≤ m) {w : World} {A : Option Addr} {l : Nat} {xs : List S73} (h : (KC73 (Kd.upto F71 12 [9, 65, 68, 71, 73, 89] n)).C w A l xs) : (KC73 (Kd.upto F71 12 [9, 65, 68, 71, 73, 89] m)).C w A l xs := Kd.C_imp (monoC73.sz _ _ (by rw [sz71 n, sz71 m])) (monoC73.K _ _ (by rw [sz71 n, sz71 m]) (fun _ _ _ hp => Kd.upto_K_le mono71 sz71 hnm hp)) h
theorem backC73 {w : World} {A : Option Addr} {l : Nat} {xs : List S73} (h : k73.C w A l xs) : ∃ n, (KC73 (Kd.upto F71 12 [9, 65, 68, 71, 73, 89] n)).C w A l xs := nest_C_back (D := fun n => KC73 (Kd.upto F71 12 [9, 65, 68, 71, 73, 89] n)) (d := k73) (fun n => monoC73.sz _ k71 (sz71 n)) (fun n m hnm => monoC73.K _ _ (by rw [sz71 n, sz71 m]) (fun _ _ _ hp => Kd.upto_K_le mono71 sz71 hnm hp)) backK73 h
theorem k71_open {w : World} {x : S71} {cs : List Value} (h : k71.K w x cs) : ∃ A5 c5 A6 c6 A7 c7 A8 c8 A9 c9 A10 c10 A11 c11, cs = [.int .i64 x.f0, .int .i64 x.f1.f0, .string x.f1.f1, .int .i64 x.f1.f2, .int .i64 x.f1.f3.f0, .slice A5 x.f1.f3.f1.length c5, .slice A6 x.f1.f3.f2.length c6, .slice A7 x.f1.f4.length c7, .slice A8 x.f1.f5.length c8, .slice A9 x.f2.length c9, .slice A10 x.f3.length c10, .slice A11 x.f4.f0.length c11] ∧ x.f1.f3.f1.length ≤ c5 ∧ Kd.string.C w A5 x.f1.f3.f1.length x.f1.f3.f1 ∧ x.f1.f3.f2.length ≤ c6 ∧ k65.C w A6 x.f1.f3.f2.length x.f1.f3.f2 ∧ x.f1.f4.length ≤ c7 ∧ Kd.string.C w A7 x.f1.f4.length x.f1.f4 ∧ x.f1.f5.length ≤ c8 ∧ k68.C w A8 x.f1.f5.length x.f1.f5 ∧ x.f2.length ≤ c9 ∧ Kd.string.C w A9 x.f2.length x.f2 ∧ x.f3.length ≤ c10 ∧ k71.C w A10 x.f3.length x.f3 ∧ x.f4.f0.length ≤ c11 ∧ k73.C w A11 x.f4.f0.length x.f4.f0 := by
 obtain ⟨n, h⟩ := h
 cases n with
 | zero => exact h.elim
 | succ n =>
  obtain ⟨_, _, rfl, rfl, ⟨_, _, rfl, s1, ⟨_, _, rfl, ⟨A9, c9, rfl, l9, g9⟩, ⟨_, _, rfl, ⟨A10, c10, rfl, l10, g10⟩, ⟨A11, c11, rfl, l11, g11⟩⟩⟩⟩⟩ := h
  obtain ⟨A5, c5, A6, c6, A7, c7, A8, c8, rfl, l5, g5, l6, g6, l7, g7, l8, g8⟩ := k68_open s1
  exact ⟨A5, c5, A6, c6, A7, c7, A8, c8, A9, c9, A10, c10, A11, c11, rfl, l5, g5, l6, g6, l7, g7, l8, g8, l9, g9, l10, Kd.fix_C g10, l11, liftC73 g11⟩
theorem k71_mk (w : World) (x : S71) {A5 : Option Addr} {c5 : Nat} (l5 : x.f1.f3.f1.length ≤ c5) (g5 : Kd.string.C w A5 x.f1.f3.f1.length x.f1.f3.f1) {A6 : Option Addr} {c6 : Nat} (l6 : x.f1.f3.f2.length ≤ c6) (g6 : k65.C w A6 x.f1.f3.f2.length x.f1.f3.f2) {A7 : Option Addr} {c7 : Nat} (l7 : x.f1.f4.length ≤ c7) (g7 : Kd.string.C w A7 x.f1.f4.length x.f1.f4) {A8 : Option Addr} {c8 : Nat} (l8 : x.f1.f5.length ≤ c8) (g8 : k68.C w A8 x.f1.f5.length x.f1.f5) {A9 : Option Addr} {c9 : Nat} (l9 : x.f2.length ≤ c9) (g9 : Kd.string.C w A9 x.f2.length x.f2) {A10 : Option Addr} {c10 : Nat} (l10 : x.f3.length ≤ c10) (g10 : k71.C w A10 x.f3.length x.f3) {A11 : Option Addr} {c11 : Nat} (l11 : x.f4.f0.length ≤ c11) (g11 : k73.C w A11 x.f4.f0.length x.f4.f0) : k71.K w x [.int .i64 x.f0, .int .i64 x.f1.f0, .string x.f1.f1, .int .i64 x.f1.f2, .int .i64 x.f1.f3.f0, .slice A5 x.f1.f3.f1.length c5, .slice A6 x.f1.f3.f2.length c6, .slice A7 x.f1.f4.length c7, .slice A8 x.f1.f5.length c8, .slice A9 x.f2.length c9, .slice A10 x.f3.length c10, .slice A11 x.f4.f0.length c11] := by
 obtain ⟨n10, q10⟩ := Kd.fix_C_back mono71 g10
 obtain ⟨n11, q11⟩ := backC73 g11
 have r10 := Kd.upto_C_le mono71 sz71 (show n10 ≤ (max n10 n11) by omega) q10
 have r11 := leC73 (show n11 ≤ (max n10 n11) by omega) q11
 exact ⟨(max n10 n11) + 1, ⟨[.int .i64 x.f0], [.int .i64 x.f1.f0, .string x.f1.f1, .int .i64 x.f1.f2, .int .i64 x.f1.f3.f0, .slice A5 x.f1.f3.f1.length c5, .slice A6 x.f1.f3.f2.length c6, .slice A7 x.f1.f4.length c7, .slice A8 x.f1.f5.length c8, .slice A9 x.f2.length c9, .slice A10 x.f3.length c10, .slice A11 x.f4.f0.length c11], rfl, rfl, ⟨[.int .i64 x.f1.f0, .string x.f1.f1, .int .i64 x.f1.f2, .int .i64 x.f1.f3.f0, .slice A5 x.f1.f3.f1.length c5, .slice A6 x.f1.f3.f2.length c6, .slice A7 x.f1.f4.length c7, .slice A8 x.f1.f5.length c8], [.slice A9 x.f2.length c9, .slice A10 x.f3.length c10, .slice A11 x.f4.f0.length c11], rfl, (k68_mk w x.f1 l5 g5 l6 g6 l7 g7 l8 g8), ⟨[.slice A9 x.f2.length c9], [.slice A10 x.f3.length c10, .slice A11 x.f4.f0.length c11], rfl, ⟨A9, c9, rfl, l9, g9⟩, ⟨[.slice A10 x.f3.length c10], [.slice A11 x.f4.f0.length c11], rfl, ⟨A10, c10, rfl, l10, r10⟩, ⟨A11, c11, rfl, l11, r11⟩⟩⟩⟩⟩⟩
def rd_T71 (xs : List S71) (i : Int) : S71 := xs.getD i.toNat z71
theorem at_T71 {w : World} {A : Option Addr} {n : Nat} {xs : List S71} (h : Kd.C k71 w A n xs) (i : Int) (h0 : 0 ≤ i) (h1 : i < n) : ∃ ad A5 c5 A6 c6 A7 c7 A8 c8 A9 c9 A10 c10 A11 c11, A = some ad ∧ w.cell? (ad.add (i.toNat * 12)) = some (.int .i64 (rd_T71 xs i).f0) ∧ w.cell? ⟨(ad.add (i.toNat * 12)).block, (ad.add (i.toNat * 12)).off + 1, none⟩ = some (.int .i64 (rd_T71 xs i).f1.f0) ∧ w.cell? ⟨(ad.add (i.toNat * 12)).block, (ad.add (i.toNat * 12)).off + 2, none⟩ = some (.string (rd_T71 xs i).f1.f1) ∧ w.cell? ⟨(ad.add (i.toNat * 12)).block, (ad.add (i.toNat * 12)).off + 3, none⟩ = some (.int .i64 (rd_T71 xs i).f1.f2) ∧ w.cell? ⟨(ad.add (i.toNat * 12)).block, (ad.add (i.toNat * 12)).off + 4, none⟩ = some (.int .i64 (rd_T71 xs i).f1.f3.f0) ∧ w.cell? ⟨(ad.add (i.toNat * 12)).block, (ad.add (i.toNat * 12)).off + 5, none⟩ = some (.slice A5 (rd_T71 xs i).f1.f3.f1.length c5) ∧ w.cell? ⟨(ad.add (i.toNat * 12)).block, (ad.add (i.toNat * 12)).off + 6, none⟩ = some (.slice A6 (rd_T71 xs i).f1.f3.f2.length c6) ∧ w.cell? ⟨(ad.add (i.toNat * 12)).block, (ad.add (i.toNat * 12)).off + 7, none⟩ = some (.slice A7 (rd_T71 xs i).f1.f4.length c7) ∧ w.cell? ⟨(ad.add (i.toNat * 12)).block, (ad.add (i.toNat * 12)).off + 8, none⟩ = some (.slice A8 (rd_T71 xs i).f1.f5.length c8) ∧ w.cell? ⟨(ad.add (i.toNat * 12)).block, (ad.add (i.toNat * 12)).off + 9, none⟩ = some (.slice A9 (rd_T71 xs i).f2.length c9) ∧ w.cell? ⟨(ad.add (i.toNat * 12)).block, (ad.add (i.toNat * 12)).off + 10, none⟩ = some (.slice A10 (rd_T71 xs i).f3.length c10) ∧ w.cell? ⟨(ad.add (i.toNat * 12)).block, (ad.add (i.toNat * 12)).off + 11, none⟩ = some (.slice A11 (rd_T71 xs i).f4.f0.length c11) ∧ (rd_T71 xs i).f1.f3.f1.length ≤ c5 ∧ Kd.string.C w A5 (rd_T71 xs i).f1.f3.f1.length (rd_T71 xs i).f1.f3.f1 ∧ (rd_T71 xs i).f1.f3.f2.length ≤ c6 ∧ k65.C w A6 (rd_T71 xs i).f1.f3.f2.length (rd_T71 xs i).f1.f3.f2 ∧ (rd_T71 xs i).f1.f4.length ≤ c7 ∧ Kd.string.C w A7 (rd_T71 xs i).f1.f4.length (rd_T71 xs i).f1.f4 ∧ (rd_T71 xs i).f1.f5.length ≤ c8 ∧ k68.C w A8 (rd_T71 xs i).f1.f5.length (rd_T71 xs i).f1.f5 ∧ (rd_T71 xs i).f2.length ≤ c9 ∧ Kd.string.C w A9 (rd_T71 xs i).f2.length (rd_T71 xs i).f2 ∧ (rd_T71 xs i).f3.length ≤ c10 ∧ k71.C w A10 (rd_T71 xs i).f3.length (rd_T71 xs i).f3 ∧ (rd_T71 xs i).f4.f0.length ≤ c11 ∧ k73.C w A11 (rd_T71 xs i).f4.f0.length (rd_T71 xs i).f4.f0 := by
 obtain ⟨ad, c, e, _, hK, hc0⟩ := Kd.C_get h z71 i h0 h1
 have hc : ∀ j u, c[j]? = some u → w.cell? (ad.add (i.toNat * 12 + j)) = some u := hc0
 obtain ⟨A5, c5, A6, c6, A7, c7, A8, c8, A9, c9, A10, c10, A11, c11, rfl, l5, g5, l6, g6, l7, g7, l8, g8, l9, g9, l10, g10, l11, g11⟩ := k71_open hK
 exact ⟨ad, A5, c5, A6, c6, A7, c7, A8, c8, A9, c9, A10, c10, A11, c11, e, hc 0 _ rfl, by rw [← add_field _ _ 1 (by omega)]; exact hc 1 _ rfl, by rw [← add_field _ _ 2 (by omega)]; exact hc 2 _ rfl, by rw [← add_field _ _ 3 (by omega)]; exact hc 3 _ rfl, by rw [← add_field _ _ 4 (by omega)]; exact hc 4 _ rfl, by rw [← add_field _ _ 5 (by omega)]; exact hc 5 _ rfl, by rw [← add_field _ _ 6 (by omega)]; exact hc 6 _ rfl, by rw [← add_field _ _ 7 (by omega)]; exact hc 7 _ rfl, by rw [← add_field _ _ 8 (by omega)]; exact hc 8 _ rfl, by rw [← add_field _ _ 9 (by omega)]; exact hc 9 _ rfl, by rw [← add_field _ _ 10 (by omega)]; exact hc 10 _ rfl, by rw [← add_field _ _ 11 (by omega)]; exact hc 11 _ rfl, l5, g5, l6, g6, l7, g7, l8, g8, l9, g9, l10, g10, l11, g11⟩

def z73 : S73 := ⟨([] : List S89), z68, z71⟩
theorem k73_open {w : World} {x : S73} {cs : List Value} (h : k73.K w x cs) : ∃ A0 c0 A5 c5 A6 c6 A7 c7 A8 c8 A14 c14 A15 c15 A16 c16 A17 c17 A18 c18 A19 c19 A20 c20, cs = [.slice A0 x.f0.length c0, .int .i64 x.f1.f0, .string x.f1.f1, .int .i64 x.f1.f2, .int .i64 x.f1.f3.f0, .slice A5 x.f1.f3.f1.length c5, .slice A6 x.f1.f3.f2.length c6, .slice A7 x.f1.f4.length c7, .slice A8 x.f1.f5.length c8, .int .i64 x.f2.f0, .int .i64 x.f2.f1.f0, .string x.f2.f1.f1, .int .i64 x.f2.f1.f2, .int .i64 x.f2.f1.f3.f0, .slice A14 x.f2.f1.f3.f1.length c14, .slice A15 x.f2.f1.f3.f2.length c15, .slice A16 x.f2.f1.f4.length c16, .slice A17 x.f2.f1.f5.length c17, .slice A18 x.f2.f2.length c18, .slice A19 x.f2.f3.length c19, .slice A20 x.f2.f4.f0.length c20] ∧ x.f0.length ≤ c0 ∧ k89.C w A0 x.f0.length x.f0 ∧ x.f1.f3.f1.length ≤ c5 ∧ Kd.string.C w A5 x.f1.f3.f1.length x.f1.f3.f1 ∧ x.f1.f3.f2.length ≤ c6 ∧ k65.C w A6 x.f1.f3.f2.length x.f1.f3.f2 ∧ x.f1.f4.length ≤ c7 ∧ Kd.string.C w A7 x.f1.f4.length x.f1.f4 ∧ x.f1.f5.length ≤ c8 ∧ k68.C w A8 x.f1.f5.length x.f1.f5 ∧ x.f2.f1.f3.f1.length ≤ c14 ∧ Kd.string.C w A14 x.f2.f1.f3.f1.length x.f2.f1.f3.f1 ∧ x.f2.f1.f3.f2.length ≤ c15 ∧ k65.C w A15 x.f2.f1.f3.f2.length x.f2.f1.f3.f2 ∧ x.f2.f1.f4.length ≤ c16 ∧ Kd.string.C w A16 x.f2.f1.f4.length x.f2.f1.f4 ∧ x.f2.f1.f5.length ≤ c17 ∧ k68.C w A17 x.f2.f1.f5.length x.f2.f1.f5 ∧ x.f2.f2.length ≤ c18 ∧ Kd.string.C w A18 x.f2.f2.length x.f2.f2 ∧ x.f2.f3.length ≤ c19 ∧ k71.C w A19 x.f2.f3.length x.f2.f3 ∧ x.f2.f4.f0.length ≤ c20 ∧ k73.C w A20 x.f2.f4.f0.length x.f2.f4.f0 := by
 obtain ⟨_, _, rfl, ⟨A0, c0, rfl, l0, g0⟩, ⟨_, _, rfl, s1, s9⟩⟩ := h
 obtain ⟨A5, c5, A6, c6, A7, c7, A8, c8, rfl, l5, g5, l6, g6, l7, g7, l8, g8⟩ := k68_open s1
 obtain ⟨A14, c14, A15, c15, A16, c16, A17, c17, A18, c18, A19, c19, A20, c20, rfl, l14, g14, l15, g15, l16, g16, l17, g17, l18, g18, l19, g19, l20, g20⟩ := k71_open s9
 exact ⟨A0, c0, A5, c5, A6, c6, A7, c7, A8, c8, A14, c14, A15, c15, A16, c16, A17, c17, A18, c18, A19, c19, A20, c20, rfl, l0, g0, l5, g5, l6, g6, l7, g7, l8, g8, l14, g14, l15, g15, l16, g16, l17, g17, l18, g18, l19, g19, l20, g20⟩
def rd_T73 (xs : List S73) (i : Int) : S73 := xs.getD i.toNat z73
theorem at_T73 {w : World} {A : Option Addr} {n : Nat} {xs : List S73} (h : Kd.C k73 w A n xs) (i : Int) (h0 : 0 ≤ i) (h1 : i < n) : ∃ ad A0 c0 A5 c5 A6 c6 A7 c7 A8 c8 A14 c14 A15 c15 A16 c16 A17 c17 A18 c18 A19 c19 A20 c20, A = some ad ∧ w.cell? (ad.add (i.toNat * 21)) = some (.slice A0 (rd_T73 xs i).f0.length c0) ∧ w.cell? ⟨(ad.add (i.toNat * 21)).block, (ad.add (i.toNat * 21)).off + 1, none⟩ = some (.int .i64 (rd_T73 xs i).f1.f0) ∧ w.cell? ⟨(ad.add (i.toNat * 21)).block, (ad.add (i.toNat * 21)).off + 2, none⟩ = some (.string (rd_T73 xs i).f1.f1) ∧ w.cell? ⟨(ad.add (i.toNat * 21)).block, (ad.add (i.toNat * 21)).off + 3, none⟩ = some (.int .i64 (rd_T73 xs i).f1.f2) ∧ w.cell? ⟨(ad.add (i.toNat * 21)).block, (ad.add (i.toNat * 21)).off + 4, none⟩ = some (.int .i64 (rd_T73 xs i).f1.f3.f0) ∧ w.cell? ⟨(ad.add (i.toNat * 21)).block, (ad.add (i.toNat * 21)).off + 5, none⟩ = some (.slice A5 (rd_T73 xs i).f1.f3.f1.length c5) ∧ w.cell? ⟨(ad.add (i.toNat * 21)).block, (ad.add (i.toNat * 21)).off + 6, none⟩ = some (.slice A6 (rd_T73 xs i).f1.f3.f2.length c6) ∧ w.cell? ⟨(ad.add (i.toNat * 21)).block, (ad.add (i.toNat * 21)).off + 7, none⟩ = some (.slice A7 (rd_T73 xs i).f1.f4.length c7) ∧ w.cell? ⟨(ad.add (i.toNat * 21)).block, (ad.add (i.toNat * 21)).off + 8, none⟩ = some (.slice A8 (rd_T73 xs i).f1.f5.length c8) ∧ w.cell? ⟨(ad.add (i.toNat * 21)).block, (ad.add (i.toNat * 21)).off + 9, none⟩ = some (.int .i64 (rd_T73 xs i).f2.f0) ∧ w.cell? ⟨(ad.add (i.toNat * 21)).block, (ad.add (i.toNat * 21)).off + 10, none⟩ = some (.int .i64 (rd_T73 xs i).f2.f1.f0) ∧ w.cell? ⟨(ad.add (i.toNat * 21)).block, (ad.add (i.toNat * 21)).off + 11, none⟩ = some (.string (rd_T73 xs i).f2.f1.f1) ∧ w.cell? ⟨(ad.add (i.toNat * 21)).block, (ad.add (i.toNat * 21)).off + 12, none⟩ = some (.int .i64 (rd_T73 xs i).f2.f1.f2) ∧ w.cell? ⟨(ad.add (i.toNat * 21)).block, (ad.add (i.toNat * 21)).off + 13, none⟩ = some (.int .i64 (rd_T73 xs i).f2.f1.f3.f0) ∧ w.cell? ⟨(ad.add (i.toNat * 21)).block, (ad.add (i.toNat * 21)).off + 14, none⟩ = some (.slice A14 (rd_T73 xs i).f2.f1.f3.f1.length c14) ∧ w.cell? ⟨(ad.add (i.toNat * 21)).block, (ad.add (i.toNat * 21)).off + 15, none⟩ = some (.slice A15 (rd_T73 xs i).f2.f1.f3.f2.length c15) ∧ w.cell? ⟨(ad.add (i.toNat * 21)).block, (ad.add (i.toNat * 21)).off + 16, none⟩ = some (.slice A16 (rd_T73 xs i).f2.f1.f4.length c16) ∧ w.cell? ⟨(ad.add (i.toNat * 21)).block, (ad.add (i.toNat * 21)).off + 17, none⟩ = some (.slice A17 (rd_T73 xs i).f2.f1.f5.length c17) ∧ w.cell? ⟨(ad.add (i.toNat * 21)).block, (ad.add (i.toNat * 21)).off + 18, none⟩ = some (.slice A18 (rd_T73 xs i).f2.f2.length c18) ∧ w.cell? ⟨(ad.add (i.toNat * 21)).block, (ad.add (i.toNat * 21)).off + 19, none⟩ = some (.slice A19 (rd_T73 xs i).f2.f3.length c19) ∧ w.cell? ⟨(ad.add (i.toNat * 21)).block, (ad.add (i.toNat * 21)).off + 20, none⟩ = some (.slice A20 (rd_T73 xs i).f2.f4.f0.length c20) ∧ (rd_T73 xs i).f0.length ≤ c0 ∧ k89.C w A0 (rd_T73 xs i).f0.length (rd_T73 xs i).f0 ∧ (rd_T73 xs i).f1.f3.f1.length ≤ c5 ∧ Kd.string.C w A5 (rd_T73 xs i).f1.f3.f1.length (rd_T73 xs i).f1.f3.f1 ∧ (rd_T73 xs i).f1.f3.f2.length ≤ c6 ∧ k65.C w A6 (rd_T73 xs i).f1.f3.f2.length (rd_T73 xs i).f1.f3.f2 ∧ (rd_T73 xs i).f1.f4.length ≤ c7 ∧ Kd.string.C w A7 (rd_T73 xs i).f1.f4.length (rd_T73 xs i).f1.f4 ∧ (rd_T73 xs i).f1.f5.length ≤ c8 ∧ k68.C w A8 (rd_T73 xs i).f1.f5.length (rd_T73 xs i).f1.f5 ∧ (rd_T73 xs i).f2.f1.f3.f1.length ≤ c14 ∧ Kd.string.C w A14 (rd_T73 xs i).f2.f1.f3.f1.length (rd_T73 xs i).f2.f1.f3.f1 ∧ (rd_T73 xs i).f2.f1.f3.f2.length ≤ c15 ∧ k65.C w A15 (rd_T73 xs i).f2.f1.f3.f2.length (rd_T73 xs i).f2.f1.f3.f2 ∧ (rd_T73 xs i).f2.f1.f4.length ≤ c16 ∧ Kd.string.C w A16 (rd_T73 xs i).f2.f1.f4.length (rd_T73 xs i).f2.f1.f4 ∧ (rd_T73 xs i).f2.f1.f5.length ≤ c17 ∧ k68.C w A17 (rd_T73 xs i).f2.f1.f5.length (rd_T73 xs i).f2.f1.f5 ∧ (rd_T73 xs i).f2.f2.length ≤ c18 ∧ Kd.string.C w A18 (rd_T73 xs i).f2.f2.length (rd_T73 xs i).f2.f2 ∧ (rd_T73 xs i).f2.f3.length ≤ c19 ∧ k71.C w A19 (rd_T73 xs i).f2.f3.length (rd_T73 xs i).f2.f3 ∧ (rd_T73 xs i).f2.f4.f0.length ≤ c20 ∧ k73.C w A20 (rd_T73 xs i).f2.f4.f0.length (rd_T73 xs i).f2.f4.f0 := by
 obtain ⟨ad, c, e, _, hK, hc0⟩ := Kd.C_get h z73 i h0 h1
 have hc : ∀ j u, c[j]? = some u → w.cell? (ad.add (i.toNat * 21 + j)) = some u := hc0
 obtain ⟨A0, c0, A5, c5, A6, c6, A7, c7, A8, c8, A14, c14, A15, c15, A16, c16, A17, c17, A18, c18, A19, c19, A20, c20, rfl, l0, g0, l5, g5, l6, g6, l7, g7, l8, g8, l14, g14, l15, g15, l16, g16, l17, g17, l18, g18, l19, g19, l20, g20⟩ := k73_open hK
 exact ⟨ad, A0, c0, A5, c5, A6, c6, A7, c7, A8, c8, A14, c14, A15, c15, A16, c16, A17, c17, A18, c18, A19, c19, A20, c20, e, hc 0 _ rfl, by rw [← add_field _ _ 1 (by omega)]; exact hc 1 _ rfl, by rw [← add_field _ _ 2 (by omega)]; exact hc 2 _ rfl, by rw [← add_field _ _ 3 (by omega)]; exact hc 3 _ rfl, by rw [← add_field _ _ 4 (by omega)]; exact hc 4 _ rfl, by rw [← add_field _ _ 5 (by omega)]; exact hc 5 _ rfl, by rw [← add_field _ _ 6 (by omega)]; exact hc 6 _ rfl, by rw [← add_field _ _ 7 (by omega)]; exact hc 7 _ rfl, by rw [← add_field _ _ 8 (by omega)]; exact hc 8 _ rfl, by rw [← add_field _ _ 9 (by omega)]; exact hc 9 _ rfl, by rw [← add_field _ _ 10 (by omega)]; exact hc 10 _ rfl, by rw [← add_field _ _ 11 (by omega)]; exact hc 11 _ rfl, by rw [← add_field _ _ 12 (by omega)]; exact hc 12 _ rfl, by rw [← add_field _ _ 13 (by omega)]; exact hc 13 _ rfl, by rw [← add_field _ _ 14 (by omega)]; exact hc 14 _ rfl, by rw [← add_field _ _ 15 (by omega)]; exact hc 15 _ rfl, by rw [← add_field _ _ 16 (by omega)]; exact hc 16 _ rfl, by rw [← add_field _ _ 17 (by omega)]; exact hc 17 _ rfl, by rw [← add_field _ _ 18 (by omega)]; exact hc 18 _ rfl, by rw [← add_field _ _ 19 (by omega)]; exact hc 19 _ rfl, by rw [← add_field _ _ 20 (by omega)]; exact hc 20 _ rfl, l0, g0, l5, g5, l6, g6, l7, g7, l8, g8, l14, g14, l15, g15, l16, g16, l17, g17, l18, g18, l19, g19, l20, g20⟩

theorem k24_open {w : World} {x : S24} {cs : List Value} (h : k24.K w x cs) : ∃ A0 c0, cs = [.slice A0 x.f0.length c0] ∧ x.f0.length ≤ c0 ∧ k73.C w A0 x.f0.length x.f0 := by
 obtain ⟨A0, c0, rfl, l0, g0⟩ := h
 exact ⟨A0, c0, rfl, l0, g0⟩
/-! #### struct type 77 -/
structure S77 where
 f0 : ByteArray
 f1 : ByteArray
def z77 : S77 := ⟨(⟨#[]⟩ : ByteArray), (⟨#[]⟩ : ByteArray)⟩
def k77 : Kd S77 := Kd.iso (Kd.pair Kd.string Kd.string) (fun x : S77 => (x.f0, x.f1))
theorem k77_open {w : World} {x : S77} {cs : List Value} (h : k77.K w x cs) : cs = [.string x.f0, .string x.f1] := by
 obtain ⟨_, _, rfl, rfl, rfl⟩ := h
 exact rfl
theorem k77_openM {w : World} {base : Nat} {ok : Nat → Prop} {x : S77} {cs : List Value} (h : k77.M w base ok x cs) : cs = [.string x.f0, .string x.f1] := by
 obtain ⟨_, _, rfl, rfl, rfl⟩ := h
 exact rfl
theorem k77_mkM (w : World) (base : Nat) (ok : Nat → Prop) (x : S77)  : k77.M w base ok x [.string x.f0, .string x.f1] := ⟨[.string x.f0], [.string x.f1], rfl, rfl, rfl⟩
def rd_T77 (xs : List S77) (i : Int) : S77 := xs.getD i.toNat z77
theorem at_T77 {w : World} {A : Option Addr} {n : Nat} {xs : List S77} (h : Kd.C k77 w A n xs) (i : Int) (h0 : 0 ≤ i) (h1 : i < n) : ∃ ad , A = some ad ∧ w.cell? (ad.add (i.toNat * 2)) = some (.string (rd_T77 xs i).f0) ∧ w.cell? ⟨(ad.add (i.toNat * 2)).block, (ad.add (i.toNat * 2)).off + 1, none⟩ = some (.string (rd_T77 xs i).f1) := by
 obtain ⟨ad, c, e, _, hK, hc0⟩ := Kd.C_get h z77 i h0 h1
 have hc : ∀ j u, c[j]? = some u → w.cell? (ad.add (i.toNat * 2 + j)) = some u := hc0
 obtain rfl := k77_open hK
 exact ⟨ad, e, hc 0 _ rfl, by rw [← add_field _ _ 1 (by omega)]; exact hc 1 _ rfl⟩

/-! #### struct type 41, nested in itself -/
structure S41 where
 f0 : Int
 f1 : (List ByteArray)
 f2 : (List S41)
def z41 : S41 := ⟨(0 : Int), ([] : List ByteArray), ([] : List S41)⟩
def F41 (d : Kd S41) : Kd S41 := Kd.iso (Kd.pair (Kd.int .i64) (Kd.pair (Kd.slice 9 Kd.string) (Kd.slice 41 d))) (fun x : S41 => (x.f0, x.f1, x.f2))
theorem mono41 : Kd.Mono F41 := Kd.mono_iso _ (Kd.mono_pair (Kd.mono_const _) (Kd.mono_pair (Kd.mono_const _) (Kd.mono_slice 41 Kd.mono_id)))
theorem sub41 : Kd.Sub F41 [9, 41] := Kd.sub_iso _ (Kd.sub_pair (Kd.sub_const _ (by decide)) (Kd.sub_pair (Kd.sub_const _ (by decide)) (Kd.sub_slice 41 (by decide) Kd.sub_id)))
theorem sz41 : ∀ n, (Kd.upto F41 3 [9, 41] n).sz = 3 := Kd.upto_sz (fun _ => rfl)
def k41 : Kd S41 := Kd.fix F41 3 [9, 41] sz41 (Kd.upto_E sub41)
theorem k41_open {w : World} {x : S41} {cs : List Value} (h : k41.K w x cs) : ∃ A1 c1 A2 c2, cs = [.int .i64 x.f0, .slice A1 x.f1.length c1, .slice A2 x.f2.length c2] ∧ x.f1.length ≤ c1 ∧ Kd.string.C w A1 x.f1.length x.f1 ∧ x.f2.length ≤ c2 ∧ k41.C w A2 x.f2.length x.f2 := by
 obtain ⟨n, h⟩ := h
 cases n with
 | zero => exact h.elim
 | succ n =>
  obtain ⟨_, _, rfl, rfl, ⟨_, _, rfl, ⟨A1, c1, rfl, l1, g1⟩, ⟨A2, c2, rfl, l2, g2⟩⟩⟩ := h
  exact ⟨A1, c1, A2, c2, rfl, l1, g1, l2, Kd.fix_C g2⟩
theorem k41_openM {w : World} {base : Nat} {ok : Nat → Prop} {x : S41} {cs : List Value} (h : k41.M w base ok x cs) : ∃ v1 v2, cs = [.int .i64 x.f0, v1, v2] ∧ Kd.string.R 9 w base ok v1 x.f1 ∧ k41.R 41 w base ok v2 x.f2 := by
 obtain ⟨n, h⟩ := h
 cases n with
 | zero => exact h.elim
 | succ n =>
  obtain ⟨_, _, rfl, rfl, ⟨_, _, rfl, ⟨v1, rfl, g1⟩, ⟨v2, rfl, g2⟩⟩⟩ := h
  exact ⟨v1, v2, rfl, g1, Kd.fix_R g2⟩
theorem k41_mkM (w : World) (base : Nat) (ok : Nat → Prop) (x : S41) {v1 : Value} (g1 : Kd.string.R 9 w base ok v1 x.f1) {v2 : Value} (g2 : k41.R 41 w base ok v2 x.f2) : k41.M w base ok x [.int .i64 x.f0, v1, v2] := by
 obtain ⟨n2, q2⟩ := Kd.fix_R_back mono41 g2
 have r2 := Kd.upto_R_le mono41 sz41 (show n2 ≤ n2 by omega) q2
 exact ⟨n2 + 1, ⟨[.int .i64 x.f0], [v1, v2], rfl, rfl, ⟨[v1], [v2], rfl, ⟨v1, rfl, g1⟩, ⟨v2, rfl, r2⟩⟩⟩⟩
def rd_T41 (xs : List S41) (i : Int) : S41 := xs.getD i.toNat z41
theorem at_T41 {w : World} {A : Option Addr} {n : Nat} {xs : List S41} (h : Kd.C k41 w A n xs) (i : Int) (h0 : 0 ≤ i) (h1 : i < n) : ∃ ad A1 c1 A2 c2, A = some ad ∧ w.cell? (ad.add (i.toNat * 3)) = some (.int .i64 (rd_T41 xs i).f0) ∧ w.cell? ⟨(ad.add (i.toNat * 3)).block, (ad.add (i.toNat * 3)).off + 1, none⟩ = some (.slice A1 (rd_T41 xs i).f1.length c1) ∧ w.cell? ⟨(ad.add (i.toNat * 3)).block, (ad.add (i.toNat * 3)).off + 2, none⟩ = some (.slice A2 (rd_T41 xs i).f2.length c2) ∧ (rd_T41 xs i).f1.length ≤ c1 ∧ Kd.string.C w A1 (rd_T41 xs i).f1.length (rd_T41 xs i).f1 ∧ (rd_T41 xs i).f2.length ≤ c2 ∧ k41.C w A2 (rd_T41 xs i).f2.length (rd_T41 xs i).f2 := by
 obtain ⟨ad, c, e, _, hK, hc0⟩ := Kd.C_get h z41 i h0 h1
 have hc : ∀ j u, c[j]? = some u → w.cell? (ad.add (i.toNat * 3 + j)) = some u := hc0
 obtain ⟨A1, c1, A2, c2, rfl, l1, g1, l2, g2⟩ := k41_open hK
 exact ⟨ad, A1, c1, A2, c2, e, hc 0 _ rfl, by rw [← add_field _ _ 1 (by omega)]; exact hc 1 _ rfl, by rw [← add_field _ _ 2 (by omega)]; exact hc 2 _ rfl, l1, g1, l2, g2⟩

/-! #### struct type 44, nested in itself -/
structure S44 where
 f0 : Int
 f1 : ByteArray
 f2 : Int
 f3 : S41
 f4 : (List ByteArray)
 f5 : (List S44)
def z44 : S44 := ⟨(0 : Int), (⟨#[]⟩ : ByteArray), (0 : Int), z41, ([] : List ByteArray), ([] : List S44)⟩
def F44 (d : Kd S44) : Kd S44 := Kd.iso (Kd.pair (Kd.int .i64) (Kd.pair Kd.string (Kd.pair (Kd.int .i64) (Kd.pair k41 (Kd.pair (Kd.slice 9 Kd.string) (Kd.slice 44 d)))))) (fun x : S44 => (x.f0, x.f1, x.f2, x.f3, x.f4, x.f5))
theorem mono44 : Kd.Mono F44 := Kd.mono_iso _ (Kd.mono_pair (Kd.mono_const _) (Kd.mono_pair (Kd.mono_const _) (Kd.mono_pair (Kd.mono_const _) (Kd.mono_pair (Kd.mono_const _) (Kd.mono_pair (Kd.mono_const _) (Kd.mono_slice 44 Kd.mono_id))))))
theorem sub44 : Kd.Sub F44 [9, 41, 44] := Kd.sub_iso _ (Kd.sub_pair (Kd.sub_const _ (by decide)) (Kd.sub_pair (Kd.sub_const _ (by decide)) (Kd.sub_pair (Kd.sub_const _ (by decide)) (Kd.sub_pair (Kd.sub_const _ (by decide)) (Kd.sub_pair (Kd.sub_const _ (by decide)) (Kd.sub_slice 44 (by decide) Kd.sub_id))))))
theorem sz44 : ∀ n, (Kd.upto F44 8 [9, 41, 44] n).sz = 8 := Kd.upto_sz (fun _ => rfl)
def k44 : Kd S44 := Kd.fix F44 8 [9, 41, 44] sz44 (Kd.upto_E sub44)
theorem k44_open {w : World} {x : S44} {cs : List Value} (h : k44.K w x cs) : ∃ A4 c4 A5 c5 A6 c6 A7 c7, cs = [.int .i64 x.f0, .string x.f1, .int .i64 x.f2, .int .i64 x.f3.f0, .slice A4 x.f3.f1.length c4, .slice A5 x.f3.f2.length c5, .slice A6 x.f4.length c6, .slice A7 x.f5.length c7] ∧ x.f3.f1.length ≤ c4 ∧ Kd.string.C w A4 x.f3.f1.length x.f3.f1 ∧ x.f3.f2.length ≤ c5 ∧ k41.C w A5 x.f3.f2.length x.f3.f2 ∧ x.f4.length ≤ c6 ∧ Kd.string.C w A6 x.f4.length x.f4 ∧ x.f5.length ≤ c7 ∧ k44.C w A7 x.f5.length x.f5 := by
 obtain ⟨n, h⟩ := h
 cases n with
 | zero => exact h.elim
 | succ n =>
  obtain ⟨_, _, rfl, rfl, ⟨_, _, rfl, rfl, ⟨_, _, rfl, rfl, ⟨_, _, rfl, s3, ⟨_, _, rfl, ⟨A6, c6, rfl, l6, g6⟩, ⟨A7, c7, rfl, l7, g7⟩⟩⟩⟩⟩⟩ := h
  obtain ⟨A4, c4, A5, c5, rfl, l4, g4, l5, g5⟩ := k41_open s3
  exact ⟨A4, c4, A5, c5, A6, c6, A7, c7, rfl, l4, g4, l5, g5, l6, g6, l7, Kd.fix_C g7⟩
theorem k44_openM {w : World} {base : Nat} {ok : Nat → Prop} {x : S44} {cs : List Value} (h : k44.M w base ok x cs) : ∃ v4 v5 v6 v7, cs = [.int .i64 x.f0, .string x.f1, .int .i64 x.f2, .int .i64 x.f3.f0, v4, v5, v6, v7] ∧ Kd.string.R 9 w base ok v4 x.f3.f1 ∧ k41.R 41 w base ok v5 x.f3.f2 ∧ Kd.string.R 9 w base ok v6 x.f4 ∧ k44.R 44 w base ok v7 x.f5 := by
 obtain ⟨n, h⟩ := h
 cases n with
 | zero => exact h.elim
 | succ n =>
  obtain ⟨_, _, rfl, rfl, ⟨_, _, rfl, rfl, ⟨_, _, rfl, rfl, ⟨_, _, rfl, s3, ⟨_, _, rfl, ⟨v6, rfl, g6⟩, ⟨v7, rfl, g7⟩⟩⟩⟩⟩⟩ := h
  obtain ⟨v4, v5, rfl, g4, g5⟩ := k41_openM s3
  exact ⟨v4, v5, v6, v7, rfl, g4, g5, g6, Kd.fix_R g7⟩
theorem k44_mkM (w : World) (base : Nat) (ok : Nat → Prop) (x : S44) {v4 : Value} (g4 : Kd.string.R 9 w base ok v4 x.f3.f1) {v5 : Value} (g5 : k41.R 41 w base ok v5 x.f3.f2) {v6 : Value} (g6 : Kd.string.R 9 w base ok v6 x.f4) {v7 : Value} (g7 : k44.R 44 w base ok v7 x.f5) : k44.M w base ok x [.int .i64 x.f0, .string x.f1, .int .i64 x.f2, .int .i64 x.f3.f0, v4, v5, v6, v7] := by
 obtain ⟨n7, q7⟩ := Kd.fix_R_back mono44 g7
 have r7 := Kd.upto_R_le mono44 sz44 (show n7 ≤ n7 by omega) q7
 exact ⟨n7 + 1, ⟨[.int .i64 x.f0], [.string x.f1, .int .i64 x.f2, .int .i64 x.f3.f0, v4, v5, v6, v7], rfl, rfl, ⟨[.string x.f1], [.int .i64 x.f2, .int .i64 x.f3.f0, v4, v5, v6, v7], rfl, rfl, ⟨[.int .i64 x.f2], [.int .i64 x.f3.f0, v4, v5, v6, v7], rfl, rfl, ⟨[.int .i64 x.f3.f0, v4, v5], [v6, v7], rfl, (k41_mkM w base ok x.f3 g4 g5), ⟨[v6], [v7], rfl, ⟨v6, rfl, g6⟩, ⟨v7, rfl, r7⟩⟩⟩⟩⟩⟩⟩
def rd_T44 (xs : List S44) (i : Int) : S44 := xs.getD i.toNat z44
theorem at_T44 {w : World} {A : Option Addr} {n : Nat} {xs : List S44} (h : Kd.C k44 w A n xs) (i : Int) (h0 : 0 ≤ i) (h1 : i < n) : ∃ ad A4 c4 A5 c5 A6 c6 A7 c7, A = some ad ∧ w.cell? (ad.add (i.toNat * 8)) = some (.int .i64 (rd_T44 xs i).f0) ∧ w.cell? ⟨(ad.add (i.toNat * 8)).block, (ad.add (i.toNat * 8)).off + 1, none⟩ = some (.string (rd_T44 xs i).f1) ∧ w.cell? ⟨(ad.add (i.toNat * 8)).block, (ad.add (i.toNat * 8)).off + 2, none⟩ = some (.int .i64 (rd_T44 xs i).f2) ∧ w.cell? ⟨(ad.add (i.toNat * 8)).block, (ad.add (i.toNat * 8)).off + 3, none⟩ = some (.int .i64 (rd_T44 xs i).f3.f0) ∧ w.cell? ⟨(ad.add (i.toNat * 8)).block, (ad.add (i.toNat * 8)).off + 4, none⟩ = some (.slice A4 (rd_T44 xs i).f3.f1.length c4) ∧ w.cell? ⟨(ad.add (i.toNat * 8)).block, (ad.add (i.toNat * 8)).off + 5, none⟩ = some (.slice A5 (rd_T44 xs i).f3.f2.length c5) ∧ w.cell? ⟨(ad.add (i.toNat * 8)).block, (ad.add (i.toNat * 8)).off + 6, none⟩ = some (.slice A6 (rd_T44 xs i).f4.length c6) ∧ w.cell? ⟨(ad.add (i.toNat * 8)).block, (ad.add (i.toNat * 8)).off + 7, none⟩ = some (.slice A7 (rd_T44 xs i).f5.length c7) ∧ (rd_T44 xs i).f3.f1.length ≤ c4 ∧ Kd.string.C w A4 (rd_T44 xs i).f3.f1.length (rd_T44 xs i).f3.f1 ∧ (rd_T44 xs i).f3.f2.length ≤ c5 ∧ k41.C w A5 (rd_T44 xs i).f3.f2.length (rd_T44 xs i).f3.f2 ∧ (rd_T44 xs i).f4.length ≤ c6 ∧ Kd.string.C w A6 (rd_T44 xs i).f4.length (rd_T44 xs i).f4 ∧ (rd_T44 xs i).f5.length ≤ c7 ∧ k44.C w A7 (rd_T44 xs i).f5.length (rd_T44 xs i).f5 := by
 obtain ⟨ad, c, e, _, hK, hc0⟩ := Kd.C_get h z44 i h0 h1
 have hc : ∀ j u, c[j]? = some u → w.cell? (ad.add (i.toNat * 8 + j)) = some u := hc0
 obtain ⟨A4, c4, A5, c5, A6, c6, A7, c7, rfl, l4, g4, l5, g5, l6, g6, l7, g7⟩ := k44_open hK
 exact ⟨ad, A4, c4, A5, c5, A6, c6, A7, c7, e, hc 0 _ rfl, by rw [← add_field _ _ 1 (by omega)]; exact hc 1 _ rfl, by rw [← add_field _ _ 2 (by omega)]; exact hc 2 _ rfl, by rw [← add_field _ _ 3 (by omega)]; exact hc 3 _ rfl, by rw [← add_field _ _ 4 (by omega)]; exact hc 4 _ rfl, by rw [← add_field _ _ 5 (by omega)]; exact hc 5 _ rfl, by rw [← add_field _ _ 6 (by omega)]; exact hc 6 _ rfl, by rw [← add_field _ _ 7 (by omega)]; exact hc 7 _ rfl, l4, g4, l5, g5, l6, g6, l7, g7⟩

/-! #### struct types 47, 49, 29, nested in each other -/
structure SC49 (H : Type) where
 f0 : (List S77)
 f1 : S44
 f2 : H
structure SQ29 (H : Type) where
 f0 : List (SC49 H)
/-! #### struct type 47, nested in itself -/
structure S47 where
 f0 : Int
 f1 : S44
 f2 : (List ByteArray)
 f3 : (List S47)
 f4 : (SQ29 S47)
abbrev S49 := SC49 S47
abbrev S29 := SQ29 S47
def z47 : S47 := ⟨(0 : Int), z44, ([] : List ByteArray), ([] : List S47), ⟨[]⟩⟩
def KC49 (d : Kd S47) : Kd S49 := Kd.iso (Kd.pair (Kd.slice 77 k77) (Kd.pair k44 d)) (fun x : S49 => (x.f0, x.f1, x.f2))
def KQ29 (d : Kd S47) : Kd S29 := Kd.iso (Kd.slice 49 (KC49 d)) (fun x : S29 => x.f0)
theorem monoC49 : Kd.Mono KC49 := Kd.mono_iso _ (Kd.mono_pair (Kd.mono_const _) (Kd.mono_pair (Kd.mono_const _) Kd.mono_id))
theorem monoQ29 : Kd.Mono KQ29 := Kd.mono_iso _ (Kd.mono_slice 49 monoC49)
theorem subC49 : Kd.Sub KC49 [9, 41, 44, 47, 49, 77] := Kd.sub_iso _ (Kd.sub_pair (Kd.sub_const _ (by decide)) (Kd.sub_pair (Kd.sub_const _ (by decide)) Kd.sub_id))
theorem subQ29 : Kd.Sub KQ29 [9, 41, 44, 47, 49, 77] := Kd.sub_iso _ (Kd.sub_slice 49 (by decide) subC49)
def F47 (d : Kd S47) : Kd S47 := Kd.iso (Kd.pair (Kd.int .i64) (Kd.pair k44 (Kd.pair (Kd.slice 9 Kd.string) (Kd.pair (Kd.slice 47 d) (KQ29 d))))) (fun x : S47 => (x.f0, x.f1, x.f2, x.f3, x.f4))
theorem mono47 : Kd.Mono F47 := Kd.mono_iso _ (Kd.mono_pair (Kd.mono_const _) (Kd.mono_pair (Kd.mono_const _) (Kd.mono_pair (Kd.mono_const _) (Kd.mono_pair (Kd.mono_slice 47 Kd.mono_id) monoQ29))))
theorem sub47 : Kd.Sub F47 [9, 41, 44, 47, 49, 77] := Kd.sub_iso _ (Kd.sub_pair (Kd.sub_const _ (by decide)) (Kd.sub_pair (Kd.sub_const _ (by decide)) (Kd.sub_pair (Kd.sub_const _ (by decide)) (Kd.sub_pair (Kd.sub_slice 47 (by decide) Kd.sub_id) subQ29))))
theorem sz47 : ∀ n, (Kd.upto F47 12 [9, 41, 44, 47, 49, 77] n).sz = 12 := Kd.upto_sz (fun _ => rfl)
def k47 : Kd S47 := Kd.fix F47 12 [9, 41, 44, 47, 49, 77] sz47 (Kd.upto_E sub47)
def k49 : Kd S49 := KC49 k47
theorem backM49 : ∀ w base ok x cs, k49.M w base ok x cs → ∃ n, (KC49 (Kd.upto F47 12 [9, 41, 44, 47, 49, 77] n)).M w base ok x cs := by
 rintro w base ok x cs ⟨_, _, rfl, h0, ⟨_, _, rfl, h1, ⟨n, h2⟩⟩⟩
 exact ⟨n, ⟨_, _, rfl, h0, ⟨_, _, rfl, h1, h2⟩⟩⟩
theorem liftC49 {n : Nat} {w : World} {A : Option Addr} {l : Nat} {xs : List S49} (h : (KC49 (Kd.upto F47 12 [9, 41, 44, 47, 49, 77] n)).C w A l xs) : k49.C w A l xs := Kd.C_imp (d' := k49) (monoC49.sz _ k47 (sz47 n)) (monoC49.K _ k47 (sz47 n) (fun _ _ _ hp => ⟨n, hp⟩)) h
theorem liftR49 {n : Nat} {e : Nat} {w : World} {base : Nat} {ok : Nat → Prop} {v : Value} {xs : List S49} (h : (KC49 (Kd.upto F47 12 [9, 41, 44, 47, 49, 77] n)).R e w base ok v xs) : k49.R e w base ok v xs := Kd.R_imp (d' := k49) (monoC49.sz _ k47 (sz47 n)) (monoC49.M _ k47 (sz47 n) (fun _ _ _ _ _ hp => ⟨n, hp⟩)) h
theorem leR49 {n m : Nat} (hnm : n ≤ m) {e : Nat} {w : World} {base : Nat} {ok : Nat → Prop} {v : Value} {xs : List S49} (h : (KC49 (Kd.upto F47 12 [9, 41, 44, 47, 49, 77] n)).R e w base ok v xs) : (KC49 (Kd.upto F47 12 [9, 41, 44, 47, 49, 77] m)).R e w base ok v xs := Kd.R_imp (monoC49.sz _ _ (by rw [sz47 n, sz47 m])) (monoC49.M _ _ (by rw [sz47 n, sz47 m]) (fun _ _ _ _ _ hp => Kd.upto_M_le mono47 sz47 hnm hp)) h
theorem backR49 {e : Nat} {w : World} {base : Nat} {ok : Nat → Prop} {v : Value} {xs : List S49} (h : k49.R e w base ok v xs) : ∃ n, (KC49 (Kd.upto F47 12 [9, 41, 44, 47, 49, 77] n)).R e w base ok v xs := nest_R_back (D := fun n => KC49 (Kd.upto F47 12 [9, 41, 44, 47, 49, 77] n)) (d := k49) (fun n => monoC49.sz _ k47 (sz47 n)) (fun n m hnm => monoC49.M _ _ (by rw [sz47 n, sz47 m]) (fun _ _ _ _ _ hp => Kd.upto_M_le mono47 sz47 hnm hp)) backM49 h
theorem k47_open {w : World} {x : S47} {cs : List Value} (h : k47.K w x cs) : ∃ A5 c5 A6 c6 A7 c7 A8 c8 A9 c9 A10 c10 A11 c11, cs = [.int .i64 x.f0, .int .i64 x.f1.f0, .string x.f1.f1, .int .i64 x.f1.f2, .int .i64 x.f1.f3.f0, .slice A5 x.f1.f3.f1.length c5, .slice A6 x.f1.f3.f2.length c6, .slice A7 x.f1.f4.length c7, .slice A8 x.f1.f5.length c8, .slice A9 x.f2.length c9, .slice A10 x.f3.length c10, .slice A11 x.f4.f0.length c11] ∧ x.f1.f3.f1.length ≤ c5 ∧ Kd.string.C w A5 x.f1.f3.f1.length x.f1.f3.f1 ∧ x.f1.f3.f2.length ≤ c6 ∧ k41.C w A6 x.f1.f3.f2.length x.f1.f3.f2 ∧ x.f1.f4.length ≤ c7 ∧ Kd.string.C w A7 x.f1.f4.length x.f1.f4 ∧ x.f1.f5.length ≤ c8 ∧ k44.C w A8 x.f1.f5.length x.f1.f5 ∧ x.f2.length ≤ c9 ∧ Kd.string.C w A9 x.f2.length x.f2 ∧ x.f3.length ≤ c10 ∧ k47.C w A10 x.f3.length x.f3 ∧ x.f4.f0.length ≤ c11 ∧ k49.C w A11 x.f4.f0.length x.f4.f0 := by
 obtain ⟨n, h⟩ := h
 cases n with
 | zero => exact h.elim
 | succ n =>
  obtain ⟨_, _, rfl, rfl, ⟨_, _, rfl, s1, ⟨_, _, rfl, ⟨A9, c9, rfl, l9, g9⟩, ⟨_, _, rfl, ⟨A10, c10, rfl, l10, g10⟩, ⟨A11, c11, rfl, l11, g11⟩⟩⟩⟩⟩ := h
  obtain ⟨A5, c5, A6, c6, A7, c7, A8, c8, rfl, l5, g5, l6, g6, l7, g7, l8, g8⟩ := k44_open s1
  exact ⟨A5, c5, A6, c6, A7, c7, A8, c8, A9, c9, A10, c10, A11, c11, rfl, l5, g5, l6, g6, l7, g7, l8, g8, l9, g9, l10, Kd.fix_C g10, l11, liftC49 g11⟩
theorem k47_openM {w : World} {base : Nat} {ok : Nat → Prop} {x : S47} {cs : List Value} (h : k47.M w base ok x cs) : ∃ v5 v6 v7 v8 v9 v10 v11, cs = [.int .i64 x.f0, .int .i64 x.f1.f0, .string x.f1.f1, .int .i64 x.f1.f2, .int .i64 x.f1.f3.f0, v5, v6, v7, v8, v9, v10, v11] ∧ Kd.string.R 9 w base ok v5 x.f1.f3.f1 ∧ k41.R 41 w base ok v6 x.f1.f3.f2 ∧ Kd.string.R 9 w base ok v7 x.f1.f4 ∧ k44.R 44 w base ok v8 x.f1.f5 ∧ Kd.string.R 9 w base ok v9 x.f2 ∧ k47.R 47 w base ok v10 x.f3 ∧ k49.R 49 w base ok v11 x.f4.f0 := by
 obtain ⟨n, h⟩ := h
 cases n with
 | zero => exact h.elim
 | succ n =>
  obtain ⟨_, _, rfl, rfl, ⟨_, _, rfl, s1, ⟨_, _, rfl, ⟨v9, rfl, g9⟩, ⟨_, _, rfl, ⟨v10, rfl, g10⟩, ⟨v11, rfl, g11⟩⟩⟩⟩⟩ := h
  obtain ⟨v5, v6, v7, v8, rfl, g5, g6, g7, g8⟩ := k44_openM s1
  exact ⟨v5, v6, v7, v8, v9, v10, v11, rfl, g5, g6, g7, g8, g9, Kd.fix_R g10, liftR49 g11⟩
theorem k47_mkM (w : World) (base : Nat) (ok : Nat → Prop) (x : S47) {v5 : Value} (g5 : Kd.string.R 9 w base ok v5 x.f1.f3.f1) {v6 : Value} (g6 : k41.R 41 w base ok v6 x.f1.f3.f2) {v7 : Value} (g7 : Kd.string.R 9 w base ok v7 x.f1.f4) {v8 : Value} (g8 : k44.R 44 w base ok v8 x.f1.f5) {v9 : Value} (g9 : Kd.string.R 9 w base ok v9 x.f2) {v10 : Value} (g10 : k47.R 47 w base ok v10 x.f3) {v11 : Value} (g11 : k49.R 49 w base ok v11 x.f4.f0) : k47.M w base ok x [.int .i64 x.f0, .int .i64 x.f1.f0, .string x.f1.f1, .int .i64 x.f1.f2, .int .i64 x.f1.f3.f0, v5, v6, v7, v8, v9, v10, v11] := by
 obtain ⟨n10, q10⟩ := Kd.fix_R_back mono47 g10
 obtain ⟨n11, q11⟩ := backR49 g11
 have r10 := Kd.upto_R_le mono47 sz47 (show n10 ≤ (max n10 n11) by omega) q10
 have r11 := leR49 (show n11 ≤ (max n10 n11) by omega) q11
 exact ⟨(max n10 n11) + 1, ⟨[.int .i64 x.f0], [.int .i64 x.f1.f0, .string x.f1.f1, .int .i64 x.f1.f2, .int .i64 x.f1.f3.f0, v5, v6, v7, v8, v9, v10, v11], rfl, rfl, ⟨[.int .i64 x.f1.f0, .string x.f1.f1, .int .i64 x.f1.f2, .int .i64 x.f1.f3.f0, v5, v6, v7, v8], [v9, v10, v11], rfl, (k44_mkM w base ok x.f1 g5 g6 g7 g8), ⟨[v9], [v10, v11], rfl, ⟨v9, rfl, g9⟩, ⟨[v10], [v11], rfl, ⟨v10, rfl, r10⟩, ⟨v11, rfl, r11⟩⟩⟩⟩⟩⟩
def rd_T47 (xs : List S47) (i : Int) : S47 := xs.getD i.toNat z47
theorem at_T47 {w : World} {A : Option Addr} {n : Nat} {xs : List S47} (h : Kd.C k47 w A n xs) (i : Int) (h0 : 0 ≤ i) (h1 : i < n) : ∃ ad A5 c5 A6 c6 A7 c7 A8 c8 A9 c9 A10 c10 A11 c11, A = some ad ∧ w.cell? (ad.add (i.toNat * 12)) = some (.int .i64 (rd_T47 xs i).f0) ∧ w.cell? ⟨(ad.add (i.toNat * 12)).block, (ad.add (i.toNat * 12)).off + 1, none⟩ = some (.int .i64 (rd_T47 xs i).f1.f0) ∧ w.cell? ⟨(ad.add (i.toNat * 12)).block, (ad.add (i.toNat * 12)).off + 2, none⟩ = some (.string (rd_T47 xs i).f1.f1) ∧ w.cell? ⟨(ad.add (i.toNat * 12)).block, (ad.add (i.toNat * 12)).off + 3, none⟩ = some (.int .i64 (rd_T47 xs i).f1.f2) ∧ w.cell? ⟨(ad.add (i.toNat * 12)).block, (ad.add (i.toNat * 12)).off + 4, none⟩ = some (.int .i64 (rd_T47 xs i).f1.f3.f0) ∧ w.cell? ⟨(ad.add (i.toNat * 12)).block, (ad.add (i.toNat * 12)).off + 5, none⟩ = some (.slice A5 (rd_T47 xs i).f1.f3.f1.length c5) ∧ w.cell? ⟨(ad.add (i.toNat * 12)).block, (ad.add (i.toNat * 12)).off + 6, none⟩ = some (.slice A6 (rd_T47 xs i).f1.f3.f2.length c6) ∧ w.cell? ⟨(ad.add (i.toNat * 12)).block, (ad.add (i.toNat * 12)).off + 7, none⟩ = some (.slice A7 (rd_T47 xs i).f1.f4.length c7) ∧ w.cell? ⟨(ad.add (i.toNat * 12)).block, (ad.add (i.toNat * 12)).off + 8, none⟩ = some (.slice A8 (rd_T47 xs i).f1.f5.length c8) ∧ w.cell? ⟨(ad.add (i.toNat * 12)).block, (ad.add (i.toNat * 12)).off + 9, none⟩ = some (.slice A9 (rd_T47 xs i).f2.length c9) ∧ w.cell? ⟨(ad.add (i.toNat * 12)).block, (ad.add (i.toNat * 12)).off + 10, none⟩ = some (.slice A10 (rd_T47 xs i).f3.length c10) ∧ w.cell? ⟨(ad.add (i.toNat * 12)).block, (ad.add (i.toNat * 12)).off + 11, none⟩ = some (.slice A11 (rd_T47 xs i).f4.f0.length c11) ∧ (rd_T47 xs i).f1.f3.f1.length ≤ c5 ∧ Kd.string.C w A5 (rd_T47 xs i).f1.f3.f1.length (rd_T47 xs i).f1.f3.f1 ∧ (rd_T47 xs i).f1.f3.f2.length ≤ c6 ∧ k41.C w A6 (rd_T47 xs i).f1.f3.f2.length (rd_T47 xs i).f1.f3.f2 ∧ (rd_T47 xs i).f1.f4.length ≤ c7 ∧ Kd.string.C w A7 (rd_T47 xs i).f1.f4.length (rd_T47 xs i).f1.f4 ∧ (rd_T47 xs i).f1.f5.length ≤ c8 ∧ k44.C w A8 (rd_T47 xs i).f1.f5.length (rd_T47 xs i).f1.f5 ∧ (rd_T47 xs i).f2.length ≤ c9 ∧ Kd.string.C w A9 (rd_T47 xs i).f2.length (rd_T47 xs i).f2 ∧ (rd_T47 xs i).f3.length ≤ c10 ∧ k47.C w A10 (rd_T47 xs i).f3.length (rd_T47 xs i).f3 ∧ (rd_T47 xs i).f4.f0.length ≤ c11 ∧ k49.C w A11 (rd_T47 xs i).f4.f0.length (rd_T47 xs i).f4.f0 := by
 obtain ⟨ad, c, e, _, hK, hc0⟩ := Kd.C_get h z47 i h0 h1
 have hc : ∀ j u, c[j]? = some u → w.cell? (ad.add (i.toNat * 12 + j)) = some u := hc0
 obtain ⟨A5, c5, A6, c6, A7, c7, A8, c8, A9, c9, A10, c10, A11, c11, rfl, l5, g5, l6, g6, l7, g7, l8, g8, l9, g9, l10, g10, l11, g11⟩ := k47_open hK
 exact ⟨ad, A5, c5, A6, c6, A7, c7, A8, c8, A9, c9, A10, c10, A11, c11, e, hc 0 _ rfl, by rw [← add_field _ _ 1 (by omega)]; exact hc 1 _ rfl, by rw [← add_field _ _ 2 (by omega)]; exact hc 2 _ rfl, by rw [← add_field _ _ 3 (by omega)]; exact hc 3 _ rfl, by rw [← add_field _ _ 4 (by omega)]; exact hc 4 _ rfl, by rw [← add_field _ _ 5 (by omega)]; exact hc 5 _ rfl, by rw [← add_field _ _ 6 (by omega)]; exact hc 6 _ rfl, by rw [← add_field _ _ 7 (by omega)]; exact hc 7 _ rfl, by rw [← add_field _ _ 8 (by omega)]; exact hc 8 _ rfl, by rw [← add_field _ _ 9 (by omega)]; exact hc 9 _ rfl, by rw [← add_field _ _ 10 (by omega)]; exact hc 10 _ rfl, by rw [← add_field _ _ 11 (by omega)]; exact hc 11 _ rfl, l5, g5, l6, g6, l7, g7, l8, g8, l9, g9, l10, g10, l11, g11⟩

def z49 : S49 := ⟨([] : List S77), z44, z47⟩
theorem k49_open {w : World} {x : S49} {cs : List Value} (h : k49.K w x cs) : ∃ A0 c0 A5 c5 A6 c6 A7 c7 A8 c8 A14 c14 A15 c15 A16 c16 A17 c17 A18 c18 A19 c19 A20 c20, cs = [.slice A0 x.f0.length c0, .int .i64 x.f1.f0, .string x.f1.f1, .int .i64 x.f1.f2, .int .i64 x.f1.f3.f0, .slice A5 x.f1.f3.f1.length c5, .slice A6 x.f1.f3.f2.length c6, .slice A7 x.f1.f4.length c7, .slice A8 x.f1.f5.length c8, .int .i64 x.f2.f0, .int .i64 x.f2.f1.f0, .string x.f2.f1.f1, .int .i64 x.f2.f1.f2, .int .i64 x.f2.f1.f3.f0, .slice A14 x.f2.f1.f3.f1.length c14, .slice A15 x.f2.f1.f3.f2.length c15, .slice A16 x.f2.f1.f4.length c16, .slice A17 x.f2.f1.f5.length c17, .slice A18 x.f2.f2.length c18, .slice A19 x.f2.f3.length c19, .slice A20 x.f2.f4.f0.length c20] ∧ x.f0.length ≤ c0 ∧ k77.C w A0 x.f0.length x.f0 ∧ x.f1.f3.f1.length ≤ c5 ∧ Kd.string.C w A5 x.f1.f3.f1.length x.f1.f3.f1 ∧ x.f1.f3.f2.length ≤ c6 ∧ k41.C w A6 x.f1.f3.f2.length x.f1.f3.f2 ∧ x.f1.f4.length ≤ c7 ∧ Kd.string.C w A7 x.f1.f4.length x.f1.f4 ∧ x.f1.f5.length ≤ c8 ∧ k44.C w A8 x.f1.f5.length x.f1.f5 ∧ x.f2.f1.f3.f1.length ≤ c14 ∧ Kd.string.C w A14 x.f2.f1.f3.f1.length x.f2.f1.f3.f1 ∧ x.f2.f1.f3.f2.length ≤ c15 ∧ k41.C w A15 x.f2.f1.f3.f2.length x.f2.f1.f3.f2 ∧ x.f2.f1.f4.length ≤ c16 ∧ Kd.string.C w A16 x.f2.f1.f4.length x.f2.f1.f4 ∧ x.f2.f1.f5.length ≤ c17 ∧ k44.C w A17 x.f2.f1.f5.length x.f2.f1.f5 ∧ x.f2.f2.length ≤ c18 ∧ Kd.string.C w A18 x.f2.f2.length x.f2.f2 ∧ x.f2.f3.length ≤ c19 ∧ k47.C w A19 x.f2.f3.length x.f2.f3 ∧ x.f2.f4.f0.length ≤ c20 ∧ k49.C w A20 x.f2.f4.f0.length x.f2.f4.f0 := by
 obtain ⟨_, _, rfl, ⟨A0, c0, rfl, l0, g0⟩, ⟨_, _, rfl, s1, s9⟩⟩ := h
 obtain ⟨A5, c5, A6, c6, A7, c7, A8, c8, rfl, l5, g5, l6, g6, l7, g7, l8, g8⟩ := k44_open s1
 obtain ⟨A14, c14, A15, c15, A16, c16, A17, c17, A18, c18, A19, c19, A20, c20, rfl, l14, g14, l15, g15, l16, g16, l17, g17, l18, g18, l19, g19, l20, g20⟩ := k47_open s9
 exact ⟨A0, c0, A5, c5, A6, c6, A7, c7, A8, c8, A14, c14, A15, c15, A16, c16, A17, c17, A18, c18, A19, c19, A20, c20, rfl, l0, g0, l5, g5, l6, g6, l7, g7, l8, g8, l14, g14, l15, g15, l16, g16, l17, g17, l18, g18, l19, g19, l20, g20⟩
theorem k49_openM {w : World} {base : Nat} {ok : Nat → Prop} {x : S49} {cs : List Value} (h : k49.M w base ok x cs) : ∃ v0 v5 v6 v7 v8 v14 v15 v16 v17 v18 v19 v20, cs = [v0, .int .i64 x.f1.f0, .string x.f1.f1, .int .i64 x.f1.f2, .int .i64 x.f1.f3.f0, v5, v6, v7, v8, .int .i64 x.f2.f0, .int .i64 x.f2.f1.f0, .string x.f2.f1.f1, .int .i64 x.f2.f1.f2, .int .i64 x.f2.f1.f3.f0, v14, v15, v16, v17, v18, v19, v20] ∧ k77.R 77 w base ok v0 x.f0 ∧ Kd.string.R 9 w base ok v5 x.f1.f3.f1 ∧ k41.R 41 w base ok v6 x.f1.f3.f2 ∧ Kd.string.R 9 w base ok v7 x.f1.f4 ∧ k44.R 44 w base ok v8 x.f1.f5 ∧ Kd.string.R 9 w base ok v14 x.f2.f1.f3.f1 ∧ k41.R 41 w base ok v15 x.f2.f1.f3.f2 ∧ Kd.string.R 9 w base ok v16 x.f2.f1.f4 ∧ k44.R 44 w base ok v17 x.f2.f1.f5 ∧ Kd.string.R 9 w base ok v18 x.f2.f2 ∧ k47.R 47 w base ok v19 x.f2.f3 ∧ k49.R 49 w base ok v20 x.f2.f4.f0 := by
 obtain ⟨_, _, rfl, ⟨v0, rfl, g0⟩, ⟨_, _, rfl, s1, s9⟩⟩ := h
 obtain ⟨v5, v6, v7, v8, rfl, g5, g6, g7, g8⟩ := k44_openM s1
 obtain ⟨v14, v15, v16, v17, v18, v19, v20, rfl, g14, g15, g16, g17, g18, g19, g20⟩ := k47_openM s9
 exact ⟨v0, v5, v6, v7, v8, v14, v15, v16, v17, v18, v19, v20, rfl, g0, g5, g6, g7, g8, g14, g15, g16, g17, g18, g19, g20⟩
theorem k49_mkM (w : World) (base : Nat) (ok : Nat → Prop) (x : S49) {v0 : Value} (g0 : k77.R 77 w base ok v0 x.f0) {v5 : Value} (g5 : Kd.string.R 9 w base ok v5 x.f1.f3.f1) {v6 : Value} (g6 : k41.R 41 w base ok v6 x.f1.f3.f2) {v7 : Value} (g7 : Kd.string.R 9 w base ok v7 x.f1.f4) {v8 : Value} (g8 : k44.R 44 w base ok v8 x.f1.f5) {v14 : Value} (g14 : Kd.string.R 9 w base ok v14 x.f2.f1.f3.f1) {v15 : Value} (g15 : k41.R 41 w base ok v15 x.f2.f1.f3.f2) {v16 : Value} (g16 : Kd.string.R 9 w base ok v16 x.f2.f1.f4) {v17 : Value} (g17 : k44.R 44 w base ok v17 x.f2.f1.f5) {v18 : Value} (g18 : Kd.string.R 9 w base ok v18 x.f2.f2) {v19 : Value} (g19 : k47.R 47 w base ok v19 x.f2.f3) {v20 : Value} (g20 : k49.R 49 w base ok v20 x.f2.f4.f0) : k49.M w base ok x [v0, .int .i64 x.f1.f0, .string x.f1.f1, .int .i64 x.f1.f2, .int .i64 x.f1.f3.f0, v5, v6, v7, v8, .int .i64 x.f2.f0, .int .i64 x.f2.f1.f0, .string x.f2.f1.f1, .int .i64 x.f2.f1.f2, .int .i64 x.f2.f1.f3.f0, v14, v15, v16, v17, v18, v19, v20] := ⟨[v0], [.int .i64 x.f1.f0, .string x.f1.f1, .int .i64 x.f1.f2, .int .i64 x.f1.f3.f0, v5, v6, v7, v8, .int .i64 x.f2.f0, .int .i64 x.f2.f1.f0, .string x.f2.f1.f1, .int .i64 x.f2.f1.f2, .int .i64 x.f2.f1.f3.f0, v14, v15, v16, v17, v18, v19, v20], rfl, ⟨v0, rfl, g0⟩, ⟨[.int .i64 x.f1.f0, .string x.f1.f1, .int .i64 x.f1.f2, .int .i64 x.f1.f3.f0, v5, v6, v7, v8], [.int .i64 x.f2.f0, .int .i64 x.f2.f1.f0, .string x.f2.f1.f1, .int .i64 x.f2.f1.f2, .int .i64 x.f2.f1.f3.f0, v14, v15, v16, v17, v18, v19, v20], rfl, (k44_mkM w base ok x.f1 g5 g6 g7 g8), (k47_mkM w base ok x.f2 g14 g15 g16 g17 g18 g19 g20)⟩⟩
def rd_T49 (xs : List S49) (i : Int) : S49 := xs.getD i.toNat z49
theorem at_T49 {w : World} {A : Option Addr} {n : Nat} {xs : List S49} (h : Kd.C k49 w A n xs) (i : Int) (h0 : 0 ≤ i) (h1 : i < n) : ∃ ad A0 c0 A5 c5 A6 c6 A7 c7 A8 c8 A14 c14 A15 c15 A16 c16 A17 c17 A18 c18 A19 c19 A20 c20, A = some ad ∧ w.cell? (ad.add (i.toNat * 21)) = some (.slice A0 (rd_T49 xs i).f0.length c0) ∧ w.cell? ⟨(ad.add (i.toNat * 21)).block, (ad.add (i.toNat * 21)).off + 1, none⟩ = some (.int .i64 (rd_T49 xs i).f1.f0) ∧ w.cell? ⟨(ad.add (i.toNat * 21)).block, (ad.add (i.toNat * 21)).off + 2, none⟩ = some (.string (rd_T49 xs i).f1.f1) ∧ w.cell? ⟨(ad.add (i.toNat * 21)).block, (ad.add (i.toNat * 21)).off + 3, none⟩ = some (.int .i64 (rd_T49 xs i).f1.f2) ∧ w.cell? ⟨(ad.add (i.toNat * 21)).block, (ad.add (i.toNat * 21)).off + 4, none⟩ = some (.int .i64 (rd_T49 xs i).f1.f3.f0) ∧ w.cell? ⟨(ad.add (i.toNat * 21)).block, (ad.add (i.toNat * 21)).off + 5, none⟩ = some (.slice A5 (rd_T49 xs i).f1.f3.f1.length c5) ∧ w.cell? ⟨(ad.add (i.toNat * 21)).block, (ad.add (i.toNat * 21)).off + 6, none⟩ = some (.slice A6 (rd_T49 xs i).f1.f3.f2.length c6) ∧ w.cell? ⟨(ad.add (i.toNat * 21)).block, (ad.add (i.toNat * 21)).off + 7, none⟩ = some (.slice A7 (rd_T49 xs i).f1.f4.length c7) ∧ w.cell? ⟨(ad.add (i.toNat * 21)).block, (ad.add (i.toNat * 21)).off + 8, none⟩ = some (.slice A8 (rd_T49 xs i).f1.f5.length c8) ∧ w.cell? ⟨(ad.add (i.toNat * 21)).block, (ad.add (i.toNat * 21)).off + 9, none⟩ = some (.int .i64 (rd_T49 xs i).f2.f0) ∧ w.cell? ⟨(ad.add (i.toNat * 21)).block, (ad.add (i.toNat * 21)).off + 10, none⟩ = some (.int .i64 (rd_T49 xs i).f2.f1.f0) ∧ w.cell? ⟨(ad.add (i.toNat * 21)).block, (ad.add (i.toNat * 21)).off + 11, none⟩ = some (.string (rd_T49 xs i).f2.f1.f1) ∧ w.cell? ⟨(ad.add (i.toNat * 21)).block, (ad.add (i.toNat * 21)).off + 12, none⟩ = some (.int .i64 (rd_T49 xs i).f2.f1.f2) ∧ w.cell? ⟨(ad.add (i.toNat * 21)).block, (ad.add (i.toNat * 21)).off + 13, none⟩ = some (.int .i64 (rd_T49 xs i).f2.f1.f3.f0) ∧ w.cell? ⟨(ad.add (i.toNat * 21)).block, (ad.add (i.toNat * 21)).off + 14, none⟩ = some (.slice A14 (rd_T49 xs i).f2.f1.f3.f1.length c14) ∧ w.cell? ⟨(ad.add (i.toNat * 21)).block, (ad.add (i.toNat * 21)).off + 15, none⟩ = some (.slice A15 (rd_T49 xs i).f2.f1.f3.f2.length c15) ∧ w.cell? ⟨(ad.add (i.toNat * 21)).block, (ad.add (i.toNat * 21)).off + 16, none⟩ = some (.slice A16 (rd_T49 xs i).f2.f1.f4.length c16) ∧ w.cell? ⟨(ad.add (i.toNat * 21)).block, (ad.add (i.toNat * 21)).off + 17, none⟩ = some (.slice A17 (rd_T49 xs i).f2.f1.f5.length c17) ∧ w.cell? ⟨(ad.add (i.toNat * 21)).block, (ad.add (i.toNat * 21)).off + 18, none⟩ = some (.slice A18 (rd_T49 xs i).f2.f2.length c18) ∧ w.cell? ⟨(ad.add (i.toNat * 21)).block, (ad.add (i.toNat * 21)).off + 19, none⟩ = some (.slice A19 (rd_T49 xs i).f2.f3.length c19) ∧ w.cell? ⟨(ad.add (i.toNat * 21)).block, (ad.add (i.toNat * 21)).off + 20, none⟩ = some (.slice A20 (rd_T49 xs i).f2.f4.f0.length c20) ∧ (rd_T49 xs i).f0.length ≤ c0 ∧ k77.C w A0 (rd_T49 xs i).f0.length (rd_T49 xs i).f0 ∧ (rd_T49 xs i).f1.f3.f1.length ≤ c5 ∧ Kd.string.C w A5 (rd_T49 xs i).f1.f3.f1.length (rd_T49 xs i).f1.f3.f1 ∧ (rd_T49 xs i).f1.f3.f2.length ≤ c6 ∧ k41.C w A6 (rd_T49 xs i).f1.f3.f2.length (rd_T49 xs i).f1.f3.f2 ∧ (rd_T49 xs i).f1.f4.length ≤ c7 ∧ Kd.string.C w A7 (rd_T49 xs i).f1.f4.length (rd_T49 xs i).f1.f4 ∧ (rd_T49 xs i).f1.f5.length ≤ c8 ∧ k44.C w A8 (rd_T49 xs i).f1.f5.length (rd_T49 xs i).f1.f5 ∧ (rd_T49 xs i).f2.f1.f3.f1.length ≤ c14 ∧ Kd.string.C w A14 (rd_T49 xs i).f2.f1.f3.f1.length (rd_T49 xs i).f2.f1.f3.f1 ∧ (rd_T49 xs i).f2.f1.f3.f2.length ≤ c15 ∧ k41.C w A15 (rd_T49 xs i).f2.f1.f3.f2.length (rd_T49 xs i).f2.f1.f3.f2 ∧ (rd_T49 xs i).f2.f1.f4.length ≤ c16 ∧ Kd.string.C w A16 (rd_T49 xs i).f2.f1.f4.length (rd_T49 xs i).f2.f1.f4 ∧ (rd_T49 xs i).f2.f1.f5.length ≤ c17 ∧ k44.C w A17 (rd_T49 xs i).f2.f1.f5.length (rd_T49 xs i).f2.f1.f5 ∧ (rd_T49 xs i).f2.f2.length ≤ c18 ∧ Kd.string.C w A18 (rd_T49 xs i).f2.f2.length (rd_T49 xs i).f2.f2 ∧ (rd_T49 xs i).f2.f3.length ≤ c19 ∧ k47.C w A19 (rd_T49 xs i).f2.f3.length (rd_T49 xs i).f2.f3 ∧ (rd_T49 xs i).f2.f4.f0.length ≤ c20 ∧ k49.C w A20 (rd_T49 xs i).f2.f4.f0.length (rd_T49 xs i).f2.f4.f0 := by
 obtain ⟨ad, c, e, _, hK, hc0⟩ := Kd.C_get h z49 i h0 h1
 have hc : ∀ j u, c[j]? = some u → w.cell? (ad.add (i.toNat * 21 + j)) = some u := hc0
 obtain ⟨A0, c0, A5, c5, A6, c6, A7, c7, A8, c8, A14, c14, A15, c15, A16, c16, A17, c17, A18, c18, A19, c19, A20, c20, rfl, l0, g0, l5, g5, l6, g6, l7, g7, l8, g8, l14, g14, l15, g15, l16, g16, l17, g17, l18, g18, l19, g19, l20, g20⟩ := k49_open hK
 exact ⟨ad, A0, c0, A5, c5, A6, c6, A7, c7, A8, c8, A14, c14, A15, c15, A16, c16, A17, c17, A18, c18, A19, c19, A20, c20, e, hc 0 _ rfl, by rw [← add_field _ _ 1 (by omega)]; exact hc 1 _ rfl, by rw [← add_field _ _ 2 (by omega)]; exact hc 2 _ rfl, by rw [← add_field _ _ 3 (by omega)]; exact hc 3 _ rfl, by rw [← add_field _ _ 4 (by omega)]; exact hc 4 _ rfl, by rw [← add_field _ _ 5 (by omega)]; exact hc 5 _ rfl, by rw [← add_field _ _ 6 (by omega)]; exact hc 6 _ rfl, by rw [← add_field _ _ 7 (by omega)]; exact hc 7 _ rfl, by rw [← add_field _ _ 8 (by omega)]; exact hc 8 _ rfl, by rw [← add_field _ _ 9 (by omega)]; exact hc 9 _ rfl, by rw [← add_field _ _ 10 (by omega)]; exact hc 10 _ rfl, by rw [← add_field _ _ 11 (by omega)]; exact hc 11 _ rfl, by rw [← add_field _ _ 12 (by omega)]; exact hc 12 _ rfl, by rw [← add_field _ _ 13 (by omega)]; exact hc 13 _ rfl, by rw [← add_field _ _ 14 (by omega)]; exact hc 14 _ rfl, by rw [← add_field _ _ 15 (by omega)]; exact hc 15 _ rfl, by rw [← add_field _ _ 16 (by omega)]; exact hc 16 _ rfl, by rw [← add_field _ _ 17 (by omega)]; exact hc 17 _ rfl, by rw [← add_field _ _ 18 (by omega)]; exact hc 18 _ rfl, by rw [← add_field _ _ 19 (by omega)]; exact hc 19 _ rfl, by rw [← add_field _ _ 20 (by omega)]; exact hc 20 _ rfl, l0, g0, l5, g5, l6, g6, l7, g7, l8, g8, l14, g14, l15, g15, l16, g16, l17, g17, l18, g18, l19, g19, l20, g20⟩

def W89 (x : S89) : Prop := (x.f0.size ≤ maxLen) ∧ (x.f1.size ≤ maxLen)
inductive W65 : S65 → Prop
 | mk {x : S65} : ((Lit.int .i64 x.f0).wf = true) → ((x.f1.length ≤ maxLen ∧ ∀ y ∈ x.f1, y.size ≤ maxLen)) → x.f2.length ≤ maxLen → (∀ y ∈ x.f2, W65 y) → W65 x
theorem W65.p0 {x : S65} (h : W65 x) : (Lit.int .i64 x.f0).wf = true := by cases h; assumption
theorem W65.p1 {x : S65} (h : W65 x) : (x.f1.length ≤ maxLen ∧ ∀ y ∈ x.f1, y.size ≤ maxLen) := by cases h; assumption
theorem W65.p2 {x : S65} (h : W65 x) : (x.f2.length ≤ maxLen ∧ ∀ y ∈ x.f2, W65 y) := by cases h; constructor <;> assumption
inductive W68 : S68 → Prop
 | mk {x : S68} : ((Lit.int .i64 x.f0).wf = true) → (x.f1.size ≤ maxLen) → ((Lit.int .i64 x.f2).wf = true) → (W65 x.f3) → ((x.f4.length ≤ maxLen ∧ ∀ y ∈ x.f4, y.size ≤ maxLen)) → x.f5.length ≤ maxLen → (∀ y ∈ x.f5, W68 y) → W68 x
theorem W68.p0 {x : S68} (h : W68 x) : (Lit.int .i64 x.f0).wf = true := by cases h; assumption
theorem W68.p1 {x : S68} (h : W68 x) : x.f1.size ≤ maxLen := by cases h; assumption
theorem W68.p2 {x : S68} (h : W68 x) : (Lit.int .i64 x.f2).wf = true := by cases h; assumption
theorem W68.p3 {x : S68} (h : W68 x) : W65 x.f3 := by cases h; assumption
theorem W68.p4 {x : S68} (h : W68 x) : (x.f4.length ≤ maxLen ∧ ∀ y ∈ x.f4, y.size ≤ maxLen) := by cases h; assumption
theorem W68.p5 {x : S68} (h : W68 x) : (x.f5.length ≤ maxLen ∧ ∀ y ∈ x.f5, W68 y) := by cases h; constructor <;> assumption
inductive W71 : S71 → Prop
 | mk {x : S71} : ((Lit.int .i64 x.f0).wf = true) → (W68 x.f1) → ((x.f2.length ≤ maxLen ∧ ∀ y ∈ x.f2, y.size ≤ maxLen)) → x.f3.length ≤ maxLen → (∀ y ∈ x.f3, W71 y) → x.f4.f0.length ≤ maxLen → (∀ yc ∈ x.f4.f0, (yc.f0.length ≤ maxLen ∧ ∀ y ∈ yc.f0, W89 y)) → (∀ yc ∈ x.f4.f0, W68 yc.f1) → (∀ yc ∈ x.f4.f0, W71 yc.f2) → W71 x
def W73 (x : S73) : Prop := ((x.f0.length ≤ maxLen ∧ ∀ y ∈ x.f0, W89 y)) ∧ (W68 x.f1) ∧ (W71 x.f2)
def W24 (x : S24) : Prop := (x.f0.length ≤ maxLen ∧ ∀ y ∈ x.f0, W73 y)
theorem W71.p0 {x : S71} (h : W71 x) : (Lit.int .i64 x.f0).wf = true := by cases h; assumption
theorem W71.p1 {x : S71} (h : W71 x) : W68 x.f1 := by cases h; assumption
theorem W71.p2 {x : S71} (h : W71 x) : (x.f2.length ≤ maxLen ∧ ∀ y ∈ x.f2, y.size ≤ maxLen) := by cases h; assumption
theorem W71.p3 {x : S71} (h : W71 x) : (x.f3.length ≤ maxLen ∧ ∀ y ∈ x.f3, W71 y) := by cases h; constructor <;> assumption
theorem W71.p4 {x : S71} (h : W71 x) : W24 x.f4 := by cases h with | mk _ _ _ _ _ l_ q0 q1 q2 => exact ⟨l_, fun y hy => ⟨q0 y hy, q1 y hy, q2 y hy⟩⟩
def W77 (x : S77) : Prop := (x.f0.size ≤ maxLen) ∧ (x.f1.size ≤ maxLen)
inductive W41 : S41 → Prop
 | mk {x : S41} : ((Lit.int .i64 x.f0).wf = true) → ((x.f1.length ≤ maxLen ∧ ∀ y ∈ x.f1, y.size ≤ maxLen)) → x.f2.length ≤ maxLen → (∀ y ∈ x.f2, W41 y) → W41 x
theorem W41.p0 {x : S41} (h : W41 x) : (Lit.int .i64 x.f0).wf = true := by cases h; assumption
theorem W41.p1 {x : S41} (h : W41 x) : (x.f1.length ≤ maxLen ∧ ∀ y ∈ x.f1, y.size ≤ maxLen) := by cases h; assumption
theorem W41.p2 {x : S41} (h : W41 x) : (x.f2.length ≤ maxLen ∧ ∀ y ∈ x.f2, W41 y) := by cases h; constructor <;> assumption
inductive W44 : S44 → Prop
 | mk {x : S44} : ((Lit.int .i64 x.f0).wf = true) → (x.f1.size ≤ maxLen) → ((Lit.int .i64 x.f2).wf = true) → (W41 x.f3) → ((x.f4.length ≤ maxLen ∧ ∀ y ∈ x.f4, y.size ≤ maxLen)) → x.f5.length ≤ maxLen → (∀ y ∈ x.f5, W44 y) → W44 x
theorem W44.p0 {x : S44} (h : W44 x) : (Lit.int .i64 x.f0).wf = true := by cases h; assumption
theorem W44.p1 {x : S44} (h : W44 x) : x.f1.size ≤ maxLen := by cases h; assumption
theorem W44.p2 {x : S44} (h : W44 x) : (Lit.int .i64 x.f2).wf = true := by cases h; assumption
theorem W44.p3 {x : S44} (h : W44 x) : W41 x.f3 := by cases h; assumption
theorem W44.p4 {x : S44} (h : W44 x) : (x.f4.length ≤ maxLen ∧ ∀ y ∈ x.f4, y.size ≤ maxLen) := by cases h; assumption
theorem W44.p5 {x : S44} (h : W44 x) : (x.f5.length ≤ maxLen ∧ ∀ y ∈ x.f5, W44 y) := by cases h; constructor <;> assumption
inductive W47 : S47 → Prop
 | mk {x : S47} : ((Lit.int .i64 x.f0).wf = true) → (W44 x.f1) → ((x.f2.length ≤ maxLen ∧ ∀ y ∈ x.f2, y.size ≤ maxLen)) → x.f3.length ≤ maxLen → (∀ y ∈ x.f3, W47 y) → x.f4.f0.length ≤ maxLen → (∀ yc ∈ x.f4.f0, (yc.f0.length ≤ maxLen ∧ ∀ y ∈ yc.f0, W77 y)) → (∀ yc ∈ x.f4.f0, W44 yc.f1) → (∀ yc ∈ x.f4.f0, W47 yc.f2) → W47 x
def W49 (x : S49) : Prop := ((x.f0.length ≤ maxLen ∧ ∀ y ∈ x.f0, W77 y)) ∧ (W44 x.f1) ∧ (W47 x.f2)
def W29 (x : S29) : Prop := (x.f0.length ≤ maxLen ∧ ∀ y ∈ x.f0, W49 y)
theorem W47.p0 {x : S47} (h : W47 x) : (Lit.int .i64 x.f0).wf = true := by cases h; assumption
theorem W47.p1 {x : S47} (h : W47 x) : W44 x.f1 := by cases h; assumption
theorem W47.p2 {x : S47} (h : W47 x) : (x.f2.length ≤ maxLen ∧ ∀ y ∈ x.f2, y.size ≤ maxLen) := by cases h; assumption
theorem W47.p3 {x : S47} (h : W47 x) : (x.f3.length ≤ maxLen ∧ ∀ y ∈ x.f3, W47 y) := by cases h; constructor <;> assumption
theorem W47.p4 {x : S47} (h : W47 x) : W29 x.f4 := by cases h with | mk _ _ _ _ _ l_ q0 q1 q2 => exact ⟨l_, fun y hy => ⟨q0 y hy, q1 y hy, q2 y hy⟩⟩
end Go.Proofs.Ytpkppeicceehcaa.Px
