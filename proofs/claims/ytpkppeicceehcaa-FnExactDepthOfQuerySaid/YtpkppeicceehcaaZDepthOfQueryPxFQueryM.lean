/- The families Head, Comp, Query of mirrored types, nested in each other: weights, copies, and what the laws' own helpers come to. No condition. -/
import Derived.Test.YtpkppeicceehcaaZDepthOfQueryPlM
import Derived.Test.YtpkppeicceehcaaZDepthOfQueryPx11
import Derived.Test.YtpkppeicceehcaaZDepthOfQueryPx4
import Derived.Test.YtpkppeicceehcaaZDepthOfQueryPx7
import Derived.Test.YtpkppeicceehcaaZDepthOfQueryPx8M
import Derived.Test.YtpkppeicceehcaaZDepthOfQueryPx3M
import Derived.Test.YtpkppeicceehcaaZDepthOfQueryPxFQueryDM
import Derived.Test.YtpkppeicceehcaaZDepthOfQueryPx0
import Derived.Test.YtpkppeicceehcaaZDepthOfQueryPx21M
import Derived.Test.YtpkppeicceehcaaZDepthOfQueryWLastM
import Derived.Test.YtpkppeicceehcaaZDepthOfQueryWWords
import Derived.Deep.Slices
import Derived.ChangeArms
import Derived.DataReads
section
namespace Go.Proofs.Ytpkppeicceehcaa.Px
open Go.RowKit Go.Proofs.YtpkppeicceehcaaW.PrintWords Go.Proofs.Ytpkppeicceehcaa.Pl
set_option linter.unusedVariables false
set_option linter.unusedSimpArgs false
theorem szHeadS_of (xs : List S71) (hx : xs.length ≤ maxLen) (h : ∀ y ∈ xs, ∀ left : Int, 0 ≤ left → left ≤ 1048576 → Ev (fun k => laws_szHead.f k (y.f0) (y.f1.f0) (y.f1.f1) (y.f1.f2) (y.f1.f3.f0) (y.f1.f3.f1) (y.f1.f3.f2) (y.f1.f4) (y.f1.f5) (y.f2) (y.f3) (y.f4.f0) left) (cut (wtHead y) left)) (left : Int) (h0 : 0 ≤ left) (hl : left ≤ 1048576) : Ev (fun k => laws_szHeadS.f k xs left) (cut (xs.length + wtHeadS xs) left) := by
  refine Ev.up ?_
  simp only [laws_szHeadS.f]
  have hs := cut_sub (n := xs.length) h0 hl hx
  by_cases hc : cut xs.length left < 0
  · exact Ev.pos (hs.1.2 hc) (Ev.const (cut_add' hc).symm)
  · refine Ev.neg (fun h => hc (hs.1.1 h)) ?_
    rw [hs.2 (by omega)]
    have hl2 := cut_le (n := xs.length) h0
    have hw := sz_loop xs.length (fun k i left => laws_szHead.f k ((rd_T71 xs (i : Int)).f0) ((rd_T71 xs (i : Int)).f1.f0) ((rd_T71 xs (i : Int)).f1.f1) ((rd_T71 xs (i : Int)).f1.f2) ((rd_T71 xs (i : Int)).f1.f3.f0) ((rd_T71 xs (i : Int)).f1.f3.f1) ((rd_T71 xs (i : Int)).f1.f3.f2) ((rd_T71 xs (i : Int)).f1.f4) ((rd_T71 xs (i : Int)).f1.f5) ((rd_T71 xs (i : Int)).f2) ((rd_T71 xs (i : Int)).f3) ((rd_T71 xs (i : Int)).f4.f0) left) (fun k left i => laws_szHeadS.l0 k xs left (i : Int)) (fun i => wtHead (xs.getD i z71)) (fun k left i hi => by
      simp only [laws_szHeadS.l0]
      rw [if_pos (by omega), if_pos (by omega), w1 hi hx]) (fun k left => by simp only [laws_szHeadS.l0]; rw [if_neg (by omega)]) (fun i left hi h0 hl => h _ (mem_getD xs z71 i hi) left h0 hl) xs.length 0 _ (by omega) (show 0 ≤ cut xs.length left by omega) (by omega)
    refine Ev.eq hw ?_
    rw [cut_add (by omega), sumF_list wtHead z71 xs xs.length 0 (by omega), wtHeadS_sum]
    rfl
theorem szCompS_of (xs : List S73) (hx : xs.length ≤ maxLen) (h : ∀ y ∈ xs, ∀ left : Int, 0 ≤ left → left ≤ 1048576 → Ev (fun k => laws_szComp.f k (y.f0) (y.f1.f0) (y.f1.f1) (y.f1.f2) (y.f1.f3.f0) (y.f1.f3.f1) (y.f1.f3.f2) (y.f1.f4) (y.f1.f5) (y.f2.f0) (y.f2.f1.f0) (y.f2.f1.f1) (y.f2.f1.f2) (y.f2.f1.f3.f0) (y.f2.f1.f3.f1) (y.f2.f1.f3.f2) (y.f2.f1.f4) (y.f2.f1.f5) (y.f2.f2) (y.f2.f3) (y.f2.f4.f0) left) (cut (wtComp y) left)) (left : Int) (h0 : 0 ≤ left) (hl : left ≤ 1048576) : Ev (fun k => laws_szCompS.f k xs left) (cut (xs.length + wtCompS xs) left) := by
  refine Ev.up ?_
  simp only [laws_szCompS.f]
  have hs := cut_sub (n := xs.length) h0 hl hx
  by_cases hc : cut xs.length left < 0
  · exact Ev.pos (hs.1.2 hc) (Ev.const (cut_add' hc).symm)
  · refine Ev.neg (fun h => hc (hs.1.1 h)) ?_
    rw [hs.2 (by omega)]
    have hl2 := cut_le (n := xs.length) h0
    have hw := sz_loop xs.length (fun k i left => laws_szComp.f k ((rd_T73 xs (i : Int)).f0) ((rd_T73 xs (i : Int)).f1.f0) ((rd_T73 xs (i : Int)).f1.f1) ((rd_T73 xs (i : Int)).f1.f2) ((rd_T73 xs (i : Int)).f1.f3.f0) ((rd_T73 xs (i : Int)).f1.f3.f1) ((rd_T73 xs (i : Int)).f1.f3.f2) ((rd_T73 xs (i : Int)).f1.f4) ((rd_T73 xs (i : Int)).f1.f5) ((rd_T73 xs (i : Int)).f2.f0) ((rd_T73 xs (i : Int)).f2.f1.f0) ((rd_T73 xs (i : Int)).f2.f1.f1) ((rd_T73 xs (i : Int)).f2.f1.f2) ((rd_T73 xs (i : Int)).f2.f1.f3.f0) ((rd_T73 xs (i : Int)).f2.f1.f3.f1) ((rd_T73 xs (i : Int)).f2.f1.f3.f2) ((rd_T73 xs (i : Int)).f2.f1.f4) ((rd_T73 xs (i : Int)).f2.f1.f5) ((rd_T73 xs (i : Int)).f2.f2) ((rd_T73 xs (i : Int)).f2.f3) ((rd_T73 xs (i : Int)).f2.f4.f0) left) (fun k left i => laws_szCompS.l0 k xs left (i : Int)) (fun i => wtComp (xs.getD i z73)) (fun k left i hi => by
      simp only [laws_szCompS.l0]
      rw [if_pos (by omega), if_pos (by omega), w1 hi hx]) (fun k left => by simp only [laws_szCompS.l0]; rw [if_neg (by omega)]) (fun i left hi h0 hl => h _ (mem_getD xs z73 i hi) left h0 hl) xs.length 0 _ (by omega) (show 0 ≤ cut xs.length left by omega) (by omega)
    refine Ev.eq hw ?_
    rw [cut_add (by omega), sumF_list wtComp z73 xs xs.length 0 (by omega), wtCompS_sum]
    rfl
theorem toHeadS_of (xs : List S71) (hx : xs.length ≤ 1048576) (h : ∀ y ∈ xs, Ev (fun k => laws_toHead.f k (y.f0) (y.f1.f0) (y.f1.f1) (y.f1.f2) (y.f1.f3.f0) (y.f1.f3.f1) (y.f1.f3.f2) (y.f1.f4) (y.f1.f5) (y.f2) (y.f3) (y.f4.f0)) ((cvHead y).f0, (cvHead y).f1.f0, (cvHead y).f1.f1, (cvHead y).f1.f2, (cvHead y).f1.f3.f0, (cvHead y).f1.f3.f1, (cvHead y).f1.f3.f2, (cvHead y).f1.f4, (cvHead y).f1.f5, (cvHead y).f2, (cvHead y).f3, (cvHead y).f4.f0)) : Ev (fun k => laws_toHeadS.f k xs) (cvHeadS xs) := by
  refine Ev.up ?_
  simp only [laws_toHeadS.f]
  refine Ev.pos (by omega) (Ev.pos (by omega) ?_)
  have hw := to_loop xs.length (fun k i => (laws_toHead.f k ((rd_T71 xs (i : Int)).f0) ((rd_T71 xs (i : Int)).f1.f0) ((rd_T71 xs (i : Int)).f1.f1) ((rd_T71 xs (i : Int)).f1.f2) ((rd_T71 xs (i : Int)).f1.f3.f0) ((rd_T71 xs (i : Int)).f1.f3.f1) ((rd_T71 xs (i : Int)).f1.f3.f2) ((rd_T71 xs (i : Int)).f1.f4) ((rd_T71 xs (i : Int)).f1.f5) ((rd_T71 xs (i : Int)).f2) ((rd_T71 xs (i : Int)).f3) ((rd_T71 xs (i : Int)).f4.f0)).map fun t => (⟨t.1, (⟨t.2.1, t.2.2.1, t.2.2.2.1, (⟨t.2.2.2.2.1, t.2.2.2.2.2.1, t.2.2.2.2.2.2.1⟩ : S41), t.2.2.2.2.2.2.2.1, t.2.2.2.2.2.2.2.2.1⟩ : S44), t.2.2.2.2.2.2.2.2.2.1, t.2.2.2.2.2.2.2.2.2.2.1, (⟨t.2.2.2.2.2.2.2.2.2.2.2⟩ : S29)⟩ : S47)) (fun k out i => laws_toHeadS.l0 k xs out (i : Int)) (fun i => cvHead (xs.getD i z71)) (fun k out i hi hl => by
    simp only [laws_toHeadS.l0]
    rw [if_pos (by omega), if_pos (by omega)]
    rcases laws_toHead.f k ((rd_T71 xs (i : Int)).f0) ((rd_T71 xs (i : Int)).f1.f0) ((rd_T71 xs (i : Int)).f1.f1) ((rd_T71 xs (i : Int)).f1.f2) ((rd_T71 xs (i : Int)).f1.f3.f0) ((rd_T71 xs (i : Int)).f1.f3.f1) ((rd_T71 xs (i : Int)).f1.f3.f2) ((rd_T71 xs (i : Int)).f1.f4) ((rd_T71 xs (i : Int)).f1.f5) ((rd_T71 xs (i : Int)).f2) ((rd_T71 xs (i : Int)).f3) ((rd_T71 xs (i : Int)).f4.f0) with _ | t
    · rfl
    · simp only [Option.map_some, Option.bind_some]
      rw [if_pos (by omega), w1' hi hx]
      rfl) (fun k out => by simp only [laws_toHeadS.l0]; rw [if_neg (by omega)]) (fun i hi => Ev.eq (Ev.map (fun t => (⟨t.1, (⟨t.2.1, t.2.2.1, t.2.2.2.1, (⟨t.2.2.2.2.1, t.2.2.2.2.2.1, t.2.2.2.2.2.2.1⟩ : S41), t.2.2.2.2.2.2.2.1, t.2.2.2.2.2.2.2.2.1⟩ : S44), t.2.2.2.2.2.2.2.2.2.1, t.2.2.2.2.2.2.2.2.2.2.1, (⟨t.2.2.2.2.2.2.2.2.2.2.2⟩ : S29)⟩ : S47)) (h _ (mem_getD xs z71 i hi))) (etaHead _)) xs.length 0 (List.replicate ((xs.length : Int)).toNat z47) (by omega) (by simp)
  refine Ev.eq hw ?_
  rw [List.take_zero, List.nil_append, range_map_getElem cvHead z71 xs, cvHeadS_map]
theorem toCompS_of (xs : List S73) (hx : xs.length ≤ 1048576) (h : ∀ y ∈ xs, Ev (fun k => laws_toComp.f k (y.f0) (y.f1.f0) (y.f1.f1) (y.f1.f2) (y.f1.f3.f0) (y.f1.f3.f1) (y.f1.f3.f2) (y.f1.f4) (y.f1.f5) (y.f2.f0) (y.f2.f1.f0) (y.f2.f1.f1) (y.f2.f1.f2) (y.f2.f1.f3.f0) (y.f2.f1.f3.f1) (y.f2.f1.f3.f2) (y.f2.f1.f4) (y.f2.f1.f5) (y.f2.f2) (y.f2.f3) (y.f2.f4.f0)) ((cvComp y).f0, (cvComp y).f1.f0, (cvComp y).f1.f1, (cvComp y).f1.f2, (cvComp y).f1.f3.f0, (cvComp y).f1.f3.f1, (cvComp y).f1.f3.f2, (cvComp y).f1.f4, (cvComp y).f1.f5, (cvComp y).f2.f0, (cvComp y).f2.f1.f0, (cvComp y).f2.f1.f1, (cvComp y).f2.f1.f2, (cvComp y).f2.f1.f3.f0, (cvComp y).f2.f1.f3.f1, (cvComp y).f2.f1.f3.f2, (cvComp y).f2.f1.f4, (cvComp y).f2.f1.f5, (cvComp y).f2.f2, (cvComp y).f2.f3, (cvComp y).f2.f4.f0)) : Ev (fun k => laws_toCompS.f k xs) (cvCompS xs) := by
  refine Ev.up ?_
  simp only [laws_toCompS.f]
  refine Ev.pos (by omega) (Ev.pos (by omega) ?_)
  have hw := to_loop xs.length (fun k i => (laws_toComp.f k ((rd_T73 xs (i : Int)).f0) ((rd_T73 xs (i : Int)).f1.f0) ((rd_T73 xs (i : Int)).f1.f1) ((rd_T73 xs (i : Int)).f1.f2) ((rd_T73 xs (i : Int)).f1.f3.f0) ((rd_T73 xs (i : Int)).f1.f3.f1) ((rd_T73 xs (i : Int)).f1.f3.f2) ((rd_T73 xs (i : Int)).f1.f4) ((rd_T73 xs (i : Int)).f1.f5) ((rd_T73 xs (i : Int)).f2.f0) ((rd_T73 xs (i : Int)).f2.f1.f0) ((rd_T73 xs (i : Int)).f2.f1.f1) ((rd_T73 xs (i : Int)).f2.f1.f2) ((rd_T73 xs (i : Int)).f2.f1.f3.f0) ((rd_T73 xs (i : Int)).f2.f1.f3.f1) ((rd_T73 xs (i : Int)).f2.f1.f3.f2) ((rd_T73 xs (i : Int)).f2.f1.f4) ((rd_T73 xs (i : Int)).f2.f1.f5) ((rd_T73 xs (i : Int)).f2.f2) ((rd_T73 xs (i : Int)).f2.f3) ((rd_T73 xs (i : Int)).f2.f4.f0)).map fun t => (⟨t.1, (⟨t.2.1, t.2.2.1, t.2.2.2.1, (⟨t.2.2.2.2.1, t.2.2.2.2.2.1, t.2.2.2.2.2.2.1⟩ : S41), t.2.2.2.2.2.2.2.1, t.2.2.2.2.2.2.2.2.1⟩ : S44), (⟨t.2.2.2.2.2.2.2.2.2.1, (⟨t.2.2.2.2.2.2.2.2.2.2.1, t.2.2.2.2.2.2.2.2.2.2.2.1, t.2.2.2.2.2.2.2.2.2.2.2.2.1, (⟨t.2.2.2.2.2.2.2.2.2.2.2.2.2.1, t.2.2.2.2.2.2.2.2.2.2.2.2.2.2.1, t.2.2.2.2.2.2.2.2.2.2.2.2.2.2.2.1⟩ : S41), t.2.2.2.2.2.2.2.2.2.2.2.2.2.2.2.2.1, t.2.2.2.2.2.2.2.2.2.2.2.2.2.2.2.2.2.1⟩ : S44), t.2.2.2.2.2.2.2.2.2.2.2.2.2.2.2.2.2.2.1, t.2.2.2.2.2.2.2.2.2.2.2.2.2.2.2.2.2.2.2.1, (⟨t.2.2.2.2.2.2.2.2.2.2.2.2.2.2.2.2.2.2.2.2⟩ : S29)⟩ : S47)⟩ : S49)) (fun k out i => laws_toCompS.l0 k xs out (i : Int)) (fun i => cvComp (xs.getD i z73)) (fun k out i hi hl => by
    simp only [laws_toCompS.l0]
    rw [if_pos (by omega), if_pos (by omega)]
    rcases laws_toComp.f k ((rd_T73 xs (i : Int)).f0) ((rd_T73 xs (i : Int)).f1.f0) ((rd_T73 xs (i : Int)).f1.f1) ((rd_T73 xs (i : Int)).f1.f2) ((rd_T73 xs (i : Int)).f1.f3.f0) ((rd_T73 xs (i : Int)).f1.f3.f1) ((rd_T73 xs (i : Int)).f1.f3.f2) ((rd_T73 xs (i : Int)).f1.f4) ((rd_T73 xs (i : Int)).f1.f5) ((rd_T73 xs (i : Int)).f2.f0) ((rd_T73 xs (i : Int)).f2.f1.f0) ((rd_T73 xs (i : Int)).f2.f1.f1) ((rd_T73 xs (i : Int)).f2.f1.f2) ((rd_T73 xs (i : Int)).f2.f1.f3.f0) ((rd_T73 xs (i : Int)).f2.f1.f3.f1) ((rd_T73 xs (i : Int)).f2.f1.f3.f2) ((rd_T73 xs (i : Int)).f2.f1.f4) ((rd_T73 xs (i : Int)).f2.f1.f5) ((rd_T73 xs (i : Int)).f2.f2) ((rd_T73 xs (i : Int)).f2.f3) ((rd_T73 xs (i : Int)).f2.f4.f0) with _ | t
    · rfl
    · simp only [Option.map_some, Option.bind_some]
      rw [if_pos (by omega), w1' hi hx]
      rfl) (fun k out => by simp only [laws_toCompS.l0]; rw [if_neg (by omega)]) (fun i hi => Ev.eq (Ev.map (fun t => (⟨t.1, (⟨t.2.1, t.2.2.1, t.2.2.2.1, (⟨t.2.2.2.2.1, t.2.2.2.2.2.1, t.2.2.2.2.2.2.1⟩ : S41), t.2.2.2.2.2.2.2.1, t.2.2.2.2.2.2.2.2.1⟩ : S44), (⟨t.2.2.2.2.2.2.2.2.2.1, (⟨t.2.2.2.2.2.2.2.2.2.2.1, t.2.2.2.2.2.2.2.2.2.2.2.1, t.2.2.2.2.2.2.2.2.2.2.2.2.1, (⟨t.2.2.2.2.2.2.2.2.2.2.2.2.2.1, t.2.2.2.2.2.2.2.2.2.2.2.2.2.2.1, t.2.2.2.2.2.2.2.2.2.2.2.2.2.2.2.1⟩ : S41), t.2.2.2.2.2.2.2.2.2.2.2.2.2.2.2.2.1, t.2.2.2.2.2.2.2.2.2.2.2.2.2.2.2.2.2.1⟩ : S44), t.2.2.2.2.2.2.2.2.2.2.2.2.2.2.2.2.2.2.1, t.2.2.2.2.2.2.2.2.2.2.2.2.2.2.2.2.2.2.2.1, (⟨t.2.2.2.2.2.2.2.2.2.2.2.2.2.2.2.2.2.2.2.2⟩ : S29)⟩ : S47)⟩ : S49)) (h _ (mem_getD xs z73 i hi))) (etaComp _)) xs.length 0 (List.replicate ((xs.length : Int)).toNat z49) (by omega) (by simp)
  refine Ev.eq hw ?_
  rw [List.take_zero, List.nil_append, range_map_getElem cvComp z73 xs, cvCompS_map]
theorem eqHeadS_of (xs : List S47) (hx : xs.length ≤ 1048576) (h : ∀ y ∈ xs, Ev (fun k => laws_eqHead.f k (y.f0) (y.f1.f0) (y.f1.f1) (y.f1.f2) (y.f1.f3.f0) (y.f1.f3.f1) (y.f1.f3.f2) (y.f1.f4) (y.f1.f5) (y.f2) (y.f3) (y.f4.f0) (y.f0) (y.f1.f0) (y.f1.f1) (y.f1.f2) (y.f1.f3.f0) (y.f1.f3.f1) (y.f1.f3.f2) (y.f1.f4) (y.f1.f5) (y.f2) (y.f3) (y.f4.f0)) true) : Ev (fun k => laws_eqHeadS.f k xs xs) true := by
  refine Ev.up ?_
  simp only [laws_eqHeadS.f]
  refine Ev.pos (by simp) ?_
  exact eq_loop xs.length (fun k i => laws_eqHead.f k ((rd_T47 xs (i : Int)).f0) ((rd_T47 xs (i : Int)).f1.f0) ((rd_T47 xs (i : Int)).f1.f1) ((rd_T47 xs (i : Int)).f1.f2) ((rd_T47 xs (i : Int)).f1.f3.f0) ((rd_T47 xs (i : Int)).f1.f3.f1) ((rd_T47 xs (i : Int)).f1.f3.f2) ((rd_T47 xs (i : Int)).f1.f4) ((rd_T47 xs (i : Int)).f1.f5) ((rd_T47 xs (i : Int)).f2) ((rd_T47 xs (i : Int)).f3) ((rd_T47 xs (i : Int)).f4.f0) ((rd_T47 xs (i : Int)).f0) ((rd_T47 xs (i : Int)).f1.f0) ((rd_T47 xs (i : Int)).f1.f1) ((rd_T47 xs (i : Int)).f1.f2) ((rd_T47 xs (i : Int)).f1.f3.f0) ((rd_T47 xs (i : Int)).f1.f3.f1) ((rd_T47 xs (i : Int)).f1.f3.f2) ((rd_T47 xs (i : Int)).f1.f4) ((rd_T47 xs (i : Int)).f1.f5) ((rd_T47 xs (i : Int)).f2) ((rd_T47 xs (i : Int)).f3) ((rd_T47 xs (i : Int)).f4.f0)) (fun k i => laws_eqHeadS.l0 k xs xs (i : Int)) (fun k i hi => by
    simp only [laws_eqHeadS.l0]
    rw [if_pos (by omega), if_pos (by omega), if_pos (by omega), w1' hi hx]) (fun k => by simp only [laws_eqHeadS.l0]; rw [if_neg (by omega)]) (fun i hi => h _ (mem_getD xs z47 i hi)) xs.length 0 (by omega)
theorem eqCompS_of (xs : List S49) (hx : xs.length ≤ 1048576) (h : ∀ y ∈ xs, Ev (fun k => laws_eqComp.f k (y.f0) (y.f1.f0) (y.f1.f1) (y.f1.f2) (y.f1.f3.f0) (y.f1.f3.f1) (y.f1.f3.f2) (y.f1.f4) (y.f1.f5) (y.f2.f0) (y.f2.f1.f0) (y.f2.f1.f1) (y.f2.f1.f2) (y.f2.f1.f3.f0) (y.f2.f1.f3.f1) (y.f2.f1.f3.f2) (y.f2.f1.f4) (y.f2.f1.f5) (y.f2.f2) (y.f2.f3) (y.f2.f4.f0) (y.f0) (y.f1.f0) (y.f1.f1) (y.f1.f2) (y.f1.f3.f0) (y.f1.f3.f1) (y.f1.f3.f2) (y.f1.f4) (y.f1.f5) (y.f2.f0) (y.f2.f1.f0) (y.f2.f1.f1) (y.f2.f1.f2) (y.f2.f1.f3.f0) (y.f2.f1.f3.f1) (y.f2.f1.f3.f2) (y.f2.f1.f4) (y.f2.f1.f5) (y.f2.f2) (y.f2.f3) (y.f2.f4.f0)) true) : Ev (fun k => laws_eqCompS.f k xs xs) true := by
  refine Ev.up ?_
  simp only [laws_eqCompS.f]
  refine Ev.pos (by simp) ?_
  exact eq_loop xs.length (fun k i => laws_eqComp.f k ((rd_T49 xs (i : Int)).f0) ((rd_T49 xs (i : Int)).f1.f0) ((rd_T49 xs (i : Int)).f1.f1) ((rd_T49 xs (i : Int)).f1.f2) ((rd_T49 xs (i : Int)).f1.f3.f0) ((rd_T49 xs (i : Int)).f1.f3.f1) ((rd_T49 xs (i : Int)).f1.f3.f2) ((rd_T49 xs (i : Int)).f1.f4) ((rd_T49 xs (i : Int)).f1.f5) ((rd_T49 xs (i : Int)).f2.f0) ((rd_T49 xs (i : Int)).f2.f1.f0) ((rd_T49 xs (i : Int)).f2.f1.f1) ((rd_T49 xs (i : Int)).f2.f1.f2) ((rd_T49 xs (i : Int)).f2.f1.f3.f0) ((rd_T49 xs (i : Int)).f2.f1.f3.f1) ((rd_T49 xs (i : Int)).f2.f1.f3.f2) ((rd_T49 xs (i : Int)).f2.f1.f4) ((rd_T49 xs (i : Int)).f2.f1.f5) ((rd_T49 xs (i : Int)).f2.f2) ((rd_T49 xs (i : Int)).f2.f3) ((rd_T49 xs (i : Int)).f2.f4.f0) ((rd_T49 xs (i : Int)).f0) ((rd_T49 xs (i : Int)).f1.f0) ((rd_T49 xs (i : Int)).f1.f1) ((rd_T49 xs (i : Int)).f1.f2) ((rd_T49 xs (i : Int)).f1.f3.f0) ((rd_T49 xs (i : Int)).f1.f3.f1) ((rd_T49 xs (i : Int)).f1.f3.f2) ((rd_T49 xs (i : Int)).f1.f4) ((rd_T49 xs (i : Int)).f1.f5) ((rd_T49 xs (i : Int)).f2.f0) ((rd_T49 xs (i : Int)).f2.f1.f0) ((rd_T49 xs (i : Int)).f2.f1.f1) ((rd_T49 xs (i : Int)).f2.f1.f2) ((rd_T49 xs (i : Int)).f2.f1.f3.f0) ((rd_T49 xs (i : Int)).f2.f1.f3.f1) ((rd_T49 xs (i : Int)).f2.f1.f3.f2) ((rd_T49 xs (i : Int)).f2.f1.f4) ((rd_T49 xs (i : Int)).f2.f1.f5) ((rd_T49 xs (i : Int)).f2.f2) ((rd_T49 xs (i : Int)).f2.f3) ((rd_T49 xs (i : Int)).f2.f4.f0)) (fun k i => laws_eqCompS.l0 k xs xs (i : Int)) (fun k i hi => by
    simp only [laws_eqCompS.l0]
    rw [if_pos (by omega), if_pos (by omega), if_pos (by omega), w1' hi hx]) (fun k => by simp only [laws_eqCompS.l0]; rw [if_neg (by omega)]) (fun i hi => h _ (mem_getD xs z49 i hi)) xs.length 0 (by omega)
theorem szComp_of (x : S73) (hw : W73 x) (h : ∀ left : Int, 0 ≤ left → left ≤ 1048576 → Ev (fun k => laws_szHead.f k (x.f2.f0) (x.f2.f1.f0) (x.f2.f1.f1) (x.f2.f1.f2) (x.f2.f1.f3.f0) (x.f2.f1.f3.f1) (x.f2.f1.f3.f2) (x.f2.f1.f4) (x.f2.f1.f5) (x.f2.f2) (x.f2.f3) (x.f2.f4.f0) left) (cut (wtHead x.f2) left)) : ∀ left : Int, 0 ≤ left → left ≤ 1048576 → Ev (fun k => laws_szComp.f k (x.f0) (x.f1.f0) (x.f1.f1) (x.f1.f2) (x.f1.f3.f0) (x.f1.f3.f1) (x.f1.f3.f2) (x.f1.f4) (x.f1.f5) (x.f2.f0) (x.f2.f1.f0) (x.f2.f1.f1) (x.f2.f1.f2) (x.f2.f1.f3.f0) (x.f2.f1.f3.f1) (x.f2.f1.f3.f2) (x.f2.f1.f4) (x.f2.f1.f5) (x.f2.f2) (x.f2.f3) (x.f2.f4.f0) left) (cut (wtComp x) left) := by
  intro left h0 hl
  refine Ev.up ?_
  simp only [laws_szComp.f]
  rw [wtComp_eq]
  have hb0 : (0 : Int) ≤ left ∧ left ≤ 1048576 := ⟨h0, hl⟩
  refine Ev.bind (szGenS_of x.f0 hw.1.1 (fun y hy => szGen_ev y (hw.1.2 y hy)) _ hb0.1 hb0.2) ?_
  by_cases hc0 : cut ((x.f0.length + wtGenS x.f0)) left < 0
  · refine Ev.pos hc0 (Ev.const ?_)
    have hn : cut ((x.f0.length + wtGenS x.f0)) left < 0 := hc0
    have hn : cut ((x.f0.length + wtGenS x.f0) + wtTerm x.f1) left < 0 := by rw [cut_add' hn]; omega
    have hn : cut ((x.f0.length + wtGenS x.f0) + wtTerm x.f1 + wtHead x.f2) left < 0 := by rw [cut_add' hn]; omega
    have hv := cut_neg.1 hn; unfold cut; rw [if_neg hv]
  refine Ev.neg hc0 ?_
  have hb1 : (0 : Int) ≤ cut ((x.f0.length + wtGenS x.f0)) left ∧ cut ((x.f0.length + wtGenS x.f0)) left ≤ 1048576 := ⟨by omega, by have := cut_le (n := (x.f0.length + wtGenS x.f0)) h0; omega⟩
  refine Ev.bind (szTerm_ev x.f1 hw.2.1 _ hb1.1 hb1.2) ?_
  by_cases hc1 : cut (wtTerm x.f1) (cut ((x.f0.length + wtGenS x.f0)) left) < 0
  · refine Ev.pos hc1 (Ev.const ?_)
    have hn : cut ((x.f0.length + wtGenS x.f0) + wtTerm x.f1) left < 0 := by rw [← cut_add (by omega)]; exact hc1
    have hn : cut ((x.f0.length + wtGenS x.f0) + wtTerm x.f1 + wtHead x.f2) left < 0 := by rw [cut_add' hn]; omega
    have hv := cut_neg.1 hn; unfold cut; rw [if_neg hv]
  refine Ev.neg hc1 ?_
  rw [cut_add (by omega)] at hc1 ⊢
  have hb2 : (0 : Int) ≤ cut ((x.f0.length + wtGenS x.f0) + wtTerm x.f1) left ∧ cut ((x.f0.length + wtGenS x.f0) + wtTerm x.f1) left ≤ 1048576 := ⟨by omega, by have := cut_le (n := (x.f0.length + wtGenS x.f0) + wtTerm x.f1) h0; omega⟩
  refine Ev.bind (h _ hb2.1 hb2.2) ?_
  by_cases hc2 : cut (wtHead x.f2) (cut ((x.f0.length + wtGenS x.f0) + wtTerm x.f1) left) < 0
  · refine Ev.pos hc2 (Ev.const ?_)
    have hn : cut ((x.f0.length + wtGenS x.f0) + wtTerm x.f1 + wtHead x.f2) left < 0 := by rw [← cut_add (by omega)]; exact hc2
    have hv := cut_neg.1 hn; unfold cut; rw [if_neg hv]
  refine Ev.neg hc2 ?_
  rw [cut_add (by omega)] at hc2 ⊢
  have hb3 : (0 : Int) ≤ cut ((x.f0.length + wtGenS x.f0) + wtTerm x.f1 + wtHead x.f2) left ∧ cut ((x.f0.length + wtGenS x.f0) + wtTerm x.f1 + wtHead x.f2) left ≤ 1048576 := ⟨by omega, by have := cut_le (n := (x.f0.length + wtGenS x.f0) + wtTerm x.f1 + wtHead x.f2) h0; omega⟩
  exact Ev.const rfl
theorem szQuery_of (x : S24) (hw : W24 x) (h : ∀ y ∈ x.f0, ∀ left : Int, 0 ≤ left → left ≤ 1048576 → Ev (fun k => laws_szComp.f k (y.f0) (y.f1.f0) (y.f1.f1) (y.f1.f2) (y.f1.f3.f0) (y.f1.f3.f1) (y.f1.f3.f2) (y.f1.f4) (y.f1.f5) (y.f2.f0) (y.f2.f1.f0) (y.f2.f1.f1) (y.f2.f1.f2) (y.f2.f1.f3.f0) (y.f2.f1.f3.f1) (y.f2.f1.f3.f2) (y.f2.f1.f4) (y.f2.f1.f5) (y.f2.f2) (y.f2.f3) (y.f2.f4.f0) left) (cut (wtComp y) left)) : ∀ left : Int, 0 ≤ left → left ≤ 1048576 → Ev (fun k => laws_szQuery.f k (x.f0) left) (cut (wtQuery x) left) := by
  intro left h0 hl
  refine Ev.up ?_
  simp only [laws_szQuery.f]
  rw [wtQuery_eq]
  have hb0 : (0 : Int) ≤ left ∧ left ≤ 1048576 := ⟨h0, hl⟩
  refine Ev.bind (szCompS_of x.f0 hw.1 h _ hb0.1 hb0.2) ?_
  by_cases hc0 : cut ((x.f0.length + wtCompS x.f0)) left < 0
  · refine Ev.pos hc0 (Ev.const ?_)
    have hn : cut ((x.f0.length + wtCompS x.f0)) left < 0 := hc0
    have hv := cut_neg.1 hn; unfold cut; rw [if_neg hv]
  refine Ev.neg hc0 ?_
  have hb1 : (0 : Int) ≤ cut ((x.f0.length + wtCompS x.f0)) left ∧ cut ((x.f0.length + wtCompS x.f0)) left ≤ 1048576 := ⟨by omega, by have := cut_le (n := (x.f0.length + wtCompS x.f0)) h0; omega⟩
  exact Ev.const rfl
theorem szHead_ev : ∀ x : S71, W71 x → ∀ left : Int, 0 ≤ left → left ≤ 1048576 → Ev (fun k => laws_szHead.f k (x.f0) (x.f1.f0) (x.f1.f1) (x.f1.f2) (x.f1.f3.f0) (x.f1.f3.f1) (x.f1.f3.f2) (x.f1.f4) (x.f1.f5) (x.f2) (x.f3) (x.f4.f0) left) (cut (wtHead x) left) := by
  refine indHeadL fun x ih ihq hw left h0 hl => ?_
  refine Ev.up ?_
  simp only [laws_szHead.f]
  rw [wtHead_eq]
  have hb0 : (0 : Int) ≤ left ∧ left ≤ 1048576 := ⟨h0, hl⟩
  refine Ev.bind (szTerm_ev x.f1 hw.p1 _ hb0.1 hb0.2) ?_
  by_cases hc0 : cut (wtTerm x.f1) left < 0
  · refine Ev.pos hc0 (Ev.const ?_)
    have hn : cut (wtTerm x.f1) left < 0 := hc0
    have hn : cut (wtTerm x.f1 + wts x.f2) left < 0 := by rw [cut_add' hn]; omega
    have hn : cut (wtTerm x.f1 + wts x.f2 + (x.f3.length + wtHeadS x.f3)) left < 0 := by rw [cut_add' hn]; omega
    have hn : cut (wtTerm x.f1 + wts x.f2 + (x.f3.length + wtHeadS x.f3) + wtQuery x.f4) left < 0 := by rw [cut_add' hn]; omega
    have hv := cut_neg.1 hn; unfold cut; rw [if_neg hv]
  refine Ev.neg hc0 ?_
  have hb1 : (0 : Int) ≤ cut (wtTerm x.f1) left ∧ cut (wtTerm x.f1) left ≤ 1048576 := ⟨by omega, by have := cut_le (n := wtTerm x.f1) h0; omega⟩
  refine Ev.bind (szStringS_ev x.f2 hw.p2 _ hb1.1 hb1.2) ?_
  by_cases hc1 : cut (wts x.f2) (cut (wtTerm x.f1) left) < 0
  · refine Ev.pos hc1 (Ev.const ?_)
    have hn : cut (wtTerm x.f1 + wts x.f2) left < 0 := by rw [← cut_add (by omega)]; exact hc1
    have hn : cut (wtTerm x.f1 + wts x.f2 + (x.f3.length + wtHeadS x.f3)) left < 0 := by rw [cut_add' hn]; omega
    have hn : cut (wtTerm x.f1 + wts x.f2 + (x.f3.length + wtHeadS x.f3) + wtQuery x.f4) left < 0 := by rw [cut_add' hn]; omega
    have hv := cut_neg.1 hn; unfold cut; rw [if_neg hv]
  refine Ev.neg hc1 ?_
  rw [cut_add (by omega)] at hc1 ⊢
  have hb2 : (0 : Int) ≤ cut (wtTerm x.f1 + wts x.f2) left ∧ cut (wtTerm x.f1 + wts x.f2) left ≤ 1048576 := ⟨by omega, by have := cut_le (n := wtTerm x.f1 + wts x.f2) h0; omega⟩
  refine Ev.bind (szHeadS_of x.f3 hw.p3.1 (fun y hy => ih y hy (hw.p3.2 y hy)) _ hb2.1 hb2.2) ?_
  by_cases hc2 : cut ((x.f3.length + wtHeadS x.f3)) (cut (wtTerm x.f1 + wts x.f2) left) < 0
  · refine Ev.pos hc2 (Ev.const ?_)
    have hn : cut (wtTerm x.f1 + wts x.f2 + (x.f3.length + wtHeadS x.f3)) left < 0 := by rw [← cut_add (by omega)]; exact hc2
    have hn : cut (wtTerm x.f1 + wts x.f2 + (x.f3.length + wtHeadS x.f3) + wtQuery x.f4) left < 0 := by rw [cut_add' hn]; omega
    have hv := cut_neg.1 hn; unfold cut; rw [if_neg hv]
  refine Ev.neg hc2 ?_
  rw [cut_add (by omega)] at hc2 ⊢
  have hb3 : (0 : Int) ≤ cut (wtTerm x.f1 + wts x.f2 + (x.f3.length + wtHeadS x.f3)) left ∧ cut (wtTerm x.f1 + wts x.f2 + (x.f3.length + wtHeadS x.f3)) left ≤ 1048576 := ⟨by omega, by have := cut_le (n := wtTerm x.f1 + wts x.f2 + (x.f3.length + wtHeadS x.f3)) h0; omega⟩
  refine Ev.bind (szQuery_of x.f4 hw.p4 (fun y hy => szComp_of y (hw.p4.2 y hy) (ihq y hy (hw.p4.2 y hy).2.2)) _ hb3.1 hb3.2) ?_
  by_cases hc3 : cut (wtQuery x.f4) (cut (wtTerm x.f1 + wts x.f2 + (x.f3.length + wtHeadS x.f3)) left) < 0
  · refine Ev.pos hc3 (Ev.const ?_)
    have hn : cut (wtTerm x.f1 + wts x.f2 + (x.f3.length + wtHeadS x.f3) + wtQuery x.f4) left < 0 := by rw [← cut_add (by omega)]; exact hc3
    have hv := cut_neg.1 hn; unfold cut; rw [if_neg hv]
  refine Ev.neg hc3 ?_
  rw [cut_add (by omega)] at hc3 ⊢
  have hb4 : (0 : Int) ≤ cut (wtTerm x.f1 + wts x.f2 + (x.f3.length + wtHeadS x.f3) + wtQuery x.f4) left ∧ cut (wtTerm x.f1 + wts x.f2 + (x.f3.length + wtHeadS x.f3) + wtQuery x.f4) left ≤ 1048576 := ⟨by omega, by have := cut_le (n := wtTerm x.f1 + wts x.f2 + (x.f3.length + wtHeadS x.f3) + wtQuery x.f4) h0; omega⟩
  exact Ev.const rfl
theorem szComp_ev (x : S73) (hw : W73 x) : ∀ left : Int, 0 ≤ left → left ≤ 1048576 → Ev (fun k => laws_szComp.f k (x.f0) (x.f1.f0) (x.f1.f1) (x.f1.f2) (x.f1.f3.f0) (x.f1.f3.f1) (x.f1.f3.f2) (x.f1.f4) (x.f1.f5) (x.f2.f0) (x.f2.f1.f0) (x.f2.f1.f1) (x.f2.f1.f2) (x.f2.f1.f3.f0) (x.f2.f1.f3.f1) (x.f2.f1.f3.f2) (x.f2.f1.f4) (x.f2.f1.f5) (x.f2.f2) (x.f2.f3) (x.f2.f4.f0) left) (cut (wtComp x) left) := szComp_of x hw (szHead_ev x.f2 hw.2.2)
theorem szQuery_ev (x : S24) (hw : W24 x) : ∀ left : Int, 0 ≤ left → left ≤ 1048576 → Ev (fun k => laws_szQuery.f k x.f0 left) (cut (wtQuery x) left) := szQuery_of x hw (fun y hy => szComp_ev y (hw.2 y hy))
theorem toComp_of (x : S73) (hw2 : wtComp x ≤ 1048576) (h : wtHead x.f2 ≤ 1048576 → Ev (fun k => laws_toHead.f k (x.f2.f0) (x.f2.f1.f0) (x.f2.f1.f1) (x.f2.f1.f2) (x.f2.f1.f3.f0) (x.f2.f1.f3.f1) (x.f2.f1.f3.f2) (x.f2.f1.f4) (x.f2.f1.f5) (x.f2.f2) (x.f2.f3) (x.f2.f4.f0)) ((cvHead x.f2).f0, (cvHead x.f2).f1.f0, (cvHead x.f2).f1.f1, (cvHead x.f2).f1.f2, (cvHead x.f2).f1.f3.f0, (cvHead x.f2).f1.f3.f1, (cvHead x.f2).f1.f3.f2, (cvHead x.f2).f1.f4, (cvHead x.f2).f1.f5, (cvHead x.f2).f2, (cvHead x.f2).f3, (cvHead x.f2).f4.f0)) : Ev (fun k => laws_toComp.f k (x.f0) (x.f1.f0) (x.f1.f1) (x.f1.f2) (x.f1.f3.f0) (x.f1.f3.f1) (x.f1.f3.f2) (x.f1.f4) (x.f1.f5) (x.f2.f0) (x.f2.f1.f0) (x.f2.f1.f1) (x.f2.f1.f2) (x.f2.f1.f3.f0) (x.f2.f1.f3.f1) (x.f2.f1.f3.f2) (x.f2.f1.f4) (x.f2.f1.f5) (x.f2.f2) (x.f2.f3) (x.f2.f4.f0)) ((cvComp x).f0, (cvComp x).f1.f0, (cvComp x).f1.f1, (cvComp x).f1.f2, (cvComp x).f1.f3.f0, (cvComp x).f1.f3.f1, (cvComp x).f1.f3.f2, (cvComp x).f1.f4, (cvComp x).f1.f5, (cvComp x).f2.f0, (cvComp x).f2.f1.f0, (cvComp x).f2.f1.f1, (cvComp x).f2.f1.f2, (cvComp x).f2.f1.f3.f0, (cvComp x).f2.f1.f3.f1, (cvComp x).f2.f1.f3.f2, (cvComp x).f2.f1.f4, (cvComp x).f2.f1.f5, (cvComp x).f2.f2, (cvComp x).f2.f3, (cvComp x).f2.f4.f0) := by
  refine Ev.up ?_
  simp only [laws_toComp.f]
  have hb := hw2
  rw [wtComp_eq] at hb
  refine Ev.bind (toGenS_of x.f0 (by omega) (fun y hy => toGen_ev y (by have := sum_le_of_mem wtGen hy; rw [← wtGenS_sum] at this; omega))) ?_
  refine Ev.bind (toTerm_ev x.f1 (by omega)) ?_
  refine Ev.bind (h (by omega)) ?_
  exact Ev.const (by rw [cvComp_eq])
theorem toQuery_of (x : S24) (hw2 : wtQuery x ≤ 1048576) (h : ∀ y ∈ x.f0, wtComp y ≤ 1048576 → Ev (fun k => laws_toComp.f k (y.f0) (y.f1.f0) (y.f1.f1) (y.f1.f2) (y.f1.f3.f0) (y.f1.f3.f1) (y.f1.f3.f2) (y.f1.f4) (y.f1.f5) (y.f2.f0) (y.f2.f1.f0) (y.f2.f1.f1) (y.f2.f1.f2) (y.f2.f1.f3.f0) (y.f2.f1.f3.f1) (y.f2.f1.f3.f2) (y.f2.f1.f4) (y.f2.f1.f5) (y.f2.f2) (y.f2.f3) (y.f2.f4.f0)) ((cvComp y).f0, (cvComp y).f1.f0, (cvComp y).f1.f1, (cvComp y).f1.f2, (cvComp y).f1.f3.f0, (cvComp y).f1.f3.f1, (cvComp y).f1.f3.f2, (cvComp y).f1.f4, (cvComp y).f1.f5, (cvComp y).f2.f0, (cvComp y).f2.f1.f0, (cvComp y).f2.f1.f1, (cvComp y).f2.f1.f2, (cvComp y).f2.f1.f3.f0, (cvComp y).f2.f1.f3.f1, (cvComp y).f2.f1.f3.f2, (cvComp y).f2.f1.f4, (cvComp y).f2.f1.f5, (cvComp y).f2.f2, (cvComp y).f2.f3, (cvComp y).f2.f4.f0)) : Ev (fun k => laws_toQuery.f k (x.f0)) (cvQuery x).f0 := by
  refine Ev.up ?_
  simp only [laws_toQuery.f]
  have hb := hw2
  rw [wtQuery_eq] at hb
  refine Ev.bind (toCompS_of x.f0 (by omega) (fun y hy => h y hy (by have := sum_le_of_mem wtComp hy; rw [← wtCompS_sum] at this; omega))) ?_
  exact Ev.const (by rw [cvQuery_eq])
theorem toHead_ev : ∀ x : S71, wtHead x ≤ 1048576 → Ev (fun k => laws_toHead.f k (x.f0) (x.f1.f0) (x.f1.f1) (x.f1.f2) (x.f1.f3.f0) (x.f1.f3.f1) (x.f1.f3.f2) (x.f1.f4) (x.f1.f5) (x.f2) (x.f3) (x.f4.f0)) ((cvHead x).f0, (cvHead x).f1.f0, (cvHead x).f1.f1, (cvHead x).f1.f2, (cvHead x).f1.f3.f0, (cvHead x).f1.f3.f1, (cvHead x).f1.f3.f2, (cvHead x).f1.f4, (cvHead x).f1.f5, (cvHead x).f2, (cvHead x).f3, (cvHead x).f4.f0) := by
  refine indHeadL fun x ih ihq hw2 => ?_
  refine Ev.up ?_
  simp only [laws_toHead.f]
  have hb := hw2
  rw [wtHead_eq] at hb
  refine Ev.bind (toTerm_ev x.f1 (by omega)) ?_
  refine Ev.bind (toStringS_ev x.f2 (by unfold wts at hb; omega)) ?_
  refine Ev.bind (toHeadS_of x.f3 (by omega) (fun y hy => ih y hy (by have := sum_le_of_mem wtHead hy; rw [← wtHeadS_sum] at this; omega))) ?_
  refine Ev.bind (toQuery_of x.f4 (by omega) (fun y hy hwy => toComp_of y hwy (ihq y hy))) ?_
  exact Ev.const (by rw [cvHead_eq])
theorem toComp_ev (x : S73) (hw2 : wtComp x ≤ 1048576) : Ev (fun k => laws_toComp.f k (x.f0) (x.f1.f0) (x.f1.f1) (x.f1.f2) (x.f1.f3.f0) (x.f1.f3.f1) (x.f1.f3.f2) (x.f1.f4) (x.f1.f5) (x.f2.f0) (x.f2.f1.f0) (x.f2.f1.f1) (x.f2.f1.f2) (x.f2.f1.f3.f0) (x.f2.f1.f3.f1) (x.f2.f1.f3.f2) (x.f2.f1.f4) (x.f2.f1.f5) (x.f2.f2) (x.f2.f3) (x.f2.f4.f0)) ((cvComp x).f0, (cvComp x).f1.f0, (cvComp x).f1.f1, (cvComp x).f1.f2, (cvComp x).f1.f3.f0, (cvComp x).f1.f3.f1, (cvComp x).f1.f3.f2, (cvComp x).f1.f4, (cvComp x).f1.f5, (cvComp x).f2.f0, (cvComp x).f2.f1.f0, (cvComp x).f2.f1.f1, (cvComp x).f2.f1.f2, (cvComp x).f2.f1.f3.f0, (cvComp x).f2.f1.f3.f1, (cvComp x).f2.f1.f3.f2, (cvComp x).f2.f1.f4, (cvComp x).f2.f1.f5, (cvComp x).f2.f2, (cvComp x).f2.f3, (cvComp x).f2.f4.f0) := toComp_of x hw2 (toHead_ev x.f2)
theorem toQuery_ev (x : S24) (hw2 : wtQuery x ≤ 1048576) : Ev (fun k => laws_toQuery.f k x.f0) (cvQuery x).f0 := toQuery_of x hw2 (fun y _ hwy => toComp_ev y hwy)
theorem eqComp_of (x : S49) (hs : SmComp x) (h : Ev (fun k => laws_eqHead.f k (x.f2.f0) (x.f2.f1.f0) (x.f2.f1.f1) (x.f2.f1.f2) (x.f2.f1.f3.f0) (x.f2.f1.f3.f1) (x.f2.f1.f3.f2) (x.f2.f1.f4) (x.f2.f1.f5) (x.f2.f2) (x.f2.f3) (x.f2.f4.f0) (x.f2.f0) (x.f2.f1.f0) (x.f2.f1.f1) (x.f2.f1.f2) (x.f2.f1.f3.f0) (x.f2.f1.f3.f1) (x.f2.f1.f3.f2) (x.f2.f1.f4) (x.f2.f1.f5) (x.f2.f2) (x.f2.f3) (x.f2.f4.f0)) true) : Ev (fun k => laws_eqComp.f k (x.f0) (x.f1.f0) (x.f1.f1) (x.f1.f2) (x.f1.f3.f0) (x.f1.f3.f1) (x.f1.f3.f2) (x.f1.f4) (x.f1.f5) (x.f2.f0) (x.f2.f1.f0) (x.f2.f1.f1) (x.f2.f1.f2) (x.f2.f1.f3.f0) (x.f2.f1.f3.f1) (x.f2.f1.f3.f2) (x.f2.f1.f4) (x.f2.f1.f5) (x.f2.f2) (x.f2.f3) (x.f2.f4.f0) (x.f0) (x.f1.f0) (x.f1.f1) (x.f1.f2) (x.f1.f3.f0) (x.f1.f3.f1) (x.f1.f3.f2) (x.f1.f4) (x.f1.f5) (x.f2.f0) (x.f2.f1.f0) (x.f2.f1.f1) (x.f2.f1.f2) (x.f2.f1.f3.f0) (x.f2.f1.f3.f1) (x.f2.f1.f3.f2) (x.f2.f1.f4) (x.f2.f1.f5) (x.f2.f2) (x.f2.f3) (x.f2.f4.f0)) true := by
  refine Ev.up ?_
  simp only [laws_eqComp.f]
  refine Ev.bind (eqGenS_of x.f0 hs.p0.1 (fun y hy => eqGen_ev y (hs.p0.2 y hy))) (Ev.pos (by simp) ?_)
  refine Ev.bind (eqTerm_ev x.f1 hs.p1) (Ev.pos (by simp) ?_)
  refine Ev.bind (h) (Ev.pos (by simp) ?_)
  exact Ev.now _
theorem eqQuery_of (x : S29) (hs : SmQuery x) (h : ∀ y ∈ x.f0, Ev (fun k => laws_eqComp.f k (y.f0) (y.f1.f0) (y.f1.f1) (y.f1.f2) (y.f1.f3.f0) (y.f1.f3.f1) (y.f1.f3.f2) (y.f1.f4) (y.f1.f5) (y.f2.f0) (y.f2.f1.f0) (y.f2.f1.f1) (y.f2.f1.f2) (y.f2.f1.f3.f0) (y.f2.f1.f3.f1) (y.f2.f1.f3.f2) (y.f2.f1.f4) (y.f2.f1.f5) (y.f2.f2) (y.f2.f3) (y.f2.f4.f0) (y.f0) (y.f1.f0) (y.f1.f1) (y.f1.f2) (y.f1.f3.f0) (y.f1.f3.f1) (y.f1.f3.f2) (y.f1.f4) (y.f1.f5) (y.f2.f0) (y.f2.f1.f0) (y.f2.f1.f1) (y.f2.f1.f2) (y.f2.f1.f3.f0) (y.f2.f1.f3.f1) (y.f2.f1.f3.f2) (y.f2.f1.f4) (y.f2.f1.f5) (y.f2.f2) (y.f2.f3) (y.f2.f4.f0)) true) : Ev (fun k => laws_eqQuery.f k (x.f0) (x.f0)) true := by
  refine Ev.up ?_
  simp only [laws_eqQuery.f]
  refine Ev.bind (eqCompS_of x.f0 hs.p0.1 h) (Ev.pos (by simp) ?_)
  exact Ev.now _
theorem eqHead_ev : ∀ x : S47, SmHead x → Ev (fun k => laws_eqHead.f k (x.f0) (x.f1.f0) (x.f1.f1) (x.f1.f2) (x.f1.f3.f0) (x.f1.f3.f1) (x.f1.f3.f2) (x.f1.f4) (x.f1.f5) (x.f2) (x.f3) (x.f4.f0) (x.f0) (x.f1.f0) (x.f1.f1) (x.f1.f2) (x.f1.f3.f0) (x.f1.f3.f1) (x.f1.f3.f2) (x.f1.f4) (x.f1.f5) (x.f2) (x.f3) (x.f4.f0)) true := by
  refine indHeadI fun x ih ihq hs => ?_
  refine Ev.up ?_
  simp only [laws_eqHead.f]
  refine Ev.pos (by simp) ?_
  refine Ev.bind (eqTerm_ev x.f1 hs.p1) (Ev.pos (by simp) ?_)
  refine Ev.bind (eqStringS_ev x.f2 hs.p2.1) (Ev.pos (by simp) ?_)
  refine Ev.bind (eqHeadS_of x.f3 hs.p3.1 (fun y hy => ih y hy (hs.p3.2 y hy))) (Ev.pos (by simp) ?_)
  refine Ev.bind (eqQuery_of x.f4 hs.p4 (fun y hy => eqComp_of y (hs.p4.2 y hy) (ihq y hy (hs.p4.2 y hy).2.2))) (Ev.pos (by simp) ?_)
  exact Ev.now _
theorem eqComp_ev (x : S49) (hs : SmComp x) : Ev (fun k => laws_eqComp.f k (x.f0) (x.f1.f0) (x.f1.f1) (x.f1.f2) (x.f1.f3.f0) (x.f1.f3.f1) (x.f1.f3.f2) (x.f1.f4) (x.f1.f5) (x.f2.f0) (x.f2.f1.f0) (x.f2.f1.f1) (x.f2.f1.f2) (x.f2.f1.f3.f0) (x.f2.f1.f3.f1) (x.f2.f1.f3.f2) (x.f2.f1.f4) (x.f2.f1.f5) (x.f2.f2) (x.f2.f3) (x.f2.f4.f0) (x.f0) (x.f1.f0) (x.f1.f1) (x.f1.f2) (x.f1.f3.f0) (x.f1.f3.f1) (x.f1.f3.f2) (x.f1.f4) (x.f1.f5) (x.f2.f0) (x.f2.f1.f0) (x.f2.f1.f1) (x.f2.f1.f2) (x.f2.f1.f3.f0) (x.f2.f1.f3.f1) (x.f2.f1.f3.f2) (x.f2.f1.f4) (x.f2.f1.f5) (x.f2.f2) (x.f2.f3) (x.f2.f4.f0)) true := eqComp_of x hs (eqHead_ev x.f2 hs.2.2)
theorem eqQuery_ev (x : S29) (hs : SmQuery x) : Ev (fun k => laws_eqQuery.f k x.f0 x.f0) true := eqQuery_of x hs (fun y hy => eqComp_ev y (hs.2 y hy))
end Go.Proofs.Ytpkppeicceehcaa.Px
end
section
namespace Go.Proofs.Ytpkppeicceehcaa.Px
open Go.RowKit Go.Proofs.YtpkppeicceehcaaW.PrintWords Go.Proofs.YtpkppeicceehcaaW.PrintLast Go.Proofs.YtpkppeicceehcaaW.PrintMore Go.Proofs.Ytpkppeicceehcaa.Pl Go.Proofs.Ytpkppeicceehcaa.Ext
set_option linter.unusedVariables false
set_option linter.unusedSimpArgs false
def laws_FnExactDepthOfQuery.T10 : Bool × List (List Nat × List Nat) := (true, [([], []), ([], []), ([1], [1]), ([0, 2, 2], [0, 2]), ([3], [3])])
def laws_FnExactDepthOfQuery.B10 : List Nat := [0, 0, 2, 7, 15]
theorem laws_FnExactDepthOfQuery.tab10 : rtab .any (opsOf Try.f4 10) = laws_FnExactDepthOfQuery.T10 := by kernel_rfl
theorem laws_FnExactDepthOfQuery.bits10 : waitsOk laws_FnExactDepthOfQuery.T10.2 laws_FnExactDepthOfQuery.B10 = true := by kernel_rfl
set_option maxHeartbeats 8000000 in
set_option maxRecDepth 100000 in
theorem FnExactDepthOfQuery_walk (x0 : S24) {left vC : Int} {t0 : List S49} (hl : decide (left < 0) = false)
    (p0 : ∃ k, laws_szQuery.f k x0.f0 1048576 = some left)
    (p1 : ∃ k, laws_toQuery.f k x0.f0 = some t0)
    (p2 : ∃ k, spec_DepthOfQuery.f k t0 = some vC)
    (p3 : ∃ k, impl_DepthOfQuery.f k t0 = some vC)
    (p4 : ∃ k, laws_eqQuery.f k t0 t0 = some true)
    (W : World) {Ax0_0 : Option Addr} {cx0_0 : Nat} (HRx0_0 : Kd.C k73 W Ax0_0 x0.f0.length x0.f0) (HCx0_0 : x0.f0.length ≤ cx0_0) :
    Calls Try.prog 4 #[.agg #[.slice Ax0_0 x0.f0.length cx0_0]] W fun e w' => e = .returned (.bool true) ∧ Below W.heap.size W w' := by
  replace HRx0_0 := Aside0.mk HRx0_0
  replace HCx0_0 := Aside0.mk HCx0_0
  have HB0 := Aside0.mk (Below.refl W.heap.size W)
  go_enter Try.func4, Try.ntmps4
  go_upto_region 10 with (first
    | ((with_reducible refine gate_dst (N := 1) rfl ?_)
       refine box_event ?hg (N := 1) ?hd (cs := #[.slice Ax0_0 x0.f0.length cx0_0]) (t := 24) ?hr ?_; (case hd => rfl); (case hg => rfl); (case hr => first | (go_simp; done) | (go_simp; rfl))
       intro gb1_2 hg w1 hbox hb
       replace HB0 := Aside0.mk (below_step HB0.out hb)
       have HB3 := Aside0.mk (Below.refl w1.heap.size w1)
       have BK1_2 := Aside0.mk hbox
       clear hbox hg hb
       have hx1_0 : w1.cell? ⟨gb1_2, 0, none⟩ = some (.slice Ax0_0 x0.f0.length cx0_0) := (blk_cell (blk_below BK1_2.out HB3.out) 0).trans rfl)
    | ((with_reducible refine gate_callee (f := 6) rfl ?_)
       refine goesL_ (some 9) rfl rfl Try.func6 (by kernel_rfl) rfl #[.agg #[.slice Ax0_0 x0.f0.length cx0_0], .int .i64 1048576] rfl (by (try simp only [List.map_toArray, List.map_cons, List.map_nil]); first | done | rfl | (simp only [List.length_drop, List.length_take]; rfl)) ?_
       have hh := p0
       obtain ⟨k4, e4⟩ := hh
       (with_reducible refine (laws_szQuery.calls k4 _ _ x0.f0 1048576 left _ (Kd.C_below HRx0_0.out HB0.out) HCx0_0.out e4).mono ?_)
       rintro e w5 ⟨rfl, hb⟩
       refine ⟨_, rfl, ?_⟩
       clear e4
       clear hx1_0
       replace HB0 := Aside0.mk (below_step HB0.out hb)
       replace HB3 := Aside0.mk (below_step HB3.out hb)
       clear hb
       have hx1_0 : w5.cell? ⟨gb1_2, 0, none⟩ = some (.slice Ax0_0 x0.f0.length cx0_0) := (blk_cell (blk_below BK1_2.out HB3.out) 0).trans rfl)
    | ((with_reducible refine gate_callee (f := 8) rfl ?_)
       refine goesL_ (some 13) rfl rfl Try.func8 (by kernel_rfl) rfl #[.agg #[.slice Ax0_0 x0.f0.length cx0_0]] rfl (by (try simp only [List.map_toArray, List.map_cons, List.map_nil]); first | done | rfl | (simp only [List.length_drop, List.length_take]; rfl)) ?_
       have hh := p1
       obtain ⟨k6, e6⟩ := hh
       (with_reducible refine (laws_toQuery.calls k6 _ _ x0.f0 t0 _ (Kd.C_below HRx0_0.out HB0.out) HCx0_0.out e6).mono ?_)
       rintro e w7 ⟨v6_0, rfl, ho6_0, hb⟩
       refine ⟨_, rfl, ?_⟩
       clear e6
       clear hx1_0
       replace HB0 := Aside0.mk (below_step HB0.out hb)
       replace HB3 := Aside0.mk (below_step HB3.out hb)
       clear hb
       have HB8 := Aside0.mk (Below.refl w7.heap.size w7)
       obtain ⟨A6_0, c6_0, ev_⟩ := Kd.R_slice ho6_0
       subst ev_
       have HR6_0 := Aside0.mk (Kd.R_reads' ho6_0).2.2
       have HC6_0 := Aside0.mk (Kd.R_reads' ho6_0).2.1
       clear ho6_0)
    | ((with_reducible refine gate_callee (f := 11) rfl ?_)
       refine goesL_ (some 14) rfl rfl Try.func11 (by kernel_rfl) rfl #[.agg #[.slice A6_0 t0.length c6_0]] rfl (by (try simp only [List.map_toArray, List.map_cons, List.map_nil]); first | done | rfl | (simp only [List.length_drop, List.length_take]; rfl)) ?_
       have hh := p2
       obtain ⟨k9, e9⟩ := hh
       (with_reducible refine (spec_DepthOfQuery.calls k9 _ _ t0 vC _ (Kd.C_below HR6_0.out HB8.out) HC6_0.out e9).mono ?_)
       rintro e w10 ⟨rfl, hb⟩
       refine ⟨_, rfl, ?_⟩
       clear e9
       replace HB0 := Aside0.mk (below_step HB0.out hb)
       replace HB3 := Aside0.mk (below_step HB3.out hb)
       replace HB8 := Aside0.mk (below_step HB8.out hb)
       clear hb
       have hx1_0 : w10.cell? ⟨gb1_2, 0, none⟩ = some (.slice Ax0_0 x0.f0.length cx0_0) := (blk_cell (blk_below BK1_2.out HB3.out) 0).trans rfl)
    | ((with_reducible refine gate_callee (f := 8) rfl ?_)
       refine goesL_ (some 16) rfl rfl Try.func8 (by kernel_rfl) rfl #[.agg #[.slice Ax0_0 x0.f0.length cx0_0]] rfl (by (try simp only [List.map_toArray, List.map_cons, List.map_nil]); first | done | rfl | (simp only [List.length_drop, List.length_take]; rfl)) ?_
       have hh := p1
       obtain ⟨k11, e11⟩ := hh
       (with_reducible refine (laws_toQuery.calls k11 _ _ x0.f0 t0 _ (Kd.C_below HRx0_0.out HB0.out) HCx0_0.out e11).mono ?_)
       rintro e w12 ⟨v11_0, rfl, ho11_0, hb⟩
       refine ⟨_, rfl, ?_⟩
       clear e11
       clear hx1_0
       replace HB0 := Aside0.mk (below_step HB0.out hb)
       replace HB3 := Aside0.mk (below_step HB3.out hb)
       replace HB8 := Aside0.mk (below_step HB8.out hb)
       clear hb
       have HB13 := Aside0.mk (Below.refl w12.heap.size w12)
       obtain ⟨A11_0, c11_0, ev_⟩ := Kd.R_slice ho11_0
       subst ev_
       have HR11_0 := Aside0.mk (Kd.R_reads' ho11_0).2.2
       have HC11_0 := Aside0.mk (Kd.R_reads' ho11_0).2.1
       clear ho11_0)
    | ((with_reducible refine gate_dst (N := 5) rfl ?_)
       refine box_event ?hg (N := 5) ?hd (cs := #[.slice none 0 0]) (t := 29) ?hr ?_; (case hd => rfl); (case hg => rfl); (case hr => first | (go_simp; done) | (go_simp; rfl))
       intro gb5_15 hg w14 hbox hbA
       have HBA := Aside0.mk hbA
       have HGgb5_15 := Aside0.mk (show w12.heap.size ≤ gb5_15 by rw [hg]; exact Nat.le_refl _)
       have HXgb5_15 := Aside0.mk hbox
       clear hbA hg hbox
       have hx5_0 : w14.cell? ⟨gb5_15, 0, none⟩ = some (.slice none 0 0) := (blk_cell HXgb5_15.out 0).trans rfl
       have hf5_0 := blk_frozen HXgb5_15.out 0)
    | ((with_reducible refine gate_store (t := 29) (p := 5) rfl ?_)
       refine store_event (t := 29) (p := 5) (v := ?vo_w16) (w1 := (w14.setCell ⟨gb5_15, 0, none⟩ (.slice A11_0 t0.length c11_0))) ?hg ?ho ?hn ?hr ?_; (case ho => rfl); (case hg => rfl); (case hn => rfl); (case hr => first | (go_simp; done) | (go_simp; rfl)); intro w16 hw
       replace HBA := Aside0.mk (show Below w12.heap.size w12 w16 by rw [hw]; exact below_set (HBA.out) HGgb5_15.out)
       replace HXgb5_15 := Aside0.mk (show w16.heap[gb5_15]? = some (.cells #[.slice A11_0 t0.length c11_0] 29 (0, 0)) by rw [hw]; exact blk_put (cs := #[.slice none 0 0]) (HXgb5_15.out) 0 (.slice A11_0 t0.length c11_0) rfl)
       clear hw hx5_0 hf5_0
       have hb := HBA.out
       replace HB0 := Aside0.mk (below_step HB0.out hb)
       replace HB3 := Aside0.mk (below_step HB3.out hb)
       replace HB8 := Aside0.mk (below_step HB8.out hb)
       replace HB13 := Aside0.mk (below_step HB13.out hb)
       have HB17 := Aside0.mk (Below.refl w16.heap.size w16)
       replace HR11_0 := Aside0.mk (Kd.C_below HR11_0.out hb)
       clear HB13
       have BK5_15 := HXgb5_15
       clear HXgb5_15 HGgb5_15
       clear HBA hb
       have hx5_0 : w16.cell? ⟨gb5_15, 0, none⟩ = some (.slice A11_0 t0.length c11_0) := (blk_cell (blk_below BK5_15.out HB17.out) 0).trans rfl)
    | ((with_reducible refine gate_callee (f := 12) rfl ?_)
       refine goesL_ (some 18) rfl rfl Try.func12 (by kernel_rfl) rfl #[.agg #[.slice A11_0 t0.length c11_0]] rfl (by (try simp only [List.map_toArray, List.map_cons, List.map_nil]); first | done | rfl | (simp only [List.length_drop, List.length_take]; rfl)) ?_
       have hh := p3
       obtain ⟨k18, e18⟩ := hh
       (with_reducible refine (impl_DepthOfQuery.calls k18 _ _ t0 vC _ (Kd.C_below HR11_0.out HB17.out) HC11_0.out e18).mono ?_)
       rintro e w19 ⟨rfl, hb⟩
       refine ⟨_, rfl, ?_⟩
       clear e18
       clear hx5_0
       replace HB0 := Aside0.mk (below_step HB0.out hb)
       replace HB3 := Aside0.mk (below_step HB3.out hb)
       replace HB8 := Aside0.mk (below_step HB8.out hb)
       replace HB17 := Aside0.mk (below_step HB17.out hb)
       clear hb))
  replace HB0 := Aside0.mk (below_drew1 HB0.out)
  replace HB3 := Aside0.mk (below_drew1 HB3.out)
  replace HB8 := Aside0.mk (below_drew1 HB8.out)
  replace HB17 := Aside0.mk (below_drew1 HB17.out)
  refine start_ (n := 5) (S := fun w' => w'.cell? ⟨gb5_15, 0, none⟩ = some (.slice A11_0 t0.length c11_0) ∧ w'.cell? ⟨gb1_2, 0, none⟩ = some (.slice Ax0_0 x0.f0.length cx0_0)) (ds := []) #[false, false, false, false, false] (by kernel_rfl) rfl rfl ⟨(blk_cell (blk_below BK5_15.out HB17.out) 0).trans rfl, (blk_cell (blk_below BK1_2.out HB3.out) 0).trans rfl⟩ (fun hHeld => ?_); refine with_tabW laws_FnExactDepthOfQuery.tab10 laws_FnExactDepthOfQuery.bits10 (fun HT_ HW_ => ?_)
  generalize w19.drew = w20 at HB0 HB3 HB8 HB17 hHeld ⊢
  refine take_ (i := 0) (N := some 22) (v := ?_) (a' := ?_) #[true, false, false, false, false] rfl rfl (take_ofW HT_.out HW_.out (by kernel_rfl)) (fun _ _ _ h => h) (Or.inl ⟨by rfl, ?_⟩) hHeld ?_ ?_
  rotate_left
  · rintro w' ⟨s0, s1⟩
    go_simp
    with_reducible rfl
  rotate_left
  · simp only [Act.put, List.setIfInBounds_toArray, List.set_cons_zero, List.set_cons_succ, i64_w, i32_w]
    rfl
  refine take_ (i := 1) (N := some 23) (v := ?_) (a' := ?_) #[true, true, false, false, false] rfl rfl (take_ofW HT_.out HW_.out (by kernel_rfl)) (fun _ _ _ h => h) (Or.inl ⟨by rfl, ?_⟩) hHeld ?_ ?_
  rotate_left
  · rintro w' ⟨s0, s1⟩
    go_simp
    with_reducible rfl
  rotate_left
  · simp only [Act.put, List.setIfInBounds_toArray, List.set_cons_zero, List.set_cons_succ, i64_w, i32_w]
    rfl
  refine one_ (i := 2) (N := some 24) #[true, true, true, false, false] rfl rfl (one_of HT_.out (by kernel_rfl)) (by decide) (fun K hK => ?_)
  refine goes_ Try.func8 (by kernel_rfl) rfl #[.agg #[.slice Ax0_0 x0.f0.length cx0_0]] (by rfl) rfl rfl (by (try simp only [List.map_toArray, List.map_cons, List.map_nil]); first | done | rfl | (simp only [List.length_drop, List.length_take]; rfl)) ?_
  have hh := p1
  obtain ⟨k21, e21⟩ := hh
  (with_reducible refine (laws_toQuery.calls k21 _ _ x0.f0 t0 _ (Kd.C_below HRx0_0.out HB0.out) HCx0_0.out e21).mono ?_)
  rintro e w22 ⟨v21_0, rfl, ho21_0, hb⟩
  refine ⟨_, rfl, ?_⟩
  clear e21
  replace HB0 := Aside0.mk (below_step HB0.out hb)
  replace HB3 := Aside0.mk (below_step HB3.out hb)
  replace HB8 := Aside0.mk (below_step HB8.out hb)
  replace HB17 := Aside0.mk (below_step HB17.out hb)
  clear hb
  have HB23 := Aside0.mk (Below.refl w22.heap.size w22)
  obtain ⟨A21_0, c21_0, ev_⟩ := Kd.R_slice ho21_0
  subst ev_
  have HR21_0 := Aside0.mk (Kd.R_reads' ho21_0).2.2
  have HC21_0 := Aside0.mk (Kd.R_reads' ho21_0).2.1
  clear ho21_0
  refine hK.out _ _ ⟨(blk_cell (blk_below BK5_15.out HB17.out) 0).trans rfl, (blk_cell (blk_below BK1_2.out HB3.out) 0).trans rfl⟩ (fun hHeld => ?_)
  clear hK K
  refine norm_ (a' := ?_) ?_ ?_
  rotate_left
  · show Act.put _ (some 24) _ = _
    simp only [Act.put, List.setIfInBounds_toArray, List.set_cons_zero, List.set_cons_succ, i64_w, i32_w]
    rfl
  refine one_ (i := 3) (N := some 25) #[true, true, true, true, false] rfl rfl (one_of HT_.out (by kernel_rfl)) (by decide) (fun K hK => ?_)
  refine goes_ Try.func10 (by kernel_rfl) rfl #[.agg #[.slice A11_0 t0.length c11_0], .agg #[.slice A21_0 t0.length c21_0]] (by rfl) rfl rfl (by (try simp only [List.map_toArray, List.map_cons, List.map_nil]); first | done | rfl | (simp only [List.length_drop, List.length_take]; rfl)) ?_
  have hh := p4
  obtain ⟨k24, e24⟩ := hh
  (with_reducible refine (laws_eqQuery.calls k24 _ _ t0 _ _ t0 true _ (Kd.C_below HR11_0.out HB17.out) HC11_0.out (Kd.C_below HR21_0.out HB23.out) HC21_0.out e24).mono ?_)
  rintro e w25 ⟨rfl, hb⟩
  refine ⟨_, rfl, ?_⟩
  clear e24
  replace HB0 := Aside0.mk (below_step HB0.out hb)
  replace HB3 := Aside0.mk (below_step HB3.out hb)
  replace HB8 := Aside0.mk (below_step HB8.out hb)
  replace HB17 := Aside0.mk (below_step HB17.out hb)
  replace HB23 := Aside0.mk (below_step HB23.out hb)
  clear hb
  refine hK.out _ _ ⟨(blk_cell (blk_below BK5_15.out HB17.out) 0).trans rfl, (blk_cell (blk_below BK1_2.out HB3.out) 0).trans rfl⟩ (fun hHeld => ?_)
  clear hK K
  refine norm_ (a' := ?_) ?_ ?_
  rotate_left
  · show Act.put _ (some 25) _ = _
    simp only [Act.put, List.setIfInBounds_toArray, List.set_cons_zero, List.set_cons_succ, i64_w, i32_w]
    rfl
  refine pure_ (i := 4) (N := some 26) (v := ?_) (a' := ?_) #[true, true, true, true, true] rfl rfl (any_of HT_.out (by kernel_rfl)) (fun _ _ _ h => h) (Or.inl ⟨by rfl, ?_⟩) ?_ ?_
  rotate_left
  · intro w'
    go_simp
    with_reducible rfl
  rotate_left
  · simp only [Act.put, List.setIfInBounds_toArray, List.set_cons_zero, List.set_cons_succ, i64_w, i32_w]
    rfl
  refine done_ (done_of HT_.out (by kernel_rfl)) ?_
  clear hHeld HT_ HW_
  go_wp2
  go_ret
  exact ⟨rfl, HB0.out⟩
set_option maxHeartbeats 8000000 in
set_option maxRecDepth 100000 in
theorem FnExactDepthOfQuery_stop (x0 : S24) {left : Int} (hl : decide (left < 0) = true)
    (p0 : ∃ k, laws_szQuery.f k x0.f0 1048576 = some left)
    (W : World) {Ax0_0 : Option Addr} {cx0_0 : Nat} (HRx0_0 : Kd.C k73 W Ax0_0 x0.f0.length x0.f0) (HCx0_0 : x0.f0.length ≤ cx0_0) :
    Calls Try.prog 4 #[.agg #[.slice Ax0_0 x0.f0.length cx0_0]] W fun e w' => e = .returned (.bool true) ∧ Below W.heap.size W w' := by
  replace HRx0_0 := Aside0.mk HRx0_0
  replace HCx0_0 := Aside0.mk HCx0_0
  have HB0 := Aside0.mk (Below.refl W.heap.size W)
  go_enter Try.func4, Try.ntmps4
  go_wp2_with (first
    | ((with_reducible refine gate_dst (N := 1) rfl ?_)
       refine box_event ?hg (N := 1) ?hd (cs := #[.slice Ax0_0 x0.f0.length cx0_0]) (t := 24) ?hr ?_; (case hd => rfl); (case hg => rfl); (case hr => first | (go_simp; done) | (go_simp; rfl))
       intro gb1_2 hg w1 hbox hb
       replace HB0 := Aside0.mk (below_step HB0.out hb)
       have HB3 := Aside0.mk (Below.refl w1.heap.size w1)
       have BK1_2 := Aside0.mk hbox
       clear hbox hg hb
       have hx1_0 : w1.cell? ⟨gb1_2, 0, none⟩ = some (.slice Ax0_0 x0.f0.length cx0_0) := (blk_cell (blk_below BK1_2.out HB3.out) 0).trans rfl)
    | ((with_reducible refine gate_callee (f := 6) rfl ?_)
       refine goesL_ (some 9) rfl rfl Try.func6 (by kernel_rfl) rfl #[.agg #[.slice Ax0_0 x0.f0.length cx0_0], .int .i64 1048576] rfl (by (try simp only [List.map_toArray, List.map_cons, List.map_nil]); first | done | rfl | (simp only [List.length_drop, List.length_take]; rfl)) ?_
       have hh := p0
       obtain ⟨k4, e4⟩ := hh
       (with_reducible refine (laws_szQuery.calls k4 _ _ x0.f0 1048576 left _ (Kd.C_below HRx0_0.out HB0.out) HCx0_0.out e4).mono ?_)
       rintro e w5 ⟨rfl, hb⟩
       refine ⟨_, rfl, ?_⟩
       clear e4
       clear hx1_0
       replace HB0 := Aside0.mk (below_step HB0.out hb)
       replace HB3 := Aside0.mk (below_step HB3.out hb)
       clear hb))
  go_ret
  exact ⟨rfl, HB0.out⟩
end Go.Proofs.Ytpkppeicceehcaa.Px
end
section
namespace Go.Proofs.Ytpkppeicceehcaa.Px
open Go.RowKit Go.Proofs.YtpkppeicceehcaaW.PrintWords Go.Proofs.YtpkppeicceehcaaW.PrintLast Go.Proofs.Ytpkppeicceehcaa.Pl Go.Proofs.Ytpkppeicceehcaa.Ext
set_option linter.unusedVariables false
set_option linter.unusedSimpArgs false
theorem ndDqP_cv : ∀ (xs : List S71), (∀ x ∈ xs, ndDqH (cvHead x) ≤ 2 * wtHead x + 1) → ndDqP (cvHeadS xs) ≤ 2 * wtHeadS xs + xs.length
  | [], _ => by simp [cvHeadS, ndDqP]
  | x :: r, h => by
    have h1 := h x (List.mem_cons_self ..)
    have h2 := ndDqP_cv r (fun y hy => h y (List.mem_cons_of_mem _ hy))
    simp only [cvHeadS, ndDqP, wtHeadS, List.length_cons]
    omega
theorem ndDqC_cv : ∀ (xs : List S73), (∀ x ∈ xs, ndDqH (cvHead x.f2) ≤ 2 * wtHead x.f2 + 1) → ndDqC (cvCompS xs) ≤ 2 * wtCompS xs + xs.length
  | [], _ => by simp [cvCompS, ndDqC]
  | x :: r, h => by
    have h1 := h x (List.mem_cons_self ..)
    have h2 := ndDqC_cv r (fun y hy => h y (List.mem_cons_of_mem _ hy))
    obtain ⟨g, t, x⟩ := x
    simp only [cvCompS, ndDqC, wtCompS, List.length_cons] at h1 ⊢
    omega
theorem ndDqH_cv : ∀ x : S71, ndDqH (cvHead x) ≤ 2 * wtHead x + 1 := by
  refine indHeadL fun x ih ihq => ?_
  have h1 := ndDqP_cv x.f3 ih
  have h2 := ndDqC_cv x.f4.f0 ihq
  rw [cvHead_eq, ndDqH_eq, wtHead_eq, wtQuery_eq, cvQuery_eq]
  dsimp only
  have h3 : (cvCompS x.f4.f0).length = x.f4.f0.length := by rw [cvCompS_map, List.length_map]
  omega
theorem FnExactDepthOfQuery_told (x0 : S24) (hW0 : W24 x0) (W : World) {A0 : Option Addr} {c0 : Nat} (g0 : Kd.C k73 W A0 x0.f0.length x0.f0) (k0 : x0.f0.length ≤ c0) :
    Calls Try.prog 4 #[.agg #[.slice A0 x0.f0.length c0]] W fun e w' => e = .returned (.bool true) ∧ Below W.heap.size W w' := by
  have hs := szQuery_ev x0 hW0 1048576 (by omega) (by omega)
  by_cases hc : cut (wtQuery x0) 1048576 < 0
  · exact FnExactDepthOfQuery_stop x0 (decide_eq_true hc) hs.rounds W g0 k0
  have hw : wtQuery x0 ≤ 1048576 := by
    have := (not_congr (cut_neg (n := wtQuery x0) (left := 1048576))).1 hc
    omega
  have sm := smQuery_of x0 hW0 hw
  have hn : 1 + (cvQuery x0).f0.length + ndDqC (cvQuery x0).f0 ≤ 1099511627776 := by
    have h2 := ndDqC_cv x0.f0 (fun y _ => ndDqH_cv y.f2)
    have h3 : (cvQuery x0).f0.length = x0.f0.length := by rw [cvQuery_eq, cvCompS_map, List.length_map]
    rw [wtQuery_eq] at hw
    rw [h3]
    rw [cvQuery_eq]
    dsimp only
    omega
  have h1 : Ev (fun k => impl_DepthOfQuery.f k (cvQuery x0).f0) ((qvDq (cvQuery x0).f0 : Nat) : Int) := by
    refine ⟨0, fun k _ => ?_⟩
    unfold impl_DepthOfQuery.f
    exact if_pos ⟨sm, hn⟩
  exact FnExactDepthOfQuery_walk x0 (decide_eq_false hc) hs.rounds (toQuery_ev x0 hw).rounds (DepthOfQuery_ev _ (cvQuery x0).f0 (Nat.le_refl _) sm hn).rounds h1.rounds (eqQuery_ev _ sm).rounds W g0 k0

end Go.Proofs.Ytpkppeicceehcaa.Px
end
section
namespace Go.Proofs.Ytpkppeicceehcaa.Rd
open Go.RowKit Go.Proofs.YtpkppeicceehcaaW.PrintWords
set_option linter.unusedVariables false
/-- What reads as_ data of type t, by at most n steps, is of kind d and meets q. -/
def Op (P : Program) (n : Nat) (t : TypeId) {α : Type} (d : Kd α) (q : α → Prop) : Prop :=
  ∀ (H : Type) (enc : TypeId × Value → H) (w : World) (base : Nat) (spare : Nat → Bool) (held : Bool) (fuel : Nat) (cs : List Value) (x : DataW H × List MemPlace),
    fuel ≤ n → DataW.trod enc P w base spare held fuel t cs = some x → ∃ y, d.K w y cs ∧ q y
theorem Op.imp {P : Program} {n : Nat} {t : TypeId} {α : Type} {d d' : Kd α} {q q' : α → Prop} (h1 : ∀ w y cs, d.K w y cs → d'.K w y cs) (h2 : ∀ y, q y → q' y) (h : Op P n t d q) : Op P n t d' q' := by
  intro H enc w base spare held fuel cs x hf hx
  obtain ⟨y, hy, hq⟩ := h H enc w base spare held fuel cs x hf hx
  exact ⟨y, h1 _ _ _ hy, h2 _ hq⟩
theorem Op.iso {P : Program} {n : Nat} {t : TypeId} {α β : Type} {d : Kd α} {q : α → Prop} {f : β → α} (g : α → β) (hg : ∀ y, f (g y) = y) (h : Op P n t d q) : Op P n t (Kd.iso d f) (fun x => q (f x)) := by
  intro H enc w base spare held fuel cs x hf hx
  obtain ⟨y, hy, hq⟩ := h H enc w base spare held fuel cs x hf hx
  refine ⟨g y, ?_, ?_⟩
  · show d.K w (f (g y)) cs
    rw [hg]; exact hy
  · show q (f (g y))
    rw [hg]; exact hq
theorem Op.int {P : Program} {n : Nat} {t : TypeId} {k : IntKind} (ht : P.underlying t = some (.int k)) : Op P n t (Kd.int k) (fun x => (Lit.int k x).wf = true) := by
  intro H enc w base spare held fuel cs x hf hx
  obtain ⟨m, rfl, rfl, hw⟩ := DataW.trod_int ht hx
  exact ⟨m, rfl, hw⟩
theorem Op.bool {P : Program} {n : Nat} {t : TypeId} (ht : P.underlying t = some .bool) : Op P n t Kd.bool (fun _ => True) := by
  intro H enc w base spare held fuel cs x hf hx
  obtain ⟨m, rfl, rfl⟩ := DataW.trod_bool ht hx
  exact ⟨m, rfl, trivial⟩
theorem trod_string' {H : Type} {enc : TypeId × Value → H} {P : Program} {w : World} {base : Nat} {spare : Nat → Bool} {held : Bool} {fuel : Nat} {t : TypeId} {cs : List Value} {x : DataW H × List MemPlace}
    (ht : P.underlying t = some .string) (h : DataW.trod enc P w base spare held fuel t cs = some x) : ∃ s, cs = [.string s] ∧ s.size ≤ maxLen := by
  cases fuel with
  | zero => simp [DataW.trod] at h
  | succ n =>
    unfold DataW.trod at h
    rw [ht] at h
    split at h <;> simp_all
theorem Op.string {P : Program} {n : Nat} {t : TypeId} (ht : P.underlying t = some .string) : Op P n t Kd.string (fun s => s.size ≤ maxLen) := by
  intro H enc w base spare held fuel cs x hf hx
  obtain ⟨m, rfl, hm⟩ := trod_string' ht hx
  exact ⟨m, rfl, hm⟩
theorem add_add (a : Addr) (i j : Nat) : (a.add i).add j = a.add (i + j) := by
  unfold Addr.add
  by_cases h1 : i = 0 <;> by_cases h2 : j = 0 <;> simp [h1, h2, Nat.add_assoc]
theorem choose_list {α : Type} {p : Nat → α → Prop} (n : Nat) (h : ∀ i, i < n → ∃ y, p i y) : ∃ ys : List α, ys.length = n ∧ ∀ i y, ys[i]? = some y → p i y := by
  induction n with
  | zero => exact ⟨[], rfl, fun i y hy => by simp at hy⟩
  | succ n ih =>
    obtain ⟨ys, hl, hy⟩ := ih (fun i hi => h i (by omega))
    obtain ⟨z, hz⟩ := h n (by omega)
    refine ⟨ys ++ [z], by simp [hl], fun i y hi => ?_⟩
    by_cases hlt : i < n
    · rw [List.getElem?_append_left (by omega)] at hi
      exact hy i y hi
    · by_cases he : i = n
      · subst he
        rw [List.getElem?_append_right (by omega)] at hi
        simp [hl] at hi
        subst hi
        exact hz
      · rw [List.getElem?_eq_none (by simp; omega)] at hi
        cases hi
theorem Op.slice {P : Program} {n : Nat} {t e : TypeId} {α : Type} {d : Kd α} {q : α → Prop} (ht : P.underlying t = some (.slice e)) (hsz : P.cellsOf e = d.sz) (h : ∀ k, k < n → Op P k e d q) :
    Op P n t (Kd.slice e d) (fun xs => xs.length ≤ maxLen ∧ ∀ y ∈ xs, q y) := by
  intro H enc w base spare held fuel cs x hf hx
  rcases DataW.trod_slice ht hx with ⟨rfl, _⟩ | ⟨a, len, cap, elems, rest, m, hm, rfl, _, hb, hl, hc, hlen, hel, _, _⟩
  · exact ⟨[], ⟨none, 0, rfl, Nat.le_refl _, ⟨rfl, by simp, fun hp => absurd hp (by simp)⟩⟩, by simp, fun y hy => by simp at hy⟩
  · have hone : ∀ i, i < len → ∃ y, (∃ c, c.length = d.sz ∧ d.K w y c ∧ ∀ j u, c[j]? = some u → w.cell? (a.add (i * d.sz + j)) = some u) ∧ q y := by
      intro i hi
      have h1 := hel i hi
      rw [List.getElem?_eq_getElem (by omega)] at h1
      obtain ⟨c, hc1, hc2⟩ := Option.bind_eq_some_iff.1 h1
      obtain ⟨y, hy, hq⟩ := h m (by omega) H enc w base spare held m c _ (Nat.le_refl _) hc2
      obtain ⟨_, hcl, hcells⟩ := World.cells?_some hc1
      refine ⟨y, ⟨c, by omega, hy, fun j u hu => ?_⟩, hq⟩
      have hj : j < P.cellsOf e := by
        rw [← hcl]
        exact (List.getElem?_eq_some_iff.1 hu).1
      have := hcells j hj
      rw [add_add, hsz] at this
      rw [this, hu]
    obtain ⟨ys, hyl, hys⟩ := choose_list len hone
    have hmx : len ≤ 9223372036854775807 := by
      have : cap ≤ 9223372036854775807 := hc
      omega
    refine ⟨ys, ⟨some a, cap, by rw [hyl], by omega, ⟨rfl, by omega, fun _ => ⟨a, rfl, fun j p hj => (hys j p hj).1⟩⟩⟩, by rw [hyl]; exact hmx, fun y hy => ?_⟩
    obtain ⟨i, hi, rfl⟩ := List.getElem_of_mem hy
    exact (hys i _ (List.getElem?_eq_getElem hi)).2
/-- Fields, from an offset on. -/
def OpF (P : Program) (n : Nat) (fs : List Field) (off : Nat) {α : Type} (d : Kd α) (q : α → Prop) : Prop :=
  ∀ (H : Type) (enc : TypeId × Value → H) (w : World) (base : Nat) (spare : Nat → Bool) (held : Bool) (fuel : Nat) (cs : List Value), fuel ≤ n →
    (∀ f ∈ fs, ∃ x, DataW.trod enc P w base spare held fuel f.type ((cs.drop f.offset).take (P.cellsOf f.type)) = some x) → cs.length = off + d.sz → ∃ y, d.K w y (cs.drop off) ∧ q y
theorem OpF.one {P : Program} {n : Nat} {f : Field} {off : Nat} {α : Type} {d : Kd α} {q : α → Prop} (ho : f.offset = off) (hsz : P.cellsOf f.type = d.sz) (h : Op P n f.type d q) : OpF P n [f] off d q := by
  intro H enc w base spare held fuel cs hf hx hl
  obtain ⟨x, hx⟩ := hx f (List.mem_singleton.2 rfl)
  rw [ho, hsz, List.take_of_length_le (by rw [List.length_drop]; omega)] at hx
  exact h H enc w base spare held fuel _ x hf hx
theorem OpF.cons {P : Program} {n : Nat} {f : Field} {fs : List Field} {off : Nat} {α β : Type} {a : Kd α} {b : Kd β} {qa : α → Prop} {qb : β → Prop} (ho : f.offset = off) (hsz : P.cellsOf f.type = a.sz) (h : Op P n f.type a qa) (hr : OpF P n fs (off + a.sz) b qb) :
    OpF P n (f :: fs) off (Kd.pair a b) (fun y => qa y.1 ∧ qb y.2) := by
  intro H enc w base spare held fuel cs hf hx hl
  have hl' : cs.length = off + (a.sz + b.sz) := hl
  obtain ⟨x, h1⟩ := hx f (List.mem_cons_self ..)
  rw [ho, hsz] at h1
  obtain ⟨y, hy, hq⟩ := h H enc w base spare held fuel _ x hf h1
  obtain ⟨z, hz, hq2⟩ := hr H enc w base spare held fuel cs hf (fun g hg => hx g (List.mem_cons_of_mem _ hg)) (by omega)
  refine ⟨(y, z), ⟨_, _, ?_, hy, hz⟩, hq, hq2⟩
  rw [← List.drop_drop, List.take_append_drop]
theorem Op.struct {P : Program} {n : Nat} {t : TypeId} {fs : Array Field} {α : Type} {d : Kd α} {q : α → Prop} (ht : P.underlying t = some (.struct fs)) (hsz : P.cellsOf t = d.sz) (h : ∀ k, k < n → OpF P k fs.toList 0 d q) : Op P n t d q := by
  intro H enc w base spare held fuel cs x hf hx
  obtain ⟨xs, m, hm, _, hl, hxl, hfs⟩ := DataW.trod_struct ht hx
  have hr := h m (by omega) H enc w base spare held m cs (Nat.le_refl _) (fun f hfm => ?_) (by omega)
  · simpa using hr
  · obtain ⟨i, hi, rfl⟩ := List.getElem_of_mem hfm
    have hi' : i < fs.size := by simpa using hi
    have h2 := hfs i _ (Array.getElem?_eq_getElem hi')
    rw [List.getElem?_eq_getElem (by omega)] at h2
    exact ⟨_, by simpa using h2⟩
/-- The same at whatever fuel. -/
theorem Op.open_ {P : Program} {t : TypeId} {α : Type} {d : Kd α} {q : α → Prop} (h : ∀ n, Op P n t d q) {H : Type} {enc : TypeId × Value → H} {w : World} {base : Nat} {spare : Nat → Bool} {held : Bool} {v : Value} {x : DataW H} {ps : List MemPlace}
    (ht : DataW.Trod enc P w base spare held t v x ps) : ∃ y, d.K w y v.cells.toList ∧ q y := by
  obtain ⟨fuel, hf⟩ := ht
  exact h fuel H enc w base spare held fuel _ _ (Nat.le_refl _) hf
end Go.Proofs.Ytpkppeicceehcaa.Rd
end
section
namespace Go.Proofs.Ytpkppeicceehcaa.Px
open Go.RowKit Go.Proofs.Ytpkppeicceehcaa.Ext Go.Proofs.YtpkppeicceehcaaW.PrintWords Go.Proofs.YtpkppeicceehcaaW.PrintLast Go.Proofs.YtpkppeicceehcaaW.PrintMore Go.Proofs.Ytpkppeicceehcaa
set_option linter.unusedVariables false
set_option linter.unusedSimpArgs false

theorem op89 : ∀ n, Rd.Op Try.prog n 89 k89 W89 := by
  intro n
  exact Rd.Op.imp (d := k89) (fun _ _ _ h => h) (fun x h => h) (Rd.Op.iso (g := fun p => ⟨p.1, p.2⟩) (fun _ => rfl) (Rd.Op.struct Try.underlying89 (by kernel_rfl) (fun j0 hj0 => (Rd.OpF.cons rfl (by kernel_rfl) (Rd.Op.string Try.underlying9) (Rd.OpF.one rfl (by kernel_rfl) (Rd.Op.string Try.underlying9))))))
theorem fold65 : ∀ (w : World) (x : S65) (cs : List Value), (F65 k65).K w x cs → k65.K w x cs := by
  intro w x cs h
  obtain ⟨_, _, rfl, rfl, ⟨_, _, rfl, ⟨A1, c1, rfl, l1, g1⟩, ⟨A2, c2, rfl, l2, g2⟩⟩⟩ := h
  exact k65_mk w x l1 g1 l2 g2
theorem op65 : ∀ n, Rd.Op Try.prog n 65 k65 W65 := by
  intro n
  induction n using Nat.strongRecOn with
  | _ n ih =>
  exact Rd.Op.imp (d := F65 k65) fold65 (fun x h => W65.mk h.1 h.2.1 h.2.2.1 h.2.2.2) (Rd.Op.iso (g := fun p => ⟨p.1, p.2.1, p.2.2⟩) (fun _ => rfl) (Rd.Op.struct Try.underlying65 (by kernel_rfl) (fun j0 hj0 => (Rd.OpF.cons rfl (by kernel_rfl) (Rd.Op.int Try.underlying3) (Rd.OpF.cons rfl (by kernel_rfl) (Rd.Op.slice Try.underlying38 (by kernel_rfl) (fun j1 hj1 => (Rd.Op.string Try.underlying9))) (Rd.OpF.one rfl (by kernel_rfl) (Rd.Op.slice Try.underlying63 (by kernel_rfl) (fun j1 hj1 => ih j1 (by omega)))))))))
theorem fold68 : ∀ (w : World) (x : S68) (cs : List Value), (F68 k68).K w x cs → k68.K w x cs := by
  intro w x cs h
  obtain ⟨_, _, rfl, rfl, ⟨_, _, rfl, rfl, ⟨_, _, rfl, rfl, ⟨_, _, rfl, s3, ⟨_, _, rfl, ⟨A4, c4, rfl, l4, g4⟩, ⟨A5, c5, rfl, l5, g5⟩⟩⟩⟩⟩⟩ := h
  obtain ⟨A3_1, c3_1, A3_2, c3_2, rfl, l3_1, g3_1, l3_2, g3_2⟩ := k65_open s3
  exact k68_mk w x l3_1 g3_1 l3_2 g3_2 l4 g4 l5 g5
theorem op68 : ∀ n, Rd.Op Try.prog n 68 k68 W68 := by
  intro n
  induction n using Nat.strongRecOn with
  | _ n ih =>
  exact Rd.Op.imp (d := F68 k68) fold68 (fun x h => W68.mk h.1 h.2.1 h.2.2.1 h.2.2.2.1 h.2.2.2.2.1 h.2.2.2.2.2.1 h.2.2.2.2.2.2) (Rd.Op.iso (g := fun p => ⟨p.1, p.2.1, p.2.2.1, p.2.2.2.1, p.2.2.2.2.1, p.2.2.2.2.2⟩) (fun _ => rfl) (Rd.Op.struct Try.underlying68 (by kernel_rfl) (fun j0 hj0 => (Rd.OpF.cons rfl (by kernel_rfl) (Rd.Op.int Try.underlying3) (Rd.OpF.cons rfl (by kernel_rfl) (Rd.Op.string Try.underlying9) (Rd.OpF.cons rfl (by kernel_rfl) (Rd.Op.int Try.underlying3) (Rd.OpF.cons rfl (by kernel_rfl) (op65 _) (Rd.OpF.cons rfl (by kernel_rfl) (Rd.Op.slice Try.underlying38 (by kernel_rfl) (fun j1 hj1 => (Rd.Op.string Try.underlying9))) (Rd.OpF.one rfl (by kernel_rfl) (Rd.Op.slice Try.underlying66 (by kernel_rfl) (fun j1 hj1 => ih j1 (by omega))))))))))))
theorem fold71 : ∀ (w : World) (x : S71) (cs : List Value), (F71 k71).K w x cs → k71.K w x cs := by
  intro w x cs h
  obtain ⟨_, _, rfl, rfl, ⟨_, _, rfl, s1, ⟨_, _, rfl, ⟨A2, c2, rfl, l2, g2⟩, ⟨_, _, rfl, ⟨A3, c3, rfl, l3, g3⟩, s4⟩⟩⟩⟩ := h
  obtain ⟨A1_4, c1_4, A1_5, c1_5, A1_6, c1_6, A1_7, c1_7, rfl, l1_4, g1_4, l1_5, g1_5, l1_6, g1_6, l1_7, g1_7⟩ := k68_open s1
  obtain ⟨A4_0, c4_0, rfl, l4_0, g4_0⟩ := k24_open s4
  exact k71_mk w x l1_4 g1_4 l1_5 g1_5 l1_6 g1_6 l1_7 g1_7 l2 g2 l3 g3 l4_0 g4_0
theorem op71 : ∀ n, Rd.Op Try.prog n 71 k71 W71 := by
  intro n
  induction n using Nat.strongRecOn with
  | _ n ih =>
  exact Rd.Op.imp (d := F71 k71) fold71 (fun x h => W71.mk h.1 h.2.1 h.2.2.1 h.2.2.2.1.1 h.2.2.2.1.2 h.2.2.2.2.1 (fun y hy => (h.2.2.2.2.2 y hy).1) (fun y hy => (h.2.2.2.2.2 y hy).2.1) (fun y hy => (h.2.2.2.2.2 y hy).2.2)) (Rd.Op.iso (g := fun p => ⟨p.1, p.2.1, p.2.2.1, p.2.2.2.1, p.2.2.2.2⟩) (fun _ => rfl) (Rd.Op.struct Try.underlying71 (by kernel_rfl) (fun j0 hj0 => (Rd.OpF.cons rfl (by kernel_rfl) (Rd.Op.int Try.underlying3) (Rd.OpF.cons rfl (by kernel_rfl) (op68 _) (Rd.OpF.cons rfl (by kernel_rfl) (Rd.Op.slice Try.underlying38 (by kernel_rfl) (fun j1 hj1 => (Rd.Op.string Try.underlying9))) (Rd.OpF.cons rfl (by kernel_rfl) (Rd.Op.slice Try.underlying69 (by kernel_rfl) (fun j1 hj1 => ih j1 (by omega))) (Rd.OpF.one rfl (by kernel_rfl) (Rd.Op.iso (g := fun p => ⟨p⟩) (fun _ => rfl) (Rd.Op.struct Try.underlying24 (by kernel_rfl) (fun j1 hj1 => (Rd.OpF.one rfl (by kernel_rfl) (Rd.Op.slice Try.underlying22 (by kernel_rfl) (fun j2 hj2 => (Rd.Op.iso (g := fun p => ⟨p.1, p.2.1, p.2.2⟩) (fun _ => rfl) (Rd.Op.struct Try.underlying73 (by kernel_rfl) (fun j3 hj3 => (Rd.OpF.cons rfl (by kernel_rfl) (Rd.Op.slice Try.underlying62 (by kernel_rfl) (fun j4 hj4 => (op89 _))) (Rd.OpF.cons rfl (by kernel_rfl) (op68 _) (Rd.OpF.one rfl (by kernel_rfl) (ih j3 (by omega))))))))))))))))))))))
theorem op73 : ∀ n, Rd.Op Try.prog n 73 k73 W73 := by
  intro n
  exact Rd.Op.imp (d := k73) (fun _ _ _ h => h) (fun x h => h) (Rd.Op.iso (g := fun p => ⟨p.1, p.2.1, p.2.2⟩) (fun _ => rfl) (Rd.Op.struct Try.underlying73 (by kernel_rfl) (fun j0 hj0 => (Rd.OpF.cons rfl (by kernel_rfl) (Rd.Op.slice Try.underlying62 (by kernel_rfl) (fun j1 hj1 => (op89 _))) (Rd.OpF.cons rfl (by kernel_rfl) (op68 _) (Rd.OpF.one rfl (by kernel_rfl) (op71 _)))))))
theorem op24 : ∀ n, Rd.Op Try.prog n 24 k24 W24 := by
  intro n
  exact Rd.Op.imp (d := k24) (fun _ _ _ h => h) (fun x h => h) (Rd.Op.iso (g := fun p => ⟨p⟩) (fun _ => rfl) (Rd.Op.struct Try.underlying24 (by kernel_rfl) (fun j0 hj0 => (Rd.OpF.one rfl (by kernel_rfl) (Rd.Op.slice Try.underlying22 (by kernel_rfl) (fun j1 hj1 => (op73 _)))))))
end Go.Proofs.Ytpkppeicceehcaa.Px
end
