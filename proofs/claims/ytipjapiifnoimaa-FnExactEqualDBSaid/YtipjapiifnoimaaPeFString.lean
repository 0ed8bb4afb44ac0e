/- The family String of mirrored types: the weight of a value, its copy, and what the laws' own helpers come to. No condition. -/
import Derived.Test.YtipjapiifnoimaaPe1
import Derived.Test.YtipjapiifnoimaaPe3
import Derived.Test.YtipjapiifnoimaaPe6
import Derived.Test.YtipjapiifnoimaaPl
namespace Go.Proofs.Ytipjapiifnoimaa.Pe
open Go.RowKit Go.Proofs.YtipjapiifnoimaaW.PrintWords Go.Proofs.Ytipjapiifnoimaa.Pl
set_option linter.unusedVariables false
set_option linter.unusedSimpArgs false
theorem szStringS_ev (xs : List ByteArray) (hx : xs.length ≤ maxLen ∧ ∀ y ∈ xs, y.size ≤ maxLen) (left : Int) (h0 : 0 ≤ left) (hl : left ≤ 1048576) : Ev (fun k => laws_szStringS.f k xs left) (cut (wts xs) left) := by
  simp only [laws_szStringS.f]
  have hs := cut_sub (n := xs.length) h0 hl hx.1
  by_cases hc : cut xs.length left < 0
  · exact Ev.pos (hs.1.2 hc) (Ev.const (cut_add' hc).symm)
  · refine Ev.neg (fun h => hc (hs.1.1 h)) ?_
    rw [hs.2 (by omega)]
    have hl2 := cut_le (n := xs.length) h0
    have hw := sz_loop' xs.length (fun k left i => laws_szStringS.l0 k xs left (i : Int)) (fun i => (xs.getD i ByteArray.empty).size) (fun k left i hi h0 hl => by
      have hz := cut_sub (n := (xs.getD i ByteArray.empty).size) h0 hl (hx.2 _ (mem_getD xs _ i hi))
      simp only [laws_szStringS.l0, rdOf_str]
      rw [if_pos (by omega), if_pos (by omega)]
      by_cases hc : cut (xs.getD i ByteArray.empty).size left < 0
      · rw [if_pos (hz.1.2 hc), if_pos hc]
      · rw [if_neg (fun h => hc (hz.1.1 h)), if_neg hc, hz.2 (by omega), w1 hi hx.1]) (fun k left => by simp only [laws_szStringS.l0]; rw [if_neg (by omega)]) xs.length 0 _ (by omega) (show 0 ≤ cut xs.length left by omega) (by omega)
    refine Ev.eq hw ?_
    rw [cut_add (by omega), sumF_list ByteArray.size ByteArray.empty xs xs.length 0 (by omega)]
    rfl
theorem toStringS_ev (xs : List ByteArray) (hx : xs.length ≤ 1048576) : Ev (fun k => laws_toStringS.f k xs) xs := by
  simp only [laws_toStringS.f]
  refine Ev.pos (by omega) (Ev.pos (by omega) ?_)
  have hw := to_loop xs.length (fun k i => some (xs.getD i ByteArray.empty)) (fun k out i => laws_toStringS.l0 k xs out (i : Int)) (fun i => xs.getD i ByteArray.empty) (fun k out i hi hl => by
    simp only [laws_toStringS.l0, rdOf_str]
    rw [if_pos (by omega), if_pos (by omega), if_pos (by omega), w1' hi hx]
    rfl) (fun k out => by simp only [laws_toStringS.l0]; rw [if_neg (by omega)]) (fun i hi => Ev.now _) xs.length 0 (List.replicate ((xs.length : Int)).toNat (⟨#[]⟩ : ByteArray)) (by omega) (by simp)
  refine Ev.eq hw ?_
  rw [List.take_zero, List.nil_append, range_map_getElem (fun x => x) ByteArray.empty xs, List.map_id']
theorem eqStringS_ev (xs : List ByteArray) (hx : xs.length ≤ 1048576) : Ev (fun k => laws_eqStringS.f k xs xs) true := by
  simp only [laws_eqStringS.f]
  refine Ev.pos (by simp) ?_
  exact eq_loop xs.length (fun k i => some true) (fun k i => laws_eqStringS.l0 k xs xs (i : Int)) (fun k i hi => by
    simp only [laws_eqStringS.l0]
    rw [if_pos (by omega), if_pos (by omega), if_pos (by omega), w1' hi hx]
    simp) (fun k => by simp only [laws_eqStringS.l0]; rw [if_neg (by omega)]) (fun i hi => Ev.now _) xs.length 0 (by omega)
end Go.Proofs.Ytipjapiifnoimaa.Pe
