/-
  Chapter 14 (profile): the library's functions, in this library's words.
-/
import Derived.Test.YtdkjoljcffkpkaaDoorPr2
import Derived.Test.YtdkjoljcffkpkaaDoorFx22
import Derived.Test.YtdkjoljcffkpkaaDoorSh
set_option linter.unusedSimpArgs false
set_option linter.unusedVariables false
set_option linter.unusedSectionVars false
namespace Go.Fx.YtdkjoljcffkpkaaDoor
open Go Go.Fx Go.Proofs
set_option maxRecDepth 20000

theorem Itoa_G {w : World} {R : Hp} {n : Int} (hT : Tab R) (hR : Le R (hp w)) (h : I64 n) : Calls Tryd.prog 57 #[int n] w fun e w' => e = .returned (.string (Wd.i n).txt) ∧ Grow w w' := by
  refine (Tryd.strconv_Itoa n h.1 h.2 w (hT.is hR)).mono ?_
  rintro e w' ⟨rfl, k, os, rfl⟩
  refine ⟨rfl, rfl, rfl, rfl, ?_, fun b hb => ?_⟩
  · simp [Sort.grow, World.drewN]
  · show ((w.drewN k).heap ++ os)[b]? = w.heap[b]?
    exact Array.getElem?_append_left hb
theorem Join_G {w : World} {R c : Hp} {v : Value} {xs : List ByteArray} {T : Nat} (h : OwnL Ty.str T R v xs c) (hc : Le c (hp w)) (hl : xs.length ≤ 1048576) (hlen : (Lib.join (xs.map (·.data.toList)) [32]).length ≤ 140737488355328) :
    Calls Tryd.prog 58 #[v, .string ⟨#[32]⟩] w fun e w' => e = .returned (.string ⟨(Lib.join (xs.map (·.data.toList)) [32]).toArray⟩) ∧ Grow w w' := by
  by_cases hx : xs = []
  · subst hx
    obtain ⟨a, cap, rfl, _⟩ := h.value
    refine (Tryd.strings_Join_none a cap ⟨#[32]⟩ w).mono ?_
    rintro e w' ⟨rfl, rfl⟩
    exact ⟨rfl, Grow.refl _⟩
  · obtain ⟨b, cap, rfl, hcap, hb, hcells⟩ := h.strCells hc (List.length_pos_iff.2 hx)
    refine (Tryd.strings_Join b 0 cap xs ⟨#[32]⟩ w hcells hb (by omega) hcap hlen).mono ?_
    rintro e w' ⟨rfl, hg⟩
    exact ⟨rfl, Grow.of_below hg⟩

theorem tyWd_i {R : Hp} {x : Wd} {n : Int} {c : List Value} (h : tyWd.rel R x c) (e : x = .i n) : c = [.iface 3 (.int .i64 n)] := by subst e; exact h
theorem tyWd_s {R : Hp} {x : Wd} {t : ByteArray} {c : List Value} (h : tyWd.rel R x c) (e : x = .s t) : c = [.iface 9 (.string t)] := by subst e; exact h
theorem str_mk (R : Hp) (t : ByteArray) : Encs Ty.str R [t] [.string t] := Encs.one (t := Ty.str) rfl
theorem take_txt {l : List Wd} {k : Nat} (hk : k < l.length) {x : Wd} (e : l[k]'hk = x) : (l.take (k + 1)).map Wd.txt = (l.take k).map Wd.txt ++ [x.txt] := by
  rw [List.take_succ_eq_append_getElem hk, List.map_append, e]
  rfl
theorem joinW_eq {l : List Wd} {k : Nat} (hk : l.length ≤ k) : joinW l = ⟨(Lib.join (((l.take k).map Wd.txt).map (·.data.toList)) [32]).toArray⟩ := by
  rw [List.take_of_length_le hk, List.map_map]
  rfl
end Go.Fx.YtdkjoljcffkpkaaDoor
