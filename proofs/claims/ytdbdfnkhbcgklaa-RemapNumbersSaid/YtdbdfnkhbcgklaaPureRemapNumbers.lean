/-
  The pure statement of RemapNumbers: the program's answers are the document's.
-/
import Derived.Test.YtdbdfnkhbcgklaaRURemapNumbers
import Derived.Test.YtdbdfnkhbcgklaaRPRemap
namespace Go.Proofs.Ytdbdfnkhbcgklaa.Pure
open Go.RowKit Go.Proofs.Ytdbdfnkhbcgklaa.R Go.Proofs.YtdbdfnkhbcgklaaW.PrintWords Go.Proofs.YtdbdfnkhbcgklaaW.PrintLast Go.Proofs.YtdbdfnkhbcgklaaW.PrintMore
theorem RemapNumbers : jalousielaw17_RemapNumbers.Pure := by
  intro l o n hl ho hn hs _ _
  have hs1 : l.length ≤ 8796093022208 := by have := hs.1; omega
  have hle := rv_le l o l.length
  have hw : wrap64 (((rv l o l.length).length : Int) - 1) = ((rv l o l.length).length : Int) - 1 := w64_id _ (by omega) (by omega)
  obtain ⟨K1, h1⟩ := ref_seen_ev hl ho hs1
  obtain ⟨K2, h2⟩ := ref_full_ev hl ho hs1 n
  obtain ⟨K3, h3⟩ := own_ev (l := l) (o := o) hs1 n
  obtain ⟨K4, h4⟩ := ref_own_ev hl ho hs1 n
  obtain ⟨K5, h5⟩ := ref_full_ev hl ho hs1 (((rv l o l.length).length : Int) - 1)
  obtain ⟨K6, h6⟩ := live_ev
  obtain ⟨K7, h7⟩ := ints_ev (rv l o l.length) (by omega)
  obtain ⟨K8, h8⟩ := count_ev l o (by omega)
  obtain ⟨K9, h9⟩ := ref_count_ev l o (by omega)
  refine ⟨K1 + K2 + K3 + K4 + K5 + K6 + K7 + K8 + K9, ?_⟩
  generalize hk : K1 + K2 + K3 + K4 + K5 + K6 + K7 + K8 + K9 = k
  have e1 := h1 k (by omega)
  have e2 := h2 k (by omega)
  have e3 := h3 k (by omega)
  have e4 := h4 k (by omega)
  have e5 := h5 k (by omega)
  have e6 := h6 k (by omega)
  have e7 := h7 k (by omega)
  have e8 := h8 k (by omega)
  have e9 := h9 k (by omega)
  simp only at e1 e2 e3 e4 e5 e6 e7 e8 e9
  unfold jalousielaw17_RemapNumbers.f
  simp [e1, e2, e3, e4, hw, e5, e6, e7, e8, e9, full_f, last_f hs1, seen_f l o hs1]
end Go.Proofs.Ytdbdfnkhbcgklaa.Pure
