import Derived.Test.YthccjgkmmclplaaGreatG1
import Derived.Test.YthccjgkmmclplaaGreatHE
namespace Go.Proofs.YthccjgkmmclplaaGreat
open Go.H
set_option linter.unusedVariables false
set_option linter.unusedSimpArgs false
set_option maxRecDepth 10000

open Go.H
/- The empty data of the structs. -/
theorem dfEdge (h : Hp) : ∃ cs, wEdge.R h cs (0, 0, 0) := ⟨_, closeEdge (by decide) (by decide) (by decide)⟩
theorem dfGraph (h : Hp) : ∃ cs, wGraph.R h cs (0, 0, []) := ⟨_, closeGraph (by decide) (by decide) (nilR wEdge h)⟩
theorem dfWhitehead (h : Hp) : ∃ cs, wWhitehead.R h cs (0, []) := ⟨_, closeWhitehead (by decide) (nilR Wp.int h)⟩
theorem dfPresentation (h : Hp) : ∃ cs, wPresentation.R h cs (0, []) := ⟨_, closePresentation (by decide) (nilR wIntS h)⟩
theorem dfEntry (h : Hp) : ∃ cs, wEntry.R h cs (⟨#[]⟩, (0, 0, [])) := ⟨_, closeEntry (by decide) (by decide) (by decide) (nilR wEdge h)⟩
theorem dfLibrary (h : Hp) : ∃ cs, wLibrary.R h cs (0, []) := ⟨_, closeLibrary (by decide) (nilR wEntry h)⟩
end Go.Proofs.YthccjgkmmclplaaGreat
