/- token.Parse and its reference, at every text -/
import Derived.Test.YtdjgcenjonegjaaGreatDoorParseGood
import Derived.Test.YtdjgcenjonegjaaGreatDoorParseRef
set_option maxRecDepth 20000
set_option maxHeartbeats 8000000
set_option linter.unusedSimpArgs false
set_option linter.unusedVariables false
namespace Go.Proofs.YtdjgcenjonegjaaGreatDoor
open Go.RowKit
theorem Parse_any (s : ByteArray) (w : World) : Calls Tryz.prog 31 #[.string s] w (ParP s w) := by
  by_cases h : s.size = 20
  · cases hd : allDig s 20
    · exact Parse_bad s w h hd
    · exact Parse_good s w h hd
  · exact Parse_len s w h
theorem Parsed_any (s : ByteArray) (w : World) : Calls Tryz.prog 39 #[.string s] w (ParP s w) := by
  by_cases h : s.size = 20
  · exact Parsed_on s w h
  · exact Parsed_len s w h
end Go.Proofs.YtdjgcenjonegjaaGreatDoor
