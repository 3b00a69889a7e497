/- token.Parse and its reference, at every text -/
import Derived.Test.YtmciccnmpoijdaaDoorParseGood
import Derived.Test.YtmciccnmpoijdaaDoorParseRef
namespace Go.Proofs.YtmciccnmpoijdaaDoor
open Go.RowKit
set_option maxRecDepth 20000
theorem Parse_any (s : ByteArray) (w : World) : Calls Tryd.prog 18 #[.string s] w (ParP s w) := by
  by_cases h : s.size = 20
  · cases hd : allDig s 20
    · exact Parse_bad s w h hd
    · exact Parse_good s w h hd
  · exact Parse_len s w h
theorem Parsed_any (s : ByteArray) (w : World) : Calls Tryd.prog 19 #[.string s] w (ParP s w) := by
  by_cases h : s.size = 20
  · exact Parsed_on s w h
  · exact Parsed_len s w h
end Go.Proofs.YtmciccnmpoijdaaDoor
