/- order.Show and the reference's, at every order: the two parts joined -/
import Derived.Test.YtfhmcahfjoliiaaDoorOrdShowC
import Derived.Test.YtfhmcahfjoliiaaDoorActRfff
import Derived.Test.YtfhmcahfjoliiaaDoorActRttt
import Derived.Test.YtfhmcahfjoliiaaDoorActRtft
import Derived.Test.YtfhmcahfjoliiaaDoorActRfft
import Derived.Test.YtfhmcahfjoliiaaDoorActRttf
import Derived.Test.YtfhmcahfjoliiaaDoorActRtff
namespace Go.Proofs.YtfhmcahfjoliiaaDoor
set_option linter.unusedSimpArgs false
set_option linter.unusedVariables false
open Go.RowKit
set_option maxRecDepth 20000
theorem Show_any (ki me a b c cu : Int) (te : ByteArray) (w : World) (hF : FormT w) (hT : PowTab w) (hs : te.size ≤ 140737488351232) :
    Calls Tryd.prog 10 #[.agg #[I ki, I me, I a, I b, I c, .string te, I cu]] w (AcP ki me a b c te cu w) := by
  by_cases h : cu < 0
  · exact ShowN_any ki me a b c cu te w hF hT hs h
  · exact ShowC_any ki me a b c cu te w hF hT hs (by omega)
theorem ActShown_any (ki me a b c cu : Int) (te : ByteArray) (w : World) (hs : te.size ≤ 9223372036854770000) :
    Calls Tryd.prog 14 #[.agg #[I ki, I me, I a, I b, I c, .string te, I cu]] w (AcP ki me a b c te cu w) := by
  by_cases h2 : ki = 2
  · exact ActShown_ttt ki me a b c cu te w hs (by subst h2; rfl) (by subst h2; rfl) (by subst h2; rfl)
  · by_cases h3 : ki = 3
    · exact ActShown_tft ki me a b c cu te w hs (by subst h3; rfl) (by subst h3; rfl) (by subst h3; rfl)
    · by_cases h4 : ki = 4
      · exact ActShown_fft ki me a b c cu te w hs (by subst h4; rfl) (by subst h4; rfl) (by subst h4; rfl)
      · by_cases h5 : ki = 5
        · exact ActShown_ttf ki me a b c cu te w hs (by subst h5; rfl) (by subst h5; rfl) (by subst h5; rfl)
        · by_cases h7 : ki = 7
          · exact ActShown_tff ki me a b c cu te w hs (by subst h7; rfl) (by subst h7; rfl) (by subst h7; rfl)
          · exact ActShown_fff ki me a b c cu te w hs (by simp [actA, h2, h3, h5, h7]) (by simp [actB, h2, h5]) (by simp [actC, h2, h3, h4])
end Go.Proofs.YtfhmcahfjoliiaaDoor
