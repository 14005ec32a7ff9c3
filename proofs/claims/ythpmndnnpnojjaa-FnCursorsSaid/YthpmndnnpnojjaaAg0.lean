/- Functions of the program. -/
import Derived.Test.YthpmndnnpnojjaaAd0
set_option maxRecDepth 100000
set_option maxHeartbeats 4000000
set_option linter.unusedVariables false
set_option linter.unusedSimpArgs false
namespace Go.Am
open Go.Proofs
noncomputable def cY_ (a0 : (Sl (Iv .u8))) : Option Bool := (if (decide (1048576 < (a0.l.length : Int))) = true then (some true) else ((cU_ a0).bind fun y1 => ((er_ a0 1 (w4 ((y1.size : Int) + 1))).bind fun y2 => ((er_ a0 2 (w4 ((y1.size : Int) + 3))).bind fun y3 => ((cd_ (⟨9, y3, ⟨#[]⟩, ⟨true, []⟩⟩ : DPattern) (⟨7, y3, ⟨#[]⟩, ⟨true, []⟩⟩ : DPattern)).bind fun y4 => ((aU_ ⟨true, []⟩ y4 y1 y2 30).bind fun y5 => ((cd_ (⟨10, y3, ⟨#[]⟩, ⟨true, []⟩⟩ : DPattern) (⟨8, y3, ⟨#[]⟩, ⟨true, []⟩⟩ : DPattern)).bind fun y6 => ((aU_ ⟨true, []⟩ y6 y1 y2 30).bind fun y7 => ((cd_ (⟨10, y3, ⟨#[]⟩, ⟨true, []⟩⟩ : DPattern) (⟨6, y3, ⟨#[]⟩, ⟨true, []⟩⟩ : DPattern)).bind fun y8 => ((aU_ ⟨true, []⟩ y8 y1 y2 30).bind fun y9 => ((dd_ 11 ⟨#[]⟩ ⟨true, []⟩).bind fun y10 => ((cd_ (⟨6, y3, ⟨#[]⟩, ⟨true, []⟩⟩ : DPattern) y10).bind fun y11 => ((aU_ ⟨true, []⟩ y11 y1 y2 30).bind fun y12 => (if (!decide (y5.2 = 0)) = true then (some false) else (if (!decide (y7.2 = 0)) = true then (some false) else (if (!decide (y9.2 = 0)) = true then (some false) else (if (!decide (y12.2 = 0)) = true then (some false) else (if (decide (y2 ≤ y3)) = true then (if (decide (y3 ≤ (y1.size : Int))) = true then ((af_ y5.1 (⟨false, [⟨y3⟩]⟩)).bind fun y13 => (if (!y13) = true then (some false) else (if (decide (y3 < y2)) = true then (if (!decide ((y5.1.l.length : Int) = 0)) = true then (some false) else (if (decide (y2 ≤ (w4 ((y1.size : Int) - y3)))) = true then ((af_ y7.1 (⟨false, [⟨(w4 ((y1.size : Int) - y3))⟩]⟩)).bind fun y14 => (if (!y14) = true then (some false) else ((af_ y9.1 (⟨false, [⟨(y1.size : Int)⟩]⟩)).bind fun y15 => (if (!y15) = true then (some false) else (if (decide ((w4 ((y1.size : Int) - y3)) < y2)) = true then (if (!decide ((y7.1.l.length : Int) = 0)) = true then (some false) else (if (!decide ((y9.1.l.length : Int) = 0)) = true then (some false) else (if ((decide ((w4 (y2 + y3)) ≤ (y1.size : Int)))) = true then ((af_ y12.1 (⟨false, [⟨(y1.size : Int)⟩]⟩)).bind fun y16 => (if y16 = true then (some true) else (if ((decide ((y1.size : Int) < (w4 (y2 + y3))))) = true then (some (decide ((y12.1.l.length : Int) = 0))) else (some false)))) else (if ((decide ((y1.size : Int) < (w4 (y2 + y3))))) = true then (some (decide ((y12.1.l.length : Int) = 0))) else (some false))))) else (if ((decide ((w4 (y2 + y3)) ≤ (y1.size : Int)))) = true then ((af_ y12.1 (⟨false, [⟨(y1.size : Int)⟩]⟩)).bind fun y17 => (if y17 = true then (some true) else (if ((decide ((y1.size : Int) < (w4 (y2 + y3))))) = true then (some (decide ((y12.1.l.length : Int) = 0))) else (some false)))) else (if ((decide ((y1.size : Int) < (w4 (y2 + y3))))) = true then (some (decide ((y12.1.l.length : Int) = 0))) else (some false)))))))) else (if (decide ((w4 ((y1.size : Int) - y3)) < y2)) = true then (if (!decide ((y7.1.l.length : Int) = 0)) = true then (some false) else (if (!decide ((y9.1.l.length : Int) = 0)) = true then (some false) else (if ((decide ((w4 (y2 + y3)) ≤ (y1.size : Int)))) = true then ((af_ y12.1 (⟨false, [⟨(y1.size : Int)⟩]⟩)).bind fun y18 => (if y18 = true then (some true) else (if ((decide ((y1.size : Int) < (w4 (y2 + y3))))) = true then (some (decide ((y12.1.l.length : Int) = 0))) else (some false)))) else (if ((decide ((y1.size : Int) < (w4 (y2 + y3))))) = true then (some (decide ((y12.1.l.length : Int) = 0))) else (some false))))) else (if ((decide ((w4 (y2 + y3)) ≤ (y1.size : Int)))) = true then ((af_ y12.1 (⟨false, [⟨(y1.size : Int)⟩]⟩)).bind fun y19 => (if y19 = true then (some true) else (if ((decide ((y1.size : Int) < (w4 (y2 + y3))))) = true then (some (decide ((y12.1.l.length : Int) = 0))) else (some false)))) else (if ((decide ((y1.size : Int) < (w4 (y2 + y3))))) = true then (some (decide ((y12.1.l.length : Int) = 0))) else (some false)))))) else (if (decide ((y1.size : Int) < y3)) = true then (if (!decide ((y5.1.l.length : Int) = 0)) = true then (some false) else (if (decide (y2 ≤ (w4 ((y1.size : Int) - y3)))) = true then ((af_ y7.1 (⟨false, [⟨(w4 ((y1.size : Int) - y3))⟩]⟩)).bind fun y20 => (if (!y20) = true then (some false) else ((af_ y9.1 (⟨false, [⟨(y1.size : Int)⟩]⟩)).bind fun y21 => (if (!y21) = true then (some false) else (if (decide ((w4 ((y1.size : Int) - y3)) < y2)) = true then (if (!decide ((y7.1.l.length : Int) = 0)) = true then (some false) else (if (!decide ((y9.1.l.length : Int) = 0)) = true then (some false) else (if ((decide ((w4 (y2 + y3)) ≤ (y1.size : Int)))) = true then ((af_ y12.1 (⟨false, [⟨(y1.size : Int)⟩]⟩)).bind fun y22 => (if y22 = true then (some true) else (if ((decide ((y1.size : Int) < (w4 (y2 + y3))))) = true then (some (decide ((y12.1.l.length : Int) = 0))) else (some false)))) else (if ((decide ((y1.size : Int) < (w4 (y2 + y3))))) = true then (some (decide ((y12.1.l.length : Int) = 0))) else (some false))))) else (if ((decide ((w4 (y2 + y3)) ≤ (y1.size : Int)))) = true then ((af_ y12.1 (⟨false, [⟨(y1.size : Int)⟩]⟩)).bind fun y23 => (if y23 = true then (some true) else (if ((decide ((y1.size : Int) < (w4 (y2 + y3))))) = true then (some (decide ((y12.1.l.length : Int) = 0))) else (some false)))) else (if ((decide ((y1.size : Int) < (w4 (y2 + y3))))) = true then (some (decide ((y12.1.l.length : Int) = 0))) else (some false)))))))) else (if (decide ((w4 ((y1.size : Int) - y3)) < y2)) = true then (if (!decide ((y7.1.l.length : Int) = 0)) = true then (some false) else (if (!decide ((y9.1.l.length : Int) = 0)) = true then (some false) else (if ((decide ((w4 (y2 + y3)) ≤ (y1.size : Int)))) = true then ((af_ y12.1 (⟨false, [⟨(y1.size : Int)⟩]⟩)).bind fun y24 => (if y24 = true then (some true) else (if ((decide ((y1.size : Int) < (w4 (y2 + y3))))) = true then (some (decide ((y12.1.l.length : Int) = 0))) else (some false)))) else (if ((decide ((y1.size : Int) < (w4 (y2 + y3))))) = true then (some (decide ((y12.1.l.length : Int) = 0))) else (some false))))) else (if ((decide ((w4 (y2 + y3)) ≤ (y1.size : Int)))) = true then ((af_ y12.1 (⟨false, [⟨(y1.size : Int)⟩]⟩)).bind fun y25 => (if y25 = true then (some true) else (if ((decide ((y1.size : Int) < (w4 (y2 + y3))))) = true then (some (decide ((y12.1.l.length : Int) = 0))) else (some false)))) else (if ((decide ((y1.size : Int) < (w4 (y2 + y3))))) = true then (some (decide ((y12.1.l.length : Int) = 0))) else (some false)))))) else (if (decide (y2 ≤ (w4 ((y1.size : Int) - y3)))) = true then ((af_ y7.1 (⟨false, [⟨(w4 ((y1.size : Int) - y3))⟩]⟩)).bind fun y26 => (if (!y26) = true then (some false) else ((af_ y9.1 (⟨false, [⟨(y1.size : Int)⟩]⟩)).bind fun y27 => (if (!y27) = true then (some false) else (if (decide ((w4 ((y1.size : Int) - y3)) < y2)) = true then (if (!decide ((y7.1.l.length : Int) = 0)) = true then (some false) else (if (!decide ((y9.1.l.length : Int) = 0)) = true then (some false) else (if ((decide ((w4 (y2 + y3)) ≤ (y1.size : Int)))) = true then ((af_ y12.1 (⟨false, [⟨(y1.size : Int)⟩]⟩)).bind fun y28 => (if y28 = true then (some true) else (if ((decide ((y1.size : Int) < (w4 (y2 + y3))))) = true then (some (decide ((y12.1.l.length : Int) = 0))) else (some false)))) else (if ((decide ((y1.size : Int) < (w4 (y2 + y3))))) = true then (some (decide ((y12.1.l.length : Int) = 0))) else (some false))))) else (if ((decide ((w4 (y2 + y3)) ≤ (y1.size : Int)))) = true then ((af_ y12.1 (⟨false, [⟨(y1.size : Int)⟩]⟩)).bind fun y29 => (if y29 = true then (some true) else (if ((decide ((y1.size : Int) < (w4 (y2 + y3))))) = true then (some (decide ((y12.1.l.length : Int) = 0))) else (some false)))) else (if ((decide ((y1.size : Int) < (w4 (y2 + y3))))) = true then (some (decide ((y12.1.l.length : Int) = 0))) else (some false)))))))) else (if (decide ((w4 ((y1.size : Int) - y3)) < y2)) = true then (if (!decide ((y7.1.l.length : Int) = 0)) = true then (some false) else (if (!decide ((y9.1.l.length : Int) = 0)) = true then (some false) else (if ((decide ((w4 (y2 + y3)) ≤ (y1.size : Int)))) = true then ((af_ y12.1 (⟨false, [⟨(y1.size : Int)⟩]⟩)).bind fun y30 => (if y30 = true then (some true) else (if ((decide ((y1.size : Int) < (w4 (y2 + y3))))) = true then (some (decide ((y12.1.l.length : Int) = 0))) else (some false)))) else (if ((decide ((y1.size : Int) < (w4 (y2 + y3))))) = true then (some (decide ((y12.1.l.length : Int) = 0))) else (some false))))) else (if ((decide ((w4 (y2 + y3)) ≤ (y1.size : Int)))) = true then ((af_ y12.1 (⟨false, [⟨(y1.size : Int)⟩]⟩)).bind fun y31 => (if y31 = true then (some true) else (if ((decide ((y1.size : Int) < (w4 (y2 + y3))))) = true then (some (decide ((y12.1.l.length : Int) = 0))) else (some false)))) else (if ((decide ((y1.size : Int) < (w4 (y2 + y3))))) = true then (some (decide ((y12.1.l.length : Int) = 0))) else (some false))))))))) else (if (decide (y3 < y2)) = true then (if (!decide ((y5.1.l.length : Int) = 0)) = true then (some false) else (if (decide (y2 ≤ (w4 ((y1.size : Int) - y3)))) = true then ((af_ y7.1 (⟨false, [⟨(w4 ((y1.size : Int) - y3))⟩]⟩)).bind fun y32 => (if (!y32) = true then (some false) else ((af_ y9.1 (⟨false, [⟨(y1.size : Int)⟩]⟩)).bind fun y33 => (if (!y33) = true then (some false) else (if (decide ((w4 ((y1.size : Int) - y3)) < y2)) = true then (if (!decide ((y7.1.l.length : Int) = 0)) = true then (some false) else (if (!decide ((y9.1.l.length : Int) = 0)) = true then (some false) else (if ((decide ((w4 (y2 + y3)) ≤ (y1.size : Int)))) = true then ((af_ y12.1 (⟨false, [⟨(y1.size : Int)⟩]⟩)).bind fun y34 => (if y34 = true then (some true) else (if ((decide ((y1.size : Int) < (w4 (y2 + y3))))) = true then (some (decide ((y12.1.l.length : Int) = 0))) else (some false)))) else (if ((decide ((y1.size : Int) < (w4 (y2 + y3))))) = true then (some (decide ((y12.1.l.length : Int) = 0))) else (some false))))) else (if ((decide ((w4 (y2 + y3)) ≤ (y1.size : Int)))) = true then ((af_ y12.1 (⟨false, [⟨(y1.size : Int)⟩]⟩)).bind fun y35 => (if y35 = true then (some true) else (if ((decide ((y1.size : Int) < (w4 (y2 + y3))))) = true then (some (decide ((y12.1.l.length : Int) = 0))) else (some false)))) else (if ((decide ((y1.size : Int) < (w4 (y2 + y3))))) = true then (some (decide ((y12.1.l.length : Int) = 0))) else (some false)))))))) else (if (decide ((w4 ((y1.size : Int) - y3)) < y2)) = true then (if (!decide ((y7.1.l.length : Int) = 0)) = true then (some false) else (if (!decide ((y9.1.l.length : Int) = 0)) = true then (some false) else (if ((decide ((w4 (y2 + y3)) ≤ (y1.size : Int)))) = true then ((af_ y12.1 (⟨false, [⟨(y1.size : Int)⟩]⟩)).bind fun y36 => (if y36 = true then (some true) else (if ((decide ((y1.size : Int) < (w4 (y2 + y3))))) = true then (some (decide ((y12.1.l.length : Int) = 0))) else (some false)))) else (if ((decide ((y1.size : Int) < (w4 (y2 + y3))))) = true then (some (decide ((y12.1.l.length : Int) = 0))) else (some false))))) else (if ((decide ((w4 (y2 + y3)) ≤ (y1.size : Int)))) = true then ((af_ y12.1 (⟨false, [⟨(y1.size : Int)⟩]⟩)).bind fun y37 => (if y37 = true then (some true) else (if ((decide ((y1.size : Int) < (w4 (y2 + y3))))) = true then (some (decide ((y12.1.l.length : Int) = 0))) else (some false)))) else (if ((decide ((y1.size : Int) < (w4 (y2 + y3))))) = true then (some (decide ((y12.1.l.length : Int) = 0))) else (some false)))))) else (if (decide ((y1.size : Int) < y3)) = true then (if (!decide ((y5.1.l.length : Int) = 0)) = true then (some false) else (if (decide (y2 ≤ (w4 ((y1.size : Int) - y3)))) = true then ((af_ y7.1 (⟨false, [⟨(w4 ((y1.size : Int) - y3))⟩]⟩)).bind fun y38 => (if (!y38) = true then (some false) else ((af_ y9.1 (⟨false, [⟨(y1.size : Int)⟩]⟩)).bind fun y39 => (if (!y39) = true then (some false) else (if (decide ((w4 ((y1.size : Int) - y3)) < y2)) = true then (if (!decide ((y7.1.l.length : Int) = 0)) = true then (some false) else (if (!decide ((y9.1.l.length : Int) = 0)) = true then (some false) else (if ((decide ((w4 (y2 + y3)) ≤ (y1.size : Int)))) = true then ((af_ y12.1 (⟨false, [⟨(y1.size : Int)⟩]⟩)).bind fun y40 => (if y40 = true then (some true) else (if ((decide ((y1.size : Int) < (w4 (y2 + y3))))) = true then (some (decide ((y12.1.l.length : Int) = 0))) else (some false)))) else (if ((decide ((y1.size : Int) < (w4 (y2 + y3))))) = true then (some (decide ((y12.1.l.length : Int) = 0))) else (some false))))) else (if ((decide ((w4 (y2 + y3)) ≤ (y1.size : Int)))) = true then ((af_ y12.1 (⟨false, [⟨(y1.size : Int)⟩]⟩)).bind fun y41 => (if y41 = true then (some true) else (if ((decide ((y1.size : Int) < (w4 (y2 + y3))))) = true then (some (decide ((y12.1.l.length : Int) = 0))) else (some false)))) else (if ((decide ((y1.size : Int) < (w4 (y2 + y3))))) = true then (some (decide ((y12.1.l.length : Int) = 0))) else (some false)))))))) else (if (decide ((w4 ((y1.size : Int) - y3)) < y2)) = true then (if (!decide ((y7.1.l.length : Int) = 0)) = true then (some false) else (if (!decide ((y9.1.l.length : Int) = 0)) = true then (some false) else (if ((decide ((w4 (y2 + y3)) ≤ (y1.size : Int)))) = true then ((af_ y12.1 (⟨false, [⟨(y1.size : Int)⟩]⟩)).bind fun y42 => (if y42 = true then (some true) else (if ((decide ((y1.size : Int) < (w4 (y2 + y3))))) = true then (some (decide ((y12.1.l.length : Int) = 0))) else (some false)))) else (if ((decide ((y1.size : Int) < (w4 (y2 + y3))))) = true then (some (decide ((y12.1.l.length : Int) = 0))) else (some false))))) else (if ((decide ((w4 (y2 + y3)) ≤ (y1.size : Int)))) = true then ((af_ y12.1 (⟨false, [⟨(y1.size : Int)⟩]⟩)).bind fun y43 => (if y43 = true then (some true) else (if ((decide ((y1.size : Int) < (w4 (y2 + y3))))) = true then (some (decide ((y12.1.l.length : Int) = 0))) else (some false)))) else (if ((decide ((y1.size : Int) < (w4 (y2 + y3))))) = true then (some (decide ((y12.1.l.length : Int) = 0))) else (some false)))))) else (if (decide (y2 ≤ (w4 ((y1.size : Int) - y3)))) = true then ((af_ y7.1 (⟨false, [⟨(w4 ((y1.size : Int) - y3))⟩]⟩)).bind fun y44 => (if (!y44) = true then (some false) else ((af_ y9.1 (⟨false, [⟨(y1.size : Int)⟩]⟩)).bind fun y45 => (if (!y45) = true then (some false) else (if (decide ((w4 ((y1.size : Int) - y3)) < y2)) = true then (if (!decide ((y7.1.l.length : Int) = 0)) = true then (some false) else (if (!decide ((y9.1.l.length : Int) = 0)) = true then (some false) else (if ((decide ((w4 (y2 + y3)) ≤ (y1.size : Int)))) = true then ((af_ y12.1 (⟨false, [⟨(y1.size : Int)⟩]⟩)).bind fun y46 => (if y46 = true then (some true) else (if ((decide ((y1.size : Int) < (w4 (y2 + y3))))) = true then (some (decide ((y12.1.l.length : Int) = 0))) else (some false)))) else (if ((decide ((y1.size : Int) < (w4 (y2 + y3))))) = true then (some (decide ((y12.1.l.length : Int) = 0))) else (some false))))) else (if ((decide ((w4 (y2 + y3)) ≤ (y1.size : Int)))) = true then ((af_ y12.1 (⟨false, [⟨(y1.size : Int)⟩]⟩)).bind fun y47 => (if y47 = true then (some true) else (if ((decide ((y1.size : Int) < (w4 (y2 + y3))))) = true then (some (decide ((y12.1.l.length : Int) = 0))) else (some false)))) else (if ((decide ((y1.size : Int) < (w4 (y2 + y3))))) = true then (some (decide ((y12.1.l.length : Int) = 0))) else (some false)))))))) else (if (decide ((w4 ((y1.size : Int) - y3)) < y2)) = true then (if (!decide ((y7.1.l.length : Int) = 0)) = true then (some false) else (if (!decide ((y9.1.l.length : Int) = 0)) = true then (some false) else (if ((decide ((w4 (y2 + y3)) ≤ (y1.size : Int)))) = true then ((af_ y12.1 (⟨false, [⟨(y1.size : Int)⟩]⟩)).bind fun y48 => (if y48 = true then (some true) else (if ((decide ((y1.size : Int) < (w4 (y2 + y3))))) = true then (some (decide ((y12.1.l.length : Int) = 0))) else (some false)))) else (if ((decide ((y1.size : Int) < (w4 (y2 + y3))))) = true then (some (decide ((y12.1.l.length : Int) = 0))) else (some false))))) else (if ((decide ((w4 (y2 + y3)) ≤ (y1.size : Int)))) = true then ((af_ y12.1 (⟨false, [⟨(y1.size : Int)⟩]⟩)).bind fun y49 => (if y49 = true then (some true) else (if ((decide ((y1.size : Int) < (w4 (y2 + y3))))) = true then (some (decide ((y12.1.l.length : Int) = 0))) else (some false)))) else (if ((decide ((y1.size : Int) < (w4 (y2 + y3))))) = true then (some (decide ((y12.1.l.length : Int) = 0))) else (some false)))))))) else (if (decide (y3 < y2)) = true then (if (!decide ((y5.1.l.length : Int) = 0)) = true then (some false) else (if (decide (y2 ≤ (w4 ((y1.size : Int) - y3)))) = true then ((af_ y7.1 (⟨false, [⟨(w4 ((y1.size : Int) - y3))⟩]⟩)).bind fun y50 => (if (!y50) = true then (some false) else ((af_ y9.1 (⟨false, [⟨(y1.size : Int)⟩]⟩)).bind fun y51 => (if (!y51) = true then (some false) else (if (decide ((w4 ((y1.size : Int) - y3)) < y2)) = true then (if (!decide ((y7.1.l.length : Int) = 0)) = true then (some false) else (if (!decide ((y9.1.l.length : Int) = 0)) = true then (some false) else (if ((decide ((w4 (y2 + y3)) ≤ (y1.size : Int)))) = true then ((af_ y12.1 (⟨false, [⟨(y1.size : Int)⟩]⟩)).bind fun y52 => (if y52 = true then (some true) else (if ((decide ((y1.size : Int) < (w4 (y2 + y3))))) = true then (some (decide ((y12.1.l.length : Int) = 0))) else (some false)))) else (if ((decide ((y1.size : Int) < (w4 (y2 + y3))))) = true then (some (decide ((y12.1.l.length : Int) = 0))) else (some false))))) else (if ((decide ((w4 (y2 + y3)) ≤ (y1.size : Int)))) = true then ((af_ y12.1 (⟨false, [⟨(y1.size : Int)⟩]⟩)).bind fun y53 => (if y53 = true then (some true) else (if ((decide ((y1.size : Int) < (w4 (y2 + y3))))) = true then (some (decide ((y12.1.l.length : Int) = 0))) else (some false)))) else (if ((decide ((y1.size : Int) < (w4 (y2 + y3))))) = true then (some (decide ((y12.1.l.length : Int) = 0))) else (some false)))))))) else (if (decide ((w4 ((y1.size : Int) - y3)) < y2)) = true then (if (!decide ((y7.1.l.length : Int) = 0)) = true then (some false) else (if (!decide ((y9.1.l.length : Int) = 0)) = true then (some false) else (if ((decide ((w4 (y2 + y3)) ≤ (y1.size : Int)))) = true then ((af_ y12.1 (⟨false, [⟨(y1.size : Int)⟩]⟩)).bind fun y54 => (if y54 = true then (some true) else (if ((decide ((y1.size : Int) < (w4 (y2 + y3))))) = true then (some (decide ((y12.1.l.length : Int) = 0))) else (some false)))) else (if ((decide ((y1.size : Int) < (w4 (y2 + y3))))) = true then (some (decide ((y12.1.l.length : Int) = 0))) else (some false))))) else (if ((decide ((w4 (y2 + y3)) ≤ (y1.size : Int)))) = true then ((af_ y12.1 (⟨false, [⟨(y1.size : Int)⟩]⟩)).bind fun y55 => (if y55 = true then (some true) else (if ((decide ((y1.size : Int) < (w4 (y2 + y3))))) = true then (some (decide ((y12.1.l.length : Int) = 0))) else (some false)))) else (if ((decide ((y1.size : Int) < (w4 (y2 + y3))))) = true then (some (decide ((y12.1.l.length : Int) = 0))) else (some false)))))) else (if (decide ((y1.size : Int) < y3)) = true then (if (!decide ((y5.1.l.length : Int) = 0)) = true then (some false) else (if (decide (y2 ≤ (w4 ((y1.size : Int) - y3)))) = true then ((af_ y7.1 (⟨false, [⟨(w4 ((y1.size : Int) - y3))⟩]⟩)).bind fun y56 => (if (!y56) = true then (some false) else ((af_ y9.1 (⟨false, [⟨(y1.size : Int)⟩]⟩)).bind fun y57 => (if (!y57) = true then (some false) else (if (decide ((w4 ((y1.size : Int) - y3)) < y2)) = true then (if (!decide ((y7.1.l.length : Int) = 0)) = true then (some false) else (if (!decide ((y9.1.l.length : Int) = 0)) = true then (some false) else (if ((decide ((w4 (y2 + y3)) ≤ (y1.size : Int)))) = true then ((af_ y12.1 (⟨false, [⟨(y1.size : Int)⟩]⟩)).bind fun y58 => (if y58 = true then (some true) else (if ((decide ((y1.size : Int) < (w4 (y2 + y3))))) = true then (some (decide ((y12.1.l.length : Int) = 0))) else (some false)))) else (if ((decide ((y1.size : Int) < (w4 (y2 + y3))))) = true then (some (decide ((y12.1.l.length : Int) = 0))) else (some false))))) else (if ((decide ((w4 (y2 + y3)) ≤ (y1.size : Int)))) = true then ((af_ y12.1 (⟨false, [⟨(y1.size : Int)⟩]⟩)).bind fun y59 => (if y59 = true then (some true) else (if ((decide ((y1.size : Int) < (w4 (y2 + y3))))) = true then (some (decide ((y12.1.l.length : Int) = 0))) else (some false)))) else (if ((decide ((y1.size : Int) < (w4 (y2 + y3))))) = true then (some (decide ((y12.1.l.length : Int) = 0))) else (some false)))))))) else (if (decide ((w4 ((y1.size : Int) - y3)) < y2)) = true then (if (!decide ((y7.1.l.length : Int) = 0)) = true then (some false) else (if (!decide ((y9.1.l.length : Int) = 0)) = true then (some false) else (if ((decide ((w4 (y2 + y3)) ≤ (y1.size : Int)))) = true then ((af_ y12.1 (⟨false, [⟨(y1.size : Int)⟩]⟩)).bind fun y60 => (if y60 = true then (some true) else (if ((decide ((y1.size : Int) < (w4 (y2 + y3))))) = true then (some (decide ((y12.1.l.length : Int) = 0))) else (some false)))) else (if ((decide ((y1.size : Int) < (w4 (y2 + y3))))) = true then (some (decide ((y12.1.l.length : Int) = 0))) else (some false))))) else (if ((decide ((w4 (y2 + y3)) ≤ (y1.size : Int)))) = true then ((af_ y12.1 (⟨false, [⟨(y1.size : Int)⟩]⟩)).bind fun y61 => (if y61 = true then (some true) else (if ((decide ((y1.size : Int) < (w4 (y2 + y3))))) = true then (some (decide ((y12.1.l.length : Int) = 0))) else (some false)))) else (if ((decide ((y1.size : Int) < (w4 (y2 + y3))))) = true then (some (decide ((y12.1.l.length : Int) = 0))) else (some false)))))) else (if (decide (y2 ≤ (w4 ((y1.size : Int) - y3)))) = true then ((af_ y7.1 (⟨false, [⟨(w4 ((y1.size : Int) - y3))⟩]⟩)).bind fun y62 => (if (!y62) = true then (some false) else ((af_ y9.1 (⟨false, [⟨(y1.size : Int)⟩]⟩)).bind fun y63 => (if (!y63) = true then (some false) else (if (decide ((w4 ((y1.size : Int) - y3)) < y2)) = true then (if (!decide ((y7.1.l.length : Int) = 0)) = true then (some false) else (if (!decide ((y9.1.l.length : Int) = 0)) = true then (some false) else (if ((decide ((w4 (y2 + y3)) ≤ (y1.size : Int)))) = true then ((af_ y12.1 (⟨false, [⟨(y1.size : Int)⟩]⟩)).bind fun y64 => (if y64 = true then (some true) else (if ((decide ((y1.size : Int) < (w4 (y2 + y3))))) = true then (some (decide ((y12.1.l.length : Int) = 0))) else (some false)))) else (if ((decide ((y1.size : Int) < (w4 (y2 + y3))))) = true then (some (decide ((y12.1.l.length : Int) = 0))) else (some false))))) else (if ((decide ((w4 (y2 + y3)) ≤ (y1.size : Int)))) = true then ((af_ y12.1 (⟨false, [⟨(y1.size : Int)⟩]⟩)).bind fun y65 => (if y65 = true then (some true) else (if ((decide ((y1.size : Int) < (w4 (y2 + y3))))) = true then (some (decide ((y12.1.l.length : Int) = 0))) else (some false)))) else (if ((decide ((y1.size : Int) < (w4 (y2 + y3))))) = true then (some (decide ((y12.1.l.length : Int) = 0))) else (some false)))))))) else (if (decide ((w4 ((y1.size : Int) - y3)) < y2)) = true then (if (!decide ((y7.1.l.length : Int) = 0)) = true then (some false) else (if (!decide ((y9.1.l.length : Int) = 0)) = true then (some false) else (if ((decide ((w4 (y2 + y3)) ≤ (y1.size : Int)))) = true then ((af_ y12.1 (⟨false, [⟨(y1.size : Int)⟩]⟩)).bind fun y66 => (if y66 = true then (some true) else (if ((decide ((y1.size : Int) < (w4 (y2 + y3))))) = true then (some (decide ((y12.1.l.length : Int) = 0))) else (some false)))) else (if ((decide ((y1.size : Int) < (w4 (y2 + y3))))) = true then (some (decide ((y12.1.l.length : Int) = 0))) else (some false))))) else (if ((decide ((w4 (y2 + y3)) ≤ (y1.size : Int)))) = true then ((af_ y12.1 (⟨false, [⟨(y1.size : Int)⟩]⟩)).bind fun y67 => (if y67 = true then (some true) else (if ((decide ((y1.size : Int) < (w4 (y2 + y3))))) = true then (some (decide ((y12.1.l.length : Int) = 0))) else (some false)))) else (if ((decide ((y1.size : Int) < (w4 (y2 + y3))))) = true then (some (decide ((y12.1.l.length : Int) = 0))) else (some false)))))))))))))))))))))))))
theorem gv_ (a0 : (Sl (Iv .u8))) (r : Bool) (h : cY_ a0 = some r) : eB_ a0 = some r := by
 unfold cY_ at h
 refine k_W ok_11 E_bool_inj h (fun σ0 => ?_)
 refine t_RN ?_
 refine t_RN ?_
 refine t_if (fun hc1 => ?_) fun hc1 => ?_
 ·refine t_RN ?_
  exact k_eW (rT rN) E_bool_p
 refine t_RU 1 ?_
 refine ao_ fun y1 hy1 => ?_
 refine t_N ?_
 refine t_RN ?_
 refine t_RU 3 ?_
 refine ao_ fun y2 hy2 => ?_
 refine t_N ?_
 refine t_RU 3 ?_
 refine ao_ fun y3 hy3 => ?_
 refine t_N ?_
 refine t_RU 2 ?_
 refine b8_ fun b1 => ?_
 refine bk_ 0 ?_
 refine t_N ?_
 refine t_RU 2 ?_
 refine b8_ fun b2 => ?_
 refine bk_ 0 ?_
 refine t_N ?_
 refine t_RU 2 ?_
 refine b8_ fun b3 => ?_
 refine bk_ 0 ?_
 refine t_N ?_
 refine t_RU 2 ?_
 refine b8_ fun b4 => ?_
 refine bk_ 0 ?_
 refine t_N ?_
 refine t_RU 2 ?_
 refine b8_ fun b5 => ?_
 refine bk_ 0 ?_
 refine t_N ?_
 refine t_R ?_
 refine ab_ 4 ?_
 refine ab_ 3 ?_
 refine ao_ fun y4 hy4 => ?_
 refine t_U 2 ?_
 refine ao_ fun y5 hy5 => ?_
 refine t_N ?_
 refine t_R ?_
 refine ab_ 2 ?_
 refine ab_ 1 ?_
 refine ao_ fun y6 hy6 => ?_
 refine t_U 2 ?_
 refine ao_ fun y7 hy7 => ?_
 refine t_N ?_
 refine t_R ?_
 refine ab_ 2 ?_
 refine ab_ 0 ?_
 refine ao_ fun y8 hy8 => ?_
 refine t_U 2 ?_
 refine ao_ fun y9 hy9 => ?_
 refine t_N ?_
 refine t_D fun mb => ?_
 refine ab_ 0 ?_
 refine ao_ fun y10 hy10 => ?_
 refine ao_ fun y11 hy11 => ?_
 refine t_U 2 ?_
 refine ao_ fun y12 hy12 => ?_
 refine t_N ?_
 refine t_RU 3 ?_
 refine ae_ 83 (fun hc2 => ?_) fun hc2 => ?_
 ·refine t_N ?_
  refine t_cT rfl ?_
  refine t_RN ?_
  exact k_eW (rT rN) E_bool_p
 refine t_U 4 ?_
 refine ae_ 87 (fun hc3 => ?_) fun hc3 => ?_
 ·refine t_N ?_
  refine t_cT rfl ?_
  refine t_RN ?_
  exact k_eW (rT rN) E_bool_p
 refine t_U 4 ?_
 refine ae_ 91 (fun hc4 => ?_) fun hc4 => ?_
 ·refine t_N ?_
  refine t_cT rfl ?_
  refine t_RN ?_
  exact k_eW (rT rN) E_bool_p
 refine t_N ?_
 refine t_if (fun hc5 => ?_) fun hc5 => ?_
 ·refine t_RN ?_
  exact k_eW (rT rN) E_bool_p
 refine t_RU 4 ?_
 refine ae_ 98 (fun hc6 => ?_) fun hc6 => ?_
 ·refine t_U 5 ?_
  refine ae_ 103 (fun hc7 => ?_) fun hc7 => ?_
  ·refine t_U 2 ?_
   refine k_bs (z := true) (⟨false, [⟨y3⟩]⟩ : Sl (Iv .i64)) (fun t1 ht1 => ?_)
   refine ar_ (fun y13 hy13 => ?_)
   refine t_U 3 ?_
   refine ae_ 110 (fun hc8 => ?_) fun hc8 => ?_
   ·refine t_N ?_
    refine t_cT rfl ?_
    refine t_RN ?_
    exact k_eW (rT rN) E_bool_p
   refine t_U 4 ?_
   refine ae_ 114 (fun hc9 => ?_) fun hc9 => ?_
   ·refine t_N ?_
    refine t_if (fun hc10 => ?_) fun hc10 => ?_
    ·refine t_RN ?_
     exact k_eW (rT rN) E_bool_p
    refine t_RU 6 ?_
    refine ae_ 130 (fun hc11 => ?_) fun hc11 => ?_
    ·refine t_U 4 ?_
     refine k_bs (z := true) (⟨false, [⟨(w4 ((y1.size : Int) - y3))⟩]⟩ : Sl (Iv .i64)) (fun t2 ht2 => ?_)
     refine ar_ (fun y14 hy14 => ?_)
     refine t_U 2 ?_
     refine ae_ 138 (fun hc12 => ?_) fun hc12 => ?_
     ·refine t_N ?_
      refine t_cT rfl ?_
      refine t_RN ?_
      exact k_eW (rT rN) E_bool_p
     refine t_U 2 ?_
     refine k_bs (z := true) (⟨false, [⟨(y1.size : Int)⟩]⟩ : Sl (Iv .i64)) (fun t3 ht3 => ?_)
     refine ar_ (fun y15 hy15 => ?_)
     refine t_U 4 ?_
     refine ae_ 146 (fun hc13 => ?_) fun hc13 => ?_
     ·refine t_N ?_
      refine t_cT rfl ?_
      refine t_RN ?_
      exact k_eW (rT rN) E_bool_p
     refine t_U 6 ?_
     refine ae_ 152 (fun hc14 => ?_) fun hc14 => ?_
     ·refine t_U 4 ?_
      refine ae_ 156 (fun hc15 => ?_) fun hc15 => ?_
      ·refine t_N ?_
       refine t_cT rfl ?_
       refine t_RN ?_
       exact k_eW (rT rN) E_bool_p
      refine t_N ?_
      refine t_if (fun hc16 => ?_) fun hc16 => ?_
      ·refine t_RN ?_
       exact k_eW (rT rN) E_bool_p
      refine t_RU 6 ?_
      refine ae_ 168 (fun hc17 => ?_) fun hc17 => ?_
      ·refine t_U 2 ?_
       refine k_bs (z := true) (⟨false, [⟨(y1.size : Int)⟩]⟩ : Sl (Iv .i64)) (fun t4 ht4 => ?_)
       refine ar_ (fun y16 hy16 => ?_)
       refine t_U 2 ?_
       refine ae_ 174 (fun hc18 => ?_) fun hc18 => ?_
       ·refine t_N ?_
        exact k_eW (rT rN) E_bool_p
       refine t_U 6 ?_
       refine ae_ 180 (fun hc19 => ?_) fun hc19 => ?_
       ·refine t_N ?_
        exact k_eW (rT rN) E_bool_p
       refine t_N ?_
       exact k_eW (rT rN) E_bool_p
      refine t_U 12 ?_
      refine ae_ 180 (fun hc20 => ?_) fun hc20 => ?_
      ·refine t_N ?_
       exact k_eW (rT rN) E_bool_p
      refine t_N ?_
      exact k_eW (rT rN) E_bool_p
     refine t_N ?_
     refine t_cF ff_ne ?_
     refine t_RU 6 ?_
     refine ae_ 168 (fun hc21 => ?_) fun hc21 => ?_
     ·refine t_U 2 ?_
      refine k_bs (z := true) (⟨false, [⟨(y1.size : Int)⟩]⟩ : Sl (Iv .i64)) (fun t5 ht5 => ?_)
      refine ar_ (fun y17 hy17 => ?_)
      refine t_U 2 ?_
      refine ae_ 174 (fun hc22 => ?_) fun hc22 => ?_
      ·refine t_N ?_
       exact k_eW (rT rN) E_bool_p
      refine t_U 6 ?_
      refine ae_ 180 (fun hc23 => ?_) fun hc23 => ?_
      ·refine t_N ?_
       exact k_eW (rT rN) E_bool_p
      refine t_N ?_
      exact k_eW (rT rN) E_bool_p
     refine t_U 12 ?_
     refine ae_ 180 (fun hc24 => ?_) fun hc24 => ?_
     ·refine t_N ?_
      exact k_eW (rT rN) E_bool_p
     refine t_N ?_
     exact k_eW (rT rN) E_bool_p
    refine t_U 22 ?_
    refine ae_ 152 (fun hc25 => ?_) fun hc25 => ?_
    ·refine t_U 4 ?_
     refine ae_ 156 (fun hc26 => ?_) fun hc26 => ?_
     ·refine t_N ?_
      refine t_cT rfl ?_
      refine t_RN ?_
      exact k_eW (rT rN) E_bool_p
     refine t_N ?_
     refine t_if (fun hc27 => ?_) fun hc27 => ?_
     ·refine t_RN ?_
      exact k_eW (rT rN) E_bool_p
     refine t_RU 6 ?_
     refine ae_ 168 (fun hc28 => ?_) fun hc28 => ?_
     ·refine t_U 2 ?_
      refine k_bs (z := true) (⟨false, [⟨(y1.size : Int)⟩]⟩ : Sl (Iv .i64)) (fun t6 ht6 => ?_)
      refine ar_ (fun y18 hy18 => ?_)
      refine t_U 2 ?_
      refine ae_ 174 (fun hc29 => ?_) fun hc29 => ?_
      ·refine t_N ?_
       exact k_eW (rT rN) E_bool_p
      refine t_U 6 ?_
      refine ae_ 180 (fun hc30 => ?_) fun hc30 => ?_
      ·refine t_N ?_
       exact k_eW (rT rN) E_bool_p
      refine t_N ?_
      exact k_eW (rT rN) E_bool_p
     refine t_U 12 ?_
     refine ae_ 180 (fun hc31 => ?_) fun hc31 => ?_
     ·refine t_N ?_
      exact k_eW (rT rN) E_bool_p
     refine t_N ?_
     exact k_eW (rT rN) E_bool_p
    refine t_N ?_
    refine t_cF ff_ne ?_
    refine t_RU 6 ?_
    refine ae_ 168 (fun hc32 => ?_) fun hc32 => ?_
    ·refine t_U 2 ?_
     refine k_bs (z := true) (⟨false, [⟨(y1.size : Int)⟩]⟩ : Sl (Iv .i64)) (fun t7 ht7 => ?_)
     refine ar_ (fun y19 hy19 => ?_)
     refine t_U 2 ?_
     refine ae_ 174 (fun hc33 => ?_) fun hc33 => ?_
     ·refine t_N ?_
      exact k_eW (rT rN) E_bool_p
     refine t_U 6 ?_
     refine ae_ 180 (fun hc34 => ?_) fun hc34 => ?_
     ·refine t_N ?_
      exact k_eW (rT rN) E_bool_p
     refine t_N ?_
     exact k_eW (rT rN) E_bool_p
    refine t_U 12 ?_
    refine ae_ 180 (fun hc35 => ?_) fun hc35 => ?_
    ·refine t_N ?_
     exact k_eW (rT rN) E_bool_p
    refine t_N ?_
    exact k_eW (rT rN) E_bool_p
   refine t_U 5 ?_
   refine ae_ 119 (fun hc36 => ?_) fun hc36 => ?_
   ·refine t_N ?_
    refine t_if (fun hc37 => ?_) fun hc37 => ?_
    ·refine t_RN ?_
     exact k_eW (rT rN) E_bool_p
    refine t_RU 6 ?_
    refine ae_ 130 (fun hc38 => ?_) fun hc38 => ?_
    ·refine t_U 4 ?_
     refine k_bs (z := true) (⟨false, [⟨(w4 ((y1.size : Int) - y3))⟩]⟩ : Sl (Iv .i64)) (fun t8 ht8 => ?_)
     refine ar_ (fun y20 hy20 => ?_)
     refine t_U 2 ?_
     refine ae_ 138 (fun hc39 => ?_) fun hc39 => ?_
     ·refine t_N ?_
      refine t_cT rfl ?_
      refine t_RN ?_
      exact k_eW (rT rN) E_bool_p
     refine t_U 2 ?_
     refine k_bs (z := true) (⟨false, [⟨(y1.size : Int)⟩]⟩ : Sl (Iv .i64)) (fun t9 ht9 => ?_)
     refine ar_ (fun y21 hy21 => ?_)
     refine t_U 4 ?_
     refine ae_ 146 (fun hc40 => ?_) fun hc40 => ?_
     ·refine t_N ?_
      refine t_cT rfl ?_
      refine t_RN ?_
      exact k_eW (rT rN) E_bool_p
     refine t_U 6 ?_
     refine ae_ 152 (fun hc41 => ?_) fun hc41 => ?_
     ·refine t_U 4 ?_
      refine ae_ 156 (fun hc42 => ?_) fun hc42 => ?_
      ·refine t_N ?_
       refine t_cT rfl ?_
       refine t_RN ?_
       exact k_eW (rT rN) E_bool_p
      refine t_N ?_
      refine t_if (fun hc43 => ?_) fun hc43 => ?_
      ·refine t_RN ?_
       exact k_eW (rT rN) E_bool_p
      refine t_RU 6 ?_
      refine ae_ 168 (fun hc44 => ?_) fun hc44 => ?_
      ·refine t_U 2 ?_
       refine k_bs (z := true) (⟨false, [⟨(y1.size : Int)⟩]⟩ : Sl (Iv .i64)) (fun t10 ht10 => ?_)
       refine ar_ (fun y22 hy22 => ?_)
       refine t_U 2 ?_
       refine ae_ 174 (fun hc45 => ?_) fun hc45 => ?_
       ·refine t_N ?_
        exact k_eW (rT rN) E_bool_p
       refine t_U 6 ?_
       refine ae_ 180 (fun hc46 => ?_) fun hc46 => ?_
       ·refine t_N ?_
        exact k_eW (rT rN) E_bool_p
       refine t_N ?_
       exact k_eW (rT rN) E_bool_p
      refine t_U 12 ?_
      refine ae_ 180 (fun hc47 => ?_) fun hc47 => ?_
      ·refine t_N ?_
       exact k_eW (rT rN) E_bool_p
      refine t_N ?_
      exact k_eW (rT rN) E_bool_p
     refine t_N ?_
     refine t_cF ff_ne ?_
     refine t_RU 6 ?_
     refine ae_ 168 (fun hc48 => ?_) fun hc48 => ?_
     ·refine t_U 2 ?_
      refine k_bs (z := true) (⟨false, [⟨(y1.size : Int)⟩]⟩ : Sl (Iv .i64)) (fun t11 ht11 => ?_)
      refine ar_ (fun y23 hy23 => ?_)
      refine t_U 2 ?_
      refine ae_ 174 (fun hc49 => ?_) fun hc49 => ?_
      ·refine t_N ?_
       exact k_eW (rT rN) E_bool_p
      refine t_U 6 ?_
      refine ae_ 180 (fun hc50 => ?_) fun hc50 => ?_
      ·refine t_N ?_
       exact k_eW (rT rN) E_bool_p
      refine t_N ?_
      exact k_eW (rT rN) E_bool_p
     refine t_U 12 ?_
     refine ae_ 180 (fun hc51 => ?_) fun hc51 => ?_
     ·refine t_N ?_
      exact k_eW (rT rN) E_bool_p
     refine t_N ?_
     exact k_eW (rT rN) E_bool_p
    refine t_U 22 ?_
    refine ae_ 152 (fun hc52 => ?_) fun hc52 => ?_
    ·refine t_U 4 ?_
     refine ae_ 156 (fun hc53 => ?_) fun hc53 => ?_
     ·refine t_N ?_
      refine t_cT rfl ?_
      refine t_RN ?_
      exact k_eW (rT rN) E_bool_p
     refine t_N ?_
     refine t_if (fun hc54 => ?_) fun hc54 => ?_
     ·refine t_RN ?_
      exact k_eW (rT rN) E_bool_p
     refine t_RU 6 ?_
     refine ae_ 168 (fun hc55 => ?_) fun hc55 => ?_
     ·refine t_U 2 ?_
      refine k_bs (z := true) (⟨false, [⟨(y1.size : Int)⟩]⟩ : Sl (Iv .i64)) (fun t12 ht12 => ?_)
      refine ar_ (fun y24 hy24 => ?_)
      refine t_U 2 ?_
      refine ae_ 174 (fun hc56 => ?_) fun hc56 => ?_
      ·refine t_N ?_
       exact k_eW (rT rN) E_bool_p
      refine t_U 6 ?_
      refine ae_ 180 (fun hc57 => ?_) fun hc57 => ?_
      ·refine t_N ?_
       exact k_eW (rT rN) E_bool_p
      refine t_N ?_
      exact k_eW (rT rN) E_bool_p
     refine t_U 12 ?_
     refine ae_ 180 (fun hc58 => ?_) fun hc58 => ?_
     ·refine t_N ?_
      exact k_eW (rT rN) E_bool_p
     refine t_N ?_
     exact k_eW (rT rN) E_bool_p
    refine t_N ?_
    refine t_cF ff_ne ?_
    refine t_RU 6 ?_
    refine ae_ 168 (fun hc59 => ?_) fun hc59 => ?_
    ·refine t_U 2 ?_
     refine k_bs (z := true) (⟨false, [⟨(y1.size : Int)⟩]⟩ : Sl (Iv .i64)) (fun t13 ht13 => ?_)
     refine ar_ (fun y25 hy25 => ?_)
     refine t_U 2 ?_
     refine ae_ 174 (fun hc60 => ?_) fun hc60 => ?_
     ·refine t_N ?_
      exact k_eW (rT rN) E_bool_p
     refine t_U 6 ?_
     refine ae_ 180 (fun hc61 => ?_) fun hc61 => ?_
     ·refine t_N ?_
      exact k_eW (rT rN) E_bool_p
     refine t_N ?_
     exact k_eW (rT rN) E_bool_p
    refine t_U 12 ?_
    refine ae_ 180 (fun hc62 => ?_) fun hc62 => ?_
    ·refine t_N ?_
     exact k_eW (rT rN) E_bool_p
    refine t_N ?_
    exact k_eW (rT rN) E_bool_p
   refine t_N ?_
   refine t_cF ff_ne ?_
   refine t_RU 6 ?_
   refine ae_ 130 (fun hc63 => ?_) fun hc63 => ?_
   ·refine t_U 4 ?_
    refine k_bs (z := true) (⟨false, [⟨(w4 ((y1.size : Int) - y3))⟩]⟩ : Sl (Iv .i64)) (fun t14 ht14 => ?_)
    refine ar_ (fun y26 hy26 => ?_)
    refine t_U 2 ?_
    refine ae_ 138 (fun hc64 => ?_) fun hc64 => ?_
    ·refine t_N ?_
     refine t_cT rfl ?_
     refine t_RN ?_
     exact k_eW (rT rN) E_bool_p
    refine t_U 2 ?_
    refine k_bs (z := true) (⟨false, [⟨(y1.size : Int)⟩]⟩ : Sl (Iv .i64)) (fun t15 ht15 => ?_)
    refine ar_ (fun y27 hy27 => ?_)
    refine t_U 4 ?_
    refine ae_ 146 (fun hc65 => ?_) fun hc65 => ?_
    ·refine t_N ?_
     refine t_cT rfl ?_
     refine t_RN ?_
     exact k_eW (rT rN) E_bool_p
    refine t_U 6 ?_
    refine ae_ 152 (fun hc66 => ?_) fun hc66 => ?_
    ·refine t_U 4 ?_
     refine ae_ 156 (fun hc67 => ?_) fun hc67 => ?_
     ·refine t_N ?_
      refine t_cT rfl ?_
      refine t_RN ?_
      exact k_eW (rT rN) E_bool_p
     refine t_N ?_
     refine t_if (fun hc68 => ?_) fun hc68 => ?_
     ·refine t_RN ?_
      exact k_eW (rT rN) E_bool_p
     refine t_RU 6 ?_
     refine ae_ 168 (fun hc69 => ?_) fun hc69 => ?_
     ·refine t_U 2 ?_
      refine k_bs (z := true) (⟨false, [⟨(y1.size : Int)⟩]⟩ : Sl (Iv .i64)) (fun t16 ht16 => ?_)
      refine ar_ (fun y28 hy28 => ?_)
      refine t_U 2 ?_
      refine ae_ 174 (fun hc70 => ?_) fun hc70 => ?_
      ·refine t_N ?_
       exact k_eW (rT rN) E_bool_p
      refine t_U 6 ?_
      refine ae_ 180 (fun hc71 => ?_) fun hc71 => ?_
      ·refine t_N ?_
       exact k_eW (rT rN) E_bool_p
      refine t_N ?_
      exact k_eW (rT rN) E_bool_p
     refine t_U 12 ?_
     refine ae_ 180 (fun hc72 => ?_) fun hc72 => ?_
     ·refine t_N ?_
      exact k_eW (rT rN) E_bool_p
     refine t_N ?_
     exact k_eW (rT rN) E_bool_p
    refine t_N ?_
    refine t_cF ff_ne ?_
    refine t_RU 6 ?_
    refine ae_ 168 (fun hc73 => ?_) fun hc73 => ?_
    ·refine t_U 2 ?_
     refine k_bs (z := true) (⟨false, [⟨(y1.size : Int)⟩]⟩ : Sl (Iv .i64)) (fun t17 ht17 => ?_)
     refine ar_ (fun y29 hy29 => ?_)
     refine t_U 2 ?_
     refine ae_ 174 (fun hc74 => ?_) fun hc74 => ?_
     ·refine t_N ?_
      exact k_eW (rT rN) E_bool_p
     refine t_U 6 ?_
     refine ae_ 180 (fun hc75 => ?_) fun hc75 => ?_
     ·refine t_N ?_
      exact k_eW (rT rN) E_bool_p
     refine t_N ?_
     exact k_eW (rT rN) E_bool_p
    refine t_U 12 ?_
    refine ae_ 180 (fun hc76 => ?_) fun hc76 => ?_
    ·refine t_N ?_
     exact k_eW (rT rN) E_bool_p
    refine t_N ?_
    exact k_eW (rT rN) E_bool_p
   refine t_U 22 ?_
   refine ae_ 152 (fun hc77 => ?_) fun hc77 => ?_
   ·refine t_U 4 ?_
    refine ae_ 156 (fun hc78 => ?_) fun hc78 => ?_
    ·refine t_N ?_
     refine t_cT rfl ?_
     refine t_RN ?_
     exact k_eW (rT rN) E_bool_p
    refine t_N ?_
    refine t_if (fun hc79 => ?_) fun hc79 => ?_
    ·refine t_RN ?_
     exact k_eW (rT rN) E_bool_p
    refine t_RU 6 ?_
    refine ae_ 168 (fun hc80 => ?_) fun hc80 => ?_
    ·refine t_U 2 ?_
     refine k_bs (z := true) (⟨false, [⟨(y1.size : Int)⟩]⟩ : Sl (Iv .i64)) (fun t18 ht18 => ?_)
     refine ar_ (fun y30 hy30 => ?_)
     refine t_U 2 ?_
     refine ae_ 174 (fun hc81 => ?_) fun hc81 => ?_
     ·refine t_N ?_
      exact k_eW (rT rN) E_bool_p
     refine t_U 6 ?_
     refine ae_ 180 (fun hc82 => ?_) fun hc82 => ?_
     ·refine t_N ?_
      exact k_eW (rT rN) E_bool_p
     refine t_N ?_
     exact k_eW (rT rN) E_bool_p
    refine t_U 12 ?_
    refine ae_ 180 (fun hc83 => ?_) fun hc83 => ?_
    ·refine t_N ?_
     exact k_eW (rT rN) E_bool_p
    refine t_N ?_
    exact k_eW (rT rN) E_bool_p
   refine t_N ?_
   refine t_cF ff_ne ?_
   refine t_RU 6 ?_
   refine ae_ 168 (fun hc84 => ?_) fun hc84 => ?_
   ·refine t_U 2 ?_
    refine k_bs (z := true) (⟨false, [⟨(y1.size : Int)⟩]⟩ : Sl (Iv .i64)) (fun t19 ht19 => ?_)
    refine ar_ (fun y31 hy31 => ?_)
    refine t_U 2 ?_
    refine ae_ 174 (fun hc85 => ?_) fun hc85 => ?_
    ·refine t_N ?_
     exact k_eW (rT rN) E_bool_p
    refine t_U 6 ?_
    refine ae_ 180 (fun hc86 => ?_) fun hc86 => ?_
    ·refine t_N ?_
     exact k_eW (rT rN) E_bool_p
    refine t_N ?_
    exact k_eW (rT rN) E_bool_p
   refine t_U 12 ?_
   refine ae_ 180 (fun hc87 => ?_) fun hc87 => ?_
   ·refine t_N ?_
    exact k_eW (rT rN) E_bool_p
   refine t_N ?_
   exact k_eW (rT rN) E_bool_p
  refine t_U 11 ?_
  refine ae_ 114 (fun hc88 => ?_) fun hc88 => ?_
  ·refine t_N ?_
   refine t_if (fun hc89 => ?_) fun hc89 => ?_
   ·refine t_RN ?_
    exact k_eW (rT rN) E_bool_p
   refine t_RU 6 ?_
   refine ae_ 130 (fun hc90 => ?_) fun hc90 => ?_
   ·refine t_U 4 ?_
    refine k_bs (z := true) (⟨false, [⟨(w4 ((y1.size : Int) - y3))⟩]⟩ : Sl (Iv .i64)) (fun t20 ht20 => ?_)
    refine ar_ (fun y32 hy32 => ?_)
    refine t_U 2 ?_
    refine ae_ 138 (fun hc91 => ?_) fun hc91 => ?_
    ·refine t_N ?_
     refine t_cT rfl ?_
     refine t_RN ?_
     exact k_eW (rT rN) E_bool_p
    refine t_U 2 ?_
    refine k_bs (z := true) (⟨false, [⟨(y1.size : Int)⟩]⟩ : Sl (Iv .i64)) (fun t21 ht21 => ?_)
    refine ar_ (fun y33 hy33 => ?_)
    refine t_U 4 ?_
    refine ae_ 146 (fun hc92 => ?_) fun hc92 => ?_
    ·refine t_N ?_
     refine t_cT rfl ?_
     refine t_RN ?_
     exact k_eW (rT rN) E_bool_p
    refine t_U 6 ?_
    refine ae_ 152 (fun hc93 => ?_) fun hc93 => ?_
    ·refine t_U 4 ?_
     refine ae_ 156 (fun hc94 => ?_) fun hc94 => ?_
     ·refine t_N ?_
      refine t_cT rfl ?_
      refine t_RN ?_
      exact k_eW (rT rN) E_bool_p
     refine t_N ?_
     refine t_if (fun hc95 => ?_) fun hc95 => ?_
     ·refine t_RN ?_
      exact k_eW (rT rN) E_bool_p
     refine t_RU 6 ?_
     refine ae_ 168 (fun hc96 => ?_) fun hc96 => ?_
     ·refine t_U 2 ?_
      refine k_bs (z := true) (⟨false, [⟨(y1.size : Int)⟩]⟩ : Sl (Iv .i64)) (fun t22 ht22 => ?_)
      refine ar_ (fun y34 hy34 => ?_)
      refine t_U 2 ?_
      refine ae_ 174 (fun hc97 => ?_) fun hc97 => ?_
      ·refine t_N ?_
       exact k_eW (rT rN) E_bool_p
      refine t_U 6 ?_
      refine ae_ 180 (fun hc98 => ?_) fun hc98 => ?_
      ·refine t_N ?_
       exact k_eW (rT rN) E_bool_p
      refine t_N ?_
      exact k_eW (rT rN) E_bool_p
     refine t_U 12 ?_
     refine ae_ 180 (fun hc99 => ?_) fun hc99 => ?_
     ·refine t_N ?_
      exact k_eW (rT rN) E_bool_p
     refine t_N ?_
     exact k_eW (rT rN) E_bool_p
    refine t_N ?_
    refine t_cF ff_ne ?_
    refine t_RU 6 ?_
    refine ae_ 168 (fun hc100 => ?_) fun hc100 => ?_
    ·refine t_U 2 ?_
     refine k_bs (z := true) (⟨false, [⟨(y1.size : Int)⟩]⟩ : Sl (Iv .i64)) (fun t23 ht23 => ?_)
     refine ar_ (fun y35 hy35 => ?_)
     refine t_U 2 ?_
     refine ae_ 174 (fun hc101 => ?_) fun hc101 => ?_
     ·refine t_N ?_
      exact k_eW (rT rN) E_bool_p
     refine t_U 6 ?_
     refine ae_ 180 (fun hc102 => ?_) fun hc102 => ?_
     ·refine t_N ?_
      exact k_eW (rT rN) E_bool_p
     refine t_N ?_
     exact k_eW (rT rN) E_bool_p
    refine t_U 12 ?_
    refine ae_ 180 (fun hc103 => ?_) fun hc103 => ?_
    ·refine t_N ?_
     exact k_eW (rT rN) E_bool_p
    refine t_N ?_
    exact k_eW (rT rN) E_bool_p
   refine t_U 22 ?_
   refine ae_ 152 (fun hc104 => ?_) fun hc104 => ?_
   ·refine t_U 4 ?_
    refine ae_ 156 (fun hc105 => ?_) fun hc105 => ?_
    ·refine t_N ?_
     refine t_cT rfl ?_
     refine t_RN ?_
     exact k_eW (rT rN) E_bool_p
    refine t_N ?_
    refine t_if (fun hc106 => ?_) fun hc106 => ?_
    ·refine t_RN ?_
     exact k_eW (rT rN) E_bool_p
    refine t_RU 6 ?_
    refine ae_ 168 (fun hc107 => ?_) fun hc107 => ?_
    ·refine t_U 2 ?_
     refine k_bs (z := true) (⟨false, [⟨(y1.size : Int)⟩]⟩ : Sl (Iv .i64)) (fun t24 ht24 => ?_)
     refine ar_ (fun y36 hy36 => ?_)
     refine t_U 2 ?_
     refine ae_ 174 (fun hc108 => ?_) fun hc108 => ?_
     ·refine t_N ?_
      exact k_eW (rT rN) E_bool_p
     refine t_U 6 ?_
     refine ae_ 180 (fun hc109 => ?_) fun hc109 => ?_
     ·refine t_N ?_
      exact k_eW (rT rN) E_bool_p
     refine t_N ?_
     exact k_eW (rT rN) E_bool_p
    refine t_U 12 ?_
    refine ae_ 180 (fun hc110 => ?_) fun hc110 => ?_
    ·refine t_N ?_
     exact k_eW (rT rN) E_bool_p
    refine t_N ?_
    exact k_eW (rT rN) E_bool_p
   refine t_N ?_
   refine t_cF ff_ne ?_
   refine t_RU 6 ?_
   refine ae_ 168 (fun hc111 => ?_) fun hc111 => ?_
   ·refine t_U 2 ?_
    refine k_bs (z := true) (⟨false, [⟨(y1.size : Int)⟩]⟩ : Sl (Iv .i64)) (fun t25 ht25 => ?_)
    refine ar_ (fun y37 hy37 => ?_)
    refine t_U 2 ?_
    refine ae_ 174 (fun hc112 => ?_) fun hc112 => ?_
    ·refine t_N ?_
     exact k_eW (rT rN) E_bool_p
    refine t_U 6 ?_
    refine ae_ 180 (fun hc113 => ?_) fun hc113 => ?_
    ·refine t_N ?_
     exact k_eW (rT rN) E_bool_p
    refine t_N ?_
    exact k_eW (rT rN) E_bool_p
   refine t_U 12 ?_
   refine ae_ 180 (fun hc114 => ?_) fun hc114 => ?_
   ·refine t_N ?_
    exact k_eW (rT rN) E_bool_p
   refine t_N ?_
   exact k_eW (rT rN) E_bool_p
  refine t_U 5 ?_
  refine ae_ 119 (fun hc115 => ?_) fun hc115 => ?_
  ·refine t_N ?_
   refine t_if (fun hc116 => ?_) fun hc116 => ?_
   ·refine t_RN ?_
    exact k_eW (rT rN) E_bool_p
   refine t_RU 6 ?_
   refine ae_ 130 (fun hc117 => ?_) fun hc117 => ?_
   ·refine t_U 4 ?_
    refine k_bs (z := true) (⟨false, [⟨(w4 ((y1.size : Int) - y3))⟩]⟩ : Sl (Iv .i64)) (fun t26 ht26 => ?_)
    refine ar_ (fun y38 hy38 => ?_)
    refine t_U 2 ?_
    refine ae_ 138 (fun hc118 => ?_) fun hc118 => ?_
    ·refine t_N ?_
     refine t_cT rfl ?_
     refine t_RN ?_
     exact k_eW (rT rN) E_bool_p
    refine t_U 2 ?_
    refine k_bs (z := true) (⟨false, [⟨(y1.size : Int)⟩]⟩ : Sl (Iv .i64)) (fun t27 ht27 => ?_)
    refine ar_ (fun y39 hy39 => ?_)
    refine t_U 4 ?_
    refine ae_ 146 (fun hc119 => ?_) fun hc119 => ?_
    ·refine t_N ?_
     refine t_cT rfl ?_
     refine t_RN ?_
     exact k_eW (rT rN) E_bool_p
    refine t_U 6 ?_
    refine ae_ 152 (fun hc120 => ?_) fun hc120 => ?_
    ·refine t_U 4 ?_
     refine ae_ 156 (fun hc121 => ?_) fun hc121 => ?_
     ·refine t_N ?_
      refine t_cT rfl ?_
      refine t_RN ?_
      exact k_eW (rT rN) E_bool_p
     refine t_N ?_
     refine t_if (fun hc122 => ?_) fun hc122 => ?_
     ·refine t_RN ?_
      exact k_eW (rT rN) E_bool_p
     refine t_RU 6 ?_
     refine ae_ 168 (fun hc123 => ?_) fun hc123 => ?_
     ·refine t_U 2 ?_
      refine k_bs (z := true) (⟨false, [⟨(y1.size : Int)⟩]⟩ : Sl (Iv .i64)) (fun t28 ht28 => ?_)
      refine ar_ (fun y40 hy40 => ?_)
      refine t_U 2 ?_
      refine ae_ 174 (fun hc124 => ?_) fun hc124 => ?_
      ·refine t_N ?_
       exact k_eW (rT rN) E_bool_p
      refine t_U 6 ?_
      refine ae_ 180 (fun hc125 => ?_) fun hc125 => ?_
      ·refine t_N ?_
       exact k_eW (rT rN) E_bool_p
      refine t_N ?_
      exact k_eW (rT rN) E_bool_p
     refine t_U 12 ?_
     refine ae_ 180 (fun hc126 => ?_) fun hc126 => ?_
     ·refine t_N ?_
      exact k_eW (rT rN) E_bool_p
     refine t_N ?_
     exact k_eW (rT rN) E_bool_p
    refine t_N ?_
    refine t_cF ff_ne ?_
    refine t_RU 6 ?_
    refine ae_ 168 (fun hc127 => ?_) fun hc127 => ?_
    ·refine t_U 2 ?_
     refine k_bs (z := true) (⟨false, [⟨(y1.size : Int)⟩]⟩ : Sl (Iv .i64)) (fun t29 ht29 => ?_)
     refine ar_ (fun y41 hy41 => ?_)
     refine t_U 2 ?_
     refine ae_ 174 (fun hc128 => ?_) fun hc128 => ?_
     ·refine t_N ?_
      exact k_eW (rT rN) E_bool_p
     refine t_U 6 ?_
     refine ae_ 180 (fun hc129 => ?_) fun hc129 => ?_
     ·refine t_N ?_
      exact k_eW (rT rN) E_bool_p
     refine t_N ?_
     exact k_eW (rT rN) E_bool_p
    refine t_U 12 ?_
    refine ae_ 180 (fun hc130 => ?_) fun hc130 => ?_
    ·refine t_N ?_
     exact k_eW (rT rN) E_bool_p
    refine t_N ?_
    exact k_eW (rT rN) E_bool_p
   refine t_U 22 ?_
   refine ae_ 152 (fun hc131 => ?_) fun hc131 => ?_
   ·refine t_U 4 ?_
    refine ae_ 156 (fun hc132 => ?_) fun hc132 => ?_
    ·refine t_N ?_
     refine t_cT rfl ?_
     refine t_RN ?_
     exact k_eW (rT rN) E_bool_p
    refine t_N ?_
    refine t_if (fun hc133 => ?_) fun hc133 => ?_
    ·refine t_RN ?_
     exact k_eW (rT rN) E_bool_p
    refine t_RU 6 ?_
    refine ae_ 168 (fun hc134 => ?_) fun hc134 => ?_
    ·refine t_U 2 ?_
     refine k_bs (z := true) (⟨false, [⟨(y1.size : Int)⟩]⟩ : Sl (Iv .i64)) (fun t30 ht30 => ?_)
     refine ar_ (fun y42 hy42 => ?_)
     refine t_U 2 ?_
     refine ae_ 174 (fun hc135 => ?_) fun hc135 => ?_
     ·refine t_N ?_
      exact k_eW (rT rN) E_bool_p
     refine t_U 6 ?_
     refine ae_ 180 (fun hc136 => ?_) fun hc136 => ?_
     ·refine t_N ?_
      exact k_eW (rT rN) E_bool_p
     refine t_N ?_
     exact k_eW (rT rN) E_bool_p
    refine t_U 12 ?_
    refine ae_ 180 (fun hc137 => ?_) fun hc137 => ?_
    ·refine t_N ?_
     exact k_eW (rT rN) E_bool_p
    refine t_N ?_
    exact k_eW (rT rN) E_bool_p
   refine t_N ?_
   refine t_cF ff_ne ?_
   refine t_RU 6 ?_
   refine ae_ 168 (fun hc138 => ?_) fun hc138 => ?_
   ·refine t_U 2 ?_
    refine k_bs (z := true) (⟨false, [⟨(y1.size : Int)⟩]⟩ : Sl (Iv .i64)) (fun t31 ht31 => ?_)
    refine ar_ (fun y43 hy43 => ?_)
    refine t_U 2 ?_
    refine ae_ 174 (fun hc139 => ?_) fun hc139 => ?_
    ·refine t_N ?_
     exact k_eW (rT rN) E_bool_p
    refine t_U 6 ?_
    refine ae_ 180 (fun hc140 => ?_) fun hc140 => ?_
    ·refine t_N ?_
     exact k_eW (rT rN) E_bool_p
    refine t_N ?_
    exact k_eW (rT rN) E_bool_p
   refine t_U 12 ?_
   refine ae_ 180 (fun hc141 => ?_) fun hc141 => ?_
   ·refine t_N ?_
    exact k_eW (rT rN) E_bool_p
   refine t_N ?_
   exact k_eW (rT rN) E_bool_p
  refine t_N ?_
  refine t_cF ff_ne ?_
  refine t_RU 6 ?_
  refine ae_ 130 (fun hc142 => ?_) fun hc142 => ?_
  ·refine t_U 4 ?_
   refine k_bs (z := true) (⟨false, [⟨(w4 ((y1.size : Int) - y3))⟩]⟩ : Sl (Iv .i64)) (fun t32 ht32 => ?_)
   refine ar_ (fun y44 hy44 => ?_)
   refine t_U 2 ?_
   refine ae_ 138 (fun hc143 => ?_) fun hc143 => ?_
   ·refine t_N ?_
    refine t_cT rfl ?_
    refine t_RN ?_
    exact k_eW (rT rN) E_bool_p
   refine t_U 2 ?_
   refine k_bs (z := true) (⟨false, [⟨(y1.size : Int)⟩]⟩ : Sl (Iv .i64)) (fun t33 ht33 => ?_)
   refine ar_ (fun y45 hy45 => ?_)
   refine t_U 4 ?_
   refine ae_ 146 (fun hc144 => ?_) fun hc144 => ?_
   ·refine t_N ?_
    refine t_cT rfl ?_
    refine t_RN ?_
    exact k_eW (rT rN) E_bool_p
   refine t_U 6 ?_
   refine ae_ 152 (fun hc145 => ?_) fun hc145 => ?_
   ·refine t_U 4 ?_
    refine ae_ 156 (fun hc146 => ?_) fun hc146 => ?_
    ·refine t_N ?_
     refine t_cT rfl ?_
     refine t_RN ?_
     exact k_eW (rT rN) E_bool_p
    refine t_N ?_
    refine t_if (fun hc147 => ?_) fun hc147 => ?_
    ·refine t_RN ?_
     exact k_eW (rT rN) E_bool_p
    refine t_RU 6 ?_
    refine ae_ 168 (fun hc148 => ?_) fun hc148 => ?_
    ·refine t_U 2 ?_
     refine k_bs (z := true) (⟨false, [⟨(y1.size : Int)⟩]⟩ : Sl (Iv .i64)) (fun t34 ht34 => ?_)
     refine ar_ (fun y46 hy46 => ?_)
     refine t_U 2 ?_
     refine ae_ 174 (fun hc149 => ?_) fun hc149 => ?_
     ·refine t_N ?_
      exact k_eW (rT rN) E_bool_p
     refine t_U 6 ?_
     refine ae_ 180 (fun hc150 => ?_) fun hc150 => ?_
     ·refine t_N ?_
      exact k_eW (rT rN) E_bool_p
     refine t_N ?_
     exact k_eW (rT rN) E_bool_p
    refine t_U 12 ?_
    refine ae_ 180 (fun hc151 => ?_) fun hc151 => ?_
    ·refine t_N ?_
     exact k_eW (rT rN) E_bool_p
    refine t_N ?_
    exact k_eW (rT rN) E_bool_p
   refine t_N ?_
   refine t_cF ff_ne ?_
   refine t_RU 6 ?_
   refine ae_ 168 (fun hc152 => ?_) fun hc152 => ?_
   ·refine t_U 2 ?_
    refine k_bs (z := true) (⟨false, [⟨(y1.size : Int)⟩]⟩ : Sl (Iv .i64)) (fun t35 ht35 => ?_)
    refine ar_ (fun y47 hy47 => ?_)
    refine t_U 2 ?_
    refine ae_ 174 (fun hc153 => ?_) fun hc153 => ?_
    ·refine t_N ?_
     exact k_eW (rT rN) E_bool_p
    refine t_U 6 ?_
    refine ae_ 180 (fun hc154 => ?_) fun hc154 => ?_
    ·refine t_N ?_
     exact k_eW (rT rN) E_bool_p
    refine t_N ?_
    exact k_eW (rT rN) E_bool_p
   refine t_U 12 ?_
   refine ae_ 180 (fun hc155 => ?_) fun hc155 => ?_
   ·refine t_N ?_
    exact k_eW (rT rN) E_bool_p
   refine t_N ?_
   exact k_eW (rT rN) E_bool_p
  refine t_U 22 ?_
  refine ae_ 152 (fun hc156 => ?_) fun hc156 => ?_
  ·refine t_U 4 ?_
   refine ae_ 156 (fun hc157 => ?_) fun hc157 => ?_
   ·refine t_N ?_
    refine t_cT rfl ?_
    refine t_RN ?_
    exact k_eW (rT rN) E_bool_p
   refine t_N ?_
   refine t_if (fun hc158 => ?_) fun hc158 => ?_
   ·refine t_RN ?_
    exact k_eW (rT rN) E_bool_p
   refine t_RU 6 ?_
   refine ae_ 168 (fun hc159 => ?_) fun hc159 => ?_
   ·refine t_U 2 ?_
    refine k_bs (z := true) (⟨false, [⟨(y1.size : Int)⟩]⟩ : Sl (Iv .i64)) (fun t36 ht36 => ?_)
    refine ar_ (fun y48 hy48 => ?_)
    refine t_U 2 ?_
    refine ae_ 174 (fun hc160 => ?_) fun hc160 => ?_
    ·refine t_N ?_
     exact k_eW (rT rN) E_bool_p
    refine t_U 6 ?_
    refine ae_ 180 (fun hc161 => ?_) fun hc161 => ?_
    ·refine t_N ?_
     exact k_eW (rT rN) E_bool_p
    refine t_N ?_
    exact k_eW (rT rN) E_bool_p
   refine t_U 12 ?_
   refine ae_ 180 (fun hc162 => ?_) fun hc162 => ?_
   ·refine t_N ?_
    exact k_eW (rT rN) E_bool_p
   refine t_N ?_
   exact k_eW (rT rN) E_bool_p
  refine t_N ?_
  refine t_cF ff_ne ?_
  refine t_RU 6 ?_
  refine ae_ 168 (fun hc163 => ?_) fun hc163 => ?_
  ·refine t_U 2 ?_
   refine k_bs (z := true) (⟨false, [⟨(y1.size : Int)⟩]⟩ : Sl (Iv .i64)) (fun t37 ht37 => ?_)
   refine ar_ (fun y49 hy49 => ?_)
   refine t_U 2 ?_
   refine ae_ 174 (fun hc164 => ?_) fun hc164 => ?_
   ·refine t_N ?_
    exact k_eW (rT rN) E_bool_p
   refine t_U 6 ?_
   refine ae_ 180 (fun hc165 => ?_) fun hc165 => ?_
   ·refine t_N ?_
    exact k_eW (rT rN) E_bool_p
   refine t_N ?_
   exact k_eW (rT rN) E_bool_p
  refine t_U 12 ?_
  refine ae_ 180 (fun hc166 => ?_) fun hc166 => ?_
  ·refine t_N ?_
   exact k_eW (rT rN) E_bool_p
  refine t_N ?_
  exact k_eW (rT rN) E_bool_p
 refine t_U 16 ?_
 refine ae_ 114 (fun hc167 => ?_) fun hc167 => ?_
 ·refine t_N ?_
  refine t_if (fun hc168 => ?_) fun hc168 => ?_
  ·refine t_RN ?_
   exact k_eW (rT rN) E_bool_p
  refine t_RU 6 ?_
  refine ae_ 130 (fun hc169 => ?_) fun hc169 => ?_
  ·refine t_U 4 ?_
   refine k_bs (z := true) (⟨false, [⟨(w4 ((y1.size : Int) - y3))⟩]⟩ : Sl (Iv .i64)) (fun t38 ht38 => ?_)
   refine ar_ (fun y50 hy50 => ?_)
   refine t_U 2 ?_
   refine ae_ 138 (fun hc170 => ?_) fun hc170 => ?_
   ·refine t_N ?_
    refine t_cT rfl ?_
    refine t_RN ?_
    exact k_eW (rT rN) E_bool_p
   refine t_U 2 ?_
   refine k_bs (z := true) (⟨false, [⟨(y1.size : Int)⟩]⟩ : Sl (Iv .i64)) (fun t39 ht39 => ?_)
   refine ar_ (fun y51 hy51 => ?_)
   refine t_U 4 ?_
   refine ae_ 146 (fun hc171 => ?_) fun hc171 => ?_
   ·refine t_N ?_
    refine t_cT rfl ?_
    refine t_RN ?_
    exact k_eW (rT rN) E_bool_p
   refine t_U 6 ?_
   refine ae_ 152 (fun hc172 => ?_) fun hc172 => ?_
   ·refine t_U 4 ?_
    refine ae_ 156 (fun hc173 => ?_) fun hc173 => ?_
    ·refine t_N ?_
     refine t_cT rfl ?_
     refine t_RN ?_
     exact k_eW (rT rN) E_bool_p
    refine t_N ?_
    refine t_if (fun hc174 => ?_) fun hc174 => ?_
    ·refine t_RN ?_
     exact k_eW (rT rN) E_bool_p
    refine t_RU 6 ?_
    refine ae_ 168 (fun hc175 => ?_) fun hc175 => ?_
    ·refine t_U 2 ?_
     refine k_bs (z := true) (⟨false, [⟨(y1.size : Int)⟩]⟩ : Sl (Iv .i64)) (fun t40 ht40 => ?_)
     refine ar_ (fun y52 hy52 => ?_)
     refine t_U 2 ?_
     refine ae_ 174 (fun hc176 => ?_) fun hc176 => ?_
     ·refine t_N ?_
      exact k_eW (rT rN) E_bool_p
     refine t_U 6 ?_
     refine ae_ 180 (fun hc177 => ?_) fun hc177 => ?_
     ·refine t_N ?_
      exact k_eW (rT rN) E_bool_p
     refine t_N ?_
     exact k_eW (rT rN) E_bool_p
    refine t_U 12 ?_
    refine ae_ 180 (fun hc178 => ?_) fun hc178 => ?_
    ·refine t_N ?_
     exact k_eW (rT rN) E_bool_p
    refine t_N ?_
    exact k_eW (rT rN) E_bool_p
   refine t_N ?_
   refine t_cF ff_ne ?_
   refine t_RU 6 ?_
   refine ae_ 168 (fun hc179 => ?_) fun hc179 => ?_
   ·refine t_U 2 ?_
    refine k_bs (z := true) (⟨false, [⟨(y1.size : Int)⟩]⟩ : Sl (Iv .i64)) (fun t41 ht41 => ?_)
    refine ar_ (fun y53 hy53 => ?_)
    refine t_U 2 ?_
    refine ae_ 174 (fun hc180 => ?_) fun hc180 => ?_
    ·refine t_N ?_
     exact k_eW (rT rN) E_bool_p
    refine t_U 6 ?_
    refine ae_ 180 (fun hc181 => ?_) fun hc181 => ?_
    ·refine t_N ?_
     exact k_eW (rT rN) E_bool_p
    refine t_N ?_
    exact k_eW (rT rN) E_bool_p
   refine t_U 12 ?_
   refine ae_ 180 (fun hc182 => ?_) fun hc182 => ?_
   ·refine t_N ?_
    exact k_eW (rT rN) E_bool_p
   refine t_N ?_
   exact k_eW (rT rN) E_bool_p
  refine t_U 22 ?_
  refine ae_ 152 (fun hc183 => ?_) fun hc183 => ?_
  ·refine t_U 4 ?_
   refine ae_ 156 (fun hc184 => ?_) fun hc184 => ?_
   ·refine t_N ?_
    refine t_cT rfl ?_
    refine t_RN ?_
    exact k_eW (rT rN) E_bool_p
   refine t_N ?_
   refine t_if (fun hc185 => ?_) fun hc185 => ?_
   ·refine t_RN ?_
    exact k_eW (rT rN) E_bool_p
   refine t_RU 6 ?_
   refine ae_ 168 (fun hc186 => ?_) fun hc186 => ?_
   ·refine t_U 2 ?_
    refine k_bs (z := true) (⟨false, [⟨(y1.size : Int)⟩]⟩ : Sl (Iv .i64)) (fun t42 ht42 => ?_)
    refine ar_ (fun y54 hy54 => ?_)
    refine t_U 2 ?_
    refine ae_ 174 (fun hc187 => ?_) fun hc187 => ?_
    ·refine t_N ?_
     exact k_eW (rT rN) E_bool_p
    refine t_U 6 ?_
    refine ae_ 180 (fun hc188 => ?_) fun hc188 => ?_
    ·refine t_N ?_
     exact k_eW (rT rN) E_bool_p
    refine t_N ?_
    exact k_eW (rT rN) E_bool_p
   refine t_U 12 ?_
   refine ae_ 180 (fun hc189 => ?_) fun hc189 => ?_
   ·refine t_N ?_
    exact k_eW (rT rN) E_bool_p
   refine t_N ?_
   exact k_eW (rT rN) E_bool_p
  refine t_N ?_
  refine t_cF ff_ne ?_
  refine t_RU 6 ?_
  refine ae_ 168 (fun hc190 => ?_) fun hc190 => ?_
  ·refine t_U 2 ?_
   refine k_bs (z := true) (⟨false, [⟨(y1.size : Int)⟩]⟩ : Sl (Iv .i64)) (fun t43 ht43 => ?_)
   refine ar_ (fun y55 hy55 => ?_)
   refine t_U 2 ?_
   refine ae_ 174 (fun hc191 => ?_) fun hc191 => ?_
   ·refine t_N ?_
    exact k_eW (rT rN) E_bool_p
   refine t_U 6 ?_
   refine ae_ 180 (fun hc192 => ?_) fun hc192 => ?_
   ·refine t_N ?_
    exact k_eW (rT rN) E_bool_p
   refine t_N ?_
   exact k_eW (rT rN) E_bool_p
  refine t_U 12 ?_
  refine ae_ 180 (fun hc193 => ?_) fun hc193 => ?_
  ·refine t_N ?_
   exact k_eW (rT rN) E_bool_p
  refine t_N ?_
  exact k_eW (rT rN) E_bool_p
 refine t_U 5 ?_
 refine ae_ 119 (fun hc194 => ?_) fun hc194 => ?_
 ·refine t_N ?_
  refine t_if (fun hc195 => ?_) fun hc195 => ?_
  ·refine t_RN ?_
   exact k_eW (rT rN) E_bool_p
  refine t_RU 6 ?_
  refine ae_ 130 (fun hc196 => ?_) fun hc196 => ?_
  ·refine t_U 4 ?_
   refine k_bs (z := true) (⟨false, [⟨(w4 ((y1.size : Int) - y3))⟩]⟩ : Sl (Iv .i64)) (fun t44 ht44 => ?_)
   refine ar_ (fun y56 hy56 => ?_)
   refine t_U 2 ?_
   refine ae_ 138 (fun hc197 => ?_) fun hc197 => ?_
   ·refine t_N ?_
    refine t_cT rfl ?_
    refine t_RN ?_
    exact k_eW (rT rN) E_bool_p
   refine t_U 2 ?_
   refine k_bs (z := true) (⟨false, [⟨(y1.size : Int)⟩]⟩ : Sl (Iv .i64)) (fun t45 ht45 => ?_)
   refine ar_ (fun y57 hy57 => ?_)
   refine t_U 4 ?_
   refine ae_ 146 (fun hc198 => ?_) fun hc198 => ?_
   ·refine t_N ?_
    refine t_cT rfl ?_
    refine t_RN ?_
    exact k_eW (rT rN) E_bool_p
   refine t_U 6 ?_
   refine ae_ 152 (fun hc199 => ?_) fun hc199 => ?_
   ·refine t_U 4 ?_
    refine ae_ 156 (fun hc200 => ?_) fun hc200 => ?_
    ·refine t_N ?_
     refine t_cT rfl ?_
     refine t_RN ?_
     exact k_eW (rT rN) E_bool_p
    refine t_N ?_
    refine t_if (fun hc201 => ?_) fun hc201 => ?_
    ·refine t_RN ?_
     exact k_eW (rT rN) E_bool_p
    refine t_RU 6 ?_
    refine ae_ 168 (fun hc202 => ?_) fun hc202 => ?_
    ·refine t_U 2 ?_
     refine k_bs (z := true) (⟨false, [⟨(y1.size : Int)⟩]⟩ : Sl (Iv .i64)) (fun t46 ht46 => ?_)
     refine ar_ (fun y58 hy58 => ?_)
     refine t_U 2 ?_
     refine ae_ 174 (fun hc203 => ?_) fun hc203 => ?_
     ·refine t_N ?_
      exact k_eW (rT rN) E_bool_p
     refine t_U 6 ?_
     refine ae_ 180 (fun hc204 => ?_) fun hc204 => ?_
     ·refine t_N ?_
      exact k_eW (rT rN) E_bool_p
     refine t_N ?_
     exact k_eW (rT rN) E_bool_p
    refine t_U 12 ?_
    refine ae_ 180 (fun hc205 => ?_) fun hc205 => ?_
    ·refine t_N ?_
     exact k_eW (rT rN) E_bool_p
    refine t_N ?_
    exact k_eW (rT rN) E_bool_p
   refine t_N ?_
   refine t_cF ff_ne ?_
   refine t_RU 6 ?_
   refine ae_ 168 (fun hc206 => ?_) fun hc206 => ?_
   ·refine t_U 2 ?_
    refine k_bs (z := true) (⟨false, [⟨(y1.size : Int)⟩]⟩ : Sl (Iv .i64)) (fun t47 ht47 => ?_)
    refine ar_ (fun y59 hy59 => ?_)
    refine t_U 2 ?_
    refine ae_ 174 (fun hc207 => ?_) fun hc207 => ?_
    ·refine t_N ?_
     exact k_eW (rT rN) E_bool_p
    refine t_U 6 ?_
    refine ae_ 180 (fun hc208 => ?_) fun hc208 => ?_
    ·refine t_N ?_
     exact k_eW (rT rN) E_bool_p
    refine t_N ?_
    exact k_eW (rT rN) E_bool_p
   refine t_U 12 ?_
   refine ae_ 180 (fun hc209 => ?_) fun hc209 => ?_
   ·refine t_N ?_
    exact k_eW (rT rN) E_bool_p
   refine t_N ?_
   exact k_eW (rT rN) E_bool_p
  refine t_U 22 ?_
  refine ae_ 152 (fun hc210 => ?_) fun hc210 => ?_
  ·refine t_U 4 ?_
   refine ae_ 156 (fun hc211 => ?_) fun hc211 => ?_
   ·refine t_N ?_
    refine t_cT rfl ?_
    refine t_RN ?_
    exact k_eW (rT rN) E_bool_p
   refine t_N ?_
   refine t_if (fun hc212 => ?_) fun hc212 => ?_
   ·refine t_RN ?_
    exact k_eW (rT rN) E_bool_p
   refine t_RU 6 ?_
   refine ae_ 168 (fun hc213 => ?_) fun hc213 => ?_
   ·refine t_U 2 ?_
    refine k_bs (z := true) (⟨false, [⟨(y1.size : Int)⟩]⟩ : Sl (Iv .i64)) (fun t48 ht48 => ?_)
    refine ar_ (fun y60 hy60 => ?_)
    refine t_U 2 ?_
    refine ae_ 174 (fun hc214 => ?_) fun hc214 => ?_
    ·refine t_N ?_
     exact k_eW (rT rN) E_bool_p
    refine t_U 6 ?_
    refine ae_ 180 (fun hc215 => ?_) fun hc215 => ?_
    ·refine t_N ?_
     exact k_eW (rT rN) E_bool_p
    refine t_N ?_
    exact k_eW (rT rN) E_bool_p
   refine t_U 12 ?_
   refine ae_ 180 (fun hc216 => ?_) fun hc216 => ?_
   ·refine t_N ?_
    exact k_eW (rT rN) E_bool_p
   refine t_N ?_
   exact k_eW (rT rN) E_bool_p
  refine t_N ?_
  refine t_cF ff_ne ?_
  refine t_RU 6 ?_
  refine ae_ 168 (fun hc217 => ?_) fun hc217 => ?_
  ·refine t_U 2 ?_
   refine k_bs (z := true) (⟨false, [⟨(y1.size : Int)⟩]⟩ : Sl (Iv .i64)) (fun t49 ht49 => ?_)
   refine ar_ (fun y61 hy61 => ?_)
   refine t_U 2 ?_
   refine ae_ 174 (fun hc218 => ?_) fun hc218 => ?_
   ·refine t_N ?_
    exact k_eW (rT rN) E_bool_p
   refine t_U 6 ?_
   refine ae_ 180 (fun hc219 => ?_) fun hc219 => ?_
   ·refine t_N ?_
    exact k_eW (rT rN) E_bool_p
   refine t_N ?_
   exact k_eW (rT rN) E_bool_p
  refine t_U 12 ?_
  refine ae_ 180 (fun hc220 => ?_) fun hc220 => ?_
  ·refine t_N ?_
   exact k_eW (rT rN) E_bool_p
  refine t_N ?_
  exact k_eW (rT rN) E_bool_p
 refine t_N ?_
 refine t_cF ff_ne ?_
 refine t_RU 6 ?_
 refine ae_ 130 (fun hc221 => ?_) fun hc221 => ?_
 ·refine t_U 4 ?_
  refine k_bs (z := true) (⟨false, [⟨(w4 ((y1.size : Int) - y3))⟩]⟩ : Sl (Iv .i64)) (fun t50 ht50 => ?_)
  refine ar_ (fun y62 hy62 => ?_)
  refine t_U 2 ?_
  refine ae_ 138 (fun hc222 => ?_) fun hc222 => ?_
  ·refine t_N ?_
   refine t_cT rfl ?_
   refine t_RN ?_
   exact k_eW (rT rN) E_bool_p
  refine t_U 2 ?_
  refine k_bs (z := true) (⟨false, [⟨(y1.size : Int)⟩]⟩ : Sl (Iv .i64)) (fun t51 ht51 => ?_)
  refine ar_ (fun y63 hy63 => ?_)
  refine t_U 4 ?_
  refine ae_ 146 (fun hc223 => ?_) fun hc223 => ?_
  ·refine t_N ?_
   refine t_cT rfl ?_
   refine t_RN ?_
   exact k_eW (rT rN) E_bool_p
  refine t_U 6 ?_
  refine ae_ 152 (fun hc224 => ?_) fun hc224 => ?_
  ·refine t_U 4 ?_
   refine ae_ 156 (fun hc225 => ?_) fun hc225 => ?_
   ·refine t_N ?_
    refine t_cT rfl ?_
    refine t_RN ?_
    exact k_eW (rT rN) E_bool_p
   refine t_N ?_
   refine t_if (fun hc226 => ?_) fun hc226 => ?_
   ·refine t_RN ?_
    exact k_eW (rT rN) E_bool_p
   refine t_RU 6 ?_
   refine ae_ 168 (fun hc227 => ?_) fun hc227 => ?_
   ·refine t_U 2 ?_
    refine k_bs (z := true) (⟨false, [⟨(y1.size : Int)⟩]⟩ : Sl (Iv .i64)) (fun t52 ht52 => ?_)
    refine ar_ (fun y64 hy64 => ?_)
    refine t_U 2 ?_
    refine ae_ 174 (fun hc228 => ?_) fun hc228 => ?_
    ·refine t_N ?_
     exact k_eW (rT rN) E_bool_p
    refine t_U 6 ?_
    refine ae_ 180 (fun hc229 => ?_) fun hc229 => ?_
    ·refine t_N ?_
     exact k_eW (rT rN) E_bool_p
    refine t_N ?_
    exact k_eW (rT rN) E_bool_p
   refine t_U 12 ?_
   refine ae_ 180 (fun hc230 => ?_) fun hc230 => ?_
   ·refine t_N ?_
    exact k_eW (rT rN) E_bool_p
   refine t_N ?_
   exact k_eW (rT rN) E_bool_p
  refine t_N ?_
  refine t_cF ff_ne ?_
  refine t_RU 6 ?_
  refine ae_ 168 (fun hc231 => ?_) fun hc231 => ?_
  ·refine t_U 2 ?_
   refine k_bs (z := true) (⟨false, [⟨(y1.size : Int)⟩]⟩ : Sl (Iv .i64)) (fun t53 ht53 => ?_)
   refine ar_ (fun y65 hy65 => ?_)
   refine t_U 2 ?_
   refine ae_ 174 (fun hc232 => ?_) fun hc232 => ?_
   ·refine t_N ?_
    exact k_eW (rT rN) E_bool_p
   refine t_U 6 ?_
   refine ae_ 180 (fun hc233 => ?_) fun hc233 => ?_
   ·refine t_N ?_
    exact k_eW (rT rN) E_bool_p
   refine t_N ?_
   exact k_eW (rT rN) E_bool_p
  refine t_U 12 ?_
  refine ae_ 180 (fun hc234 => ?_) fun hc234 => ?_
  ·refine t_N ?_
   exact k_eW (rT rN) E_bool_p
  refine t_N ?_
  exact k_eW (rT rN) E_bool_p
 refine t_U 22 ?_
 refine ae_ 152 (fun hc235 => ?_) fun hc235 => ?_
 ·refine t_U 4 ?_
  refine ae_ 156 (fun hc236 => ?_) fun hc236 => ?_
  ·refine t_N ?_
   refine t_cT rfl ?_
   refine t_RN ?_
   exact k_eW (rT rN) E_bool_p
  refine t_N ?_
  refine t_if (fun hc237 => ?_) fun hc237 => ?_
  ·refine t_RN ?_
   exact k_eW (rT rN) E_bool_p
  refine t_RU 6 ?_
  refine ae_ 168 (fun hc238 => ?_) fun hc238 => ?_
  ·refine t_U 2 ?_
   refine k_bs (z := true) (⟨false, [⟨(y1.size : Int)⟩]⟩ : Sl (Iv .i64)) (fun t54 ht54 => ?_)
   refine ar_ (fun y66 hy66 => ?_)
   refine t_U 2 ?_
   refine ae_ 174 (fun hc239 => ?_) fun hc239 => ?_
   ·refine t_N ?_
    exact k_eW (rT rN) E_bool_p
   refine t_U 6 ?_
   refine ae_ 180 (fun hc240 => ?_) fun hc240 => ?_
   ·refine t_N ?_
    exact k_eW (rT rN) E_bool_p
   refine t_N ?_
   exact k_eW (rT rN) E_bool_p
  refine t_U 12 ?_
  refine ae_ 180 (fun hc241 => ?_) fun hc241 => ?_
  ·refine t_N ?_
   exact k_eW (rT rN) E_bool_p
  refine t_N ?_
  exact k_eW (rT rN) E_bool_p
 refine t_N ?_
 refine t_cF ff_ne ?_
 refine t_RU 6 ?_
 refine ae_ 168 (fun hc242 => ?_) fun hc242 => ?_
 ·refine t_U 2 ?_
  refine k_bs (z := true) (⟨false, [⟨(y1.size : Int)⟩]⟩ : Sl (Iv .i64)) (fun t55 ht55 => ?_)
  refine ar_ (fun y67 hy67 => ?_)
  refine t_U 2 ?_
  refine ae_ 174 (fun hc243 => ?_) fun hc243 => ?_
  ·refine t_N ?_
   exact k_eW (rT rN) E_bool_p
  refine t_U 6 ?_
  refine ae_ 180 (fun hc244 => ?_) fun hc244 => ?_
  ·refine t_N ?_
   exact k_eW (rT rN) E_bool_p
  refine t_N ?_
  exact k_eW (rT rN) E_bool_p
 refine t_U 12 ?_
 refine ae_ 180 (fun hc245 => ?_) fun hc245 => ?_
 ·refine t_N ?_
  exact k_eW (rT rN) E_bool_p
 refine t_N ?_
 exact k_eW (rT rN) E_bool_p
noncomputable def ei_ (a0 : (Sl al_)) (a1 : DPattern) (a2 : ByteArray) (a3 : Int) (a4 : Int) : Option ((Sl (Iv .i64)) × Int) := ((cu_ a0 a1 a2 a4).bind fun y1 => ((a8_ a3 0 (a2.size : Int)).bind fun y2 => ((cn_ y2 3).bind fun y3 => ((dO_ (⟨false, [⟨y1⟩, ⟨y3⟩]⟩)).bind fun y4 => (if (!decide (y4 = 0)) = true then (some (⟨true, []⟩, y4)) else ((cq_ a0 a1 a2 (⟨false, [⟨a3⟩]⟩) a4).bind fun y5 => (if (!decide (y5.2 = 0)) = true then (some (⟨true, []⟩, y5.2)) else ((aI_ (S := (Int × (Sl (Iv .i64)))) (R := (Sl (Iv .i64))) (fun st1 => (if (decide (st1.1 < (y5.1.l.length : Int))) = true then ((elt y5.1 st1.1).bind fun y7 => ((appS 8 st1.2 (⟨false, [⟨y7.End⟩]⟩ : Sl (Iv .i64))).bind fun y8 => (some (.inl ((w4 (st1.1 + 1)), y8))))) else (some (.inr st1.2)))) (0, (⟨false, []⟩ : Sl (Iv .i64)))).bind fun y6 => (some (y6, 0))))))))))
theorem h7_ (a0 : (Sl al_)) (a1 : DPattern) (a2 : ByteArray) (a3 : Int) (a4 : Int) (r : ((Sl (Iv .i64)) × Int)) (h : ei_ a0 a1 a2 a3 a4 = some r) : aU_ a0 a1 a2 a3 a4 = some r := by
 unfold ei_ at h
 refine k_W ok_44 E_t2_sl_i64_i64_inj h (fun σ0 => ?_)
 refine t_R ?_
 refine cB_ (fun b1 => ?_)
 refine t_N ?_
 refine t_RU 1 ?_
 refine ab_ 0 ?_
 refine t_U 2 ?_
 refine ao_ fun y1 hy1 => ?_
 refine t_U 3 ?_
 refine ao_ fun y2 hy2 => ?_
 refine ao_ fun y3 hy3 => ?_
 refine k_bs (z := true) (⟨false, [⟨y1⟩, ⟨y3⟩]⟩ : Sl (Iv .i64)) (fun t1 ht1 => ?_)
 refine ar_ (fun y4 hy4 => ?_)
 refine t_N ?_
 refine t_RN ?_
 refine t_if (fun hc1 => ?_) fun hc1 => ?_
 ·refine t_RN ?_
  exact k_eW (rT (rT rN)) E_t2_sl_i64_i64_p
 refine t_RU 1 ?_
 refine ab_ 1 ?_
 refine t_U 2 ?_
 refine k_bs (z := true) (⟨false, [⟨a3⟩]⟩ : Sl (Iv .i64)) (fun t2 ht2 => ?_)
 refine t_U 1 ?_
 refine mE_ (fun y5 t3 hy5 ht3 => ?_)
 refine t_N ?_
 refine t_RN ?_
 refine t_if (fun hc2 => ?_) fun hc2 => ?_
 ·refine t_RN ?_
  exact k_eW (rT (rT rN)) E_t2_sl_i64_i64_p
 refine t_R ?_
 refine qz_ (α := (Iv .i64)) (fun t4 ht4 => ?_)
 refine t_N ?_
 refine t_RU 1 ?_
 refine iq_ (a := y5.1) 1 ?_
 refine t_N ?_
 refine a4_ (fun st1 fr => ∃ t6, ak_ t6 ∧ Sub [(15, t6), (47, t3), (48, i4 (y5.1.l.length : Int)), (49, i4 st1.1)] fr.s ∧ Heap σ0 fr.σ [.own true 1 t6 st1.2.t, .own true 3 t3 y5.1.t]) (fun y6 e fr => ∃ t7, ak_ t7 ∧ e = (.exit 0) ∧ Sub [(15, t7)] fr.s ∧ Heap σ0 fr.σ [.own true 1 t7 y6.t]) (fun hS hH => ⟨t4, ht4, (ac_ hS (by kernel_rfl)), (Heap.sel hH [0, 1] rfl (by kernel_rfl))⟩) (fun st1 x fr h HI => ?_) fun y6 e fr h HF => ?_
 ·obtain ⟨s, σ⟩ := fr; obtain ⟨t6, ht6, ⟨hS, hH⟩⟩ := HI
  refine t_bk h hS hH ?_
  refine t_RN ?_
  refine t_if (fun hc3 => ?_) fun hc3 => ?_
  ·refine t_R ?_
   refine nr_ 1 (fun hb1 hb1e y7 hy7 hl_hb1 => ?_)
   refine t_h Heap.up1 ?_
   intro h s σ hS hH
   refine mS_ (a := y5.1) (j := st1.1) (y := y7) (off := 2) (c := [i4 y7.Start, i4 y7.End, y7.Captures.t]) (q := (y7.Captures : Sl ad_)) (fun _ _ _ _ _ => trivial) rfl hS hH hl_hb1 rfl hy7 rfl (by kernel_rfl) (by kernel_rfl) rfl (by kernel_rfl) (by kernel_rfl) (by kernel_rfl) ?_; intro F1 σk1 t8 s ht8 hH hcl1 hcl1s hcl1p hcl1k hcl1f hS
   refine t_bk h hS hH ?_
   refine b8_ fun b2 => ?_
   refine bk_ 0 ?_ (h1 := by simp [ht8.1, ht8.2])
   refine t_h (·.up2.up2) ?_
   intro h s σ hS hH
   have hH := hcl1s _ _ hH
   have hH : Heap σ0 σ [.own true 3 t3 y5.1.t, .box b2 [i4 y7.Start, i4 y7.End, t8], .own true 1 t6 st1.2.t] := hH
   refine t_bk h hS hH ?_
   refine t_N ?_
   refine t_RU 2 ?_
   refine ab_ 1 ?_
   refine k_bs (z := true) (⟨false, [⟨y7.End⟩]⟩ : Sl (Iv .i64)) (fun t9 ht9 => ?_)
   refine nT_ 3 0 (fun y8 t10 hy8 ht10 => ?_)
   refine t_N ?_
   refine t_RN ?_
   exact t_e fun he hS hH => he ▸ ⟨t10, ht10, (ac_ hS (by kernel_rfl)), (Heap.sel hH [0, 1] rfl (by kernel_rfl))⟩
  exact t_e fun he hS hH => he ▸ ⟨t6, ht6, rfl, (ac_ hS (by kernel_rfl)), (Heap.sel hH [0] rfl (by kernel_rfl))⟩
 obtain ⟨s, σ⟩ := fr
 obtain ⟨t7, ht7, ⟨rfl, hS, hH⟩⟩ := HF
 refine t_bx h hS hH ?_
 refine t_RN ?_
 intro h s σ hS hH
 obtain rfl := si_1 h
 exact rO_ (ents := [.own true 1 t7 y6.t]) (z := false) hH (bg_ (v := t7) hS rfl (bg_ (v := i4 0) hS rfl r_nil)) (HL.tup (es1 := [.own true 1 t7 y6.t]) (es2 := []) (HL.own rfl (HLi HL.nil)) HL.nil) (by simp [pureT, pureL, E_t2_sl_i64_i64])
noncomputable def a1_ (a0 : ap_) : Option (Int × ap_) := (((if (decide (a0.at_ < (a0.code_.l.length : Int))) = true then ((elt a0.code_ a0.at_).bind fun y2 => (some (w4 y2.v))) else (some 0)) : Option Int).bind fun y1 => (if ((decide ((w4 (a0.at_ + 1)) ≤ (a0.code_.l.length : Int)))) = true then (some (y1, (⟨a0.code_, (w4 (a0.at_ + 1)), (IntKind.u64.wrap ((IntKind.u64.wrap ((IntKind.u64.wrap (a0.seed_ * 6364136223846793005)) + (IntKind.u64.wrap y1))) + 1442695040888963407))⟩ : ap_))) else (some ((w4 ((andI .u64 ((((IntKind.u64.wrap ((IntKind.u64.wrap ((IntKind.u64.wrap (a0.seed_ * 6364136223846793005)) + (IntKind.u64.wrap y1))) + 1442695040888963407))).fdiv (2 ^ 40))) 255))), (⟨a0.code_, (w4 (a0.at_ + 1)), (IntKind.u64.wrap ((IntKind.u64.wrap ((IntKind.u64.wrap (a0.seed_ * 6364136223846793005)) + (IntKind.u64.wrap y1))) + 1442695040888963407))⟩ : ap_)))))
theorem dF_ (a0 : ap_) (r : (Int × ap_)) (h : a1_ a0 = some r) (bp0 : Nat) : RawS Try.prog md ext 120 [.ptr bp0 0 0 3] 0 (fun hs => E_i64 r.1) [.box bp0 (ap_.cells a0)] (fun hs => [.box bp0 (ap_.cells r.2)]) := by
 unfold a1_ at h
 refine cl_ rfl rfl ok_120 rfl ?_
 intro σ0 σ F σk s hS hH
 have hS := ac_ (L' := [(0, .ptr bp0 0 0 3)]) hS (by kernel_rfl)
 refine t_go h hS hH ?_
 refine t_RN ?_
 refine t_RN ?_
 refine t_D fun mb => ?_
 refine t_U 3 ?_
 refine ab_ 0 ?_
 refine t_U 3 ?_
 refine ab_ 0 ?_
 refine t_N ?_
 refine d8_ 0 (fun y1 e fr => e = .normal ∧ Sub [(0, .ptr bp0 0 0 3), (3, i4 y1)] fr.s ∧ Heap σ0 fr.σ [.box bp0 (ap_.cells a0), .keep F σk]) (fun y1 e fr h HF => ?_) fun y1 => ?_
 ·obtain ⟨s, σ⟩ := fr
  obtain ⟨rfl, hS, hH⟩ := HF
  refine t_bx h hS hH ?_
  refine t_RU 3 ?_
  refine ab_ 0 ?_
  refine t_U 3 ?_
  refine aF_ 0 ?_
  refine t_N ?_
  refine t_RU 4 ?_
  refine ab_ 0 ?_
  refine t_U 7 ?_
  refine aF_ 0 ?_
  refine t_N ?_
  refine t_D fun mb => ?_
  refine t_U 3 ?_
  refine ab_ 0 ?_
  refine t_U 3 ?_
  refine ab_ 0 ?_
  refine t_N ?_
  refine t_if (fun hc1 => ?_) fun hc1 => ?_
  ·refine t_RN ?_
   intro h s σ hS hH
   obtain rfl := si_1 h
   exact aJ_ [] (bg_ (v := i4 y1) hS rfl r_nil) rfl rfl hH
  refine t_RU 3 ?_
  refine ab_ 0 ?_
  refine t_N ?_
  intro h s σ hS hH
  obtain rfl := si_1 h
  exact aJ_ [] (bg_ (v := i4 ((w4 ((andI .u64 ((((IntKind.u64.wrap ((IntKind.u64.wrap ((IntKind.u64.wrap (a0.seed_ * 6364136223846793005)) + (IntKind.u64.wrap y1))) + 1442695040888963407))).fdiv (2 ^ 40))) 255))))) hS rfl r_nil) rfl rfl hH
 refine t_if (fun hc2 => ?_) fun hc2 => ?_
 ·refine t_D fun mb => ?_
  refine t_U 3 ?_
  refine ab_ 0 ?_
  refine t_U 3 ?_
  refine ab_ 0 ?_
  refine bY_ fun y2 rest1 hy2 => ?_
  refine t_N ?_
  exact t_e fun he hS hH => he ▸ ⟨rfl, (ac_ hS (by kernel_rfl)), hH⟩
 exact t_e fun he hS hH => he ▸ ⟨rfl, (ac_ hS (by kernel_rfl)), hH⟩
noncomputable def aV_ (a0 : ap_) (a1 : Int) : Option (Int × ap_) := (if (decide (a1 ≤ 1)) = true then (some (0, a0)) else ((a1_ a0).bind fun y1 => (if (decide (200 < a1)) = true then ((a1_ y1.2).bind fun y2 => ((remI (w4 ((w4 (y1.1 * 256)) + y2.1)) a1).bind fun y3 => (some (y3, y2.2)))) else ((remI y1.1 a1).bind fun y4 => (some (y4, y1.2))))))
theorem cg_ (a0 : ap_) (a1 : Int) (r : (Int × ap_)) (h : aV_ a0 a1 = some r) (bp0 : Nat) : RawS Try.prog md ext 77 [.ptr bp0 0 0 3, i4 a1] 0 (fun hs => E_i64 r.1) [.box bp0 (ap_.cells a0)] (fun hs => [.box bp0 (ap_.cells r.2)]) := by
 unfold aV_ at h
 refine cl_ rfl rfl ok_77 rfl ?_
 intro σ0 σ F σk s hS hH
 have hS := ac_ (L' := [(0, .ptr bp0 0 0 3), (1, i4 a1)]) hS (by kernel_rfl)
 refine t_go h hS hH ?_
 refine t_RN ?_
 refine t_RN ?_
 refine t_if (fun hc1 => ?_) fun hc1 => ?_
 ·refine t_RN ?_
  intro h s σ hS hH
  obtain rfl := si_1 h
  exact aJ_ [] (bg_ (v := i4 0) hS rfl r_nil) rfl rfl hH
 refine t_RU 1 ?_
 refine aQ_ (fun y1 hs hy1 hl => ?_) (hr := by exact fun y1 hy1 => dF_ _ y1 hy1 bp0)
 obtain rfl := len0 hl
 refine bJ_ ?_
 refine t_N ?_
 refine t_RN ?_
 refine t_if (fun hc2 => ?_) fun hc2 => ?_
 ·refine t_RU 3 ?_
  refine aQ_ (fun y2 hs hy2 hl => ?_) (hr := by exact fun y2 hy2 => dF_ _ y2 hy2 bp0)
  obtain rfl := len0 hl
  refine bJ_ ?_
  refine t_N ?_
  refine t_RU 2 ?_
  intro h s σ hS hH
  obtain ⟨y3, hy3, h⟩ := bind_some h
  refine hv_ rfl hS rfl rfl hy3 ?_; intro s hS
  refine t_bk h hS hH ?_
  refine t_N ?_
  intro h s σ hS hH
  obtain rfl := si_1 h
  exact aJ_ [] (bg_ (v := i4 y3) hS rfl r_nil) rfl rfl hH
 refine t_RU 2 ?_
 intro h s σ hS hH
 obtain ⟨y4, hy4, h⟩ := bind_some h
 refine hv_ rfl hS rfl rfl hy4 ?_; intro s hS
 refine t_bk h hS hH ?_
 refine t_N ?_
 intro h s σ hS hH
 obtain rfl := si_1 h
 exact aJ_ [] (bg_ (v := i4 y4) hS rfl r_nil) rfl rfl hH
noncomputable def a2_ (a0 : ap_) (a1 : (Sl ByteArray)) : Option (ByteArray × ap_ × (Sl ByteArray)) := ((aV_ a0 (a1.l.length : Int)).bind fun y1 => ((elt a1 y1.1).bind fun y2 => (some (y2, y1.2, a1))))
theorem dM_ (a0 : ap_) (a1 : (Sl ByteArray)) (r : (ByteArray × ap_ × (Sl ByteArray))) (h : a2_ a0 a1 = some r) (bp0 : Nat) (wp1_1 : Nat) (p1_1 : T) : RawS Try.prog md ext 126 [.ptr bp0 0 0 3, p1_1] 0 (fun hs => E_str r.1) [.box bp0 (ap_.cells a0), .own true wp1_1 p1_1 a1.t] (fun hs => [.box bp0 (ap_.cells r.2.1), .own true wp1_1 p1_1 r.2.2.t]) := by
 unfold a2_ at h
 refine cl_ rfl rfl ok_126 rfl ?_
 intro σ0 σ F σk s hS hH
 have hp1_1 : ak_ p1_1 := Heap.one (hH.at 1 rfl)
 have hS := ac_ (L' := [(0, .ptr bp0 0 0 3), (1, p1_1)]) hS (by kernel_rfl)
 refine t_go h hS hH ?_
 refine t_RN ?_
 refine t_RU 3 ?_
 refine iq_ (a := a1) 1 ?_
 refine aQ_ (fun y1 hs hy1 hl => ?_) (hr := by exact fun y1 hy1 => cg_ _ _ y1 hy1 bp0)
 obtain rfl := len0 hl
 refine bJ_ ?_
 refine nr_ 1 (fun hb1 hb1e y2 hy2 hl_hb1 => ?_)
 refine ox_ 1 0 hl_hb1 hy2 ?_
 refine t_N ?_
 intro h s σ hS hH
 obtain rfl := si_1 h
 exact aJ_ [] (bg_ (v := .str y2) hS rfl r_nil) rfl rfl hH
noncomputable def bw_ (a0 : ap_) : Option (ByteArray × ap_) := ((a2_ a0 (⟨false, [⟨#[97]⟩, ⟨#[98]⟩, ⟨#[97, 98]⟩, ⟨#[98, 97]⟩, ⟨#[97, 98, 99]⟩, ⟨#[40]⟩, ⟨#[41]⟩, ⟨#[40, 41]⟩, ⟨#[120]⟩, ⟨#[97, 97]⟩, ⟨#[99]⟩, ⟨#[34]⟩, ⟨#[97, 34, 98]⟩, ⟨#[0]⟩, ⟨#[120, 121]⟩, ⟨#[98, 99]⟩]⟩)).bind fun y1 => (some (y1.1, y1.2.1)))
theorem gI_ (a0 : ap_) (r : (ByteArray × ap_)) (h : bw_ a0 = some r) (bp0 : Nat) : RawS Try.prog md ext 93 [.ptr bp0 0 0 3] 0 (fun hs => E_str r.1) [.box bp0 (ap_.cells a0)] (fun hs => [.box bp0 (ap_.cells r.2)]) := by
 unfold bw_ at h
 refine cl_ rfl rfl ok_93 rfl ?_
 intro σ0 σ F σk s hS hH
 have hS := ac_ (L' := [(0, .ptr bp0 0 0 3)]) hS (by kernel_rfl)
 refine t_go h hS hH ?_
 refine t_RN ?_
 refine t_RU 1 ?_
 refine k_bs (z := true) (⟨false, [⟨#[97]⟩, ⟨#[98]⟩, ⟨#[97, 98]⟩, ⟨#[98, 97]⟩, ⟨#[97, 98, 99]⟩, ⟨#[40]⟩, ⟨#[41]⟩, ⟨#[40, 41]⟩, ⟨#[120]⟩, ⟨#[97, 97]⟩, ⟨#[99]⟩, ⟨#[34]⟩, ⟨#[97, 34, 98]⟩, ⟨#[0]⟩, ⟨#[120, 121]⟩, ⟨#[98, 99]⟩]⟩ : Sl ByteArray) (fun t1 ht1 => ?_)
 refine t_h Heap.up1 ?_
 refine aQ_ (fun y1 hs hy1 hl => ?_) (hr := by exact fun y1 hy1 => dM_ _ _ y1 hy1 bp0 1 t1)
 obtain rfl := len0 hl
 refine bJ_ ?_
 refine t_N ?_
 intro h s σ hS hH
 obtain rfl := si_1 h
 exact aJ_ [] (bg_ (v := .str y1.1) hS rfl r_nil) rfl rfl (Heap.sel hH [0, 2] rfl (by kernel_rfl))
noncomputable def br_ (a0 : ap_) (a1 : Int) : Option (Bool × ap_) := ((aV_ a0 a1).bind fun y1 => (some ((decide (y1.1 = 0)), y1.2)))
theorem gg_ (a0 : ap_) (a1 : Int) (r : (Bool × ap_)) (h : br_ a0 a1 = some r) (bp0 : Nat) : RawS Try.prog md ext 115 [.ptr bp0 0 0 3, i4 a1] 0 (fun hs => E_bool r.1) [.box bp0 (ap_.cells a0)] (fun hs => [.box bp0 (ap_.cells r.2)]) := by
 unfold br_ at h
 refine cl_ rfl rfl ok_115 rfl ?_
 intro σ0 σ F σk s hS hH
 have hS := ac_ (L' := [(0, .ptr bp0 0 0 3), (1, i4 a1)]) hS (by kernel_rfl)
 refine t_go h hS hH ?_
 refine t_RN ?_
 refine t_RU 2 ?_
 refine aQ_ (fun y1 hs hy1 hl => ?_) (hr := by exact fun y1 hy1 => cg_ _ _ y1 hy1 bp0)
 obtain rfl := len0 hl
 refine bJ_ ?_
 refine t_N ?_
 intro h s σ hS hH
 obtain rfl := si_1 h
 exact aJ_ [] (bg_ (v := .bool (decide (y1.1 = 0))) hS rfl r_nil) rfl rfl hH
end Go.Am
