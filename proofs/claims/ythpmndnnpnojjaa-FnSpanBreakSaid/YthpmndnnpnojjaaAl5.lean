/- The law. -/
import Derived.Test.YthpmndnnpnojjaaAd0
import Derived.Test.YthpmndnnpnojjaaAl4
section
set_option maxRecDepth 100000
set_option maxHeartbeats 2000000
set_option linter.unusedVariables false
set_option linter.unusedSimpArgs false
namespace Go.Am
abbrev NS (S : ab_) : ab_ := ⟨S.env_, S.subject_, S.fuel_, S.steps_, S.start_, S.now_, S.conds_, S.matches_, S.most_, S.isMere_, T.nilm, S.code_⟩
section
variable {env : Sl an_} {s : ByteArray} {F M : Nat} {start : Int} {nw cd : Sl ad_} {mt : Sl as_} {cs : Sl ax_} {ou : Sl as_} {nw2 cd2 : Sl ad_} {S' : ab_} {r' : ai_} {b : Bool}
theorem Post.ns (h : Post env s F b M start cd cs cd2 S' r') : Post env s F b M start cd cs cd2 (NS S') r' := by
 refine ⟨h.hs, h.hcs, h.c1, h.c2, fun hb => ?_, fun hb => h.no hb, h.c3, h.c4⟩
 obtain ⟨M', nw', cd', mt', cs', ou', nw2', cd2', g1, g2, g3⟩ := h.go hb
 exact ⟨M', nw', cd', mt', cs', ou', nw2', cd2', g1, by rw [g2], g3⟩
end
end Go.Am
end
