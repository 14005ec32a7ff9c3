/- Functions of the program. -/
import Derived.Test.YthpmndnnpnojjaaAd0
set_option maxRecDepth 100000
set_option maxHeartbeats 4000000
set_option linter.unusedVariables false
set_option linter.unusedSimpArgs false
namespace Go.Am
open Go.Proofs
noncomputable def a6_ (a0 : ByteArray) (a1 : Int) : Option Int := ((bx_ a0 a1).bind fun y1 => (some y1))
theorem c1_ (a0 : ByteArray) (a1 : Int) (r : Int) (h : a6_ a0 a1 = some r) : a9_ a0 a1 = some r := by
 unfold a6_ at h
 refine k_W ok_177 E_i64_inj h (fun σ0 => ?_)
 refine t_RN ?_
 refine t_RU 2 ?_
 refine ar_ fun y1 hy1 => ?_
 refine t_N ?_
 exact k_eW (rT rN) E_i64_p
noncomputable def a8_ (a0 : ByteArray) (a1 : ByteArray) : Option Bool := (if ((decide ((a1.size : Int) ≤ (a0.size : Int)))) = true then ((subB a0 0 (a1.size : Int)).bind fun y1 => (some (decide (y1 = a1)))) else (some false))
theorem c0_ (a0 : ByteArray) (a1 : ByteArray) (r : Bool) (h : a8_ a0 a1 = some r) : a5_ a0 a1 = some r := by
 unfold a8_ at h
 refine k_W ok_178 E_bool_inj h (fun σ0 => ?_)
 refine t_RN ?_
 refine t_RU 6 ?_
 refine aL_ 10 (fun hc1 => ?_) fun hc1 => ?_
 ·refine t_U 3 ?_
  refine h3_ fun y1 hy1 => ?_
  refine t_N ?_
  exact k_eW (rT rN) E_bool_p
 refine t_N ?_
 exact k_eW (rT rN) E_bool_p
end Go.Am
