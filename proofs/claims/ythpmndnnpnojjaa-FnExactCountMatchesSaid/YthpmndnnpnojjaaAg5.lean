/- Functions of the program. -/
import Derived.Test.YthpmndnnpnojjaaAd0
set_option maxRecDepth 100000
set_option maxHeartbeats 4000000
set_option linter.unusedVariables false
set_option linter.unusedSimpArgs false
namespace Go.Am
open Go.Proofs
noncomputable def cr_ (a0 : ByteArray) (a1 : Int) : Option Int := ((a6_ a0 a1).bind fun y1 => (some y1))
theorem f5_ (a0 : ByteArray) (a1 : Int) (r : Int) (h : cr_ a0 a1 = some r) : cq_ a0 a1 = some r := by
 unfold cr_ at h
 refine k_W ok_171 E_i64_inj h (fun σ0 => ?_)
 refine t_RN ?_
 refine t_RU 2 ?_
 refine av_ fun y1 hy1 => ?_
 refine t_N ?_
 exact k_eW (rT rN) E_i64_p
noncomputable def cz_ (a0 : ByteArray) (a1 : ByteArray) : Option Bool := ((a3_ a0 a1).bind fun y1 => (some y1))
theorem f0_ (a0 : ByteArray) (a1 : ByteArray) (r : Bool) (h : cz_ a0 a1 = some r) : ct_ a0 a1 = some r := by
 unfold cz_ at h
 refine k_W ok_172 E_bool_inj h (fun σ0 => ?_)
 refine t_RN ?_
 refine t_RU 2 ?_
 refine av_ fun y1 hy1 => ?_
 refine t_N ?_
 exact k_eW (rT rN) E_bool_p
noncomputable def eB_ (a0 : Int) (a1 : Int) (a2 : Bool) : Option Int := (if a2 = true then (some (w4 (a1 - a0))) else (some a0))
theorem h2_ (a0 : Int) (a1 : Int) (a2 : Bool) (r : Int) (h : eB_ a0 a1 a2 = some r) : dg_ a0 a1 a2 = some r := by
 unfold eB_ at h
 refine k_W ok_175 E_i64_inj h (fun σ0 => ?_)
 refine t_RN ?_
 refine t_RN ?_
 refine t_if (fun hc1 => ?_) fun hc1 => ?_
 ·refine t_RN ?_
  exact k_eW (rT rN) E_i64_p
 refine t_RN ?_
 exact k_eW (rT rN) E_i64_p
noncomputable def a4_ (a0 : ByteArray) (a1 : Int) : Option Int := ((bo_ a0 a1).bind fun y1 => (some y1))
theorem cR_ (a0 : ByteArray) (a1 : Int) (r : Int) (h : a4_ a0 a1 = some r) : a6_ a0 a1 = some r := by
 unfold a4_ at h
 refine k_W ok_177 E_i64_inj h (fun σ0 => ?_)
 refine t_RN ?_
 refine t_RU 2 ?_
 refine av_ fun y1 hy1 => ?_
 refine t_N ?_
 exact k_eW (rT rN) E_i64_p
noncomputable def a5_ (a0 : ByteArray) (a1 : ByteArray) : Option Bool := (if ((decide ((a1.size : Int) ≤ (a0.size : Int)))) = true then ((subB a0 0 (a1.size : Int)).bind fun y1 => (some (decide (y1 = a1)))) else (some false))
theorem cT_ (a0 : ByteArray) (a1 : ByteArray) (r : Bool) (h : a5_ a0 a1 = some r) : a3_ a0 a1 = some r := by
 unfold a5_ at h
 refine k_W ok_178 E_bool_inj h (fun σ0 => ?_)
 refine t_RN ?_
 refine t_RU 6 ?_
 refine aK_ 10 (fun hc1 => ?_) fun hc1 => ?_
 ·refine t_U 3 ?_
  refine hI_ fun y1 hy1 => ?_
  refine t_N ?_
  exact k_eW (rT rN) E_bool_p
 refine t_N ?_
 exact k_eW (rT rN) E_bool_p
end Go.Am
