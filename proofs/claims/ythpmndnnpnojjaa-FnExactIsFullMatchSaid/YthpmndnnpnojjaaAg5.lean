/- Functions of the program. -/
import Derived.Test.YthpmndnnpnojjaaAd0
set_option maxRecDepth 100000
set_option maxHeartbeats 4000000
set_option linter.unusedVariables false
set_option linter.unusedSimpArgs false
namespace Go.Am
open Go.Proofs
noncomputable def cE_ (a0 : ByteArray) (a1 : Int) : Option Int := ((a3_ a0 a1).bind fun y1 => (some y1))
theorem gd_ (a0 : ByteArray) (a1 : Int) (r : Int) (h : cE_ a0 a1 = some r) : cA_ a0 a1 = some r := by
 unfold cE_ at h
 refine k_W ok_171 E_i64_inj h (fun σ0 => ?_)
 refine t_RN ?_
 refine t_RU 2 ?_
 refine au_ fun y1 hy1 => ?_
 refine t_N ?_
 exact k_eW (rT rN) E_i64_p
noncomputable def cC_ (a0 : ByteArray) (a1 : ByteArray) : Option Bool := ((a4_ a0 a1).bind fun y1 => (some y1))
theorem f9_ (a0 : ByteArray) (a1 : ByteArray) (r : Bool) (h : cC_ a0 a1 = some r) : cH_ a0 a1 = some r := by
 unfold cC_ at h
 refine k_W ok_172 E_bool_inj h (fun σ0 => ?_)
 refine t_RN ?_
 refine t_RU 2 ?_
 refine au_ fun y1 hy1 => ?_
 refine t_N ?_
 exact k_eW (rT rN) E_bool_p
noncomputable def eG_ (a0 : Int) (a1 : Int) (a2 : Bool) : Option Int := (if a2 = true then (some (w4 (a1 - a0))) else (some a0))
theorem h8_ (a0 : Int) (a1 : Int) (a2 : Bool) (r : Int) (h : eG_ a0 a1 a2 = some r) : di_ a0 a1 a2 = some r := by
 unfold eG_ at h
 refine k_W ok_175 E_i64_inj h (fun σ0 => ?_)
 refine t_RN ?_
 refine t_RN ?_
 refine t_if (fun hc1 => ?_) fun hc1 => ?_
 ·refine t_RN ?_
  exact k_eW (rT rN) E_i64_p
 refine t_RN ?_
 exact k_eW (rT rN) E_i64_p
noncomputable def a6_ (a0 : ByteArray) (a1 : Int) : Option Int := ((br_ a0 a1).bind fun y1 => (some y1))
theorem cW_ (a0 : ByteArray) (a1 : Int) (r : Int) (h : a6_ a0 a1 = some r) : a3_ a0 a1 = some r := by
 unfold a6_ at h
 refine k_W ok_177 E_i64_inj h (fun σ0 => ?_)
 refine t_RN ?_
 refine t_RU 2 ?_
 refine au_ fun y1 hy1 => ?_
 refine t_N ?_
 exact k_eW (rT rN) E_i64_p
noncomputable def a5_ (a0 : ByteArray) (a1 : ByteArray) : Option Bool := (if ((decide ((a1.size : Int) ≤ (a0.size : Int)))) = true then ((subB a0 0 (a1.size : Int)).bind fun y1 => (some (decide (y1 = a1)))) else (some false))
theorem cX_ (a0 : ByteArray) (a1 : ByteArray) (r : Bool) (h : a5_ a0 a1 = some r) : a4_ a0 a1 = some r := by
 unfold a5_ at h
 refine k_W ok_178 E_bool_inj h (fun σ0 => ?_)
 refine t_RN ?_
 refine t_RU 6 ?_
 refine aM_ 10 (fun hc1 => ?_) fun hc1 => ?_
 ·refine t_U 3 ?_
  refine hA_ fun y1 hy1 => ?_
  refine t_N ?_
  exact k_eW (rT rN) E_bool_p
 refine t_N ?_
 exact k_eW (rT rN) E_bool_p
end Go.Am
