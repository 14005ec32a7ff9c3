/- Functions of the program. -/
import Derived.Test.YtkgmfmcpbgffpaaAd0
set_option maxRecDepth 100000
set_option maxHeartbeats 4000000
set_option linter.unusedVariables false
set_option linter.unusedSimpArgs false
namespace Go.Am
open Go.Proofs
noncomputable def bl_ (a0 : ByteArray) (a1 : ByteArray) : Option Bool := (if ((decide ((a1.size : Int) ≤ (a0.size : Int)))) = true then ((subB a0 0 (a1.size : Int)).bind fun y1 => (some (decide (y1 = a1)))) else (some false))
theorem do_ (a0 : ByteArray) (a1 : ByteArray) (r : Bool) (h : bl_ a0 a1 = some r) : bj_ a0 a1 = some r := by
 unfold bl_ at h
 refine k_W ok_191 E_bool_inj h (fun σ0 => ?_)
 refine t_RN ?_
 refine t_RU 6 ?_
 refine ay_ 10 (fun hc1 => ?_) fun hc1 => ?_
 ·refine t_U 3 ?_
  refine lk_ fun y1 hy1 => ?_
  refine t_N ?_
  exact k_eW (rT rN) E_bool_p
 refine t_N ?_
 exact k_eW (rT rN) E_bool_p
noncomputable def fN_ (a0 : Int) : Option Bool := (if (decide (65 ≤ a0)) = true then (if (decide (a0 ≤ 90)) = true then (some true) else (if (decide (97 ≤ a0)) = true then (some (decide (a0 ≤ 122))) else (some false))) else (if (decide (97 ≤ a0)) = true then (some (decide (a0 ≤ 122))) else (some false)))
theorem hU_ (a0 : Int) (r : Bool) (h : fN_ a0 = some r) : cp_ a0 = some r := by
 unfold fN_ at h
 refine k_W ok_192 E_bool_inj h (fun σ0 => ?_)
 refine t_RN ?_
 refine t_RU 3 ?_
 refine ay_ 5 (fun hc1 => ?_) fun hc1 => ?_
 ·refine t_U 4 ?_
  refine ay_ 9 (fun hc2 => ?_) fun hc2 => ?_
  ·refine t_N ?_
   exact k_eW (rT rN) E_bool_p
  refine t_U 3 ?_
  refine ay_ 12 (fun hc3 => ?_) fun hc3 => ?_
  ·refine t_N ?_
   exact k_eW (rT rN) E_bool_p
  refine t_N ?_
  exact k_eW (rT rN) E_bool_p
 refine t_U 7 ?_
 refine ay_ 12 (fun hc4 => ?_) fun hc4 => ?_
 ·refine t_N ?_
  exact k_eW (rT rN) E_bool_p
 refine t_N ?_
 exact k_eW (rT rN) E_bool_p
noncomputable def fU_ (a0 : Int) : Option Bool := (if (decide (48 ≤ a0)) = true then (some (decide (a0 ≤ 57))) else (some false))
theorem im_ (a0 : Int) (r : Bool) (h : fU_ a0 = some r) : di_ a0 = some r := by
 unfold fU_ at h
 refine k_W ok_193 E_bool_inj h (fun σ0 => ?_)
 refine t_RN ?_
 refine t_RU 3 ?_
 refine ay_ 5 (fun hc1 => ?_) fun hc1 => ?_
 ·refine t_N ?_
  exact k_eW (rT rN) E_bool_p
 refine t_N ?_
 exact k_eW (rT rN) E_bool_p
end Go.Am
