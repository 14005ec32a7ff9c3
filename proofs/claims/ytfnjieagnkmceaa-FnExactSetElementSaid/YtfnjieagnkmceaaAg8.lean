/- Functions of the program. -/
import Derived.Test.YtfnjieagnkmceaaAd0
set_option maxRecDepth 100000
set_option maxHeartbeats 4000000
set_option linter.unusedVariables false
set_option linter.unusedSimpArgs false
namespace Go.Am
open Go.Proofs
noncomputable def dz_ (a0 : ac_) : Option Bool := (if (decide (a0.Kind = 1)) = true then (if ((decide (a0.Kind = 1) && (decide (a0.Num = 0) && (decide (a0.Text = a0.Text) && (decide (a0.Ref = 0) && true))))) = true then (some (decide ((a0.Text.size : Int) ≤ 200))) else (some false)) else (if (decide (a0.Kind = 2)) = true then (if ((decide (a0.Kind = 2) && (decide (a0.Num = a0.Num) && (decide (a0.Text = (⟨#[]⟩ : ByteArray)) && (decide (a0.Ref = 0) && true))))) = true then ((bR_ a0.Num (-1000000000000) 1000000000000).bind fun y1 => (some y1)) else (some false)) else (if (decide (a0.Kind = 3)) = true then (if ((decide (a0.Kind = 3) && (decide (a0.Num = 0) && (decide (a0.Text = a0.Text) && (decide (a0.Ref = 0) && true))))) = true then (if (decide (1 ≤ (a0.Text.size : Int))) = true then (some (decide ((a0.Text.size : Int) ≤ 1200))) else (some false)) else (some false)) else (((if (decide (a0.Kind = 4)) = true then (some (decide (a0.Kind = 4))) else (if (decide (a0.Kind = 5)) = true then (some (decide (a0.Kind = 5))) else (some (decide (a0.Kind = 6))))) : Option Bool).bind fun y2 => (if y2 = true then (if ((decide (a0.Kind = a0.Kind) && (decide (a0.Num = 0) && (decide (a0.Text = (⟨#[]⟩ : ByteArray)) && (decide (a0.Ref = a0.Ref) && true))))) = true then ((cl_ a0.Ref).bind fun y3 => (some y3)) else (some false)) else (((if (decide (a0.Kind = 7)) = true then (some (decide (a0.Kind = 7))) else (some (decide (a0.Kind = 8)))) : Option Bool).bind fun y4 => (if y4 = true then (if ((decide (a0.Kind = a0.Kind) && (decide (a0.Num = 0) && (decide (a0.Text = a0.Text) && (decide (a0.Ref = 0) && true))))) = true then ((de_ a0.Text).bind fun y5 => (some y5)) else (some false)) else (some false))))))))
theorem hH_ (a0 : ac_) (r : Bool) (h : dz_ a0 = some r) : a9_ a0 = some r := by
 unfold dz_ at h
 refine ax_ E_bool_inj rfl rfl ok_123 rfl (all_cons (by kernel_rfl) all_nil) ?_
 intro σ0 s hS hH
 have hS := am_ (L' := [(0, .agg (ac_.cells a0))]) hS (by kernel_rfl)
 refine ad_ (ab_ ?_)
 refine aT_ (v := .agg (ac_.cells a0)) (cs := [i4 a0.Kind, i4 a0.Num, .str a0.Text, i4 a0.Ref]) rfl hS hH rfl rfl (by kernel_rfl) ?_; intro b1 σ s hH hS
 refine qs 1 [(1, .ptr b1 0 0 4)] hS ?_; intro s hS
 refine ae_ (sq_n (ad_ (ad_ (ab_ ?_))))
 refine qs 1 [(1, .ptr b1 0 0 4), (3, .ptr b1 0 0 1)] hS ?_; intro s hS
 refine ai_ (v := i4 a0.Kind) 0 trivial rfl hS hH rfl rfl (by kernel_rfl) ?_; intro s hS
 refine ae_ (sq_n (aw_ (ad_ (ab_ ?_))))
 refine qs 2 [(1, .ptr b1 0 0 4), (4, i4 a0.Kind), (5, .bool (decide (a0.Kind = 1)))] hS ?_; intro s hS
 refine ae_ (sq_n ?_)
 by_cases hc1 : (decide (a0.Kind = 1)) = true
 ·have h := ak_ hc1 h
  refine af_ hS rfl (fun _ => ?_) (fun hf => ah_ hc1 hf)
  refine ad_ (ab_ ?_)
  refine ai_ (v := .agg (ac_.cells a0)) 0 trivial rfl hS hH rfl rfl (by kernel_rfl) ?_; intro s hS
  refine qs 1 [(1, .ptr b1 0 0 4), (7, .agg (ac_.cells a0)), (8, .ptr b1 0 2 1)] hS ?_; intro s hS
  refine ai_ (v := .str a0.Text) 0 trivial rfl hS hH rfl rfl (by kernel_rfl) ?_; intro s hS
  refine qs 1 [(1, .ptr b1 0 0 4), (7, .agg (ac_.cells a0)), (10, .agg [i4 1, i4 0, .str a0.Text, i4 0])] hS ?_; intro s hS
  refine hw_ (xs := [i4 a0.Kind, i4 a0.Num, .str a0.Text, i4 a0.Ref]) (ys := [i4 1, i4 0, .str a0.Text, i4 0]) (v := (decide (a0.Kind = 1) && (decide (a0.Num = 0) && (decide (a0.Text = a0.Text) && (decide (a0.Ref = 0) && true))))) rfl hS rfl rfl (by kernel_rfl) (by kernel_rfl) ?_; intro s hS
  refine qs 1 [(12, .bool ((decide (a0.Kind = 1) && (decide (a0.Num = 0) && (decide (a0.Text = a0.Text) && (decide (a0.Ref = 0) && true)))))), (1, .ptr b1 0 0 4)] hS ?_; intro s hS
  by_cases hc2 : ((decide (a0.Kind = 1) && (decide (a0.Num = 0) && (decide (a0.Text = a0.Text) && (decide (a0.Ref = 0) && true))))) = true
  ·have h := ak_ hc2 h
   have hS := ap_ hS hc2
   refine qs 1 [(12, .bool true), (13, .ptr b1 0 2 1)] hS ?_; intro s hS
   refine ai_ (v := .str a0.Text) 0 trivial rfl hS hH rfl rfl (by kernel_rfl) ?_; intro s hS
   refine qs 4 [(2, .bool (decide ((a0.Text.size : Int) ≤ 200)))] hS ?_; intro s hS
   refine ae_ (sq_n (ao_ (bk_r (sq_r ?_))))
   injection h with h; subst h
   exact aq_ hH (an_ (v := .bool (decide ((a0.Text.size : Int) ≤ 200))) hS rfl r_nil) rfl (by kernel_rfl) (by simp [pureT, pureL, E_bool])
  ·have h := al_ hc2 h
   have hS := ap_ hS (aB_ hc2)
   refine qs 6 [(2, .bool false)] hS ?_; intro s hS
   refine ae_ (sq_n (ao_ (bk_r (sq_r ?_))))
   injection h with h; subst h
   exact aq_ hH (an_ (v := .bool false) hS rfl r_nil) rfl (by kernel_rfl) (by simp [pureT, pureL, E_bool])
 ·have h := al_ hc1 h
  refine af_ hS rfl (fun hf => ag_ hc1 hf) (fun _ => ?_)
  refine ad_ (ab_ ?_)
  refine qs 2 [(1, .ptr b1 0 0 4), (4, i4 a0.Kind), (18, .bool (decide (a0.Kind = 2)))] hS ?_; intro s hS
  refine ae_ (sq_n ?_)
  by_cases hc3 : (decide (a0.Kind = 2)) = true
  ·have h := ak_ hc3 h
   refine af_ hS rfl (fun _ => ?_) (fun hf => ah_ hc3 hf)
   refine ad_ (ab_ ?_)
   refine ai_ (v := .agg (ac_.cells a0)) 0 trivial rfl hS hH rfl rfl (by kernel_rfl) ?_; intro s hS
   refine qs 1 [(1, .ptr b1 0 0 4), (20, .agg (ac_.cells a0)), (21, .ptr b1 0 1 1)] hS ?_; intro s hS
   refine ai_ (v := i4 a0.Num) 0 trivial rfl hS hH rfl rfl (by kernel_rfl) ?_; intro s hS
   refine qs 1 [(1, .ptr b1 0 0 4), (20, .agg (ac_.cells a0)), (23, .agg [i4 2, i4 a0.Num, .str ⟨#[]⟩, i4 0])] hS ?_; intro s hS
   refine hw_ (xs := [i4 a0.Kind, i4 a0.Num, .str a0.Text, i4 a0.Ref]) (ys := [i4 2, i4 a0.Num, .str ⟨#[]⟩, i4 0]) (v := (decide (a0.Kind = 2) && (decide (a0.Num = a0.Num) && (decide (a0.Text = (⟨#[]⟩ : ByteArray)) && (decide (a0.Ref = 0) && true))))) rfl hS rfl rfl (by kernel_rfl) (by kernel_rfl) ?_; intro s hS
   refine qs 1 [(25, .bool ((decide (a0.Kind = 2) && (decide (a0.Num = a0.Num) && (decide (a0.Text = (⟨#[]⟩ : ByteArray)) && (decide (a0.Ref = 0) && true)))))), (1, .ptr b1 0 0 4)] hS ?_; intro s hS
   by_cases hc4 : ((decide (a0.Kind = 2) && (decide (a0.Num = a0.Num) && (decide (a0.Text = (⟨#[]⟩ : ByteArray)) && (decide (a0.Ref = 0) && true))))) = true
   ·have h := ak_ hc4 h
    have hS := ap_ hS hc4
    refine qs 1 [(25, .bool true), (26, .ptr b1 0 1 1)] hS ?_; intro s hS
    refine ai_ (v := i4 a0.Num) 0 trivial rfl hS hH rfl rfl (by kernel_rfl) ?_; intro s hS
    obtain ⟨y1, hy1, h⟩ := bind_some h
    refine ar_ (a := []) (b := []) (xs := [i4 a0.Num, i4 (-1000000000000), i4 1000000000000]) rfl hS rfl rfl hy1 ?_; intro s hS
    refine qs 2 [(2, .bool y1)] hS ?_; intro s hS
    refine ae_ (sq_n (ao_ (bk_r (sq_r ?_))))
    injection h with h; subst h
    exact aq_ hH (an_ (v := .bool y1) hS rfl r_nil) rfl (by kernel_rfl) (by simp [pureT, pureL, E_bool])
   ·have h := al_ hc4 h
    have hS := ap_ hS (aB_ hc4)
    refine qs 5 [(2, .bool false)] hS ?_; intro s hS
    refine ae_ (sq_n (ao_ (bk_r (sq_r ?_))))
    injection h with h; subst h
    exact aq_ hH (an_ (v := .bool false) hS rfl r_nil) rfl (by kernel_rfl) (by simp [pureT, pureL, E_bool])
  ·have h := al_ hc3 h
   refine af_ hS rfl (fun hf => ag_ hc3 hf) (fun _ => ?_)
   refine ad_ (ab_ ?_)
   refine qs 2 [(1, .ptr b1 0 0 4), (4, i4 a0.Kind), (30, .bool (decide (a0.Kind = 3)))] hS ?_; intro s hS
   refine ae_ (sq_n ?_)
   by_cases hc5 : (decide (a0.Kind = 3)) = true
   ·have h := ak_ hc5 h
    refine af_ hS rfl (fun _ => ?_) (fun hf => ah_ hc5 hf)
    refine ad_ (ab_ ?_)
    refine ai_ (v := .agg (ac_.cells a0)) 0 trivial rfl hS hH rfl rfl (by kernel_rfl) ?_; intro s hS
    refine qs 1 [(1, .ptr b1 0 0 4), (32, .agg (ac_.cells a0)), (33, .ptr b1 0 2 1)] hS ?_; intro s hS
    refine ai_ (v := .str a0.Text) 0 trivial rfl hS hH rfl rfl (by kernel_rfl) ?_; intro s hS
    refine qs 1 [(1, .ptr b1 0 0 4), (32, .agg (ac_.cells a0)), (35, .agg [i4 3, i4 0, .str a0.Text, i4 0])] hS ?_; intro s hS
    refine hw_ (xs := [i4 a0.Kind, i4 a0.Num, .str a0.Text, i4 a0.Ref]) (ys := [i4 3, i4 0, .str a0.Text, i4 0]) (v := (decide (a0.Kind = 3) && (decide (a0.Num = 0) && (decide (a0.Text = a0.Text) && (decide (a0.Ref = 0) && true))))) rfl hS rfl rfl (by kernel_rfl) (by kernel_rfl) ?_; intro s hS
    refine qs 1 [(37, .bool ((decide (a0.Kind = 3) && (decide (a0.Num = 0) && (decide (a0.Text = a0.Text) && (decide (a0.Ref = 0) && true)))))), (1, .ptr b1 0 0 4)] hS ?_; intro s hS
    by_cases hc6 : ((decide (a0.Kind = 3) && (decide (a0.Num = 0) && (decide (a0.Text = a0.Text) && (decide (a0.Ref = 0) && true))))) = true
    ·have h := ak_ hc6 h
     have hS := ap_ hS hc6
     refine qs 1 [(1, .ptr b1 0 0 4), (37, .bool true), (38, .ptr b1 0 2 1)] hS ?_; intro s hS
     refine ai_ (v := .str a0.Text) 0 trivial rfl hS hH rfl rfl (by kernel_rfl) ?_; intro s hS
     refine qs 4 [(43, .bool (decide (1 ≤ (a0.Text.size : Int)))), (1, .ptr b1 0 0 4)] hS ?_; intro s hS
     by_cases hc7 : (decide (1 ≤ (a0.Text.size : Int))) = true
     ·have h := ak_ hc7 h
      have hS := ap_ hS hc7
      refine qs 1 [(43, .bool true), (44, .ptr b1 0 2 1)] hS ?_; intro s hS
      refine ai_ (v := .str a0.Text) 0 trivial rfl hS hH rfl rfl (by kernel_rfl) ?_; intro s hS
      refine qs 4 [(2, .bool (decide ((a0.Text.size : Int) ≤ 1200)))] hS ?_; intro s hS
      refine ae_ (sq_n (ao_ (bk_r (sq_r ?_))))
      injection h with h; subst h
      exact aq_ hH (an_ (v := .bool (decide ((a0.Text.size : Int) ≤ 1200))) hS rfl r_nil) rfl (by kernel_rfl) (by simp [pureT, pureL, E_bool])
     ·have h := al_ hc7 h
      have hS := ap_ hS (aB_ hc7)
      refine qs 6 [(2, .bool false)] hS ?_; intro s hS
      refine ae_ (sq_n (ao_ (bk_r (sq_r ?_))))
      injection h with h; subst h
      exact aq_ hH (an_ (v := .bool false) hS rfl r_nil) rfl (by kernel_rfl) (by simp [pureT, pureL, E_bool])
    ·have h := al_ hc6 h
     have hS := ap_ hS (aB_ hc6)
     refine qs 12 [(2, .bool false)] hS ?_; intro s hS
     refine ae_ (sq_n (ao_ (bk_r (sq_r ?_))))
     injection h with h; subst h
     exact aq_ hH (an_ (v := .bool false) hS rfl r_nil) rfl (by kernel_rfl) (by simp [pureT, pureL, E_bool])
   ·have h := al_ hc5 h
    refine af_ hS rfl (fun hf => ag_ hc5 hf) (fun _ => ?_)
    refine ad_ (ad_ (ab_ ?_))
    refine qs 2 [(1, .ptr b1 0 0 4), (4, i4 a0.Kind), (49, .bool (decide (a0.Kind = 4)))] hS ?_; intro s hS
    refine ae_ (sq_n ?_)
    obtain ⟨y2, hy2, h⟩ := bind_some h
    refine codeQ_mono (Q := fun e fr => e = .normal ∧ Sub [(1, .ptr b1 0 0 4), (4, i4 a0.Kind), (49, .bool y2)] fr.s ∧ Heap σ0 fr.σ [.box b1 (ac_.cells a0)]) ?_ ?_
    ·intro e fr HF; obtain ⟨s, σ⟩ := fr
     obtain ⟨rfl, hS, hH⟩ := HF
     refine sq_n ?_
     by_cases hc8 : y2 = true
     ·have h := ak_ hc8 h
      refine af_ hS rfl (fun _ => ?_) (fun hf => ah_ hc8 hf)
      refine ad_ (ab_ ?_)
      refine ai_ (v := .agg (ac_.cells a0)) 0 trivial rfl hS hH rfl rfl (by kernel_rfl) ?_; intro s hS
      refine qs 1 [(1, .ptr b1 0 0 4), (53, .agg (ac_.cells a0)), (54, .ptr b1 0 0 1)] hS ?_; intro s hS
      refine ai_ (v := i4 a0.Kind) 0 trivial rfl hS hH rfl rfl (by kernel_rfl) ?_; intro s hS
      refine qs 1 [(1, .ptr b1 0 0 4), (53, .agg (ac_.cells a0)), (55, i4 a0.Kind), (56, .ptr b1 0 3 1)] hS ?_; intro s hS
      refine ai_ (v := i4 a0.Ref) 0 trivial rfl hS hH rfl rfl (by kernel_rfl) ?_; intro s hS
      refine qs 1 [(1, .ptr b1 0 0 4), (53, .agg (ac_.cells a0)), (58, .agg [i4 a0.Kind, i4 0, .str ⟨#[]⟩, i4 a0.Ref])] hS ?_; intro s hS
      refine hw_ (xs := [i4 a0.Kind, i4 a0.Num, .str a0.Text, i4 a0.Ref]) (ys := [i4 a0.Kind, i4 0, .str ⟨#[]⟩, i4 a0.Ref]) (v := (decide (a0.Kind = a0.Kind) && (decide (a0.Num = 0) && (decide (a0.Text = (⟨#[]⟩ : ByteArray)) && (decide (a0.Ref = a0.Ref) && true))))) rfl hS rfl rfl (by kernel_rfl) (by kernel_rfl) ?_; intro s hS
      refine qs 1 [(60, .bool ((decide (a0.Kind = a0.Kind) && (decide (a0.Num = 0) && (decide (a0.Text = (⟨#[]⟩ : ByteArray)) && (decide (a0.Ref = a0.Ref) && true)))))), (1, .ptr b1 0 0 4)] hS ?_; intro s hS
      by_cases hc9 : ((decide (a0.Kind = a0.Kind) && (decide (a0.Num = 0) && (decide (a0.Text = (⟨#[]⟩ : ByteArray)) && (decide (a0.Ref = a0.Ref) && true))))) = true
      ·have h := ak_ hc9 h
       have hS := ap_ hS hc9
       refine qs 1 [(60, .bool true), (61, .ptr b1 0 3 1)] hS ?_; intro s hS
       refine ai_ (v := i4 a0.Ref) 0 trivial rfl hS hH rfl rfl (by kernel_rfl) ?_; intro s hS
       obtain ⟨y3, hy3, h⟩ := bind_some h
       refine ar_ (a := []) (b := []) (xs := [i4 a0.Ref]) rfl hS rfl rfl hy3 ?_; intro s hS
       refine qs 2 [(2, .bool y3)] hS ?_; intro s hS
       refine ae_ (sq_n (ao_ (bk_r (sq_r ?_))))
       injection h with h; subst h
       exact aq_ hH (an_ (v := .bool y3) hS rfl r_nil) rfl (by kernel_rfl) (by simp [pureT, pureL, E_bool])
      ·have h := al_ hc9 h
       have hS := ap_ hS (aB_ hc9)
       refine qs 5 [(2, .bool false)] hS ?_; intro s hS
       refine ae_ (sq_n (ao_ (bk_r (sq_r ?_))))
       injection h with h; subst h
       exact aq_ hH (an_ (v := .bool false) hS rfl r_nil) rfl (by kernel_rfl) (by simp [pureT, pureL, E_bool])
     ·have h := al_ hc8 h
      refine af_ hS rfl (fun hf => ag_ hc8 hf) (fun _ => ?_)
      refine ad_ (ad_ (ab_ ?_))
      refine qs 2 [(1, .ptr b1 0 0 4), (4, i4 a0.Kind), (65, .bool (decide (a0.Kind = 7)))] hS ?_; intro s hS
      refine ae_ (sq_n ?_)
      obtain ⟨y4, hy4, h⟩ := bind_some h
      refine codeQ_mono (Q := fun e fr => e = .normal ∧ Sub [(1, .ptr b1 0 0 4), (65, .bool y4)] fr.s ∧ Heap σ0 fr.σ [.box b1 (ac_.cells a0)]) ?_ ?_
      ·intro e fr HF; obtain ⟨s, σ⟩ := fr
       obtain ⟨rfl, hS, hH⟩ := HF
       refine sq_n ?_
       by_cases hc10 : y4 = true
       ·have h := ak_ hc10 h
        refine af_ hS rfl (fun _ => ?_) (fun hf => ah_ hc10 hf)
        refine ad_ (ab_ ?_)
        refine ai_ (v := .agg (ac_.cells a0)) 0 trivial rfl hS hH rfl rfl (by kernel_rfl) ?_; intro s hS
        refine qs 1 [(1, .ptr b1 0 0 4), (68, .agg (ac_.cells a0)), (69, .ptr b1 0 0 1)] hS ?_; intro s hS
        refine ai_ (v := i4 a0.Kind) 0 trivial rfl hS hH rfl rfl (by kernel_rfl) ?_; intro s hS
        refine qs 1 [(1, .ptr b1 0 0 4), (68, .agg (ac_.cells a0)), (70, i4 a0.Kind), (71, .ptr b1 0 2 1)] hS ?_; intro s hS
        refine ai_ (v := .str a0.Text) 0 trivial rfl hS hH rfl rfl (by kernel_rfl) ?_; intro s hS
        refine qs 1 [(1, .ptr b1 0 0 4), (68, .agg (ac_.cells a0)), (73, .agg [i4 a0.Kind, i4 0, .str a0.Text, i4 0])] hS ?_; intro s hS
        refine hw_ (xs := [i4 a0.Kind, i4 a0.Num, .str a0.Text, i4 a0.Ref]) (ys := [i4 a0.Kind, i4 0, .str a0.Text, i4 0]) (v := (decide (a0.Kind = a0.Kind) && (decide (a0.Num = 0) && (decide (a0.Text = a0.Text) && (decide (a0.Ref = 0) && true))))) rfl hS rfl rfl (by kernel_rfl) (by kernel_rfl) ?_; intro s hS
        refine qs 1 [(75, .bool ((decide (a0.Kind = a0.Kind) && (decide (a0.Num = 0) && (decide (a0.Text = a0.Text) && (decide (a0.Ref = 0) && true)))))), (1, .ptr b1 0 0 4)] hS ?_; intro s hS
        by_cases hc11 : ((decide (a0.Kind = a0.Kind) && (decide (a0.Num = 0) && (decide (a0.Text = a0.Text) && (decide (a0.Ref = 0) && true))))) = true
        ·have h := ak_ hc11 h
         have hS := ap_ hS hc11
         refine qs 1 [(75, .bool true), (76, .ptr b1 0 2 1)] hS ?_; intro s hS
         refine ai_ (v := .str a0.Text) 0 trivial rfl hS hH rfl rfl (by kernel_rfl) ?_; intro s hS
         obtain ⟨y5, hy5, h⟩ := bind_some h
         refine ar_ (a := []) (b := []) (xs := [.str a0.Text]) rfl hS rfl rfl hy5 ?_; intro s hS
         refine qs 2 [(2, .bool y5)] hS ?_; intro s hS
         refine ae_ (sq_n (ao_ (bk_r (sq_r ?_))))
         injection h with h; subst h
         exact aq_ hH (an_ (v := .bool y5) hS rfl r_nil) rfl (by kernel_rfl) (by simp [pureT, pureL, E_bool])
        ·have h := al_ hc11 h
         have hS := ap_ hS (aB_ hc11)
         refine qs 5 [(2, .bool false)] hS ?_; intro s hS
         refine ae_ (sq_n (ao_ (bk_r (sq_r ?_))))
         injection h with h; subst h
         exact aq_ hH (an_ (v := .bool false) hS rfl r_nil) rfl (by kernel_rfl) (by simp [pureT, pureL, E_bool])
       ·have h := al_ hc10 h
        refine af_ hS rfl (fun hf => ag_ hc10 hf) (fun _ => ?_)
        refine as_ (bk_n (sq_n (ad_ (ab_ ?_))))
        refine qs 1 [(2, .bool false)] hS ?_; intro s hS
        refine ae_ (sq_n (ao_ ?_))
        injection h with h; subst h
        exact aq_ hH (an_ (v := .bool false) hS rfl r_nil) rfl (by kernel_rfl) (by simp [pureT, pureL, E_bool])
      ·clear h; have h := hy4
       by_cases hc12 : (decide (a0.Kind = 7)) = true
       ·have h := ak_ hc12 h
        refine af_ hS rfl (fun _ => ?_) (fun hf => ah_ hc12 hf)
        refine as_ ?_
        injection h with h; subst h
        exact And.intro rfl (And.intro (am_ hS (by kernel_rfl)) hH)
       ·have h := al_ hc12 h
        refine af_ hS rfl (fun hf => ag_ hc12 hf) (fun _ => ?_)
        refine ab_ ?_
        refine qs 2 [(1, .ptr b1 0 0 4), (65, .bool (decide (a0.Kind = 8)))] hS ?_; intro s hS
        refine ae_ ?_
        injection h with h; subst h
        exact And.intro rfl (And.intro (am_ hS (by kernel_rfl)) hH)
    ·clear h; have h := hy2
     by_cases hc13 : (decide (a0.Kind = 4)) = true
     ·have h := ak_ hc13 h
      refine af_ hS rfl (fun _ => ?_) (fun hf => ah_ hc13 hf)
      refine as_ ?_
      injection h with h; subst h
      exact And.intro rfl (And.intro (am_ hS (by kernel_rfl)) hH)
     ·have h := al_ hc13 h
      refine af_ hS rfl (fun hf => ag_ hc13 hf) (fun _ => ?_)
      refine ad_ (ab_ ?_)
      refine qs 2 [(1, .ptr b1 0 0 4), (4, i4 a0.Kind), (49, .bool (decide (a0.Kind = 5)))] hS ?_; intro s hS
      refine ae_ (sq_n ?_)
      by_cases hc14 : (decide (a0.Kind = 5)) = true
      ·have h := ak_ hc14 h
       refine af_ hS rfl (fun _ => ?_) (fun hf => ah_ hc14 hf)
       refine as_ ?_
       injection h with h; subst h
       exact And.intro rfl (And.intro (am_ hS (by kernel_rfl)) hH)
      ·have h := al_ hc14 h
       refine af_ hS rfl (fun hf => ag_ hc14 hf) (fun _ => ?_)
       refine ab_ ?_
       refine qs 2 [(1, .ptr b1 0 0 4), (4, i4 a0.Kind), (49, .bool (decide (a0.Kind = 6)))] hS ?_; intro s hS
       refine ae_ ?_
       injection h with h; subst h
       exact And.intro rfl (And.intro (am_ hS (by kernel_rfl)) hH)
noncomputable def cJ_ (a0 : (Sl ac_)) : Option Bool := ((aM_ (S := Int) (R := (Unit ⊕ Bool)) (fun st1 => (if (decide (st1 < (a0.l.length : Int))) = true then ((elt a0 st1).bind fun y2 => ((subS a0 0 st1).bind fun y3 => ((bo_ y3 y2).bind fun y4 => (if y4 = true then (some (.inr (.inr false))) else (some (.inl (w4 (st1 + 1)))))))) else (some (.inr (.inl ()))))) 0).bind fun y1 => (Sum.elim (fun y1 => (some true)) (fun y1 => (some y1)) y1))
theorem gq_ (a0 : (Sl ac_)) (r : Bool) (h : cJ_ a0 = some r) : bT_ a0 = some r := by
 unfold cJ_ at h
 refine ax_ E_bool_inj rfl rfl ok_124 rfl (all_cons (by kernel_rfl) all_nil) ?_
 intro σ0 s hS hH
 have hS := am_ (L' := [(0, a0.t)]) hS (by kernel_rfl)
 refine ad_ (ab_ ?_)
 refine qs 1 [(0, a0.t)] hS ?_; intro s hS
 refine ae_ (sq_n (ad_ (ad_ (ab_ ?_))))
 refine qs 3 [(0, a0.t), (5, a0.t), (6, i4 (a0.l.length : Int)), (7, i4 0)] hS ?_; intro s hS
 refine ae_ (sq_n (aw_ ?_))
 obtain ⟨y1, hy1, h⟩ := bind_some h
 refine bd_ (fun (st1 : Int) (fr : Fr) => Sub [(0, a0.t), (5, a0.t), (6, i4 (a0.l.length : Int)), (7, i4 st1)] fr.s ∧ Heap σ0 fr.σ []) (fun (y1 : (Unit ⊕ Bool)) (e : aC_) (fr : Fr) => (Sum.elim (fun y => e = (.exit 0) ∧ Sub [] fr.s ∧ Heap σ0 fr.σ []) (fun y => e = .ret ∧ endW Try.prog (Try.f124.results.toList) σ0 (E_bool y) .ret fr)) y1) hy1 (And.intro (am_ hS (by kernel_rfl)) hH) ?_ ?_
 ·clear h hy1 hS hH; clear y1; intro st1 x fr h HI; obtain ⟨s, σ⟩ := fr; obtain ⟨hS, hH⟩ := HI
  refine ad_ (ab_ ?_)
  refine qs 1 [(0, a0.t), (5, a0.t), (6, i4 (a0.l.length : Int)), (7, i4 st1), (8, .bool (decide (st1 < (a0.l.length : Int))))] hS ?_; intro s hS
  refine ae_ (sq_n (ad_ ?_))
  by_cases hc1 : (decide (st1 < (a0.l.length : Int))) = true
  ·have h := ak_ hc1 h
   refine af_ hS rfl (fun _ => ?_) (fun hf => ah_ hc1 hf)
   refine as_ (sq_n (ad_ (aw_ (ad_ (ab_ ?_)))))
   refine qs 1 [(0, a0.t), (5, a0.t), (6, i4 (a0.l.length : Int)), (7, i4 st1), (9, i4 st1)] hS ?_; intro s hS
   obtain ⟨y2, hy2, h⟩ := bind_some h
   refine bh_ (sl := a0) (e := 28) [i4 y2.Kind, i4 y2.Num, .str y2.Text, i4 y2.Ref] rfl hS rfl rfl (by kernel_rfl) (by kernel_rfl) hy2 rfl ?_; intro rest1 s hS
   refine qs 1 [(0, a0.t), (5, a0.t), (6, i4 (a0.l.length : Int)), (7, i4 st1), (9, i4 st1), (11, .agg (ac_.cells y2))] hS ?_; intro s hS
   refine aO_ (z := [i4 0, i4 0, .str ⟨#[]⟩, i4 0]) rfl hS hH (by kernel_rfl) ?_; intro b1 σ s hH hS
   refine qs 1 [(0, a0.t), (3, i4 st1), (4, .ptr b1 0 0 4), (5, a0.t), (6, i4 (a0.l.length : Int)), (7, i4 st1), (11, .agg (ac_.cells y2))] hS ?_; intro s hS
   refine a0_ (v := .agg (ac_.cells y2)) (cs := [i4 y2.Kind, i4 y2.Num, .str y2.Text, i4 y2.Ref]) (cells' := [i4 y2.Kind, i4 y2.Num, .str y2.Text, i4 y2.Ref]) rfl hS hH rfl rfl rfl (by kernel_rfl) (by kernel_rfl) ?_; intro σ s hH hS
   refine ae_ (sq_n (ad_ ?_))
   refine dk_ (by kernel_rfl) hH ?_; intro mb σ hH
   refine qs 2 [(0, a0.t), (4, .ptr b1 0 0 4), (5, a0.t), (6, i4 (a0.l.length : Int)), (7, i4 st1), (12, a0.t), (13, i4 st1)] hS ?_; intro s hS
   obtain ⟨y3, hy3, h⟩ := bind_some h
   refine o1_ (w := a0) (e := 28) (vlo := none) (vhi := (some (i4 st1))) (a := 0) (b := st1) rfl hS rfl rfl rfl rfl rfl (by kernel_rfl) (by kernel_rfl) hy3 ?_; intro s hS
   refine ai_ (v := .agg (ac_.cells y2)) 0 trivial rfl hS hH rfl rfl (by kernel_rfl) ?_; intro s hS
   obtain ⟨y4, hy4, h⟩ := bind_some h
   refine ar_ (a := []) (b := []) (xs := [y3.t, .agg (ac_.cells y2)]) rfl hS rfl rfl hy4 ?_; intro s hS
   refine ae_ (sq_n ?_)
   by_cases hc2 : y4 = true
   ·have h := ak_ hc2 h
    refine af_ hS rfl (fun _ => ?_) (fun hf => ah_ hc2 hf)
    refine ad_ (ab_ ?_)
    refine qs 1 [(2, .bool false)] hS ?_; intro s hS
    refine ae_ (sq_n (ao_ (bk_r (sq_r ?_))))
    injection h with h; subst h
    exact And.intro rfl (aq_ hH (an_ (v := .bool false) hS rfl r_nil) rfl (by kernel_rfl) (by simp [pureT, pureL, E_bool]))
   ·have h := al_ hc2 h
    refine af_ hS rfl (fun hf => ag_ hc2 hf) (fun _ => ?_)
    refine as_ (bk_n (sq_n (ab_ ?_)))
    refine qs 2 [(0, a0.t), (5, a0.t), (6, i4 (a0.l.length : Int)), (7, i4 (w4 (st1 + 1)))] hS ?_; intro s hS
    refine ae_ ?_
    injection h with h; subst h
    exact And.intro (am_ hS (by kernel_rfl)) (Heap.sel hH [] rfl (by kernel_rfl))
  ·have h := al_ hc1 h
   refine af_ hS rfl (fun hf => ag_ hc1 hf) (fun _ => ?_)
   refine ba_ (sq_x ?_)
   injection h with h; subst h
   exact And.intro rfl (And.intro (am_ hS (by kernel_rfl)) hH)
 ·clear hS hH; intro e fr HF; obtain ⟨s, σ⟩ := fr
  rcases y1 with y1 | y1
  ·obtain ⟨rfl, hS, hH⟩ := HF
   refine bk_e (sq_n (ad_ (ab_ ?_)))
   refine qs 1 [(2, .bool true)] hS ?_; intro s hS
   refine ae_ (sq_n (ao_ ?_))
   injection h with h; subst h
   exact aq_ hH (an_ (v := .bool true) hS rfl r_nil) rfl (by kernel_rfl) (by simp [pureT, pureL, E_bool])
  ·obtain ⟨rfl, HE⟩ := HF
   refine bk_r (sq_r ?_)
   injection h with h; subst h; exact HE
noncomputable def eU_ (a0 : ac_) : Option Bool := ((d7_ a0.Text).bind fun y1 => (if ((decide (a0.Kind = y1.Kind) && (decide (a0.Num = y1.Num) && (decide (a0.Text = y1.Text) && (decide (a0.Ref = y1.Ref) && true))))) = true then ((de_ a0.Text).bind fun y2 => (some y2)) else (some false)))
theorem i7_ (a0 : ac_) (r : Bool) (h : eU_ a0 = some r) : eR_ a0 = some r := by
 unfold eU_ at h
 refine ax_ E_bool_inj rfl rfl ok_125 rfl (all_cons (by kernel_rfl) all_nil) ?_
 intro σ0 s hS hH
 have hS := am_ (L' := [(0, .agg (ac_.cells a0))]) hS (by kernel_rfl)
 refine ad_ (ab_ ?_)
 refine aT_ (v := .agg (ac_.cells a0)) (cs := [i4 a0.Kind, i4 a0.Num, .str a0.Text, i4 a0.Ref]) rfl hS hH rfl rfl (by kernel_rfl) ?_; intro b1 σ s hH hS
 refine qs 1 [(1, .ptr b1 0 0 4)] hS ?_; intro s hS
 refine ae_ (sq_n (ad_ ?_))
 refine dk_ (by kernel_rfl) hH ?_; intro mb σ hH
 refine ai_ (v := .agg (ac_.cells a0)) 0 trivial rfl hS hH rfl rfl (by kernel_rfl) ?_; intro s hS
 refine qs 1 [(1, .ptr b1 0 0 4), (3, .agg (ac_.cells a0)), (4, .ptr b1 0 2 1)] hS ?_; intro s hS
 refine ai_ (v := .str a0.Text) 0 trivial rfl hS hH rfl rfl (by kernel_rfl) ?_; intro s hS
 obtain ⟨y1, hy1, h⟩ := bind_some h
 refine ar_ (a := []) (b := []) (xs := [.str a0.Text]) rfl hS rfl rfl hy1 ?_; intro s hS
 refine hw_ (xs := [i4 a0.Kind, i4 a0.Num, .str a0.Text, i4 a0.Ref]) (ys := [i4 y1.Kind, i4 y1.Num, .str y1.Text, i4 y1.Ref]) (v := (decide (a0.Kind = y1.Kind) && (decide (a0.Num = y1.Num) && (decide (a0.Text = y1.Text) && (decide (a0.Ref = y1.Ref) && true))))) rfl hS rfl rfl (by kernel_rfl) (by kernel_rfl) ?_; intro s hS
 refine qs 1 [(8, .bool ((decide (a0.Kind = y1.Kind) && (decide (a0.Num = y1.Num) && (decide (a0.Text = y1.Text) && (decide (a0.Ref = y1.Ref) && true)))))), (1, .ptr b1 0 0 4)] hS ?_; intro s hS
 by_cases hc1 : ((decide (a0.Kind = y1.Kind) && (decide (a0.Num = y1.Num) && (decide (a0.Text = y1.Text) && (decide (a0.Ref = y1.Ref) && true))))) = true
 ·have h := ak_ hc1 h
  have hS := ap_ hS hc1
  refine qs 1 [(8, .bool true), (9, .ptr b1 0 2 1)] hS ?_; intro s hS
  refine ai_ (v := .str a0.Text) 0 trivial rfl hS hH rfl rfl (by kernel_rfl) ?_; intro s hS
  obtain ⟨y2, hy2, h⟩ := bind_some h
  refine ar_ (a := []) (b := []) (xs := [.str a0.Text]) rfl hS rfl rfl hy2 ?_; intro s hS
  refine qs 2 [(2, .bool y2)] hS ?_; intro s hS
  refine ae_ (sq_n (ao_ ?_))
  injection h with h; subst h
  exact aq_ hH (an_ (v := .bool y2) hS rfl r_nil) rfl (by kernel_rfl) (by simp [pureT, pureL, E_bool])
 ·have h := al_ hc1 h
  have hS := ap_ hS (aB_ hc1)
  refine qs 5 [(2, .bool false)] hS ?_; intro s hS
  refine ae_ (sq_n (ao_ ?_))
  injection h with h; subst h
  exact aq_ hH (an_ (v := .bool false) hS rfl r_nil) rfl (by kernel_rfl) (by simp [pureT, pureL, E_bool])
noncomputable def fm_ (a0 : ByteArray) : Option Bool := (if (decide (1 ≤ (a0.size : Int))) = true then (if (decide ((a0.size : Int) ≤ 12)) = true then ((ex_ a0 0).bind fun y1 => ((c8_ y1).bind fun y2 => (if y2 = true then ((k1_ a0).bind fun y3 => ((eI_ y3 (T.fn 155 [] [])).bind fun y4 => (some y4))) else (some false)))) else (some false)) else (some false))
theorem ka_ (a0 : ByteArray) (r : Bool) (h : fm_ a0 = some r) : de_ a0 = some r := by
 unfold fm_ at h
 refine ax_ E_bool_inj rfl rfl ok_126 rfl (all_cons (by kernel_rfl) all_nil) ?_
 intro σ0 s hS hH
 have hS := am_ (L' := [(0, .str a0)]) hS (by kernel_rfl)
 refine ad_ (ab_ ?_)
 refine qs 1 [(0, .str a0)] hS ?_; intro s hS
 refine ae_ (sq_n (ad_ (ab_ ?_)))
 refine qs 4 [(6, .bool (decide (1 ≤ (a0.size : Int)))), (0, .str a0)] hS ?_; intro s hS
 by_cases hc1 : (decide (1 ≤ (a0.size : Int))) = true
 ·have h := ak_ hc1 h
  have hS := ap_ hS hc1
  refine qs 5 [(11, .bool (decide ((a0.size : Int) ≤ 12))), (0, .str a0)] hS ?_; intro s hS
  by_cases hc2 : (decide ((a0.size : Int) ≤ 12)) = true
  ·have h := ak_ hc2 h
   have hS := ap_ hS hc2
   refine qs 1 [(0, .str a0), (11, .bool true), (12, .str a0)] hS ?_; intro s hS
   obtain ⟨y1, hy1, h⟩ := bind_some h
   refine iu_ rfl hS rfl rfl (by kernel_rfl) hy1 ?_; intro s hS
   obtain ⟨y2, hy2, h⟩ := bind_some h
   refine ar_ (a := []) (b := []) (xs := [.int .u8 y1]) rfl hS rfl rfl hy2 ?_; intro s hS
   refine qs 2 [(16, .bool y2), (0, .str a0)] hS ?_; intro s hS
   by_cases hc3 : y2 = true
   ·have h := ak_ hc3 h
    have hS := ap_ hS hc3
    refine qs 1 [(16, .bool true), (17, .str a0)] hS ?_; intro s hS
    obtain ⟨y3, hy3, h⟩ := bind_some h
    refine sM_ (e := 5) rfl hS hH rfl (by kernel_rfl) (by kernel_rfl) (by kernel_rfl) hy3 ?_; intro t1 σ s ht1 hH hS
    obtain ⟨y4, hy4, h⟩ := bind_some h
    refine dV_ (ents := [.own true 1 t1 y3.t]) (z := false) (ts := [t1, T.fn 155 [] []]) (vs := [y3.t, T.fn 155 [] []]) rfl hS rfl rfl rfl hH (HL.own rfl (HL.leaf (fun σ d => jj_ (by first | assumption | rfl)) HL.nil)) hy4 (by kernel_rfl) ?_; intro s hS
    refine qs 2 [(2, .bool y4)] hS ?_; intro s hS
    refine ae_ (sq_n (ao_ ?_))
    injection h with h; subst h
    exact aq_ hH (an_ (v := .bool y4) hS rfl r_nil) rfl (by kernel_rfl) (by simp [pureT, pureL, E_bool])
   ·have h := al_ hc3 h
    have hS := ap_ hS (aB_ hc3)
    refine qs 5 [(2, .bool false)] hS ?_; intro s hS
    refine ae_ (sq_n (ao_ ?_))
    injection h with h; subst h
    exact aq_ hH (an_ (v := .bool false) hS rfl r_nil) rfl (by kernel_rfl) (by simp [pureT, pureL, E_bool])
  ·have h := al_ hc2 h
   have hS := ap_ hS (aB_ hc2)
   refine qs 10 [(2, .bool false)] hS ?_; intro s hS
   refine ae_ (sq_n (ao_ ?_))
   injection h with h; subst h
   exact aq_ hH (an_ (v := .bool false) hS rfl r_nil) rfl (by kernel_rfl) (by simp [pureT, pureL, E_bool])
 ·have h := al_ hc1 h
  have hS := ap_ hS (aB_ hc1)
  refine qs 15 [(2, .bool false)] hS ?_; intro s hS
  refine ae_ (sq_n (ao_ ?_))
  injection h with h; subst h
  exact aq_ hH (an_ (v := .bool false) hS rfl r_nil) rfl (by kernel_rfl) (by simp [pureT, pureL, E_bool])
noncomputable def bu_ (a0 : (Sl (Sl ac_))) : Option (Sl ac_) := ((aM_ (S := (Int × Int)) (R := Int) (fun st1 => (if (decide (st1.2 < (a0.l.length : Int))) = true then ((elt a0 st1.2).bind fun y2 => (if (decide ((w4 (st1.1 + (y2.l.length : Int))) < 0)) = true then none else (some (.inl ((w4 (st1.1 + (y2.l.length : Int))), (w4 (st1.2 + 1))))))) else (some (.inr st1.1)))) (0, 0)).bind fun y1 => (((if (decide (y1 < 0)) = true then none else (some ())) : Option Unit).bind fun y3 => (if (decide (0 < (w4 (y1 - (w4 (0 - 0)))))) = true then ((kO_ 40 ((⟨0, 0, ⟨#[]⟩, 0⟩ : ac_) : ac_) (w4 (y1 - (w4 (0 - 0))))).bind fun y5 => ((if (!decide (y5.l.length = 0)) = true then some () else none).bind fun y6 => ((aM_ (S := (Int × (Sl ac_))) (R := (Sl ac_)) (fun st2 => (if (decide (st2.1 < (a0.l.length : Int))) = true then ((elt a0 st2.1).bind fun y8 => ((appS 40 st2.2 y8).bind fun y9 => (some (.inl ((w4 (st2.1 + 1)), y9))))) else (some (.inr st2.2)))) (0, (⟨false, []⟩ : Sl ac_))).bind fun y7 => (if (y7.z || !decide (y7.l.length = 0)) = true then (some y7) else none)))) else ((aM_ (S := (Int × (Sl ac_))) (R := (Sl ac_)) (fun st3 => (if (decide (st3.1 < (a0.l.length : Int))) = true then ((elt a0 st3.1).bind fun y11 => ((appS 40 st3.2 y11).bind fun y12 => (some (.inl ((w4 (st3.1 + 1)), y12))))) else (some (.inr st3.2)))) (0, (⟨true, []⟩ : Sl ac_))).bind fun y10 => (some y10)))))
theorem f6_ (a0 : (Sl (Sl ac_))) (r : (Sl ac_)) (h : bu_ a0 = some r) : cd_ a0 = some r := by
 unfold bu_ at h
 refine cx_ rfl rfl ok_127 rfl (all_cons (by kernel_rfl) all_nil) ?_
 intro σ0 s hS hH
 have hS := am_ (L' := [(0, a0.t)]) hS (by kernel_rfl)
 refine ad_ (ab_ ?_)
 refine qs 1 [(0, a0.t)] hS ?_; intro s hS
 refine ae_ (sq_n (ad_ (ab_ ?_)))
 refine qs 1 [(0, a0.t), (3, i4 0)] hS ?_; intro s hS
 refine ae_ (sq_n (ad_ (ad_ (ab_ ?_))))
 refine qs 3 [(0, a0.t), (3, i4 0), (9, a0.t), (10, i4 (a0.l.length : Int)), (11, i4 0)] hS ?_; intro s hS
 refine ae_ (sq_n (aw_ ?_))
 obtain ⟨y1, hy1, h⟩ := bind_some h
 refine bd_ (fun (st1 : (Int × Int)) (fr : Fr) => Sub [(0, a0.t), (3, i4 st1.1), (9, a0.t), (10, i4 (a0.l.length : Int)), (11, i4 st1.2)] fr.s ∧ Heap σ0 fr.σ []) (fun (y1 : Int) (e : aC_) (fr : Fr) => e = (.exit 0) ∧ Sub [(0, a0.t), (3, i4 y1)] fr.s ∧ Heap σ0 fr.σ []) hy1 (And.intro (am_ hS (by kernel_rfl)) hH) ?_ ?_
 ·clear h hy1 hS hH; clear y1; intro st1 x fr h HI; obtain ⟨s, σ⟩ := fr; obtain ⟨hS, hH⟩ := HI
  refine ad_ (ab_ ?_)
  refine qs 1 [(0, a0.t), (3, i4 st1.1), (9, a0.t), (10, i4 (a0.l.length : Int)), (11, i4 st1.2), (12, .bool (decide (st1.2 < (a0.l.length : Int))))] hS ?_; intro s hS
  refine ae_ (sq_n (ad_ ?_))
  by_cases hc1 : (decide (st1.2 < (a0.l.length : Int))) = true
  ·have h := ak_ hc1 h
   refine af_ hS rfl (fun _ => ?_) (fun hf => ah_ hc1 hf)
   refine as_ (sq_n (ad_ (aw_ (ad_ (ab_ ?_)))))
   obtain ⟨y2, hy2, h⟩ := bind_some h
   refine bh_ (sl := a0) (e := 26) [y2.t] rfl hS rfl rfl (by kernel_rfl) (by kernel_rfl) hy2 rfl ?_; intro rest1 s hS
   refine qs 2 [(0, a0.t), (3, i4 st1.1), (5, y2.t), (9, a0.t), (10, i4 (a0.l.length : Int)), (11, i4 st1.2)] hS ?_; intro s hS
   refine ae_ (sq_n (ad_ (ab_ ?_)))
   refine qs 5 [(0, a0.t), (3, i4 (w4 (st1.1 + (y2.l.length : Int)))), (9, a0.t), (10, i4 (a0.l.length : Int)), (11, i4 st1.2)] hS ?_; intro s hS
   refine ae_ (sq_n (ad_ (ab_ ?_)))
   refine qs 2 [(0, a0.t), (3, i4 (w4 (st1.1 + (y2.l.length : Int)))), (9, a0.t), (10, i4 (a0.l.length : Int)), (11, i4 st1.2), (20, .bool (decide ((w4 (st1.1 + (y2.l.length : Int))) < 0)))] hS ?_; intro s hS
   refine ae_ (sq_n ?_)
   by_cases hc2 : (decide ((w4 (st1.1 + (y2.l.length : Int))) < 0)) = true
   ·have h := ak_ hc2 h
    refine af_ hS rfl (fun _ => ?_) (fun hf => ah_ hc2 hf)
    cases h
   ·have h := al_ hc2 h
    refine af_ hS rfl (fun hf => ag_ hc2 hf) (fun _ => ?_)
    refine as_ (bk_n (sq_n (ab_ ?_)))
    refine qs 2 [(0, a0.t), (3, i4 (w4 (st1.1 + (y2.l.length : Int)))), (9, a0.t), (10, i4 (a0.l.length : Int)), (11, i4 (w4 (st1.2 + 1)))] hS ?_; intro s hS
    refine ae_ ?_
    injection h with h; subst h
    exact And.intro (am_ hS (by kernel_rfl)) hH
  ·have h := al_ hc1 h
   refine af_ hS rfl (fun hf => ag_ hc1 hf) (fun _ => ?_)
   refine ba_ (sq_x ?_)
   injection h with h; subst h
   exact And.intro rfl (And.intro (am_ hS (by kernel_rfl)) hH)
 ·clear hS hH; intro e fr HF; obtain ⟨s, σ⟩ := fr
  obtain ⟨rfl, hS, hH⟩ := HF
  refine bk_e (sq_n (ad_ (ab_ ?_)))
  refine qs 1 [(0, a0.t), (23, i4 y1)] hS ?_; intro s hS
  refine nP_ [(nt ac_), i4 y1] rfl hS rfl rfl rfl rfl rfl ok_156 rfl ?_; intro s hS
  have hS := am_ (L' := [(0, (nt ac_)), (1, i4 y1)]) hS (by kernel_rfl)
  refine ad_ (ab_ ?_)
  refine qs 1 [(0, (nt ac_)), (1, i4 y1)] hS ?_; intro s hS
  refine ae_ (sq_n (ad_ (ad_ (ab_ ?_))))
  refine qs 2 [(0, (nt ac_)), (1, i4 y1), (6, .bool (decide (y1 < 0)))] hS ?_; intro s hS
  refine ae_ (sq_n ?_)
  obtain ⟨y3, hy3, h⟩ := bind_some h
  refine codeQ_mono (Q := fun e fr => e = .normal ∧ Sub [(0, (nt ac_)), (1, i4 y1)] fr.s ∧ Heap σ0 fr.σ []) ?_ ?_
  ·intro e fr HF; obtain ⟨s, σ⟩ := fr
   obtain ⟨rfl, hS, hH⟩ := HF
   refine sq_n (ad_ (ad_ (ab_ ?_)))
   refine qs 2 [(0, (nt ac_)), (8, i4 y1), (9, (nt ac_))] hS ?_; intro s hS
   refine oY_ rfl hS rfl (by kernel_rfl) ?_; intro s hS
   refine qs 5 [(0, (nt ac_)), (1, i4 (w4 (y1 - (w4 (0 - 0)))))] hS ?_; intro s hS
   refine ae_ (sq_n (ad_ (ab_ ?_)))
   refine qs 2 [(0, (nt ac_)), (1, i4 (w4 (y1 - (w4 (0 - 0))))), (16, .bool (decide (0 < (w4 (y1 - (w4 (0 - 0)))))))] hS ?_; intro s hS
   refine ae_ (sq_n ?_)
   by_cases hc3 : (decide (0 < (w4 (y1 - (w4 (0 - 0)))))) = true
   ·have h := ak_ hc3 h
    refine af_ hS rfl (fun _ => ?_) (fun hf => ah_ hc3 hf)
    refine ab_ ?_
    refine qs 2 [(0, (nt ac_)), (1, i4 (w4 (y1 - (w4 (0 - 0))))), (17, (nt ac_)), (18, (nt ac_))] hS ?_; intro s hS
    refine oY_ rfl hS rfl (by kernel_rfl) ?_; intro s hS
    refine o1_ (w := (⟨true, []⟩ : Sl ac_)) (y := ⟨true, []⟩) (e := 28) (vlo := none) (vhi := (some (T.int .i64 0))) (a := 0) (b := 0) rfl hS rfl rfl rfl rfl rfl (by kernel_rfl) (by kernel_rfl) rfl ?_; intro s hS
    refine qs 1 [(0, (nt ac_)), (20, (nt ac_)), (21, i4 (w4 (y1 - (w4 (0 - 0)))))] hS ?_; intro s hS
    obtain ⟨y5, hy5, h⟩ := bind_some h
    refine rl_ (z := true) (e := 28) (by_ := 40) (x0 := ((⟨0, 0, ⟨#[]⟩, 0⟩ : ac_) : ac_)) (fun σ d => by simp [Enc.cells, ac_.cells, Iv]) rfl hS hH rfl rfl (by kernel_rfl) (by kernel_rfl) (by kernel_rfl) (by kernel_rfl) (by kernel_rfl) hy5 ?_; intro t1 σ s ht1 hH hS
    refine qs 2 [(22, t1), (24, i4 0)] hS ?_; intro s hS
    obtain ⟨y6, hy6, h⟩ := bind_some h
    obtain ⟨hg1, _⟩ := jL_ hy6
    refine oU_ (a := y5) (e := 28) rfl hS hH rfl rfl (by kernel_rfl) (by kernel_rfl) (by kernel_rfl) hg1 ?_; intro t2 s ht2 hH hS
    have hH : Heap σ0 σ [.frt true 4 t2 (Sl.t (⟨false, []⟩ : Sl ac_))] := hH
    refine qs 1 [(0, t2)] hS ?_; intro s hS
    refine ae_ (sq_n (ad_ (ab_ ?_)))
    refine qs 2 [(4, t2)] hS ?_; intro s hS
    refine ae_ (sq_n (ao_ ?_))
    refine fS_ (v := t2) (an_ (v := t2) hS rfl r_nil) rfl ?_; intro s hS
    refine qs 1 [(0, a0.t), (6, t2)] hS ?_; intro s hS
    refine ae_ (sq_n (ad_ (ad_ (ab_ ?_))))
    refine qs 3 [(6, t2), (25, a0.t), (26, i4 (a0.l.length : Int)), (27, i4 0)] hS ?_; intro s hS
    refine ae_ (sq_n (aw_ ?_))
    obtain ⟨y7, hy7, h⟩ := bind_some h
    refine bd_ (fun (st2 : (Int × (Sl ac_))) (fr : Fr) => ∃ t4, aV_ t4 ∧ Sub [(6, t4), (25, a0.t), (26, i4 (a0.l.length : Int)), (27, i4 st2.1)] fr.s ∧ Heap σ0 fr.σ [.frt true 4 t4 st2.2.t]) (fun (y7 : (Sl ac_)) (e : aC_) (fr : Fr) => ∃ t5, aV_ t5 ∧ e = (.exit 2) ∧ Sub [(6, t5)] fr.s ∧ Heap σ0 fr.σ [.frt true 4 t5 y7.t]) hy7 (Exists.intro t2 (And.intro ht2 (And.intro (am_ hS (by kernel_rfl)) hH))) ?_ ?_
    ·clear h hy7 hS hH; clear y7; intro st2 x fr h HI; obtain ⟨s, σ⟩ := fr; obtain ⟨t4, ht4, ⟨hS, hH⟩⟩ := HI
     refine ad_ (ab_ ?_)
     refine qs 1 [(6, t4), (25, a0.t), (26, i4 (a0.l.length : Int)), (27, i4 st2.1), (28, .bool (decide (st2.1 < (a0.l.length : Int))))] hS ?_; intro s hS
     refine ae_ (sq_n (ad_ ?_))
     by_cases hc4 : (decide (st2.1 < (a0.l.length : Int))) = true
     ·have h := ak_ hc4 h
      refine af_ hS rfl (fun _ => ?_) (fun hf => ah_ hc4 hf)
      refine as_ (sq_n (ad_ (aw_ (ad_ (ab_ ?_)))))
      obtain ⟨y8, hy8, h⟩ := bind_some h
      refine bh_ (sl := a0) (e := 26) [y8.t] rfl hS rfl rfl (by kernel_rfl) (by kernel_rfl) hy8 rfl ?_; intro rest2 s hS
      refine qs 2 [(6, t4), (8, y8.t), (25, a0.t), (26, i4 (a0.l.length : Int)), (27, i4 st2.1)] hS ?_; intro s hS
      refine ae_ (sq_n (ab_ ?_))
      refine qs 2 [(25, a0.t), (26, i4 (a0.l.length : Int)), (27, i4 st2.1), (31, t4), (32, y8.t)] hS ?_; intro s hS
      obtain ⟨y9, hy9, h⟩ := bind_some h
      refine q3_ (z := true) (t1 := t4) (a := st2.2) (b := y8) (e := 28) (by_ := 40) (zc := [i4 0, i4 0, .str ⟨#[]⟩, i4 0]) rfl hS hH rfl rfl (by kernel_rfl) (by kernel_rfl) (by kernel_rfl) (by kernel_rfl) (by kernel_rfl) (by kernel_rfl) hy9 ?_; intro t6 σ s ht6 hH hS
      refine qs 1 [(6, t6), (25, a0.t), (26, i4 (a0.l.length : Int)), (27, i4 st2.1)] hS ?_; intro s hS
      refine ae_ (bk_n (sq_n (ab_ ?_)))
      refine qs 2 [(6, t6), (25, a0.t), (26, i4 (a0.l.length : Int)), (27, i4 (w4 (st2.1 + 1)))] hS ?_; intro s hS
      refine ae_ ?_
      injection h with h; subst h
      exact Exists.intro t6 (And.intro ht6 (And.intro (am_ hS (by kernel_rfl)) hH))
     ·have h := al_ hc4 h
      refine af_ hS rfl (fun hf => ag_ hc4 hf) (fun _ => ?_)
      refine ba_ (sq_x ?_)
      injection h with h; subst h
      exact Exists.intro t4 (And.intro ht4 (And.intro rfl (And.intro (am_ hS (by kernel_rfl)) hH)))
    ·clear hS hH; intro e fr HF; obtain ⟨s, σ⟩ := fr
     obtain ⟨t5, ht5, ⟨rfl, hS, hH⟩⟩ := HF
     refine bk_e (sq_n (ad_ (ab_ ?_)))
     refine qs 2 [(2, t5)] hS ?_; intro s hS
     refine ae_ (sq_n (ao_ ?_))
     obtain ⟨hg2, h⟩ := jL_ h
     have hH := Heap.ofFrt (a := y7) hH hg2
     have hH : Heap σ0 σ [.own true 4 t5 y7.t] := hH
     injection h with h; subst h
     exact a8_ [t5] [] (an_ (v := t5) hS rfl r_nil) (by kernel_rfl) rfl hH (by kernel_rfl)
   ·have h := al_ hc3 h
    refine af_ hS rfl (fun hf => ag_ hc3 hf) (fun _ => ?_)
    refine as_ (sq_n (ad_ (ab_ ?_)))
    refine qs 2 [(4, (nt ac_))] hS ?_; intro s hS
    refine ae_ (sq_n (ao_ ?_))
    refine fS_ (v := (nt ac_)) (an_ (v := (nt ac_)) hS rfl r_nil) rfl ?_; intro s hS
    refine qs 1 [(0, a0.t), (6, (nt ac_))] hS ?_; intro s hS
    refine ae_ (sq_n (ad_ (ad_ (ab_ ?_))))
    refine qs 3 [(6, (nt ac_)), (25, a0.t), (26, i4 (a0.l.length : Int)), (27, i4 0)] hS ?_; intro s hS
    refine ae_ (sq_n (aw_ ?_))
    obtain ⟨y10, hy10, h⟩ := bind_some h
    have hH := Heap.addNil hH true 4
    refine bd_ (fun (st3 : (Int × (Sl ac_))) (fr : Fr) => ∃ t8, aV_ t8 ∧ Sub [(6, t8), (25, a0.t), (26, i4 (a0.l.length : Int)), (27, i4 st3.1)] fr.s ∧ Heap σ0 fr.σ [.own true 4 t8 st3.2.t]) (fun (y10 : (Sl ac_)) (e : aC_) (fr : Fr) => ∃ t9, aV_ t9 ∧ e = (.exit 2) ∧ Sub [(6, t9)] fr.s ∧ Heap σ0 fr.σ [.own true 4 t9 y10.t]) hy10 (Exists.intro (T.row true 0 []) (And.intro ⟨rfl, rfl⟩ (And.intro (am_ hS (by kernel_rfl)) hH))) ?_ ?_
    ·clear h hy10 hS hH; clear y10; intro st3 x fr h HI; obtain ⟨s, σ⟩ := fr; obtain ⟨t8, ht8, ⟨hS, hH⟩⟩ := HI
     refine ad_ (ab_ ?_)
     refine qs 1 [(6, t8), (25, a0.t), (26, i4 (a0.l.length : Int)), (27, i4 st3.1), (28, .bool (decide (st3.1 < (a0.l.length : Int))))] hS ?_; intro s hS
     refine ae_ (sq_n (ad_ ?_))
     by_cases hc5 : (decide (st3.1 < (a0.l.length : Int))) = true
     ·have h := ak_ hc5 h
      refine af_ hS rfl (fun _ => ?_) (fun hf => ah_ hc5 hf)
      refine as_ (sq_n (ad_ (aw_ (ad_ (ab_ ?_)))))
      obtain ⟨y11, hy11, h⟩ := bind_some h
      refine bh_ (sl := a0) (e := 26) [y11.t] rfl hS rfl rfl (by kernel_rfl) (by kernel_rfl) hy11 rfl ?_; intro rest3 s hS
      refine qs 2 [(6, t8), (8, y11.t), (25, a0.t), (26, i4 (a0.l.length : Int)), (27, i4 st3.1)] hS ?_; intro s hS
      refine ae_ (sq_n (ab_ ?_))
      refine qs 2 [(25, a0.t), (26, i4 (a0.l.length : Int)), (27, i4 st3.1), (31, t8), (32, y11.t)] hS ?_; intro s hS
      obtain ⟨y12, hy12, h⟩ := bind_some h
      refine mf_ (z := true) (t1 := t8) (a := st3.2) (b := y11) (e := 28) (by_ := 40) (zc := [i4 0, i4 0, .str ⟨#[]⟩, i4 0]) rfl hS hH rfl rfl (by kernel_rfl) (by kernel_rfl) (by kernel_rfl) (by kernel_rfl) (by kernel_rfl) (by kernel_rfl) hy12 ?_; intro t10 σ s ht10 hH hS
      refine qs 1 [(6, t10), (25, a0.t), (26, i4 (a0.l.length : Int)), (27, i4 st3.1)] hS ?_; intro s hS
      refine ae_ (bk_n (sq_n (ab_ ?_)))
      refine qs 2 [(6, t10), (25, a0.t), (26, i4 (a0.l.length : Int)), (27, i4 (w4 (st3.1 + 1)))] hS ?_; intro s hS
      refine ae_ ?_
      injection h with h; subst h
      exact Exists.intro t10 (And.intro ht10 (And.intro (am_ hS (by kernel_rfl)) hH))
     ·have h := al_ hc5 h
      refine af_ hS rfl (fun hf => ag_ hc5 hf) (fun _ => ?_)
      refine ba_ (sq_x ?_)
      injection h with h; subst h
      exact Exists.intro t8 (And.intro ht8 (And.intro rfl (And.intro (am_ hS (by kernel_rfl)) hH)))
    ·clear hS hH; intro e fr HF; obtain ⟨s, σ⟩ := fr
     obtain ⟨t9, ht9, ⟨rfl, hS, hH⟩⟩ := HF
     refine bk_e (sq_n (ad_ (ab_ ?_)))
     refine qs 2 [(2, t9)] hS ?_; intro s hS
     refine ae_ (sq_n (ao_ ?_))
     injection h with h; subst h
     exact a8_ [t9] [] (an_ (v := t9) hS rfl r_nil) (by kernel_rfl) rfl hH (by kernel_rfl)
  ·clear h; have h := hy3
   by_cases hc6 : (decide (y1 < 0)) = true
   ·have h := ak_ hc6 h
    refine af_ hS rfl (fun _ => ?_) (fun hf => ah_ hc6 hf)
    cases h
   ·have h := al_ hc6 h
    refine af_ hS rfl (fun hf => ag_ hc6 hf) (fun _ => ?_)
    refine as_ ?_
    injection h with h; subst h
    exact And.intro rfl (And.intro (am_ hS (by kernel_rfl)) hH)
noncomputable def e8_ (a0 : Int) : Option Int := (some (w4 ((w4 (a0 - 4)) + 1)))
theorem hv_ (a0 : Int) (r : Int) (h : e8_ a0 = some r) : dt_ a0 = some r := by
 unfold e8_ at h
 refine ax_ E_i64_inj rfl rfl ok_128 rfl (all_cons (by kernel_rfl) all_nil) ?_
 intro σ0 s hS hH
 have hS := am_ (L' := [(0, i4 a0)]) hS (by kernel_rfl)
 refine ad_ (ab_ ?_)
 refine qs 1 [(0, i4 a0)] hS ?_; intro s hS
 refine ae_ (sq_n (ad_ (ab_ ?_)))
 refine qs 4 [(2, i4 (w4 ((w4 (a0 - 4)) + 1)))] hS ?_; intro s hS
 refine ae_ (sq_n (ao_ ?_))
 injection h with h; subst h
 exact aq_ hH (an_ (v := i4 (w4 ((w4 (a0 - 4)) + 1))) hS rfl r_nil) rfl (by kernel_rfl) (by simp [pureT, pureL, E_i64])
noncomputable def c2_ (a0 : aa_) : Option ac_ := (some (⟨(w4 ((w4 (a0.Kind - 1)) + 4)), 0, ⟨#[]⟩, a0.Id⟩ : ac_))
theorem fd_ (a0 : aa_) (r : ac_) (h : c2_ a0 = some r) : bW_ a0 = some r := by
 unfold c2_ at h
 refine ax_ E_DValue_inj rfl rfl ok_129 rfl (all_cons (by kernel_rfl) all_nil) ?_
 intro σ0 s hS hH
 have hS := am_ (L' := [(0, .agg (aa_.cells a0))]) hS (by kernel_rfl)
 refine ad_ (ab_ ?_)
 refine aT_ (v := .agg (aa_.cells a0)) (cs := [i4 a0.Id, i4 a0.Kind, .str a0.Name, i4 a0.Low, a0.Keys.t, a0.Vals.t, i4 a0.Default.Kind, i4 a0.Default.Num, .str a0.Default.Text, i4 a0.Default.Ref]) rfl hS hH rfl rfl (by kernel_rfl) ?_; intro b1 σ s hH hS
 refine aO_ (z := [i4 0, i4 0, .str ⟨#[]⟩, i4 0]) rfl hS hH (by kernel_rfl) ?_; intro b2 σ s hH hS
 refine ae_ (sq_n (ad_ (ab_ ?_)))
 refine qs 1 [(1, .ptr b1 0 0 10), (2, .ptr b2 0 0 4), (3, .ptr b1 0 1 1)] hS ?_; intro s hS
 refine ai_ (v := i4 a0.Kind) 1 trivial rfl hS hH rfl rfl (by kernel_rfl) ?_; intro s hS
 refine qs 3 [(2, .ptr b2 0 0 4), (6, i4 (w4 ((w4 (a0.Kind - 1)) + 4))), (7, .ptr b1 0 0 1)] hS ?_; intro s hS
 refine ai_ (v := i4 a0.Id) 1 trivial rfl hS hH rfl rfl (by kernel_rfl) ?_; intro s hS
 refine qs 1 [(2, .ptr b2 0 0 4), (9, .agg [i4 (w4 ((w4 (a0.Kind - 1)) + 4)), i4 0, .str ⟨#[]⟩, i4 a0.Id])] hS ?_; intro s hS
 refine aF_ (cs := [i4 (w4 ((w4 (a0.Kind - 1)) + 4)), i4 0, .str ⟨#[]⟩, i4 a0.Id]) rfl hS hH rfl rfl (by kernel_rfl) ?_; intro σ s hH hS
 refine ae_ (sq_n (ao_ ?_))
 injection h with h; subst h
 exact aq_ hH (bf_ (v := .agg [i4 (w4 ((w4 (a0.Kind - 1)) + 4)), i4 0, .str ⟨#[]⟩, i4 a0.Id]) hS hH rfl (by kernel_rfl) r_nil) rfl (by kernel_rfl) (by simp [pureT, pureL, E_DValue, ac_.cells])
noncomputable def ed_ (a0 : (Sl ac_)) (a1 : ac_) : Option Int := ((aM_ (S := Int) (R := (Unit ⊕ Int)) (fun st1 => (if (decide (st1 < (a0.l.length : Int))) = true then ((elt a0 st1).bind fun y2 => (if ((decide (y2.Kind = a1.Kind) && (decide (y2.Num = a1.Num) && (decide (y2.Text = a1.Text) && (decide (y2.Ref = a1.Ref) && true))))) = true then (some (.inr (.inr st1))) else (some (.inl (w4 (st1 + 1)))))) else (some (.inr (.inl ()))))) 0).bind fun y1 => (Sum.elim (fun y1 => (some (-1))) (fun y1 => (some y1)) y1))
theorem gH_ (a0 : (Sl ac_)) (a1 : ac_) (r : Int) (h : ed_ a0 a1 = some r) : c3_ a0 a1 = some r := by
 unfold ed_ at h
 refine ax_ E_i64_inj rfl rfl ok_130 rfl (all_cons (by kernel_rfl) (all_cons (by kernel_rfl) all_nil)) ?_
 intro σ0 s hS hH
 have hS := am_ (L' := [(0, a0.t), (1, .agg (ac_.cells a1))]) hS (by kernel_rfl)
 refine ad_ (ab_ ?_)
 refine aT_ (v := .agg (ac_.cells a1)) (cs := [i4 a1.Kind, i4 a1.Num, .str a1.Text, i4 a1.Ref]) rfl hS hH rfl rfl (by kernel_rfl) ?_; intro b1 σ s hH hS
 refine qs 1 [(0, a0.t), (3, .ptr b1 0 0 4)] hS ?_; intro s hS
 refine ae_ (sq_n (ad_ (ad_ (ab_ ?_))))
 refine qs 1 [(0, a0.t), (3, .ptr b1 0 0 4), (5, i4 0)] hS ?_; intro s hS
 refine ae_ (sq_n (aw_ ?_))
 obtain ⟨y1, hy1, h⟩ := bind_some h
 refine bd_ (fun (st1 : Int) (fr : Fr) => Sub [(0, a0.t), (3, .ptr b1 0 0 4), (5, i4 st1)] fr.s ∧ Heap σ0 fr.σ [.box b1 (ac_.cells a1)]) (fun (y1 : (Unit ⊕ Int)) (e : aC_) (fr : Fr) => (Sum.elim (fun y => e = (.exit 0) ∧ Sub [] fr.s ∧ Heap σ0 fr.σ []) (fun y => e = .ret ∧ endW Try.prog (Try.f130.results.toList) σ0 (E_i64 y) .ret fr)) y1) hy1 (And.intro (am_ hS (by kernel_rfl)) hH) ?_ ?_
 ·clear h hy1 hS hH; clear y1; intro st1 x fr h HI; obtain ⟨s, σ⟩ := fr; obtain ⟨hS, hH⟩ := HI
  refine ad_ (ad_ (ab_ ?_))
  refine qs 4 [(0, a0.t), (3, .ptr b1 0 0 4), (5, i4 st1), (9, .bool (decide (st1 < (a0.l.length : Int))))] hS ?_; intro s hS
  refine ae_ (sq_n ?_)
  by_cases hc1 : (decide (st1 < (a0.l.length : Int))) = true
  ·have h := ak_ hc1 h
   refine af_ hS rfl (fun _ => ?_) (fun hf => ah_ hc1 hf)
   refine as_ (sq_n (ad_ (aw_ (ad_ ?_))))
   refine dk_ (by kernel_rfl) hH ?_; intro mb σ hH
   refine qs 2 [(0, a0.t), (3, .ptr b1 0 0 4), (5, i4 st1), (12, a0.t), (13, i4 st1)] hS ?_; intro s hS
   obtain ⟨y2, hy2, h⟩ := bind_some h
   refine bh_ (sl := a0) (e := 28) [i4 y2.Kind, i4 y2.Num, .str y2.Text, i4 y2.Ref] rfl hS rfl rfl (by kernel_rfl) (by kernel_rfl) hy2 rfl ?_; intro rest1 s hS
   refine qs 1 [(0, a0.t), (3, .ptr b1 0 0 4), (5, i4 st1), (15, .agg (ac_.cells y2))] hS ?_; intro s hS
   refine ai_ (v := .agg (ac_.cells a1)) 0 trivial rfl hS hH rfl rfl (by kernel_rfl) ?_; intro s hS
   refine hw_ (xs := [i4 y2.Kind, i4 y2.Num, .str y2.Text, i4 y2.Ref]) (ys := [i4 a1.Kind, i4 a1.Num, .str a1.Text, i4 a1.Ref]) (v := (decide (y2.Kind = a1.Kind) && (decide (y2.Num = a1.Num) && (decide (y2.Text = a1.Text) && (decide (y2.Ref = a1.Ref) && true))))) rfl hS rfl rfl (by kernel_rfl) (by kernel_rfl) ?_; intro s hS
   refine ae_ (sq_n ?_)
   by_cases hc2 : ((decide (y2.Kind = a1.Kind) && (decide (y2.Num = a1.Num) && (decide (y2.Text = a1.Text) && (decide (y2.Ref = a1.Ref) && true))))) = true
   ·have h := ak_ hc2 h
    refine af_ hS rfl (fun _ => ?_) (fun hf => ah_ hc2 hf)
    refine ad_ (ab_ ?_)
    refine qs 2 [(4, i4 st1)] hS ?_; intro s hS
    refine ae_ (sq_n (ao_ (bk_r (sq_r ?_))))
    injection h with h; subst h
    exact And.intro rfl (aq_ hH (an_ (v := i4 st1) hS rfl r_nil) rfl (by kernel_rfl) (by simp [pureT, pureL, E_i64]))
   ·have h := al_ hc2 h
    refine af_ hS rfl (fun hf => ag_ hc2 hf) (fun _ => ?_)
    refine as_ (bk_n (sq_n (ab_ ?_)))
    refine qs 3 [(0, a0.t), (3, .ptr b1 0 0 4), (5, i4 (w4 (st1 + 1)))] hS ?_; intro s hS
    refine ae_ ?_
    injection h with h; subst h
    exact And.intro (am_ hS (by kernel_rfl)) hH
  ·have h := al_ hc1 h
   refine af_ hS rfl (fun hf => ag_ hc1 hf) (fun _ => ?_)
   refine ba_ (sq_x ?_)
   injection h with h; subst h
   exact And.intro rfl (And.intro (am_ hS (by kernel_rfl)) (Heap.sel hH [] rfl (by kernel_rfl)))
 ·clear hS hH; intro e fr HF; obtain ⟨s, σ⟩ := fr
  rcases y1 with y1 | y1
  ·obtain ⟨rfl, hS, hH⟩ := HF
   refine bk_e (sq_n (ad_ (ab_ ?_)))
   refine qs 1 [(4, i4 (-1))] hS ?_; intro s hS
   refine ae_ (sq_n (ao_ ?_))
   injection h with h; subst h
   exact aq_ hH (an_ (v := i4 (-1)) hS rfl r_nil) rfl (by kernel_rfl) (by simp [pureT, pureL, E_i64])
  ·obtain ⟨rfl, HE⟩ := HF
   refine bk_r (sq_r ?_)
   injection h with h; subst h; exact HE
noncomputable def bD_ (a0 : (Sl ac_)) (a1 : ac_) : Option Int := ((aM_ (S := Int) (R := (Unit ⊕ Int)) (fun st1 => (if (decide (st1 < (a0.l.length : Int))) = true then ((elt a0 st1).bind fun y2 => (if ((decide (a1.Kind = y2.Kind) && (decide (a1.Num = y2.Num) && (decide (a1.Text = y2.Text) && (decide (a1.Ref = y2.Ref) && true))))) = true then (some (.inr (.inr st1))) else (some (.inl (w4 (st1 + 1)))))) else (some (.inr (.inl ()))))) 0).bind fun y1 => (Sum.elim (fun y1 => (some (-1))) (fun y1 => (some y1)) y1))
theorem d5_ (a0 : (Sl ac_)) (a1 : ac_) (r : Int) (h : bD_ a0 a1 = some r) : a4_ a0 a1 = some r := by
 unfold bD_ at h
 refine ax_ E_i64_inj rfl rfl ok_131 rfl (all_cons (by kernel_rfl) (all_cons (by kernel_rfl) all_nil)) ?_
 intro σ0 s hS hH
 have hS := am_ (L' := [(0, a0.t), (1, .agg (ac_.cells a1))]) hS (by kernel_rfl)
 refine ad_ (ab_ ?_)
 refine aT_ (v := .agg (ac_.cells a1)) (cs := [i4 a1.Kind, i4 a1.Num, .str a1.Text, i4 a1.Ref]) rfl hS hH rfl rfl (by kernel_rfl) ?_; intro b1 σ s hH hS
 refine qs 1 [(0, a0.t), (3, .ptr b1 0 0 4)] hS ?_; intro s hS
 refine ae_ (sq_n (ad_ (ad_ (ab_ ?_))))
 refine qs 3 [(0, a0.t), (3, .ptr b1 0 0 4), (7, i4 (a0.l.length : Int)), (8, i4 0)] hS ?_; intro s hS
 refine ae_ (sq_n (aw_ ?_))
 obtain ⟨y1, hy1, h⟩ := bind_some h
 refine bd_ (fun (st1 : Int) (fr : Fr) => Sub [(0, a0.t), (3, .ptr b1 0 0 4), (7, i4 (a0.l.length : Int)), (8, i4 st1)] fr.s ∧ Heap σ0 fr.σ [.box b1 (ac_.cells a1)]) (fun (y1 : (Unit ⊕ Int)) (e : aC_) (fr : Fr) => (Sum.elim (fun y => e = (.exit 0) ∧ Sub [] fr.s ∧ Heap σ0 fr.σ []) (fun y => e = .ret ∧ endW Try.prog (Try.f131.results.toList) σ0 (E_i64 y) .ret fr)) y1) hy1 (And.intro (am_ hS (by kernel_rfl)) hH) ?_ ?_
 ·clear h hy1 hS hH; clear y1; intro st1 x fr h HI; obtain ⟨s, σ⟩ := fr; obtain ⟨hS, hH⟩ := HI
  refine ad_ (ab_ ?_)
  refine qs 1 [(0, a0.t), (3, .ptr b1 0 0 4), (7, i4 (a0.l.length : Int)), (8, i4 st1), (9, .bool (decide (st1 < (a0.l.length : Int))))] hS ?_; intro s hS
  refine ae_ (sq_n (ad_ ?_))
  by_cases hc1 : (decide (st1 < (a0.l.length : Int))) = true
  ·have h := ak_ hc1 h
   refine af_ hS rfl (fun _ => ?_) (fun hf => ah_ hc1 hf)
   refine as_ (sq_n (ad_ (aw_ (ad_ (ab_ ?_)))))
   refine qs 2 [(0, a0.t), (3, .ptr b1 0 0 4), (5, i4 st1), (7, i4 (a0.l.length : Int)), (8, i4 st1)] hS ?_; intro s hS
   refine ae_ (sq_n (ad_ ?_))
   refine dk_ (by kernel_rfl) hH ?_; intro mb σ hH
   refine ai_ (v := .agg (ac_.cells a1)) 0 trivial rfl hS hH rfl rfl (by kernel_rfl) ?_; intro s hS
   refine qs 2 [(0, a0.t), (3, .ptr b1 0 0 4), (5, i4 st1), (7, i4 (a0.l.length : Int)), (8, i4 st1), (11, .agg (ac_.cells a1)), (12, a0.t), (13, i4 st1)] hS ?_; intro s hS
   obtain ⟨y2, hy2, h⟩ := bind_some h
   refine bh_ (sl := a0) (e := 28) [i4 y2.Kind, i4 y2.Num, .str y2.Text, i4 y2.Ref] rfl hS rfl rfl (by kernel_rfl) (by kernel_rfl) hy2 rfl ?_; intro rest1 s hS
   refine qs 1 [(0, a0.t), (3, .ptr b1 0 0 4), (5, i4 st1), (7, i4 (a0.l.length : Int)), (8, i4 st1), (11, .agg (ac_.cells a1)), (15, .agg (ac_.cells y2))] hS ?_; intro s hS
   refine hw_ (xs := [i4 a1.Kind, i4 a1.Num, .str a1.Text, i4 a1.Ref]) (ys := [i4 y2.Kind, i4 y2.Num, .str y2.Text, i4 y2.Ref]) (v := (decide (a1.Kind = y2.Kind) && (decide (a1.Num = y2.Num) && (decide (a1.Text = y2.Text) && (decide (a1.Ref = y2.Ref) && true))))) rfl hS rfl rfl (by kernel_rfl) (by kernel_rfl) ?_; intro s hS
   refine ae_ (sq_n ?_)
   by_cases hc2 : ((decide (a1.Kind = y2.Kind) && (decide (a1.Num = y2.Num) && (decide (a1.Text = y2.Text) && (decide (a1.Ref = y2.Ref) && true))))) = true
   ·have h := ak_ hc2 h
    refine af_ hS rfl (fun _ => ?_) (fun hf => ah_ hc2 hf)
    refine ad_ (ab_ ?_)
    refine qs 2 [(4, i4 st1)] hS ?_; intro s hS
    refine ae_ (sq_n (ao_ (bk_r (sq_r ?_))))
    injection h with h; subst h
    exact And.intro rfl (aq_ hH (an_ (v := i4 st1) hS rfl r_nil) rfl (by kernel_rfl) (by simp [pureT, pureL, E_i64]))
   ·have h := al_ hc2 h
    refine af_ hS rfl (fun hf => ag_ hc2 hf) (fun _ => ?_)
    refine as_ (bk_n (sq_n (ab_ ?_)))
    refine qs 2 [(0, a0.t), (3, .ptr b1 0 0 4), (7, i4 (a0.l.length : Int)), (8, i4 (w4 (st1 + 1)))] hS ?_; intro s hS
    refine ae_ ?_
    injection h with h; subst h
    exact And.intro (am_ hS (by kernel_rfl)) hH
  ·have h := al_ hc1 h
   refine af_ hS rfl (fun hf => ag_ hc1 hf) (fun _ => ?_)
   refine ba_ (sq_x ?_)
   injection h with h; subst h
   exact And.intro rfl (And.intro (am_ hS (by kernel_rfl)) (Heap.sel hH [] rfl (by kernel_rfl)))
 ·clear hS hH; intro e fr HF; obtain ⟨s, σ⟩ := fr
  rcases y1 with y1 | y1
  ·obtain ⟨rfl, hS, hH⟩ := HF
   refine bk_e (sq_n (ad_ (ab_ ?_)))
   refine qs 1 [(4, i4 (-1))] hS ?_; intro s hS
   refine ae_ (sq_n (ao_ ?_))
   injection h with h; subst h
   exact aq_ hH (an_ (v := i4 (-1)) hS rfl r_nil) rfl (by kernel_rfl) (by simp [pureT, pureL, E_i64])
  ·obtain ⟨rfl, HE⟩ := HF
   refine bk_r (sq_r ?_)
   injection h with h; subst h; exact HE
noncomputable def gL_ (a0 : ByteArray) : Option ac_ := (some (⟨1, 0, a0, 0⟩ : ac_))
theorem jU_ (a0 : ByteArray) (r : ac_) (h : gL_ a0 = some r) : d7_ a0 = some r := by
 unfold gL_ at h
 refine ax_ E_DValue_inj rfl rfl ok_132 rfl (all_cons (by kernel_rfl) all_nil) ?_
 intro σ0 s hS hH
 have hS := am_ (L' := [(0, .str a0)]) hS (by kernel_rfl)
 refine ad_ (ab_ ?_)
 refine aO_ (z := [i4 0, i4 0, .str ⟨#[]⟩, i4 0]) rfl hS hH (by kernel_rfl) ?_; intro b1 σ s hH hS
 refine ae_ (sq_n (ad_ (ab_ ?_)))
 refine qs 2 [(2, .ptr b1 0 0 4), (4, .agg [i4 1, i4 0, .str a0, i4 0])] hS ?_; intro s hS
 refine aF_ (cs := [i4 1, i4 0, .str a0, i4 0]) rfl hS hH rfl rfl (by kernel_rfl) ?_; intro σ s hH hS
 refine ae_ (sq_n (ao_ ?_))
 injection h with h; subst h
 exact aq_ hH (bf_ (v := .agg [i4 1, i4 0, .str a0, i4 0]) hS hH rfl (by kernel_rfl) r_nil) rfl (by kernel_rfl) (by simp [pureT, pureL, E_DValue, ac_.cells])
noncomputable def eT_ (a0 : Int) (a1 : Int) : Option Bool := (if (decide (0 ≤ a0)) = true then (some (decide (a0 < a1))) else (some false))
theorem i0_ (a0 : Int) (a1 : Int) (r : Bool) (h : eT_ a0 a1 = some r) : eZ_ a0 a1 = some r := by
 unfold eT_ at h
 refine ax_ E_bool_inj rfl rfl ok_133 rfl (all_cons (by kernel_rfl) (all_cons (by kernel_rfl) all_nil)) ?_
 intro σ0 s hS hH
 have hS := am_ (L' := [(0, i4 a0), (1, i4 a1)]) hS (by kernel_rfl)
 refine ad_ (ab_ ?_)
 refine qs 1 [(0, i4 a0), (1, i4 a1)] hS ?_; intro s hS
 refine ae_ (sq_n (ad_ (ab_ ?_)))
 refine qs 3 [(7, .bool (decide (0 ≤ a0))), (0, i4 a0), (1, i4 a1)] hS ?_; intro s hS
 by_cases hc1 : (decide (0 ≤ a0)) = true
 ·have h := ak_ hc1 h
  have hS := ap_ hS hc1
  refine qs 5 [(4, .bool (decide (a0 < a1)))] hS ?_; intro s hS
  refine ae_ (sq_n (ao_ ?_))
  injection h with h; subst h
  exact aq_ hH (an_ (v := .bool (decide (a0 < a1))) hS rfl r_nil) rfl (by kernel_rfl) (by simp [pureT, pureL, E_bool])
 ·have h := al_ hc1 h
  have hS := ap_ hS (aB_ hc1)
  refine qs 5 [(4, .bool false)] hS ?_; intro s hS
  refine ae_ (sq_n (ao_ ?_))
  injection h with h; subst h
  exact aq_ hH (an_ (v := .bool false) hS rfl r_nil) rfl (by kernel_rfl) (by simp [pureT, pureL, E_bool])
noncomputable def do_ (a0 : Int) : Option Bool := (some (!decide (a0 = a0)))
theorem hl_ (a0 : Int) (r : Bool) (h : do_ a0 = some r) : cm_ a0 = some r := by
 unfold do_ at h
 refine ax_ E_bool_inj rfl rfl ok_147 rfl (all_cons (by kernel_rfl) all_nil) ?_
 intro σ0 s hS hH
 have hS := am_ (L' := [(0, i4 a0)]) hS (by kernel_rfl)
 refine ad_ (ab_ ?_)
 refine qs 1 [(0, i4 a0)] hS ?_; intro s hS
 refine ae_ (sq_n (ad_ (ab_ ?_)))
 refine qs 4 [(2, .bool (!decide (a0 = a0)))] hS ?_; intro s hS
 refine ae_ (sq_n (ao_ ?_))
 injection h with h; subst h
 exact aq_ hH (an_ (v := .bool (!decide (a0 = a0))) hS rfl r_nil) rfl (by kernel_rfl) (by simp [pureT, pureL, E_bool])
noncomputable def dQ_ (a0 : ac_) (a1 : ac_) : Option Bool := (some (decide (a0.Kind = a1.Kind) && (decide (a0.Num = a1.Num) && (decide (a0.Text = a1.Text) && (decide (a0.Ref = a1.Ref) && true)))))
theorem hX_ (a0 : ac_) (a1 : ac_) (r : Bool) (h : dQ_ a0 a1 = some r) : b2_ a0 a1 = some r := by
 unfold dQ_ at h
 refine ax_ E_bool_inj rfl rfl ok_148 rfl (all_cons (by kernel_rfl) (all_cons (by kernel_rfl) all_nil)) ?_
 intro σ0 s hS hH
 have hS := am_ (L' := [(0, .agg (ac_.cells a0)), (1, .agg (ac_.cells a1))]) hS (by kernel_rfl)
 refine ad_ (ab_ ?_)
 refine aT_ (v := .agg (ac_.cells a0)) (cs := [i4 a0.Kind, i4 a0.Num, .str a0.Text, i4 a0.Ref]) rfl hS hH rfl rfl (by kernel_rfl) ?_; intro b1 σ s hH hS
 refine aT_ (v := .agg (ac_.cells a1)) (cs := [i4 a1.Kind, i4 a1.Num, .str a1.Text, i4 a1.Ref]) rfl hS hH rfl rfl (by kernel_rfl) ?_; intro b2 σ s hH hS
 refine qs 1 [(2, .ptr b1 0 0 4), (3, .ptr b2 0 0 4)] hS ?_; intro s hS
 refine ae_ (sq_n (ad_ (ab_ ?_)))
 refine ai_ (v := .agg (ac_.cells a0)) 1 trivial rfl hS hH rfl rfl (by kernel_rfl) ?_; intro s hS
 refine ai_ (v := .agg (ac_.cells a1)) 0 trivial rfl hS hH rfl rfl (by kernel_rfl) ?_; intro s hS
 refine hw_ (xs := [i4 a0.Kind, i4 a0.Num, .str a0.Text, i4 a0.Ref]) (ys := [i4 a1.Kind, i4 a1.Num, .str a1.Text, i4 a1.Ref]) (v := (decide (a0.Kind = a1.Kind) && (decide (a0.Num = a1.Num) && (decide (a0.Text = a1.Text) && (decide (a0.Ref = a1.Ref) && true))))) rfl hS rfl rfl (by kernel_rfl) (by kernel_rfl) ?_; intro s hS
 refine qs 1 [(4, .bool ((decide (a0.Kind = a1.Kind) && (decide (a0.Num = a1.Num) && (decide (a0.Text = a1.Text) && (decide (a0.Ref = a1.Ref) && true))))))] hS ?_; intro s hS
 refine ae_ (sq_n (ao_ ?_))
 injection h with h; subst h
 exact aq_ hH (an_ (v := .bool ((decide (a0.Kind = a1.Kind) && (decide (a0.Num = a1.Num) && (decide (a0.Text = a1.Text) && (decide (a0.Ref = a1.Ref) && true)))))) hS rfl r_nil) rfl (by kernel_rfl) (by simp [pureT, pureL, E_bool])
noncomputable def ek_ (a0 : ac_) (a1 : Bool) (a2 : Bool) (a3 : Bool) : Option Bool := (if a1 = true then (if a2 = true then (if a3 = true then (some true) else (some (decide (a0.Ref = 0)))) else (if (decide (a0.Text = (⟨#[]⟩ : ByteArray))) = true then (if a3 = true then (some true) else (some (decide (a0.Ref = 0)))) else (some false))) else (if (decide (a0.Num = 0)) = true then (if a2 = true then (if a3 = true then (some true) else (some (decide (a0.Ref = 0)))) else (if (decide (a0.Text = (⟨#[]⟩ : ByteArray))) = true then (if a3 = true then (some true) else (some (decide (a0.Ref = 0)))) else (some false))) else (some false)))
theorem iR_ (a0 : ac_) (a1 : Bool) (a2 : Bool) (a3 : Bool) (r : Bool) (h : ek_ a0 a1 a2 a3 = some r) : br_ a0 a1 a2 a3 = some r := by
 unfold ek_ at h
 refine ax_ E_bool_inj rfl rfl ok_149 rfl (all_cons (by kernel_rfl) (all_cons (by kernel_rfl) (all_cons (by kernel_rfl) (all_cons (by kernel_rfl) all_nil)))) ?_
 intro σ0 s hS hH
 have hS := am_ (L' := [(0, .agg (ac_.cells a0)), (1, .bool a1), (2, .bool a2), (3, .bool a3)]) hS (by kernel_rfl)
 refine ad_ (ab_ ?_)
 refine aT_ (v := .agg (ac_.cells a0)) (cs := [i4 a0.Kind, i4 a0.Num, .str a0.Text, i4 a0.Ref]) rfl hS hH rfl rfl (by kernel_rfl) ?_; intro b1 σ s hH hS
 refine qs 1 [(1, .bool a1), (2, .bool a2), (3, .bool a3), (4, .ptr b1 0 0 4)] hS ?_; intro s hS
 refine ae_ (sq_n (ad_ (ab_ ?_)))
 refine qs 2 [(10, .bool a1), (2, .bool a2), (3, .bool a3), (4, .ptr b1 0 0 4)] hS ?_; intro s hS
 by_cases hc1 : a1 = true
 ·have h := ak_ hc1 h
  have hS := ap_ hS hc1
  refine qs 7 [(17, .bool a2), (3, .bool a3), (4, .ptr b1 0 0 4), (15, .bool true)] hS ?_; intro s hS
  by_cases hc2 : a2 = true
  ·have h := ak_ hc2 h
   have hS := ap_ hS hc2
   refine qs 8 [(25, .bool a3), (4, .ptr b1 0 0 4), (23, .bool true)] hS ?_; intro s hS
   by_cases hc3 : a3 = true
   ·have h := ak_ hc3 h
    have hS := ap_ hS hc3
    refine qs 6 [(8, .bool true)] hS ?_; intro s hS
    refine ae_ (sq_n (ao_ ?_))
    injection h with h; subst h
    exact aq_ hH (an_ (v := .bool true) hS rfl r_nil) rfl (by kernel_rfl) (by simp [pureT, pureL, E_bool])
   ·have h := al_ hc3 h
    have hS := ap_ hS (aB_ hc3)
    refine qs 1 [(23, .bool true), (25, .bool false), (26, .ptr b1 0 3 1)] hS ?_; intro s hS
    refine ai_ (v := i4 a0.Ref) 0 trivial rfl hS hH rfl rfl (by kernel_rfl) ?_; intro s hS
    refine qs 4 [(8, .bool (decide (a0.Ref = 0)))] hS ?_; intro s hS
    refine ae_ (sq_n (ao_ ?_))
    injection h with h; subst h
    exact aq_ hH (an_ (v := .bool (decide (a0.Ref = 0))) hS rfl r_nil) rfl (by kernel_rfl) (by simp [pureT, pureL, E_bool])
  ·have h := al_ hc2 h
   have hS := ap_ hS (aB_ hc2)
   refine qs 1 [(3, .bool a3), (4, .ptr b1 0 0 4), (15, .bool true), (17, .bool false), (18, .ptr b1 0 2 1)] hS ?_; intro s hS
   refine ai_ (v := .str a0.Text) 0 trivial rfl hS hH rfl rfl (by kernel_rfl) ?_; intro s hS
   refine qs 4 [(23, .bool (decide (a0.Text = (⟨#[]⟩ : ByteArray)))), (3, .bool a3), (4, .ptr b1 0 0 4)] hS ?_; intro s hS
   by_cases hc4 : (decide (a0.Text = (⟨#[]⟩ : ByteArray))) = true
   ·have h := ak_ hc4 h
    have hS := ap_ hS hc4
    refine qs 2 [(25, .bool a3), (4, .ptr b1 0 0 4), (23, .bool true)] hS ?_; intro s hS
    by_cases hc5 : a3 = true
    ·have h := ak_ hc5 h
     have hS := ap_ hS hc5
     refine qs 6 [(8, .bool true)] hS ?_; intro s hS
     refine ae_ (sq_n (ao_ ?_))
     injection h with h; subst h
     exact aq_ hH (an_ (v := .bool true) hS rfl r_nil) rfl (by kernel_rfl) (by simp [pureT, pureL, E_bool])
    ·have h := al_ hc5 h
     have hS := ap_ hS (aB_ hc5)
     refine qs 1 [(23, .bool true), (25, .bool false), (26, .ptr b1 0 3 1)] hS ?_; intro s hS
     refine ai_ (v := i4 a0.Ref) 0 trivial rfl hS hH rfl rfl (by kernel_rfl) ?_; intro s hS
     refine qs 4 [(8, .bool (decide (a0.Ref = 0)))] hS ?_; intro s hS
     refine ae_ (sq_n (ao_ ?_))
     injection h with h; subst h
     exact aq_ hH (an_ (v := .bool (decide (a0.Ref = 0))) hS rfl r_nil) rfl (by kernel_rfl) (by simp [pureT, pureL, E_bool])
   ·have h := al_ hc4 h
    have hS := ap_ hS (aB_ hc4)
    refine qs 8 [(8, .bool false)] hS ?_; intro s hS
    refine ae_ (sq_n (ao_ ?_))
    injection h with h; subst h
    exact aq_ hH (an_ (v := .bool false) hS rfl r_nil) rfl (by kernel_rfl) (by simp [pureT, pureL, E_bool])
 ·have h := al_ hc1 h
  have hS := ap_ hS (aB_ hc1)
  refine qs 1 [(2, .bool a2), (3, .bool a3), (4, .ptr b1 0 0 4), (10, .bool false), (11, .ptr b1 0 1 1)] hS ?_; intro s hS
  refine ai_ (v := i4 a0.Num) 0 trivial rfl hS hH rfl rfl (by kernel_rfl) ?_; intro s hS
  refine qs 3 [(15, .bool (decide (a0.Num = 0))), (2, .bool a2), (3, .bool a3), (4, .ptr b1 0 0 4)] hS ?_; intro s hS
  by_cases hc6 : (decide (a0.Num = 0)) = true
  ·have h := ak_ hc6 h
   have hS := ap_ hS hc6
   refine qs 2 [(17, .bool a2), (3, .bool a3), (4, .ptr b1 0 0 4), (15, .bool true)] hS ?_; intro s hS
   by_cases hc7 : a2 = true
   ·have h := ak_ hc7 h
    have hS := ap_ hS hc7
    refine qs 8 [(25, .bool a3), (4, .ptr b1 0 0 4), (23, .bool true)] hS ?_; intro s hS
    by_cases hc8 : a3 = true
    ·have h := ak_ hc8 h
     have hS := ap_ hS hc8
     refine qs 6 [(8, .bool true)] hS ?_; intro s hS
     refine ae_ (sq_n (ao_ ?_))
     injection h with h; subst h
     exact aq_ hH (an_ (v := .bool true) hS rfl r_nil) rfl (by kernel_rfl) (by simp [pureT, pureL, E_bool])
    ·have h := al_ hc8 h
     have hS := ap_ hS (aB_ hc8)
     refine qs 1 [(23, .bool true), (25, .bool false), (26, .ptr b1 0 3 1)] hS ?_; intro s hS
     refine ai_ (v := i4 a0.Ref) 0 trivial rfl hS hH rfl rfl (by kernel_rfl) ?_; intro s hS
     refine qs 4 [(8, .bool (decide (a0.Ref = 0)))] hS ?_; intro s hS
     refine ae_ (sq_n (ao_ ?_))
     injection h with h; subst h
     exact aq_ hH (an_ (v := .bool (decide (a0.Ref = 0))) hS rfl r_nil) rfl (by kernel_rfl) (by simp [pureT, pureL, E_bool])
   ·have h := al_ hc7 h
    have hS := ap_ hS (aB_ hc7)
    refine qs 1 [(3, .bool a3), (4, .ptr b1 0 0 4), (15, .bool true), (17, .bool false), (18, .ptr b1 0 2 1)] hS ?_; intro s hS
    refine ai_ (v := .str a0.Text) 0 trivial rfl hS hH rfl rfl (by kernel_rfl) ?_; intro s hS
    refine qs 4 [(23, .bool (decide (a0.Text = (⟨#[]⟩ : ByteArray)))), (3, .bool a3), (4, .ptr b1 0 0 4)] hS ?_; intro s hS
    by_cases hc9 : (decide (a0.Text = (⟨#[]⟩ : ByteArray))) = true
    ·have h := ak_ hc9 h
     have hS := ap_ hS hc9
     refine qs 2 [(25, .bool a3), (4, .ptr b1 0 0 4), (23, .bool true)] hS ?_; intro s hS
     by_cases hc10 : a3 = true
     ·have h := ak_ hc10 h
      have hS := ap_ hS hc10
      refine qs 6 [(8, .bool true)] hS ?_; intro s hS
      refine ae_ (sq_n (ao_ ?_))
      injection h with h; subst h
      exact aq_ hH (an_ (v := .bool true) hS rfl r_nil) rfl (by kernel_rfl) (by simp [pureT, pureL, E_bool])
     ·have h := al_ hc10 h
      have hS := ap_ hS (aB_ hc10)
      refine qs 1 [(23, .bool true), (25, .bool false), (26, .ptr b1 0 3 1)] hS ?_; intro s hS
      refine ai_ (v := i4 a0.Ref) 0 trivial rfl hS hH rfl rfl (by kernel_rfl) ?_; intro s hS
      refine qs 4 [(8, .bool (decide (a0.Ref = 0)))] hS ?_; intro s hS
      refine ae_ (sq_n (ao_ ?_))
      injection h with h; subst h
      exact aq_ hH (an_ (v := .bool (decide (a0.Ref = 0))) hS rfl r_nil) rfl (by kernel_rfl) (by simp [pureT, pureL, E_bool])
    ·have h := al_ hc9 h
     have hS := ap_ hS (aB_ hc9)
     refine qs 8 [(8, .bool false)] hS ?_; intro s hS
     refine ae_ (sq_n (ao_ ?_))
     injection h with h; subst h
     exact aq_ hH (an_ (v := .bool false) hS rfl r_nil) rfl (by kernel_rfl) (by simp [pureT, pureL, E_bool])
  ·have h := al_ hc6 h
   have hS := ap_ hS (aB_ hc6)
   refine qs 16 [(8, .bool false)] hS ?_; intro s hS
   refine ae_ (sq_n (ao_ ?_))
   injection h with h; subst h
   exact aq_ hH (an_ (v := .bool false) hS rfl r_nil) rfl (by kernel_rfl) (by simp [pureT, pureL, E_bool])
noncomputable def ck_ (a0 : ByteArray) (a1 : Int) : Option Int := (if (decide ((a0.size : Int) ≤ a1)) = true then (some a1) else ((ex_ a0 a1).bind fun y1 => ((b3_ y1).bind fun y2 => (if (!y2) = true then (some a1) else ((aM_ (S := Int) (R := Int) (fun st1 => (if (decide (st1 < (a0.size : Int))) = true then ((ex_ a0 st1).bind fun y4 => ((b3_ y4).bind fun y5 => (if y5 = true then (some (.inl (w4 (st1 + 1)))) else ((ex_ a0 st1).bind fun y6 => ((dj_ y6).bind fun y7 => (if y7 = true then (some (.inl (w4 (st1 + 1)))) else ((ex_ a0 st1).bind fun y8 => (if (decide (y8 = 95)) = true then (some (.inl (w4 (st1 + 1)))) else (some (.inr st1)))))))))) else (some (.inr st1)))) a1).bind fun y3 => (some y3))))))
theorem hK_ (a0 : ByteArray) (a1 : Int) (r : Int) (h : ck_ a0 a1 = some r) : du_ a0 a1 = some r := by
 unfold ck_ at h
 refine ax_ E_i64_inj rfl rfl ok_150 rfl (all_cons (by kernel_rfl) (all_cons (by kernel_rfl) all_nil)) ?_
 intro σ0 s hS hH
 have hS := am_ (L' := [(0, .str a0), (1, i4 a1)]) hS (by kernel_rfl)
 refine ad_ (ab_ ?_)
 refine qs 1 [(0, .str a0), (1, i4 a1)] hS ?_; intro s hS
 refine ae_ (sq_n (ad_ (ad_ (ab_ ?_))))
 refine qs 5 [(9, .bool (decide ((a0.size : Int) ≤ a1))), (0, .str a0), (1, i4 a1)] hS ?_; intro s hS
 by_cases hc1 : (decide ((a0.size : Int) ≤ a1)) = true
 ·have h := ak_ hc1 h
  have hS := ap_ hS hc1
  refine qs 6 [(0, .str a0), (1, i4 a1), (15, .bool true)] hS ?_; intro s hS
  refine ae_ (sq_n ?_)
  refine af_ (t := true) hS rfl (fun _ => ?_) (fun hf => by cases hf)
  refine ad_ (ab_ ?_)
  refine qs 2 [(4, i4 a1)] hS ?_; intro s hS
  refine ae_ (sq_n (ao_ (sq_r ?_)))
  injection h with h; subst h
  exact aq_ hH (an_ (v := i4 a1) hS rfl r_nil) rfl (by kernel_rfl) (by simp [pureT, pureL, E_i64])
 ·have h := al_ hc1 h
  have hS := ap_ hS (aB_ hc1)
  refine qs 2 [(0, .str a0), (1, i4 a1), (9, .bool false), (10, .str a0), (11, i4 a1)] hS ?_; intro s hS
  obtain ⟨y1, hy1, h⟩ := bind_some h
  refine iu_ rfl hS rfl rfl (by kernel_rfl) hy1 ?_; intro s hS
  obtain ⟨y2, hy2, h⟩ := bind_some h
  refine ar_ (a := []) (b := []) (xs := [.int .u8 y1]) rfl hS rfl rfl hy2 ?_; intro s hS
  refine qs 2 [(0, .str a0), (1, i4 a1), (15, .bool (!y2))] hS ?_; intro s hS
  refine ae_ (sq_n ?_)
  by_cases hc2 : (!y2) = true
  ·have h := ak_ hc2 h
   refine af_ hS rfl (fun _ => ?_) (fun hf => ah_ hc2 hf)
   refine ad_ (ab_ ?_)
   refine qs 2 [(4, i4 a1)] hS ?_; intro s hS
   refine ae_ (sq_n (ao_ (sq_r ?_)))
   injection h with h; subst h
   exact aq_ hH (an_ (v := i4 a1) hS rfl r_nil) rfl (by kernel_rfl) (by simp [pureT, pureL, E_i64])
  ·have h := al_ hc2 h
   refine af_ hS rfl (fun hf => ag_ hc2 hf) (fun _ => ?_)
   refine as_ (sq_n (ad_ (aw_ ?_)))
   obtain ⟨y3, hy3, h⟩ := bind_some h
   refine bd_ (fun (st1 : Int) (fr : Fr) => Sub [(0, .str a0), (1, i4 st1)] fr.s ∧ Heap σ0 fr.σ []) (fun (y3 : Int) (e : aC_) (fr : Fr) => e = (.exit 0) ∧ Sub [(1, i4 y3)] fr.s ∧ Heap σ0 fr.σ []) hy3 (And.intro (am_ hS (by kernel_rfl)) hH) ?_ ?_
   ·clear h hy3 hS hH; clear y3; intro st1 x fr h HI; obtain ⟨s, σ⟩ := fr; obtain ⟨hS, hH⟩ := HI
    refine ad_ (ad_ (ab_ ?_))
    refine qs 5 [(21, .bool (decide (st1 < (a0.size : Int)))), (0, .str a0), (1, i4 st1)] hS ?_; intro s hS
    by_cases hc3 : (decide (st1 < (a0.size : Int))) = true
    ·have h := ak_ hc3 h
     have hS := ap_ hS hc3
     refine qs 2 [(0, .str a0), (1, i4 st1), (21, .bool true), (22, .str a0), (23, i4 st1)] hS ?_; intro s hS
     obtain ⟨y4, hy4, h⟩ := bind_some h
     refine iu_ rfl hS rfl rfl (by kernel_rfl) hy4 ?_; intro s hS
     obtain ⟨y5, hy5, h⟩ := bind_some h
     refine ar_ (a := []) (b := []) (xs := [.int .u8 y4]) rfl hS rfl rfl hy5 ?_; intro s hS
     refine qs 1 [(26, .bool y5), (0, .str a0), (1, i4 st1), (21, .bool true)] hS ?_; intro s hS
     by_cases hc4 : y5 = true
     ·have h := ak_ hc4 h
      have hS := ap_ hS hc4
      refine qs 12 [(0, .str a0), (1, i4 st1), (38, .bool true)] hS ?_; intro s hS
      refine ae_ (sq_n ?_)
      refine af_ (t := true) hS rfl (fun _ => ?_) (fun hf => by cases hf)
      refine as_ (sq_n (aw_ (ab_ ?_)))
      refine qs 3 [(0, .str a0), (1, i4 (w4 (st1 + 1)))] hS ?_; intro s hS
      refine ae_ (bk_n ?_)
      injection h with h; subst h
      exact And.intro (am_ hS (by kernel_rfl)) hH
     ·have h := al_ hc4 h
      have hS := ap_ hS (aB_ hc4)
      refine qs 2 [(0, .str a0), (1, i4 st1), (21, .bool true), (26, .bool false), (27, .str a0), (28, i4 st1)] hS ?_; intro s hS
      obtain ⟨y6, hy6, h⟩ := bind_some h
      refine iu_ rfl hS rfl rfl (by kernel_rfl) hy6 ?_; intro s hS
      obtain ⟨y7, hy7, h⟩ := bind_some h
      refine ar_ (a := []) (b := []) (xs := [.int .u8 y6]) rfl hS rfl rfl hy7 ?_; intro s hS
      refine qs 2 [(32, .bool y7), (0, .str a0), (1, i4 st1), (21, .bool true)] hS ?_; intro s hS
      by_cases hc5 : y7 = true
      ·have h := ak_ hc5 h
       have hS := ap_ hS hc5
       refine qs 6 [(0, .str a0), (1, i4 st1), (38, .bool true)] hS ?_; intro s hS
       refine ae_ (sq_n ?_)
       refine af_ (t := true) hS rfl (fun _ => ?_) (fun hf => by cases hf)
       refine as_ (sq_n (aw_ (ab_ ?_)))
       refine qs 3 [(0, .str a0), (1, i4 (w4 (st1 + 1)))] hS ?_; intro s hS
       refine ae_ (bk_n ?_)
       injection h with h; subst h
       exact And.intro (am_ hS (by kernel_rfl)) hH
      ·have h := al_ hc5 h
       have hS := ap_ hS (aB_ hc5)
       refine qs 2 [(0, .str a0), (1, i4 st1), (21, .bool true), (32, .bool false), (33, .str a0), (34, i4 st1)] hS ?_; intro s hS
       obtain ⟨y8, hy8, h⟩ := bind_some h
       refine iu_ rfl hS rfl rfl (by kernel_rfl) hy8 ?_; intro s hS
       refine qs 3 [(0, .str a0), (1, i4 st1), (38, .bool (decide (y8 = 95)))] hS ?_; intro s hS
       refine ae_ (sq_n ?_)
       by_cases hc6 : (decide (y8 = 95)) = true
       ·have h := ak_ hc6 h
        refine af_ hS rfl (fun _ => ?_) (fun hf => ah_ hc6 hf)
        refine as_ (sq_n (aw_ (ab_ ?_)))
        refine qs 3 [(0, .str a0), (1, i4 (w4 (st1 + 1)))] hS ?_; intro s hS
        refine ae_ (bk_n ?_)
        injection h with h; subst h
        exact And.intro (am_ hS (by kernel_rfl)) hH
       ·have h := al_ hc6 h
        refine af_ hS rfl (fun hf => ag_ hc6 hf) (fun _ => ?_)
        refine ba_ (sq_x ?_)
        injection h with h; subst h
        exact And.intro rfl (And.intro (am_ hS (by kernel_rfl)) hH)
    ·have h := al_ hc3 h
     have hS := ap_ hS (aB_ hc3)
     refine qs 17 [(0, .str a0), (1, i4 st1), (38, .bool false)] hS ?_; intro s hS
     refine ae_ (sq_n ?_)
     refine af_ (t := false) hS rfl (fun hf => by cases hf) (fun _ => ?_)
     refine ba_ (sq_x ?_)
     injection h with h; subst h
     exact And.intro rfl (And.intro (am_ hS (by kernel_rfl)) hH)
   ·clear hS hH; intro e fr HF; obtain ⟨s, σ⟩ := fr
    obtain ⟨rfl, hS, hH⟩ := HF
    refine bk_e (sq_n (ad_ (ab_ ?_)))
    refine qs 2 [(4, i4 y3)] hS ?_; intro s hS
    refine ae_ (sq_n (ao_ ?_))
    injection h with h; subst h
    exact aq_ hH (an_ (v := i4 y3) hS rfl r_nil) rfl (by kernel_rfl) (by simp [pureT, pureL, E_i64])
noncomputable def d4_ (a0 : Int) : Option Int := (some (w4 ((w4 (a0 - 4)) + 1)))
theorem gk_ (a0 : Int) (r : Int) (h : d4_ a0 = some r) : cw_ a0 = some r := by
 unfold d4_ at h
 refine ax_ E_i64_inj rfl rfl ok_151 rfl (all_cons (by kernel_rfl) all_nil) ?_
 intro σ0 s hS hH
 have hS := am_ (L' := [(0, i4 a0)]) hS (by kernel_rfl)
 refine ad_ (ab_ ?_)
 refine qs 1 [(0, i4 a0)] hS ?_; intro s hS
 refine ae_ (sq_n (ad_ (ab_ ?_)))
 refine qs 4 [(2, i4 (w4 ((w4 (a0 - 4)) + 1)))] hS ?_; intro s hS
 refine ae_ (sq_n (ao_ ?_))
 injection h with h; subst h
 exact aq_ hH (an_ (v := i4 (w4 ((w4 (a0 - 4)) + 1))) hS rfl r_nil) rfl (by kernel_rfl) (by simp [pureT, pureL, E_i64])
noncomputable def bY_ (a0 : (Sl ac_)) (a1 : ac_) : Option Bool := ((a4_ a0 a1).bind fun y1 => (some (decide (0 ≤ y1))))
theorem ft_ (a0 : (Sl ac_)) (a1 : ac_) (r : Bool) (h : bY_ a0 a1 = some r) : bo_ a0 a1 = some r := by
 unfold bY_ at h
 refine ax_ E_bool_inj rfl rfl ok_152 rfl (all_cons (by kernel_rfl) (all_cons (by kernel_rfl) all_nil)) ?_
 intro σ0 s hS hH
 have hS := am_ (L' := [(0, a0.t), (1, .agg (ac_.cells a1))]) hS (by kernel_rfl)
 refine ad_ (ab_ ?_)
 refine aT_ (v := .agg (ac_.cells a1)) (cs := [i4 a1.Kind, i4 a1.Num, .str a1.Text, i4 a1.Ref]) rfl hS hH rfl rfl (by kernel_rfl) ?_; intro b1 σ s hH hS
 refine qs 1 [(0, a0.t), (3, .ptr b1 0 0 4)] hS ?_; intro s hS
 refine ae_ (sq_n (ad_ (ab_ ?_)))
 refine qs 1 [(3, .ptr b1 0 0 4), (5, a0.t)] hS ?_; intro s hS
 refine ai_ (v := .agg (ac_.cells a1)) 0 trivial rfl hS hH rfl rfl (by kernel_rfl) ?_; intro s hS
 obtain ⟨y1, hy1, h⟩ := bind_some h
 refine ar_ (a := []) (b := []) (xs := [a0.t, .agg (ac_.cells a1)]) rfl hS rfl rfl hy1 ?_; intro s hS
 refine qs 2 [(4, .bool (decide (0 ≤ y1)))] hS ?_; intro s hS
 refine ae_ (sq_n (ao_ ?_))
 injection h with h; subst h
 exact aq_ hH (an_ (v := .bool (decide (0 ≤ y1))) hS rfl r_nil) rfl (by kernel_rfl) (by simp [pureT, pureL, E_bool])
noncomputable def fT_ (a0 : Int) : Option Bool := (if (decide (65 ≤ a0)) = true then (if (decide (a0 ≤ 90)) = true then (some true) else (if (decide (97 ≤ a0)) = true then (some (decide (a0 ≤ 122))) else (some false))) else (if (decide (97 ≤ a0)) = true then (some (decide (a0 ≤ 122))) else (some false)))
theorem ik_ (a0 : Int) (r : Bool) (h : fT_ a0 = some r) : c8_ a0 = some r := by
 unfold fT_ at h
 refine ax_ E_bool_inj rfl rfl ok_153 rfl (all_cons (by kernel_rfl) all_nil) ?_
 intro σ0 s hS hH
 have hS := am_ (L' := [(0, .int .u8 a0)]) hS (by kernel_rfl)
 refine ad_ (ab_ ?_)
 refine qs 1 [(0, .int .u8 a0)] hS ?_; intro s hS
 refine ae_ (sq_n (ad_ (ab_ ?_)))
 refine qs 3 [(5, .bool (decide (65 ≤ a0))), (0, .int .u8 a0)] hS ?_; intro s hS
 by_cases hc1 : (decide (65 ≤ a0)) = true
 ·have h := ak_ hc1 h
  have hS := ap_ hS hc1
  refine qs 4 [(9, .bool (decide (a0 ≤ 90))), (0, .int .u8 a0)] hS ?_; intro s hS
  by_cases hc2 : (decide (a0 ≤ 90)) = true
  ·have h := ak_ hc2 h
   have hS := ap_ hS hc2
   refine qs 8 [(2, .bool true)] hS ?_; intro s hS
   refine ae_ (sq_n (ao_ ?_))
   injection h with h; subst h
   exact aq_ hH (an_ (v := .bool true) hS rfl r_nil) rfl (by kernel_rfl) (by simp [pureT, pureL, E_bool])
  ·have h := al_ hc2 h
   have hS := ap_ hS (aB_ hc2)
   refine qs 3 [(12, .bool (decide (97 ≤ a0))), (0, .int .u8 a0), (9, .bool false)] hS ?_; intro s hS
   by_cases hc3 : (decide (97 ≤ a0)) = true
   ·have h := ak_ hc3 h
    have hS := ap_ hS hc3
    refine qs 5 [(2, .bool (decide (a0 ≤ 122)))] hS ?_; intro s hS
    refine ae_ (sq_n (ao_ ?_))
    injection h with h; subst h
    exact aq_ hH (an_ (v := .bool (decide (a0 ≤ 122))) hS rfl r_nil) rfl (by kernel_rfl) (by simp [pureT, pureL, E_bool])
   ·have h := al_ hc3 h
    have hS := ap_ hS (aB_ hc3)
    refine qs 5 [(2, .bool false)] hS ?_; intro s hS
    refine ae_ (sq_n (ao_ ?_))
    injection h with h; subst h
    exact aq_ hH (an_ (v := .bool false) hS rfl r_nil) rfl (by kernel_rfl) (by simp [pureT, pureL, E_bool])
 ·have h := al_ hc1 h
  have hS := ap_ hS (aB_ hc1)
  refine qs 7 [(12, .bool (decide (97 ≤ a0))), (0, .int .u8 a0), (9, .bool false)] hS ?_; intro s hS
  by_cases hc4 : (decide (97 ≤ a0)) = true
  ·have h := ak_ hc4 h
   have hS := ap_ hS hc4
   refine qs 5 [(2, .bool (decide (a0 ≤ 122)))] hS ?_; intro s hS
   refine ae_ (sq_n (ao_ ?_))
   injection h with h; subst h
   exact aq_ hH (an_ (v := .bool (decide (a0 ≤ 122))) hS rfl r_nil) rfl (by kernel_rfl) (by simp [pureT, pureL, E_bool])
  ·have h := al_ hc4 h
   have hS := ap_ hS (aB_ hc4)
   refine qs 5 [(2, .bool false)] hS ?_; intro s hS
   refine ae_ (sq_n (ao_ ?_))
   injection h with h; subst h
   exact aq_ hH (an_ (v := .bool false) hS rfl r_nil) rfl (by kernel_rfl) (by simp [pureT, pureL, E_bool])
end Go.Am
