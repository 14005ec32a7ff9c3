/- Functions of the program. -/
import Derived.Test.YtfnjieagnkmceaaAd0
set_option maxRecDepth 100000
set_option maxHeartbeats 4000000
set_option linter.unusedVariables false
set_option linter.unusedSimpArgs false
namespace Go.Am
open Go.Proofs
noncomputable def dM_ (a0 : aa_) : Option Bool := ((a7_ a0.Id 1 1000000).bind fun y1 => (if (!y1) = true then (some false) else ((be_ a0.Vals 30).bind fun y2 => (if (!y2) = true then (some false) else (if (decide (a0.Kind = 1)) = true then (if (decide (a0.Name = (⟨#[]⟩ : ByteArray))) = true then ((a7_ a0.Low (-1000) 1000).bind fun y3 => (if y3 = true then (if (decide ((a0.Keys.l.length : Int) = 0)) = true then (some (decide (a0.Default.Kind = 0) && (decide (a0.Default.Num = 0) && (decide (a0.Default.Text = (⟨#[]⟩ : ByteArray)) && (decide (a0.Default.Ref = 0) && true))))) else (some false)) else (some false))) else (some false)) else (if (decide (a0.Kind = 2)) = true then (if (decide (a0.Name = (⟨#[]⟩ : ByteArray))) = true then (if (decide (a0.Low = 0)) = true then (if ((decide ((a0.Keys.l.length : Int) = (a0.Vals.l.length : Int)))) = true then ((be_ a0.Keys 30).bind fun y4 => (if y4 = true then ((b7_ a0.Keys).bind fun y5 => (if y5 = true then ((bK_ a0.Default).bind fun y6 => (some y6)) else (some false))) else (some false))) else (some false)) else (some false)) else (some false)) else (if (decide (a0.Kind = 3)) = true then ((c4_ a0.Name).bind fun y7 => (if y7 = true then (if (decide (a0.Low = 0)) = true then (if ((decide ((a0.Keys.l.length : Int) = (a0.Vals.l.length : Int)))) = true then ((cv_ a0.Keys).bind fun y8 => (if y8 = true then (some (decide (a0.Default.Kind = 0) && (decide (a0.Default.Num = 0) && (decide (a0.Default.Text = (⟨#[]⟩ : ByteArray)) && (decide (a0.Default.Ref = 0) && true))))) else (some false))) else (some false)) else (some false)) else (some false))) else (some false))))))))
theorem h8_ (a0 : aa_) (r : Bool) (h : dM_ a0 = some r) : cD_ a0 = some r := by
 unfold dM_ at h
 refine ax_ E_bool_inj rfl rfl ok_67 rfl (all_cons (by kernel_rfl) all_nil) ?_
 intro σ0 s hS hH
 have hS := am_ (L' := [(0, .agg (aa_.cells a0))]) hS (by kernel_rfl)
 refine ad_ (ab_ ?_)
 refine aT_ (v := .agg (aa_.cells a0)) (cs := [i4 a0.Id, i4 a0.Kind, .str a0.Name, i4 a0.Low, a0.Keys.t, a0.Vals.t, i4 a0.Default.Kind, i4 a0.Default.Num, .str a0.Default.Text, i4 a0.Default.Ref]) rfl hS hH rfl rfl (by kernel_rfl) ?_; intro b1 σ s hH hS
 refine qs 1 [(1, .ptr b1 0 0 10)] hS ?_; intro s hS
 refine ae_ (sq_n (ad_ (ad_ (ab_ ?_))))
 refine qs 1 [(1, .ptr b1 0 0 10), (3, .ptr b1 0 0 1)] hS ?_; intro s hS
 refine ai_ (v := i4 a0.Id) 0 trivial rfl hS hH rfl rfl (by kernel_rfl) ?_; intro s hS
 obtain ⟨y1, hy1, h⟩ := bind_some h
 refine ar_ (a := []) (b := []) (xs := [i4 a0.Id, i4 1, i4 1000000]) rfl hS rfl rfl hy1 ?_; intro s hS
 refine qs 2 [(7, .bool (!y1)), (1, .ptr b1 0 0 10)] hS ?_; intro s hS
 by_cases hc1 : (!y1) = true
 ·have h := ak_ hc1 h
  have hS := ap_ hS hc1
  refine qs 5 [(1, .ptr b1 0 0 10), (12, .bool true)] hS ?_; intro s hS
  refine ae_ (sq_n ?_)
  refine af_ (t := true) hS rfl (fun _ => ?_) (fun hf => by cases hf)
  refine ad_ (ab_ ?_)
  refine qs 1 [(2, .bool false)] hS ?_; intro s hS
  refine ae_ (sq_n (ao_ (sq_r ?_)))
  injection h with h; subst h
  exact aq_ hH (an_ (v := .bool false) hS rfl r_nil) rfl (by kernel_rfl) (by simp [pureT, pureL, E_bool])
 ·have h := al_ hc1 h
  have hS := ap_ hS (aB_ hc1)
  refine qs 1 [(1, .ptr b1 0 0 10), (7, .bool false), (8, .ptr b1 0 5 1)] hS ?_; intro s hS
  refine ai_ (v := a0.Vals.t) 0 trivial rfl hS hH rfl rfl (by kernel_rfl) ?_; intro s hS
  obtain ⟨y2, hy2, h⟩ := bind_some h
  refine ar_ (a := []) (b := []) (xs := [a0.Vals.t, i4 30]) rfl hS rfl rfl hy2 ?_; intro s hS
  refine qs 2 [(1, .ptr b1 0 0 10), (12, .bool (!y2))] hS ?_; intro s hS
  refine ae_ (sq_n ?_)
  by_cases hc2 : (!y2) = true
  ·have h := ak_ hc2 h
   refine af_ hS rfl (fun _ => ?_) (fun hf => ah_ hc2 hf)
   refine ad_ (ab_ ?_)
   refine qs 1 [(2, .bool false)] hS ?_; intro s hS
   refine ae_ (sq_n (ao_ (sq_r ?_)))
   injection h with h; subst h
   exact aq_ hH (an_ (v := .bool false) hS rfl r_nil) rfl (by kernel_rfl) (by simp [pureT, pureL, E_bool])
  ·have h := al_ hc2 h
   refine af_ hS rfl (fun hf => ag_ hc2 hf) (fun _ => ?_)
   refine as_ (sq_n (ad_ (ad_ (ab_ ?_))))
   refine qs 1 [(1, .ptr b1 0 0 10), (13, .ptr b1 0 1 1)] hS ?_; intro s hS
   refine ai_ (v := i4 a0.Kind) 0 trivial rfl hS hH rfl rfl (by kernel_rfl) ?_; intro s hS
   refine ae_ (sq_n (aw_ (ad_ (ab_ ?_))))
   refine qs 2 [(1, .ptr b1 0 0 10), (14, i4 a0.Kind), (15, .bool (decide (a0.Kind = 1)))] hS ?_; intro s hS
   refine ae_ (sq_n ?_)
   by_cases hc3 : (decide (a0.Kind = 1)) = true
   ·have h := ak_ hc3 h
    refine af_ hS rfl (fun _ => ?_) (fun hf => ah_ hc3 hf)
    refine ad_ (ab_ ?_)
    refine qs 1 [(1, .ptr b1 0 0 10), (17, .ptr b1 0 2 1)] hS ?_; intro s hS
    refine ai_ (v := .str a0.Name) 0 trivial rfl hS hH rfl rfl (by kernel_rfl) ?_; intro s hS
    refine qs 2 [(20, .bool (decide (a0.Name = (⟨#[]⟩ : ByteArray)))), (1, .ptr b1 0 0 10)] hS ?_; intro s hS
    by_cases hc4 : (decide (a0.Name = (⟨#[]⟩ : ByteArray))) = true
    ·have h := ak_ hc4 h
     have hS := ap_ hS hc4
     refine qs 1 [(1, .ptr b1 0 0 10), (20, .bool true), (21, .ptr b1 0 3 1)] hS ?_; intro s hS
     refine ai_ (v := i4 a0.Low) 0 trivial rfl hS hH rfl rfl (by kernel_rfl) ?_; intro s hS
     obtain ⟨y3, hy3, h⟩ := bind_some h
     refine ar_ (a := []) (b := []) (xs := [i4 a0.Low, i4 (-1000), i4 1000]) rfl hS rfl rfl hy3 ?_; intro s hS
     refine qs 2 [(25, .bool y3), (1, .ptr b1 0 0 10)] hS ?_; intro s hS
     by_cases hc5 : y3 = true
     ·have h := ak_ hc5 h
      have hS := ap_ hS hc5
      refine qs 1 [(1, .ptr b1 0 0 10), (25, .bool true), (26, .ptr b1 0 4 1)] hS ?_; intro s hS
      refine ai_ (v := a0.Keys.t) 0 trivial rfl hS hH rfl rfl (by kernel_rfl) ?_; intro s hS
      refine qs 4 [(31, .bool (decide ((a0.Keys.l.length : Int) = 0))), (1, .ptr b1 0 0 10)] hS ?_; intro s hS
      by_cases hc6 : (decide ((a0.Keys.l.length : Int) = 0)) = true
      ·have h := ak_ hc6 h
       have hS := ap_ hS hc6
       refine qs 1 [(31, .bool true), (32, .ptr b1 0 6 4)] hS ?_; intro s hS
       refine ai_ (v := .agg (ac_.cells a0.Default)) 0 trivial rfl hS hH rfl rfl (by kernel_rfl) ?_; intro s hS
       refine qs 1 [(31, .bool true), (33, .agg (ac_.cells a0.Default)), (34, .agg [i4 0, i4 0, .str ⟨#[]⟩, i4 0])] hS ?_; intro s hS
       refine hw_ (xs := [i4 a0.Default.Kind, i4 a0.Default.Num, .str a0.Default.Text, i4 a0.Default.Ref]) (ys := [i4 0, i4 0, .str ⟨#[]⟩, i4 0]) (v := (decide (a0.Default.Kind = 0) && (decide (a0.Default.Num = 0) && (decide (a0.Default.Text = (⟨#[]⟩ : ByteArray)) && (decide (a0.Default.Ref = 0) && true))))) rfl hS rfl rfl (by kernel_rfl) (by kernel_rfl) ?_; intro s hS
       refine qs 2 [(2, .bool ((decide (a0.Default.Kind = 0) && (decide (a0.Default.Num = 0) && (decide (a0.Default.Text = (⟨#[]⟩ : ByteArray)) && (decide (a0.Default.Ref = 0) && true))))))] hS ?_; intro s hS
       refine ae_ (sq_n (ao_ (bk_r (sq_r ?_))))
       injection h with h; subst h
       exact aq_ hH (an_ (v := .bool ((decide (a0.Default.Kind = 0) && (decide (a0.Default.Num = 0) && (decide (a0.Default.Text = (⟨#[]⟩ : ByteArray)) && (decide (a0.Default.Ref = 0) && true)))))) hS rfl r_nil) rfl (by kernel_rfl) (by simp [pureT, pureL, E_bool])
      ·have h := al_ hc6 h
       have hS := ap_ hS (aB_ hc6)
       refine qs 6 [(2, .bool false)] hS ?_; intro s hS
       refine ae_ (sq_n (ao_ (bk_r (sq_r ?_))))
       injection h with h; subst h
       exact aq_ hH (an_ (v := .bool false) hS rfl r_nil) rfl (by kernel_rfl) (by simp [pureT, pureL, E_bool])
     ·have h := al_ hc5 h
      have hS := ap_ hS (aB_ hc5)
      refine qs 12 [(2, .bool false)] hS ?_; intro s hS
      refine ae_ (sq_n (ao_ (bk_r (sq_r ?_))))
      injection h with h; subst h
      exact aq_ hH (an_ (v := .bool false) hS rfl r_nil) rfl (by kernel_rfl) (by simp [pureT, pureL, E_bool])
    ·have h := al_ hc4 h
     have hS := ap_ hS (aB_ hc4)
     refine qs 17 [(2, .bool false)] hS ?_; intro s hS
     refine ae_ (sq_n (ao_ (bk_r (sq_r ?_))))
     injection h with h; subst h
     exact aq_ hH (an_ (v := .bool false) hS rfl r_nil) rfl (by kernel_rfl) (by simp [pureT, pureL, E_bool])
   ·have h := al_ hc3 h
    refine af_ hS rfl (fun hf => ag_ hc3 hf) (fun _ => ?_)
    refine ad_ (ab_ ?_)
    refine qs 2 [(1, .ptr b1 0 0 10), (14, i4 a0.Kind), (37, .bool (decide (a0.Kind = 2)))] hS ?_; intro s hS
    refine ae_ (sq_n ?_)
    by_cases hc7 : (decide (a0.Kind = 2)) = true
    ·have h := ak_ hc7 h
     refine af_ hS rfl (fun _ => ?_) (fun hf => ah_ hc7 hf)
     refine ad_ (ab_ ?_)
     refine qs 1 [(1, .ptr b1 0 0 10), (39, .ptr b1 0 2 1)] hS ?_; intro s hS
     refine ai_ (v := .str a0.Name) 0 trivial rfl hS hH rfl rfl (by kernel_rfl) ?_; intro s hS
     refine qs 2 [(42, .bool (decide (a0.Name = (⟨#[]⟩ : ByteArray)))), (1, .ptr b1 0 0 10)] hS ?_; intro s hS
     by_cases hc8 : (decide (a0.Name = (⟨#[]⟩ : ByteArray))) = true
     ·have h := ak_ hc8 h
      have hS := ap_ hS hc8
      refine qs 1 [(1, .ptr b1 0 0 10), (42, .bool true), (43, .ptr b1 0 3 1)] hS ?_; intro s hS
      refine ai_ (v := i4 a0.Low) 0 trivial rfl hS hH rfl rfl (by kernel_rfl) ?_; intro s hS
      refine qs 3 [(47, .bool (decide (a0.Low = 0))), (1, .ptr b1 0 0 10)] hS ?_; intro s hS
      by_cases hc9 : (decide (a0.Low = 0)) = true
      ·have h := ak_ hc9 h
       have hS := ap_ hS hc9
       refine qs 1 [(1, .ptr b1 0 0 10), (47, .bool true), (48, .ptr b1 0 4 1)] hS ?_; intro s hS
       refine ai_ (v := a0.Keys.t) 0 trivial rfl hS hH rfl rfl (by kernel_rfl) ?_; intro s hS
       refine qs 2 [(1, .ptr b1 0 0 10), (47, .bool true), (50, i4 (a0.Keys.l.length : Int)), (51, .ptr b1 0 5 1)] hS ?_; intro s hS
       refine ai_ (v := a0.Vals.t) 0 trivial rfl hS hH rfl rfl (by kernel_rfl) ?_; intro s hS
       refine qs 4 [(56, .bool ((decide ((a0.Keys.l.length : Int) = (a0.Vals.l.length : Int))))), (1, .ptr b1 0 0 10)] hS ?_; intro s hS
       by_cases hc10 : ((decide ((a0.Keys.l.length : Int) = (a0.Vals.l.length : Int)))) = true
       ·have h := ak_ hc10 h
        have hS := ap_ hS hc10
        refine qs 1 [(1, .ptr b1 0 0 10), (56, .bool true), (57, .ptr b1 0 4 1)] hS ?_; intro s hS
        refine ai_ (v := a0.Keys.t) 0 trivial rfl hS hH rfl rfl (by kernel_rfl) ?_; intro s hS
        obtain ⟨y4, hy4, h⟩ := bind_some h
        refine ar_ (a := []) (b := []) (xs := [a0.Keys.t, i4 30]) rfl hS rfl rfl hy4 ?_; intro s hS
        refine qs 2 [(61, .bool y4), (1, .ptr b1 0 0 10)] hS ?_; intro s hS
        by_cases hc11 : y4 = true
        ·have h := ak_ hc11 h
         have hS := ap_ hS hc11
         refine qs 1 [(1, .ptr b1 0 0 10), (61, .bool true), (62, .ptr b1 0 4 1)] hS ?_; intro s hS
         refine ai_ (v := a0.Keys.t) 0 trivial rfl hS hH rfl rfl (by kernel_rfl) ?_; intro s hS
         obtain ⟨y5, hy5, h⟩ := bind_some h
         refine ar_ (a := []) (b := []) (xs := [a0.Keys.t]) rfl hS rfl rfl hy5 ?_; intro s hS
         refine qs 2 [(66, .bool y5), (1, .ptr b1 0 0 10)] hS ?_; intro s hS
         by_cases hc12 : y5 = true
         ·have h := ak_ hc12 h
          have hS := ap_ hS hc12
          refine qs 1 [(66, .bool true), (67, .ptr b1 0 6 4)] hS ?_; intro s hS
          refine ai_ (v := .agg (ac_.cells a0.Default)) 0 trivial rfl hS hH rfl rfl (by kernel_rfl) ?_; intro s hS
          obtain ⟨y6, hy6, h⟩ := bind_some h
          refine ar_ (a := []) (b := []) (xs := [.agg (ac_.cells a0.Default)]) rfl hS rfl rfl hy6 ?_; intro s hS
          refine qs 2 [(2, .bool y6)] hS ?_; intro s hS
          refine ae_ (sq_n (ao_ (bk_r (sq_r ?_))))
          injection h with h; subst h
          exact aq_ hH (an_ (v := .bool y6) hS rfl r_nil) rfl (by kernel_rfl) (by simp [pureT, pureL, E_bool])
         ·have h := al_ hc12 h
          have hS := ap_ hS (aB_ hc12)
          refine qs 5 [(2, .bool false)] hS ?_; intro s hS
          refine ae_ (sq_n (ao_ (bk_r (sq_r ?_))))
          injection h with h; subst h
          exact aq_ hH (an_ (v := .bool false) hS rfl r_nil) rfl (by kernel_rfl) (by simp [pureT, pureL, E_bool])
        ·have h := al_ hc11 h
         have hS := ap_ hS (aB_ hc11)
         refine qs 10 [(2, .bool false)] hS ?_; intro s hS
         refine ae_ (sq_n (ao_ (bk_r (sq_r ?_))))
         injection h with h; subst h
         exact aq_ hH (an_ (v := .bool false) hS rfl r_nil) rfl (by kernel_rfl) (by simp [pureT, pureL, E_bool])
       ·have h := al_ hc10 h
        have hS := ap_ hS (aB_ hc10)
        refine qs 15 [(2, .bool false)] hS ?_; intro s hS
        refine ae_ (sq_n (ao_ (bk_r (sq_r ?_))))
        injection h with h; subst h
        exact aq_ hH (an_ (v := .bool false) hS rfl r_nil) rfl (by kernel_rfl) (by simp [pureT, pureL, E_bool])
      ·have h := al_ hc9 h
       have hS := ap_ hS (aB_ hc9)
       refine qs 24 [(2, .bool false)] hS ?_; intro s hS
       refine ae_ (sq_n (ao_ (bk_r (sq_r ?_))))
       injection h with h; subst h
       exact aq_ hH (an_ (v := .bool false) hS rfl r_nil) rfl (by kernel_rfl) (by simp [pureT, pureL, E_bool])
     ·have h := al_ hc8 h
      have hS := ap_ hS (aB_ hc8)
      refine qs 29 [(2, .bool false)] hS ?_; intro s hS
      refine ae_ (sq_n (ao_ (bk_r (sq_r ?_))))
      injection h with h; subst h
      exact aq_ hH (an_ (v := .bool false) hS rfl r_nil) rfl (by kernel_rfl) (by simp [pureT, pureL, E_bool])
    ·have h := al_ hc7 h
     refine af_ hS rfl (fun hf => ag_ hc7 hf) (fun _ => ?_)
     refine ad_ (ab_ ?_)
     refine qs 2 [(1, .ptr b1 0 0 10), (71, .bool (decide (a0.Kind = 3)))] hS ?_; intro s hS
     refine ae_ (sq_n ?_)
     by_cases hc13 : (decide (a0.Kind = 3)) = true
     ·have h := ak_ hc13 h
      refine af_ hS rfl (fun _ => ?_) (fun hf => ah_ hc13 hf)
      refine ad_ (ab_ ?_)
      refine qs 1 [(1, .ptr b1 0 0 10), (73, .ptr b1 0 2 1)] hS ?_; intro s hS
      refine ai_ (v := .str a0.Name) 0 trivial rfl hS hH rfl rfl (by kernel_rfl) ?_; intro s hS
      obtain ⟨y7, hy7, h⟩ := bind_some h
      refine ar_ (a := []) (b := []) (xs := [.str a0.Name]) rfl hS rfl rfl hy7 ?_; intro s hS
      refine qs 1 [(76, .bool y7), (1, .ptr b1 0 0 10)] hS ?_; intro s hS
      by_cases hc14 : y7 = true
      ·have h := ak_ hc14 h
       have hS := ap_ hS hc14
       refine qs 1 [(1, .ptr b1 0 0 10), (76, .bool true), (77, .ptr b1 0 3 1)] hS ?_; intro s hS
       refine ai_ (v := i4 a0.Low) 0 trivial rfl hS hH rfl rfl (by kernel_rfl) ?_; intro s hS
       refine qs 3 [(81, .bool (decide (a0.Low = 0))), (1, .ptr b1 0 0 10)] hS ?_; intro s hS
       by_cases hc15 : (decide (a0.Low = 0)) = true
       ·have h := ak_ hc15 h
        have hS := ap_ hS hc15
        refine qs 1 [(1, .ptr b1 0 0 10), (81, .bool true), (82, .ptr b1 0 4 1)] hS ?_; intro s hS
        refine ai_ (v := a0.Keys.t) 0 trivial rfl hS hH rfl rfl (by kernel_rfl) ?_; intro s hS
        refine qs 2 [(1, .ptr b1 0 0 10), (81, .bool true), (84, i4 (a0.Keys.l.length : Int)), (85, .ptr b1 0 5 1)] hS ?_; intro s hS
        refine ai_ (v := a0.Vals.t) 0 trivial rfl hS hH rfl rfl (by kernel_rfl) ?_; intro s hS
        refine qs 4 [(90, .bool ((decide ((a0.Keys.l.length : Int) = (a0.Vals.l.length : Int))))), (1, .ptr b1 0 0 10)] hS ?_; intro s hS
        by_cases hc16 : ((decide ((a0.Keys.l.length : Int) = (a0.Vals.l.length : Int)))) = true
        ·have h := ak_ hc16 h
         have hS := ap_ hS hc16
         refine qs 1 [(1, .ptr b1 0 0 10), (90, .bool true), (91, .ptr b1 0 4 1)] hS ?_; intro s hS
         refine ai_ (v := a0.Keys.t) 0 trivial rfl hS hH rfl rfl (by kernel_rfl) ?_; intro s hS
         obtain ⟨y8, hy8, h⟩ := bind_some h
         refine ar_ (a := []) (b := []) (xs := [a0.Keys.t]) rfl hS rfl rfl hy8 ?_; intro s hS
         refine qs 2 [(95, .bool y8), (1, .ptr b1 0 0 10)] hS ?_; intro s hS
         by_cases hc17 : y8 = true
         ·have h := ak_ hc17 h
          have hS := ap_ hS hc17
          refine qs 1 [(95, .bool true), (96, .ptr b1 0 6 4)] hS ?_; intro s hS
          refine ai_ (v := .agg (ac_.cells a0.Default)) 0 trivial rfl hS hH rfl rfl (by kernel_rfl) ?_; intro s hS
          refine qs 1 [(95, .bool true), (97, .agg (ac_.cells a0.Default)), (98, .agg [i4 0, i4 0, .str ⟨#[]⟩, i4 0])] hS ?_; intro s hS
          refine hw_ (xs := [i4 a0.Default.Kind, i4 a0.Default.Num, .str a0.Default.Text, i4 a0.Default.Ref]) (ys := [i4 0, i4 0, .str ⟨#[]⟩, i4 0]) (v := (decide (a0.Default.Kind = 0) && (decide (a0.Default.Num = 0) && (decide (a0.Default.Text = (⟨#[]⟩ : ByteArray)) && (decide (a0.Default.Ref = 0) && true))))) rfl hS rfl rfl (by kernel_rfl) (by kernel_rfl) ?_; intro s hS
          refine qs 2 [(2, .bool ((decide (a0.Default.Kind = 0) && (decide (a0.Default.Num = 0) && (decide (a0.Default.Text = (⟨#[]⟩ : ByteArray)) && (decide (a0.Default.Ref = 0) && true))))))] hS ?_; intro s hS
          refine ae_ (sq_n (ao_ (bk_r (sq_r ?_))))
          injection h with h; subst h
          exact aq_ hH (an_ (v := .bool ((decide (a0.Default.Kind = 0) && (decide (a0.Default.Num = 0) && (decide (a0.Default.Text = (⟨#[]⟩ : ByteArray)) && (decide (a0.Default.Ref = 0) && true)))))) hS rfl r_nil) rfl (by kernel_rfl) (by simp [pureT, pureL, E_bool])
         ·have h := al_ hc17 h
          have hS := ap_ hS (aB_ hc17)
          refine qs 6 [(2, .bool false)] hS ?_; intro s hS
          refine ae_ (sq_n (ao_ (bk_r (sq_r ?_))))
          injection h with h; subst h
          exact aq_ hH (an_ (v := .bool false) hS rfl r_nil) rfl (by kernel_rfl) (by simp [pureT, pureL, E_bool])
        ·have h := al_ hc16 h
         have hS := ap_ hS (aB_ hc16)
         refine qs 11 [(2, .bool false)] hS ?_; intro s hS
         refine ae_ (sq_n (ao_ (bk_r (sq_r ?_))))
         injection h with h; subst h
         exact aq_ hH (an_ (v := .bool false) hS rfl r_nil) rfl (by kernel_rfl) (by simp [pureT, pureL, E_bool])
       ·have h := al_ hc15 h
        have hS := ap_ hS (aB_ hc15)
        refine qs 20 [(2, .bool false)] hS ?_; intro s hS
        refine ae_ (sq_n (ao_ (bk_r (sq_r ?_))))
        injection h with h; subst h
        exact aq_ hH (an_ (v := .bool false) hS rfl r_nil) rfl (by kernel_rfl) (by simp [pureT, pureL, E_bool])
      ·have h := al_ hc14 h
       have hS := ap_ hS (aB_ hc14)
       refine qs 25 [(2, .bool false)] hS ?_; intro s hS
       refine ae_ (sq_n (ao_ (bk_r (sq_r ?_))))
       injection h with h; subst h
       exact aq_ hH (an_ (v := .bool false) hS rfl r_nil) rfl (by kernel_rfl) (by simp [pureT, pureL, E_bool])
     ·have h := al_ hc13 h
      refine af_ hS rfl (fun hf => ag_ hc13 hf) (fun _ => ?_)
      refine as_ (bk_n (sq_n (ad_ (ab_ ?_))))
      refine qs 1 [(2, .bool false)] hS ?_; intro s hS
      refine ae_ (sq_n (ao_ ?_))
      injection h with h; subst h
      exact aq_ hH (an_ (v := .bool false) hS rfl r_nil) rfl (by kernel_rfl) (by simp [pureT, pureL, E_bool])
noncomputable def fA_ (a0 : aj_) : Option aj_ := ((aM_ (S := (Int × (Sl aa_))) (R := (Sl aa_)) (fun st1 => (if (decide (st1.1 < (a0.Objects.l.length : Int))) = true then ((elt a0.Objects st1.1).bind fun y2 => ((bX_ y2).bind fun y3 => ((appS 128 st1.2 (⟨false, [y3]⟩ : Sl aa_)).bind fun y4 => (some (.inl ((w4 (st1.1 + 1)), y4)))))) else (some (.inr st1.2)))) (0, (⟨true, []⟩ : Sl aa_))).bind fun y1 => (some (⟨a0.Next, y1⟩ : aj_)))
theorem jV_ (a0 : aj_) (r : aj_) (h : fA_ a0 = some r) : d9_ a0 = some r := by
 unfold fA_ at h
 refine kh_ rfl rfl ok_69 (fun bs hb => by obtain ⟨bp0, rfl⟩ := bl1 hb; exact rfl) (fun bs hb => by obtain ⟨bp0, rfl⟩ := bl1 hb; exact (all_cons rfl all_nil)) ?_
 intro σ0 bs s hL hS hH
 obtain ⟨bp0, rfl, hL_bp0⟩ := kT_ hL
 clear hL
 have hS := am_ (L' := [(0, .ptr bp0 0 0 2)]) hS (by kernel_rfl)
 refine ad_ (ab_ ?_)
 refine aO_ (z := [i4 0, (nt aa_)]) rfl hS hH (by kernel_rfl) ?_; intro b1 σ s hH hS
 refine ae_ (sq_n (ad_ (ab_ ?_)))
 refine qs 3 [(0, .ptr bp0 0 0 2), (2, .ptr b1 0 0 2), (7, .ptr bp0 0 0 1)] hS ?_; intro s hS
 refine ce_ (v := i4 a0.Next) trivial rfl hS hH hL_bp0 rfl (by kernel_rfl) ?_; intro s hS
 refine qs 1 [(0, .ptr bp0 0 0 2), (2, .ptr b1 0 0 2), (9, .agg [i4 a0.Next, (nt aa_)])] hS ?_; intro s hS
 refine aO_ (z := [i4 0, (nt aa_)]) rfl hS hH (by kernel_rfl) ?_; intro b2 σ s hH hS
 refine aF_ (cs := [i4 a0.Next, (nt aa_)]) rfl hS hH rfl rfl (by kernel_rfl) ?_; intro σ s hH hS
 refine ae_ (sq_n (ad_ (ad_ (ab_ ?_))))
 refine qs 1 [(0, .ptr bp0 0 0 2), (2, .ptr b1 0 0 2), (3, .ptr b2 0 0 2), (4, i4 0)] hS ?_; intro s hS
 refine ae_ (sq_n (aw_ ?_))
 obtain ⟨y1, hy1, h⟩ := bind_some h
 have hH := Heap.addNil hH true 10
 refine bd_ (fun (st1 : (Int × (Sl aa_))) (fr : Fr) => ∃ t2, aV_ t2 ∧ Sub [(0, .ptr bp0 0 0 2), (2, .ptr b1 0 0 2), (3, .ptr b2 0 0 2), (4, i4 st1.1)] fr.s ∧ Heap σ0 fr.σ [.box b2 [i4 a0.Next, t2], .box b1 [i4 0, (nt aa_)], .own true 10 t2 st1.2.t]) (fun (y1 : (Sl aa_)) (e : aC_) (fr : Fr) => ∃ t3, aV_ t3 ∧ e = (.exit 0) ∧ Sub [(2, .ptr b1 0 0 2), (3, .ptr b2 0 0 2)] fr.s ∧ Heap σ0 fr.σ [.box b2 [i4 a0.Next, t3], .box b1 [i4 0, (nt aa_)], .own true 10 t3 y1.t]) hy1 (Exists.intro (T.row true 0 []) (And.intro ⟨rfl, rfl⟩ (And.intro (am_ hS (by kernel_rfl)) (Heap.sel hH [1, 2, 0] rfl (by kernel_rfl))))) ?_ ?_
 ·clear h hy1 hS hH; clear y1; intro st1 x fr h HI; obtain ⟨s, σ⟩ := fr; obtain ⟨t2, ht2, ⟨hS, hH⟩⟩ := HI
  refine ad_ (ad_ (ab_ ?_))
  refine qs 4 [(0, .ptr bp0 0 0 2), (2, .ptr b1 0 0 2), (3, .ptr b2 0 0 2), (4, i4 st1.1), (10, i4 st1.1), (13, .ptr bp0 0 1 1)] hS ?_; intro s hS
  refine ce_ (v := a0.Objects.t) trivial rfl hS hH hL_bp0 rfl (by kernel_rfl) ?_; intro s hS
  refine qs 2 [(0, .ptr bp0 0 0 2), (2, .ptr b1 0 0 2), (3, .ptr b2 0 0 2), (4, i4 st1.1), (16, .bool (decide (st1.1 < (a0.Objects.l.length : Int))))] hS ?_; intro s hS
  refine ae_ (sq_n ?_)
  by_cases hc1 : (decide (st1.1 < (a0.Objects.l.length : Int))) = true
  ·have h := ak_ hc1 h
   refine af_ hS rfl (fun _ => ?_) (fun hf => ah_ hc1 hf)
   refine as_ (sq_n (ad_ (aw_ ?_)))
   refine b6_ (W2 (fun _ => True) (fun _ => True)) (fun _ => rfl) (by kernel_rfl) (by kernel_rfl) hH ?_; intro mb σs σ hn0 hlt hlto hH
   have hlt_b2 : b2 < mb := hlt b2 _ (List.Mem.head _)
   refine qs 1 [(0, .ptr bp0 0 0 2), (2, .ptr b1 0 0 2), (3, .ptr b2 0 0 2), (4, i4 st1.1), (19, .ptr b2 0 1 1)] hS ?_; intro s hS
   refine ai_ (v := t2) 0 (Or.inr ⟨hlt_b2, Or.inl (by kernel_rfl)⟩) rfl hS hH rfl rfl (by kernel_rfl) ?_; intro s hS
   refine qs 3 [(0, .ptr bp0 0 0 2), (2, .ptr b1 0 0 2), (3, .ptr b2 0 0 2), (4, i4 st1.1), (20, t2), (23, .ptr bp0 0 1 1)] hS ?_; intro s hS
   refine ce_ (v := a0.Objects.t) (Or.inl (by kernel_rfl)) rfl hS hH hL_bp0 rfl (by kernel_rfl) ?_; intro s hS
   refine qs 1 [(0, .ptr bp0 0 0 2), (2, .ptr b1 0 0 2), (3, .ptr b2 0 0 2), (4, i4 st1.1), (20, t2), (24, a0.Objects.t), (25, i4 st1.1)] hS ?_; intro s hS
   obtain ⟨y2, hy2, h⟩ := bind_some h
   refine bh_ (sl := a0.Objects) (e := 30) [i4 y2.Id, i4 y2.Kind, .str y2.Name, i4 y2.Low, y2.Keys.t, y2.Vals.t, i4 y2.Default.Kind, i4 y2.Default.Num, .str y2.Default.Text, i4 y2.Default.Ref] rfl hS rfl rfl (by kernel_rfl) (by kernel_rfl) hy2 rfl ?_; intro rest1 s hS
   refine qs 1 [(0, .ptr bp0 0 0 2), (2, .ptr b1 0 0 2), (3, .ptr b2 0 0 2), (4, i4 st1.1), (20, t2), (27, .agg (aa_.cells y2))] hS ?_; intro s hS
   obtain ⟨y3, hy3, h⟩ := bind_some h
   refine a2_ (ents := []) (z := false) (ts := [.agg (aa_.cells y2)]) (vs := [.agg (aa_.cells y2)]) rfl rfl hS rfl rfl rfl hH (HL.agg (es1 := []) (es2 := []) (HLi (HLi (HLs (HLi (HLp (HLp (HLi (HLi (HLs (HLi HL.nil)))))))))) HL.nil) hy3 ?_; intro hs σ s hl hH hS
   obtain ⟨t4, t5, rfl⟩ := len2 hl
   have hH : Heap σ0 σ [.own true 4 t4 y3.Keys.t, .own true 4 t5 y3.Vals.t, .box b2 [i4 a0.Next, t2], .box b1 [i4 0, (nt aa_)], .own true 10 t2 st1.2.t] := hH
   have ht4 : aV_ t4 := Heap.one hH
   have ht5 : aV_ t5 := Heap.one (hH.at 1 rfl)
   refine jA_ rfl (by exact hn0) (ents := [.own true 4 t4 y3.Keys.t, .own true 4 t5 y3.Vals.t]) (e := 30) (sz := 10) (z := true) (vs := [.agg [i4 y3.Id, i4 y3.Kind, .str y3.Name, i4 y3.Low, t4, t5, i4 y3.Default.Kind, i4 y3.Default.Num, .str y3.Default.Text, i4 y3.Default.Ref]]) (zc := [i4 0, i4 0, .str ⟨#[]⟩, i4 0, (nt ac_), (nt ac_), i4 0, i4 0, .str ⟨#[]⟩, i4 0]) (cs := [i4 y3.Id, i4 y3.Kind, .str y3.Name, i4 y3.Low, t4, t5, i4 y3.Default.Kind, i4 y3.Default.Num, .str y3.Default.Text, i4 y3.Default.Ref]) (us := [i4 y3.Id, i4 y3.Kind, .str y3.Name, i4 y3.Low, y3.Keys.t, y3.Vals.t, i4 y3.Default.Kind, i4 y3.Default.Num, .str y3.Default.Text, i4 y3.Default.Ref]) (v := Sl.t (⟨false, [y3]⟩ : Sl aa_)) rfl hS hH (by kernel_rfl) (by kernel_rfl) (by kernel_rfl) (by kernel_rfl) (by kernel_rfl) (And.intro (by kernel_rfl) (And.intro (by simp [ht4.1, ht4.2, ht5.1, ht5.2]) trivial)) (by kernel_rfl) (HLi (HLi (HLs (HLi (HL.own rfl (HL.own rfl (HLi (HLi (HLs (HLi HL.nil)))))))))) (by kernel_rfl) ?_; intro t6 σ s ht6 hH hS
   have hH : Heap σ0 σ [.own true 10 t2 st1.2.t, .own true 10 t6 (Sl.t (⟨false, [y3]⟩ : Sl aa_)), .box b2 [i4 a0.Next, t2], .box b1 [i4 0, (nt aa_)]] := hH.sel [3, 0, 1, 2] rfl (by kernel_rfl)
   obtain ⟨y4, hy4, h⟩ := bind_some h
   refine iV_ rfl (by exact hn0) (z := true) (t1 := t2) (a := st1.2) (b := (⟨false, [y3]⟩ : Sl aa_)) (e := 30) (by_ := 128) (zc := [i4 0, i4 0, .str ⟨#[]⟩, i4 0, (nt ac_), (nt ac_), i4 0, i4 0, .str ⟨#[]⟩, i4 0]) (by exact fun _ _ _ _ _ => Or.inr ⟨true, by kernel_rfl, trivial⟩) rfl hS hH rfl rfl (by kernel_rfl) (by kernel_rfl) (by kernel_rfl) (by kernel_rfl) (by kernel_rfl) (by kernel_rfl) hy4 ?_; intro t7 σ s ht7 hH hS
   refine qs 1 [(0, .ptr bp0 0 0 2), (2, .ptr b1 0 0 2), (3, .ptr b2 0 0 2), (4, i4 st1.1), (30, t7), (31, .ptr b2 0 1 1)] hS ?_; intro s hS
   have hH : Heap σ0 σ [.box b2 [i4 a0.Next, t2], .own true 10 t7 y4.t, .box b1 [i4 0, (nt aa_)]] := hH.sel [1, 0, 2] rfl (by kernel_rfl)
   refine bC_ rfl (v := t7) (cs := [t7]) (cells' := [i4 a0.Next, t7]) (by exact Or.inr ⟨false, by kernel_rfl, trivial⟩) rfl hS hH rfl rfl (by simp [ht7.1, ht7.2]) (by simp [ht7.1, ht7.2]) (by kernel_rfl) ?_; intro σ s hH hS
   refine ae_ (bk_n (sq_n (ab_ ?_)))
   refine qs 3 [(0, .ptr bp0 0 0 2), (2, .ptr b1 0 0 2), (3, .ptr b2 0 0 2), (4, i4 (w4 (st1.1 + 1)))] hS ?_; intro s hS
   refine ae_ ?_
   injection h with h; subst h
   exact Exists.intro t7 (And.intro ht7 (And.intro (am_ hS (by kernel_rfl)) (Heap.sel hH [0, 2, 1] rfl (by kernel_rfl))))
  ·have h := al_ hc1 h
   refine af_ hS rfl (fun hf => ag_ hc1 hf) (fun _ => ?_)
   refine ba_ (sq_x ?_)
   injection h with h; subst h
   exact Exists.intro t2 (And.intro ht2 (And.intro rfl (And.intro (am_ hS (by kernel_rfl)) hH)))
 ·clear hS hH; intro e fr HF; obtain ⟨s, σ⟩ := fr
  obtain ⟨t3, ht3, ⟨rfl, hS, hH⟩⟩ := HF
  refine bk_e (sq_n (ad_ (ab_ ?_)))
  refine ai_ (v := .agg [i4 a0.Next, t3]) 0 trivial rfl hS hH rfl rfl (by kernel_rfl) ?_; intro s hS
  have hH : Heap σ0 σ [.box b1 [i4 0, (nt aa_)], .box b2 [i4 a0.Next, t3], .own true 10 t3 y1.t] := hH.sel [1, 0, 2] rfl (by kernel_rfl)
  refine aF_ (cs := [i4 a0.Next, t3]) rfl hS hH rfl rfl (by simp [ht3.1, ht3.2]) ?_; intro σ s hH hS
  refine ae_ (sq_n (ao_ ?_))
  injection h with h; subst h
  have hH : Heap σ0 σ [.own true 10 t3 y1.t, .box b1 [i4 a0.Next, t3], .box b2 [i4 a0.Next, t3]] := hH.sel [2, 0, 1] rfl (by kernel_rfl)
  exact a8_ [t3] [.box b1 [i4 a0.Next, t3], .box b2 [i4 a0.Next, t3]] (bf_ (v := .agg [i4 a0.Next, t3]) hS (hH.at 1 rfl) rfl (by kernel_rfl) r_nil) (by kernel_rfl) rfl hH (by kernel_rfl)
noncomputable def cS_ (a0 : aa_) : Option Bool := ((cl_ a0.Id).bind fun y1 => (if (!y1) = true then (some false) else (if (decide (30 < (a0.Vals.l.length : Int))) = true then (some false) else ((aD_ a0.Vals (T.fn 123 [] [])).bind fun y2 => (if (!y2) = true then (some false) else (if (decide (a0.Kind = 1)) = true then ((bR_ a0.Low (-1000) 1000).bind fun y3 => (if y3 = true then (if (decide ((a0.Keys.l.length : Int) = 0)) = true then (if ((decide (a0.Default.Kind = 0) && (decide (a0.Default.Num = 0) && (decide (a0.Default.Text = (⟨#[]⟩ : ByteArray)) && (decide (a0.Default.Ref = 0) && true))))) = true then (some (decide (a0.Name = (⟨#[]⟩ : ByteArray)))) else (some false)) else (some false)) else (some false))) else (if (decide (a0.Kind = 2)) = true then (((if ((decide ((a0.Keys.l.length : Int) = (a0.Vals.l.length : Int)))) = true then ((aD_ a0.Keys (T.fn 123 [] [])).bind fun y6 => (if y6 = true then ((bT_ a0.Keys).bind fun y7 => (some y7)) else (some false))) else (some false)) : Option Bool).bind fun y4 => (if (decide (a0.Low = 0)) = true then (if y4 = true then ((a9_ a0.Default).bind fun y5 => (if y5 = true then (some (decide (a0.Name = (⟨#[]⟩ : ByteArray)))) else (some false))) else (some false)) else (some false))) else (if (decide (a0.Kind = 3)) = true then (((if (decide (1 ≤ (a0.Keys.l.length : Int))) = true then (if (decide ((a0.Keys.l.length : Int) ≤ 6)) = true then (if ((decide ((a0.Keys.l.length : Int) = (a0.Vals.l.length : Int)))) = true then ((aD_ a0.Keys (T.fn 125 [] [])).bind fun y10 => (if y10 = true then ((bT_ a0.Keys).bind fun y11 => (some y11)) else (some false))) else (some false)) else (some false)) else (some false)) : Option Bool).bind fun y8 => (if (decide (a0.Low = 0)) = true then (if y8 = true then (if ((decide (a0.Default.Kind = 0) && (decide (a0.Default.Num = 0) && (decide (a0.Default.Text = (⟨#[]⟩ : ByteArray)) && (decide (a0.Default.Ref = 0) && true))))) = true then ((de_ a0.Name).bind fun y9 => (some y9)) else (some false)) else (some false)) else (some false))) else (some false)))))))))
theorem g3_ (a0 : aa_) (r : Bool) (h : cS_ a0 = some r) : ca_ a0 = some r := by
 unfold cS_ at h
 refine ax_ E_bool_inj rfl rfl ok_70 rfl (all_cons (by kernel_rfl) all_nil) ?_
 intro σ0 s hS hH
 have hS := am_ (L' := [(0, .agg (aa_.cells a0))]) hS (by kernel_rfl)
 refine ad_ (ab_ ?_)
 refine aT_ (v := .agg (aa_.cells a0)) (cs := [i4 a0.Id, i4 a0.Kind, .str a0.Name, i4 a0.Low, a0.Keys.t, a0.Vals.t, i4 a0.Default.Kind, i4 a0.Default.Num, .str a0.Default.Text, i4 a0.Default.Ref]) rfl hS hH rfl rfl (by kernel_rfl) ?_; intro b1 σ s hH hS
 refine qs 1 [(1, .ptr b1 0 0 10)] hS ?_; intro s hS
 refine ae_ (sq_n (ad_ (ad_ (ab_ ?_))))
 refine qs 1 [(1, .ptr b1 0 0 10), (6, .ptr b1 0 0 1)] hS ?_; intro s hS
 refine ai_ (v := i4 a0.Id) 0 trivial rfl hS hH rfl rfl (by kernel_rfl) ?_; intro s hS
 obtain ⟨y1, hy1, h⟩ := bind_some h
 refine ar_ (a := []) (b := []) (xs := [i4 a0.Id]) rfl hS rfl rfl hy1 ?_; intro s hS
 refine qs 2 [(10, .bool (!y1)), (1, .ptr b1 0 0 10)] hS ?_; intro s hS
 by_cases hc1 : (!y1) = true
 ·have h := ak_ hc1 h
  have hS := ap_ hS hc1
  refine qs 11 [(1, .ptr b1 0 0 10), (21, .bool true)] hS ?_; intro s hS
  refine ae_ (sq_n ?_)
  refine af_ (t := true) hS rfl (fun _ => ?_) (fun hf => by cases hf)
  refine ad_ (ab_ ?_)
  refine qs 1 [(2, .bool false)] hS ?_; intro s hS
  refine ae_ (sq_n (ao_ (sq_r ?_)))
  injection h with h; subst h
  exact aq_ hH (an_ (v := .bool false) hS rfl r_nil) rfl (by kernel_rfl) (by simp [pureT, pureL, E_bool])
 ·have h := al_ hc1 h
  have hS := ap_ hS (aB_ hc1)
  refine qs 1 [(1, .ptr b1 0 0 10), (10, .bool false), (11, .ptr b1 0 5 1)] hS ?_; intro s hS
  refine ai_ (v := a0.Vals.t) 0 trivial rfl hS hH rfl rfl (by kernel_rfl) ?_; intro s hS
  refine qs 4 [(16, .bool (decide (30 < (a0.Vals.l.length : Int)))), (1, .ptr b1 0 0 10)] hS ?_; intro s hS
  by_cases hc2 : (decide (30 < (a0.Vals.l.length : Int))) = true
  ·have h := ak_ hc2 h
   have hS := ap_ hS hc2
   refine qs 5 [(1, .ptr b1 0 0 10), (21, .bool true)] hS ?_; intro s hS
   refine ae_ (sq_n ?_)
   refine af_ (t := true) hS rfl (fun _ => ?_) (fun hf => by cases hf)
   refine ad_ (ab_ ?_)
   refine qs 1 [(2, .bool false)] hS ?_; intro s hS
   refine ae_ (sq_n (ao_ (sq_r ?_)))
   injection h with h; subst h
   exact aq_ hH (an_ (v := .bool false) hS rfl r_nil) rfl (by kernel_rfl) (by simp [pureT, pureL, E_bool])
  ·have h := al_ hc2 h
   have hS := ap_ hS (aB_ hc2)
   refine qs 1 [(1, .ptr b1 0 0 10), (16, .bool false), (17, .ptr b1 0 5 1)] hS ?_; intro s hS
   refine ai_ (v := a0.Vals.t) 0 trivial rfl hS hH rfl rfl (by kernel_rfl) ?_; intro s hS
   obtain ⟨y2, hy2, h⟩ := bind_some h
   refine ar_ (a := []) (b := []) (xs := [a0.Vals.t, T.fn 123 [] []]) rfl hS rfl rfl hy2 ?_; intro s hS
   refine qs 2 [(1, .ptr b1 0 0 10), (21, .bool (!y2))] hS ?_; intro s hS
   refine ae_ (sq_n ?_)
   by_cases hc3 : (!y2) = true
   ·have h := ak_ hc3 h
    refine af_ hS rfl (fun _ => ?_) (fun hf => ah_ hc3 hf)
    refine ad_ (ab_ ?_)
    refine qs 1 [(2, .bool false)] hS ?_; intro s hS
    refine ae_ (sq_n (ao_ (sq_r ?_)))
    injection h with h; subst h
    exact aq_ hH (an_ (v := .bool false) hS rfl r_nil) rfl (by kernel_rfl) (by simp [pureT, pureL, E_bool])
   ·have h := al_ hc3 h
    refine af_ hS rfl (fun hf => ag_ hc3 hf) (fun _ => ?_)
    refine as_ (sq_n (ad_ (ad_ (ab_ ?_))))
    refine qs 1 [(1, .ptr b1 0 0 10), (22, .ptr b1 0 1 1)] hS ?_; intro s hS
    refine ai_ (v := i4 a0.Kind) 0 trivial rfl hS hH rfl rfl (by kernel_rfl) ?_; intro s hS
    refine ae_ (sq_n (aw_ (ad_ (ab_ ?_))))
    refine qs 2 [(1, .ptr b1 0 0 10), (23, i4 a0.Kind), (24, .bool (decide (a0.Kind = 1)))] hS ?_; intro s hS
    refine ae_ (sq_n ?_)
    by_cases hc4 : (decide (a0.Kind = 1)) = true
    ·have h := ak_ hc4 h
     refine af_ hS rfl (fun _ => ?_) (fun hf => ah_ hc4 hf)
     refine ad_ (ab_ ?_)
     refine qs 1 [(1, .ptr b1 0 0 10), (26, .ptr b1 0 3 1)] hS ?_; intro s hS
     refine ai_ (v := i4 a0.Low) 0 trivial rfl hS hH rfl rfl (by kernel_rfl) ?_; intro s hS
     obtain ⟨y3, hy3, h⟩ := bind_some h
     refine ar_ (a := []) (b := []) (xs := [i4 a0.Low, i4 (-1000), i4 1000]) rfl hS rfl rfl hy3 ?_; intro s hS
     refine qs 1 [(29, .bool y3), (1, .ptr b1 0 0 10)] hS ?_; intro s hS
     by_cases hc5 : y3 = true
     ·have h := ak_ hc5 h
      have hS := ap_ hS hc5
      refine qs 1 [(1, .ptr b1 0 0 10), (29, .bool true), (30, .ptr b1 0 4 1)] hS ?_; intro s hS
      refine ai_ (v := a0.Keys.t) 0 trivial rfl hS hH rfl rfl (by kernel_rfl) ?_; intro s hS
      refine qs 4 [(35, .bool (decide ((a0.Keys.l.length : Int) = 0))), (1, .ptr b1 0 0 10)] hS ?_; intro s hS
      by_cases hc6 : (decide ((a0.Keys.l.length : Int) = 0)) = true
      ·have h := ak_ hc6 h
       have hS := ap_ hS hc6
       refine qs 1 [(1, .ptr b1 0 0 10), (35, .bool true), (36, .ptr b1 0 6 4)] hS ?_; intro s hS
       refine ai_ (v := .agg (ac_.cells a0.Default)) 0 trivial rfl hS hH rfl rfl (by kernel_rfl) ?_; intro s hS
       refine qs 1 [(1, .ptr b1 0 0 10), (35, .bool true), (37, .agg (ac_.cells a0.Default)), (38, .agg [i4 0, i4 0, .str ⟨#[]⟩, i4 0])] hS ?_; intro s hS
       refine hw_ (xs := [i4 a0.Default.Kind, i4 a0.Default.Num, .str a0.Default.Text, i4 a0.Default.Ref]) (ys := [i4 0, i4 0, .str ⟨#[]⟩, i4 0]) (v := (decide (a0.Default.Kind = 0) && (decide (a0.Default.Num = 0) && (decide (a0.Default.Text = (⟨#[]⟩ : ByteArray)) && (decide (a0.Default.Ref = 0) && true))))) rfl hS rfl rfl (by kernel_rfl) (by kernel_rfl) ?_; intro s hS
       refine qs 2 [(41, .bool ((decide (a0.Default.Kind = 0) && (decide (a0.Default.Num = 0) && (decide (a0.Default.Text = (⟨#[]⟩ : ByteArray)) && (decide (a0.Default.Ref = 0) && true)))))), (1, .ptr b1 0 0 10)] hS ?_; intro s hS
       by_cases hc7 : ((decide (a0.Default.Kind = 0) && (decide (a0.Default.Num = 0) && (decide (a0.Default.Text = (⟨#[]⟩ : ByteArray)) && (decide (a0.Default.Ref = 0) && true))))) = true
       ·have h := ak_ hc7 h
        have hS := ap_ hS hc7
        refine qs 1 [(41, .bool true), (42, .ptr b1 0 2 1)] hS ?_; intro s hS
        refine ai_ (v := .str a0.Name) 0 trivial rfl hS hH rfl rfl (by kernel_rfl) ?_; intro s hS
        refine qs 3 [(2, .bool (decide (a0.Name = (⟨#[]⟩ : ByteArray))))] hS ?_; intro s hS
        refine ae_ (sq_n (ao_ (bk_r (sq_r ?_))))
        injection h with h; subst h
        exact aq_ hH (an_ (v := .bool (decide (a0.Name = (⟨#[]⟩ : ByteArray)))) hS rfl r_nil) rfl (by kernel_rfl) (by simp [pureT, pureL, E_bool])
       ·have h := al_ hc7 h
        have hS := ap_ hS (aB_ hc7)
        refine qs 5 [(2, .bool false)] hS ?_; intro s hS
        refine ae_ (sq_n (ao_ (bk_r (sq_r ?_))))
        injection h with h; subst h
        exact aq_ hH (an_ (v := .bool false) hS rfl r_nil) rfl (by kernel_rfl) (by simp [pureT, pureL, E_bool])
      ·have h := al_ hc6 h
       have hS := ap_ hS (aB_ hc6)
       refine qs 11 [(2, .bool false)] hS ?_; intro s hS
       refine ae_ (sq_n (ao_ (bk_r (sq_r ?_))))
       injection h with h; subst h
       exact aq_ hH (an_ (v := .bool false) hS rfl r_nil) rfl (by kernel_rfl) (by simp [pureT, pureL, E_bool])
     ·have h := al_ hc5 h
      have hS := ap_ hS (aB_ hc5)
      refine qs 17 [(2, .bool false)] hS ?_; intro s hS
      refine ae_ (sq_n (ao_ (bk_r (sq_r ?_))))
      injection h with h; subst h
      exact aq_ hH (an_ (v := .bool false) hS rfl r_nil) rfl (by kernel_rfl) (by simp [pureT, pureL, E_bool])
    ·have h := al_ hc4 h
     refine af_ hS rfl (fun hf => ag_ hc4 hf) (fun _ => ?_)
     refine ad_ (ab_ ?_)
     refine qs 2 [(1, .ptr b1 0 0 10), (23, i4 a0.Kind), (46, .bool (decide (a0.Kind = 2)))] hS ?_; intro s hS
     refine ae_ (sq_n ?_)
     by_cases hc8 : (decide (a0.Kind = 2)) = true
     ·have h := ak_ hc8 h
      refine af_ hS rfl (fun _ => ?_) (fun hf => ah_ hc8 hf)
      refine ad_ ?_
      obtain ⟨y4, hy4, h⟩ := bind_some h
      refine codeQ_mono (Q := fun e fr => e = .normal ∧ Sub [(1, .ptr b1 0 0 10), (3, .bool y4)] fr.s ∧ Heap σ0 fr.σ [.box b1 (aa_.cells a0)]) ?_ ?_
      ·intro e fr HF; obtain ⟨s, σ⟩ := fr
       obtain ⟨rfl, hS, hH⟩ := HF
       refine sq_n (ad_ (ab_ ?_))
       refine qs 1 [(1, .ptr b1 0 0 10), (3, .bool y4), (65, .ptr b1 0 3 1)] hS ?_; intro s hS
       refine ai_ (v := i4 a0.Low) 0 trivial rfl hS hH rfl rfl (by kernel_rfl) ?_; intro s hS
       refine qs 2 [(68, .bool (decide (a0.Low = 0))), (1, .ptr b1 0 0 10), (3, .bool y4)] hS ?_; intro s hS
       by_cases hc9 : (decide (a0.Low = 0)) = true
       ·have h := ak_ hc9 h
        have hS := ap_ hS hc9
        refine qs 3 [(71, .bool y4), (1, .ptr b1 0 0 10)] hS ?_; intro s hS
        by_cases hc10 : y4 = true
        ·have h := ak_ hc10 h
         have hS := ap_ hS hc10
         refine qs 1 [(1, .ptr b1 0 0 10), (71, .bool true), (72, .ptr b1 0 6 4)] hS ?_; intro s hS
         refine ai_ (v := .agg (ac_.cells a0.Default)) 0 trivial rfl hS hH rfl rfl (by kernel_rfl) ?_; intro s hS
         obtain ⟨y5, hy5, h⟩ := bind_some h
         refine ar_ (a := []) (b := []) (xs := [.agg (ac_.cells a0.Default)]) rfl hS rfl rfl hy5 ?_; intro s hS
         refine qs 2 [(76, .bool y5), (1, .ptr b1 0 0 10)] hS ?_; intro s hS
         by_cases hc11 : y5 = true
         ·have h := ak_ hc11 h
          have hS := ap_ hS hc11
          refine qs 1 [(76, .bool true), (77, .ptr b1 0 2 1)] hS ?_; intro s hS
          refine ai_ (v := .str a0.Name) 0 trivial rfl hS hH rfl rfl (by kernel_rfl) ?_; intro s hS
          refine qs 3 [(2, .bool (decide (a0.Name = (⟨#[]⟩ : ByteArray))))] hS ?_; intro s hS
          refine ae_ (sq_n (ao_ (bk_r (sq_r ?_))))
          injection h with h; subst h
          exact aq_ hH (an_ (v := .bool (decide (a0.Name = (⟨#[]⟩ : ByteArray)))) hS rfl r_nil) rfl (by kernel_rfl) (by simp [pureT, pureL, E_bool])
         ·have h := al_ hc11 h
          have hS := ap_ hS (aB_ hc11)
          refine qs 5 [(2, .bool false)] hS ?_; intro s hS
          refine ae_ (sq_n (ao_ (bk_r (sq_r ?_))))
          injection h with h; subst h
          exact aq_ hH (an_ (v := .bool false) hS rfl r_nil) rfl (by kernel_rfl) (by simp [pureT, pureL, E_bool])
        ·have h := al_ hc10 h
         have hS := ap_ hS (aB_ hc10)
         refine qs 10 [(2, .bool false)] hS ?_; intro s hS
         refine ae_ (sq_n (ao_ (bk_r (sq_r ?_))))
         injection h with h; subst h
         exact aq_ hH (an_ (v := .bool false) hS rfl r_nil) rfl (by kernel_rfl) (by simp [pureT, pureL, E_bool])
       ·have h := al_ hc9 h
        have hS := ap_ hS (aB_ hc9)
        refine qs 13 [(2, .bool false)] hS ?_; intro s hS
        refine ae_ (sq_n (ao_ (bk_r (sq_r ?_))))
        injection h with h; subst h
        exact aq_ hH (an_ (v := .bool false) hS rfl r_nil) rfl (by kernel_rfl) (by simp [pureT, pureL, E_bool])
      ·clear h; have h := hy4
       refine ab_ ?_
       refine qs 1 [(1, .ptr b1 0 0 10), (48, .ptr b1 0 4 1)] hS ?_; intro s hS
       refine ai_ (v := a0.Keys.t) 0 trivial rfl hS hH rfl rfl (by kernel_rfl) ?_; intro s hS
       refine qs 2 [(1, .ptr b1 0 0 10), (50, i4 (a0.Keys.l.length : Int)), (51, .ptr b1 0 5 1)] hS ?_; intro s hS
       refine ai_ (v := a0.Vals.t) 0 trivial rfl hS hH rfl rfl (by kernel_rfl) ?_; intro s hS
       refine qs 3 [(55, .bool ((decide ((a0.Keys.l.length : Int) = (a0.Vals.l.length : Int))))), (1, .ptr b1 0 0 10)] hS ?_; intro s hS
       by_cases hc12 : ((decide ((a0.Keys.l.length : Int) = (a0.Vals.l.length : Int)))) = true
       ·have h := ak_ hc12 h
        have hS := ap_ hS hc12
        refine qs 1 [(1, .ptr b1 0 0 10), (55, .bool true), (56, .ptr b1 0 4 1)] hS ?_; intro s hS
        refine ai_ (v := a0.Keys.t) 0 trivial rfl hS hH rfl rfl (by kernel_rfl) ?_; intro s hS
        obtain ⟨y6, hy6, h⟩ := bind_some h
        refine ar_ (a := []) (b := []) (xs := [a0.Keys.t, T.fn 123 [] []]) rfl hS rfl rfl hy6 ?_; intro s hS
        refine qs 2 [(60, .bool y6), (1, .ptr b1 0 0 10)] hS ?_; intro s hS
        by_cases hc13 : y6 = true
        ·have h := ak_ hc13 h
         have hS := ap_ hS hc13
         refine qs 1 [(1, .ptr b1 0 0 10), (60, .bool true), (61, .ptr b1 0 4 1)] hS ?_; intro s hS
         refine ai_ (v := a0.Keys.t) 0 trivial rfl hS hH rfl rfl (by kernel_rfl) ?_; intro s hS
         obtain ⟨y7, hy7, h⟩ := bind_some h
         refine ar_ (a := []) (b := []) (xs := [a0.Keys.t]) rfl hS rfl rfl hy7 ?_; intro s hS
         refine qs 2 [(1, .ptr b1 0 0 10), (3, .bool y7)] hS ?_; intro s hS
         refine ae_ ?_
         injection h with h; subst h
         exact And.intro rfl (And.intro (am_ hS (by kernel_rfl)) hH)
        ·have h := al_ hc13 h
         have hS := ap_ hS (aB_ hc13)
         refine qs 5 [(1, .ptr b1 0 0 10), (3, .bool false)] hS ?_; intro s hS
         refine ae_ ?_
         injection h with h; subst h
         exact And.intro rfl (And.intro (am_ hS (by kernel_rfl)) hH)
       ·have h := al_ hc12 h
        have hS := ap_ hS (aB_ hc12)
        refine qs 10 [(1, .ptr b1 0 0 10), (3, .bool false)] hS ?_; intro s hS
        refine ae_ ?_
        injection h with h; subst h
        exact And.intro rfl (And.intro (am_ hS (by kernel_rfl)) hH)
     ·have h := al_ hc8 h
      refine af_ hS rfl (fun hf => ag_ hc8 hf) (fun _ => ?_)
      refine ad_ (ab_ ?_)
      refine qs 2 [(1, .ptr b1 0 0 10), (81, .bool (decide (a0.Kind = 3)))] hS ?_; intro s hS
      refine ae_ (sq_n ?_)
      by_cases hc14 : (decide (a0.Kind = 3)) = true
      ·have h := ak_ hc14 h
       refine af_ hS rfl (fun _ => ?_) (fun hf => ah_ hc14 hf)
       refine ad_ (ab_ ?_)
       refine qs 1 [(1, .ptr b1 0 0 10), (83, .ptr b1 0 4 1)] hS ?_; intro s hS
       refine ai_ (v := a0.Keys.t) 0 trivial rfl hS hH rfl rfl (by kernel_rfl) ?_; intro s hS
       refine qs 2 [(1, .ptr b1 0 0 10), (4, i4 (a0.Keys.l.length : Int))] hS ?_; intro s hS
       refine ae_ (sq_n (ad_ ?_))
       obtain ⟨y8, hy8, h⟩ := bind_some h
       refine codeQ_mono (Q := fun e fr => e = .normal ∧ Sub [(1, .ptr b1 0 0 10), (5, .bool y8)] fr.s ∧ Heap σ0 fr.σ [.box b1 (aa_.cells a0)]) ?_ ?_
       ·intro e fr HF; obtain ⟨s, σ⟩ := fr
        obtain ⟨rfl, hS, hH⟩ := HF
        refine sq_n (ad_ (ab_ ?_))
        refine qs 1 [(1, .ptr b1 0 0 10), (5, .bool y8), (109, .ptr b1 0 3 1)] hS ?_; intro s hS
        refine ai_ (v := i4 a0.Low) 0 trivial rfl hS hH rfl rfl (by kernel_rfl) ?_; intro s hS
        refine qs 2 [(112, .bool (decide (a0.Low = 0))), (1, .ptr b1 0 0 10), (5, .bool y8)] hS ?_; intro s hS
        by_cases hc15 : (decide (a0.Low = 0)) = true
        ·have h := ak_ hc15 h
         have hS := ap_ hS hc15
         refine qs 3 [(115, .bool y8), (1, .ptr b1 0 0 10)] hS ?_; intro s hS
         by_cases hc16 : y8 = true
         ·have h := ak_ hc16 h
          have hS := ap_ hS hc16
          refine qs 1 [(1, .ptr b1 0 0 10), (115, .bool true), (116, .ptr b1 0 6 4)] hS ?_; intro s hS
          refine ai_ (v := .agg (ac_.cells a0.Default)) 0 trivial rfl hS hH rfl rfl (by kernel_rfl) ?_; intro s hS
          refine qs 1 [(1, .ptr b1 0 0 10), (115, .bool true), (117, .agg (ac_.cells a0.Default)), (118, .agg [i4 0, i4 0, .str ⟨#[]⟩, i4 0])] hS ?_; intro s hS
          refine hw_ (xs := [i4 a0.Default.Kind, i4 a0.Default.Num, .str a0.Default.Text, i4 a0.Default.Ref]) (ys := [i4 0, i4 0, .str ⟨#[]⟩, i4 0]) (v := (decide (a0.Default.Kind = 0) && (decide (a0.Default.Num = 0) && (decide (a0.Default.Text = (⟨#[]⟩ : ByteArray)) && (decide (a0.Default.Ref = 0) && true))))) rfl hS rfl rfl (by kernel_rfl) (by kernel_rfl) ?_; intro s hS
          refine qs 2 [(121, .bool ((decide (a0.Default.Kind = 0) && (decide (a0.Default.Num = 0) && (decide (a0.Default.Text = (⟨#[]⟩ : ByteArray)) && (decide (a0.Default.Ref = 0) && true)))))), (1, .ptr b1 0 0 10)] hS ?_; intro s hS
          by_cases hc17 : ((decide (a0.Default.Kind = 0) && (decide (a0.Default.Num = 0) && (decide (a0.Default.Text = (⟨#[]⟩ : ByteArray)) && (decide (a0.Default.Ref = 0) && true))))) = true
          ·have h := ak_ hc17 h
           have hS := ap_ hS hc17
           refine qs 1 [(121, .bool true), (122, .ptr b1 0 2 1)] hS ?_; intro s hS
           refine ai_ (v := .str a0.Name) 0 trivial rfl hS hH rfl rfl (by kernel_rfl) ?_; intro s hS
           obtain ⟨y9, hy9, h⟩ := bind_some h
           refine ar_ (a := []) (b := []) (xs := [.str a0.Name]) rfl hS rfl rfl hy9 ?_; intro s hS
           refine qs 2 [(2, .bool y9)] hS ?_; intro s hS
           refine ae_ (sq_n (ao_ (bk_r (sq_r ?_))))
           injection h with h; subst h
           exact aq_ hH (an_ (v := .bool y9) hS rfl r_nil) rfl (by kernel_rfl) (by simp [pureT, pureL, E_bool])
          ·have h := al_ hc17 h
           have hS := ap_ hS (aB_ hc17)
           refine qs 5 [(2, .bool false)] hS ?_; intro s hS
           refine ae_ (sq_n (ao_ (bk_r (sq_r ?_))))
           injection h with h; subst h
           exact aq_ hH (an_ (v := .bool false) hS rfl r_nil) rfl (by kernel_rfl) (by simp [pureT, pureL, E_bool])
         ·have h := al_ hc16 h
          have hS := ap_ hS (aB_ hc16)
          refine qs 11 [(2, .bool false)] hS ?_; intro s hS
          refine ae_ (sq_n (ao_ (bk_r (sq_r ?_))))
          injection h with h; subst h
          exact aq_ hH (an_ (v := .bool false) hS rfl r_nil) rfl (by kernel_rfl) (by simp [pureT, pureL, E_bool])
        ·have h := al_ hc15 h
         have hS := ap_ hS (aB_ hc15)
         refine qs 14 [(2, .bool false)] hS ?_; intro s hS
         refine ae_ (sq_n (ao_ (bk_r (sq_r ?_))))
         injection h with h; subst h
         exact aq_ hH (an_ (v := .bool false) hS rfl r_nil) rfl (by kernel_rfl) (by simp [pureT, pureL, E_bool])
       ·clear h; have h := hy8
        refine ab_ ?_
        refine qs 3 [(88, .bool (decide (1 ≤ (a0.Keys.l.length : Int)))), (1, .ptr b1 0 0 10), (4, i4 (a0.Keys.l.length : Int))] hS ?_; intro s hS
        by_cases hc18 : (decide (1 ≤ (a0.Keys.l.length : Int))) = true
        ·have h := ak_ hc18 h
         have hS := ap_ hS hc18
         refine qs 4 [(92, .bool (decide ((a0.Keys.l.length : Int) ≤ 6))), (1, .ptr b1 0 0 10), (4, i4 (a0.Keys.l.length : Int))] hS ?_; intro s hS
         by_cases hc19 : (decide ((a0.Keys.l.length : Int) ≤ 6)) = true
         ·have h := ak_ hc19 h
          have hS := ap_ hS hc19
          refine qs 2 [(1, .ptr b1 0 0 10), (92, .bool true), (93, i4 (a0.Keys.l.length : Int)), (94, .ptr b1 0 5 1)] hS ?_; intro s hS
          refine ai_ (v := a0.Vals.t) 0 trivial rfl hS hH rfl rfl (by kernel_rfl) ?_; intro s hS
          refine qs 4 [(99, .bool ((decide ((a0.Keys.l.length : Int) = (a0.Vals.l.length : Int))))), (1, .ptr b1 0 0 10)] hS ?_; intro s hS
          by_cases hc20 : ((decide ((a0.Keys.l.length : Int) = (a0.Vals.l.length : Int)))) = true
          ·have h := ak_ hc20 h
           have hS := ap_ hS hc20
           refine qs 1 [(1, .ptr b1 0 0 10), (99, .bool true), (100, .ptr b1 0 4 1)] hS ?_; intro s hS
           refine ai_ (v := a0.Keys.t) 0 trivial rfl hS hH rfl rfl (by kernel_rfl) ?_; intro s hS
           obtain ⟨y10, hy10, h⟩ := bind_some h
           refine ar_ (a := []) (b := []) (xs := [a0.Keys.t, T.fn 125 [] []]) rfl hS rfl rfl hy10 ?_; intro s hS
           refine qs 2 [(104, .bool y10), (1, .ptr b1 0 0 10)] hS ?_; intro s hS
           by_cases hc21 : y10 = true
           ·have h := ak_ hc21 h
            have hS := ap_ hS hc21
            refine qs 1 [(1, .ptr b1 0 0 10), (104, .bool true), (105, .ptr b1 0 4 1)] hS ?_; intro s hS
            refine ai_ (v := a0.Keys.t) 0 trivial rfl hS hH rfl rfl (by kernel_rfl) ?_; intro s hS
            obtain ⟨y11, hy11, h⟩ := bind_some h
            refine ar_ (a := []) (b := []) (xs := [a0.Keys.t]) rfl hS rfl rfl hy11 ?_; intro s hS
            refine qs 2 [(1, .ptr b1 0 0 10), (5, .bool y11)] hS ?_; intro s hS
            refine ae_ ?_
            injection h with h; subst h
            exact And.intro rfl (And.intro (am_ hS (by kernel_rfl)) hH)
           ·have h := al_ hc21 h
            have hS := ap_ hS (aB_ hc21)
            refine qs 5 [(1, .ptr b1 0 0 10), (5, .bool false)] hS ?_; intro s hS
            refine ae_ ?_
            injection h with h; subst h
            exact And.intro rfl (And.intro (am_ hS (by kernel_rfl)) hH)
          ·have h := al_ hc20 h
           have hS := ap_ hS (aB_ hc20)
           refine qs 10 [(1, .ptr b1 0 0 10), (5, .bool false)] hS ?_; intro s hS
           refine ae_ ?_
           injection h with h; subst h
           exact And.intro rfl (And.intro (am_ hS (by kernel_rfl)) hH)
         ·have h := al_ hc19 h
          have hS := ap_ hS (aB_ hc19)
          refine qs 17 [(1, .ptr b1 0 0 10), (5, .bool false)] hS ?_; intro s hS
          refine ae_ ?_
          injection h with h; subst h
          exact And.intro rfl (And.intro (am_ hS (by kernel_rfl)) hH)
        ·have h := al_ hc18 h
         have hS := ap_ hS (aB_ hc18)
         refine qs 21 [(1, .ptr b1 0 0 10), (5, .bool false)] hS ?_; intro s hS
         refine ae_ ?_
         injection h with h; subst h
         exact And.intro rfl (And.intro (am_ hS (by kernel_rfl)) hH)
      ·have h := al_ hc14 h
       refine af_ hS rfl (fun hf => ag_ hc14 hf) (fun _ => ?_)
       refine as_ (bk_n (sq_n (ad_ (ab_ ?_))))
       refine qs 1 [(2, .bool false)] hS ?_; intro s hS
       refine ae_ (sq_n (ao_ ?_))
       injection h with h; subst h
       exact aq_ hH (an_ (v := .bool false) hS rfl r_nil) rfl (by kernel_rfl) (by simp [pureT, pureL, E_bool])
noncomputable def cG_ (a0 : (Sl ac_)) (a1 : T) : Option Bool := (if flat1 a1 = true then ((aM_ (S := Int) (R := (Unit ⊕ Bool)) (fun st1 => (if (decide (st1 < (a0.l.length : Int))) = true then ((elt a0 st1).bind fun y2 => ((i4_ Try.prog md ext E_bool a1 [.agg (ac_.cells y2)]).bind fun y3 => (if (!y3) = true then (some (.inr (.inr false))) else (some (.inl (w4 (st1 + 1))))))) else (some (.inr (.inl ()))))) 0).bind fun y1 => (Sum.elim (fun y1 => (some true)) (fun y1 => (some y1)) y1)) else none)
theorem gA_ (a0 : (Sl ac_)) (a1 : T) (r : Bool) (h : cG_ a0 a1 = some r) : aD_ a0 a1 = some r := by
 unfold cG_ at h
 obtain ⟨hf_a1, h⟩ := jL_ h
 refine ax_ E_bool_inj rfl rfl ok_71 rfl (all_cons (by kernel_rfl) (all_cons (l6_ hf_a1) all_nil)) ?_
 intro σ0 s hS hH
 have hS := am_ (L' := [(0, a0.t), (1, a1)]) hS (by kernel_rfl)
 refine ad_ (ab_ ?_)
 refine qs 1 [(0, a0.t), (1, a1)] hS ?_; intro s hS
 refine ae_ (sq_n (ad_ (ad_ (ab_ ?_))))
 refine qs 3 [(1, a1), (7, a0.t), (8, i4 (a0.l.length : Int)), (9, i4 0)] hS ?_; intro s hS
 refine ae_ (sq_n (aw_ ?_))
 obtain ⟨y1, hy1, h⟩ := bind_some h
 refine bd_ (fun (st1 : Int) (fr : Fr) => Sub [(1, a1), (7, a0.t), (8, i4 (a0.l.length : Int)), (9, i4 st1)] fr.s ∧ Heap σ0 fr.σ []) (fun (y1 : (Unit ⊕ Bool)) (e : aC_) (fr : Fr) => (Sum.elim (fun y => e = (.exit 0) ∧ Sub [] fr.s ∧ Heap σ0 fr.σ []) (fun y => e = .ret ∧ endW Try.prog (Try.f71.results.toList) σ0 (E_bool y) .ret fr)) y1) hy1 (And.intro (am_ hS (by kernel_rfl)) hH) ?_ ?_
 ·clear h hy1 hS hH; clear y1; intro st1 x fr h HI; obtain ⟨s, σ⟩ := fr; obtain ⟨hS, hH⟩ := HI
  refine ad_ (ab_ ?_)
  refine qs 1 [(1, a1), (7, a0.t), (8, i4 (a0.l.length : Int)), (9, i4 st1), (10, .bool (decide (st1 < (a0.l.length : Int))))] hS ?_; intro s hS
  refine ae_ (sq_n (ad_ ?_))
  by_cases hc1 : (decide (st1 < (a0.l.length : Int))) = true
  ·have h := ak_ hc1 h
   refine af_ hS rfl (fun _ => ?_) (fun hf => ah_ hc1 hf)
   refine as_ (sq_n (ad_ (aw_ (ad_ (ab_ ?_)))))
   obtain ⟨y2, hy2, h⟩ := bind_some h
   refine bh_ (sl := a0) (e := 28) [i4 y2.Kind, i4 y2.Num, .str y2.Text, i4 y2.Ref] rfl hS rfl rfl (by kernel_rfl) (by kernel_rfl) hy2 rfl ?_; intro rest1 s hS
   refine qs 1 [(1, a1), (7, a0.t), (8, i4 (a0.l.length : Int)), (9, i4 st1), (12, .agg (ac_.cells y2))] hS ?_; intro s hS
   refine aO_ (z := [i4 0, i4 0, .str ⟨#[]⟩, i4 0]) rfl hS hH (by kernel_rfl) ?_; intro b1 σ s hH hS
   refine a0_ (v := .agg (ac_.cells y2)) (cs := [i4 y2.Kind, i4 y2.Num, .str y2.Text, i4 y2.Ref]) (cells' := [i4 y2.Kind, i4 y2.Num, .str y2.Text, i4 y2.Ref]) rfl hS hH rfl rfl rfl (by kernel_rfl) (by kernel_rfl) ?_; intro σ s hH hS
   refine ae_ (sq_n (ad_ (ab_ ?_)))
   refine qs 1 [(1, a1), (6, .ptr b1 0 0 4), (7, a0.t), (8, i4 (a0.l.length : Int)), (9, i4 st1), (13, a1)] hS ?_; intro s hS
   refine ai_ (v := .agg (ac_.cells y2)) 0 trivial rfl hS hH rfl rfl (by kernel_rfl) ?_; intro s hS
   obtain ⟨y3, hy3, h⟩ := bind_some h
   refine nY_ (p := a1) (xs := [.agg (ac_.cells y2)]) rfl hS rfl rfl hy3 ?_; intro s hS
   refine qs 1 [(1, a1), (7, a0.t), (8, i4 (a0.l.length : Int)), (9, i4 st1), (16, .bool (!y3))] hS ?_; intro s hS
   refine ae_ (sq_n ?_)
   by_cases hc2 : (!y3) = true
   ·have h := ak_ hc2 h
    refine af_ hS rfl (fun _ => ?_) (fun hf => ah_ hc2 hf)
    refine ad_ (ab_ ?_)
    refine qs 1 [(4, .bool false)] hS ?_; intro s hS
    refine ae_ (sq_n (ao_ (bk_r (sq_r ?_))))
    injection h with h; subst h
    exact And.intro rfl (aq_ hH (an_ (v := .bool false) hS rfl r_nil) rfl (by kernel_rfl) (by simp [pureT, pureL, E_bool]))
   ·have h := al_ hc2 h
    refine af_ hS rfl (fun hf => ag_ hc2 hf) (fun _ => ?_)
    refine as_ (bk_n (sq_n (ab_ ?_)))
    refine qs 2 [(1, a1), (7, a0.t), (8, i4 (a0.l.length : Int)), (9, i4 (w4 (st1 + 1)))] hS ?_; intro s hS
    refine ae_ ?_
    injection h with h; subst h
    exact And.intro (am_ hS (by kernel_rfl)) (Heap.sel hH [] rfl (by kernel_rfl))
  ·have h := al_ hc1 h
   refine af_ hS rfl (fun hf => ag_ hc1 hf) (fun _ => ?_)
   refine ba_ (sq_x ?_)
   injection h with h; subst h
   exact And.intro rfl (And.intro (am_ hS (by kernel_rfl)) hH)
 ·clear hS hH; intro e fr HF; obtain ⟨s, σ⟩ := fr
  rcases y1 with y1 | y1
  ·obtain ⟨rfl, hS, hH⟩ := HF
   refine bk_e (sq_n (ad_ (ab_ ?_)))
   refine qs 1 [(4, .bool true)] hS ?_; intro s hS
   refine ae_ (sq_n (ao_ ?_))
   injection h with h; subst h
   exact aq_ hH (an_ (v := .bool true) hS rfl r_nil) rfl (by kernel_rfl) (by simp [pureT, pureL, E_bool])
  ·obtain ⟨rfl, HE⟩ := HF
   refine bk_r (sq_r ?_)
   injection h with h; subst h; exact HE
noncomputable def bE_ (a0 : aa_) : Option (Sl ac_) := ((cd_ ⟨false, [a0.Keys, a0.Vals]⟩).bind fun y1 => (if (decide (a0.Kind = 2)) = true then ((appS 40 y1 (⟨false, [a0.Default]⟩ : Sl ac_)).bind fun y2 => (some y2)) else (some y1)))
theorem gi_ (a0 : aa_) (r : (Sl ac_)) (h : bE_ a0 = some r) : bm_ a0 = some r := by
 unfold bE_ at h
 refine cx_ rfl rfl ok_72 rfl (all_cons (by kernel_rfl) all_nil) ?_
 intro σ0 s hS hH
 have hS := am_ (L' := [(0, .agg (aa_.cells a0))]) hS (by kernel_rfl)
 refine ad_ (ab_ ?_)
 refine aT_ (v := .agg (aa_.cells a0)) (cs := [i4 a0.Id, i4 a0.Kind, .str a0.Name, i4 a0.Low, a0.Keys.t, a0.Vals.t, i4 a0.Default.Kind, i4 a0.Default.Num, .str a0.Default.Text, i4 a0.Default.Ref]) rfl hS hH rfl rfl (by kernel_rfl) ?_; intro b1 σ s hH hS
 refine qs 1 [(1, .ptr b1 0 0 10)] hS ?_; intro s hS
 refine ae_ (sq_n (ad_ (ab_ ?_)))
 refine qs 1 [(1, .ptr b1 0 0 10), (4, .ptr b1 0 4 1)] hS ?_; intro s hS
 refine ai_ (v := a0.Keys.t) 0 trivial rfl hS hH rfl rfl (by kernel_rfl) ?_; intro s hS
 refine qs 1 [(1, .ptr b1 0 0 10), (5, a0.Keys.t), (6, .ptr b1 0 5 1)] hS ?_; intro s hS
 refine ai_ (v := a0.Vals.t) 0 trivial rfl hS hH rfl rfl (by kernel_rfl) ?_; intro s hS
 refine q_bs (ents := []) (e := 26) (sz := 1) (z := false) (vs := [a0.Keys.t, a0.Vals.t]) (zc := [(nt ac_)]) (cs := [a0.Keys.t, a0.Vals.t]) (us := [a0.Keys.t, a0.Vals.t]) (v := Sl.t (⟨false, [a0.Keys, a0.Vals]⟩ : Sl (Sl ac_))) rfl hS hH (by kernel_rfl) (by kernel_rfl) (by kernel_rfl) (by kernel_rfl) (by kernel_rfl) (And.intro (by kernel_rfl) (And.intro (by kernel_rfl) (And.intro (by kernel_rfl) (And.intro (by kernel_rfl) trivial)))) (by kernel_rfl) (HLp (HLp HL.nil)) (by kernel_rfl) ?_; intro t1 σ s ht1 hH hS
 obtain ⟨y1, hy1, h⟩ := bind_some h
 refine a2_ (ents := [.own false 1 t1 (Sl.t (⟨false, [a0.Keys, a0.Vals]⟩ : Sl (Sl ac_)))]) (z := false) (ts := [t1]) (vs := [(Sl.t (⟨false, [a0.Keys, a0.Vals]⟩ : Sl (Sl ac_)))]) rfl rfl hS rfl rfl rfl hH (HL.own rfl HL.nil) hy1 ?_; intro hs σ s hl hH hS
 obtain ⟨t2, rfl⟩ := len1 hl
 have hH : Heap σ0 σ [.own true 4 t2 y1.t, .own false 1 t1 (Sl.t (⟨false, [a0.Keys, a0.Vals]⟩ : Sl (Sl ac_))), .box b1 (aa_.cells a0)] := hH
 have ht2 : aV_ t2 := Heap.one hH
 refine qs 1 [(1, .ptr b1 0 0 10), (3, t2)] hS ?_; intro s hS
 refine ae_ (sq_n (ad_ (ad_ (ab_ ?_))))
 refine qs 1 [(1, .ptr b1 0 0 10), (3, t2), (10, .ptr b1 0 1 1)] hS ?_; intro s hS
 refine ai_ (v := i4 a0.Kind) 2 trivial rfl hS hH rfl rfl (by kernel_rfl) ?_; intro s hS
 refine qs 1 [(1, .ptr b1 0 0 10), (3, t2), (12, .bool (decide (a0.Kind = 2)))] hS ?_; intro s hS
 refine ae_ (sq_n ?_)
 by_cases hc1 : (decide (a0.Kind = 2)) = true
 ·have h := ak_ hc1 h
  refine af_ hS rfl (fun _ => ?_) (fun hf => ah_ hc1 hf)
  refine ab_ ?_
  refine qs 2 [(13, t2), (14, .ptr b1 0 6 4)] hS ?_; intro s hS
  refine ai_ (v := .agg (ac_.cells a0.Default)) 2 trivial rfl hS hH rfl rfl (by kernel_rfl) ?_; intro s hS
  refine q_bs (ents := []) (e := 28) (sz := 4) (z := true) (vs := [.agg (ac_.cells a0.Default)]) (zc := [i4 0, i4 0, .str ⟨#[]⟩, i4 0]) (cs := [i4 a0.Default.Kind, i4 a0.Default.Num, .str a0.Default.Text, i4 a0.Default.Ref]) (us := [i4 a0.Default.Kind, i4 a0.Default.Num, .str a0.Default.Text, i4 a0.Default.Ref]) (v := Sl.t (⟨false, [a0.Default]⟩ : Sl ac_)) rfl hS hH (by kernel_rfl) (by kernel_rfl) (by kernel_rfl) (by kernel_rfl) (by kernel_rfl) (And.intro (by kernel_rfl) (And.intro (by kernel_rfl) trivial)) (by kernel_rfl) (HLi (HLi (HLs (HLi HL.nil)))) (by kernel_rfl) ?_; intro t3 σ s ht3 hH hS
  have hH : Heap σ0 σ [.own true 4 t2 y1.t, .own true 4 t3 (Sl.t (⟨false, [a0.Default]⟩ : Sl ac_)), .own false 1 t1 (Sl.t (⟨false, [a0.Keys, a0.Vals]⟩ : Sl (Sl ac_))), .box b1 (aa_.cells a0)] := hH.sel [1, 0, 2, 3] rfl (by kernel_rfl)
  obtain ⟨y2, hy2, h⟩ := bind_some h
  refine ps_ (z := true) (t1 := t2) (a := y1) (b := (⟨false, [a0.Default]⟩ : Sl ac_)) (e := 28) (by_ := 40) (zc := [i4 0, i4 0, .str ⟨#[]⟩, i4 0]) rfl hS hH rfl rfl (by kernel_rfl) (by kernel_rfl) (by kernel_rfl) (by kernel_rfl) (by kernel_rfl) (by kernel_rfl) hy2 ?_; intro t4 σ s ht4 hH hS
  refine qs 1 [(3, t4)] hS ?_; intro s hS
  refine ae_ (sq_n (ad_ (ab_ ?_)))
  refine qs 2 [(2, t4)] hS ?_; intro s hS
  refine ae_ (sq_n (ao_ ?_))
  injection h with h; subst h
  exact a8_ [t4] [.own false 1 t1 (Sl.t (⟨false, [a0.Keys, a0.Vals]⟩ : Sl (Sl ac_))), .box b1 (aa_.cells a0)] (an_ (v := t4) hS rfl r_nil) (by kernel_rfl) rfl hH (by kernel_rfl)
 ·have h := al_ hc1 h
  refine af_ hS rfl (fun hf => ag_ hc1 hf) (fun _ => ?_)
  refine as_ (sq_n (ad_ (ab_ ?_)))
  refine qs 2 [(2, t2)] hS ?_; intro s hS
  refine ae_ (sq_n (ao_ ?_))
  injection h with h; subst h
  exact a8_ [t2] [.own false 1 t1 (Sl.t (⟨false, [a0.Keys, a0.Vals]⟩ : Sl (Sl ac_))), .box b1 (aa_.cells a0)] (an_ (v := t2) hS rfl r_nil) (by kernel_rfl) rfl hH (by kernel_rfl)
noncomputable def dL_ (a0 : aj_) (a1 : ac_) : Option Bool := ((a9_ a1).bind fun y1 => (if (!y1) = true then ((a9_ a1).bind fun y2 => (some y2)) else ((ec_ a1.Kind).bind fun y3 => (if (!y3) = true then ((a9_ a1).bind fun y4 => (some y4)) else ((bk_ a0 a1.Ref).bind fun y5 => (if (decide (0 ≤ y5)) = true then ((elt a0.Objects y5).bind fun y6 => ((dt_ a1.Kind).bind fun y7 => (some (decide (y6.Kind = y7))))) else (some false)))))))
theorem h7_ (a0 : aj_) (a1 : ac_) (r : Bool) (h : dL_ a0 a1 = some r) : d0_ a0 a1 = some r := by
 unfold dL_ at h
 refine ax_ E_bool_inj rfl rfl ok_73 rfl (all_cons (by kernel_rfl) (all_cons (by kernel_rfl) all_nil)) ?_
 intro σ0 s hS hH
 have hS := am_ (L' := [(0, .agg (aj_.cells a0)), (1, .agg (ac_.cells a1))]) hS (by kernel_rfl)
 refine ad_ (ab_ ?_)
 refine aT_ (v := .agg (aj_.cells a0)) (cs := [i4 a0.Next, a0.Objects.t]) rfl hS hH rfl rfl (by kernel_rfl) ?_; intro b1 σ s hH hS
 refine aT_ (v := .agg (ac_.cells a1)) (cs := [i4 a1.Kind, i4 a1.Num, .str a1.Text, i4 a1.Ref]) rfl hS hH rfl rfl (by kernel_rfl) ?_; intro b2 σ s hH hS
 refine qs 1 [(2, .ptr b1 0 0 2), (3, .ptr b2 0 0 4)] hS ?_; intro s hS
 refine ae_ (sq_n (ad_ (ad_ (ab_ ?_))))
 refine ai_ (v := .agg (ac_.cells a1)) 0 trivial rfl hS hH rfl rfl (by kernel_rfl) ?_; intro s hS
 obtain ⟨y1, hy1, h⟩ := bind_some h
 refine ar_ (a := []) (b := []) (xs := [.agg (ac_.cells a1)]) rfl hS rfl rfl hy1 ?_; intro s hS
 refine qs 2 [(9, .bool (!y1)), (2, .ptr b1 0 0 2), (3, .ptr b2 0 0 4)] hS ?_; intro s hS
 by_cases hc1 : (!y1) = true
 ·have h := ak_ hc1 h
  have hS := ap_ hS hc1
  refine qs 5 [(2, .ptr b1 0 0 2), (3, .ptr b2 0 0 4), (14, .bool true)] hS ?_; intro s hS
  refine ae_ (sq_n ?_)
  refine af_ (t := true) hS rfl (fun _ => ?_) (fun hf => by cases hf)
  refine ad_ (ab_ ?_)
  refine ai_ (v := .agg (ac_.cells a1)) 0 trivial rfl hS hH rfl rfl (by kernel_rfl) ?_; intro s hS
  obtain ⟨y2, hy2, h⟩ := bind_some h
  refine ar_ (a := []) (b := []) (xs := [.agg (ac_.cells a1)]) rfl hS rfl rfl hy2 ?_; intro s hS
  refine qs 1 [(4, .bool y2)] hS ?_; intro s hS
  refine ae_ (sq_n (ao_ (sq_r ?_)))
  injection h with h; subst h
  exact aq_ hH (an_ (v := .bool y2) hS rfl r_nil) rfl (by kernel_rfl) (by simp [pureT, pureL, E_bool])
 ·have h := al_ hc1 h
  have hS := ap_ hS (aB_ hc1)
  refine qs 1 [(2, .ptr b1 0 0 2), (3, .ptr b2 0 0 4), (9, .bool false), (10, .ptr b2 0 0 1)] hS ?_; intro s hS
  refine ai_ (v := i4 a1.Kind) 0 trivial rfl hS hH rfl rfl (by kernel_rfl) ?_; intro s hS
  obtain ⟨y3, hy3, h⟩ := bind_some h
  refine ar_ (a := []) (b := []) (xs := [i4 a1.Kind]) rfl hS rfl rfl hy3 ?_; intro s hS
  refine qs 2 [(2, .ptr b1 0 0 2), (3, .ptr b2 0 0 4), (14, .bool (!y3))] hS ?_; intro s hS
  refine ae_ (sq_n ?_)
  by_cases hc2 : (!y3) = true
  ·have h := ak_ hc2 h
   refine af_ hS rfl (fun _ => ?_) (fun hf => ah_ hc2 hf)
   refine ad_ (ab_ ?_)
   refine ai_ (v := .agg (ac_.cells a1)) 0 trivial rfl hS hH rfl rfl (by kernel_rfl) ?_; intro s hS
   obtain ⟨y4, hy4, h⟩ := bind_some h
   refine ar_ (a := []) (b := []) (xs := [.agg (ac_.cells a1)]) rfl hS rfl rfl hy4 ?_; intro s hS
   refine qs 1 [(4, .bool y4)] hS ?_; intro s hS
   refine ae_ (sq_n (ao_ (sq_r ?_)))
   injection h with h; subst h
   exact aq_ hH (an_ (v := .bool y4) hS rfl r_nil) rfl (by kernel_rfl) (by simp [pureT, pureL, E_bool])
  ·have h := al_ hc2 h
   refine af_ hS rfl (fun hf => ag_ hc2 hf) (fun _ => ?_)
   refine as_ (sq_n (ad_ (ab_ ?_)))
   refine ai_ (v := .agg (aj_.cells a0)) 1 trivial rfl hS hH rfl rfl (by kernel_rfl) ?_; intro s hS
   refine qs 1 [(2, .ptr b1 0 0 2), (3, .ptr b2 0 0 4), (17, .agg (aj_.cells a0)), (18, .ptr b2 0 3 1)] hS ?_; intro s hS
   refine ai_ (v := i4 a1.Ref) 0 trivial rfl hS hH rfl rfl (by kernel_rfl) ?_; intro s hS
   obtain ⟨y5, hy5, h⟩ := bind_some h
   refine ar_ (a := []) (b := []) (xs := [.agg (aj_.cells a0), i4 a1.Ref]) rfl hS rfl rfl hy5 ?_; intro s hS
   refine qs 1 [(2, .ptr b1 0 0 2), (3, .ptr b2 0 0 4), (5, i4 y5)] hS ?_; intro s hS
   refine ae_ (sq_n (ad_ ?_))
   refine dk_ (by kernel_rfl) hH ?_; intro mb σ hH
   refine qs 3 [(23, .bool (decide (0 ≤ y5))), (2, .ptr b1 0 0 2), (3, .ptr b2 0 0 4), (5, i4 y5)] hS ?_; intro s hS
   by_cases hc3 : (decide (0 ≤ y5)) = true
   ·have h := ak_ hc3 h
    have hS := ap_ hS hc3
    refine qs 1 [(3, .ptr b2 0 0 4), (5, i4 y5), (23, .bool true), (24, .ptr b1 0 1 1)] hS ?_; intro s hS
    refine ai_ (v := a0.Objects.t) 1 trivial rfl hS hH rfl rfl (by kernel_rfl) ?_; intro s hS
    refine qs 1 [(3, .ptr b2 0 0 4), (23, .bool true), (25, a0.Objects.t), (26, i4 y5)] hS ?_; intro s hS
    obtain ⟨y6, hy6, h⟩ := bind_some h
    refine bh_ (sl := a0.Objects) (e := 30) [i4 y6.Id, i4 y6.Kind, .str y6.Name, i4 y6.Low, y6.Keys.t, y6.Vals.t, i4 y6.Default.Kind, i4 y6.Default.Num, .str y6.Default.Text, i4 y6.Default.Ref] rfl hS rfl rfl (by kernel_rfl) (by kernel_rfl) hy6 rfl ?_; intro rest1 s hS
    refine qs 3 [(23, .bool true), (29, i4 y6.Kind), (30, .ptr b2 0 0 1)] hS ?_; intro s hS
    refine ai_ (v := i4 a1.Kind) 0 trivial rfl hS hH rfl rfl (by kernel_rfl) ?_; intro s hS
    obtain ⟨y7, hy7, h⟩ := bind_some h
    refine ar_ (a := []) (b := []) (xs := [i4 a1.Kind]) rfl hS rfl rfl hy7 ?_; intro s hS
    refine qs 3 [(4, .bool (decide (y6.Kind = y7)))] hS ?_; intro s hS
    refine ae_ (sq_n (ao_ ?_))
    injection h with h; subst h
    exact aq_ hH (an_ (v := .bool (decide (y6.Kind = y7))) hS rfl r_nil) rfl (by kernel_rfl) (by simp [pureT, pureL, E_bool])
   ·have h := al_ hc3 h
    have hS := ap_ hS (aB_ hc3)
    refine qs 12 [(4, .bool false)] hS ?_; intro s hS
    refine ae_ (sq_n (ao_ ?_))
    injection h with h; subst h
    exact aq_ hH (an_ (v := .bool false) hS rfl r_nil) rfl (by kernel_rfl) (by simp [pureT, pureL, E_bool])
noncomputable def eA_ (a0 : aj_) (a1 : Int) (a2 : aa_) : Option aj_ := ((bw_ a0).bind fun y1 => ((aR_ a2).bind fun y2 => ((elt y1.Objects a1).bind fun y3 => (some (⟨y1.Next, (setS y1.Objects a1 (y2 : aa_))⟩ : aj_)))))
theorem iM_ (a0 : aj_) (a1 : Int) (a2 : aa_) (r : aj_) (h : eA_ a0 a1 a2 = some r) : cg_ a0 a1 a2 = some r := by
 unfold eA_ at h
 refine cx_ rfl rfl ok_74 rfl (all_cons (by kernel_rfl) (all_cons (by kernel_rfl) (all_cons (by kernel_rfl) all_nil))) ?_
 intro σ0 s hS hH
 have hS := am_ (L' := [(0, .agg (aj_.cells a0)), (1, i4 a1), (2, .agg (aa_.cells a2))]) hS (by kernel_rfl)
 refine ad_ (ab_ ?_)
 refine aT_ (v := .agg (aj_.cells a0)) (cs := [i4 a0.Next, a0.Objects.t]) rfl hS hH rfl rfl (by kernel_rfl) ?_; intro b1 σ s hH hS
 refine aT_ (v := .agg (aa_.cells a2)) (cs := [i4 a2.Id, i4 a2.Kind, .str a2.Name, i4 a2.Low, a2.Keys.t, a2.Vals.t, i4 a2.Default.Kind, i4 a2.Default.Num, .str a2.Default.Text, i4 a2.Default.Ref]) rfl hS hH rfl rfl (by kernel_rfl) ?_; intro b2 σ s hH hS
 refine aO_ (z := [i4 0, (nt aa_)]) rfl hS hH (by kernel_rfl) ?_; intro b3 σ s hH hS
 refine ae_ (sq_n (ad_ (ab_ ?_)))
 refine ai_ (v := .agg (aj_.cells a0)) 2 trivial rfl hS hH rfl rfl (by kernel_rfl) ?_; intro s hS
 obtain ⟨y1, hy1, h⟩ := bind_some h
 refine a2_ (ents := []) (z := false) (ts := [.agg (aj_.cells a0)]) (vs := [.agg (aj_.cells a0)]) rfl rfl hS rfl rfl rfl hH (HL.agg (es1 := []) (es2 := []) (HLi (HLp HL.nil)) HL.nil) hy1 ?_; intro hs σ s hl hH hS
 obtain ⟨t1, rfl⟩ := len1 hl
 have hH : Heap σ0 σ [.own true 10 t1 y1.Objects.t, .box b3 [i4 0, (nt aa_)], .box b2 (aa_.cells a2), .box b1 (aj_.cells a0)] := hH
 have ht1 : aV_ t1 := Heap.one hH
 refine aO_ (z := [i4 0, (nt aa_)]) rfl hS hH (by kernel_rfl) ?_; intro b4 σ s hH hS
 refine aF_ (cs := [i4 y1.Next, t1]) rfl hS hH rfl rfl (by simp [ht1.1, ht1.2]) ?_; intro σ s hH hS
 refine ae_ (sq_n (ad_ ?_))
 refine b6_ (W2 (fun _ => False) (fun _ => True)) (fun _ => rfl) (by kernel_rfl) (by kernel_rfl) hH ?_; intro mb σs σ hn0 hlt hlto hH
 have hlt_b4 : b4 < mb := hlt b4 _ (List.Mem.head _)
 refine qs 1 [(1, i4 a1), (5, .ptr b2 0 0 10), (6, .ptr b3 0 0 2), (7, .ptr b4 0 0 2), (10, .ptr b4 0 1 1)] hS ?_; intro s hS
 refine ai_ (v := t1) 0 (Or.inr ⟨hlt_b4, Or.inl (by kernel_rfl)⟩) rfl hS hH rfl rfl (by kernel_rfl) ?_; intro s hS
 refine qs 1 [(5, .ptr b2 0 0 10), (6, .ptr b3 0 0 2), (7, .ptr b4 0 0 2), (11, t1), (12, i4 a1)] hS ?_; intro s hS
 refine ai_ (v := .agg (aa_.cells a2)) 3 (Or.inl (by kernel_rfl)) rfl hS hH rfl rfl (by kernel_rfl) ?_; intro s hS
 obtain ⟨y2, hy2, h⟩ := bind_some h
 refine a2_ (ents := []) (z := false) (ts := [.agg (aa_.cells a2)]) (vs := [.agg (aa_.cells a2)]) rfl rfl hS rfl rfl rfl hH (HL.agg (es1 := []) (es2 := []) (HLi (HLi (HLs (HLi (HLp (HLp (HLi (HLi (HLs (HLi HL.nil)))))))))) HL.nil) hy2 ?_; intro hs σ s hl hH hS
 obtain ⟨t2, t3, rfl⟩ := len2 hl
 have hH : Heap σ0 σ [.own true 4 t2 y2.Keys.t, .own true 4 t3 y2.Vals.t, .box b4 [i4 y1.Next, t1], .own true 10 t1 y1.Objects.t, .box b3 [i4 0, (nt aa_)], .box b2 (aa_.cells a2), .box b1 (aj_.cells a0)] := hH
 have ht2 : aV_ t2 := Heap.one hH
 have ht3 : aV_ t3 := Heap.one (hH.at 1 rfl)
 have hH : Heap σ0 σ [.own true 10 t1 y1.Objects.t, .own true 4 t2 y2.Keys.t, .own true 4 t3 y2.Vals.t, .box b4 [i4 y1.Next, t1], .box b3 [i4 0, (nt aa_)], .box b2 (aa_.cells a2), .box b1 (aj_.cells a0)] := hH.sel [3, 0, 1, 2, 4, 5, 6] rfl (by kernel_rfl)
 obtain ⟨y3, hy3, h⟩ := bind_some h
 refine cP_ (a := y1.Objects) (e := 30) (fun _ _ _ _ _ => Or.inl (by kernel_rfl)) rfl hS hH rfl rfl (by kernel_rfl) (by kernel_rfl) hy3 ?_; intro hb1 hb1e s hl_hb1 hS
 refine iA_ rfl (ents := [.own true 4 t2 y2.Keys.t, .own true 4 t3 y2.Vals.t]) (a := y1.Objects) (j := a1) (y := y3) (y' := (y2 : aa_)) (off := 0) (c := [i4 y3.Id, i4 y3.Kind, .str y3.Name, i4 y3.Low, y3.Keys.t, y3.Vals.t, i4 y3.Default.Kind, i4 y3.Default.Num, .str y3.Default.Text, i4 y3.Default.Ref]) (us := [i4 y2.Id, i4 y2.Kind, .str y2.Name, i4 y2.Low, t2, t3, i4 y2.Default.Kind, i4 y2.Default.Num, .str y2.Default.Text, i4 y2.Default.Ref]) (vs := [i4 y2.Id, i4 y2.Kind, .str y2.Name, i4 y2.Low, y2.Keys.t, y2.Vals.t, i4 y2.Default.Kind, i4 y2.Default.Num, .str y2.Default.Text, i4 y2.Default.Ref]) (v := .agg [i4 y2.Id, i4 y2.Kind, .str y2.Name, i4 y2.Low, t2, t3, i4 y2.Default.Kind, i4 y2.Default.Num, .str y2.Default.Text, i4 y2.Default.Ref]) (by exact Or.inr ⟨false, by kernel_rfl, trivial⟩) rfl hS hH hl_hb1 rfl rfl rfl (by simp [ht2.1, ht2.2, ht3.1, ht3.2]) (by kernel_rfl) rfl hy3 rfl (HLi (HLi (HLs (HLi (HL.own rfl (HL.own rfl (HLi (HLi (HLs (HLi HL.nil)))))))))) rfl (by kernel_rfl) ?_; intro σ s hH hS
 refine ae_ (sq_n (ad_ (ab_ ?_)))
 refine ai_ (v := .agg [i4 y1.Next, t1]) 1 trivial rfl hS hH rfl rfl (by kernel_rfl) ?_; intro s hS
 have hH : Heap σ0 σ [.box b3 [i4 0, (nt aa_)], .own true 10 t1 (setS y1.Objects a1 (y2 : aa_)).t, .box b4 [i4 y1.Next, t1], .box b2 (aa_.cells a2), .box b1 (aj_.cells a0)] := hH.sel [2, 0, 1, 3, 4] rfl (by kernel_rfl)
 refine aF_ (cs := [i4 y1.Next, t1]) rfl hS hH rfl rfl (by simp [ht1.1, ht1.2]) ?_; intro σ s hH hS
 refine ae_ (sq_n (ao_ ?_))
 injection h with h; subst h
 have hH : Heap σ0 σ [.own true 10 t1 (setS y1.Objects a1 (y2 : aa_)).t, .box b3 [i4 y1.Next, t1], .box b4 [i4 y1.Next, t1], .box b2 (aa_.cells a2), .box b1 (aj_.cells a0)] := hH.sel [1, 0, 2, 3, 4] rfl (by kernel_rfl)
 exact a8_ [t1] [.box b3 [i4 y1.Next, t1], .box b4 [i4 y1.Next, t1], .box b2 (aa_.cells a2), .box b1 (aj_.cells a0)] (bf_ (v := .agg [i4 y1.Next, t1]) hS (hH.at 1 rfl) rfl (by kernel_rfl) r_nil) (by kernel_rfl) rfl hH (by kernel_rfl)
end Go.Am
