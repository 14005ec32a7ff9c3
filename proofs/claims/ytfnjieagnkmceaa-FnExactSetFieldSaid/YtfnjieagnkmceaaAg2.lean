/- Functions of the program. -/
import Derived.Test.YtfnjieagnkmceaaAd0
set_option maxRecDepth 100000
set_option maxHeartbeats 4000000
set_option linter.unusedVariables false
set_option linter.unusedSimpArgs false
namespace Go.Am
open Go.Proofs
noncomputable def eG_ (a0 : ac_) (a1 : Int) : Option Int := (if (decide ((w4 (a1 - (a0.Text.size : Int))) < 0)) = true then (some (-1)) else (some (w4 (a1 - (a0.Text.size : Int)))))
theorem iQ_ (a0 : ac_) (a1 : Int) (r : Int) (h : eG_ a0 a1 = some r) : b0_ a0 a1 = some r := by
 unfold eG_ at h
 refine ax_ E_i64_inj rfl rfl ok_30 rfl (all_cons (by kernel_rfl) (all_cons (by kernel_rfl) all_nil)) ?_
 intro σ0 s hS hH
 have hS := am_ (L' := [(0, .agg (ac_.cells a0)), (1, i4 a1)]) hS (by kernel_rfl)
 refine ad_ (ab_ ?_)
 refine aX_ (v := .agg (ac_.cells a0)) (cs := [i4 a0.Kind, i4 a0.Num, .str a0.Text, i4 a0.Ref]) rfl hS hH rfl rfl (by kernel_rfl) ?_; intro b1 σ s hH hS
 refine qs 1 [(1, i4 a1), (2, .ptr b1 0 0 4)] hS ?_; intro s hS
 refine ae_ (sq_n (ad_ (ab_ ?_)))
 refine qs 2 [(5, i4 a1), (6, .ptr b1 0 2 1)] hS ?_; intro s hS
 refine aj_ (v := .str a0.Text) 0 trivial rfl hS hH rfl rfl (by kernel_rfl) ?_; intro s hS
 refine qs 3 [(1, i4 (w4 (a1 - (a0.Text.size : Int))))] hS ?_; intro s hS
 refine ae_ (sq_n (ad_ (ad_ (ab_ ?_))))
 refine qs 2 [(1, i4 (w4 (a1 - (a0.Text.size : Int)))), (11, .bool (decide ((w4 (a1 - (a0.Text.size : Int))) < 0)))] hS ?_; intro s hS
 refine ae_ (sq_n ?_)
 by_cases hc1 : (decide ((w4 (a1 - (a0.Text.size : Int))) < 0)) = true
 ·have h := ak_ hc1 h
  refine af_ hS rfl (fun _ => ?_) (fun hf => ah_ hc1 hf)
  refine ad_ (ab_ ?_)
  refine qs 1 [(4, i4 (-1))] hS ?_; intro s hS
  refine ae_ (sq_n (ao_ (sq_r ?_)))
  injection h with h; subst h
  exact aq_ hH (an_ (v := i4 (-1)) hS rfl r_nil) rfl (by kernel_rfl) (by simp [pureT, pureL, E_i64])
 ·have h := al_ hc1 h
  refine af_ hS rfl (fun hf => ag_ hc1 hf) (fun _ => ?_)
  refine ar_ (sq_n (ad_ (ab_ ?_)))
  refine qs 2 [(4, i4 (w4 (a1 - (a0.Text.size : Int))))] hS ?_; intro s hS
  refine ae_ (sq_n (ao_ ?_))
  injection h with h; subst h
  exact aq_ hH (an_ (v := i4 (w4 (a1 - (a0.Text.size : Int)))) hS rfl r_nil) rfl (by kernel_rfl) (by simp [pureT, pureL, E_i64])
noncomputable def eD_ (a0 : ac_) : Option ac_ := (some a0)
theorem iK_ (a0 : ac_) (r : ac_) (h : eD_ a0 = some r) : a0_ a0 = some r := by
 unfold eD_ at h
 refine ax_ E_DValue_inj rfl rfl ok_32 rfl (all_cons (by kernel_rfl) all_nil) ?_
 intro σ0 s hS hH
 have hS := am_ (L' := [(0, .agg (ac_.cells a0))]) hS (by kernel_rfl)
 refine ad_ (ab_ ?_)
 refine aX_ (v := .agg (ac_.cells a0)) (cs := [i4 a0.Kind, i4 a0.Num, .str a0.Text, i4 a0.Ref]) rfl hS hH rfl rfl (by kernel_rfl) ?_; intro b1 σ s hH hS
 refine aO_ (z := [i4 0, i4 0, .str ⟨#[]⟩, i4 0]) rfl hS hH (by kernel_rfl) ?_; intro b2 σ s hH hS
 refine ae_ (sq_n (ad_ (ab_ ?_)))
 refine aO_ (z := [i4 0, i4 0, .str ⟨#[]⟩, i4 0]) rfl hS hH (by kernel_rfl) ?_; intro b3 σ s hH hS
 refine ae_ (sq_n (ad_ (ab_ ?_)))
 refine qs 1 [(1, .ptr b1 0 0 4), (2, .ptr b2 0 0 4), (3, .ptr b3 0 0 4), (4, .ptr b1 0 0 1)] hS ?_; intro s hS
 refine aj_ (v := i4 a0.Kind) 2 trivial rfl hS hH rfl rfl (by kernel_rfl) ?_; intro s hS
 refine qs 1 [(1, .ptr b1 0 0 4), (2, .ptr b2 0 0 4), (3, .ptr b3 0 0 4), (5, i4 a0.Kind), (6, .ptr b3 0 0 1)] hS ?_; intro s hS
 refine aW_ (v := i4 a0.Kind) (cs := [i4 a0.Kind]) (cells' := [i4 a0.Kind, i4 0, .str ⟨#[]⟩, i4 0]) rfl hS hH rfl rfl rfl (by kernel_rfl) (by kernel_rfl) ?_; intro σ s hH hS
 refine ae_ (sq_n (ad_ (ab_ ?_)))
 refine qs 1 [(1, .ptr b1 0 0 4), (2, .ptr b2 0 0 4), (3, .ptr b3 0 0 4), (7, .ptr b1 0 1 1)] hS ?_; intro s hS
 refine aj_ (v := i4 a0.Num) 2 trivial rfl hS hH rfl rfl (by kernel_rfl) ?_; intro s hS
 refine qs 1 [(1, .ptr b1 0 0 4), (2, .ptr b2 0 0 4), (3, .ptr b3 0 0 4), (8, i4 a0.Num), (9, .ptr b3 0 1 1)] hS ?_; intro s hS
 refine aW_ (v := i4 a0.Num) (cs := [i4 a0.Num]) (cells' := [i4 a0.Kind, i4 a0.Num, .str ⟨#[]⟩, i4 0]) rfl hS hH rfl rfl rfl (by kernel_rfl) (by kernel_rfl) ?_; intro σ s hH hS
 refine ae_ (sq_n (ad_ (ab_ ?_)))
 refine qs 1 [(1, .ptr b1 0 0 4), (2, .ptr b2 0 0 4), (3, .ptr b3 0 0 4), (10, .ptr b1 0 2 1)] hS ?_; intro s hS
 refine aj_ (v := .str a0.Text) 2 trivial rfl hS hH rfl rfl (by kernel_rfl) ?_; intro s hS
 refine qs 1 [(1, .ptr b1 0 0 4), (2, .ptr b2 0 0 4), (3, .ptr b3 0 0 4), (11, .str a0.Text), (12, .ptr b3 0 2 1)] hS ?_; intro s hS
 refine aW_ (v := .str a0.Text) (cs := [.str a0.Text]) (cells' := [i4 a0.Kind, i4 a0.Num, .str a0.Text, i4 0]) rfl hS hH rfl rfl rfl (by kernel_rfl) (by kernel_rfl) ?_; intro σ s hH hS
 refine ae_ (sq_n (ad_ (ab_ ?_)))
 refine qs 1 [(2, .ptr b2 0 0 4), (3, .ptr b3 0 0 4), (13, .ptr b1 0 3 1)] hS ?_; intro s hS
 refine aj_ (v := i4 a0.Ref) 2 trivial rfl hS hH rfl rfl (by kernel_rfl) ?_; intro s hS
 refine qs 1 [(2, .ptr b2 0 0 4), (3, .ptr b3 0 0 4), (14, i4 a0.Ref), (15, .ptr b3 0 3 1)] hS ?_; intro s hS
 refine aW_ (v := i4 a0.Ref) (cs := [i4 a0.Ref]) (cells' := [i4 a0.Kind, i4 a0.Num, .str a0.Text, i4 a0.Ref]) rfl hS hH rfl rfl rfl (by kernel_rfl) (by kernel_rfl) ?_; intro σ s hH hS
 refine ae_ (sq_n (ad_ (ab_ ?_)))
 refine aj_ (v := .agg (ac_.cells a0)) 0 trivial rfl hS hH rfl rfl (by kernel_rfl) ?_; intro s hS
 have hH : Heap σ0 σ [.box b2 [i4 0, i4 0, .str ⟨#[]⟩, i4 0], .box b3 (ac_.cells a0), .box b1 (ac_.cells a0)] := hH.sel [1, 0, 2] rfl (by kernel_rfl)
 refine aW_ (v := .agg (ac_.cells a0)) (cs := [i4 a0.Kind, i4 a0.Num, .str a0.Text, i4 a0.Ref]) (cells' := [i4 a0.Kind, i4 a0.Num, .str a0.Text, i4 a0.Ref]) rfl hS hH rfl rfl rfl (by kernel_rfl) (by kernel_rfl) ?_; intro σ s hH hS
 refine ae_ (sq_n (ao_ ?_))
 injection h with h; subst h
 exact aq_ hH (bn_ (v := .agg (ac_.cells a0)) hS hH rfl (by kernel_rfl) r_nil) rfl (by kernel_rfl) (by simp [pureT, pureL, E_DValue, ac_.cells])
noncomputable def eH_ (a0 : ac_) (a1 : ac_) : Option Bool := (if (!decide (a0.Kind = a1.Kind)) = true then (some false) else (if (!decide (a0.Num = a1.Num)) = true then (some false) else (if (!decide (a0.Text = a1.Text)) = true then (some false) else (if (!decide (a0.Ref = a1.Ref)) = true then (some false) else (some true)))))
theorem iP_ (a0 : ac_) (a1 : ac_) (r : Bool) (h : eH_ a0 a1 = some r) : ct_ a0 a1 = some r := by
 unfold eH_ at h
 refine ax_ E_bool_inj rfl rfl ok_34 rfl (all_cons (by kernel_rfl) (all_cons (by kernel_rfl) all_nil)) ?_
 intro σ0 s hS hH
 have hS := am_ (L' := [(0, .agg (ac_.cells a0)), (1, .agg (ac_.cells a1))]) hS (by kernel_rfl)
 refine ad_ (ab_ ?_)
 refine aX_ (v := .agg (ac_.cells a0)) (cs := [i4 a0.Kind, i4 a0.Num, .str a0.Text, i4 a0.Ref]) rfl hS hH rfl rfl (by kernel_rfl) ?_; intro b1 σ s hH hS
 refine aX_ (v := .agg (ac_.cells a1)) (cs := [i4 a1.Kind, i4 a1.Num, .str a1.Text, i4 a1.Ref]) rfl hS hH rfl rfl (by kernel_rfl) ?_; intro b2 σ s hH hS
 refine qs 1 [(2, .ptr b1 0 0 4), (3, .ptr b2 0 0 4)] hS ?_; intro s hS
 refine ae_ (sq_n (ad_ (ad_ (ab_ ?_))))
 refine qs 1 [(2, .ptr b1 0 0 4), (3, .ptr b2 0 0 4), (5, .ptr b1 0 0 1)] hS ?_; intro s hS
 refine aj_ (v := i4 a0.Kind) 1 trivial rfl hS hH rfl rfl (by kernel_rfl) ?_; intro s hS
 refine qs 1 [(2, .ptr b1 0 0 4), (3, .ptr b2 0 0 4), (6, i4 a0.Kind), (7, .ptr b2 0 0 1)] hS ?_; intro s hS
 refine aj_ (v := i4 a1.Kind) 0 trivial rfl hS hH rfl rfl (by kernel_rfl) ?_; intro s hS
 refine qs 1 [(2, .ptr b1 0 0 4), (3, .ptr b2 0 0 4), (9, .bool (!decide (a0.Kind = a1.Kind)))] hS ?_; intro s hS
 refine ae_ (sq_n ?_)
 by_cases hc1 : (!decide (a0.Kind = a1.Kind)) = true
 ·have h := ak_ hc1 h
  refine af_ hS rfl (fun _ => ?_) (fun hf => ah_ hc1 hf)
  refine ad_ (ab_ ?_)
  refine qs 1 [(4, .bool false)] hS ?_; intro s hS
  refine ae_ (sq_n (ao_ (sq_r ?_)))
  injection h with h; subst h
  exact aq_ hH (an_ (v := .bool false) hS rfl r_nil) rfl (by kernel_rfl) (by simp [pureT, pureL, E_bool])
 ·have h := al_ hc1 h
  refine af_ hS rfl (fun hf => ag_ hc1 hf) (fun _ => ?_)
  refine ar_ (sq_n (ad_ (ad_ (ab_ ?_))))
  refine qs 1 [(2, .ptr b1 0 0 4), (3, .ptr b2 0 0 4), (10, .ptr b1 0 1 1)] hS ?_; intro s hS
  refine aj_ (v := i4 a0.Num) 1 trivial rfl hS hH rfl rfl (by kernel_rfl) ?_; intro s hS
  refine qs 1 [(2, .ptr b1 0 0 4), (3, .ptr b2 0 0 4), (11, i4 a0.Num), (12, .ptr b2 0 1 1)] hS ?_; intro s hS
  refine aj_ (v := i4 a1.Num) 0 trivial rfl hS hH rfl rfl (by kernel_rfl) ?_; intro s hS
  refine qs 1 [(2, .ptr b1 0 0 4), (3, .ptr b2 0 0 4), (14, .bool (!decide (a0.Num = a1.Num)))] hS ?_; intro s hS
  refine ae_ (sq_n ?_)
  by_cases hc2 : (!decide (a0.Num = a1.Num)) = true
  ·have h := ak_ hc2 h
   refine af_ hS rfl (fun _ => ?_) (fun hf => ah_ hc2 hf)
   refine ad_ (ab_ ?_)
   refine qs 1 [(4, .bool false)] hS ?_; intro s hS
   refine ae_ (sq_n (ao_ (sq_r ?_)))
   injection h with h; subst h
   exact aq_ hH (an_ (v := .bool false) hS rfl r_nil) rfl (by kernel_rfl) (by simp [pureT, pureL, E_bool])
  ·have h := al_ hc2 h
   refine af_ hS rfl (fun hf => ag_ hc2 hf) (fun _ => ?_)
   refine ar_ (sq_n (ad_ (ad_ (ab_ ?_))))
   refine qs 1 [(2, .ptr b1 0 0 4), (3, .ptr b2 0 0 4), (15, .ptr b1 0 2 1)] hS ?_; intro s hS
   refine aj_ (v := .str a0.Text) 1 trivial rfl hS hH rfl rfl (by kernel_rfl) ?_; intro s hS
   refine qs 1 [(2, .ptr b1 0 0 4), (3, .ptr b2 0 0 4), (16, .str a0.Text), (17, .ptr b2 0 2 1)] hS ?_; intro s hS
   refine aj_ (v := .str a1.Text) 0 trivial rfl hS hH rfl rfl (by kernel_rfl) ?_; intro s hS
   refine qs 1 [(2, .ptr b1 0 0 4), (3, .ptr b2 0 0 4), (19, .bool (!decide (a0.Text = a1.Text)))] hS ?_; intro s hS
   refine ae_ (sq_n ?_)
   by_cases hc3 : (!decide (a0.Text = a1.Text)) = true
   ·have h := ak_ hc3 h
    refine af_ hS rfl (fun _ => ?_) (fun hf => ah_ hc3 hf)
    refine ad_ (ab_ ?_)
    refine qs 1 [(4, .bool false)] hS ?_; intro s hS
    refine ae_ (sq_n (ao_ (sq_r ?_)))
    injection h with h; subst h
    exact aq_ hH (an_ (v := .bool false) hS rfl r_nil) rfl (by kernel_rfl) (by simp [pureT, pureL, E_bool])
   ·have h := al_ hc3 h
    refine af_ hS rfl (fun hf => ag_ hc3 hf) (fun _ => ?_)
    refine ar_ (sq_n (ad_ (ad_ (ab_ ?_))))
    refine qs 1 [(3, .ptr b2 0 0 4), (20, .ptr b1 0 3 1)] hS ?_; intro s hS
    refine aj_ (v := i4 a0.Ref) 1 trivial rfl hS hH rfl rfl (by kernel_rfl) ?_; intro s hS
    refine qs 1 [(21, i4 a0.Ref), (22, .ptr b2 0 3 1)] hS ?_; intro s hS
    refine aj_ (v := i4 a1.Ref) 0 trivial rfl hS hH rfl rfl (by kernel_rfl) ?_; intro s hS
    refine qs 1 [(24, .bool (!decide (a0.Ref = a1.Ref)))] hS ?_; intro s hS
    refine ae_ (sq_n ?_)
    by_cases hc4 : (!decide (a0.Ref = a1.Ref)) = true
    ·have h := ak_ hc4 h
     refine af_ hS rfl (fun _ => ?_) (fun hf => ah_ hc4 hf)
     refine ad_ (ab_ ?_)
     refine qs 1 [(4, .bool false)] hS ?_; intro s hS
     refine ae_ (sq_n (ao_ (sq_r ?_)))
     injection h with h; subst h
     exact aq_ hH (an_ (v := .bool false) hS rfl r_nil) rfl (by kernel_rfl) (by simp [pureT, pureL, E_bool])
    ·have h := al_ hc4 h
     refine af_ hS rfl (fun hf => ag_ hc4 hf) (fun _ => ?_)
     refine ar_ (sq_n (ad_ (ab_ ?_)))
     refine qs 1 [(4, .bool true)] hS ?_; intro s hS
     refine ae_ (sq_n (ao_ ?_))
     injection h with h; subst h
     exact aq_ hH (an_ (v := .bool true) hS rfl r_nil) rfl (by kernel_rfl) (by simp [pureT, pureL, E_bool])
noncomputable def cW_ (a0 : ai_) (a1 : ac_) (a2 : ByteArray) (a3 : ac_) : Option (ai_ × Int) := ((fd_ a0 ⟨false, [a1, a3]⟩).bind fun y1 => (if (!y1) = true then (some ((⟨0, ⟨true, []⟩⟩ : ai_), 1)) else (if (!decide (a1.Kind = 6)) = true then (some ((⟨0, ⟨true, []⟩⟩ : ai_), 4)) else ((dY_ a0).bind fun y2 => ((b2_ a0 a1.Ref).bind fun y3 => ((elt y2.Objects y3).bind fun y4 => ((e5_ y4.Keys (⟨1, 0, a2, 0⟩ : ac_)).bind fun y5 => (if (decide (y5 < 0)) = true then (some ((⟨0, ⟨true, []⟩⟩ : ai_), 11)) else ((elt y4.Vals y5).bind fun y6 => (some ((⟨y2.Next, (setS y2.Objects y3 ((⟨y4.Id, y4.Kind, y4.Name, y4.Low, y4.Keys, (setS y4.Vals y5 (a3 : ac_)), y4.Default⟩ : aa_) : aa_))⟩ : ai_), 0)))))))))))
theorem h2_ (a0 : ai_) (a1 : ac_) (a2 : ByteArray) (a3 : ac_) (r : (ai_ × Int)) (h : cW_ a0 a1 a2 a3 = some r) : eh_ a0 a1 a2 a3 = some r := by
 unfold cW_ at h
 refine co_ rfl rfl ok_35 rfl (all_cons (by kernel_rfl) (all_cons (by kernel_rfl) (all_cons (by kernel_rfl) (all_cons (by kernel_rfl) all_nil)))) ?_
 intro σ0 s hS hH
 have hS := am_ (L' := [(0, .agg (ai_.cells a0)), (1, .agg (ac_.cells a1)), (2, .str a2), (3, .agg (ac_.cells a3))]) hS (by kernel_rfl)
 refine ad_ (ab_ ?_)
 refine aX_ (v := .agg (ai_.cells a0)) (cs := [i4 a0.Next, a0.Objects.t]) rfl hS hH rfl rfl (by kernel_rfl) ?_; intro b1 σ s hH hS
 refine aX_ (v := .agg (ac_.cells a1)) (cs := [i4 a1.Kind, i4 a1.Num, .str a1.Text, i4 a1.Ref]) rfl hS hH rfl rfl (by kernel_rfl) ?_; intro b2 σ s hH hS
 refine aX_ (v := .agg (ac_.cells a3)) (cs := [i4 a3.Kind, i4 a3.Num, .str a3.Text, i4 a3.Ref]) rfl hS hH rfl rfl (by kernel_rfl) ?_; intro b3 σ s hH hS
 refine aO_ (z := [i4 0, (nt aa_)]) rfl hS hH (by kernel_rfl) ?_; intro b4 σ s hH hS
 refine qs 1 [(2, .str a2), (4, .ptr b1 0 0 2), (5, .ptr b2 0 0 4), (7, .ptr b3 0 0 4), (8, .ptr b4 0 0 2)] hS ?_; intro s hS
 refine ae_ (sq_n (ad_ (ad_ (ab_ ?_))))
 refine aj_ (v := .agg (ac_.cells a1)) 2 trivial rfl hS hH rfl rfl (by kernel_rfl) ?_; intro s hS
 refine aj_ (v := .agg (ac_.cells a3)) 1 trivial rfl hS hH rfl rfl (by kernel_rfl) ?_; intro s hS
 refine q_bs (ents := []) (e := 28) (sz := 4) (z := true) (vs := [.agg (ac_.cells a1), .agg (ac_.cells a3)]) (zc := [i4 0, i4 0, .str ⟨#[]⟩, i4 0]) (cs := [i4 a1.Kind, i4 a1.Num, .str a1.Text, i4 a1.Ref, i4 a3.Kind, i4 a3.Num, .str a3.Text, i4 a3.Ref]) (us := [i4 a1.Kind, i4 a1.Num, .str a1.Text, i4 a1.Ref, i4 a3.Kind, i4 a3.Num, .str a3.Text, i4 a3.Ref]) (v := Sl.t (⟨false, [a1, a3]⟩ : Sl ac_)) rfl hS hH (by kernel_rfl) (by kernel_rfl) (by kernel_rfl) (by kernel_rfl) (by kernel_rfl) (And.intro (by kernel_rfl) (And.intro (by kernel_rfl) (And.intro (by kernel_rfl) (And.intro (by kernel_rfl) trivial)))) (by kernel_rfl) (HLi (HLi (HLs (HLi (HLi (HLi (HLs (HLi HL.nil)))))))) (by kernel_rfl) ?_; intro t1 σ s ht1 hH hS
 obtain ⟨y1, hy1, h⟩ := bind_some h
 refine oA_ (ents := [.own true 4 t1 (Sl.t (⟨false, [a1, a3]⟩ : Sl ac_))]) (ts := [.ptr b1 0 0 2, t1]) (vs := [.ptr b1 0 0 2, (Sl.t (⟨false, [a1, a3]⟩ : Sl ac_))]) (cs := [[i4 a0.Next, a0.Objects.t]]) [b1] rfl hS rfl rfl rfl hH (HL.leaf (fun σ d => by cases d <;> rfl) (HL.own rfl HL.nil)) rfl (And.intro (Heap.lent (hH.at 4 rfl)) trivial) hy1 (by kernel_rfl) ?_; intro s hS
 refine qs 1 [(2, .str a2), (4, .ptr b1 0 0 2), (5, .ptr b2 0 0 4), (7, .ptr b3 0 0 4), (8, .ptr b4 0 0 2), (17, .bool (!y1))] hS ?_; intro s hS
 refine ae_ (sq_n ?_)
 by_cases hc1 : (!y1) = true
 ·have h := ak_ hc1 h
  refine af_ hS rfl (fun _ => ?_) (fun hf => ah_ hc1 hf)
  refine ad_ (ab_ ?_)
  refine qs 1 [(8, .ptr b4 0 0 2), (18, .agg [i4 0, (nt aa_)])] hS ?_; intro s hS
  have hH : Heap σ0 σ [.box b4 [i4 0, (nt aa_)], .own true 4 t1 (Sl.t (⟨false, [a1, a3]⟩ : Sl ac_)), .box b3 (ac_.cells a3), .box b2 (ac_.cells a1), .box b1 (ai_.cells a0)] := hH.sel [1, 0, 2, 3, 4] rfl (by kernel_rfl)
  refine aH_ (cs := [i4 0, (nt aa_)]) rfl hS hH rfl rfl (by kernel_rfl) ?_; intro σ s hH hS
  refine qs 1 [(8, .ptr b4 0 0 2), (9, i4 1)] hS ?_; intro s hS
  refine ae_ (sq_n (ao_ (sq_r ?_)))
  injection h with h; subst h
  have hH := Heap.addNil hH true 10
  exact bi_ [(T.row true 0 [])] [.box b4 [i4 0, (nt aa_)], .own true 4 t1 (Sl.t (⟨false, [a1, a3]⟩ : Sl ac_)), .box b3 (ac_.cells a3), .box b2 (ac_.cells a1), .box b1 (ai_.cells a0)] (bn_ (v := .agg [i4 0, (nt aa_)]) hS (hH.at 1 rfl) rfl (by kernel_rfl) (an_ (v := i4 1) hS rfl r_nil)) (by kernel_rfl) rfl hH (by kernel_rfl)
 ·have h := al_ hc1 h
  refine af_ hS rfl (fun hf => ag_ hc1 hf) (fun _ => ?_)
  refine ar_ (sq_n (ad_ (ad_ (ab_ ?_))))
  refine qs 1 [(2, .str a2), (4, .ptr b1 0 0 2), (5, .ptr b2 0 0 4), (7, .ptr b3 0 0 4), (8, .ptr b4 0 0 2), (19, .ptr b2 0 0 1)] hS ?_; intro s hS
  refine aj_ (v := i4 a1.Kind) 3 trivial rfl hS hH rfl rfl (by kernel_rfl) ?_; intro s hS
  refine qs 1 [(2, .str a2), (4, .ptr b1 0 0 2), (5, .ptr b2 0 0 4), (7, .ptr b3 0 0 4), (8, .ptr b4 0 0 2), (21, .bool (!decide (a1.Kind = 6)))] hS ?_; intro s hS
  refine ae_ (sq_n ?_)
  by_cases hc2 : (!decide (a1.Kind = 6)) = true
  ·have h := ak_ hc2 h
   refine af_ hS rfl (fun _ => ?_) (fun hf => ah_ hc2 hf)
   refine ad_ (ab_ ?_)
   refine qs 1 [(8, .ptr b4 0 0 2), (22, .agg [i4 0, (nt aa_)])] hS ?_; intro s hS
   have hH : Heap σ0 σ [.box b4 [i4 0, (nt aa_)], .own true 4 t1 (Sl.t (⟨false, [a1, a3]⟩ : Sl ac_)), .box b3 (ac_.cells a3), .box b2 (ac_.cells a1), .box b1 (ai_.cells a0)] := hH.sel [1, 0, 2, 3, 4] rfl (by kernel_rfl)
   refine aH_ (cs := [i4 0, (nt aa_)]) rfl hS hH rfl rfl (by kernel_rfl) ?_; intro σ s hH hS
   refine qs 1 [(8, .ptr b4 0 0 2), (9, i4 4)] hS ?_; intro s hS
   refine ae_ (sq_n (ao_ (sq_r ?_)))
   injection h with h; subst h
   have hH := Heap.addNil hH true 10
   exact bi_ [(T.row true 0 [])] [.box b4 [i4 0, (nt aa_)], .own true 4 t1 (Sl.t (⟨false, [a1, a3]⟩ : Sl ac_)), .box b3 (ac_.cells a3), .box b2 (ac_.cells a1), .box b1 (ai_.cells a0)] (bn_ (v := .agg [i4 0, (nt aa_)]) hS (hH.at 1 rfl) rfl (by kernel_rfl) (an_ (v := i4 4) hS rfl r_nil)) (by kernel_rfl) rfl hH (by kernel_rfl)
  ·have h := al_ hc2 h
   refine af_ hS rfl (fun hf => ag_ hc2 hf) (fun _ => ?_)
   refine ar_ (sq_n (ad_ (ab_ ?_)))
   obtain ⟨y2, hy2, h⟩ := bind_some h
   refine jO_ rfl (xs := [.ptr b1 0 0 2]) (cs := [[i4 a0.Next, a0.Objects.t]]) [b1] rfl hS rfl rfl rfl hH (And.intro (Heap.lent (hH.at 4 rfl)) trivial) hy2 ?_; intro hs σ s hl hH hS
   obtain ⟨t2, rfl⟩ := len1 hl
   have hH : Heap σ0 σ [.own true 10 t2 y2.Objects.t, .own true 4 t1 (Sl.t (⟨false, [a1, a3]⟩ : Sl ac_)), .box b4 [i4 0, (nt aa_)], .box b3 (ac_.cells a3), .box b2 (ac_.cells a1), .box b1 (ai_.cells a0)] := hH
   have ht2 : aT_ t2 := Heap.one hH
   refine aO_ (z := [i4 0, (nt aa_)]) rfl hS hH (by kernel_rfl) ?_; intro b5 σ s hH hS
   refine aH_ (cs := [i4 y2.Next, t2]) rfl hS hH rfl rfl (by simp [ht2.1, ht2.2]) ?_; intro σ s hH hS
   refine ae_ (sq_n (ad_ ?_))
   refine el_ (by kernel_rfl) hH ?_; intro mb σ hH
   refine qs 1 [(2, .str a2), (4, .ptr b1 0 0 2), (5, .ptr b2 0 0 4), (7, .ptr b3 0 0 4), (8, .ptr b4 0 0 2), (10, .ptr b5 0 0 2), (24, .ptr b5 0 1 1)] hS ?_; intro s hS
   refine aj_ (v := t2) 0 trivial rfl hS hH rfl rfl (by kernel_rfl) ?_; intro s hS
   refine qs 1 [(2, .str a2), (4, .ptr b1 0 0 2), (7, .ptr b3 0 0 4), (8, .ptr b4 0 0 2), (10, .ptr b5 0 0 2), (25, t2), (26, .ptr b2 0 3 1)] hS ?_; intro s hS
   refine aj_ (v := i4 a1.Ref) 5 trivial rfl hS hH rfl rfl (by kernel_rfl) ?_; intro s hS
   obtain ⟨y3, hy3, h⟩ := bind_some h
   refine fT_ (xs := [.ptr b1 0 0 2, i4 a1.Ref]) (cs := [[i4 a0.Next, a0.Objects.t]]) [b1] rfl hS rfl rfl rfl (And.intro (Heap.lent (hH.at 6 rfl)) trivial) hy3 ?_; intro s hS
   have hH : Heap σ0 σ [.own true 10 t2 y2.Objects.t, .box b5 [i4 y2.Next, t2], .own true 4 t1 (Sl.t (⟨false, [a1, a3]⟩ : Sl ac_)), .box b4 [i4 0, (nt aa_)], .box b3 (ac_.cells a3), .box b2 (ac_.cells a1), .box b1 (ai_.cells a0)] := hH.sel [1, 0, 2, 3, 4, 5, 6] rfl (by kernel_rfl)
   obtain ⟨y4, hy4, h⟩ := bind_some h
   refine cG_ (a := y2.Objects) (e := 30) (fun _ _ _ _ _ => trivial) rfl hS hH rfl rfl (by kernel_rfl) (by kernel_rfl) hy4 ?_; intro hb1 hb1e s hl_hb1 hS
   refine qs 1 [(2, .str a2), (7, .ptr b3 0 0 4), (8, .ptr b4 0 0 2), (10, .ptr b5 0 0 2), (11, .ptr hb1 hb1e (y3.toNat * Enc.w aa_) (Enc.w aa_))] hS ?_; intro s hS
   refine ae_ (sq_n (ad_ (ab_ ?_)))
   refine qs 2 [(7, .ptr b3 0 0 4), (8, .ptr b4 0 0 2), (10, .ptr b5 0 0 2), (11, .ptr hb1 hb1e (y3.toNat * Enc.w aa_) (Enc.w aa_)), (30, .ptr hb1 hb1e (y3.toNat * Enc.w aa_) (Enc.w aa_)), (31, .str a2)] hS ?_; intro s hS
   refine mw_ [.ptr hb1 hb1e (y3.toNat * Enc.w aa_) (Enc.w aa_), .str a2] rfl hS rfl rfl rfl rfl rfl ok_82 rfl ?_; intro s hS
   have hS := am_ (L' := [(0, .ptr hb1 hb1e (y3.toNat * Enc.w aa_) (Enc.w aa_)), (1, .str a2)]) hS (by kernel_rfl)
   refine ad_ (ab_ ?_)
   refine qs 1 [(0, .ptr hb1 hb1e (y3.toNat * Enc.w aa_) (Enc.w aa_)), (1, .str a2)] hS ?_; intro s hS
   refine ae_ (sq_n (ad_ (ab_ ?_)))
   refine qs 3 [(1, .str a2), (7, .ptr hb1 hb1e (y3.toNat * Enc.w aa_ + 4) 1)] hS ?_; intro s hS
   refine jN_ (a := y2.Objects) (j := y3) (y := y4) (off := 4) (c := [i4 y4.Id, i4 y4.Kind, .str y4.Name, i4 y4.Low, y4.Keys.t, y4.Vals.t, i4 y4.Default.Kind, i4 y4.Default.Num, .str y4.Default.Text, i4 y4.Default.Ref]) (q := (y4.Keys : Sl ac_)) (fun _ _ _ _ _ => trivial) rfl hS hH hl_hb1 rfl hy4 rfl (by kernel_rfl) rfl rfl ?_; intro F1 σk1 t3 s ht3 hH hcl1 hcl1s hcl1p hcl1k hcl1f hS
   refine qs 2 [(8, t3), (10, .agg [i4 1, i4 0, .str a2, i4 0])] hS ?_; intro s hS
   obtain ⟨y5, hy5, h⟩ := bind_some h
   refine eI_ (ents := [.own true 0 t3 y4.Keys.t]) (z := false) (ts := [t3, .agg [i4 1, i4 0, .str a2, i4 0]]) (vs := [y4.Keys.t, .agg [i4 1, i4 0, .str a2, i4 0]]) rfl hS rfl rfl rfl hH (HL.own rfl (HL.agg (es1 := []) (es2 := []) (HLi (HLi (HLs (HLi HL.nil)))) HL.nil)) hy5 (by kernel_rfl) ?_; intro s hS
   refine qs 1 [(4, i4 y5)] hS ?_; intro s hS
   have hH := hcl1s _ _ hH
   have hH : Heap σ0 σ [.own true 10 t2 y2.Objects.t, .box b5 [i4 y2.Next, t2], .own true 4 t1 (Sl.t (⟨false, [a1, a3]⟩ : Sl ac_)), .box b4 [i4 0, (nt aa_)], .box b3 (ac_.cells a3), .box b2 (ac_.cells a1), .box b1 (ai_.cells a0)] := hH
   refine ae_ (sq_n (ao_ ?_))
   refine gN_ (v := i4 y5) (an_ (v := i4 y5) hS rfl r_nil) rfl ?_; intro s hS
   refine qs 1 [(7, .ptr b3 0 0 4), (8, .ptr b4 0 0 2), (10, .ptr b5 0 0 2), (11, .ptr hb1 hb1e (y3.toNat * Enc.w aa_) (Enc.w aa_)), (12, i4 y5)] hS ?_; intro s hS
   refine ae_ (sq_n (ad_ (ad_ (ab_ ?_))))
   refine qs 2 [(7, .ptr b3 0 0 4), (8, .ptr b4 0 0 2), (10, .ptr b5 0 0 2), (11, .ptr hb1 hb1e (y3.toNat * Enc.w aa_) (Enc.w aa_)), (12, i4 y5), (34, .bool (decide (y5 < 0)))] hS ?_; intro s hS
   refine ae_ (sq_n ?_)
   by_cases hc3 : (decide (y5 < 0)) = true
   ·have h := ak_ hc3 h
    refine af_ hS rfl (fun _ => ?_) (fun hf => ah_ hc3 hf)
    refine ad_ (ab_ ?_)
    refine qs 1 [(8, .ptr b4 0 0 2), (35, .agg [i4 0, (nt aa_)])] hS ?_; intro s hS
    have hH : Heap σ0 σ [.box b4 [i4 0, (nt aa_)], .own true 10 t2 y2.Objects.t, .box b5 [i4 y2.Next, t2], .own true 4 t1 (Sl.t (⟨false, [a1, a3]⟩ : Sl ac_)), .box b3 (ac_.cells a3), .box b2 (ac_.cells a1), .box b1 (ai_.cells a0)] := hH.sel [3, 0, 1, 2, 4, 5, 6] rfl (by kernel_rfl)
    refine aH_ (cs := [i4 0, (nt aa_)]) rfl hS hH rfl rfl (by kernel_rfl) ?_; intro σ s hH hS
    refine qs 1 [(8, .ptr b4 0 0 2), (9, i4 11)] hS ?_; intro s hS
    refine ae_ (sq_n (ao_ (sq_r ?_)))
    injection h with h; subst h
    have hH := Heap.addNil hH true 10
    exact bi_ [(T.row true 0 [])] [.box b4 [i4 0, (nt aa_)], .own true 10 t2 y2.Objects.t, .box b5 [i4 y2.Next, t2], .own true 4 t1 (Sl.t (⟨false, [a1, a3]⟩ : Sl ac_)), .box b3 (ac_.cells a3), .box b2 (ac_.cells a1), .box b1 (ai_.cells a0)] (bn_ (v := .agg [i4 0, (nt aa_)]) hS (hH.at 1 rfl) rfl (by kernel_rfl) (an_ (v := i4 11) hS rfl r_nil)) (by kernel_rfl) rfl hH (by kernel_rfl)
   ·have h := al_ hc3 h
    refine af_ hS rfl (fun hf => ag_ hc3 hf) (fun _ => ?_)
    refine ar_ (sq_n (ad_ ?_))
    refine cU_ (W2 (fun _ => False) (fun _ => True)) (fun _ => rfl) (by kernel_rfl) (by kernel_rfl) hH ?_; intro mb σs σ hn0 hlt hlto hH
    refine qs 3 [(7, .ptr b3 0 0 4), (8, .ptr b4 0 0 2), (10, .ptr b5 0 0 2), (12, i4 y5), (38, .ptr hb1 hb1e (y3.toNat * Enc.w aa_ + 5) 1)] hS ?_; intro s hS
    refine jN_ (a := y2.Objects) (j := y3) (y := y4) (off := 5) (c := [i4 y4.Id, i4 y4.Kind, .str y4.Name, i4 y4.Low, y4.Keys.t, y4.Vals.t, i4 y4.Default.Kind, i4 y4.Default.Num, .str y4.Default.Text, i4 y4.Default.Ref]) (q := (y4.Vals : Sl ac_)) (fun _ _ _ _ _ => Or.inl (by kernel_rfl)) rfl hS hH hl_hb1 rfl hy4 rfl (by kernel_rfl) rfl rfl ?_; intro F2 σk2 t4 s ht4 hH hcl2 hcl2s hcl2p hcl2k hcl2f hS
    refine qs 1 [(7, .ptr b3 0 0 4), (8, .ptr b4 0 0 2), (10, .ptr b5 0 0 2), (39, t4), (40, i4 y5)] hS ?_; intro s hS
    refine aj_ (v := .agg (ac_.cells a3)) 5 (Or.inl (by kernel_rfl)) rfl hS hH rfl rfl (by kernel_rfl) ?_; intro s hS
    obtain ⟨y6, hy6, h⟩ := bind_some h
    refine cG_ (a := y4.Vals) (e := 28) (fun _ _ _ _ _ => Or.inl (by kernel_rfl)) rfl hS hH rfl rfl (by kernel_rfl) (by kernel_rfl) hy6 ?_; intro hb2 hb2e s hl_hb2 hS
    refine h5_ rfl (ents := []) (a := y4.Vals) (j := y5) (y := y6) (y' := (a3 : ac_)) (off := 0) (c := [i4 y6.Kind, i4 y6.Num, .str y6.Text, i4 y6.Ref]) (us := [i4 a3.Kind, i4 a3.Num, .str a3.Text, i4 a3.Ref]) (vs := [i4 a3.Kind, i4 a3.Num, .str a3.Text, i4 a3.Ref]) (v := .agg (ac_.cells a3)) (by exact Or.inr ⟨false, by kernel_rfl, trivial⟩) rfl hS hH hl_hb2 rfl rfl rfl (by kernel_rfl) (by kernel_rfl) rfl hy6 rfl (HLi (HLi (HLs (HLi HL.nil)))) rfl (by kernel_rfl) ?_; intro σ s hH hS
    have hH := hcl2 _ _ _ ((⟨y4.Id, y4.Kind, y4.Name, y4.Low, y4.Keys, (setS y4.Vals y5 (a3 : ac_)), y4.Default⟩ : aa_) : aa_) rfl hH
    have hH : Heap σ0 σ [.own true 10 t2 (setS y2.Objects y3 ((⟨y4.Id, y4.Kind, y4.Name, y4.Low, y4.Keys, (setS y4.Vals y5 (a3 : ac_)), y4.Default⟩ : aa_) : aa_)).t, .box b5 [i4 y2.Next, t2], .own true 4 t1 (Sl.t (⟨false, [a1, a3]⟩ : Sl ac_)), .box b4 [i4 0, (nt aa_)], .box b3 (ac_.cells a3), .box b2 (ac_.cells a1), .box b1 (ai_.cells a0)] := hH
    refine ae_ (sq_n (ad_ (ab_ ?_)))
    refine aj_ (v := .agg [i4 y2.Next, t2]) 1 trivial rfl hS hH rfl rfl (by kernel_rfl) ?_; intro s hS
    have hH : Heap σ0 σ [.box b4 [i4 0, (nt aa_)], .own true 10 t2 (setS y2.Objects y3 ((⟨y4.Id, y4.Kind, y4.Name, y4.Low, y4.Keys, (setS y4.Vals y5 (a3 : ac_)), y4.Default⟩ : aa_) : aa_)).t, .box b5 [i4 y2.Next, t2], .own true 4 t1 (Sl.t (⟨false, [a1, a3]⟩ : Sl ac_)), .box b3 (ac_.cells a3), .box b2 (ac_.cells a1), .box b1 (ai_.cells a0)] := hH.sel [3, 0, 1, 2, 4, 5, 6] rfl (by kernel_rfl)
    refine aH_ (cs := [i4 y2.Next, t2]) rfl hS hH rfl rfl (by simp [ht2.1, ht2.2]) ?_; intro σ s hH hS
    refine qs 1 [(8, .ptr b4 0 0 2), (9, i4 0)] hS ?_; intro s hS
    refine ae_ (sq_n (ao_ ?_))
    injection h with h; subst h
    have hH : Heap σ0 σ [.own true 10 t2 (setS y2.Objects y3 ((⟨y4.Id, y4.Kind, y4.Name, y4.Low, y4.Keys, (setS y4.Vals y5 (a3 : ac_)), y4.Default⟩ : aa_) : aa_)).t, .box b4 [i4 y2.Next, t2], .box b5 [i4 y2.Next, t2], .own true 4 t1 (Sl.t (⟨false, [a1, a3]⟩ : Sl ac_)), .box b3 (ac_.cells a3), .box b2 (ac_.cells a1), .box b1 (ai_.cells a0)] := hH.sel [1, 0, 2, 3, 4, 5, 6] rfl (by kernel_rfl)
    exact bi_ [t2] [.box b4 [i4 y2.Next, t2], .box b5 [i4 y2.Next, t2], .own true 4 t1 (Sl.t (⟨false, [a1, a3]⟩ : Sl ac_)), .box b3 (ac_.cells a3), .box b2 (ac_.cells a1), .box b1 (ai_.cells a0)] (bn_ (v := .agg [i4 y2.Next, t2]) hS (hH.at 1 rfl) rfl (by kernel_rfl) (an_ (v := i4 0) hS rfl r_nil)) (by kernel_rfl) rfl hH (by kernel_rfl)
noncomputable def cV_ (a0 : ai_) (a1 : ac_) (a2 : ByteArray) (a3 : ac_) : Option (ai_ × Int) := ((eX_ a0 ⟨false, [a1, a3]⟩).bind fun y1 => (if (!decide (y1 = 0)) = true then (some ((⟨0, ⟨true, []⟩⟩ : ai_), y1)) else ((bZ_ a0 a1 a2).bind fun y2 => (if (!decide (y2.2.2 = 0)) = true then (some ((⟨0, ⟨true, []⟩⟩ : ai_), y2.2.2)) else ((elt a0.Objects y2.1).bind fun y3 => ((aS_ y3).bind fun y4 => ((elt y4.Vals y2.2.1).bind fun y5 => ((en_ a0 y2.1 (⟨y4.Id, y4.Kind, y4.Name, y4.Low, y4.Keys, (setS y4.Vals y2.2.1 (a3 : ac_)), y4.Default⟩ : aa_)).bind fun y6 => (some (y6, 0))))))))))
theorem in_ (a0 : ai_) (a1 : ac_) (a2 : ByteArray) (a3 : ac_) (r : (ai_ × Int)) (h : cV_ a0 a1 a2 a3 = some r) : c6_ a0 a1 a2 a3 = some r := by
 unfold cV_ at h
 refine co_ rfl rfl ok_36 rfl (all_cons (by kernel_rfl) (all_cons (by kernel_rfl) (all_cons (by kernel_rfl) (all_cons (by kernel_rfl) all_nil)))) ?_
 intro σ0 s hS hH
 have hS := am_ (L' := [(0, .agg (ai_.cells a0)), (1, .agg (ac_.cells a1)), (2, .str a2), (3, .agg (ac_.cells a3))]) hS (by kernel_rfl)
 refine ad_ (ab_ ?_)
 refine aX_ (v := .agg (ai_.cells a0)) (cs := [i4 a0.Next, a0.Objects.t]) rfl hS hH rfl rfl (by kernel_rfl) ?_; intro b1 σ s hH hS
 refine aX_ (v := .agg (ac_.cells a1)) (cs := [i4 a1.Kind, i4 a1.Num, .str a1.Text, i4 a1.Ref]) rfl hS hH rfl rfl (by kernel_rfl) ?_; intro b2 σ s hH hS
 refine aX_ (v := .agg (ac_.cells a3)) (cs := [i4 a3.Kind, i4 a3.Num, .str a3.Text, i4 a3.Ref]) rfl hS hH rfl rfl (by kernel_rfl) ?_; intro b3 σ s hH hS
 refine aO_ (z := [i4 0, (nt aa_)]) rfl hS hH (by kernel_rfl) ?_; intro b4 σ s hH hS
 refine qs 1 [(2, .str a2), (4, .ptr b1 0 0 2), (5, .ptr b2 0 0 4), (7, .ptr b3 0 0 4), (8, .ptr b4 0 0 2)] hS ?_; intro s hS
 refine ae_ (sq_n (ad_ (ad_ (ab_ ?_))))
 refine aj_ (v := .agg (ai_.cells a0)) 3 trivial rfl hS hH rfl rfl (by kernel_rfl) ?_; intro s hS
 refine aj_ (v := .agg (ac_.cells a1)) 2 trivial rfl hS hH rfl rfl (by kernel_rfl) ?_; intro s hS
 refine aj_ (v := .agg (ac_.cells a3)) 1 trivial rfl hS hH rfl rfl (by kernel_rfl) ?_; intro s hS
 refine q_bs (ents := []) (e := 28) (sz := 4) (z := true) (vs := [.agg (ac_.cells a1), .agg (ac_.cells a3)]) (zc := [i4 0, i4 0, .str ⟨#[]⟩, i4 0]) (cs := [i4 a1.Kind, i4 a1.Num, .str a1.Text, i4 a1.Ref, i4 a3.Kind, i4 a3.Num, .str a3.Text, i4 a3.Ref]) (us := [i4 a1.Kind, i4 a1.Num, .str a1.Text, i4 a1.Ref, i4 a3.Kind, i4 a3.Num, .str a3.Text, i4 a3.Ref]) (v := Sl.t (⟨false, [a1, a3]⟩ : Sl ac_)) rfl hS hH (by kernel_rfl) (by kernel_rfl) (by kernel_rfl) (by kernel_rfl) (by kernel_rfl) (And.intro (by kernel_rfl) (And.intro (by kernel_rfl) (And.intro (by kernel_rfl) (And.intro (by kernel_rfl) trivial)))) (by kernel_rfl) (HLi (HLi (HLs (HLi (HLi (HLi (HLs (HLi HL.nil)))))))) (by kernel_rfl) ?_; intro t1 σ s ht1 hH hS
 obtain ⟨y1, hy1, h⟩ := bind_some h
 refine eI_ (ents := [.own true 4 t1 (Sl.t (⟨false, [a1, a3]⟩ : Sl ac_))]) (z := false) (ts := [.agg (ai_.cells a0), t1]) (vs := [.agg (ai_.cells a0), (Sl.t (⟨false, [a1, a3]⟩ : Sl ac_))]) rfl hS rfl rfl rfl hH (HL.agg (es1 := []) (es2 := [.own true 4 t1 (Sl.t (⟨false, [a1, a3]⟩ : Sl ac_))]) (HLi (HLp HL.nil)) (HL.own rfl HL.nil)) hy1 (by kernel_rfl) ?_; intro s hS
 refine qs 1 [(2, .str a2), (4, .ptr b1 0 0 2), (5, .ptr b2 0 0 4), (7, .ptr b3 0 0 4), (8, .ptr b4 0 0 2), (10, i4 y1)] hS ?_; intro s hS
 refine ae_ (sq_n (ad_ (ab_ ?_)))
 refine qs 2 [(2, .str a2), (4, .ptr b1 0 0 2), (5, .ptr b2 0 0 4), (7, .ptr b3 0 0 4), (8, .ptr b4 0 0 2), (10, i4 y1), (21, .bool (!decide (y1 = 0)))] hS ?_; intro s hS
 refine ae_ (sq_n ?_)
 by_cases hc1 : (!decide (y1 = 0)) = true
 ·have h := ak_ hc1 h
  refine af_ hS rfl (fun _ => ?_) (fun hf => ah_ hc1 hf)
  refine ad_ (ab_ ?_)
  refine qs 2 [(8, .ptr b4 0 0 2), (22, .agg [i4 0, (nt aa_)]), (23, i4 y1)] hS ?_; intro s hS
  have hH : Heap σ0 σ [.box b4 [i4 0, (nt aa_)], .own true 4 t1 (Sl.t (⟨false, [a1, a3]⟩ : Sl ac_)), .box b3 (ac_.cells a3), .box b2 (ac_.cells a1), .box b1 (ai_.cells a0)] := hH.sel [1, 0, 2, 3, 4] rfl (by kernel_rfl)
  refine aH_ (cs := [i4 0, (nt aa_)]) rfl hS hH rfl rfl (by kernel_rfl) ?_; intro σ s hH hS
  refine qs 1 [(8, .ptr b4 0 0 2), (9, i4 y1)] hS ?_; intro s hS
  refine ae_ (sq_n (ao_ (sq_r ?_)))
  injection h with h; subst h
  have hH := Heap.addNil hH true 10
  exact bi_ [(T.row true 0 [])] [.box b4 [i4 0, (nt aa_)], .own true 4 t1 (Sl.t (⟨false, [a1, a3]⟩ : Sl ac_)), .box b3 (ac_.cells a3), .box b2 (ac_.cells a1), .box b1 (ai_.cells a0)] (bn_ (v := .agg [i4 0, (nt aa_)]) hS (hH.at 1 rfl) rfl (by kernel_rfl) (an_ (v := i4 y1) hS rfl r_nil)) (by kernel_rfl) rfl hH (by kernel_rfl)
 ·have h := al_ hc1 h
  refine af_ hS rfl (fun hf => ag_ hc1 hf) (fun _ => ?_)
  refine ar_ (sq_n (ad_ (ab_ ?_)))
  refine aj_ (v := .agg (ai_.cells a0)) 4 trivial rfl hS hH rfl rfl (by kernel_rfl) ?_; intro s hS
  refine aj_ (v := .agg (ac_.cells a1)) 3 trivial rfl hS hH rfl rfl (by kernel_rfl) ?_; intro s hS
  refine qs 1 [(4, .ptr b1 0 0 2), (7, .ptr b3 0 0 4), (8, .ptr b4 0 0 2), (25, .agg (ai_.cells a0)), (26, .agg (ac_.cells a1)), (27, .str a2)] hS ?_; intro s hS
  obtain ⟨y2, hy2, h⟩ := bind_some h
  refine as_ (a := []) (b := []) (xs := [.agg (ai_.cells a0), .agg (ac_.cells a1), .str a2]) rfl hS rfl rfl hy2 ?_; intro s hS
  refine qs 7 [(4, .ptr b1 0 0 2), (7, .ptr b3 0 0 4), (8, .ptr b4 0 0 2), (11, i4 y2.1), (12, i4 y2.2.1), (13, i4 y2.2.2)] hS ?_; intro s hS
  refine ae_ (sq_n (ad_ (ad_ (ab_ ?_))))
  refine qs 2 [(4, .ptr b1 0 0 2), (7, .ptr b3 0 0 4), (8, .ptr b4 0 0 2), (11, i4 y2.1), (12, i4 y2.2.1), (13, i4 y2.2.2), (33, .bool (!decide (y2.2.2 = 0)))] hS ?_; intro s hS
  refine ae_ (sq_n ?_)
  by_cases hc2 : (!decide (y2.2.2 = 0)) = true
  ·have h := ak_ hc2 h
   refine af_ hS rfl (fun _ => ?_) (fun hf => ah_ hc2 hf)
   refine ad_ (ab_ ?_)
   refine qs 2 [(8, .ptr b4 0 0 2), (34, .agg [i4 0, (nt aa_)]), (35, i4 y2.2.2)] hS ?_; intro s hS
   have hH : Heap σ0 σ [.box b4 [i4 0, (nt aa_)], .own true 4 t1 (Sl.t (⟨false, [a1, a3]⟩ : Sl ac_)), .box b3 (ac_.cells a3), .box b2 (ac_.cells a1), .box b1 (ai_.cells a0)] := hH.sel [1, 0, 2, 3, 4] rfl (by kernel_rfl)
   refine aH_ (cs := [i4 0, (nt aa_)]) rfl hS hH rfl rfl (by kernel_rfl) ?_; intro σ s hH hS
   refine qs 1 [(8, .ptr b4 0 0 2), (9, i4 y2.2.2)] hS ?_; intro s hS
   refine ae_ (sq_n (ao_ (sq_r ?_)))
   injection h with h; subst h
   have hH := Heap.addNil hH true 10
   exact bi_ [(T.row true 0 [])] [.box b4 [i4 0, (nt aa_)], .own true 4 t1 (Sl.t (⟨false, [a1, a3]⟩ : Sl ac_)), .box b3 (ac_.cells a3), .box b2 (ac_.cells a1), .box b1 (ai_.cells a0)] (bn_ (v := .agg [i4 0, (nt aa_)]) hS (hH.at 1 rfl) rfl (by kernel_rfl) (an_ (v := i4 y2.2.2) hS rfl r_nil)) (by kernel_rfl) rfl hH (by kernel_rfl)
  ·have h := al_ hc2 h
   refine af_ hS rfl (fun hf => ag_ hc2 hf) (fun _ => ?_)
   refine ar_ (sq_n (ad_ (ab_ ?_)))
   refine qs 1 [(4, .ptr b1 0 0 2), (7, .ptr b3 0 0 4), (8, .ptr b4 0 0 2), (11, i4 y2.1), (12, i4 y2.2.1), (36, .ptr b1 0 1 1)] hS ?_; intro s hS
   refine aj_ (v := a0.Objects.t) 4 trivial rfl hS hH rfl rfl (by kernel_rfl) ?_; intro s hS
   refine qs 1 [(4, .ptr b1 0 0 2), (7, .ptr b3 0 0 4), (8, .ptr b4 0 0 2), (11, i4 y2.1), (12, i4 y2.2.1), (37, a0.Objects.t), (38, i4 y2.1)] hS ?_; intro s hS
   obtain ⟨y3, hy3, h⟩ := bind_some h
   refine bc_ (sl := a0.Objects) (e := 30) [i4 y3.Id, i4 y3.Kind, .str y3.Name, i4 y3.Low, y3.Keys.t, y3.Vals.t, i4 y3.Default.Kind, i4 y3.Default.Num, .str y3.Default.Text, i4 y3.Default.Ref] rfl hS rfl rfl (by kernel_rfl) (by kernel_rfl) hy3 rfl ?_; intro rest1 s hS
   refine qs 1 [(4, .ptr b1 0 0 2), (7, .ptr b3 0 0 4), (8, .ptr b4 0 0 2), (11, i4 y2.1), (12, i4 y2.2.1), (40, .agg (aa_.cells y3))] hS ?_; intro s hS
   obtain ⟨y4, hy4, h⟩ := bind_some h
   refine a6_ (ents := []) (z := false) (ts := [.agg (aa_.cells y3)]) (vs := [.agg (aa_.cells y3)]) rfl rfl hS rfl rfl rfl hH (HL.agg (es1 := []) (es2 := []) (HLi (HLi (HLs (HLi (HLp (HLp (HLi (HLi (HLs (HLi HL.nil)))))))))) HL.nil) hy4 ?_; intro hs σ s hl hH hS
   obtain ⟨t2, t3, rfl⟩ := len2 hl
   have hH : Heap σ0 σ [.own true 4 t2 y4.Keys.t, .own true 4 t3 y4.Vals.t, .own true 4 t1 (Sl.t (⟨false, [a1, a3]⟩ : Sl ac_)), .box b4 [i4 0, (nt aa_)], .box b3 (ac_.cells a3), .box b2 (ac_.cells a1), .box b1 (ai_.cells a0)] := hH
   have ht2 : aT_ t2 := Heap.one hH
   have ht3 : aT_ t3 := Heap.one (hH.at 1 rfl)
   refine aO_ (z := [i4 0, i4 0, .str ⟨#[]⟩, i4 0, (nt ac_), (nt ac_), i4 0, i4 0, .str ⟨#[]⟩, i4 0]) rfl hS hH (by kernel_rfl) ?_; intro b5 σ s hH hS
   refine aH_ (cs := [i4 y4.Id, i4 y4.Kind, .str y4.Name, i4 y4.Low, t2, t3, i4 y4.Default.Kind, i4 y4.Default.Num, .str y4.Default.Text, i4 y4.Default.Ref]) rfl hS hH rfl rfl (by simp [ht2.1, ht2.2, ht3.1, ht3.2]) ?_; intro σ s hH hS
   refine ae_ (sq_n (ad_ (ab_ ?_)))
   refine qs 1 [(4, .ptr b1 0 0 2), (7, .ptr b3 0 0 4), (8, .ptr b4 0 0 2), (11, i4 y2.1), (12, i4 y2.2.1), (14, .ptr b5 0 0 10), (42, .ptr b5 0 5 1)] hS ?_; intro s hS
   refine aj_ (v := t3) 0 trivial rfl hS hH rfl rfl (by kernel_rfl) ?_; intro s hS
   refine qs 1 [(4, .ptr b1 0 0 2), (7, .ptr b3 0 0 4), (8, .ptr b4 0 0 2), (11, i4 y2.1), (14, .ptr b5 0 0 10), (43, t3), (44, i4 y2.2.1)] hS ?_; intro s hS
   refine aj_ (v := .agg (ac_.cells a3)) 5 trivial rfl hS hH rfl rfl (by kernel_rfl) ?_; intro s hS
   have hH : Heap σ0 σ [.own true 4 t3 y4.Vals.t, .box b5 [i4 y4.Id, i4 y4.Kind, .str y4.Name, i4 y4.Low, t2, t3, i4 y4.Default.Kind, i4 y4.Default.Num, .str y4.Default.Text, i4 y4.Default.Ref], .own true 4 t2 y4.Keys.t, .own true 4 t1 (Sl.t (⟨false, [a1, a3]⟩ : Sl ac_)), .box b4 [i4 0, (nt aa_)], .box b3 (ac_.cells a3), .box b2 (ac_.cells a1), .box b1 (ai_.cells a0)] := hH.sel [2, 0, 1, 3, 4, 5, 6, 7] rfl (by kernel_rfl)
   obtain ⟨y5, hy5, h⟩ := bind_some h
   refine cG_ (a := y4.Vals) (e := 28) (fun _ _ _ _ _ => trivial) rfl hS hH rfl rfl (by kernel_rfl) (by kernel_rfl) hy5 ?_; intro hb1 hb1e s hl_hb1 hS
   refine bT_ (ents := []) (a := y4.Vals) (j := y2.2.1) (y := y5) (y' := (a3 : ac_)) (off := 0) (c := [i4 y5.Kind, i4 y5.Num, .str y5.Text, i4 y5.Ref]) (us := [i4 a3.Kind, i4 a3.Num, .str a3.Text, i4 a3.Ref]) (vs := [i4 a3.Kind, i4 a3.Num, .str a3.Text, i4 a3.Ref]) (v := .agg (ac_.cells a3)) rfl hS hH hl_hb1 rfl rfl rfl (by kernel_rfl) (by kernel_rfl) rfl hy5 rfl (HLi (HLi (HLs (HLi HL.nil)))) rfl (by kernel_rfl) ?_; intro σ s hH hS
   refine ae_ (sq_n (ad_ (ab_ ?_)))
   refine aj_ (v := .agg (ai_.cells a0)) 7 trivial rfl hS hH rfl rfl (by kernel_rfl) ?_; intro s hS
   refine qs 1 [(8, .ptr b4 0 0 2), (14, .ptr b5 0 0 10), (47, .agg (ai_.cells a0)), (48, i4 y2.1)] hS ?_; intro s hS
   refine aj_ (v := .agg [i4 y4.Id, i4 y4.Kind, .str y4.Name, i4 y4.Low, t2, t3, i4 y4.Default.Kind, i4 y4.Default.Num, .str y4.Default.Text, i4 y4.Default.Ref]) 1 trivial rfl hS hH rfl rfl (by kernel_rfl) ?_; intro s hS
   obtain ⟨y6, hy6, h⟩ := bind_some h
   have hH : Heap σ0 σ [.own true 4 t2 y4.Keys.t, .own true 4 t3 (setS y4.Vals y2.2.1 (a3 : ac_)).t, .box b5 [i4 y4.Id, i4 y4.Kind, .str y4.Name, i4 y4.Low, t2, t3, i4 y4.Default.Kind, i4 y4.Default.Num, .str y4.Default.Text, i4 y4.Default.Ref], .own true 4 t1 (Sl.t (⟨false, [a1, a3]⟩ : Sl ac_)), .box b4 [i4 0, (nt aa_)], .box b3 (ac_.cells a3), .box b2 (ac_.cells a1), .box b1 (ai_.cells a0)] := hH.sel [2, 0, 1, 3, 4, 5, 6, 7] rfl (by kernel_rfl)
   refine a6_ (ents := [.own true 4 t2 y4.Keys.t, .own true 4 t3 (setS y4.Vals y2.2.1 (a3 : ac_)).t]) (z := false) (ts := [.agg (ai_.cells a0), i4 y2.1, .agg [i4 y4.Id, i4 y4.Kind, .str y4.Name, i4 y4.Low, t2, t3, i4 y4.Default.Kind, i4 y4.Default.Num, .str y4.Default.Text, i4 y4.Default.Ref]]) (vs := [.agg (ai_.cells a0), i4 y2.1, .agg [i4 y4.Id, i4 y4.Kind, .str y4.Name, i4 y4.Low, y4.Keys.t, (setS y4.Vals y2.2.1 (a3 : ac_)).t, i4 y4.Default.Kind, i4 y4.Default.Num, .str y4.Default.Text, i4 y4.Default.Ref]]) rfl rfl hS rfl rfl rfl hH (HL.agg (es1 := []) (es2 := [.own true 4 t2 y4.Keys.t, .own true 4 t3 (setS y4.Vals y2.2.1 (a3 : ac_)).t]) (HLi (HLp HL.nil)) (HLi (HL.agg (es1 := [.own true 4 t2 y4.Keys.t, .own true 4 t3 (setS y4.Vals y2.2.1 (a3 : ac_)).t]) (es2 := []) (HLi (HLi (HLs (HLi (HL.own rfl (HL.own rfl (HLi (HLi (HLs (HLi HL.nil)))))))))) HL.nil))) hy6 ?_; intro hs σ s hl hH hS
   obtain ⟨t4, rfl⟩ := len1 hl
   have hH : Heap σ0 σ [.own true 10 t4 y6.Objects.t, .own true 4 t2 y4.Keys.t, .own true 4 t3 (setS y4.Vals y2.2.1 (a3 : ac_)).t, .box b5 [i4 y4.Id, i4 y4.Kind, .str y4.Name, i4 y4.Low, t2, t3, i4 y4.Default.Kind, i4 y4.Default.Num, .str y4.Default.Text, i4 y4.Default.Ref], .own true 4 t1 (Sl.t (⟨false, [a1, a3]⟩ : Sl ac_)), .box b4 [i4 0, (nt aa_)], .box b3 (ac_.cells a3), .box b2 (ac_.cells a1), .box b1 (ai_.cells a0)] := hH
   have ht4 : aT_ t4 := Heap.one hH
   have hH : Heap σ0 σ [.box b4 [i4 0, (nt aa_)], .own true 10 t4 y6.Objects.t, .own true 4 t2 y4.Keys.t, .own true 4 t3 (setS y4.Vals y2.2.1 (a3 : ac_)).t, .box b5 [i4 y4.Id, i4 y4.Kind, .str y4.Name, i4 y4.Low, t2, t3, i4 y4.Default.Kind, i4 y4.Default.Num, .str y4.Default.Text, i4 y4.Default.Ref], .own true 4 t1 (Sl.t (⟨false, [a1, a3]⟩ : Sl ac_)), .box b3 (ac_.cells a3), .box b2 (ac_.cells a1), .box b1 (ai_.cells a0)] := hH.sel [5, 0, 1, 2, 3, 4, 6, 7, 8] rfl (by kernel_rfl)
   refine aH_ (cs := [i4 y6.Next, t4]) rfl hS hH rfl rfl (by simp [ht4.1, ht4.2]) ?_; intro σ s hH hS
   refine qs 1 [(8, .ptr b4 0 0 2), (9, i4 0)] hS ?_; intro s hS
   refine ae_ (sq_n (ao_ ?_))
   injection h with h; subst h
   have hH : Heap σ0 σ [.own true 10 t4 y6.Objects.t, .box b4 [i4 y6.Next, t4], .own true 4 t2 y4.Keys.t, .own true 4 t3 (setS y4.Vals y2.2.1 (a3 : ac_)).t, .box b5 [i4 y4.Id, i4 y4.Kind, .str y4.Name, i4 y4.Low, t2, t3, i4 y4.Default.Kind, i4 y4.Default.Num, .str y4.Default.Text, i4 y4.Default.Ref], .own true 4 t1 (Sl.t (⟨false, [a1, a3]⟩ : Sl ac_)), .box b3 (ac_.cells a3), .box b2 (ac_.cells a1), .box b1 (ai_.cells a0)] := hH.sel [1, 0, 2, 3, 4, 5, 6, 7, 8] rfl (by kernel_rfl)
   exact bi_ [t4] [.box b4 [i4 y6.Next, t4], .own true 4 t2 y4.Keys.t, .own true 4 t3 (setS y4.Vals y2.2.1 (a3 : ac_)).t, .box b5 [i4 y4.Id, i4 y4.Kind, .str y4.Name, i4 y4.Low, t2, t3, i4 y4.Default.Kind, i4 y4.Default.Num, .str y4.Default.Text, i4 y4.Default.Ref], .own true 4 t1 (Sl.t (⟨false, [a1, a3]⟩ : Sl ac_)), .box b3 (ac_.cells a3), .box b2 (ac_.cells a1), .box b1 (ai_.cells a0)] (bn_ (v := .agg [i4 y6.Next, t4]) hS (hH.at 1 rfl) rfl (by kernel_rfl) (an_ (v := i4 0) hS rfl r_nil)) (by kernel_rfl) rfl hH (by kernel_rfl)
noncomputable def ea_ (a0 : (Sl ac_)) (a1 : Int) : Option Int := (if (decide ((w4 (a1 - (a0.l.length : Int))) < 0)) = true then (some (-1)) else ((aM_ (S := (Int × Int)) (R := (Int ⊕ Int)) (fun st1 => (if (decide (st1.2 < (a0.l.length : Int))) = true then ((elt a0 st1.2).bind fun y2 => ((b0_ y2 st1.1).bind fun y3 => (if (decide (y3 < 0)) = true then (some (.inr (.inr (-1)))) else (some (.inl (y3, (w4 (st1.2 + 1)))))))) else (some (.inr (.inl st1.1))))) ((w4 (a1 - (a0.l.length : Int))), 0)).bind fun y1 => (Sum.elim (fun y1 => (some y1)) (fun y1 => (some y1)) y1)))
theorem iv_ (a0 : (Sl ac_)) (a1 : Int) (r : Int) (h : ea_ a0 a1 = some r) : cY_ a0 a1 = some r := by
 unfold ea_ at h
 refine ax_ E_i64_inj rfl rfl ok_43 rfl (all_cons (by kernel_rfl) (all_cons (by kernel_rfl) all_nil)) ?_
 intro σ0 s hS hH
 have hS := am_ (L' := [(0, a0.t), (1, i4 a1)]) hS (by kernel_rfl)
 refine ad_ (ab_ ?_)
 refine qs 1 [(0, a0.t), (1, i4 a1)] hS ?_; intro s hS
 refine ae_ (sq_n (ad_ (ab_ ?_)))
 refine qs 5 [(0, a0.t), (1, i4 (w4 (a1 - (a0.l.length : Int))))] hS ?_; intro s hS
 refine ae_ (sq_n (ad_ (ad_ (ab_ ?_))))
 refine qs 2 [(0, a0.t), (1, i4 (w4 (a1 - (a0.l.length : Int)))), (11, .bool (decide ((w4 (a1 - (a0.l.length : Int))) < 0)))] hS ?_; intro s hS
 refine ae_ (sq_n ?_)
 by_cases hc1 : (decide ((w4 (a1 - (a0.l.length : Int))) < 0)) = true
 ·have h := ak_ hc1 h
  refine af_ hS rfl (fun _ => ?_) (fun hf => ah_ hc1 hf)
  refine ad_ (ab_ ?_)
  refine qs 1 [(4, i4 (-1))] hS ?_; intro s hS
  refine ae_ (sq_n (ao_ (sq_r ?_)))
  injection h with h; subst h
  exact aq_ hH (an_ (v := i4 (-1)) hS rfl r_nil) rfl (by kernel_rfl) (by simp [pureT, pureL, E_i64])
 ·have h := al_ hc1 h
  refine af_ hS rfl (fun hf => ag_ hc1 hf) (fun _ => ?_)
  refine ar_ (sq_n (ad_ (ad_ (ab_ ?_))))
  refine qs 1 [(0, a0.t), (1, i4 (w4 (a1 - (a0.l.length : Int)))), (5, i4 0)] hS ?_; intro s hS
  refine ae_ (sq_n (aw_ ?_))
  obtain ⟨y1, hy1, h⟩ := bind_some h
  refine ba_ (fun (st1 : (Int × Int)) (fr : Fr) => Sub [(0, a0.t), (1, i4 st1.1), (5, i4 st1.2)] fr.s ∧ Heap σ0 fr.σ []) (fun (y1 : (Int ⊕ Int)) (e : aB_) (fr : Fr) => (Sum.elim (fun y => e = (.exit 0) ∧ Sub [(1, i4 y)] fr.s ∧ Heap σ0 fr.σ []) (fun y => e = .ret ∧ endW Try.prog (Try.f43.results.toList) σ0 (E_i64 y) .ret fr)) y1) hy1 (And.intro (am_ hS (by kernel_rfl)) hH) ?_ ?_
  ·clear h hy1 hS hH; clear y1; intro st1 x fr h HI; obtain ⟨s, σ⟩ := fr; obtain ⟨hS, hH⟩ := HI
   refine ad_ (ad_ (ab_ ?_))
   refine qs 4 [(0, a0.t), (1, i4 st1.1), (5, i4 st1.2), (15, .bool (decide (st1.2 < (a0.l.length : Int))))] hS ?_; intro s hS
   refine ae_ (sq_n ?_)
   by_cases hc2 : (decide (st1.2 < (a0.l.length : Int))) = true
   ·have h := ak_ hc2 h
    refine af_ hS rfl (fun _ => ?_) (fun hf => ah_ hc2 hf)
    refine ar_ (sq_n (ad_ (aw_ (ad_ (ab_ ?_)))))
    refine qs 2 [(0, a0.t), (1, i4 st1.1), (5, i4 st1.2), (18, a0.t), (19, i4 st1.2)] hS ?_; intro s hS
    obtain ⟨y2, hy2, h⟩ := bind_some h
    refine bc_ (sl := a0) (e := 43) [i4 y2.Kind, i4 y2.Num, .str y2.Text, i4 y2.Ref] rfl hS rfl rfl (by kernel_rfl) (by kernel_rfl) hy2 rfl ?_; intro rest1 s hS
    refine qs 2 [(0, a0.t), (5, i4 st1.2), (21, .agg (ac_.cells y2)), (22, i4 st1.1)] hS ?_; intro s hS
    obtain ⟨y3, hy3, h⟩ := bind_some h
    refine as_ (a := []) (b := []) (xs := [.agg (ac_.cells y2), i4 st1.1]) rfl hS rfl rfl hy3 ?_; intro s hS
    refine qs 1 [(0, a0.t), (1, i4 y3), (5, i4 st1.2)] hS ?_; intro s hS
    refine ae_ (sq_n (ad_ (ab_ ?_)))
    refine qs 2 [(0, a0.t), (1, i4 y3), (5, i4 st1.2), (25, .bool (decide (y3 < 0)))] hS ?_; intro s hS
    refine ae_ (sq_n ?_)
    by_cases hc3 : (decide (y3 < 0)) = true
    ·have h := ak_ hc3 h
     refine af_ hS rfl (fun _ => ?_) (fun hf => ah_ hc3 hf)
     refine ad_ (ab_ ?_)
     refine qs 1 [(4, i4 (-1))] hS ?_; intro s hS
     refine ae_ (sq_n (ao_ (bk_r (sq_r ?_))))
     injection h with h; subst h
     exact And.intro rfl (aq_ hH (an_ (v := i4 (-1)) hS rfl r_nil) rfl (by kernel_rfl) (by simp [pureT, pureL, E_i64]))
    ·have h := al_ hc3 h
     refine af_ hS rfl (fun hf => ag_ hc3 hf) (fun _ => ?_)
     refine ar_ (bk_n (sq_n (ab_ ?_)))
     refine qs 3 [(0, a0.t), (1, i4 y3), (5, i4 (w4 (st1.2 + 1)))] hS ?_; intro s hS
     refine ae_ ?_
     injection h with h; subst h
     exact And.intro (am_ hS (by kernel_rfl)) hH
   ·have h := al_ hc2 h
    refine af_ hS rfl (fun hf => ag_ hc2 hf) (fun _ => ?_)
    refine a8_ (sq_x ?_)
    injection h with h; subst h
    exact And.intro rfl (And.intro (am_ hS (by kernel_rfl)) hH)
  ·clear hS hH; intro e fr HF; obtain ⟨s, σ⟩ := fr
   rcases y1 with y1 | y1
   ·obtain ⟨rfl, hS, hH⟩ := HF
    refine bk_e (sq_n (ad_ (ab_ ?_)))
    refine qs 2 [(4, i4 y1)] hS ?_; intro s hS
    refine ae_ (sq_n (ao_ ?_))
    injection h with h; subst h
    exact aq_ hH (an_ (v := i4 y1) hS rfl r_nil) rfl (by kernel_rfl) (by simp [pureT, pureL, E_i64])
   ·obtain ⟨rfl, HE⟩ := HF
    refine bk_r (sq_r ?_)
    injection h with h; subst h; exact HE
noncomputable def ek_ (a0 : (Sl ac_)) : Option (Sl ac_) := ((mkS 40 ((⟨0, 0, ⟨#[]⟩, 0⟩ : ac_) : ac_) (a0.l.length : Int) (a0.l.length : Int)).bind fun y1 => ((aM_ (S := (Int × (Sl ac_))) (R := (Sl ac_)) (fun st1 => (if (decide (st1.1 < (a0.l.length : Int))) = true then ((elt a0 st1.1).bind fun y3 => ((a0_ y3).bind fun y4 => ((elt st1.2 st1.1).bind fun y5 => (some (.inl ((w4 (st1.1 + 1)), (setS st1.2 st1.1 (y4 : ac_)))))))) else (some (.inr st1.2)))) (0, y1)).bind fun y2 => (some y2)))
theorem iz_ (a0 : (Sl ac_)) (r : (Sl ac_)) (h : ek_ a0 = some r) : cR_ a0 = some r := by
 unfold ek_ at h
 refine co_ rfl rfl ok_45 rfl (all_cons (by kernel_rfl) all_nil) ?_
 intro σ0 s hS hH
 have hS := am_ (L' := [(0, a0.t)]) hS (by kernel_rfl)
 refine ad_ (ab_ ?_)
 refine qs 1 [(0, a0.t)] hS ?_; intro s hS
 refine ae_ (sq_n (ad_ (ab_ ?_)))
 refine qs 2 [(0, a0.t), (6, i4 (a0.l.length : Int))] hS ?_; intro s hS
 obtain ⟨y1, hy1, h⟩ := bind_some h
 refine o0_ (z := true) (e := 28) (by_ := 40) (x0 := ((⟨0, 0, ⟨#[]⟩, 0⟩ : ac_) : ac_)) (fun σ d => by simp [Enc.cells, ac_.cells, Iv]) rfl hS hH rfl rfl (by kernel_rfl) (by kernel_rfl) (by kernel_rfl) (by kernel_rfl) rfl hy1 ?_; intro t1 σ s ht1 hH hS
 refine qs 1 [(0, a0.t), (3, t1)] hS ?_; intro s hS
 refine ae_ (sq_n (ad_ (ad_ (ab_ ?_))))
 refine qs 1 [(0, a0.t), (3, t1), (4, i4 0)] hS ?_; intro s hS
 refine ae_ (sq_n (aw_ ?_))
 obtain ⟨y2, hy2, h⟩ := bind_some h
 refine ba_ (fun (st1 : (Int × (Sl ac_))) (fr : Fr) => Sub [(0, a0.t), (3, t1), (4, i4 st1.1)] fr.s ∧ Heap σ0 fr.σ [.own true 4 t1 st1.2.t]) (fun (y2 : (Sl ac_)) (e : aB_) (fr : Fr) => e = (.exit 0) ∧ Sub [(3, t1)] fr.s ∧ Heap σ0 fr.σ [.own true 4 t1 y2.t]) hy2 (And.intro (am_ hS (by kernel_rfl)) hH) ?_ ?_
 ·clear h hy2 hS hH; clear y2; intro st1 x fr h HI; obtain ⟨s, σ⟩ := fr; obtain ⟨hS, hH⟩ := HI
  refine ad_ (ad_ (ab_ ?_))
  refine qs 4 [(0, a0.t), (3, t1), (4, i4 st1.1), (11, .bool (decide (st1.1 < (a0.l.length : Int))))] hS ?_; intro s hS
  refine ae_ (sq_n ?_)
  by_cases hc1 : (decide (st1.1 < (a0.l.length : Int))) = true
  ·have h := ak_ hc1 h
   refine af_ hS rfl (fun _ => ?_) (fun hf => ah_ hc1 hf)
   refine ar_ (sq_n (ad_ (aw_ (ab_ ?_))))
   refine qs 4 [(0, a0.t), (3, t1), (4, i4 st1.1), (14, t1), (15, i4 st1.1), (16, a0.t), (17, i4 st1.1)] hS ?_; intro s hS
   obtain ⟨y3, hy3, h⟩ := bind_some h
   refine bc_ (sl := a0) (e := 43) [i4 y3.Kind, i4 y3.Num, .str y3.Text, i4 y3.Ref] rfl hS rfl rfl (by kernel_rfl) (by kernel_rfl) hy3 rfl ?_; intro rest1 s hS
   refine qs 1 [(0, a0.t), (3, t1), (4, i4 st1.1), (14, t1), (15, i4 st1.1), (19, .agg (ac_.cells y3))] hS ?_; intro s hS
   obtain ⟨y4, hy4, h⟩ := bind_some h
   refine as_ (a := []) (b := []) (xs := [.agg (ac_.cells y3)]) rfl hS rfl rfl hy4 ?_; intro s hS
   obtain ⟨y5, hy5, h⟩ := bind_some h
   refine cG_ (a := st1.2) (e := 28) (fun _ _ _ _ _ => trivial) rfl hS hH rfl rfl (by kernel_rfl) (by kernel_rfl) hy5 ?_; intro hb1 hb1e s hl_hb1 hS
   refine bT_ (ents := []) (a := st1.2) (j := st1.1) (y := y5) (y' := (y4 : ac_)) (off := 0) (c := [i4 y5.Kind, i4 y5.Num, .str y5.Text, i4 y5.Ref]) (us := [i4 y4.Kind, i4 y4.Num, .str y4.Text, i4 y4.Ref]) (vs := [i4 y4.Kind, i4 y4.Num, .str y4.Text, i4 y4.Ref]) (v := .agg (ac_.cells y4)) rfl hS hH hl_hb1 rfl rfl rfl (by kernel_rfl) (by kernel_rfl) rfl hy5 rfl (HLi (HLi (HLs (HLi HL.nil)))) rfl (by kernel_rfl) ?_; intro σ s hH hS
   refine ae_ (bk_n (sq_n (ab_ ?_)))
   refine qs 3 [(0, a0.t), (3, t1), (4, i4 (w4 (st1.1 + 1)))] hS ?_; intro s hS
   refine ae_ ?_
   injection h with h; subst h
   exact And.intro (am_ hS (by kernel_rfl)) hH
  ·have h := al_ hc1 h
   refine af_ hS rfl (fun hf => ag_ hc1 hf) (fun _ => ?_)
   refine a8_ (sq_x ?_)
   injection h with h; subst h
   exact And.intro rfl (And.intro (am_ hS (by kernel_rfl)) hH)
 ·clear hS hH; intro e fr HF; obtain ⟨s, σ⟩ := fr
  obtain ⟨rfl, hS, hH⟩ := HF
  refine bk_e (sq_n (ad_ (ab_ ?_)))
  refine qs 2 [(2, t1)] hS ?_; intro s hS
  refine ae_ (sq_n (ao_ ?_))
  injection h with h; subst h
  exact bi_ [t1] [] (an_ (v := t1) hS rfl r_nil) (by kernel_rfl) rfl hH (by kernel_rfl)
noncomputable def eu_ (a0 : (Sl ac_)) (a1 : (Sl ac_)) : Option Bool := (if ((!decide ((a0.l.length : Int) = (a1.l.length : Int)))) = true then (some false) else ((aM_ (S := Int) (R := (Unit ⊕ Bool)) (fun st1 => (if (decide (st1 < (a0.l.length : Int))) = true then ((elt a0 st1).bind fun y2 => ((elt a1 st1).bind fun y3 => ((ct_ y2 y3).bind fun y4 => (if (!y4) = true then (some (.inr (.inr false))) else (some (.inl (w4 (st1 + 1)))))))) else (some (.inr (.inl ()))))) 0).bind fun y1 => (Sum.elim (fun y1 => (some true)) (fun y1 => (some y1)) y1)))
theorem iF_ (a0 : (Sl ac_)) (a1 : (Sl ac_)) (r : Bool) (h : eu_ a0 a1 = some r) : cX_ a0 a1 = some r := by
 unfold eu_ at h
 refine ax_ E_bool_inj rfl rfl ok_47 rfl (all_cons (by kernel_rfl) (all_cons (by kernel_rfl) all_nil)) ?_
 intro σ0 s hS hH
 have hS := am_ (L' := [(0, a0.t), (1, a1.t)]) hS (by kernel_rfl)
 refine ad_ (ab_ ?_)
 refine qs 1 [(0, a0.t), (1, a1.t)] hS ?_; intro s hS
 refine ae_ (sq_n (ad_ (ad_ (ab_ ?_))))
 refine qs 5 [(0, a0.t), (1, a1.t), (10, .bool ((!decide ((a0.l.length : Int) = (a1.l.length : Int)))))] hS ?_; intro s hS
 refine ae_ (sq_n ?_)
 by_cases hc1 : ((!decide ((a0.l.length : Int) = (a1.l.length : Int)))) = true
 ·have h := ak_ hc1 h
  refine af_ hS rfl (fun _ => ?_) (fun hf => ah_ hc1 hf)
  refine ad_ (ab_ ?_)
  refine qs 1 [(4, .bool false)] hS ?_; intro s hS
  refine ae_ (sq_n (ao_ (sq_r ?_)))
  injection h with h; subst h
  exact aq_ hH (an_ (v := .bool false) hS rfl r_nil) rfl (by kernel_rfl) (by simp [pureT, pureL, E_bool])
 ·have h := al_ hc1 h
  refine af_ hS rfl (fun hf => ag_ hc1 hf) (fun _ => ?_)
  refine ar_ (sq_n (ad_ (ad_ (ab_ ?_))))
  refine qs 1 [(0, a0.t), (1, a1.t), (5, i4 0)] hS ?_; intro s hS
  refine ae_ (sq_n (aw_ ?_))
  obtain ⟨y1, hy1, h⟩ := bind_some h
  refine ba_ (fun (st1 : Int) (fr : Fr) => Sub [(0, a0.t), (1, a1.t), (5, i4 st1)] fr.s ∧ Heap σ0 fr.σ []) (fun (y1 : (Unit ⊕ Bool)) (e : aB_) (fr : Fr) => (Sum.elim (fun y => e = (.exit 0) ∧ Sub [] fr.s ∧ Heap σ0 fr.σ []) (fun y => e = .ret ∧ endW Try.prog (Try.f47.results.toList) σ0 (E_bool y) .ret fr)) y1) hy1 (And.intro (am_ hS (by kernel_rfl)) hH) ?_ ?_
  ·clear h hy1 hS hH; clear y1; intro st1 x fr h HI; obtain ⟨s, σ⟩ := fr; obtain ⟨hS, hH⟩ := HI
   refine ad_ (ad_ (ab_ ?_))
   refine qs 4 [(0, a0.t), (1, a1.t), (5, i4 st1), (14, .bool (decide (st1 < (a0.l.length : Int))))] hS ?_; intro s hS
   refine ae_ (sq_n ?_)
   by_cases hc2 : (decide (st1 < (a0.l.length : Int))) = true
   ·have h := ak_ hc2 h
    refine af_ hS rfl (fun _ => ?_) (fun hf => ah_ hc2 hf)
    refine ar_ (sq_n (ad_ (aw_ (ad_ ?_))))
    refine el_ (by kernel_rfl) hH ?_; intro mb σ hH
    refine qs 2 [(0, a0.t), (1, a1.t), (5, i4 st1), (17, a0.t), (18, i4 st1)] hS ?_; intro s hS
    obtain ⟨y2, hy2, h⟩ := bind_some h
    refine bc_ (sl := a0) (e := 28) [i4 y2.Kind, i4 y2.Num, .str y2.Text, i4 y2.Ref] rfl hS rfl rfl (by kernel_rfl) (by kernel_rfl) hy2 rfl ?_; intro rest1 s hS
    refine qs 3 [(0, a0.t), (1, a1.t), (5, i4 st1), (20, .agg (ac_.cells y2)), (21, a1.t), (22, i4 st1)] hS ?_; intro s hS
    obtain ⟨y3, hy3, h⟩ := bind_some h
    refine bc_ (sl := a1) (e := 28) [i4 y3.Kind, i4 y3.Num, .str y3.Text, i4 y3.Ref] rfl hS rfl rfl (by kernel_rfl) (by kernel_rfl) hy3 rfl ?_; intro rest2 s hS
    refine qs 1 [(0, a0.t), (1, a1.t), (5, i4 st1), (20, .agg (ac_.cells y2)), (24, .agg (ac_.cells y3))] hS ?_; intro s hS
    obtain ⟨y4, hy4, h⟩ := bind_some h
    refine as_ (a := []) (b := []) (xs := [.agg (ac_.cells y2), .agg (ac_.cells y3)]) rfl hS rfl rfl hy4 ?_; intro s hS
    refine qs 1 [(0, a0.t), (1, a1.t), (5, i4 st1), (26, .bool (!y4))] hS ?_; intro s hS
    refine ae_ (sq_n ?_)
    by_cases hc3 : (!y4) = true
    ·have h := ak_ hc3 h
     refine af_ hS rfl (fun _ => ?_) (fun hf => ah_ hc3 hf)
     refine ad_ (ab_ ?_)
     refine qs 1 [(4, .bool false)] hS ?_; intro s hS
     refine ae_ (sq_n (ao_ (bk_r (sq_r ?_))))
     injection h with h; subst h
     exact And.intro rfl (aq_ hH (an_ (v := .bool false) hS rfl r_nil) rfl (by kernel_rfl) (by simp [pureT, pureL, E_bool]))
    ·have h := al_ hc3 h
     refine af_ hS rfl (fun hf => ag_ hc3 hf) (fun _ => ?_)
     refine ar_ (bk_n (sq_n (ab_ ?_)))
     refine qs 3 [(0, a0.t), (1, a1.t), (5, i4 (w4 (st1 + 1)))] hS ?_; intro s hS
     refine ae_ ?_
     injection h with h; subst h
     exact And.intro (am_ hS (by kernel_rfl)) hH
   ·have h := al_ hc2 h
    refine af_ hS rfl (fun hf => ag_ hc2 hf) (fun _ => ?_)
    refine a8_ (sq_x ?_)
    injection h with h; subst h
    exact And.intro rfl (And.intro (am_ hS (by kernel_rfl)) hH)
  ·clear hS hH; intro e fr HF; obtain ⟨s, σ⟩ := fr
   rcases y1 with y1 | y1
   ·obtain ⟨rfl, hS, hH⟩ := HF
    refine bk_e (sq_n (ad_ (ab_ ?_)))
    refine qs 1 [(4, .bool true)] hS ?_; intro s hS
    refine ae_ (sq_n (ao_ ?_))
    injection h with h; subst h
    exact aq_ hH (an_ (v := .bool true) hS rfl r_nil) rfl (by kernel_rfl) (by simp [pureT, pureL, E_bool])
   ·obtain ⟨rfl, HE⟩ := HF
    refine bk_r (sq_r ?_)
    injection h with h; subst h; exact HE
noncomputable def dl_ (a0 : (Sl ac_)) (a1 : Int) : Option Int := ((aM_ (S := (Int × Int)) (R := (Int ⊕ Int)) (fun st1 => (if (decide (st1.2 < (a0.l.length : Int))) = true then ((elt a0 st1.2).bind fun y2 => (if (!decide (y2.Kind = st1.1)) = true then (some (.inr (.inr (-1)))) else ((elt a0 st1.2).bind fun y3 => (if (!decide (y3.Num = (w4 (st1.1 + 1)))) = true then (some (.inr (.inr (-1)))) else ((elt a0 st1.2).bind fun y4 => ((aI_ (w4 ((w4 (st1.1 + 1)) + 1))).bind fun y5 => (if (!decide (y4.Text = y5)) = true then (some (.inr (.inr (-1)))) else ((elt a0 st1.2).bind fun y6 => (if (!decide (y6.Ref = (w4 ((w4 ((w4 (st1.1 + 1)) + 1)) + 1)))) = true then (some (.inr (.inr (-1)))) else (some (.inl ((w4 ((w4 ((w4 ((w4 (st1.1 + 1)) + 1)) + 1)) + 1)), (w4 (st1.2 + 1)))))))))))))) else (some (.inr (.inl st1.1))))) (a1, 0)).bind fun y1 => (Sum.elim (fun y1 => (some y1)) (fun y1 => (some y1)) y1))
theorem hn_ (a0 : (Sl ac_)) (a1 : Int) (r : Int) (h : dl_ a0 a1 = some r) : aY_ a0 a1 = some r := by
 unfold dl_ at h
 refine ax_ E_i64_inj rfl rfl ok_49 rfl (all_cons (by kernel_rfl) (all_cons (by kernel_rfl) all_nil)) ?_
 intro σ0 s hS hH
 have hS := am_ (L' := [(0, a0.t), (1, i4 a1)]) hS (by kernel_rfl)
 refine ad_ (ab_ ?_)
 refine qs 1 [(0, a0.t), (1, i4 a1)] hS ?_; intro s hS
 refine ae_ (sq_n (ad_ (ad_ (ab_ ?_))))
 refine qs 1 [(0, a0.t), (1, i4 a1), (5, i4 0)] hS ?_; intro s hS
 refine ae_ (sq_n (aw_ ?_))
 obtain ⟨y1, hy1, h⟩ := bind_some h
 refine ba_ (fun (st1 : (Int × Int)) (fr : Fr) => Sub [(0, a0.t), (1, i4 st1.1), (5, i4 st1.2)] fr.s ∧ Heap σ0 fr.σ []) (fun (y1 : (Int ⊕ Int)) (e : aB_) (fr : Fr) => (Sum.elim (fun y => e = (.exit 0) ∧ Sub [(1, i4 y)] fr.s ∧ Heap σ0 fr.σ []) (fun y => e = .ret ∧ endW Try.prog (Try.f49.results.toList) σ0 (E_i64 y) .ret fr)) y1) hy1 (And.intro (am_ hS (by kernel_rfl)) hH) ?_ ?_
 ·clear h hy1 hS hH; clear y1; intro st1 x fr h HI; obtain ⟨s, σ⟩ := fr; obtain ⟨hS, hH⟩ := HI
  refine ad_ (ad_ (ab_ ?_))
  refine qs 4 [(0, a0.t), (1, i4 st1.1), (5, i4 st1.2), (9, .bool (decide (st1.2 < (a0.l.length : Int))))] hS ?_; intro s hS
  refine ae_ (sq_n ?_)
  by_cases hc1 : (decide (st1.2 < (a0.l.length : Int))) = true
  ·have h := ak_ hc1 h
   refine af_ hS rfl (fun _ => ?_) (fun hf => ah_ hc1 hf)
   refine ar_ (sq_n (ad_ (aw_ (ad_ (ad_ (ab_ ?_))))))
   refine qs 2 [(0, a0.t), (1, i4 st1.1), (5, i4 st1.2), (12, a0.t), (13, i4 st1.2)] hS ?_; intro s hS
   obtain ⟨y2, hy2, h⟩ := bind_some h
   refine bc_ (sl := a0) (e := 28) [i4 y2.Kind, i4 y2.Num, .str y2.Text, i4 y2.Ref] rfl hS rfl rfl (by kernel_rfl) (by kernel_rfl) hy2 rfl ?_; intro rest1 s hS
   refine qs 4 [(0, a0.t), (1, i4 st1.1), (5, i4 st1.2), (18, .bool (!decide (y2.Kind = st1.1)))] hS ?_; intro s hS
   refine ae_ (sq_n ?_)
   by_cases hc2 : (!decide (y2.Kind = st1.1)) = true
   ·have h := ak_ hc2 h
    refine af_ hS rfl (fun _ => ?_) (fun hf => ah_ hc2 hf)
    refine ad_ (ab_ ?_)
    refine qs 1 [(4, i4 (-1))] hS ?_; intro s hS
    refine ae_ (sq_n (ao_ (sq_r (bk_r (sq_r ?_)))))
    injection h with h; subst h
    exact And.intro rfl (aq_ hH (an_ (v := i4 (-1)) hS rfl r_nil) rfl (by kernel_rfl) (by simp [pureT, pureL, E_i64]))
   ·have h := al_ hc2 h
    refine af_ hS rfl (fun hf => ag_ hc2 hf) (fun _ => ?_)
    refine ar_ (sq_n (ad_ (ab_ ?_)))
    refine qs 3 [(0, a0.t), (1, i4 (w4 (st1.1 + 1))), (5, i4 st1.2)] hS ?_; intro s hS
    refine ae_ (sq_n (ad_ (ad_ (ab_ ?_))))
    refine qs 2 [(0, a0.t), (1, i4 (w4 (st1.1 + 1))), (5, i4 st1.2), (21, a0.t), (22, i4 st1.2)] hS ?_; intro s hS
    obtain ⟨y3, hy3, h⟩ := bind_some h
    refine bc_ (sl := a0) (e := 28) [i4 y3.Kind, i4 y3.Num, .str y3.Text, i4 y3.Ref] rfl hS rfl rfl (by kernel_rfl) (by kernel_rfl) hy3 rfl ?_; intro rest2 s hS
    refine qs 4 [(0, a0.t), (1, i4 (w4 (st1.1 + 1))), (5, i4 st1.2), (27, .bool (!decide (y3.Num = (w4 (st1.1 + 1)))))] hS ?_; intro s hS
    refine ae_ (sq_n ?_)
    by_cases hc3 : (!decide (y3.Num = (w4 (st1.1 + 1)))) = true
    ·have h := ak_ hc3 h
     refine af_ hS rfl (fun _ => ?_) (fun hf => ah_ hc3 hf)
     refine ad_ (ab_ ?_)
     refine qs 1 [(4, i4 (-1))] hS ?_; intro s hS
     refine ae_ (sq_n (ao_ (sq_r (bk_r (sq_r ?_)))))
     injection h with h; subst h
     exact And.intro rfl (aq_ hH (an_ (v := i4 (-1)) hS rfl r_nil) rfl (by kernel_rfl) (by simp [pureT, pureL, E_i64]))
    ·have h := al_ hc3 h
     refine af_ hS rfl (fun hf => ag_ hc3 hf) (fun _ => ?_)
     refine ar_ (sq_n (ad_ (ab_ ?_)))
     refine qs 3 [(0, a0.t), (1, i4 (w4 ((w4 (st1.1 + 1)) + 1))), (5, i4 st1.2)] hS ?_; intro s hS
     refine ae_ (sq_n (ad_ (ad_ ?_)))
     refine el_ (by kernel_rfl) hH ?_; intro mb σ hH
     refine qs 2 [(0, a0.t), (1, i4 (w4 ((w4 (st1.1 + 1)) + 1))), (5, i4 st1.2), (30, a0.t), (31, i4 st1.2)] hS ?_; intro s hS
     obtain ⟨y4, hy4, h⟩ := bind_some h
     refine bc_ (sl := a0) (e := 28) [i4 y4.Kind, i4 y4.Num, .str y4.Text, i4 y4.Ref] rfl hS rfl rfl (by kernel_rfl) (by kernel_rfl) hy4 rfl ?_; intro rest3 s hS
     refine qs 3 [(0, a0.t), (1, i4 (w4 ((w4 (st1.1 + 1)) + 1))), (5, i4 st1.2), (34, .str y4.Text), (35, i4 (w4 ((w4 (st1.1 + 1)) + 1)))] hS ?_; intro s hS
     obtain ⟨y5, hy5, h⟩ := bind_some h
     refine as_ (a := []) (b := []) (xs := [i4 (w4 ((w4 (st1.1 + 1)) + 1))]) rfl hS rfl rfl hy5 ?_; intro s hS
     refine qs 1 [(0, a0.t), (1, i4 (w4 ((w4 (st1.1 + 1)) + 1))), (5, i4 st1.2), (37, .bool (!decide (y4.Text = y5)))] hS ?_; intro s hS
     refine ae_ (sq_n ?_)
     by_cases hc4 : (!decide (y4.Text = y5)) = true
     ·have h := ak_ hc4 h
      refine af_ hS rfl (fun _ => ?_) (fun hf => ah_ hc4 hf)
      refine ad_ (ab_ ?_)
      refine qs 1 [(4, i4 (-1))] hS ?_; intro s hS
      refine ae_ (sq_n (ao_ (sq_r (bk_r (sq_r ?_)))))
      injection h with h; subst h
      exact And.intro rfl (aq_ hH (an_ (v := i4 (-1)) hS rfl r_nil) rfl (by kernel_rfl) (by simp [pureT, pureL, E_i64]))
     ·have h := al_ hc4 h
      refine af_ hS rfl (fun hf => ag_ hc4 hf) (fun _ => ?_)
      refine ar_ (sq_n (ad_ (ab_ ?_)))
      refine qs 3 [(0, a0.t), (1, i4 (w4 ((w4 ((w4 (st1.1 + 1)) + 1)) + 1))), (5, i4 st1.2)] hS ?_; intro s hS
      refine ae_ (sq_n (ad_ (ad_ (ab_ ?_))))
      refine qs 2 [(0, a0.t), (1, i4 (w4 ((w4 ((w4 (st1.1 + 1)) + 1)) + 1))), (5, i4 st1.2), (40, a0.t), (41, i4 st1.2)] hS ?_; intro s hS
      obtain ⟨y6, hy6, h⟩ := bind_some h
      refine bc_ (sl := a0) (e := 28) [i4 y6.Kind, i4 y6.Num, .str y6.Text, i4 y6.Ref] rfl hS rfl rfl (by kernel_rfl) (by kernel_rfl) hy6 rfl ?_; intro rest4 s hS
      refine qs 4 [(0, a0.t), (1, i4 (w4 ((w4 ((w4 (st1.1 + 1)) + 1)) + 1))), (5, i4 st1.2), (46, .bool (!decide (y6.Ref = (w4 ((w4 ((w4 (st1.1 + 1)) + 1)) + 1)))))] hS ?_; intro s hS
      refine ae_ (sq_n ?_)
      by_cases hc5 : (!decide (y6.Ref = (w4 ((w4 ((w4 (st1.1 + 1)) + 1)) + 1)))) = true
      ·have h := ak_ hc5 h
       refine af_ hS rfl (fun _ => ?_) (fun hf => ah_ hc5 hf)
       refine ad_ (ab_ ?_)
       refine qs 1 [(4, i4 (-1))] hS ?_; intro s hS
       refine ae_ (sq_n (ao_ (sq_r (bk_r (sq_r ?_)))))
       injection h with h; subst h
       exact And.intro rfl (aq_ hH (an_ (v := i4 (-1)) hS rfl r_nil) rfl (by kernel_rfl) (by simp [pureT, pureL, E_i64]))
      ·have h := al_ hc5 h
       refine af_ hS rfl (fun hf => ag_ hc5 hf) (fun _ => ?_)
       refine ar_ (sq_n (ab_ ?_))
       refine qs 3 [(0, a0.t), (1, i4 (w4 ((w4 ((w4 ((w4 (st1.1 + 1)) + 1)) + 1)) + 1))), (5, i4 st1.2)] hS ?_; intro s hS
       refine ae_ (bk_n (sq_n (ab_ ?_)))
       refine qs 3 [(0, a0.t), (1, i4 (w4 ((w4 ((w4 ((w4 (st1.1 + 1)) + 1)) + 1)) + 1))), (5, i4 (w4 (st1.2 + 1)))] hS ?_; intro s hS
       refine ae_ ?_
       injection h with h; subst h
       exact And.intro (am_ hS (by kernel_rfl)) hH
  ·have h := al_ hc1 h
   refine af_ hS rfl (fun hf => ag_ hc1 hf) (fun _ => ?_)
   refine a8_ (sq_x ?_)
   injection h with h; subst h
   exact And.intro rfl (And.intro (am_ hS (by kernel_rfl)) hH)
 ·clear hS hH; intro e fr HF; obtain ⟨s, σ⟩ := fr
  rcases y1 with y1 | y1
  ·obtain ⟨rfl, hS, hH⟩ := HF
   refine bk_e (sq_n (ad_ (ab_ ?_)))
   refine qs 2 [(4, i4 y1)] hS ?_; intro s hS
   refine ae_ (sq_n (ao_ ?_))
   injection h with h; subst h
   exact aq_ hH (an_ (v := i4 y1) hS rfl r_nil) rfl (by kernel_rfl) (by simp [pureT, pureL, E_i64])
  ·obtain ⟨rfl, HE⟩ := HF
   refine bk_r (sq_r ?_)
   injection h with h; subst h; exact HE
noncomputable def dL_ (a0 : (Sl aa_)) (a1 : Int) : Option Int := (if (decide ((w4 (a1 - (a0.l.length : Int))) < 0)) = true then (some (-1)) else ((aM_ (S := (Int × Int)) (R := (Int ⊕ Int)) (fun st1 => (if (decide (st1.2 < (a0.l.length : Int))) = true then ((elt a0 st1.2).bind fun y2 => ((ef_ y2 st1.1).bind fun y3 => (if (decide (y3 < 0)) = true then (some (.inr (.inr (-1)))) else (some (.inl (y3, (w4 (st1.2 + 1)))))))) else (some (.inr (.inl st1.1))))) ((w4 (a1 - (a0.l.length : Int))), 0)).bind fun y1 => (Sum.elim (fun y1 => (some y1)) (fun y1 => (some y1)) y1)))
theorem hM_ (a0 : (Sl aa_)) (a1 : Int) (r : Int) (h : dL_ a0 a1 = some r) : dK_ a0 a1 = some r := by
 unfold dL_ at h
 refine ax_ E_i64_inj rfl rfl ok_57 rfl (all_cons (by kernel_rfl) (all_cons (by kernel_rfl) all_nil)) ?_
 intro σ0 s hS hH
 have hS := am_ (L' := [(0, a0.t), (1, i4 a1)]) hS (by kernel_rfl)
 refine ad_ (ab_ ?_)
 refine qs 1 [(0, a0.t), (1, i4 a1)] hS ?_; intro s hS
 refine ae_ (sq_n (ad_ (ab_ ?_)))
 refine qs 5 [(0, a0.t), (1, i4 (w4 (a1 - (a0.l.length : Int))))] hS ?_; intro s hS
 refine ae_ (sq_n (ad_ (ad_ (ab_ ?_))))
 refine qs 2 [(0, a0.t), (1, i4 (w4 (a1 - (a0.l.length : Int)))), (11, .bool (decide ((w4 (a1 - (a0.l.length : Int))) < 0)))] hS ?_; intro s hS
 refine ae_ (sq_n ?_)
 by_cases hc1 : (decide ((w4 (a1 - (a0.l.length : Int))) < 0)) = true
 ·have h := ak_ hc1 h
  refine af_ hS rfl (fun _ => ?_) (fun hf => ah_ hc1 hf)
  refine ad_ (ab_ ?_)
  refine qs 1 [(4, i4 (-1))] hS ?_; intro s hS
  refine ae_ (sq_n (ao_ (sq_r ?_)))
  injection h with h; subst h
  exact aq_ hH (an_ (v := i4 (-1)) hS rfl r_nil) rfl (by kernel_rfl) (by simp [pureT, pureL, E_i64])
 ·have h := al_ hc1 h
  refine af_ hS rfl (fun hf => ag_ hc1 hf) (fun _ => ?_)
  refine ar_ (sq_n (ad_ (ad_ (ab_ ?_))))
  refine qs 1 [(0, a0.t), (1, i4 (w4 (a1 - (a0.l.length : Int)))), (5, i4 0)] hS ?_; intro s hS
  refine ae_ (sq_n (aw_ ?_))
  obtain ⟨y1, hy1, h⟩ := bind_some h
  refine ba_ (fun (st1 : (Int × Int)) (fr : Fr) => Sub [(0, a0.t), (1, i4 st1.1), (5, i4 st1.2)] fr.s ∧ Heap σ0 fr.σ []) (fun (y1 : (Int ⊕ Int)) (e : aB_) (fr : Fr) => (Sum.elim (fun y => e = (.exit 0) ∧ Sub [(1, i4 y)] fr.s ∧ Heap σ0 fr.σ []) (fun y => e = .ret ∧ endW Try.prog (Try.f57.results.toList) σ0 (E_i64 y) .ret fr)) y1) hy1 (And.intro (am_ hS (by kernel_rfl)) hH) ?_ ?_
  ·clear h hy1 hS hH; clear y1; intro st1 x fr h HI; obtain ⟨s, σ⟩ := fr; obtain ⟨hS, hH⟩ := HI
   refine ad_ (ad_ (ab_ ?_))
   refine qs 4 [(0, a0.t), (1, i4 st1.1), (5, i4 st1.2), (15, .bool (decide (st1.2 < (a0.l.length : Int))))] hS ?_; intro s hS
   refine ae_ (sq_n ?_)
   by_cases hc2 : (decide (st1.2 < (a0.l.length : Int))) = true
   ·have h := ak_ hc2 h
    refine af_ hS rfl (fun _ => ?_) (fun hf => ah_ hc2 hf)
    refine ar_ (sq_n (ad_ (aw_ (ad_ (ab_ ?_)))))
    refine qs 2 [(0, a0.t), (1, i4 st1.1), (5, i4 st1.2), (18, a0.t), (19, i4 st1.2)] hS ?_; intro s hS
    obtain ⟨y2, hy2, h⟩ := bind_some h
    refine bc_ (sl := a0) (e := 45) [i4 y2.Id, i4 y2.Kind, .str y2.Name, i4 y2.Low, y2.Keys.t, y2.Vals.t, i4 y2.Default.Kind, i4 y2.Default.Num, .str y2.Default.Text, i4 y2.Default.Ref] rfl hS rfl rfl (by kernel_rfl) (by kernel_rfl) hy2 rfl ?_; intro rest1 s hS
    refine qs 2 [(0, a0.t), (5, i4 st1.2), (21, .agg (aa_.cells y2)), (22, i4 st1.1)] hS ?_; intro s hS
    obtain ⟨y3, hy3, h⟩ := bind_some h
    refine as_ (a := []) (b := []) (xs := [.agg (aa_.cells y2), i4 st1.1]) rfl hS rfl rfl hy3 ?_; intro s hS
    refine qs 1 [(0, a0.t), (1, i4 y3), (5, i4 st1.2)] hS ?_; intro s hS
    refine ae_ (sq_n (ad_ (ab_ ?_)))
    refine qs 2 [(0, a0.t), (1, i4 y3), (5, i4 st1.2), (25, .bool (decide (y3 < 0)))] hS ?_; intro s hS
    refine ae_ (sq_n ?_)
    by_cases hc3 : (decide (y3 < 0)) = true
    ·have h := ak_ hc3 h
     refine af_ hS rfl (fun _ => ?_) (fun hf => ah_ hc3 hf)
     refine ad_ (ab_ ?_)
     refine qs 1 [(4, i4 (-1))] hS ?_; intro s hS
     refine ae_ (sq_n (ao_ (bk_r (sq_r ?_))))
     injection h with h; subst h
     exact And.intro rfl (aq_ hH (an_ (v := i4 (-1)) hS rfl r_nil) rfl (by kernel_rfl) (by simp [pureT, pureL, E_i64]))
    ·have h := al_ hc3 h
     refine af_ hS rfl (fun hf => ag_ hc3 hf) (fun _ => ?_)
     refine ar_ (bk_n (sq_n (ab_ ?_)))
     refine qs 3 [(0, a0.t), (1, i4 y3), (5, i4 (w4 (st1.2 + 1)))] hS ?_; intro s hS
     refine ae_ ?_
     injection h with h; subst h
     exact And.intro (am_ hS (by kernel_rfl)) hH
   ·have h := al_ hc2 h
    refine af_ hS rfl (fun hf => ag_ hc2 hf) (fun _ => ?_)
    refine a8_ (sq_x ?_)
    injection h with h; subst h
    exact And.intro rfl (And.intro (am_ hS (by kernel_rfl)) hH)
  ·clear hS hH; intro e fr HF; obtain ⟨s, σ⟩ := fr
   rcases y1 with y1 | y1
   ·obtain ⟨rfl, hS, hH⟩ := HF
    refine bk_e (sq_n (ad_ (ab_ ?_)))
    refine qs 2 [(4, i4 y1)] hS ?_; intro s hS
    refine ae_ (sq_n (ao_ ?_))
    injection h with h; subst h
    exact aq_ hH (an_ (v := i4 y1) hS rfl r_nil) rfl (by kernel_rfl) (by simp [pureT, pureL, E_i64])
   ·obtain ⟨rfl, HE⟩ := HF
    refine bk_r (sq_r ?_)
    injection h with h; subst h; exact HE
end Go.Am
