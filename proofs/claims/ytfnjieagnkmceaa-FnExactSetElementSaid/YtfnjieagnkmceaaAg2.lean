/- Functions of the program. -/
import Derived.Test.YtfnjieagnkmceaaAd0
set_option maxRecDepth 100000
set_option maxHeartbeats 4000000
set_option linter.unusedVariables false
set_option linter.unusedSimpArgs false
namespace Go.Am
open Go.Proofs
noncomputable def eo_ (a0 : aa_) : Option aa_ := ((cY_ a0.Keys).bind fun y1 => ((cY_ a0.Vals).bind fun y2 => ((aQ_ a0.Default).bind fun y3 => (some (⟨a0.Id, a0.Kind, a0.Name, a0.Low, y1, y2, y3⟩ : aa_)))))
theorem iW_ (a0 : aa_) (r : aa_) (h : eo_ a0 = some r) : eh_ a0 = some r := by
 unfold eo_ at h
 refine cx_ rfl rfl ok_25 rfl (all_cons (by kernel_rfl) all_nil) ?_
 intro σ0 s hS hH
 have hS := am_ (L' := [(0, .agg (aa_.cells a0))]) hS (by kernel_rfl)
 refine ad_ (ab_ ?_)
 refine aT_ (v := .agg (aa_.cells a0)) (cs := [i4 a0.Id, i4 a0.Kind, .str a0.Name, i4 a0.Low, a0.Keys.t, a0.Vals.t, i4 a0.Default.Kind, i4 a0.Default.Num, .str a0.Default.Text, i4 a0.Default.Ref]) rfl hS hH rfl rfl (by kernel_rfl) ?_; intro b1 σ s hH hS
 refine aO_ (z := [i4 0, i4 0, .str ⟨#[]⟩, i4 0, (nt ac_), (nt ac_), i4 0, i4 0, .str ⟨#[]⟩, i4 0]) rfl hS hH (by kernel_rfl) ?_; intro b2 σ s hH hS
 refine ae_ (sq_n (ad_ (ab_ ?_)))
 refine aO_ (z := [i4 0, i4 0, .str ⟨#[]⟩, i4 0, (nt ac_), (nt ac_), i4 0, i4 0, .str ⟨#[]⟩, i4 0]) rfl hS hH (by kernel_rfl) ?_; intro b3 σ s hH hS
 refine ae_ (sq_n (ad_ (ab_ ?_)))
 refine qs 1 [(1, .ptr b1 0 0 10), (2, .ptr b2 0 0 10), (3, .ptr b3 0 0 10), (4, .ptr b1 0 0 1)] hS ?_; intro s hS
 refine ai_ (v := i4 a0.Id) 2 trivial rfl hS hH rfl rfl (by kernel_rfl) ?_; intro s hS
 refine qs 1 [(1, .ptr b1 0 0 10), (2, .ptr b2 0 0 10), (3, .ptr b3 0 0 10), (5, i4 a0.Id), (6, .ptr b3 0 0 1)] hS ?_; intro s hS
 refine a0_ (v := i4 a0.Id) (cs := [i4 a0.Id]) (cells' := [i4 a0.Id, i4 0, .str ⟨#[]⟩, i4 0, (nt ac_), (nt ac_), i4 0, i4 0, .str ⟨#[]⟩, i4 0]) rfl hS hH rfl rfl rfl (by kernel_rfl) (by kernel_rfl) ?_; intro σ s hH hS
 refine ae_ (sq_n (ad_ (ab_ ?_)))
 refine qs 1 [(1, .ptr b1 0 0 10), (2, .ptr b2 0 0 10), (3, .ptr b3 0 0 10), (7, .ptr b1 0 1 1)] hS ?_; intro s hS
 refine ai_ (v := i4 a0.Kind) 2 trivial rfl hS hH rfl rfl (by kernel_rfl) ?_; intro s hS
 refine qs 1 [(1, .ptr b1 0 0 10), (2, .ptr b2 0 0 10), (3, .ptr b3 0 0 10), (8, i4 a0.Kind), (9, .ptr b3 0 1 1)] hS ?_; intro s hS
 refine a0_ (v := i4 a0.Kind) (cs := [i4 a0.Kind]) (cells' := [i4 a0.Id, i4 a0.Kind, .str ⟨#[]⟩, i4 0, (nt ac_), (nt ac_), i4 0, i4 0, .str ⟨#[]⟩, i4 0]) rfl hS hH rfl rfl rfl (by kernel_rfl) (by kernel_rfl) ?_; intro σ s hH hS
 refine ae_ (sq_n (ad_ (ab_ ?_)))
 refine qs 1 [(1, .ptr b1 0 0 10), (2, .ptr b2 0 0 10), (3, .ptr b3 0 0 10), (10, .ptr b1 0 2 1)] hS ?_; intro s hS
 refine ai_ (v := .str a0.Name) 2 trivial rfl hS hH rfl rfl (by kernel_rfl) ?_; intro s hS
 refine qs 1 [(1, .ptr b1 0 0 10), (2, .ptr b2 0 0 10), (3, .ptr b3 0 0 10), (11, .str a0.Name), (12, .ptr b3 0 2 1)] hS ?_; intro s hS
 refine a0_ (v := .str a0.Name) (cs := [.str a0.Name]) (cells' := [i4 a0.Id, i4 a0.Kind, .str a0.Name, i4 0, (nt ac_), (nt ac_), i4 0, i4 0, .str ⟨#[]⟩, i4 0]) rfl hS hH rfl rfl rfl (by kernel_rfl) (by kernel_rfl) ?_; intro σ s hH hS
 refine ae_ (sq_n (ad_ (ab_ ?_)))
 refine qs 1 [(1, .ptr b1 0 0 10), (2, .ptr b2 0 0 10), (3, .ptr b3 0 0 10), (13, .ptr b1 0 3 1)] hS ?_; intro s hS
 refine ai_ (v := i4 a0.Low) 2 trivial rfl hS hH rfl rfl (by kernel_rfl) ?_; intro s hS
 refine qs 1 [(1, .ptr b1 0 0 10), (2, .ptr b2 0 0 10), (3, .ptr b3 0 0 10), (14, i4 a0.Low), (15, .ptr b3 0 3 1)] hS ?_; intro s hS
 refine a0_ (v := i4 a0.Low) (cs := [i4 a0.Low]) (cells' := [i4 a0.Id, i4 a0.Kind, .str a0.Name, i4 a0.Low, (nt ac_), (nt ac_), i4 0, i4 0, .str ⟨#[]⟩, i4 0]) rfl hS hH rfl rfl rfl (by kernel_rfl) (by kernel_rfl) ?_; intro σ s hH hS
 refine ae_ (sq_n (ad_ (ab_ ?_)))
 refine qs 1 [(1, .ptr b1 0 0 10), (2, .ptr b2 0 0 10), (3, .ptr b3 0 0 10), (16, .ptr b1 0 4 1)] hS ?_; intro s hS
 refine ai_ (v := a0.Keys.t) 2 trivial rfl hS hH rfl rfl (by kernel_rfl) ?_; intro s hS
 obtain ⟨y1, hy1, h⟩ := bind_some h
 refine a2_ (ents := []) (z := false) (ts := [a0.Keys.t]) (vs := [a0.Keys.t]) rfl rfl hS rfl rfl rfl hH (HLp HL.nil) hy1 ?_; intro hs σ s hl hH hS
 obtain ⟨t1, rfl⟩ := len1 hl
 have hH : Heap σ0 σ [.own true 4 t1 y1.t, .box b3 [i4 a0.Id, i4 a0.Kind, .str a0.Name, i4 a0.Low, (nt ac_), (nt ac_), i4 0, i4 0, .str ⟨#[]⟩, i4 0], .box b2 [i4 0, i4 0, .str ⟨#[]⟩, i4 0, (nt ac_), (nt ac_), i4 0, i4 0, .str ⟨#[]⟩, i4 0], .box b1 (aa_.cells a0)] := hH
 have ht1 : aV_ t1 := Heap.one hH
 refine qs 1 [(1, .ptr b1 0 0 10), (2, .ptr b2 0 0 10), (3, .ptr b3 0 0 10), (18, t1), (19, .ptr b3 0 4 1)] hS ?_; intro s hS
 have hH : Heap σ0 σ [.box b3 [i4 a0.Id, i4 a0.Kind, .str a0.Name, i4 a0.Low, (nt ac_), (nt ac_), i4 0, i4 0, .str ⟨#[]⟩, i4 0], .own true 4 t1 y1.t, .box b2 [i4 0, i4 0, .str ⟨#[]⟩, i4 0, (nt ac_), (nt ac_), i4 0, i4 0, .str ⟨#[]⟩, i4 0], .box b1 (aa_.cells a0)] := hH.sel [1, 0, 2, 3] rfl (by kernel_rfl)
 refine a0_ (v := t1) (cs := [t1]) (cells' := [i4 a0.Id, i4 a0.Kind, .str a0.Name, i4 a0.Low, t1, (nt ac_), i4 0, i4 0, .str ⟨#[]⟩, i4 0]) rfl hS hH rfl rfl (by simp [ht1.1, ht1.2]) (by simp [ht1.1, ht1.2]) (by kernel_rfl) ?_; intro σ s hH hS
 refine ae_ (sq_n (ad_ (ab_ ?_)))
 refine qs 1 [(1, .ptr b1 0 0 10), (2, .ptr b2 0 0 10), (3, .ptr b3 0 0 10), (20, .ptr b1 0 5 1)] hS ?_; intro s hS
 refine ai_ (v := a0.Vals.t) 3 trivial rfl hS hH rfl rfl (by kernel_rfl) ?_; intro s hS
 obtain ⟨y2, hy2, h⟩ := bind_some h
 refine a2_ (ents := []) (z := false) (ts := [a0.Vals.t]) (vs := [a0.Vals.t]) rfl rfl hS rfl rfl rfl hH (HLp HL.nil) hy2 ?_; intro hs σ s hl hH hS
 obtain ⟨t2, rfl⟩ := len1 hl
 have hH : Heap σ0 σ [.own true 4 t2 y2.t, .box b3 [i4 a0.Id, i4 a0.Kind, .str a0.Name, i4 a0.Low, t1, (nt ac_), i4 0, i4 0, .str ⟨#[]⟩, i4 0], .own true 4 t1 y1.t, .box b2 [i4 0, i4 0, .str ⟨#[]⟩, i4 0, (nt ac_), (nt ac_), i4 0, i4 0, .str ⟨#[]⟩, i4 0], .box b1 (aa_.cells a0)] := hH
 have ht2 : aV_ t2 := Heap.one hH
 refine qs 1 [(1, .ptr b1 0 0 10), (2, .ptr b2 0 0 10), (3, .ptr b3 0 0 10), (22, t2), (23, .ptr b3 0 5 1)] hS ?_; intro s hS
 have hH : Heap σ0 σ [.box b3 [i4 a0.Id, i4 a0.Kind, .str a0.Name, i4 a0.Low, t1, (nt ac_), i4 0, i4 0, .str ⟨#[]⟩, i4 0], .own true 4 t2 y2.t, .own true 4 t1 y1.t, .box b2 [i4 0, i4 0, .str ⟨#[]⟩, i4 0, (nt ac_), (nt ac_), i4 0, i4 0, .str ⟨#[]⟩, i4 0], .box b1 (aa_.cells a0)] := hH.sel [1, 0, 2, 3, 4] rfl (by kernel_rfl)
 refine a0_ (v := t2) (cs := [t2]) (cells' := [i4 a0.Id, i4 a0.Kind, .str a0.Name, i4 a0.Low, t1, t2, i4 0, i4 0, .str ⟨#[]⟩, i4 0]) rfl hS hH rfl rfl (by simp [ht2.1, ht2.2]) (by simp [ht2.1, ht2.2]) (by kernel_rfl) ?_; intro σ s hH hS
 refine ae_ (sq_n (ad_ (ab_ ?_)))
 refine qs 1 [(2, .ptr b2 0 0 10), (3, .ptr b3 0 0 10), (24, .ptr b1 0 6 4)] hS ?_; intro s hS
 refine ai_ (v := .agg (ac_.cells a0.Default)) 4 trivial rfl hS hH rfl rfl (by kernel_rfl) ?_; intro s hS
 obtain ⟨y3, hy3, h⟩ := bind_some h
 refine ar_ (a := []) (b := []) (xs := [.agg (ac_.cells a0.Default)]) rfl hS rfl rfl hy3 ?_; intro s hS
 refine qs 1 [(2, .ptr b2 0 0 10), (3, .ptr b3 0 0 10), (26, .agg (ac_.cells y3)), (27, .ptr b3 0 6 4)] hS ?_; intro s hS
 refine a0_ (v := .agg (ac_.cells y3)) (cs := [i4 y3.Kind, i4 y3.Num, .str y3.Text, i4 y3.Ref]) (cells' := [i4 a0.Id, i4 a0.Kind, .str a0.Name, i4 a0.Low, t1, t2, i4 y3.Kind, i4 y3.Num, .str y3.Text, i4 y3.Ref]) rfl hS hH rfl rfl rfl (by kernel_rfl) (by kernel_rfl) ?_; intro σ s hH hS
 refine ae_ (sq_n (ad_ (ab_ ?_)))
 refine ai_ (v := .agg [i4 a0.Id, i4 a0.Kind, .str a0.Name, i4 a0.Low, t1, t2, i4 y3.Kind, i4 y3.Num, .str y3.Text, i4 y3.Ref]) 0 trivial rfl hS hH rfl rfl (by kernel_rfl) ?_; intro s hS
 have hH : Heap σ0 σ [.box b2 [i4 0, i4 0, .str ⟨#[]⟩, i4 0, (nt ac_), (nt ac_), i4 0, i4 0, .str ⟨#[]⟩, i4 0], .box b3 [i4 a0.Id, i4 a0.Kind, .str a0.Name, i4 a0.Low, t1, t2, i4 y3.Kind, i4 y3.Num, .str y3.Text, i4 y3.Ref], .own true 4 t2 y2.t, .own true 4 t1 y1.t, .box b1 (aa_.cells a0)] := hH.sel [3, 0, 1, 2, 4] rfl (by kernel_rfl)
 refine aF_ (cs := [i4 a0.Id, i4 a0.Kind, .str a0.Name, i4 a0.Low, t1, t2, i4 y3.Kind, i4 y3.Num, .str y3.Text, i4 y3.Ref]) rfl hS hH rfl rfl (by simp [ht1.1, ht1.2, ht2.1, ht2.2]) ?_; intro σ s hH hS
 refine ae_ (sq_n (ao_ ?_))
 injection h with h; subst h
 have hH : Heap σ0 σ [.own true 4 t1 y1.t, .own true 4 t2 y2.t, .box b2 [i4 a0.Id, i4 a0.Kind, .str a0.Name, i4 a0.Low, t1, t2, i4 y3.Kind, i4 y3.Num, .str y3.Text, i4 y3.Ref], .box b3 [i4 a0.Id, i4 a0.Kind, .str a0.Name, i4 a0.Low, t1, t2, i4 y3.Kind, i4 y3.Num, .str y3.Text, i4 y3.Ref], .box b1 (aa_.cells a0)] := hH.sel [3, 2, 0, 1, 4] rfl (by kernel_rfl)
 exact a8_ [t1, t2] [.box b2 [i4 a0.Id, i4 a0.Kind, .str a0.Name, i4 a0.Low, t1, t2, i4 y3.Kind, i4 y3.Num, .str y3.Text, i4 y3.Ref], .box b3 [i4 a0.Id, i4 a0.Kind, .str a0.Name, i4 a0.Low, t1, t2, i4 y3.Kind, i4 y3.Num, .str y3.Text, i4 y3.Ref], .box b1 (aa_.cells a0)] (bf_ (v := .agg [i4 a0.Id, i4 a0.Kind, .str a0.Name, i4 a0.Low, t1, t2, i4 y3.Kind, i4 y3.Num, .str y3.Text, i4 y3.Ref]) hS (hH.at 2 rfl) rfl (by kernel_rfl) r_nil) (by kernel_rfl) rfl hH (by kernel_rfl)
noncomputable def ez_ (a0 : aj_) (a1 : Int) : Option Int := ((dh_ a0.Objects a1).bind fun y1 => (if (decide (y1 < 0)) = true then (some (-1)) else (some y1)))
theorem iH_ (a0 : aj_) (a1 : Int) (r : Int) (h : ez_ a0 a1 = some r) : cX_ a0 a1 = some r := by
 unfold ez_ at h
 refine ax_ E_i64_inj rfl rfl ok_27 rfl (all_cons (by kernel_rfl) (all_cons (by kernel_rfl) all_nil)) ?_
 intro σ0 s hS hH
 have hS := am_ (L' := [(0, .agg (aj_.cells a0)), (1, i4 a1)]) hS (by kernel_rfl)
 refine ad_ (ab_ ?_)
 refine aT_ (v := .agg (aj_.cells a0)) (cs := [i4 a0.Next, a0.Objects.t]) rfl hS hH rfl rfl (by kernel_rfl) ?_; intro b1 σ s hH hS
 refine qs 1 [(1, i4 a1), (2, .ptr b1 0 0 2)] hS ?_; intro s hS
 refine ae_ (sq_n (ad_ (ab_ ?_)))
 refine qs 1 [(1, i4 a1), (5, .ptr b1 0 1 1)] hS ?_; intro s hS
 refine ai_ (v := a0.Objects.t) 0 trivial rfl hS hH rfl rfl (by kernel_rfl) ?_; intro s hS
 refine qs 1 [(6, a0.Objects.t), (7, i4 a1)] hS ?_; intro s hS
 obtain ⟨y1, hy1, h⟩ := bind_some h
 refine ar_ (a := []) (b := []) (xs := [a0.Objects.t, i4 a1]) rfl hS rfl rfl hy1 ?_; intro s hS
 refine qs 1 [(1, i4 y1)] hS ?_; intro s hS
 refine ae_ (sq_n (ad_ (ad_ (ab_ ?_))))
 refine qs 2 [(1, i4 y1), (10, .bool (decide (y1 < 0)))] hS ?_; intro s hS
 refine ae_ (sq_n ?_)
 by_cases hc1 : (decide (y1 < 0)) = true
 ·have h := ak_ hc1 h
  refine af_ hS rfl (fun _ => ?_) (fun hf => ah_ hc1 hf)
  refine ad_ (ab_ ?_)
  refine qs 1 [(4, i4 (-1))] hS ?_; intro s hS
  refine ae_ (sq_n (ao_ (sq_r ?_)))
  injection h with h; subst h
  exact aq_ hH (an_ (v := i4 (-1)) hS rfl r_nil) rfl (by kernel_rfl) (by simp [pureT, pureL, E_i64])
 ·have h := al_ hc1 h
  refine af_ hS rfl (fun hf => ag_ hc1 hf) (fun _ => ?_)
  refine as_ (sq_n (ad_ (ab_ ?_)))
  refine qs 2 [(4, i4 y1)] hS ?_; intro s hS
  refine ae_ (sq_n (ao_ ?_))
  injection h with h; subst h
  exact aq_ hH (an_ (v := i4 y1) hS rfl r_nil) rfl (by kernel_rfl) (by simp [pureT, pureL, E_i64])
noncomputable def eP_ (a0 : ac_) (a1 : Int) : Option Int := (if (decide ((w4 (a1 - (a0.Text.size : Int))) < 0)) = true then (some (-1)) else (some (w4 (a1 - (a0.Text.size : Int)))))
theorem i6_ (a0 : ac_) (a1 : Int) (r : Int) (h : eP_ a0 a1 = some r) : bB_ a0 a1 = some r := by
 unfold eP_ at h
 refine ax_ E_i64_inj rfl rfl ok_30 rfl (all_cons (by kernel_rfl) (all_cons (by kernel_rfl) all_nil)) ?_
 intro σ0 s hS hH
 have hS := am_ (L' := [(0, .agg (ac_.cells a0)), (1, i4 a1)]) hS (by kernel_rfl)
 refine ad_ (ab_ ?_)
 refine aT_ (v := .agg (ac_.cells a0)) (cs := [i4 a0.Kind, i4 a0.Num, .str a0.Text, i4 a0.Ref]) rfl hS hH rfl rfl (by kernel_rfl) ?_; intro b1 σ s hH hS
 refine qs 1 [(1, i4 a1), (2, .ptr b1 0 0 4)] hS ?_; intro s hS
 refine ae_ (sq_n (ad_ (ab_ ?_)))
 refine qs 2 [(5, i4 a1), (6, .ptr b1 0 2 1)] hS ?_; intro s hS
 refine ai_ (v := .str a0.Text) 0 trivial rfl hS hH rfl rfl (by kernel_rfl) ?_; intro s hS
 refine qs 3 [(1, i4 (w4 (a1 - (a0.Text.size : Int))))] hS ?_; intro s hS
 refine ae_ (sq_n (ad_ (ad_ (ab_ ?_))))
 refine qs 2 [(1, i4 (w4 (a1 - (a0.Text.size : Int)))), (11, .bool (decide ((w4 (a1 - (a0.Text.size : Int))) < 0)))] hS ?_; intro s hS
 refine ae_ (sq_n ?_)
 by_cases hc1 : (decide ((w4 (a1 - (a0.Text.size : Int))) < 0)) = true
 ·have h := ak_ hc1 h
  refine af_ hS rfl (fun _ => ?_) (fun hf => ah_ hc1 hf)
  refine ad_ (ab_ ?_)
  refine qs 1 [(4, i4 (-1))] hS ?_; intro s hS
  refine ae_ (sq_n (ao_ (sq_r ?_)))
  injection h with h; subst h
  exact aq_ hH (an_ (v := i4 (-1)) hS rfl r_nil) rfl (by kernel_rfl) (by simp [pureT, pureL, E_i64])
 ·have h := al_ hc1 h
  refine af_ hS rfl (fun hf => ag_ hc1 hf) (fun _ => ?_)
  refine as_ (sq_n (ad_ (ab_ ?_)))
  refine qs 2 [(4, i4 (w4 (a1 - (a0.Text.size : Int))))] hS ?_; intro s hS
  refine ae_ (sq_n (ao_ ?_))
  injection h with h; subst h
  exact aq_ hH (an_ (v := i4 (w4 (a1 - (a0.Text.size : Int)))) hS rfl r_nil) rfl (by kernel_rfl) (by simp [pureT, pureL, E_i64])
noncomputable def eS_ (a0 : ac_) : Option ac_ := (some a0)
theorem i2_ (a0 : ac_) (r : ac_) (h : eS_ a0 = some r) : aQ_ a0 = some r := by
 unfold eS_ at h
 refine ax_ E_DValue_inj rfl rfl ok_32 rfl (all_cons (by kernel_rfl) all_nil) ?_
 intro σ0 s hS hH
 have hS := am_ (L' := [(0, .agg (ac_.cells a0))]) hS (by kernel_rfl)
 refine ad_ (ab_ ?_)
 refine aT_ (v := .agg (ac_.cells a0)) (cs := [i4 a0.Kind, i4 a0.Num, .str a0.Text, i4 a0.Ref]) rfl hS hH rfl rfl (by kernel_rfl) ?_; intro b1 σ s hH hS
 refine aO_ (z := [i4 0, i4 0, .str ⟨#[]⟩, i4 0]) rfl hS hH (by kernel_rfl) ?_; intro b2 σ s hH hS
 refine ae_ (sq_n (ad_ (ab_ ?_)))
 refine aO_ (z := [i4 0, i4 0, .str ⟨#[]⟩, i4 0]) rfl hS hH (by kernel_rfl) ?_; intro b3 σ s hH hS
 refine ae_ (sq_n (ad_ (ab_ ?_)))
 refine qs 1 [(1, .ptr b1 0 0 4), (2, .ptr b2 0 0 4), (3, .ptr b3 0 0 4), (4, .ptr b1 0 0 1)] hS ?_; intro s hS
 refine ai_ (v := i4 a0.Kind) 2 trivial rfl hS hH rfl rfl (by kernel_rfl) ?_; intro s hS
 refine qs 1 [(1, .ptr b1 0 0 4), (2, .ptr b2 0 0 4), (3, .ptr b3 0 0 4), (5, i4 a0.Kind), (6, .ptr b3 0 0 1)] hS ?_; intro s hS
 refine a0_ (v := i4 a0.Kind) (cs := [i4 a0.Kind]) (cells' := [i4 a0.Kind, i4 0, .str ⟨#[]⟩, i4 0]) rfl hS hH rfl rfl rfl (by kernel_rfl) (by kernel_rfl) ?_; intro σ s hH hS
 refine ae_ (sq_n (ad_ (ab_ ?_)))
 refine qs 1 [(1, .ptr b1 0 0 4), (2, .ptr b2 0 0 4), (3, .ptr b3 0 0 4), (7, .ptr b1 0 1 1)] hS ?_; intro s hS
 refine ai_ (v := i4 a0.Num) 2 trivial rfl hS hH rfl rfl (by kernel_rfl) ?_; intro s hS
 refine qs 1 [(1, .ptr b1 0 0 4), (2, .ptr b2 0 0 4), (3, .ptr b3 0 0 4), (8, i4 a0.Num), (9, .ptr b3 0 1 1)] hS ?_; intro s hS
 refine a0_ (v := i4 a0.Num) (cs := [i4 a0.Num]) (cells' := [i4 a0.Kind, i4 a0.Num, .str ⟨#[]⟩, i4 0]) rfl hS hH rfl rfl rfl (by kernel_rfl) (by kernel_rfl) ?_; intro σ s hH hS
 refine ae_ (sq_n (ad_ (ab_ ?_)))
 refine qs 1 [(1, .ptr b1 0 0 4), (2, .ptr b2 0 0 4), (3, .ptr b3 0 0 4), (10, .ptr b1 0 2 1)] hS ?_; intro s hS
 refine ai_ (v := .str a0.Text) 2 trivial rfl hS hH rfl rfl (by kernel_rfl) ?_; intro s hS
 refine qs 1 [(1, .ptr b1 0 0 4), (2, .ptr b2 0 0 4), (3, .ptr b3 0 0 4), (11, .str a0.Text), (12, .ptr b3 0 2 1)] hS ?_; intro s hS
 refine a0_ (v := .str a0.Text) (cs := [.str a0.Text]) (cells' := [i4 a0.Kind, i4 a0.Num, .str a0.Text, i4 0]) rfl hS hH rfl rfl rfl (by kernel_rfl) (by kernel_rfl) ?_; intro σ s hH hS
 refine ae_ (sq_n (ad_ (ab_ ?_)))
 refine qs 1 [(2, .ptr b2 0 0 4), (3, .ptr b3 0 0 4), (13, .ptr b1 0 3 1)] hS ?_; intro s hS
 refine ai_ (v := i4 a0.Ref) 2 trivial rfl hS hH rfl rfl (by kernel_rfl) ?_; intro s hS
 refine qs 1 [(2, .ptr b2 0 0 4), (3, .ptr b3 0 0 4), (14, i4 a0.Ref), (15, .ptr b3 0 3 1)] hS ?_; intro s hS
 refine a0_ (v := i4 a0.Ref) (cs := [i4 a0.Ref]) (cells' := [i4 a0.Kind, i4 a0.Num, .str a0.Text, i4 a0.Ref]) rfl hS hH rfl rfl rfl (by kernel_rfl) (by kernel_rfl) ?_; intro σ s hH hS
 refine ae_ (sq_n (ad_ (ab_ ?_)))
 refine ai_ (v := .agg (ac_.cells a0)) 0 trivial rfl hS hH rfl rfl (by kernel_rfl) ?_; intro s hS
 have hH : Heap σ0 σ [.box b2 [i4 0, i4 0, .str ⟨#[]⟩, i4 0], .box b3 (ac_.cells a0), .box b1 (ac_.cells a0)] := hH.sel [1, 0, 2] rfl (by kernel_rfl)
 refine a0_ (v := .agg (ac_.cells a0)) (cs := [i4 a0.Kind, i4 a0.Num, .str a0.Text, i4 a0.Ref]) (cells' := [i4 a0.Kind, i4 a0.Num, .str a0.Text, i4 a0.Ref]) rfl hS hH rfl rfl rfl (by kernel_rfl) (by kernel_rfl) ?_; intro σ s hH hS
 refine ae_ (sq_n (ao_ ?_))
 injection h with h; subst h
 exact aq_ hH (bf_ (v := .agg (ac_.cells a0)) hS hH rfl (by kernel_rfl) r_nil) rfl (by kernel_rfl) (by simp [pureT, pureL, E_DValue, ac_.cells])
noncomputable def eY_ (a0 : ac_) (a1 : ac_) : Option Bool := (if (!decide (a0.Kind = a1.Kind)) = true then (some false) else (if (!decide (a0.Num = a1.Num)) = true then (some false) else (if (!decide (a0.Text = a1.Text)) = true then (some false) else (if (!decide (a0.Ref = a1.Ref)) = true then (some false) else (some true)))))
theorem i3_ (a0 : ac_) (a1 : ac_) (r : Bool) (h : eY_ a0 a1 = some r) : cA_ a0 a1 = some r := by
 unfold eY_ at h
 refine ax_ E_bool_inj rfl rfl ok_34 rfl (all_cons (by kernel_rfl) (all_cons (by kernel_rfl) all_nil)) ?_
 intro σ0 s hS hH
 have hS := am_ (L' := [(0, .agg (ac_.cells a0)), (1, .agg (ac_.cells a1))]) hS (by kernel_rfl)
 refine ad_ (ab_ ?_)
 refine aT_ (v := .agg (ac_.cells a0)) (cs := [i4 a0.Kind, i4 a0.Num, .str a0.Text, i4 a0.Ref]) rfl hS hH rfl rfl (by kernel_rfl) ?_; intro b1 σ s hH hS
 refine aT_ (v := .agg (ac_.cells a1)) (cs := [i4 a1.Kind, i4 a1.Num, .str a1.Text, i4 a1.Ref]) rfl hS hH rfl rfl (by kernel_rfl) ?_; intro b2 σ s hH hS
 refine qs 1 [(2, .ptr b1 0 0 4), (3, .ptr b2 0 0 4)] hS ?_; intro s hS
 refine ae_ (sq_n (ad_ (ad_ (ab_ ?_))))
 refine qs 1 [(2, .ptr b1 0 0 4), (3, .ptr b2 0 0 4), (5, .ptr b1 0 0 1)] hS ?_; intro s hS
 refine ai_ (v := i4 a0.Kind) 1 trivial rfl hS hH rfl rfl (by kernel_rfl) ?_; intro s hS
 refine qs 1 [(2, .ptr b1 0 0 4), (3, .ptr b2 0 0 4), (6, i4 a0.Kind), (7, .ptr b2 0 0 1)] hS ?_; intro s hS
 refine ai_ (v := i4 a1.Kind) 0 trivial rfl hS hH rfl rfl (by kernel_rfl) ?_; intro s hS
 refine qs 1 [(2, .ptr b1 0 0 4), (3, .ptr b2 0 0 4), (9, .bool (!decide (a0.Kind = a1.Kind)))] hS ?_; intro s hS
 refine ae_ (sq_n ?_)
 by_cases hc1 : (!decide (a0.Kind = a1.Kind)) = true
 ·have h := ak_ hc1 h
  refine af_ hS rfl (fun _ => ?_) (fun hf => ah_ hc1 hf)
  refine ad_ (ab_ ?_)
  refine qs 1 [(4, .bool false)] hS ?_; intro s hS
  refine ae_ (sq_n (ao_ (sq_r ?_)))
  injection h with h; subst h
  exact aq_ hH (an_ (v := .bool false) hS rfl r_nil) rfl (by kernel_rfl) (by simp [pureT, pureL, E_bool])
 ·have h := al_ hc1 h
  refine af_ hS rfl (fun hf => ag_ hc1 hf) (fun _ => ?_)
  refine as_ (sq_n (ad_ (ad_ (ab_ ?_))))
  refine qs 1 [(2, .ptr b1 0 0 4), (3, .ptr b2 0 0 4), (10, .ptr b1 0 1 1)] hS ?_; intro s hS
  refine ai_ (v := i4 a0.Num) 1 trivial rfl hS hH rfl rfl (by kernel_rfl) ?_; intro s hS
  refine qs 1 [(2, .ptr b1 0 0 4), (3, .ptr b2 0 0 4), (11, i4 a0.Num), (12, .ptr b2 0 1 1)] hS ?_; intro s hS
  refine ai_ (v := i4 a1.Num) 0 trivial rfl hS hH rfl rfl (by kernel_rfl) ?_; intro s hS
  refine qs 1 [(2, .ptr b1 0 0 4), (3, .ptr b2 0 0 4), (14, .bool (!decide (a0.Num = a1.Num)))] hS ?_; intro s hS
  refine ae_ (sq_n ?_)
  by_cases hc2 : (!decide (a0.Num = a1.Num)) = true
  ·have h := ak_ hc2 h
   refine af_ hS rfl (fun _ => ?_) (fun hf => ah_ hc2 hf)
   refine ad_ (ab_ ?_)
   refine qs 1 [(4, .bool false)] hS ?_; intro s hS
   refine ae_ (sq_n (ao_ (sq_r ?_)))
   injection h with h; subst h
   exact aq_ hH (an_ (v := .bool false) hS rfl r_nil) rfl (by kernel_rfl) (by simp [pureT, pureL, E_bool])
  ·have h := al_ hc2 h
   refine af_ hS rfl (fun hf => ag_ hc2 hf) (fun _ => ?_)
   refine as_ (sq_n (ad_ (ad_ (ab_ ?_))))
   refine qs 1 [(2, .ptr b1 0 0 4), (3, .ptr b2 0 0 4), (15, .ptr b1 0 2 1)] hS ?_; intro s hS
   refine ai_ (v := .str a0.Text) 1 trivial rfl hS hH rfl rfl (by kernel_rfl) ?_; intro s hS
   refine qs 1 [(2, .ptr b1 0 0 4), (3, .ptr b2 0 0 4), (16, .str a0.Text), (17, .ptr b2 0 2 1)] hS ?_; intro s hS
   refine ai_ (v := .str a1.Text) 0 trivial rfl hS hH rfl rfl (by kernel_rfl) ?_; intro s hS
   refine qs 1 [(2, .ptr b1 0 0 4), (3, .ptr b2 0 0 4), (19, .bool (!decide (a0.Text = a1.Text)))] hS ?_; intro s hS
   refine ae_ (sq_n ?_)
   by_cases hc3 : (!decide (a0.Text = a1.Text)) = true
   ·have h := ak_ hc3 h
    refine af_ hS rfl (fun _ => ?_) (fun hf => ah_ hc3 hf)
    refine ad_ (ab_ ?_)
    refine qs 1 [(4, .bool false)] hS ?_; intro s hS
    refine ae_ (sq_n (ao_ (sq_r ?_)))
    injection h with h; subst h
    exact aq_ hH (an_ (v := .bool false) hS rfl r_nil) rfl (by kernel_rfl) (by simp [pureT, pureL, E_bool])
   ·have h := al_ hc3 h
    refine af_ hS rfl (fun hf => ag_ hc3 hf) (fun _ => ?_)
    refine as_ (sq_n (ad_ (ad_ (ab_ ?_))))
    refine qs 1 [(3, .ptr b2 0 0 4), (20, .ptr b1 0 3 1)] hS ?_; intro s hS
    refine ai_ (v := i4 a0.Ref) 1 trivial rfl hS hH rfl rfl (by kernel_rfl) ?_; intro s hS
    refine qs 1 [(21, i4 a0.Ref), (22, .ptr b2 0 3 1)] hS ?_; intro s hS
    refine ai_ (v := i4 a1.Ref) 0 trivial rfl hS hH rfl rfl (by kernel_rfl) ?_; intro s hS
    refine qs 1 [(24, .bool (!decide (a0.Ref = a1.Ref)))] hS ?_; intro s hS
    refine ae_ (sq_n ?_)
    by_cases hc4 : (!decide (a0.Ref = a1.Ref)) = true
    ·have h := ak_ hc4 h
     refine af_ hS rfl (fun _ => ?_) (fun hf => ah_ hc4 hf)
     refine ad_ (ab_ ?_)
     refine qs 1 [(4, .bool false)] hS ?_; intro s hS
     refine ae_ (sq_n (ao_ (sq_r ?_)))
     injection h with h; subst h
     exact aq_ hH (an_ (v := .bool false) hS rfl r_nil) rfl (by kernel_rfl) (by simp [pureT, pureL, E_bool])
    ·have h := al_ hc4 h
     refine af_ hS rfl (fun hf => ag_ hc4 hf) (fun _ => ?_)
     refine as_ (sq_n (ad_ (ab_ ?_)))
     refine qs 1 [(4, .bool true)] hS ?_; intro s hS
     refine ae_ (sq_n (ao_ ?_))
     injection h with h; subst h
     exact aq_ hH (an_ (v := .bool true) hS rfl r_nil) rfl (by kernel_rfl) (by simp [pureT, pureL, E_bool])
noncomputable def cn_ (a0 : aj_) (a1 : ac_) (a2 : ac_) (a3 : ac_) : Option (aj_ × Bool × Int) := ((fC_ a0 ⟨false, [a1, a2, a3]⟩).bind fun y1 => (if (!y1) = true then (some ((⟨0, ⟨true, []⟩⟩ : aj_), false, 1)) else ((dr_ a1).bind fun y2 => (if (!y2) = true then (some ((⟨0, ⟨true, []⟩⟩ : aj_), false, 4)) else ((d9_ a0).bind fun y3 => ((b5_ a0 a1.Ref).bind fun y4 => ((elt y3.Objects y4).bind fun y5 => (((if (decide (y5.Kind = 2)) = true then ((c3_ y5.Keys a2).bind fun y7 => (some y7)) else (if (!decide (a2.Kind = 2)) = true then (some (-1)) else ((a7_ a2.Num y5.Low (w4 ((w4 (y5.Low + (y5.Vals.l.length : Int))) - 1))).bind fun y8 => (if (!y8) = true then (some (-1)) else (some (w4 (a2.Num - y5.Low))))))) : Option Int).bind fun y6 => (if (decide (0 ≤ y6)) = true then ((elt y5.Vals y6).bind fun y9 => (some ((⟨y3.Next, (setS y3.Objects y4 ((⟨y5.Id, y5.Kind, y5.Name, y5.Low, y5.Keys, (setS y5.Vals y6 (a3 : ac_)), y5.Default⟩ : aa_) : aa_))⟩ : aj_), true, 0))) else (if (decide (y5.Kind = 1)) = true then (some (y3, false, 0)) else (if (decide (30 ≤ (y5.Keys.l.length : Int))) = true then (some ((⟨0, ⟨true, []⟩⟩ : aj_), false, 6)) else ((appS 40 y5.Keys (⟨false, [a2]⟩ : Sl ac_)).bind fun y10 => ((elt (setS y3.Objects y4 ((⟨y5.Id, y5.Kind, y5.Name, y5.Low, y10, y5.Vals, y5.Default⟩ : aa_) : aa_)) y4).bind fun y11 => ((appS 40 y11.Vals (⟨false, [a3]⟩ : Sl ac_)).bind fun y12 => (some ((⟨y3.Next, (setS (setS y3.Objects y4 ((⟨y5.Id, y5.Kind, y5.Name, y5.Low, y10, y5.Vals, y5.Default⟩ : aa_) : aa_)) y4 ((⟨y11.Id, y11.Kind, y11.Name, y11.Low, y11.Keys, y12, y11.Default⟩ : aa_) : aa_))⟩ : aj_), true, 0))))))))))))))))
theorem hq_ (a0 : aj_) (a1 : ac_) (a2 : ac_) (a3 : ac_) (r : (aj_ × Bool × Int)) (h : cn_ a0 a1 a2 a3 = some r) : dv_ a0 a1 a2 a3 = some r := by
 unfold cn_ at h
 refine cx_ rfl rfl ok_39 rfl (all_cons (by kernel_rfl) (all_cons (by kernel_rfl) (all_cons (by kernel_rfl) (all_cons (by kernel_rfl) all_nil)))) ?_
 intro σ0 s hS hH
 have hS := am_ (L' := [(0, .agg (aj_.cells a0)), (1, .agg (ac_.cells a1)), (2, .agg (ac_.cells a2)), (3, .agg (ac_.cells a3))]) hS (by kernel_rfl)
 refine ad_ (ab_ ?_)
 refine aT_ (v := .agg (aj_.cells a0)) (cs := [i4 a0.Next, a0.Objects.t]) rfl hS hH rfl rfl (by kernel_rfl) ?_; intro b1 σ s hH hS
 refine aT_ (v := .agg (ac_.cells a1)) (cs := [i4 a1.Kind, i4 a1.Num, .str a1.Text, i4 a1.Ref]) rfl hS hH rfl rfl (by kernel_rfl) ?_; intro b2 σ s hH hS
 refine aT_ (v := .agg (ac_.cells a2)) (cs := [i4 a2.Kind, i4 a2.Num, .str a2.Text, i4 a2.Ref]) rfl hS hH rfl rfl (by kernel_rfl) ?_; intro b3 σ s hH hS
 refine aT_ (v := .agg (ac_.cells a3)) (cs := [i4 a3.Kind, i4 a3.Num, .str a3.Text, i4 a3.Ref]) rfl hS hH rfl rfl (by kernel_rfl) ?_; intro b4 σ s hH hS
 refine aO_ (z := [i4 0, (nt aa_)]) rfl hS hH (by kernel_rfl) ?_; intro b5 σ s hH hS
 refine qs 2 [(4, .ptr b1 0 0 2), (5, .ptr b2 0 0 4), (6, .ptr b3 0 0 4), (7, .ptr b4 0 0 4), (8, .ptr b5 0 0 2)] hS ?_; intro s hS
 refine ae_ (sq_n (ad_ (ad_ (ab_ ?_))))
 refine ai_ (v := .agg (ac_.cells a1)) 3 trivial rfl hS hH rfl rfl (by kernel_rfl) ?_; intro s hS
 refine ai_ (v := .agg (ac_.cells a2)) 2 trivial rfl hS hH rfl rfl (by kernel_rfl) ?_; intro s hS
 refine ai_ (v := .agg (ac_.cells a3)) 1 trivial rfl hS hH rfl rfl (by kernel_rfl) ?_; intro s hS
 refine q_bs (ents := []) (e := 28) (sz := 4) (z := true) (vs := [.agg (ac_.cells a1), .agg (ac_.cells a2), .agg (ac_.cells a3)]) (zc := [i4 0, i4 0, .str ⟨#[]⟩, i4 0]) (cs := [i4 a1.Kind, i4 a1.Num, .str a1.Text, i4 a1.Ref, i4 a2.Kind, i4 a2.Num, .str a2.Text, i4 a2.Ref, i4 a3.Kind, i4 a3.Num, .str a3.Text, i4 a3.Ref]) (us := [i4 a1.Kind, i4 a1.Num, .str a1.Text, i4 a1.Ref, i4 a2.Kind, i4 a2.Num, .str a2.Text, i4 a2.Ref, i4 a3.Kind, i4 a3.Num, .str a3.Text, i4 a3.Ref]) (v := Sl.t (⟨false, [a1, a2, a3]⟩ : Sl ac_)) rfl hS hH (by kernel_rfl) (by kernel_rfl) (by kernel_rfl) (by kernel_rfl) (by kernel_rfl) (And.intro (by kernel_rfl) (And.intro (by kernel_rfl) (And.intro (by kernel_rfl) (And.intro (by kernel_rfl) (And.intro (by kernel_rfl) (And.intro (by kernel_rfl) trivial)))))) (by kernel_rfl) (HLi (HLi (HLs (HLi (HLi (HLi (HLs (HLi (HLi (HLi (HLs (HLi HL.nil)))))))))))) (by kernel_rfl) ?_; intro t1 σ s ht1 hH hS
 obtain ⟨y1, hy1, h⟩ := bind_some h
 refine oh_ (ents := [.own true 4 t1 (Sl.t (⟨false, [a1, a2, a3]⟩ : Sl ac_))]) (ts := [.ptr b1 0 0 2, t1]) (vs := [.ptr b1 0 0 2, (Sl.t (⟨false, [a1, a2, a3]⟩ : Sl ac_))]) (cs := [[i4 a0.Next, a0.Objects.t]]) [b1] rfl hS rfl rfl rfl hH (HL.leaf (fun σ d => by cases d <;> rfl) (HL.own rfl HL.nil)) rfl (And.intro (Heap.lent (hH.at 5 rfl)) trivial) hy1 (by kernel_rfl) ?_; intro s hS
 refine qs 1 [(4, .ptr b1 0 0 2), (5, .ptr b2 0 0 4), (6, .ptr b3 0 0 4), (7, .ptr b4 0 0 4), (8, .ptr b5 0 0 2), (19, .bool (!y1))] hS ?_; intro s hS
 refine ae_ (sq_n ?_)
 by_cases hc1 : (!y1) = true
 ·have h := ak_ hc1 h
  refine af_ hS rfl (fun _ => ?_) (fun hf => ah_ hc1 hf)
  refine ad_ (ab_ ?_)
  refine qs 1 [(8, .ptr b5 0 0 2), (20, .agg [i4 0, (nt aa_)])] hS ?_; intro s hS
  have hH : Heap σ0 σ [.box b5 [i4 0, (nt aa_)], .own true 4 t1 (Sl.t (⟨false, [a1, a2, a3]⟩ : Sl ac_)), .box b4 (ac_.cells a3), .box b3 (ac_.cells a2), .box b2 (ac_.cells a1), .box b1 (aj_.cells a0)] := hH.sel [1, 0, 2, 3, 4, 5] rfl (by kernel_rfl)
  refine aF_ (cs := [i4 0, (nt aa_)]) rfl hS hH rfl rfl (by kernel_rfl) ?_; intro σ s hH hS
  refine qs 2 [(8, .ptr b5 0 0 2), (9, .bool false), (10, i4 1)] hS ?_; intro s hS
  refine ae_ (sq_n (ao_ (sq_r ?_)))
  injection h with h; subst h
  have hH := Heap.addNil hH true 10
  exact a8_ [(T.row true 0 [])] [.box b5 [i4 0, (nt aa_)], .own true 4 t1 (Sl.t (⟨false, [a1, a2, a3]⟩ : Sl ac_)), .box b4 (ac_.cells a3), .box b3 (ac_.cells a2), .box b2 (ac_.cells a1), .box b1 (aj_.cells a0)] (bf_ (v := .agg [i4 0, (nt aa_)]) hS (hH.at 1 rfl) rfl (by kernel_rfl) (an_ (v := .bool false) hS rfl (an_ (v := i4 1) hS rfl r_nil))) (by kernel_rfl) rfl hH (by kernel_rfl)
 ·have h := al_ hc1 h
  refine af_ hS rfl (fun hf => ag_ hc1 hf) (fun _ => ?_)
  refine as_ (sq_n (ad_ (ad_ (ab_ ?_))))
  refine ai_ (v := .agg (ac_.cells a1)) 4 trivial rfl hS hH rfl rfl (by kernel_rfl) ?_; intro s hS
  obtain ⟨y2, hy2, h⟩ := bind_some h
  refine ar_ (a := []) (b := []) (xs := [.agg (ac_.cells a1)]) rfl hS rfl rfl hy2 ?_; intro s hS
  refine qs 1 [(4, .ptr b1 0 0 2), (5, .ptr b2 0 0 4), (6, .ptr b3 0 0 4), (7, .ptr b4 0 0 4), (8, .ptr b5 0 0 2), (23, .bool (!y2))] hS ?_; intro s hS
  refine ae_ (sq_n ?_)
  by_cases hc2 : (!y2) = true
  ·have h := ak_ hc2 h
   refine af_ hS rfl (fun _ => ?_) (fun hf => ah_ hc2 hf)
   refine ad_ (ab_ ?_)
   refine qs 1 [(8, .ptr b5 0 0 2), (24, .agg [i4 0, (nt aa_)])] hS ?_; intro s hS
   have hH : Heap σ0 σ [.box b5 [i4 0, (nt aa_)], .own true 4 t1 (Sl.t (⟨false, [a1, a2, a3]⟩ : Sl ac_)), .box b4 (ac_.cells a3), .box b3 (ac_.cells a2), .box b2 (ac_.cells a1), .box b1 (aj_.cells a0)] := hH.sel [1, 0, 2, 3, 4, 5] rfl (by kernel_rfl)
   refine aF_ (cs := [i4 0, (nt aa_)]) rfl hS hH rfl rfl (by kernel_rfl) ?_; intro σ s hH hS
   refine qs 2 [(8, .ptr b5 0 0 2), (9, .bool false), (10, i4 4)] hS ?_; intro s hS
   refine ae_ (sq_n (ao_ (sq_r ?_)))
   injection h with h; subst h
   have hH := Heap.addNil hH true 10
   exact a8_ [(T.row true 0 [])] [.box b5 [i4 0, (nt aa_)], .own true 4 t1 (Sl.t (⟨false, [a1, a2, a3]⟩ : Sl ac_)), .box b4 (ac_.cells a3), .box b3 (ac_.cells a2), .box b2 (ac_.cells a1), .box b1 (aj_.cells a0)] (bf_ (v := .agg [i4 0, (nt aa_)]) hS (hH.at 1 rfl) rfl (by kernel_rfl) (an_ (v := .bool false) hS rfl (an_ (v := i4 4) hS rfl r_nil))) (by kernel_rfl) rfl hH (by kernel_rfl)
  ·have h := al_ hc2 h
   refine af_ hS rfl (fun hf => ag_ hc2 hf) (fun _ => ?_)
   refine as_ (sq_n (ad_ (ab_ ?_)))
   obtain ⟨y3, hy3, h⟩ := bind_some h
   refine jF_ rfl (xs := [.ptr b1 0 0 2]) (cs := [[i4 a0.Next, a0.Objects.t]]) [b1] rfl hS rfl rfl rfl hH (And.intro (Heap.lent (hH.at 5 rfl)) trivial) hy3 ?_; intro hs σ s hl hH hS
   obtain ⟨t2, rfl⟩ := len1 hl
   have hH : Heap σ0 σ [.own true 10 t2 y3.Objects.t, .own true 4 t1 (Sl.t (⟨false, [a1, a2, a3]⟩ : Sl ac_)), .box b5 [i4 0, (nt aa_)], .box b4 (ac_.cells a3), .box b3 (ac_.cells a2), .box b2 (ac_.cells a1), .box b1 (aj_.cells a0)] := hH
   have ht2 : aV_ t2 := Heap.one hH
   refine aO_ (z := [i4 0, (nt aa_)]) rfl hS hH (by kernel_rfl) ?_; intro b6 σ s hH hS
   refine aF_ (cs := [i4 y3.Next, t2]) rfl hS hH rfl rfl (by simp [ht2.1, ht2.2]) ?_; intro σ s hH hS
   refine ae_ (sq_n (ad_ ?_))
   refine dk_ (by kernel_rfl) hH ?_; intro mb σ hH
   refine qs 1 [(4, .ptr b1 0 0 2), (5, .ptr b2 0 0 4), (6, .ptr b3 0 0 4), (7, .ptr b4 0 0 4), (8, .ptr b5 0 0 2), (11, .ptr b6 0 0 2), (26, .ptr b6 0 1 1)] hS ?_; intro s hS
   refine ai_ (v := t2) 0 trivial rfl hS hH rfl rfl (by kernel_rfl) ?_; intro s hS
   refine qs 1 [(4, .ptr b1 0 0 2), (6, .ptr b3 0 0 4), (7, .ptr b4 0 0 4), (8, .ptr b5 0 0 2), (11, .ptr b6 0 0 2), (27, t2), (28, .ptr b2 0 3 1)] hS ?_; intro s hS
   refine ai_ (v := i4 a1.Ref) 6 trivial rfl hS hH rfl rfl (by kernel_rfl) ?_; intro s hS
   obtain ⟨y4, hy4, h⟩ := bind_some h
   refine fI_ (xs := [.ptr b1 0 0 2, i4 a1.Ref]) (cs := [[i4 a0.Next, a0.Objects.t]]) [b1] rfl hS rfl rfl rfl (And.intro (Heap.lent (hH.at 7 rfl)) trivial) hy4 ?_; intro s hS
   have hH : Heap σ0 σ [.own true 10 t2 y3.Objects.t, .box b6 [i4 y3.Next, t2], .own true 4 t1 (Sl.t (⟨false, [a1, a2, a3]⟩ : Sl ac_)), .box b5 [i4 0, (nt aa_)], .box b4 (ac_.cells a3), .box b3 (ac_.cells a2), .box b2 (ac_.cells a1), .box b1 (aj_.cells a0)] := hH.sel [1, 0, 2, 3, 4, 5, 6, 7] rfl (by kernel_rfl)
   obtain ⟨y5, hy5, h⟩ := bind_some h
   refine cP_ (a := y3.Objects) (e := 30) (fun _ _ _ _ _ => trivial) rfl hS hH rfl rfl (by kernel_rfl) (by kernel_rfl) hy5 ?_; intro hb1 hb1e s hl_hb1 hS
   refine qs 1 [(6, .ptr b3 0 0 4), (7, .ptr b4 0 0 4), (8, .ptr b5 0 0 2), (11, .ptr b6 0 0 2), (12, .ptr hb1 hb1e (y4.toNat * Enc.w aa_) (Enc.w aa_))] hS ?_; intro s hS
   refine ae_ (sq_n (ad_ (ab_ ?_)))
   refine qs 1 [(6, .ptr b3 0 0 4), (7, .ptr b4 0 0 4), (8, .ptr b5 0 0 2), (11, .ptr b6 0 0 2), (12, .ptr hb1 hb1e (y4.toNat * Enc.w aa_) (Enc.w aa_)), (32, .ptr hb1 hb1e (y4.toNat * Enc.w aa_) (Enc.w aa_))] hS ?_; intro s hS
   refine ai_ (v := .agg (ac_.cells a2)) 5 trivial rfl hS hH rfl rfl (by kernel_rfl) ?_; intro s hS
   obtain ⟨y6, hy6, h⟩ := bind_some h
   refine m9_ (HF := fun s σ => Sub [(6, .ptr b3 0 0 4), (7, .ptr b4 0 0 4), (8, .ptr b5 0 0 2), (11, .ptr b6 0 0 2), (12, .ptr hb1 hb1e (y4.toNat * Enc.w aa_) (Enc.w aa_)), (34, i4 y6)] s ∧ Heap σ0 σ [.box b6 [i4 y3.Next, t2], .box b5 [i4 0, (nt aa_)], .box b4 (ac_.cells a3), .box b3 (ac_.cells a2), .own true 10 t2 y3.Objects.t]) [.ptr hb1 hb1e (y4.toNat * Enc.w aa_) (Enc.w aa_), .agg (ac_.cells a2)] rfl hS rfl rfl rfl rfl rfl ok_90 rfl ?_ ?_
   ·clear h; have h := hy6; intro s hS
    have hS := am_ (L' := [(0, .ptr hb1 hb1e (y4.toNat * Enc.w aa_) (Enc.w aa_)), (1, .agg (ac_.cells a2))]) hS (by kernel_rfl)
    refine ad_ (ab_ ?_)
    refine aT_ (v := .agg (ac_.cells a2)) (cs := [i4 a2.Kind, i4 a2.Num, .str a2.Text, i4 a2.Ref]) rfl hS hH rfl rfl (by kernel_rfl) ?_; intro b7 σ s hH hS
    refine qs 1 [(0, .ptr hb1 hb1e (y4.toNat * Enc.w aa_) (Enc.w aa_)), (3, .ptr b7 0 0 4)] hS ?_; intro s hS
    refine ae_ (sq_n (ad_ (ad_ (ab_ ?_))))
    refine qs 3 [(0, .ptr hb1 hb1e (y4.toNat * Enc.w aa_) (Enc.w aa_)), (3, .ptr b7 0 0 4), (7, .ptr hb1 hb1e (y4.toNat * Enc.w aa_ + 1) 1)] hS ?_; intro s hS
    have hH : Heap σ0 σ [.own true 10 t2 y3.Objects.t, .box b7 (ac_.cells a2), .box b6 [i4 y3.Next, t2], .own true 4 t1 (Sl.t (⟨false, [a1, a2, a3]⟩ : Sl ac_)), .box b5 [i4 0, (nt aa_)], .box b4 (ac_.cells a3), .box b3 (ac_.cells a2), .box b2 (ac_.cells a1), .box b1 (aj_.cells a0)] := hH.sel [1, 0, 2, 3, 4, 5, 6, 7, 8] rfl (by kernel_rfl)
    refine iY_ (a := y3.Objects) (j := y4) (y := y5) (off := 1) (c := [i4 y5.Id, i4 y5.Kind, .str y5.Name, i4 y5.Low, y5.Keys.t, y5.Vals.t, i4 y5.Default.Kind, i4 y5.Default.Num, .str y5.Default.Text, i4 y5.Default.Ref]) (v := i4 y5.Kind) (fun _ _ _ _ _ => trivial) rfl hS hH hl_hb1 rfl hy5 rfl (by kernel_rfl) rfl rfl gf_ ?_; intro s hS
    refine qs 1 [(0, .ptr hb1 hb1e (y4.toNat * Enc.w aa_) (Enc.w aa_)), (3, .ptr b7 0 0 4), (9, .bool (decide (y5.Kind = 2)))] hS ?_; intro s hS
    refine ae_ (sq_n ?_)
    by_cases hc3 : (decide (y5.Kind = 2)) = true
    ·have h := ak_ hc3 h
     refine af_ hS rfl (fun _ => ?_) (fun hf => ah_ hc3 hf)
     refine ad_ ?_
     refine dk_ (by kernel_rfl) hH ?_; intro mb σ hH
     refine qs 3 [(3, .ptr b7 0 0 4), (12, .ptr hb1 hb1e (y4.toNat * Enc.w aa_ + 4) 1)] hS ?_; intro s hS
     refine gb_ (a := y3.Objects) (j := y4) (y := y5) (off := 4) (c := [i4 y5.Id, i4 y5.Kind, .str y5.Name, i4 y5.Low, y5.Keys.t, y5.Vals.t, i4 y5.Default.Kind, i4 y5.Default.Num, .str y5.Default.Text, i4 y5.Default.Ref]) (q := (y5.Keys : Sl ac_)) (fun _ _ _ _ _ => trivial) rfl hS hH hl_hb1 rfl hy5 rfl (by kernel_rfl) rfl rfl ?_; intro F1 σk1 t3 s ht3 hH hcl1 hcl1s hcl1p hcl1k hcl1f hS
     refine ai_ (v := .agg (ac_.cells a2)) 2 trivial rfl hS hH rfl rfl (by kernel_rfl) ?_; intro s hS
     obtain ⟨y7, hy7, h⟩ := bind_some h
     refine dV_ (ents := [.own true 0 t3 y5.Keys.t]) (z := false) (ts := [t3, .agg (ac_.cells a2)]) (vs := [y5.Keys.t, .agg (ac_.cells a2)]) rfl hS rfl rfl rfl hH (HL.own rfl (HL.agg (es1 := []) (es2 := []) (HLi (HLi (HLs (HLi HL.nil)))) HL.nil)) hy7 (by kernel_rfl) ?_; intro s hS
     refine qs 1 [(4, i4 y7)] hS ?_; intro s hS
     have hH := hcl1s _ _ hH
     have hH : Heap σ0 σ [.own true 10 t2 y3.Objects.t, .box b7 (ac_.cells a2), .box b6 [i4 y3.Next, t2], .own true 4 t1 (Sl.t (⟨false, [a1, a2, a3]⟩ : Sl ac_)), .box b5 [i4 0, (nt aa_)], .box b4 (ac_.cells a3), .box b3 (ac_.cells a2), .box b2 (ac_.cells a1), .box b1 (aj_.cells a0)] := hH
     refine ae_ (sq_n (ao_ (sq_r ?_)))
     refine fS_ (v := i4 y7) (an_ (v := i4 y7) hS rfl r_nil) rfl ?_; intro s hS
     injection h with h; subst h
     exact And.intro (am_ hS (by kernel_rfl)) (Heap.sel hH [2, 4, 5, 6, 0] rfl (by kernel_rfl))
    ·have h := al_ hc3 h
     refine af_ hS rfl (fun hf => ag_ hc3 hf) (fun _ => ?_)
     refine as_ (sq_n (ad_ (ad_ ?_)))
     refine dk_ (by kernel_rfl) hH ?_; intro mb σ hH
     refine qs 1 [(0, .ptr hb1 hb1e (y4.toNat * Enc.w aa_) (Enc.w aa_)), (3, .ptr b7 0 0 4), (16, .ptr b7 0 0 1)] hS ?_; intro s hS
     refine ai_ (v := i4 a2.Kind) 1 trivial rfl hS hH rfl rfl (by kernel_rfl) ?_; intro s hS
     refine qs 2 [(19, .bool (!decide (a2.Kind = 2))), (0, .ptr hb1 hb1e (y4.toNat * Enc.w aa_) (Enc.w aa_)), (3, .ptr b7 0 0 4)] hS ?_; intro s hS
     by_cases hc4 : (!decide (a2.Kind = 2)) = true
     ·have h := ak_ hc4 h
      have hS := ap_ hS hc4
      refine qs 20 [(0, .ptr hb1 hb1e (y4.toNat * Enc.w aa_) (Enc.w aa_)), (3, .ptr b7 0 0 4), (39, .bool true)] hS ?_; intro s hS
      refine ae_ (sq_n ?_)
      refine af_ (t := true) hS rfl (fun _ => ?_) (fun hf => by cases hf)
      refine ad_ (ab_ ?_)
      refine qs 1 [(4, i4 (-1))] hS ?_; intro s hS
      refine ae_ (sq_n (ao_ (sq_r ?_)))
      refine fS_ (v := i4 (-1)) (an_ (v := i4 (-1)) hS rfl r_nil) rfl ?_; intro s hS
      injection h with h; subst h
      exact And.intro (am_ hS (by kernel_rfl)) (Heap.sel hH [2, 4, 5, 6, 0] rfl (by kernel_rfl))
     ·have h := al_ hc4 h
      have hS := ap_ hS (aB_ hc4)
      refine qs 1 [(0, .ptr hb1 hb1e (y4.toNat * Enc.w aa_) (Enc.w aa_)), (3, .ptr b7 0 0 4), (19, .bool false), (20, .ptr b7 0 1 1)] hS ?_; intro s hS
      refine ai_ (v := i4 a2.Num) 1 trivial rfl hS hH rfl rfl (by kernel_rfl) ?_; intro s hS
      refine qs 3 [(0, .ptr hb1 hb1e (y4.toNat * Enc.w aa_) (Enc.w aa_)), (3, .ptr b7 0 0 4), (19, .bool false), (21, i4 a2.Num), (24, .ptr hb1 hb1e (y4.toNat * Enc.w aa_ + 3) 1)] hS ?_; intro s hS
      refine iY_ (a := y3.Objects) (j := y4) (y := y5) (off := 3) (c := [i4 y5.Id, i4 y5.Kind, .str y5.Name, i4 y5.Low, y5.Keys.t, y5.Vals.t, i4 y5.Default.Kind, i4 y5.Default.Num, .str y5.Default.Text, i4 y5.Default.Ref]) (v := i4 y5.Low) (fun _ _ _ _ _ => trivial) rfl hS hH hl_hb1 rfl hy5 rfl (by kernel_rfl) rfl rfl gf_ ?_; intro s hS
      refine qs 3 [(0, .ptr hb1 hb1e (y4.toNat * Enc.w aa_) (Enc.w aa_)), (3, .ptr b7 0 0 4), (19, .bool false), (21, i4 a2.Num), (25, i4 y5.Low), (28, .ptr hb1 hb1e (y4.toNat * Enc.w aa_ + 3) 1)] hS ?_; intro s hS
      refine iY_ (a := y3.Objects) (j := y4) (y := y5) (off := 3) (c := [i4 y5.Id, i4 y5.Kind, .str y5.Name, i4 y5.Low, y5.Keys.t, y5.Vals.t, i4 y5.Default.Kind, i4 y5.Default.Num, .str y5.Default.Text, i4 y5.Default.Ref]) (v := i4 y5.Low) (fun _ _ _ _ _ => trivial) rfl hS hH hl_hb1 rfl hy5 rfl (by kernel_rfl) rfl rfl gf_ ?_; intro s hS
      refine qs 3 [(0, .ptr hb1 hb1e (y4.toNat * Enc.w aa_) (Enc.w aa_)), (3, .ptr b7 0 0 4), (19, .bool false), (21, i4 a2.Num), (25, i4 y5.Low), (29, i4 y5.Low), (32, .ptr hb1 hb1e (y4.toNat * Enc.w aa_ + 5) 1)] hS ?_; intro s hS
      refine gb_ (a := y3.Objects) (j := y4) (y := y5) (off := 5) (c := [i4 y5.Id, i4 y5.Kind, .str y5.Name, i4 y5.Low, y5.Keys.t, y5.Vals.t, i4 y5.Default.Kind, i4 y5.Default.Num, .str y5.Default.Text, i4 y5.Default.Ref]) (q := (y5.Vals : Sl ac_)) (fun _ _ _ _ _ => trivial) rfl hS hH hl_hb1 rfl hy5 rfl (by kernel_rfl) rfl rfl ?_; intro F2 σk2 t4 s ht4 hH hcl2 hcl2s hcl2p hcl2k hcl2f hS
      refine la_ (a := y5.Vals) rfl hS hH rfl (by kernel_rfl) ?_; intro s hS
      refine qs 2 [(0, .ptr hb1 hb1e (y4.toNat * Enc.w aa_) (Enc.w aa_)), (3, .ptr b7 0 0 4), (19, .bool false), (21, i4 a2.Num), (25, i4 y5.Low), (36, i4 (w4 ((w4 (y5.Low + (y5.Vals.l.length : Int))) - 1)))] hS ?_; intro s hS
      have hH := hcl2s _ _ hH
      have hH : Heap σ0 σ [.own true 10 t2 y3.Objects.t, .box b7 (ac_.cells a2), .box b6 [i4 y3.Next, t2], .own true 4 t1 (Sl.t (⟨false, [a1, a2, a3]⟩ : Sl ac_)), .box b5 [i4 0, (nt aa_)], .box b4 (ac_.cells a3), .box b3 (ac_.cells a2), .box b2 (ac_.cells a1), .box b1 (aj_.cells a0)] := hH
      obtain ⟨y8, hy8, h⟩ := bind_some h
      refine ar_ (a := []) (b := []) (xs := [i4 a2.Num, i4 y5.Low, i4 (w4 ((w4 (y5.Low + (y5.Vals.l.length : Int))) - 1))]) rfl hS rfl rfl hy8 ?_; intro s hS
      refine qs 2 [(0, .ptr hb1 hb1e (y4.toNat * Enc.w aa_) (Enc.w aa_)), (3, .ptr b7 0 0 4), (39, .bool (!y8))] hS ?_; intro s hS
      refine ae_ (sq_n ?_)
      by_cases hc5 : (!y8) = true
      ·have h := ak_ hc5 h
       refine af_ hS rfl (fun _ => ?_) (fun hf => ah_ hc5 hf)
       refine ad_ (ab_ ?_)
       refine qs 1 [(4, i4 (-1))] hS ?_; intro s hS
       refine ae_ (sq_n (ao_ (sq_r ?_)))
       refine fS_ (v := i4 (-1)) (an_ (v := i4 (-1)) hS rfl r_nil) rfl ?_; intro s hS
       injection h with h; subst h
       exact And.intro (am_ hS (by kernel_rfl)) (Heap.sel hH [2, 4, 5, 6, 0] rfl (by kernel_rfl))
      ·have h := al_ hc5 h
       refine af_ hS rfl (fun hf => ag_ hc5 hf) (fun _ => ?_)
       refine as_ (sq_n (ad_ ?_))
       refine dk_ (by kernel_rfl) hH ?_; intro mb σ hH
       refine qs 1 [(0, .ptr hb1 hb1e (y4.toNat * Enc.w aa_) (Enc.w aa_)), (40, .ptr b7 0 1 1)] hS ?_; intro s hS
       refine ai_ (v := i4 a2.Num) 1 trivial rfl hS hH rfl rfl (by kernel_rfl) ?_; intro s hS
       refine qs 3 [(41, i4 a2.Num), (44, .ptr hb1 hb1e (y4.toNat * Enc.w aa_ + 3) 1)] hS ?_; intro s hS
       refine iY_ (a := y3.Objects) (j := y4) (y := y5) (off := 3) (c := [i4 y5.Id, i4 y5.Kind, .str y5.Name, i4 y5.Low, y5.Keys.t, y5.Vals.t, i4 y5.Default.Kind, i4 y5.Default.Num, .str y5.Default.Text, i4 y5.Default.Ref]) (v := i4 y5.Low) (fun _ _ _ _ _ => trivial) rfl hS hH hl_hb1 rfl hy5 rfl (by kernel_rfl) rfl rfl gf_ ?_; intro s hS
       refine qs 2 [(4, i4 (w4 (a2.Num - y5.Low)))] hS ?_; intro s hS
       refine ae_ (sq_n (ao_ ?_))
       refine fS_ (v := i4 (w4 (a2.Num - y5.Low))) (an_ (v := i4 (w4 (a2.Num - y5.Low))) hS rfl r_nil) rfl ?_; intro s hS
       injection h with h; subst h
       exact And.intro (am_ hS (by kernel_rfl)) (Heap.sel hH [2, 4, 5, 6, 0] rfl (by kernel_rfl))
   ·intro s σ HF; obtain ⟨hS, hH⟩ := HF
    refine qs 1 [(6, .ptr b3 0 0 4), (7, .ptr b4 0 0 4), (8, .ptr b5 0 0 2), (11, .ptr b6 0 0 2), (12, .ptr hb1 hb1e (y4.toNat * Enc.w aa_) (Enc.w aa_)), (13, i4 y6)] hS ?_; intro s hS
    refine ae_ (sq_n (ad_ (aw_ (ad_ (ab_ ?_)))))
    refine qs 3 [(6, .ptr b3 0 0 4), (7, .ptr b4 0 0 4), (8, .ptr b5 0 0 2), (11, .ptr b6 0 0 2), (12, .ptr hb1 hb1e (y4.toNat * Enc.w aa_) (Enc.w aa_)), (13, i4 y6), (55, .bool (decide (0 ≤ y6)))] hS ?_; intro s hS
    refine ae_ (sq_n ?_)
    by_cases hc6 : (decide (0 ≤ y6)) = true
    ·have h := ak_ hc6 h
     refine af_ hS rfl (fun _ => ?_) (fun hf => ah_ hc6 hf)
     refine b6_ (W2 (fun _ => False) (fun _ => True)) (fun _ => rfl) (by kernel_rfl) (by kernel_rfl) hH ?_; intro mb σs σ hn0 hlt hlto hH
     refine qs 3 [(7, .ptr b4 0 0 4), (8, .ptr b5 0 0 2), (11, .ptr b6 0 0 2), (13, i4 y6), (60, .ptr hb1 hb1e (y4.toNat * Enc.w aa_ + 5) 1)] hS ?_; intro s hS
     have hH : Heap σ0 σ [.own true 10 t2 y3.Objects.t, .box b6 [i4 y3.Next, t2], .box b5 [i4 0, (nt aa_)], .box b4 (ac_.cells a3), .box b3 (ac_.cells a2)] := hH.sel [4, 0, 1, 2, 3] rfl (by kernel_rfl)
     refine gb_ (a := y3.Objects) (j := y4) (y := y5) (off := 5) (c := [i4 y5.Id, i4 y5.Kind, .str y5.Name, i4 y5.Low, y5.Keys.t, y5.Vals.t, i4 y5.Default.Kind, i4 y5.Default.Num, .str y5.Default.Text, i4 y5.Default.Ref]) (q := (y5.Vals : Sl ac_)) (fun _ _ _ _ _ => Or.inl (by kernel_rfl)) rfl hS hH hl_hb1 rfl hy5 rfl (by kernel_rfl) rfl rfl ?_; intro F3 σk3 t5 s ht5 hH hcl3 hcl3s hcl3p hcl3k hcl3f hS
     refine qs 1 [(7, .ptr b4 0 0 4), (8, .ptr b5 0 0 2), (11, .ptr b6 0 0 2), (61, t5), (62, i4 y6)] hS ?_; intro s hS
     refine ai_ (v := .agg (ac_.cells a3)) 4 (Or.inl (by kernel_rfl)) rfl hS hH rfl rfl (by kernel_rfl) ?_; intro s hS
     obtain ⟨y9, hy9, h⟩ := bind_some h
     refine cP_ (a := y5.Vals) (e := 28) (fun _ _ _ _ _ => Or.inl (by kernel_rfl)) rfl hS hH rfl rfl (by kernel_rfl) (by kernel_rfl) hy9 ?_; intro hb2 hb2e s hl_hb2 hS
     refine iA_ rfl (ents := []) (a := y5.Vals) (j := y6) (y := y9) (y' := (a3 : ac_)) (off := 0) (c := [i4 y9.Kind, i4 y9.Num, .str y9.Text, i4 y9.Ref]) (us := [i4 a3.Kind, i4 a3.Num, .str a3.Text, i4 a3.Ref]) (vs := [i4 a3.Kind, i4 a3.Num, .str a3.Text, i4 a3.Ref]) (v := .agg (ac_.cells a3)) (by exact Or.inr ⟨false, by kernel_rfl, trivial⟩) rfl hS hH hl_hb2 rfl rfl rfl (by kernel_rfl) (by kernel_rfl) rfl hy9 rfl (HLi (HLi (HLs (HLi HL.nil)))) rfl (by kernel_rfl) ?_; intro σ s hH hS
     have hH := hcl3 _ _ _ ((⟨y5.Id, y5.Kind, y5.Name, y5.Low, y5.Keys, (setS y5.Vals y6 (a3 : ac_)), y5.Default⟩ : aa_) : aa_) rfl hH
     have hH : Heap σ0 σ [.own true 10 t2 (setS y3.Objects y4 ((⟨y5.Id, y5.Kind, y5.Name, y5.Low, y5.Keys, (setS y5.Vals y6 (a3 : ac_)), y5.Default⟩ : aa_) : aa_)).t, .box b6 [i4 y3.Next, t2], .box b5 [i4 0, (nt aa_)], .box b4 (ac_.cells a3), .box b3 (ac_.cells a2)] := hH
     refine ae_ (bk_n (sq_n (ad_ (ab_ ?_))))
     refine ai_ (v := .agg [i4 y3.Next, t2]) 1 trivial rfl hS hH rfl rfl (by kernel_rfl) ?_; intro s hS
     have hH : Heap σ0 σ [.box b5 [i4 0, (nt aa_)], .own true 10 t2 (setS y3.Objects y4 ((⟨y5.Id, y5.Kind, y5.Name, y5.Low, y5.Keys, (setS y5.Vals y6 (a3 : ac_)), y5.Default⟩ : aa_) : aa_)).t, .box b6 [i4 y3.Next, t2], .box b4 (ac_.cells a3), .box b3 (ac_.cells a2)] := hH.sel [2, 0, 1, 3, 4] rfl (by kernel_rfl)
     refine aF_ (cs := [i4 y3.Next, t2]) rfl hS hH rfl rfl (by simp [ht2.1, ht2.2]) ?_; intro σ s hH hS
     refine qs 2 [(8, .ptr b5 0 0 2), (9, .bool true), (10, i4 0)] hS ?_; intro s hS
     refine ae_ (sq_n (ao_ ?_))
     injection h with h; subst h
     have hH : Heap σ0 σ [.own true 10 t2 (setS y3.Objects y4 ((⟨y5.Id, y5.Kind, y5.Name, y5.Low, y5.Keys, (setS y5.Vals y6 (a3 : ac_)), y5.Default⟩ : aa_) : aa_)).t, .box b5 [i4 y3.Next, t2], .box b6 [i4 y3.Next, t2], .box b4 (ac_.cells a3), .box b3 (ac_.cells a2)] := hH.sel [1, 0, 2, 3, 4] rfl (by kernel_rfl)
     exact a8_ [t2] [.box b5 [i4 y3.Next, t2], .box b6 [i4 y3.Next, t2], .box b4 (ac_.cells a3), .box b3 (ac_.cells a2)] (bf_ (v := .agg [i4 y3.Next, t2]) hS (hH.at 1 rfl) rfl (by kernel_rfl) (an_ (v := .bool true) hS rfl (an_ (v := i4 0) hS rfl r_nil))) (by kernel_rfl) rfl hH (by kernel_rfl)
    ·have h := al_ hc6 h
     refine af_ hS rfl (fun hf => ag_ hc6 hf) (fun _ => ?_)
     refine ad_ (ab_ ?_)
     refine qs 3 [(6, .ptr b3 0 0 4), (7, .ptr b4 0 0 4), (8, .ptr b5 0 0 2), (11, .ptr b6 0 0 2), (12, .ptr hb1 hb1e (y4.toNat * Enc.w aa_) (Enc.w aa_)), (68, .ptr hb1 hb1e (y4.toNat * Enc.w aa_ + 1) 1)] hS ?_; intro s hS
     have hH : Heap σ0 σ [.own true 10 t2 y3.Objects.t, .box b6 [i4 y3.Next, t2], .box b5 [i4 0, (nt aa_)], .box b4 (ac_.cells a3), .box b3 (ac_.cells a2)] := hH.sel [4, 0, 1, 2, 3] rfl (by kernel_rfl)
     refine iY_ (a := y3.Objects) (j := y4) (y := y5) (off := 1) (c := [i4 y5.Id, i4 y5.Kind, .str y5.Name, i4 y5.Low, y5.Keys.t, y5.Vals.t, i4 y5.Default.Kind, i4 y5.Default.Num, .str y5.Default.Text, i4 y5.Default.Ref]) (v := i4 y5.Kind) (fun _ _ _ _ _ => trivial) rfl hS hH hl_hb1 rfl hy5 rfl (by kernel_rfl) rfl rfl gf_ ?_; intro s hS
     refine qs 2 [(6, .ptr b3 0 0 4), (7, .ptr b4 0 0 4), (8, .ptr b5 0 0 2), (11, .ptr b6 0 0 2), (12, .ptr hb1 hb1e (y4.toNat * Enc.w aa_) (Enc.w aa_)), (65, .bool (decide (y5.Kind = 1)))] hS ?_; intro s hS
     refine ae_ (sq_n ?_)
     by_cases hc7 : (decide (y5.Kind = 1)) = true
     ·have h := ak_ hc7 h
      refine af_ hS rfl (fun _ => ?_) (fun hf => ah_ hc7 hf)
      refine ad_ (ab_ ?_)
      refine ai_ (v := .agg [i4 y3.Next, t2]) 1 trivial rfl hS hH rfl rfl (by kernel_rfl) ?_; intro s hS
      have hH : Heap σ0 σ [.box b5 [i4 0, (nt aa_)], .own true 10 t2 y3.Objects.t, .box b6 [i4 y3.Next, t2], .box b4 (ac_.cells a3), .box b3 (ac_.cells a2)] := hH.sel [2, 0, 1, 3, 4] rfl (by kernel_rfl)
      refine aF_ (cs := [i4 y3.Next, t2]) rfl hS hH rfl rfl (by simp [ht2.1, ht2.2]) ?_; intro σ s hH hS
      refine qs 2 [(8, .ptr b5 0 0 2), (9, .bool false), (10, i4 0)] hS ?_; intro s hS
      refine ae_ (sq_n (ao_ (bk_r (sq_r ?_))))
      injection h with h; subst h
      have hH : Heap σ0 σ [.own true 10 t2 y3.Objects.t, .box b5 [i4 y3.Next, t2], .box b6 [i4 y3.Next, t2], .box b4 (ac_.cells a3), .box b3 (ac_.cells a2)] := hH.sel [1, 0, 2, 3, 4] rfl (by kernel_rfl)
      exact a8_ [t2] [.box b5 [i4 y3.Next, t2], .box b6 [i4 y3.Next, t2], .box b4 (ac_.cells a3), .box b3 (ac_.cells a2)] (bf_ (v := .agg [i4 y3.Next, t2]) hS (hH.at 1 rfl) rfl (by kernel_rfl) (an_ (v := .bool false) hS rfl (an_ (v := i4 0) hS rfl r_nil))) (by kernel_rfl) rfl hH (by kernel_rfl)
     ·have h := al_ hc7 h
      refine af_ hS rfl (fun hf => ag_ hc7 hf) (fun _ => ?_)
      refine ad_ (ab_ ?_)
      refine qs 3 [(6, .ptr b3 0 0 4), (7, .ptr b4 0 0 4), (8, .ptr b5 0 0 2), (11, .ptr b6 0 0 2), (12, .ptr hb1 hb1e (y4.toNat * Enc.w aa_) (Enc.w aa_)), (75, .ptr hb1 hb1e (y4.toNat * Enc.w aa_ + 4) 1)] hS ?_; intro s hS
      refine gb_ (a := y3.Objects) (j := y4) (y := y5) (off := 4) (c := [i4 y5.Id, i4 y5.Kind, .str y5.Name, i4 y5.Low, y5.Keys.t, y5.Vals.t, i4 y5.Default.Kind, i4 y5.Default.Num, .str y5.Default.Text, i4 y5.Default.Ref]) (q := (y5.Keys : Sl ac_)) (fun _ _ _ _ _ => trivial) rfl hS hH hl_hb1 rfl hy5 rfl (by kernel_rfl) rfl rfl ?_; intro F4 σk4 t6 s ht6 hH hcl4 hcl4s hcl4p hcl4k hcl4f hS
      refine la_ (a := y5.Keys) rfl hS hH rfl (by kernel_rfl) ?_; intro s hS
      refine qs 2 [(6, .ptr b3 0 0 4), (7, .ptr b4 0 0 4), (8, .ptr b5 0 0 2), (11, .ptr b6 0 0 2), (12, .ptr hb1 hb1e (y4.toNat * Enc.w aa_) (Enc.w aa_)), (72, .bool (decide (30 ≤ (y5.Keys.l.length : Int))))] hS ?_; intro s hS
      have hH := hcl4s _ _ hH
      have hH : Heap σ0 σ [.own true 10 t2 y3.Objects.t, .box b6 [i4 y3.Next, t2], .box b5 [i4 0, (nt aa_)], .box b4 (ac_.cells a3), .box b3 (ac_.cells a2)] := hH
      refine ae_ (sq_n ?_)
      by_cases hc8 : (decide (30 ≤ (y5.Keys.l.length : Int))) = true
      ·have h := ak_ hc8 h
       refine af_ hS rfl (fun _ => ?_) (fun hf => ah_ hc8 hf)
       refine ad_ (ab_ ?_)
       refine qs 1 [(8, .ptr b5 0 0 2), (79, .agg [i4 0, (nt aa_)])] hS ?_; intro s hS
       have hH : Heap σ0 σ [.box b5 [i4 0, (nt aa_)], .own true 10 t2 y3.Objects.t, .box b6 [i4 y3.Next, t2], .box b4 (ac_.cells a3), .box b3 (ac_.cells a2)] := hH.sel [2, 0, 1, 3, 4] rfl (by kernel_rfl)
       refine aF_ (cs := [i4 0, (nt aa_)]) rfl hS hH rfl rfl (by kernel_rfl) ?_; intro σ s hH hS
       refine qs 2 [(8, .ptr b5 0 0 2), (9, .bool false), (10, i4 6)] hS ?_; intro s hS
       refine ae_ (sq_n (ao_ (bk_r (sq_r ?_))))
       injection h with h; subst h
       have hH := Heap.addNil hH true 10
       exact a8_ [(T.row true 0 [])] [.box b5 [i4 0, (nt aa_)], .own true 10 t2 y3.Objects.t, .box b6 [i4 y3.Next, t2], .box b4 (ac_.cells a3), .box b3 (ac_.cells a2)] (bf_ (v := .agg [i4 0, (nt aa_)]) hS (hH.at 1 rfl) rfl (by kernel_rfl) (an_ (v := .bool false) hS rfl (an_ (v := i4 6) hS rfl r_nil))) (by kernel_rfl) rfl hH (by kernel_rfl)
      ·have h := al_ hc8 h
       refine af_ hS rfl (fun hf => ag_ hc8 hf) (fun _ => ?_)
       refine ad_ ?_
       refine b6_ (W2 (fun _ => True) (fun _ => True)) (fun _ => rfl) (by kernel_rfl) (by kernel_rfl) hH ?_; intro mb σs σ hn0 hlt hlto hH
       refine qs 4 [(6, .ptr b3 0 0 4), (7, .ptr b4 0 0 4), (8, .ptr b5 0 0 2), (11, .ptr b6 0 0 2), (12, .ptr hb1 hb1e (y4.toNat * Enc.w aa_) (Enc.w aa_)), (35, .ptr hb1 hb1e (y4.toNat * Enc.w aa_) (Enc.w aa_)), (38, .ptr hb1 hb1e (y4.toNat * Enc.w aa_ + 4) 1)] hS ?_; intro s hS
       refine gb_ (a := y3.Objects) (j := y4) (y := y5) (off := 4) (c := [i4 y5.Id, i4 y5.Kind, .str y5.Name, i4 y5.Low, y5.Keys.t, y5.Vals.t, i4 y5.Default.Kind, i4 y5.Default.Num, .str y5.Default.Text, i4 y5.Default.Ref]) (q := (y5.Keys : Sl ac_)) (fun _ _ _ _ _ => Or.inl (by kernel_rfl)) rfl hS hH hl_hb1 rfl hy5 rfl (by kernel_rfl) rfl rfl ?_; intro F5 σk5 t7 s ht7 hH hcl5 hcl5s hcl5p hcl5k hcl5f hS
       refine ai_ (v := .agg (ac_.cells a2)) 5 (Or.inl (by kernel_rfl)) rfl hS hH rfl rfl (by kernel_rfl) ?_; intro s hS
       refine jA_ rfl (by exact hn0) (ents := []) (e := 28) (sz := 4) (z := true) (vs := [.agg (ac_.cells a2)]) (zc := [i4 0, i4 0, .str ⟨#[]⟩, i4 0]) (cs := [i4 a2.Kind, i4 a2.Num, .str a2.Text, i4 a2.Ref]) (us := [i4 a2.Kind, i4 a2.Num, .str a2.Text, i4 a2.Ref]) (v := Sl.t (⟨false, [a2]⟩ : Sl ac_)) rfl hS hH (by kernel_rfl) (by kernel_rfl) (by kernel_rfl) (by kernel_rfl) (by kernel_rfl) (And.intro (by kernel_rfl) (And.intro (by kernel_rfl) trivial)) (by kernel_rfl) (HLi (HLi (HLs (HLi HL.nil)))) (by kernel_rfl) ?_; intro t8 σ s ht8 hH hS
       have hH : Heap σ0 σ [.own true 0 t7 y5.Keys.t, .own true 4 t8 (Sl.t (⟨false, [a2]⟩ : Sl ac_)), .keep F5 σk5, .box b6 [i4 y3.Next, t2], .box b5 [i4 0, (nt aa_)], .box b4 (ac_.cells a3), .box b3 (ac_.cells a2)] := hH.sel [1, 0, 2, 3, 4, 5, 6] rfl (by kernel_rfl)
       have hH := Heap.width (a := y5.Keys) hH
       have hH : Heap σ0 σ [.own true 4 t7 y5.Keys.t, .own true 4 t8 (Sl.t (⟨false, [a2]⟩ : Sl ac_)), .keep F5 σk5, .box b6 [i4 y3.Next, t2], .box b5 [i4 0, (nt aa_)], .box b4 (ac_.cells a3), .box b3 (ac_.cells a2)] := hH
       obtain ⟨y10, hy10, h⟩ := bind_some h
       refine iV_ rfl (by exact hn0) (z := true) (t1 := t7) (a := y5.Keys) (b := (⟨false, [a2]⟩ : Sl ac_)) (e := 28) (by_ := 40) (zc := [i4 0, i4 0, .str ⟨#[]⟩, i4 0]) (by exact fun _ _ _ _ _ => Or.inr ⟨true, by kernel_rfl, trivial⟩) rfl hS hH rfl rfl (by kernel_rfl) (by kernel_rfl) (by kernel_rfl) (by kernel_rfl) (by kernel_rfl) (by kernel_rfl) hy10 ?_; intro t9 σ s ht9 hH hS
       refine qs 2 [(7, .ptr b4 0 0 4), (8, .ptr b5 0 0 2), (11, .ptr b6 0 0 2), (12, .ptr hb1 hb1e (y4.toNat * Enc.w aa_) (Enc.w aa_)), (42, t9), (44, .ptr hb1 hb1e (y4.toNat * Enc.w aa_ + 4) 1)] hS ?_; intro s hS
       refine kA_ (a := y3.Objects) (j := y4) (off := 4) (c := [i4 y5.Id, i4 y5.Kind, .str y5.Name, i4 y5.Low, y5.Keys.t, y5.Vals.t, i4 y5.Default.Kind, i4 y5.Default.Num, .str y5.Default.Text, i4 y5.Default.Ref]) (q2 := y10) rfl ((⟨y5.Id, y5.Kind, y5.Name, y5.Low, y10, y5.Vals, y5.Default⟩ : aa_) : aa_) (by exact Or.inr ⟨false, by kernel_rfl, trivial⟩) rfl hS hcl5p hH rfl rfl ht9 (by kernel_rfl) (by kernel_rfl) rfl ?_; intro σ s hH hS
       have hH : Heap σ0 σ [.own true 10 t2 (setS y3.Objects y4 ((⟨y5.Id, y5.Kind, y5.Name, y5.Low, y10, y5.Vals, y5.Default⟩ : aa_) : aa_)).t, .box b6 [i4 y3.Next, t2], .box b5 [i4 0, (nt aa_)], .box b4 (ac_.cells a3), .box b3 (ac_.cells a2)] := hH
       refine ae_ (sq_n ?_)
       refine b6_ (W2 (fun _ => True) (fun _ => True)) (fun _ => rfl) (by kernel_rfl) (by kernel_rfl) hH ?_; intro mb σs σ hn0 hlt hlto hH
       refine qs 4 [(7, .ptr b4 0 0 4), (8, .ptr b5 0 0 2), (11, .ptr b6 0 0 2), (45, .ptr hb1 hb1e (y4.toNat * Enc.w aa_) (Enc.w aa_)), (48, .ptr hb1 hb1e (y4.toNat * Enc.w aa_ + 5) 1)] hS ?_; intro s hS
       obtain ⟨y11, hy11, h⟩ := bind_some h
       have hl_hb1 : t2 = .ref hb1 hb1e 0 (setS y3.Objects y4 ((⟨y5.Id, y5.Kind, y5.Name, y5.Low, y10, y5.Vals, y5.Default⟩ : aa_) : aa_)).l.length := by rw [hl_hb1]; simp [setS]
       refine gb_ (a := (setS y3.Objects y4 ((⟨y5.Id, y5.Kind, y5.Name, y5.Low, y10, y5.Vals, y5.Default⟩ : aa_) : aa_))) (j := y4) (y := y11) (off := 5) (c := [i4 y11.Id, i4 y11.Kind, .str y11.Name, i4 y11.Low, y11.Keys.t, y11.Vals.t, i4 y11.Default.Kind, i4 y11.Default.Num, .str y11.Default.Text, i4 y11.Default.Ref]) (q := (y11.Vals : Sl ac_)) (fun _ _ _ _ _ => Or.inl (by kernel_rfl)) rfl hS hH hl_hb1 rfl hy11 rfl (by kernel_rfl) rfl rfl ?_; intro F6 σk6 t10 s ht10 hH hcl6 hcl6s hcl6p hcl6k hcl6f hS
       refine ai_ (v := .agg (ac_.cells a3)) 4 (Or.inl (by kernel_rfl)) rfl hS hH rfl rfl (by kernel_rfl) ?_; intro s hS
       refine jA_ rfl (by exact hn0) (ents := []) (e := 28) (sz := 4) (z := true) (vs := [.agg (ac_.cells a3)]) (zc := [i4 0, i4 0, .str ⟨#[]⟩, i4 0]) (cs := [i4 a3.Kind, i4 a3.Num, .str a3.Text, i4 a3.Ref]) (us := [i4 a3.Kind, i4 a3.Num, .str a3.Text, i4 a3.Ref]) (v := Sl.t (⟨false, [a3]⟩ : Sl ac_)) rfl hS hH (by kernel_rfl) (by kernel_rfl) (by kernel_rfl) (by kernel_rfl) (by kernel_rfl) (And.intro (by kernel_rfl) (And.intro (by kernel_rfl) trivial)) (by kernel_rfl) (HLi (HLi (HLs (HLi HL.nil)))) (by kernel_rfl) ?_; intro t11 σ s ht11 hH hS
       have hH : Heap σ0 σ [.own true 0 t10 y11.Vals.t, .own true 4 t11 (Sl.t (⟨false, [a3]⟩ : Sl ac_)), .keep F6 σk6, .box b6 [i4 y3.Next, t2], .box b5 [i4 0, (nt aa_)], .box b4 (ac_.cells a3), .box b3 (ac_.cells a2)] := hH.sel [1, 0, 2, 3, 4, 5, 6] rfl (by kernel_rfl)
       have hH := Heap.width (a := y11.Vals) hH
       have hH : Heap σ0 σ [.own true 4 t10 y11.Vals.t, .own true 4 t11 (Sl.t (⟨false, [a3]⟩ : Sl ac_)), .keep F6 σk6, .box b6 [i4 y3.Next, t2], .box b5 [i4 0, (nt aa_)], .box b4 (ac_.cells a3), .box b3 (ac_.cells a2)] := hH
       obtain ⟨y12, hy12, h⟩ := bind_some h
       refine iV_ rfl (by exact hn0) (z := true) (t1 := t10) (a := y11.Vals) (b := (⟨false, [a3]⟩ : Sl ac_)) (e := 28) (by_ := 40) (zc := [i4 0, i4 0, .str ⟨#[]⟩, i4 0]) (by exact fun _ _ _ _ _ => Or.inr ⟨true, by kernel_rfl, trivial⟩) rfl hS hH rfl rfl (by kernel_rfl) (by kernel_rfl) (by kernel_rfl) (by kernel_rfl) (by kernel_rfl) (by kernel_rfl) hy12 ?_; intro t12 σ s ht12 hH hS
       refine qs 2 [(8, .ptr b5 0 0 2), (11, .ptr b6 0 0 2), (52, t12), (54, .ptr hb1 hb1e (y4.toNat * Enc.w aa_ + 5) 1)] hS ?_; intro s hS
       refine kA_ (a := (setS y3.Objects y4 ((⟨y5.Id, y5.Kind, y5.Name, y5.Low, y10, y5.Vals, y5.Default⟩ : aa_) : aa_))) (j := y4) (off := 5) (c := [i4 y11.Id, i4 y11.Kind, .str y11.Name, i4 y11.Low, y11.Keys.t, y11.Vals.t, i4 y11.Default.Kind, i4 y11.Default.Num, .str y11.Default.Text, i4 y11.Default.Ref]) (q2 := y12) rfl ((⟨y11.Id, y11.Kind, y11.Name, y11.Low, y11.Keys, y12, y11.Default⟩ : aa_) : aa_) (by exact Or.inr ⟨false, by kernel_rfl, trivial⟩) rfl hS hcl6p hH rfl rfl ht12 (by kernel_rfl) (by kernel_rfl) rfl ?_; intro σ s hH hS
       have hH : Heap σ0 σ [.own true 10 t2 (setS (setS y3.Objects y4 ((⟨y5.Id, y5.Kind, y5.Name, y5.Low, y10, y5.Vals, y5.Default⟩ : aa_) : aa_)) y4 ((⟨y11.Id, y11.Kind, y11.Name, y11.Low, y11.Keys, y12, y11.Default⟩ : aa_) : aa_)).t, .box b6 [i4 y3.Next, t2], .box b5 [i4 0, (nt aa_)], .box b4 (ac_.cells a3), .box b3 (ac_.cells a2)] := hH
       refine ae_ (bk_n (sq_n (ad_ (ab_ ?_))))
       refine ai_ (v := .agg [i4 y3.Next, t2]) 1 trivial rfl hS hH rfl rfl (by kernel_rfl) ?_; intro s hS
       have hH : Heap σ0 σ [.box b5 [i4 0, (nt aa_)], .own true 10 t2 (setS (setS y3.Objects y4 ((⟨y5.Id, y5.Kind, y5.Name, y5.Low, y10, y5.Vals, y5.Default⟩ : aa_) : aa_)) y4 ((⟨y11.Id, y11.Kind, y11.Name, y11.Low, y11.Keys, y12, y11.Default⟩ : aa_) : aa_)).t, .box b6 [i4 y3.Next, t2], .box b4 (ac_.cells a3), .box b3 (ac_.cells a2)] := hH.sel [2, 0, 1, 3, 4] rfl (by kernel_rfl)
       refine aF_ (cs := [i4 y3.Next, t2]) rfl hS hH rfl rfl (by simp [ht2.1, ht2.2]) ?_; intro σ s hH hS
       refine qs 2 [(8, .ptr b5 0 0 2), (9, .bool true), (10, i4 0)] hS ?_; intro s hS
       refine ae_ (sq_n (ao_ ?_))
       injection h with h; subst h
       have hH : Heap σ0 σ [.own true 10 t2 (setS (setS y3.Objects y4 ((⟨y5.Id, y5.Kind, y5.Name, y5.Low, y10, y5.Vals, y5.Default⟩ : aa_) : aa_)) y4 ((⟨y11.Id, y11.Kind, y11.Name, y11.Low, y11.Keys, y12, y11.Default⟩ : aa_) : aa_)).t, .box b5 [i4 y3.Next, t2], .box b6 [i4 y3.Next, t2], .box b4 (ac_.cells a3), .box b3 (ac_.cells a2)] := hH.sel [1, 0, 2, 3, 4] rfl (by kernel_rfl)
       exact a8_ [t2] [.box b5 [i4 y3.Next, t2], .box b6 [i4 y3.Next, t2], .box b4 (ac_.cells a3), .box b3 (ac_.cells a2)] (bf_ (v := .agg [i4 y3.Next, t2]) hS (hH.at 1 rfl) rfl (by kernel_rfl) (an_ (v := .bool true) hS rfl (an_ (v := i4 0) hS rfl r_nil))) (by kernel_rfl) rfl hH (by kernel_rfl)
end Go.Am
