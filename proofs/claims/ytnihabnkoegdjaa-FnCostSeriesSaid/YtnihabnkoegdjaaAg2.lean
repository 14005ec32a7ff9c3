/- Functions of the program. -/
import Derived.Test.YtnihabnkoegdjaaAd0
import Derived.Test.YtnihabnkoegdjaaAg1
set_option maxRecDepth 100000
set_option maxHeartbeats 4000000
set_option linter.unusedVariables false
set_option linter.unusedSimpArgs false
namespace Go.Am
open Go.Proofs
noncomputable def aJ_ (a0 : aa_) (a1 : Int) : Option (Bool × aa_) := (if a0.isMere_ = true then (((if (decide (a0.steps_ = a0.fuel_)) = true then (some (false, a0.steps_, 7, (⟨true, []⟩ : Sl DMatch))) else (some (true, (w4 (a0.steps_ + 1)), a0.code_, a0.matches_))) : Option (Bool × Int × Int × (Sl DMatch))).bind fun y1 => (some (y1.1, (⟨a0.env_, a0.subject_, a0.fuel_, y1.2.1, a0.start_, a0.now_, a0.conds_, y1.2.2.2, a0.most_, a0.isMere_, T.nilm, y1.2.2.1⟩ : aa_)))) else (((if (decide (a0.steps_ = a0.fuel_)) = true then (some (false, a0.steps_, 7, (⟨true, []⟩ : Sl DMatch))) else (some (true, (w4 (a0.steps_ + 1)), a0.code_, a0.matches_))) : Option (Bool × Int × Int × (Sl DMatch))).bind fun y2 => (if (!y2.1) = true then (some (false, (⟨a0.env_, a0.subject_, a0.fuel_, y2.2.1, a0.start_, a0.now_, a0.conds_, y2.2.2.2, a0.most_, a0.isMere_, T.nilm, y2.2.2.1⟩ : aa_))) else (if (decide ((y2.2.2.2.l.length : Int) = 60)) = true then (some (false, (⟨a0.env_, a0.subject_, a0.fuel_, y2.2.1, a0.start_, a0.now_, a0.conds_, y2.2.2.2, a0.most_, a0.isMere_, T.nilm, 6⟩ : aa_))) else ((cR_ ⟨false, [a0.now_, a0.conds_]⟩).bind fun y3 => ((appS 40 y2.2.2.2 (⟨false, [(⟨a0.start_, a1, y3⟩ : DMatch)]⟩ : Sl DMatch)).bind fun y4 => (some ((!decide ((y4.l.length : Int) = a0.most_)), (⟨a0.env_, a0.subject_, a0.fuel_, y2.2.1, a0.start_, a0.now_, a0.conds_, y4, a0.most_, a0.isMere_, T.nilm, y2.2.2.1⟩ : aa_)))))))))
theorem ge_ (a0 : aa_) (a1 : Int) (r : (Bool × aa_)) (h : aJ_ a0 a1 = some r) (bp0 : Nat) (mq_bp0 : T) (mh_bp0 : isMp mq_bp0 = true) (p0_1 p0_2 p0_3 : T) : RawS Try.prog md ext 113 [.ptr bp0 0 0 12, i4 a1] 3 (fun hs => E_bool r.1) [.box bp0 [a0.env_.t, .str a0.subject_, i4 a0.fuel_, i4 a0.steps_, i4 a0.start_, p0_1, p0_2, p0_3, i4 a0.most_, .bool a0.isMere_, mq_bp0, i4 a0.code_], .flt 4 p0_1 a0.now_.t, .flt 4 p0_2 a0.conds_.t, .own true 3 p0_3 a0.matches_.t] (fun hs => aX_ bp0 mq_bp0 r.2 hs) := by
 unfold aJ_ at h
 refine b6_ rfl rfl ok_113 rfl ?_
 intro σ0 σ F σk s hS hH
 have hp0_1 : am_ p0_1 := Heap.fltOne (hH.at 1 rfl)
 have hp0_2 : am_ p0_2 := Heap.fltOne (hH.at 2 rfl)
 have hp0_3 : am_ p0_3 := Heap.one (hH.at 3 rfl)
 have hmq_bp0 : am_ mq_bp0 := fL_ mh_bp0
 have hS := ad_ (L' := [(0, .ptr bp0 0 0 12), (1, i4 a1)]) hS (by kernel_rfl)
 refine t_go h hS hH ?_
 refine t_RN ?_
 refine t_RU 3 ?_
 refine ae_ 0 ?_
 refine t_U 1 ?_
 refine aH_ 9 (fun hc1 => ?_) fun hc1 => ?_
 ·refine t_N ?_
  refine t_cT rfl ?_
  refine t_RU 3 ?_
  refine ae_ 0 ?_
  refine t_U 1 ?_
  refine t_gT 18 hc1 ?_
  refine t_U 1 ?_
  refine eL_ (fun y1 s σ => ∃ t1, am_ t1 ∧ Sub [(18, .bool true), (20, .bool y1.1)] s ∧ Heap σ0 σ [.box bp0 [a0.env_.t, .str a0.subject_, i4 a0.fuel_, i4 y1.2.1, i4 a0.start_, p0_1, p0_2, t1, i4 a0.most_, .bool a0.isMere_, mq_bp0, i4 y1.2.2.1], .flt 4 p0_1 a0.now_.t, .flt 4 p0_2 a0.conds_.t, .own true 3 t1 y1.2.2.2.t, .keep F σk]) ok_137 (fun y1 => ?_) fun y1 s σ HF h => ?_
  ·refine t_RN ?_
   refine t_D fun mb => ?_
   refine t_U 3 ?_
   refine ae_ 0 ?_
   refine t_U 3 ?_
   refine ae_ 0 ?_
   refine t_N ?_
   refine t_if (fun hc2 => ?_) fun hc2 => ?_
   ·refine t_RU 1 ?_
    refine dx_ ok_142 ?_
    refine t_RN ?_
    refine t_RU 5 ?_
    refine aG_ 0 ?_
    refine t_U 2 ?_
    refine aG_ 0 ?_
    refine t_N ?_
    refine t_RN ?_
    refine k_eI (rT rN) ?_
    refine t_N ?_
    refine t_h (Heap.addNil · true 3) ?_
    exact b8_ (rT rN) fun he hS hH => he ▸ ⟨(T.row true 0 []), ⟨rfl, rfl⟩, (ad_ hS (by kernel_rfl)), (Heap.sel hH [1, 2, 3, 0, 5] rfl (by kernel_rfl))⟩
   refine t_RU 3 ?_
   refine ae_ 0 ?_
   refine t_U 3 ?_
   refine aG_ 0 ?_
   refine t_N ?_
   refine t_RU 3 ?_
   refine ae_ 0 ?_
   refine lF_ mh_bp0 ?_
   refine t_N ?_
   refine lB_ [] [.box bp0 [a0.env_.t, .str a0.subject_, i4 a0.fuel_, i4 (w4 (a0.steps_ + 1)), i4 a0.start_, p0_1, p0_2, p0_3, i4 a0.most_, .bool a0.isMere_, mq_bp0, i4 a0.code_], .flt 4 p0_1 a0.now_.t, .flt 4 p0_2 a0.conds_.t, .own true 3 p0_3 a0.matches_.t, .keep F σk] ?_ ?_
   ·refine n3_ (fun hc3 => ?_) fun hc3 => ?_
    ·refine t_RU 3 ?_
     refine ae_ 0 ?_
     refine t_U 1 ?_
     refine ho_ hc3 KeyM.nil ?_
     refine t_U 1 ?_
     refine hw_ hc3 KeyM.nil ?_
     refine t_N ?_
     exact t_eU fun hS hH => ⟨rfl, ad_ hS (by kernel_rfl), hH⟩
    exact t_eU fun hS hH => ⟨rfl, ad_ hS (by kernel_rfl), hH⟩
   refine t_RN ?_
   exact b8_ (rT rN) fun he hS hH => he ▸ ⟨p0_3, hp0_3, (ad_ hS (by kernel_rfl)), hH⟩
  obtain ⟨t1, ht1, ⟨hS, hH⟩⟩ := HF
  refine t_bk h hS hH ?_
  refine t_N ?_
  intro h s σ hS hH
  obtain rfl := si_1 h
  exact aL_ [p0_1, p0_2, t1] (bu_ (v := .bool y1.1) hS rfl r_nil) rfl rfl hH
 refine t_U 1 ?_
 refine eL_ (fun y2 s σ => ∃ t2, am_ t2 ∧ Sub [(0, .ptr bp0 0 0 12), (1, i4 a1), (9, .bool false), (11, .bool y2.1)] s ∧ Heap σ0 σ [.box bp0 [a0.env_.t, .str a0.subject_, i4 a0.fuel_, i4 y2.2.1, i4 a0.start_, p0_1, p0_2, t2, i4 a0.most_, .bool a0.isMere_, mq_bp0, i4 y2.2.2.1], .flt 4 p0_1 a0.now_.t, .flt 4 p0_2 a0.conds_.t, .own true 3 t2 y2.2.2.2.t, .keep F σk]) ok_137 (fun y2 => ?_) fun y2 s σ HF h => ?_
 ·refine t_RN ?_
  refine t_D fun mb => ?_
  refine t_U 3 ?_
  refine ae_ 0 ?_
  refine t_U 3 ?_
  refine ae_ 0 ?_
  refine t_N ?_
  refine t_if (fun hc4 => ?_) fun hc4 => ?_
  ·refine t_RU 1 ?_
   refine dx_ ok_142 ?_
   refine t_RN ?_
   refine t_RU 5 ?_
   refine aG_ 0 ?_
   refine t_U 2 ?_
   refine aG_ 0 ?_
   refine t_N ?_
   refine t_RN ?_
   refine k_eI (rT rN) ?_
   refine t_N ?_
   refine t_h (Heap.addNil · true 3) ?_
   exact b8_ (rT rN) fun he hS hH => he ▸ ⟨(T.row true 0 []), ⟨rfl, rfl⟩, (ad_ hS (by kernel_rfl)), (Heap.sel hH [1, 2, 3, 0, 5] rfl (by kernel_rfl))⟩
  refine t_RU 3 ?_
  refine ae_ 0 ?_
  refine t_U 3 ?_
  refine aG_ 0 ?_
  refine t_N ?_
  refine t_RU 3 ?_
  refine ae_ 0 ?_
  refine lF_ mh_bp0 ?_
  refine t_N ?_
  refine lB_ [] [.box bp0 [a0.env_.t, .str a0.subject_, i4 a0.fuel_, i4 (w4 (a0.steps_ + 1)), i4 a0.start_, p0_1, p0_2, p0_3, i4 a0.most_, .bool a0.isMere_, mq_bp0, i4 a0.code_], .flt 4 p0_1 a0.now_.t, .flt 4 p0_2 a0.conds_.t, .own true 3 p0_3 a0.matches_.t, .keep F σk] ?_ ?_
  ·refine n3_ (fun hc5 => ?_) fun hc5 => ?_
   ·refine t_RU 3 ?_
    refine ae_ 0 ?_
    refine t_U 1 ?_
    refine ho_ hc5 KeyM.nil ?_
    refine t_U 1 ?_
    refine hw_ hc5 KeyM.nil ?_
    refine t_N ?_
    exact t_eU fun hS hH => ⟨rfl, ad_ hS (by kernel_rfl), hH⟩
   exact t_eU fun hS hH => ⟨rfl, ad_ hS (by kernel_rfl), hH⟩
  refine t_RN ?_
  exact b8_ (rT rN) fun he hS hH => he ▸ ⟨p0_3, hp0_3, (ad_ hS (by kernel_rfl)), hH⟩
 obtain ⟨t2, ht2, ⟨hS, hH⟩⟩ := HF
 refine t_bk h hS hH ?_
 refine t_N ?_
 refine t_if (fun hc6 => ?_) fun hc6 => ?_
 ·refine t_RU 3 ?_
  refine ae_ 0 ?_
  refine t_U 1 ?_
  refine t_gF 18 hc1 ?_
  refine t_N ?_
  intro h s σ hS hH
  obtain rfl := si_1 h
  exact aL_ [p0_1, p0_2, t2] (bu_ (v := .bool false) hS rfl r_nil) rfl rfl hH
 refine t_RU 3 ?_
 refine ae_ 0 ?_
 refine fy_ (a := y2.2.2.2) 3 ?_
 refine t_N ?_
 refine t_if (fun hc7 => ?_) fun hc7 => ?_
 ·refine t_RU 3 ?_
  refine aG_ 0 ?_
  refine t_N ?_
  refine t_RN ?_
  intro h s σ hS hH
  obtain rfl := si_1 h
  exact aL_ [p0_1, p0_2, t2] (bu_ (v := .bool false) hS rfl r_nil) rfl rfl hH
 refine a3_ [(22, RN), (25, RN)] ext_x fun mb σs hn0 hlt hlto => ?_
 have hlt_bp0 : bp0 < mb := hlt bp0 _ (List.Mem.head _)
 refine t_U 4 ?_
 refine ae_ 0 ?_ (hlt := by exact (Or.inr ⟨hlt_bp0, (Wc.cons (.inl (by kernel_rfl)) (Wc.cons (.inl (by kernel_rfl)) Wc.nil))⟩))
 refine t_U 3 ?_
 refine ae_ 0 ?_ (hlt := by exact (Or.inr ⟨hlt_bp0, (Wc.cons (.inl (by kernel_rfl)) (Wc.cons (.inl (by kernel_rfl)) Wc.nil))⟩))
 refine t_U 4 ?_
 refine ae_ 0 ?_ (hlt := by exact (Or.inl (by kernel_rfl)))
 refine t_U 3 ?_
 refine ae_ 0 ?_ (hlt := by exact (Or.inl (by kernel_rfl)))
 intro h s σ hS hH
 refine rt_ rfl (by exact hn0) (e := 91) (sz := 1) (vs := [p0_1, p0_2]) (zc := [(nt DCapture)]) (cs := [p0_1, p0_2]) (v := (T.row false 2 [p0_1, p0_2])) rfl hS hH (by kernel_rfl) (by kernel_rfl) (by kernel_rfl) (by kernel_rfl) (by kernel_rfl) (⟨(by simp [hp0_1.1, hp0_1.2]), (by simp [hp0_1.1, hp0_1.2]), (by simp [hp0_2.1, hp0_2.2]), (by simp [hp0_2.1, hp0_2.2]), trivial⟩) (by simp [hp0_1.1, hp0_1.2, hp0_2.1, hp0_2.2]) rfl ?_; intro t3 σ s ht3 hH hS
 have hH : Heap σ0 σ [.flt 1 t3 (T.row false 2 [p0_1, p0_2]), .box bp0 [a0.env_.t, .str a0.subject_, i4 a0.fuel_, i4 y2.2.1, i4 a0.start_, p0_1, p0_2, t2, i4 a0.most_, .bool a0.isMere_, mq_bp0, i4 y2.2.2.1], .flt 4 p0_1 a0.now_.t, .flt 4 p0_2 a0.conds_.t, .own true 3 t2 y2.2.2.2.t, .keep F σk] := hH
 have hH := hH.up3.up3.up2
 obtain ⟨y3, hy3, h⟩ := bind_some h
 refine og_ rfl (ts := [t3]) (vs := [(Sl.t (⟨false, [a0.now_, a0.conds_]⟩ : Sl (Sl DCapture)))]) rfl hS rfl rfl rfl hH (pW_ hH) hy3 ?_; intro hs σ s hl hH hS
 obtain ⟨t4, rfl⟩ := len1 hl
 have hH : Heap σ0 σ [.own true 4 t4 y3.t, .flt 1 t3 (T.row false 2 [p0_1, p0_2]), .flt 4 p0_1 a0.now_.t, .flt 4 p0_2 a0.conds_.t, .box bp0 [a0.env_.t, .str a0.subject_, i4 a0.fuel_, i4 y2.2.1, i4 a0.start_, p0_1, p0_2, t2, i4 a0.most_, .bool a0.isMere_, mq_bp0, i4 y2.2.2.1], .own true 3 t2 y2.2.2.2.t, .keep F σk] := hH
 have ht4 : am_ t4 := Heap.one hH
 refine kH_ (qs := [(0, i4 a0.start_), (1, i4 a1), (2, t4)]) (z := [i4 0, i4 0, (nt DCapture)]) (r := [i4 a0.start_, i4 a1, t4]) [[i4 a0.start_], [i4 a1], [t4]] rfl hS rfl (by kernel_rfl) (by kernel_rfl) (⟨rfl, (by kernel_rfl), rfl, (by kernel_rfl), (by simp [ht4.1, ht4.2]), (by simp [ht4.1, ht4.2]), trivial⟩) (by kernel_rfl) ?_; intro s hS
 refine t_bk h hS hH ?_
 refine k_bs (z := true) (⟨false, [(⟨a0.start_, a1, y3⟩ : DMatch)]⟩ : Sl DMatch) (fun t5 ht5 => ?_) (hb := by exact hn0) (h1 := by simp [ht4.1, ht4.2])
 refine jX_ 5 0 (fun y4 t6 hy4 ht6 => ?_) (hb := by exact hn0) (hwr := by exact fun hH b e o n h0 => Or.inr ⟨22, by kernel_rfl, fun h => h⟩)
 refine t_U 2 ?_
 refine bE_ 4 ht6 ?_ (hwr := by exact fun hH => Or.inr ⟨25, by kernel_rfl, fun h => h⟩)
 refine t_N ?_
 refine t_D fun mb => ?_
 refine t_U 3 ?_
 refine ae_ 0 ?_
 refine fy_ (a := y4) 1 ?_
 refine t_U 3 ?_
 refine ae_ 0 ?_
 refine t_N ?_
 intro h s σ hS hH
 obtain rfl := si_1 h
 exact aL_ [p0_1, p0_2, t6] (bu_ (v := .bool (!decide ((y4.l.length : Int) = a0.most_))) hS rfl r_nil) rfl rfl (Heap.sel hH [0, 3, 4, 1, 5] rfl (by kernel_rfl))
theorem gi_ (Fk : List Nat) (σq : St) (bs : Nat) (mq_bs : T) (mh_bs : isMp mq_bs = true) : dB_ Try.prog md ext (aX_ bs mq_bs) 3 (T.fn 113 [.ptr bs 0 0 12] []) (fun e (S : aa_) => aJ_ S e) Fk σq := fun e S y hs hl h => by
 obtain ⟨t1, t2, t3, rfl⟩ := len3 hl
 exact ⟨113, _, _, rfl, (ge_ S e y h bs mq_bs mh_bs t1 t2 t3).keep _⟩
noncomputable def ci_ (a0 : (Sl DNamed)) (a1 : DPattern) (a2 : ByteArray) (a3 : Bool) (a4 : Int) : Option (Int × Int) := ((da_ a0 a1 a2 a4).bind fun y1 => (if (!decide (y1 = 0)) = true then (some (0, y1)) else ((dS_ a2 a3).bind fun y2 => ((aA_ (S := (Int × (Sl DNamed) × ByteArray × Int × Int × Int × Int × Bool × Int × (Sl DCapture) × (Sl DCapture) × (Sl DMatch))) (R := ((Sl DNamed) × ByteArray × Int × Int × Int × Int × Bool × Int × (Sl DCapture) × (Sl DCapture) × (Sl DMatch))) (fun st1 => (if (decide (st1.1 < (y2.l.length : Int))) = true then ((elt y2 st1.1).bind fun y4 => ((br_ (⟨st1.2.1, st1.2.2.1, st1.2.2.2.1, st1.2.2.2.2.1, y4.v, st1.2.2.2.2.2.2.2.2.2.1, st1.2.2.2.2.2.2.2.2.2.2.1, st1.2.2.2.2.2.2.2.2.2.2.2, st1.2.2.2.2.2.2.1, st1.2.2.2.2.2.2.2.1, T.nilm, st1.2.2.2.2.2.2.2.2.1⟩ : aa_) a1 y4.v (fun e (S : aa_) => aJ_ S e)).bind fun y5 => (if (!y5.1) = true then (some (.inr (y5.2.env_, y5.2.subject_, y5.2.fuel_, y5.2.steps_, y5.2.start_, y5.2.most_, y5.2.isMere_, y5.2.code_, y5.2.now_, y5.2.conds_, y5.2.matches_))) else (some (.inl ((w4 (st1.1 + 1)), y5.2.env_, y5.2.subject_, y5.2.fuel_, y5.2.steps_, y5.2.start_, y5.2.most_, y5.2.isMere_, y5.2.code_, y5.2.now_, y5.2.conds_, y5.2.matches_)))))) else (some (.inr (st1.2.1, st1.2.2.1, st1.2.2.2.1, st1.2.2.2.2.1, st1.2.2.2.2.2.1, st1.2.2.2.2.2.2.1, st1.2.2.2.2.2.2.2.1, st1.2.2.2.2.2.2.2.2.1, st1.2.2.2.2.2.2.2.2.2.1, st1.2.2.2.2.2.2.2.2.2.2.1, st1.2.2.2.2.2.2.2.2.2.2.2))))) (0, a0, a2, a4, 0, 0, 0, true, 0, (⟨true, []⟩ : Sl DCapture), (⟨true, []⟩ : Sl DCapture), (⟨true, []⟩ : Sl DMatch))).bind fun y3 => (if (!decide (y3.2.2.2.2.2.2.2.1 = 0)) = true then (some (0, y3.2.2.2.2.2.2.2.1)) else (some (y3.2.2.2.1, 0)))))))
theorem gP_ (a0 : (Sl DNamed)) (a1 : DPattern) (a2 : ByteArray) (a3 : Bool) (a4 : Int) (r : (Int × Int)) (h : ci_ a0 a1 a2 a3 a4 = some r) : aR_ a0 a1 a2 a3 a4 = some r := by
 unfold ci_ at h
 refine k_W ok_43 E_t2_i64_i64_inj h (fun σ0 => ?_)
 refine t_R ?_
 refine ct_ (fun b1 => ?_)
 refine t_N ?_
 refine t_RU 4 ?_
 refine dx_ ok_83 ?_
 refine t_RN ?_
 refine t_RU 3 ?_
 refine ae_ 0 ?_
 refine t_U 2 ?_
 refine ar_ fun y1 hy1 => ?_
 refine t_N ?_
 refine t_RN ?_
 refine t_if (fun hc1 => ?_) fun hc1 => ?_
 ·refine t_RN ?_
  refine k_eI (rT (rT rN)) ?_
  refine t_N ?_
  refine t_RN ?_
  refine t_cT hc1 ?_
  refine t_RN ?_
  exact k_eW (rT (rT rN)) E_t2_i64_i64_p
 refine t_RU 3 ?_
 refine m5_ ?_
 refine t_U 1 ?_
 refine ct_ (fun b2 => ?_)
 refine t_N ?_
 refine t_RU 4 ?_
 refine ep_ (fun y2 t1 hy2 ht1 => ?_)
 refine dx_ ok_71 ?_
 refine t_RU 1 ?_
 refine fy_ (a := y2) 0 ?_
 refine t_N ?_
 refine t_h (Heap.addNil · true 4) ?_
 refine kp_ 4 0 ?_
 refine t_h (Heap.addNil · true 4) ?_
 refine kp_ 4 0 ?_
 refine t_h (Heap.addNil · true 3) ?_
 refine a2_ (fun st1 fr => ∃ t5, am_ t5 ∧ ∃ t6, am_ t6 ∧ ∃ t7, am_ t7 ∧ Sub [(0, .ptr b2 0 0 12), (1, .ptr b1 0 0 4), (8, t1), (9, i4 (y2.l.length : Int)), (10, i4 st1.1)] fr.s ∧ Heap σ0 fr.σ [.box b2 [st1.2.1.t, .str st1.2.2.1, i4 st1.2.2.2.1, i4 st1.2.2.2.2.1, i4 st1.2.2.2.2.2.1, t5, t6, t7, i4 st1.2.2.2.2.2.2.1, .bool st1.2.2.2.2.2.2.2.1, .mp true, i4 st1.2.2.2.2.2.2.2.2.1], .box b1 [i4 a1.Kind, i4 a1.Num, .str a1.Text, a1.Kids.t], .own true 1 t1 y2.t, .flt 4 t5 st1.2.2.2.2.2.2.2.2.2.1.t, .flt 4 t6 st1.2.2.2.2.2.2.2.2.2.2.1.t, .own true 3 t7 st1.2.2.2.2.2.2.2.2.2.2.2.t]) (fun y3 e fr => ∃ t8, am_ t8 ∧ ∃ t9, am_ t9 ∧ ∃ t10, am_ t10 ∧ e = (.exit 0) ∧ Sub [] fr.s ∧ Heap σ0 fr.σ [.box b2 [y3.1.t, .str y3.2.1, i4 y3.2.2.1, i4 y3.2.2.2.1, i4 y3.2.2.2.2.1, t8, t9, t10, i4 y3.2.2.2.2.2.1, .bool y3.2.2.2.2.2.2.1, .mp true, i4 y3.2.2.2.2.2.2.2.1], .flt 4 t8 y3.2.2.2.2.2.2.2.2.1.t, .flt 4 t9 y3.2.2.2.2.2.2.2.2.2.1.t, .own true 3 t10 y3.2.2.2.2.2.2.2.2.2.2.t]) (fun hS hH => ⟨(T.row true 0 []), ⟨rfl, rfl⟩, (T.row true 0 []), ⟨rfl, rfl⟩, (T.row true 0 []), ⟨rfl, rfl⟩, (ad_ hS (by kernel_rfl)), (Heap.sel hH [4, 5, 3, 2, 1, 0] rfl (by kernel_rfl))⟩) (fun st1 x fr h HI => ?_) fun y3 e fr h HF => ?_
 ·obtain ⟨s, σ⟩ := fr; obtain ⟨t5, ht5, ⟨t6, ht6, ⟨t7, ht7, ⟨hS, hH⟩⟩⟩⟩ := HI
  refine t_bk h hS hH ?_
  refine t_RN ?_
  refine t_if (fun hc2 => ?_) fun hc2 => ?_
  ·refine t_R ?_
   refine f4_ 2 (fun hb1 hb1e y4 hy4 hl_hb1 => ?_)
   refine gd_ 2 0 hl_hb1 hy4 ?_
   refine t_N ?_
   refine t_RU 4 ?_
   refine aG_ 0 ?_
   refine t_N ?_
   refine t_RU 5 ?_
   refine t_h Heap.up1 ?_
   intro h s σ hS hH
   obtain ⟨Fq1, σq1, hH, hU1, hB1, hK1⟩ := Heap.wrapN (A := [.box b1 [i4 a1.Kind, i4 a1.Num, .str a1.Text, a1.Kids.t]]) hH
   have hH := hH.up5.up5.up5.up4
   refine t_bk h hS hH ?_
   refine aK_ (fun y5 hs hy5 hl => ?_) (hr := by exact fun y5 hy5 => ga_ _ _ _ _ y5 hy5 Fq1 σq1 b2 (.mp true) rfl t5 t6 t7 (.ptr b1 0 0 4) (Pt.box rfl (hB1 _ _ (List.Mem.head _))) (T.fn 113 [.ptr b2 0 0 12] []) ⟨rfl, rfl⟩ (gi_ Fq1 σq1 b2 (.mp true) rfl))
   obtain ⟨t11, t12, t13, rfl⟩ := len3 hl
   refine bg_ ?_
   refine aq_ 1 fun ht11 => ?_
   refine aq_ 2 fun ht12 => ?_
   refine aq_ 3 fun ht13 => ?_
   refine t_h Heap.up4 ?_
   intro h s σ hS hH
   have hH := hU1 _ _ hH
   have hH : Heap σ0 σ [.box b1 [i4 a1.Kind, i4 a1.Num, .str a1.Text, a1.Kids.t], .box b2 [y5.2.env_.t, .str y5.2.subject_, i4 y5.2.fuel_, i4 y5.2.steps_, i4 y5.2.start_, t11, t12, t13, i4 y5.2.most_, .bool y5.2.isMere_, .mp true, i4 y5.2.code_], .flt 4 t11 y5.2.now_.t, .flt 4 t12 y5.2.conds_.t, .own true 3 t13 y5.2.matches_.t, .own true 1 t1 y2.t] := hH
   refine t_bk h hS hH ?_
   refine t_N ?_
   refine t_if (fun hc3 => ?_) fun hc3 => ?_
   ·exact t_e fun he hS hH => he ▸ ⟨t11, ht11, t12, ht12, t13, ht13, rfl, (ad_ hS (by kernel_rfl)), (Heap.sel hH [1, 2, 3, 4] rfl (by kernel_rfl))⟩
   refine t_RN ?_
   exact t_e fun he hS hH => he ▸ ⟨t11, ht11, t12, ht12, t13, ht13, (ad_ hS (by kernel_rfl)), (Heap.sel hH [1, 0, 5, 2, 3, 4] rfl (by kernel_rfl))⟩
  exact t_e fun he hS hH => he ▸ ⟨t5, ht5, t6, ht6, t7, ht7, rfl, (ad_ hS (by kernel_rfl)), (Heap.sel hH [0, 3, 4, 5] rfl (by kernel_rfl))⟩
 obtain ⟨s, σ⟩ := fr
 obtain ⟨t8, ht8, ⟨t9, ht9, ⟨t10, ht10, ⟨rfl, hS, hH⟩⟩⟩⟩ := HF
 refine t_bx h hS hH ?_
 refine k_eI rN ?_
 refine t_N ?_
 refine t_D fun mb => ?_
 refine t_U 4 ?_
 refine ae_ 0 ?_
 refine t_N ?_
 refine k_eI (rT (rT rN)) ?_
 refine t_N ?_
 refine t_RN ?_
 refine t_if (fun hc4 => ?_) fun hc4 => ?_
 ·refine t_RN ?_
  exact k_eW (rT (rT rN)) E_t2_i64_i64_p
 refine t_RU 3 ?_
 refine ae_ 0 ?_
 refine t_N ?_
 exact k_eW (rT (rT rN)) E_t2_i64_i64_p
noncomputable def cA_ (a0 : DPattern) : Option Bool := ((ay_ a0 0).bind fun y1 => (some (decide (y1 ≤ 60))))
theorem gj_ (a0 : DPattern) (r : Bool) (h : cA_ a0 = some r) : bs_ a0 = some r := by
 unfold cA_ at h
 refine k_W ok_52 E_bool_inj h (fun σ0 => ?_)
 refine t_R ?_
 refine ct_ (fun b1 => ?_)
 refine t_N ?_
 refine t_R ?_
 refine ae_ 0 ?_
 refine ar_ fun y1 hy1 => ?_
 refine t_N ?_
 exact k_eW (rT rN) E_bool_p
noncomputable def bN_ (a0 : (Sl DNamed)) (a1 : DPattern) (a2 : ByteArray) (a3 : Int) (a4 : Int) : Option ((Sl (Iv .i64)) × Int) := ((((fh_ a4).bind fun y15 => (if y15 = true then ((bc_ a3 0 200).bind fun y16 => (if y16 = true then (some (decide ((w4 (a3 * (a2.size : Int))) ≤ 200))) else (some false))) else (some false))) : Option Bool).bind fun y1 => ((((cM_ a0).bind fun y7 => (if y7 = true then ((bs_ a1).bind fun y8 => ((bH_ y8 1).bind fun y9 => ((bH_ y1 3).bind fun y10 => ((dm_ (⟨false, [⟨y9⟩, ⟨y10⟩]⟩)).bind fun y11 => (some y11))))) else ((bH_ false 1).bind fun y12 => ((bH_ y1 3).bind fun y13 => ((dm_ (⟨false, [⟨y12⟩, ⟨y13⟩]⟩)).bind fun y14 => (some y14)))))) : Option Int).bind fun y2 => (if (!decide (y2 = 0)) = true then (some (⟨true, []⟩, y2)) else ((aA_ (S := (Int × (Sl (Iv .i64)))) (R := ((Sl (Iv .i64)) ⊕ ((Sl (Iv .i64)) × Int))) (fun st1 => (if (decide (st1.1 < (w4 (a3 + 1)))) = true then ((cy_ a2 st1.1).bind fun y4 => ((aR_ a0 a1 y4 false a4).bind fun y5 => (if (!decide (y5.2 = 0)) = true then (some (.inr (.inr (⟨true, []⟩, y5.2)))) else ((appS 8 st1.2 (⟨false, [⟨y5.1⟩]⟩ : Sl (Iv .i64))).bind fun y6 => (some (.inl ((w4 (st1.1 + 1)), y6))))))) else (some (.inr (.inl st1.2))))) (0, (⟨false, []⟩ : Sl (Iv .i64)))).bind fun y3 => (Sum.elim (fun y3 => (some (y3, 0))) (fun y3 => (some y3)) y3)))))
theorem gI_ (a0 : (Sl DNamed)) (a1 : DPattern) (a2 : ByteArray) (a3 : Int) (a4 : Int) (r : ((Sl (Iv .i64)) × Int)) (h : bN_ a0 a1 a2 a3 a4 = some r) : cm_ a0 a1 a2 a3 a4 = some r := by
 unfold bN_ at h
 refine k_O ok_53 h (fun σ0 => ?_)
 refine t_R ?_
 refine ct_ (fun b1 => ?_)
 refine t_N ?_
 refine dA_ 0 (fun y1 e fr => e = .normal ∧ Sub [(0, a0.t), (2, .str a2), (3, i4 a3), (4, i4 a4), (6, .ptr b1 0 0 4), (12, .bool y1)] fr.s ∧ Heap σ0 fr.σ [.box b1 [i4 a1.Kind, i4 a1.Num, .str a1.Text, a1.Kids.t]]) (fun y1 e fr h HF => ?_) fun y1 => ?_
 ·obtain ⟨s, σ⟩ := fr
  obtain ⟨rfl, hS, hH⟩ := HF
  refine t_bx h hS hH ?_
  refine dA_ 0 (fun y2 e fr => e = .normal ∧ Sub [(0, a0.t), (2, .str a2), (3, i4 a3), (4, i4 a4), (6, .ptr b1 0 0 4), (13, i4 y2)] fr.s ∧ Heap σ0 fr.σ [.box b1 [i4 a1.Kind, i4 a1.Num, .str a1.Text, a1.Kids.t]]) (fun y2 e fr h HF => ?_) fun y2 => ?_
  ·obtain ⟨s, σ⟩ := fr
   obtain ⟨rfl, hS, hH⟩ := HF
   refine t_bx h hS hH ?_
   refine t_RN ?_
   refine t_if (fun hc1 => ?_) fun hc1 => ?_
   ·refine t_RN ?_
    refine t_h (Heap.addNil · true 1) ?_
    exact k_eO [(T.row true 0 [])] (rT (rT rN))
   refine t_R ?_
   refine oI_ (α := (Iv .i64)) (fun t1 ht1 => ?_)
   refine t_N ?_
   refine t_RN ?_
   refine a2_ (fun st1 fr => ∃ t3, am_ t3 ∧ Sub [(0, a0.t), (2, .str a2), (4, i4 a4), (6, .ptr b1 0 0 4), (14, t3), (47, i4 (w4 (a3 + 1))), (48, i4 st1.1)] fr.s ∧ Heap σ0 fr.σ [.box b1 [i4 a1.Kind, i4 a1.Num, .str a1.Text, a1.Kids.t], .own true 1 t3 st1.2.t]) (fun y3 e fr => (Sum.elim (fun y => ∃ t4, am_ t4 ∧ e = (.exit 0) ∧ Sub [(14, t4)] fr.s ∧ Heap σ0 fr.σ [.own true 1 t4 y.t]) (fun y => e = .ret ∧ l1_ Try.prog (Try.f53.results.toList) σ0 Sh_t2_sl_i64_i64 y .ret fr)) y3) (fun hS hH => ⟨t1, ht1, (ad_ hS (by kernel_rfl)), (Heap.sel hH [1, 0] rfl (by kernel_rfl))⟩) (fun st1 x fr h HI => ?_) fun y3 e fr h HF => ?_
   ·obtain ⟨s, σ⟩ := fr; obtain ⟨t3, ht3, ⟨hS, hH⟩⟩ := HI
    refine t_bk h hS hH ?_
    refine t_RN ?_
    refine t_if (fun hc2 => ?_) fun hc2 => ?_
    ·refine t_RN ?_
     refine t_D fun mb => ?_
     refine t_U 1 ?_
     refine ae_ 0 ?_
     refine t_U 2 ?_
     refine ar_ fun y4 hy4 => ?_
     refine t_U 1 ?_
     refine ar_ fun y5 hy5 => ?_
     refine t_N ?_
     refine t_RN ?_
     refine t_if (fun hc3 => ?_) fun hc3 => ?_
     ·refine t_RN ?_
      refine t_h (Heap.addNil · true 1) ?_
      exact t_e fun he hS hH => he ▸ ⟨rfl, (eO [(T.row true 0 [])] hS hH (rT (rT rN)))⟩
     refine t_RU 2 ?_
     refine k_bs (z := true) (⟨false, [⟨y5.1⟩]⟩ : Sl (Iv .i64)) (fun t5 ht5 => ?_)
     refine jX_ 2 0 (fun y6 t6 hy6 ht6 => ?_)
     refine t_N ?_
     refine t_RN ?_
     exact t_e fun he hS hH => he ▸ ⟨t6, ht6, (ad_ hS (by kernel_rfl)), (Heap.sel hH [1, 0] rfl (by kernel_rfl))⟩
    exact t_e fun he hS hH => he ▸ ⟨t3, ht3, rfl, (ad_ hS (by kernel_rfl)), (Heap.sel hH [1] rfl (by kernel_rfl))⟩
   obtain ⟨s, σ⟩ := fr
   rcases y3 with y3 | y3
   ·have h := el_l h
    obtain ⟨t4, ht4, ⟨rfl, hS, hH⟩⟩ := HF
    refine t_bx h hS hH ?_
    refine t_RN ?_
    exact k_eO [t4] (rT (rT rN))
   have h := el_r h
   obtain ⟨rfl, HE⟩ := HF
   obtain rfl := si_1 h; exact HE
  refine t_RU 1 ?_
  refine ar_ fun y7 hy7 => ?_
  refine t_U 1 ?_
  refine aH_ 33 (fun hc4 => ?_) fun hc4 => ?_
  ·refine ae_ 0 ?_
   refine ar_ fun y8 hy8 => ?_
   refine t_U 1 ?_
   refine ar_ fun y9 hy9 => ?_
   refine t_U 1 ?_
   refine ar_ fun y10 hy10 => ?_
   refine k_bs (z := true) (⟨false, [⟨y9⟩, ⟨y10⟩]⟩ : Sl (Iv .i64)) (fun t7 ht7 => ?_)
   refine jD_ (fun y11 hy11 => ?_)
   refine t_N ?_
   exact t_e fun he hS hH => he ▸ ⟨rfl, (ad_ hS (by kernel_rfl)), (Heap.sel hH [1] rfl (by kernel_rfl))⟩
  refine t_U 3 ?_
  refine ar_ fun y12 hy12 => ?_
  refine t_U 1 ?_
  refine ar_ fun y13 hy13 => ?_
  refine k_bs (z := true) (⟨false, [⟨y12⟩, ⟨y13⟩]⟩ : Sl (Iv .i64)) (fun t8 ht8 => ?_)
  refine jD_ (fun y14 hy14 => ?_)
  refine t_N ?_
  exact t_e fun he hS hH => he ▸ ⟨rfl, (ad_ hS (by kernel_rfl)), (Heap.sel hH [1] rfl (by kernel_rfl))⟩
 refine t_RU 1 ?_
 refine ar_ fun y15 hy15 => ?_
 refine t_U 1 ?_
 refine aH_ 20 (fun hc5 => ?_) fun hc5 => ?_
 ·refine t_U 1 ?_
  refine ar_ fun y16 hy16 => ?_
  refine t_U 2 ?_
  refine aH_ 24 (fun hc6 => ?_) fun hc6 => ?_
  ·refine t_N ?_
   exact t_e fun he hS hH => by subst he; exact ⟨rfl, (ad_ hS (by kernel_rfl)), hH⟩
  refine t_N ?_
  exact t_e fun he hS hH => he ▸ ⟨rfl, (ad_ hS (by kernel_rfl)), hH⟩
 refine t_N ?_
 exact t_e fun he hS hH => he ▸ ⟨rfl, (ad_ hS (by kernel_rfl)), hH⟩
end Go.Am
