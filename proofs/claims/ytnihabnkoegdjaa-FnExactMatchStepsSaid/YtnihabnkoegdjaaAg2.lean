/- Functions of the program. -/
import Derived.Test.YtnihabnkoegdjaaAd0
import Derived.Test.YtnihabnkoegdjaaAg1
set_option maxRecDepth 100000
set_option maxHeartbeats 4000000
set_option linter.unusedVariables false
set_option linter.unusedSimpArgs false
namespace Go.Am
open Go.Proofs
noncomputable def aJ_ (a0 : ac_) (a1 : Int) : Option (Bool × ac_) := (if a0.isMere_ = true then (((if (decide (a0.steps_ = a0.fuel_)) = true then (some (false, a0.steps_, 7, (⟨true, []⟩ : Sl an_))) else (some (true, (w4 (a0.steps_ + 1)), a0.code_, a0.matches_))) : Option (Bool × Int × Int × (Sl an_))).bind fun y1 => (some (y1.1, (⟨a0.env_, a0.subject_, a0.fuel_, y1.2.1, a0.start_, a0.now_, a0.conds_, y1.2.2.2, a0.most_, a0.isMere_, T.nilm, y1.2.2.1⟩ : ac_)))) else (((if (decide (a0.steps_ = a0.fuel_)) = true then (some (false, a0.steps_, 7, (⟨true, []⟩ : Sl an_))) else (some (true, (w4 (a0.steps_ + 1)), a0.code_, a0.matches_))) : Option (Bool × Int × Int × (Sl an_))).bind fun y2 => (if (!y2.1) = true then (some (false, (⟨a0.env_, a0.subject_, a0.fuel_, y2.2.1, a0.start_, a0.now_, a0.conds_, y2.2.2.2, a0.most_, a0.isMere_, T.nilm, y2.2.2.1⟩ : ac_))) else (if (decide ((y2.2.2.2.l.length : Int) = 60)) = true then (some (false, (⟨a0.env_, a0.subject_, a0.fuel_, y2.2.1, a0.start_, a0.now_, a0.conds_, y2.2.2.2, a0.most_, a0.isMere_, T.nilm, 6⟩ : ac_))) else ((cB_ ⟨false, [a0.now_, a0.conds_]⟩).bind fun y3 => ((appS 40 y2.2.2.2 (⟨false, [(⟨a0.start_, a1, y3⟩ : an_)]⟩ : Sl an_)).bind fun y4 => (some ((!decide ((y4.l.length : Int) = a0.most_)), (⟨a0.env_, a0.subject_, a0.fuel_, y2.2.1, a0.start_, a0.now_, a0.conds_, y4, a0.most_, a0.isMere_, T.nilm, y2.2.2.1⟩ : ac_)))))))))
theorem fT_ (a0 : ac_) (a1 : Int) (r : (Bool × ac_)) (h : aJ_ a0 a1 = some r) (bp0 : Nat) (mq_bp0 : T) (mh_bp0 : isMp mq_bp0 = true) (p0_1 p0_2 p0_3 : T) : RawS Try.prog md ext 113 [.ptr bp0 0 0 12, i4 a1] 3 (fun hs => E_bool r.1) [.box bp0 [a0.env_.t, .str a0.subject_, i4 a0.fuel_, i4 a0.steps_, i4 a0.start_, p0_1, p0_2, p0_3, i4 a0.most_, .bool a0.isMere_, mq_bp0, i4 a0.code_], .flt 4 p0_1 a0.now_.t, .flt 4 p0_2 a0.conds_.t, .own true 3 p0_3 a0.matches_.t] (fun hs => aS_ bp0 mq_bp0 r.2 hs) := by
 unfold aJ_ at h
 refine fq_ rfl rfl ok_113 rfl ?_
 intro σ0 σ F σk s hS hH
 have hp0_1 : ao_ p0_1 := Heap.fltOne (hH.at 1 rfl)
 have hp0_2 : ao_ p0_2 := Heap.fltOne (hH.at 2 rfl)
 have hp0_3 : ao_ p0_3 := Heap.one (hH.at 3 rfl)
 have hmq_bp0 : ao_ mq_bp0 := fI_ mh_bp0
 have hS := af_ (L' := [(0, .ptr bp0 0 0 12), (1, i4 a1)]) hS (by kernel_rfl)
 refine t_go h hS hH ?_
 refine t_RN ?_
 refine t_RU 3 ?_
 refine ae_ 0 ?_
 refine t_U 1 ?_
 refine aK_ 9 (fun hc1 => ?_) fun hc1 => ?_
 ·refine t_N ?_
  refine t_cT rfl ?_
  refine t_RU 3 ?_
  refine ae_ 0 ?_
  refine t_U 1 ?_
  refine t_gT 18 hc1 ?_
  refine t_U 1 ?_
  refine eB_ (fun y1 s σ => ∃ t1, ao_ t1 ∧ Sub [(18, .bool true), (20, .bool y1.1)] s ∧ Heap σ0 σ [.box bp0 [a0.env_.t, .str a0.subject_, i4 a0.fuel_, i4 y1.2.1, i4 a0.start_, p0_1, p0_2, t1, i4 a0.most_, .bool a0.isMere_, mq_bp0, i4 y1.2.2.1], .flt 4 p0_1 a0.now_.t, .flt 4 p0_2 a0.conds_.t, .own true 3 t1 y1.2.2.2.t, .keep F σk]) ok_137 (fun y1 => ?_) fun y1 s σ HF h => ?_
  ·refine t_RN ?_
   refine t_D fun mb => ?_
   refine t_U 3 ?_
   refine ae_ 0 ?_
   refine t_U 3 ?_
   refine ae_ 0 ?_
   refine t_N ?_
   refine t_if (fun hc2 => ?_) fun hc2 => ?_
   ·refine t_RU 1 ?_
    refine ea_ ok_142 ?_
    refine t_RN ?_
    refine t_RU 5 ?_
    refine aI_ 0 ?_
    refine t_U 2 ?_
    refine aI_ 0 ?_
    refine t_N ?_
    refine t_RN ?_
    refine k_eI (rT rN) ?_
    refine t_N ?_
    refine t_h (Heap.addNil · true 3) ?_
    exact bO_ (rT rN) fun he hS hH => he ▸ ⟨(T.row true 0 []), ⟨rfl, rfl⟩, (af_ hS (by kernel_rfl)), (Heap.sel hH [1, 2, 3, 0, 5] rfl (by kernel_rfl))⟩
   refine t_RU 3 ?_
   refine ae_ 0 ?_
   refine t_U 3 ?_
   refine aI_ 0 ?_
   refine t_N ?_
   refine t_RU 3 ?_
   refine ae_ 0 ?_
   refine kT_ mh_bp0 ?_
   refine t_N ?_
   refine lf_ [] [.box bp0 [a0.env_.t, .str a0.subject_, i4 a0.fuel_, i4 (w4 (a0.steps_ + 1)), i4 a0.start_, p0_1, p0_2, p0_3, i4 a0.most_, .bool a0.isMere_, mq_bp0, i4 a0.code_], .flt 4 p0_1 a0.now_.t, .flt 4 p0_2 a0.conds_.t, .own true 3 p0_3 a0.matches_.t, .keep F σk] ?_ ?_
   ·refine nF_ (fun hc3 => ?_) fun hc3 => ?_
    ·refine t_RU 3 ?_
     refine ae_ 0 ?_
     refine t_U 1 ?_
     refine ha_ hc3 KeyM.nil ?_
     refine t_U 1 ?_
     refine hf_ hc3 KeyM.nil ?_
     refine t_N ?_
     exact t_eU fun hS hH => ⟨rfl, af_ hS (by kernel_rfl), hH⟩
    exact t_eU fun hS hH => ⟨rfl, af_ hS (by kernel_rfl), hH⟩
   refine t_RN ?_
   exact bO_ (rT rN) fun he hS hH => he ▸ ⟨p0_3, hp0_3, (af_ hS (by kernel_rfl)), hH⟩
  obtain ⟨t1, ht1, ⟨hS, hH⟩⟩ := HF
  refine t_bk h hS hH ?_
  refine t_N ?_
  intro h s σ hS hH
  obtain rfl := si_1 h
  exact aW_ [p0_1, p0_2, t1] (b1_ (v := .bool y1.1) hS rfl r_nil) rfl rfl hH
 refine t_U 1 ?_
 refine eB_ (fun y2 s σ => ∃ t2, ao_ t2 ∧ Sub [(0, .ptr bp0 0 0 12), (1, i4 a1), (9, .bool false), (11, .bool y2.1)] s ∧ Heap σ0 σ [.box bp0 [a0.env_.t, .str a0.subject_, i4 a0.fuel_, i4 y2.2.1, i4 a0.start_, p0_1, p0_2, t2, i4 a0.most_, .bool a0.isMere_, mq_bp0, i4 y2.2.2.1], .flt 4 p0_1 a0.now_.t, .flt 4 p0_2 a0.conds_.t, .own true 3 t2 y2.2.2.2.t, .keep F σk]) ok_137 (fun y2 => ?_) fun y2 s σ HF h => ?_
 ·refine t_RN ?_
  refine t_D fun mb => ?_
  refine t_U 3 ?_
  refine ae_ 0 ?_
  refine t_U 3 ?_
  refine ae_ 0 ?_
  refine t_N ?_
  refine t_if (fun hc4 => ?_) fun hc4 => ?_
  ·refine t_RU 1 ?_
   refine ea_ ok_142 ?_
   refine t_RN ?_
   refine t_RU 5 ?_
   refine aI_ 0 ?_
   refine t_U 2 ?_
   refine aI_ 0 ?_
   refine t_N ?_
   refine t_RN ?_
   refine k_eI (rT rN) ?_
   refine t_N ?_
   refine t_h (Heap.addNil · true 3) ?_
   exact bO_ (rT rN) fun he hS hH => he ▸ ⟨(T.row true 0 []), ⟨rfl, rfl⟩, (af_ hS (by kernel_rfl)), (Heap.sel hH [1, 2, 3, 0, 5] rfl (by kernel_rfl))⟩
  refine t_RU 3 ?_
  refine ae_ 0 ?_
  refine t_U 3 ?_
  refine aI_ 0 ?_
  refine t_N ?_
  refine t_RU 3 ?_
  refine ae_ 0 ?_
  refine kT_ mh_bp0 ?_
  refine t_N ?_
  refine lf_ [] [.box bp0 [a0.env_.t, .str a0.subject_, i4 a0.fuel_, i4 (w4 (a0.steps_ + 1)), i4 a0.start_, p0_1, p0_2, p0_3, i4 a0.most_, .bool a0.isMere_, mq_bp0, i4 a0.code_], .flt 4 p0_1 a0.now_.t, .flt 4 p0_2 a0.conds_.t, .own true 3 p0_3 a0.matches_.t, .keep F σk] ?_ ?_
  ·refine nF_ (fun hc5 => ?_) fun hc5 => ?_
   ·refine t_RU 3 ?_
    refine ae_ 0 ?_
    refine t_U 1 ?_
    refine ha_ hc5 KeyM.nil ?_
    refine t_U 1 ?_
    refine hf_ hc5 KeyM.nil ?_
    refine t_N ?_
    exact t_eU fun hS hH => ⟨rfl, af_ hS (by kernel_rfl), hH⟩
   exact t_eU fun hS hH => ⟨rfl, af_ hS (by kernel_rfl), hH⟩
  refine t_RN ?_
  exact bO_ (rT rN) fun he hS hH => he ▸ ⟨p0_3, hp0_3, (af_ hS (by kernel_rfl)), hH⟩
 obtain ⟨t2, ht2, ⟨hS, hH⟩⟩ := HF
 refine t_bk h hS hH ?_
 refine t_N ?_
 refine t_if (fun hc6 => ?_) fun hc6 => ?_
 ·refine t_RU 3 ?_
  refine ae_ 0 ?_
  refine t_U 1 ?_
  refine t_gF 18 hc1 ?_
  refine t_N ?_
  intro h s σ hS hH
  obtain rfl := si_1 h
  exact aW_ [p0_1, p0_2, t2] (b1_ (v := .bool false) hS rfl r_nil) rfl rfl hH
 refine t_RU 3 ?_
 refine ae_ 0 ?_
 refine jo_ (a := y2.2.2.2) 3 ?_
 refine t_N ?_
 refine t_if (fun hc7 => ?_) fun hc7 => ?_
 ·refine t_RU 3 ?_
  refine aI_ 0 ?_
  refine t_N ?_
  refine t_RN ?_
  intro h s σ hS hH
  obtain rfl := si_1 h
  exact aW_ [p0_1, p0_2, t2] (b1_ (v := .bool false) hS rfl r_nil) rfl rfl hH
 refine a5_ [(22, RN), (25, RN)] ext_x fun mb σs hn0 hlt hlto => ?_
 have hlt_bp0 : bp0 < mb := hlt bp0 _ (List.Mem.head _)
 refine t_U 4 ?_
 refine ae_ 0 ?_ (hlt := by exact (Or.inr ⟨hlt_bp0, (Wc.cons (.inl (by kernel_rfl)) (Wc.cons (.inl (by kernel_rfl)) Wc.nil))⟩))
 refine t_U 3 ?_
 refine ae_ 0 ?_ (hlt := by exact (Or.inr ⟨hlt_bp0, (Wc.cons (.inl (by kernel_rfl)) (Wc.cons (.inl (by kernel_rfl)) Wc.nil))⟩))
 refine t_U 4 ?_
 refine ae_ 0 ?_ (hlt := by exact (Or.inl (by kernel_rfl)))
 refine t_U 3 ?_
 refine ae_ 0 ?_ (hlt := by exact (Or.inl (by kernel_rfl)))
 intro h s σ hS hH
 refine rr_ rfl (by exact hn0) (e := 91) (sz := 1) (vs := [p0_1, p0_2]) (zc := [(nt aa_)]) (cs := [p0_1, p0_2]) (v := (T.row false 2 [p0_1, p0_2])) rfl hS hH (by kernel_rfl) (by kernel_rfl) (by kernel_rfl) (by kernel_rfl) (by kernel_rfl) (⟨(by simp [hp0_1.1, hp0_1.2]), (by simp [hp0_1.1, hp0_1.2]), (by simp [hp0_2.1, hp0_2.2]), (by simp [hp0_2.1, hp0_2.2]), trivial⟩) (by simp [hp0_1.1, hp0_1.2, hp0_2.1, hp0_2.2]) rfl ?_; intro t3 σ s ht3 hH hS
 have hH : Heap σ0 σ [.flt 1 t3 (T.row false 2 [p0_1, p0_2]), .box bp0 [a0.env_.t, .str a0.subject_, i4 a0.fuel_, i4 y2.2.1, i4 a0.start_, p0_1, p0_2, t2, i4 a0.most_, .bool a0.isMere_, mq_bp0, i4 y2.2.2.1], .flt 4 p0_1 a0.now_.t, .flt 4 p0_2 a0.conds_.t, .own true 3 t2 y2.2.2.2.t, .keep F σk] := hH
 have hH := hH.up3.up3.up2
 obtain ⟨y3, hy3, h⟩ := bind_some h
 refine n7_ rfl (ts := [t3]) (vs := [(Sl.t (⟨false, [a0.now_, a0.conds_]⟩ : Sl (Sl aa_)))]) rfl hS rfl rfl rfl hH (oZ_ hH) hy3 ?_; intro hs σ s hl hH hS
 obtain ⟨t4, rfl⟩ := len1 hl
 have hH : Heap σ0 σ [.own true 4 t4 y3.t, .flt 1 t3 (T.row false 2 [p0_1, p0_2]), .flt 4 p0_1 a0.now_.t, .flt 4 p0_2 a0.conds_.t, .box bp0 [a0.env_.t, .str a0.subject_, i4 a0.fuel_, i4 y2.2.1, i4 a0.start_, p0_1, p0_2, t2, i4 a0.most_, .bool a0.isMere_, mq_bp0, i4 y2.2.2.1], .own true 3 t2 y2.2.2.2.t, .keep F σk] := hH
 have ht4 : ao_ t4 := Heap.one hH
 refine l5_ (qs := [(0, i4 a0.start_), (1, i4 a1), (2, t4)]) (z := [i4 0, i4 0, (nt aa_)]) (r := [i4 a0.start_, i4 a1, t4]) [[i4 a0.start_], [i4 a1], [t4]] rfl hS rfl (by kernel_rfl) (by kernel_rfl) (⟨rfl, (by kernel_rfl), rfl, (by kernel_rfl), (by simp [ht4.1, ht4.2]), (by simp [ht4.1, ht4.2]), trivial⟩) (by kernel_rfl) ?_; intro s hS
 refine t_bk h hS hH ?_
 refine k_bs (z := true) (⟨false, [(⟨a0.start_, a1, y3⟩ : an_)]⟩ : Sl an_) (fun t5 ht5 => ?_) (hb := by exact hn0) (h1 := by simp [ht4.1, ht4.2])
 refine n4_ 5 0 (fun y4 t6 hy4 ht6 => ?_) (hb := by exact hn0) (hwr := by exact fun hH b e o n h0 => Or.inr ⟨22, by kernel_rfl, fun h => h⟩)
 refine t_U 2 ?_
 refine bw_ 4 ht6 ?_ (hwr := by exact fun hH => Or.inr ⟨25, by kernel_rfl, fun h => h⟩)
 refine t_N ?_
 refine t_D fun mb => ?_
 refine t_U 3 ?_
 refine ae_ 0 ?_
 refine jo_ (a := y4) 1 ?_
 refine t_U 3 ?_
 refine ae_ 0 ?_
 refine t_N ?_
 intro h s σ hS hH
 obtain rfl := si_1 h
 exact aW_ [p0_1, p0_2, t6] (b1_ (v := .bool (!decide ((y4.l.length : Int) = a0.most_))) hS rfl r_nil) rfl rfl (Heap.sel hH [0, 3, 4, 1, 5] rfl (by kernel_rfl))
theorem fW_ (Fk : List Nat) (σq : St) (bs : Nat) (mq_bs : T) (mh_bs : isMp mq_bs = true) : dr_ Try.prog md ext (aS_ bs mq_bs) 3 (T.fn 113 [.ptr bs 0 0 12] []) (fun e (S : ac_) => aJ_ S e) Fk σq := fun e S y hs hl h => by
 obtain ⟨t1, t2, t3, rfl⟩ := len3 hl
 exact ⟨113, _, _, rfl, (fT_ S e y h bs mq_bs mh_bs t1 t2 t3).keep _⟩
noncomputable def b2_ (a0 : (Sl ah_)) (a1 : DPattern) (a2 : ByteArray) (a3 : Bool) (a4 : Int) : Option (Int × Int) := ((cX_ a0 a1 a2 a4).bind fun y1 => (if (!decide (y1 = 0)) = true then (some (0, y1)) else ((dM_ a2 a3).bind fun y2 => ((aD_ (S := (Int × (Sl ah_) × ByteArray × Int × Int × Int × Int × Bool × Int × (Sl aa_) × (Sl aa_) × (Sl an_))) (R := ((Sl ah_) × ByteArray × Int × Int × Int × Int × Bool × Int × (Sl aa_) × (Sl aa_) × (Sl an_))) (fun st1 => (if (decide (st1.1 < (y2.l.length : Int))) = true then ((elt y2 st1.1).bind fun y4 => ((bl_ (⟨st1.2.1, st1.2.2.1, st1.2.2.2.1, st1.2.2.2.2.1, y4.v, st1.2.2.2.2.2.2.2.2.2.1, st1.2.2.2.2.2.2.2.2.2.2.1, st1.2.2.2.2.2.2.2.2.2.2.2, st1.2.2.2.2.2.2.1, st1.2.2.2.2.2.2.2.1, T.nilm, st1.2.2.2.2.2.2.2.2.1⟩ : ac_) a1 y4.v (fun e (S : ac_) => aJ_ S e)).bind fun y5 => (if (!y5.1) = true then (some (.inr (y5.2.env_, y5.2.subject_, y5.2.fuel_, y5.2.steps_, y5.2.start_, y5.2.most_, y5.2.isMere_, y5.2.code_, y5.2.now_, y5.2.conds_, y5.2.matches_))) else (some (.inl ((w4 (st1.1 + 1)), y5.2.env_, y5.2.subject_, y5.2.fuel_, y5.2.steps_, y5.2.start_, y5.2.most_, y5.2.isMere_, y5.2.code_, y5.2.now_, y5.2.conds_, y5.2.matches_)))))) else (some (.inr (st1.2.1, st1.2.2.1, st1.2.2.2.1, st1.2.2.2.2.1, st1.2.2.2.2.2.1, st1.2.2.2.2.2.2.1, st1.2.2.2.2.2.2.2.1, st1.2.2.2.2.2.2.2.2.1, st1.2.2.2.2.2.2.2.2.2.1, st1.2.2.2.2.2.2.2.2.2.2.1, st1.2.2.2.2.2.2.2.2.2.2.2))))) (0, a0, a2, a4, 0, 0, 0, true, 0, (⟨true, []⟩ : Sl aa_), (⟨true, []⟩ : Sl aa_), (⟨true, []⟩ : Sl an_))).bind fun y3 => (if (!decide (y3.2.2.2.2.2.2.2.1 = 0)) = true then (some (0, y3.2.2.2.2.2.2.2.1)) else (some (y3.2.2.2.1, 0)))))))
theorem gy_ (a0 : (Sl ah_)) (a1 : DPattern) (a2 : ByteArray) (a3 : Bool) (a4 : Int) (r : (Int × Int)) (h : b2_ a0 a1 a2 a3 a4 = some r) : cY_ a0 a1 a2 a3 a4 = some r := by
 unfold b2_ at h
 refine k_W ok_43 E_t2_i64_i64_inj h (fun σ0 => ?_)
 refine t_R ?_
 refine bQ_ (fun b1 => ?_)
 refine t_N ?_
 refine t_RU 4 ?_
 refine ea_ ok_83 ?_
 refine t_RN ?_
 refine t_RU 3 ?_
 refine ae_ 0 ?_
 refine t_U 2 ?_
 refine av_ fun y1 hy1 => ?_
 refine t_N ?_
 refine t_RN ?_
 refine t_if (fun hc1 => ?_) fun hc1 => ?_
 ·refine t_RN ?_
  refine k_eI (rT (rT rN)) ?_
  refine t_N ?_
  refine t_RN ?_
  refine t_cT hc1 ?_
  refine t_RN ?_
  exact k_eW (rT (rT rN)) E_t2_i64_i64_p
 refine t_RU 3 ?_
 refine na_ ?_
 refine t_U 1 ?_
 refine bQ_ (fun b2 => ?_)
 refine t_N ?_
 refine t_RU 4 ?_
 refine ci_ (fun y2 t1 hy2 ht1 => ?_)
 refine ea_ ok_71 ?_
 refine t_RU 1 ?_
 refine jo_ (a := y2) 0 ?_
 refine t_N ?_
 refine t_h (Heap.addNil · true 4) ?_
 refine jR_ 4 0 ?_
 refine t_h (Heap.addNil · true 4) ?_
 refine jR_ 4 0 ?_
 refine t_h (Heap.addNil · true 3) ?_
 refine aZ_ (fun st1 fr => ∃ t5, ao_ t5 ∧ ∃ t6, ao_ t6 ∧ ∃ t7, ao_ t7 ∧ Sub [(0, .ptr b2 0 0 12), (1, .ptr b1 0 0 4), (8, t1), (9, i4 (y2.l.length : Int)), (10, i4 st1.1)] fr.s ∧ Heap σ0 fr.σ [.box b2 [st1.2.1.t, .str st1.2.2.1, i4 st1.2.2.2.1, i4 st1.2.2.2.2.1, i4 st1.2.2.2.2.2.1, t5, t6, t7, i4 st1.2.2.2.2.2.2.1, .bool st1.2.2.2.2.2.2.2.1, .mp true, i4 st1.2.2.2.2.2.2.2.2.1], .box b1 [i4 a1.Kind, i4 a1.Num, .str a1.Text, a1.Kids.t], .own true 1 t1 y2.t, .flt 4 t5 st1.2.2.2.2.2.2.2.2.2.1.t, .flt 4 t6 st1.2.2.2.2.2.2.2.2.2.2.1.t, .own true 3 t7 st1.2.2.2.2.2.2.2.2.2.2.2.t]) (fun y3 e fr => ∃ t8, ao_ t8 ∧ ∃ t9, ao_ t9 ∧ ∃ t10, ao_ t10 ∧ e = (.exit 0) ∧ Sub [] fr.s ∧ Heap σ0 fr.σ [.box b2 [y3.1.t, .str y3.2.1, i4 y3.2.2.1, i4 y3.2.2.2.1, i4 y3.2.2.2.2.1, t8, t9, t10, i4 y3.2.2.2.2.2.1, .bool y3.2.2.2.2.2.2.1, .mp true, i4 y3.2.2.2.2.2.2.2.1], .flt 4 t8 y3.2.2.2.2.2.2.2.2.1.t, .flt 4 t9 y3.2.2.2.2.2.2.2.2.2.1.t, .own true 3 t10 y3.2.2.2.2.2.2.2.2.2.2.t]) (fun hS hH => ⟨(T.row true 0 []), ⟨rfl, rfl⟩, (T.row true 0 []), ⟨rfl, rfl⟩, (T.row true 0 []), ⟨rfl, rfl⟩, (af_ hS (by kernel_rfl)), (Heap.sel hH [4, 5, 3, 2, 1, 0] rfl (by kernel_rfl))⟩) (fun st1 x fr h HI => ?_) fun y3 e fr h HF => ?_
 ·obtain ⟨s, σ⟩ := fr; obtain ⟨t5, ht5, ⟨t6, ht6, ⟨t7, ht7, ⟨hS, hH⟩⟩⟩⟩ := HI
  refine t_bk h hS hH ?_
  refine t_RN ?_
  refine t_if (fun hc2 => ?_) fun hc2 => ?_
  ·refine t_R ?_
   refine jS_ 2 (fun hb1 hb1e y4 hy4 hl_hb1 => ?_)
   refine kg_ 2 0 hl_hb1 hy4 ?_
   refine t_N ?_
   refine t_RU 4 ?_
   refine aI_ 0 ?_
   refine t_N ?_
   refine t_RU 5 ?_
   refine t_h Heap.up1 ?_
   intro h s σ hS hH
   obtain ⟨Fq1, σq1, hH, hU1, hB1, hK1⟩ := Heap.wrapN (A := [.box b1 [i4 a1.Kind, i4 a1.Num, .str a1.Text, a1.Kids.t]]) hH
   have hH := hH.up5.up5.up5.up4
   refine t_bk h hS hH ?_
   refine bv_ (fun y5 hs hy5 hl => ?_) (hr := by exact fun y5 hy5 => f1_ _ _ _ _ y5 hy5 Fq1 σq1 b2 (.mp true) rfl t5 t6 t7 (.ptr b1 0 0 4) (Pt.box rfl (hB1 _ _ (List.Mem.head _))) (T.fn 113 [.ptr b2 0 0 12] []) ⟨rfl, rfl⟩ (fW_ Fq1 σq1 b2 (.mp true) rfl))
   obtain ⟨t11, t12, t13, rfl⟩ := len3 hl
   refine cN_ ?_
   refine as_ 1 fun ht11 => ?_
   refine as_ 2 fun ht12 => ?_
   refine as_ 3 fun ht13 => ?_
   refine t_h Heap.up4 ?_
   intro h s σ hS hH
   have hH := hU1 _ _ hH
   have hH : Heap σ0 σ [.box b1 [i4 a1.Kind, i4 a1.Num, .str a1.Text, a1.Kids.t], .box b2 [y5.2.env_.t, .str y5.2.subject_, i4 y5.2.fuel_, i4 y5.2.steps_, i4 y5.2.start_, t11, t12, t13, i4 y5.2.most_, .bool y5.2.isMere_, .mp true, i4 y5.2.code_], .flt 4 t11 y5.2.now_.t, .flt 4 t12 y5.2.conds_.t, .own true 3 t13 y5.2.matches_.t, .own true 1 t1 y2.t] := hH
   refine t_bk h hS hH ?_
   refine t_N ?_
   refine t_if (fun hc3 => ?_) fun hc3 => ?_
   ·exact t_e fun he hS hH => he ▸ ⟨t11, ht11, t12, ht12, t13, ht13, rfl, (af_ hS (by kernel_rfl)), (Heap.sel hH [1, 2, 3, 4] rfl (by kernel_rfl))⟩
   refine t_RN ?_
   exact t_e fun he hS hH => he ▸ ⟨t11, ht11, t12, ht12, t13, ht13, (af_ hS (by kernel_rfl)), (Heap.sel hH [1, 0, 5, 2, 3, 4] rfl (by kernel_rfl))⟩
  exact t_e fun he hS hH => he ▸ ⟨t5, ht5, t6, ht6, t7, ht7, rfl, (af_ hS (by kernel_rfl)), (Heap.sel hH [0, 3, 4, 5] rfl (by kernel_rfl))⟩
 obtain ⟨s, σ⟩ := fr
 obtain ⟨t8, ht8, ⟨t9, ht9, ⟨t10, ht10, ⟨rfl, hS, hH⟩⟩⟩⟩ := HF
 refine t_bx h hS hH ?_
 refine k_eI rN ?_
 refine t_N ?_
 refine t_D fun mb => ?_
 refine t_U 4 ?_
 refine ae_ 0 ?_
 refine t_N ?_
 refine k_eI (rT (rT rN)) ?_
 refine t_N ?_
 refine t_RN ?_
 refine t_if (fun hc4 => ?_) fun hc4 => ?_
 ·refine t_RN ?_
  exact k_eW (rT (rT rN)) E_t2_i64_i64_p
 refine t_RU 3 ?_
 refine ae_ 0 ?_
 refine t_N ?_
 exact k_eW (rT (rT rN)) E_t2_i64_i64_p
noncomputable def cm_ (a0 : DPattern) : Option Bool := ((aA_ a0 0).bind fun y1 => (some (decide (y1 ≤ 60))))
theorem f3_ (a0 : DPattern) (r : Bool) (h : cm_ a0 = some r) : bD_ a0 = some r := by
 unfold cm_ at h
 refine k_W ok_52 E_bool_inj h (fun σ0 => ?_)
 refine t_R ?_
 refine bQ_ (fun b1 => ?_)
 refine t_N ?_
 refine t_R ?_
 refine ae_ 0 ?_
 refine av_ fun y1 hy1 => ?_
 refine t_N ?_
 exact k_eW (rT rN) E_bool_p
end Go.Am
