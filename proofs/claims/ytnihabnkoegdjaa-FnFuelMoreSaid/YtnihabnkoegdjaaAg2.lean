/- Functions of the program. -/
import Derived.Test.YtnihabnkoegdjaaAd0
import Derived.Test.YtnihabnkoegdjaaAg1
set_option maxRecDepth 100000
set_option maxHeartbeats 4000000
set_option linter.unusedVariables false
set_option linter.unusedSimpArgs false
namespace Go.Am
open Go.Proofs
noncomputable def ak_ (a0 : aa_) (a1 : Int) : Option (Bool × aa_) := (if a0.isMere_ = true then (((if (decide (a0.steps_ = a0.fuel_)) = true then (some (false, a0.steps_, 7, (⟨true, []⟩ : Sl DMatch))) else (some (true, (w4 (a0.steps_ + 1)), a0.code_, a0.matches_))) : Option (Bool × Int × Int × (Sl DMatch))).bind fun y1 => (some (y1.1, (⟨a0.env_, a0.subject_, a0.fuel_, y1.2.1, a0.start_, a0.now_, a0.conds_, y1.2.2.2, a0.most_, a0.isMere_, T.nilm, y1.2.2.1⟩ : aa_)))) else (((if (decide (a0.steps_ = a0.fuel_)) = true then (some (false, a0.steps_, 7, (⟨true, []⟩ : Sl DMatch))) else (some (true, (w4 (a0.steps_ + 1)), a0.code_, a0.matches_))) : Option (Bool × Int × Int × (Sl DMatch))).bind fun y2 => (if (!y2.1) = true then (some (false, (⟨a0.env_, a0.subject_, a0.fuel_, y2.2.1, a0.start_, a0.now_, a0.conds_, y2.2.2.2, a0.most_, a0.isMere_, T.nilm, y2.2.2.1⟩ : aa_))) else (if (decide ((y2.2.2.2.l.length : Int) = 60)) = true then (some (false, (⟨a0.env_, a0.subject_, a0.fuel_, y2.2.1, a0.start_, a0.now_, a0.conds_, y2.2.2.2, a0.most_, a0.isMere_, T.nilm, 6⟩ : aa_))) else ((a9_ ⟨false, [a0.now_, a0.conds_]⟩).bind fun y3 => ((appS 40 y2.2.2.2 (⟨false, [(⟨a0.start_, a1, y3⟩ : DMatch)]⟩ : Sl DMatch)).bind fun y4 => (some ((!decide ((y4.l.length : Int) = a0.most_)), (⟨a0.env_, a0.subject_, a0.fuel_, y2.2.1, a0.start_, a0.now_, a0.conds_, y4, a0.most_, a0.isMere_, T.nilm, y2.2.2.1⟩ : aa_)))))))))
theorem gr_ (a0 : aa_) (a1 : Int) (r : (Bool × aa_)) (h : ak_ a0 a1 = some r) (bp0 : Nat) (mq_bp0 : T) (mh_bp0 : isMp mq_bp0 = true) (p0_1 p0_2 p0_3 : T) : RawS Try.prog md ext 113 [.ptr bp0 0 0 12, i4 a1] 3 (fun hs => E_bool r.1) [.box bp0 [a0.env_.t, .str a0.subject_, i4 a0.fuel_, i4 a0.steps_, i4 a0.start_, p0_1, p0_2, p0_3, i4 a0.most_, .bool a0.isMere_, mq_bp0, i4 a0.code_], .flt 4 p0_1 a0.now_.t, .flt 4 p0_2 a0.conds_.t, .own true 3 p0_3 a0.matches_.t] (fun hs => a1_ bp0 mq_bp0 r.2 hs) := by
 unfold ak_ at h
 refine b9_ rfl rfl ok_113 rfl ?_
 intro σ0 σ F σk s hS hH
 have hp0_1 : ar_ p0_1 := Heap.fltOne (hH.at 1 rfl)
 have hp0_2 : ar_ p0_2 := Heap.fltOne (hH.at 2 rfl)
 have hp0_3 : ar_ p0_3 := Heap.one (hH.at 3 rfl)
 have hmq_bp0 : ar_ mq_bp0 := gb_ mh_bp0
 have hS := ad_ (L' := [(0, .ptr bp0 0 0 12), (1, i4 a1)]) hS (by kernel_rfl)
 refine t_go h hS hH ?_
 refine t_RN ?_
 refine t_RU 3 ?_
 refine ae_ 0 ?_
 refine t_U 1 ?_
 refine aQ_ 9 (fun hc1 => ?_) fun hc1 => ?_
 ·refine t_N ?_
  refine t_cT rfl ?_
  refine t_RU 3 ?_
  refine ae_ 0 ?_
  refine t_U 1 ?_
  refine t_gT 18 hc1 ?_
  refine t_U 1 ?_
  refine e3_ (fun y1 s σ => ∃ t1, ar_ t1 ∧ Sub [(18, .bool true), (20, .bool y1.1)] s ∧ Heap σ0 σ [.box bp0 [a0.env_.t, .str a0.subject_, i4 a0.fuel_, i4 y1.2.1, i4 a0.start_, p0_1, p0_2, t1, i4 a0.most_, .bool a0.isMere_, mq_bp0, i4 y1.2.2.1], .flt 4 p0_1 a0.now_.t, .flt 4 p0_2 a0.conds_.t, .own true 3 t1 y1.2.2.2.t, .keep F σk]) ok_137 (fun y1 => ?_) fun y1 s σ HF h => ?_
  ·refine t_RN ?_
   refine t_D fun mb => ?_
   refine t_U 3 ?_
   refine ae_ 0 ?_
   refine t_U 3 ?_
   refine ae_ 0 ?_
   refine t_N ?_
   refine t_if (fun hc2 => ?_) fun hc2 => ?_
   ·refine t_RU 1 ?_
    refine dS_ ok_142 ?_
    refine t_RN ?_
    refine t_RU 5 ?_
    refine aO_ 0 ?_
    refine t_U 2 ?_
    refine aO_ 0 ?_
    refine t_N ?_
    refine t_RN ?_
    refine k_eI (rT rN) ?_
    refine t_N ?_
    refine t_h (Heap.addNil · true 3) ?_
    exact cv_ (rT rN) fun he hS hH => he ▸ ⟨(T.row true 0 []), ⟨rfl, rfl⟩, (ad_ hS (by kernel_rfl)), (Heap.sel hH [1, 2, 3, 0, 5] rfl (by kernel_rfl))⟩
   refine t_RU 3 ?_
   refine ae_ 0 ?_
   refine t_U 3 ?_
   refine aO_ 0 ?_
   refine t_N ?_
   refine t_RU 3 ?_
   refine ae_ 0 ?_
   refine lX_ mh_bp0 ?_
   refine t_N ?_
   refine mi_ [] [.box bp0 [a0.env_.t, .str a0.subject_, i4 a0.fuel_, i4 (w4 (a0.steps_ + 1)), i4 a0.start_, p0_1, p0_2, p0_3, i4 a0.most_, .bool a0.isMere_, mq_bp0, i4 a0.code_], .flt 4 p0_1 a0.now_.t, .flt 4 p0_2 a0.conds_.t, .own true 3 p0_3 a0.matches_.t, .keep F σk] ?_ ?_
   ·refine oZ_ (fun hc3 => ?_) fun hc3 => ?_
    ·refine t_RU 3 ?_
     refine ae_ 0 ?_
     refine t_U 1 ?_
     refine h0_ hc3 KeyM.nil ?_
     refine t_U 1 ?_
     refine hX_ hc3 KeyM.nil ?_
     refine t_N ?_
     exact t_eU fun hS hH => ⟨rfl, ad_ hS (by kernel_rfl), hH⟩
    exact t_eU fun hS hH => ⟨rfl, ad_ hS (by kernel_rfl), hH⟩
   refine t_RN ?_
   exact cv_ (rT rN) fun he hS hH => he ▸ ⟨p0_3, hp0_3, (ad_ hS (by kernel_rfl)), hH⟩
  obtain ⟨t1, ht1, ⟨hS, hH⟩⟩ := HF
  refine t_bk h hS hH ?_
  refine t_N ?_
  intro h s σ hS hH
  obtain rfl := si_1 h
  exact aR_ [p0_1, p0_2, t1] (bs_ (v := .bool y1.1) hS rfl r_nil) rfl rfl hH
 refine t_U 1 ?_
 refine e3_ (fun y2 s σ => ∃ t2, ar_ t2 ∧ Sub [(0, .ptr bp0 0 0 12), (1, i4 a1), (9, .bool false), (11, .bool y2.1)] s ∧ Heap σ0 σ [.box bp0 [a0.env_.t, .str a0.subject_, i4 a0.fuel_, i4 y2.2.1, i4 a0.start_, p0_1, p0_2, t2, i4 a0.most_, .bool a0.isMere_, mq_bp0, i4 y2.2.2.1], .flt 4 p0_1 a0.now_.t, .flt 4 p0_2 a0.conds_.t, .own true 3 t2 y2.2.2.2.t, .keep F σk]) ok_137 (fun y2 => ?_) fun y2 s σ HF h => ?_
 ·refine t_RN ?_
  refine t_D fun mb => ?_
  refine t_U 3 ?_
  refine ae_ 0 ?_
  refine t_U 3 ?_
  refine ae_ 0 ?_
  refine t_N ?_
  refine t_if (fun hc4 => ?_) fun hc4 => ?_
  ·refine t_RU 1 ?_
   refine dS_ ok_142 ?_
   refine t_RN ?_
   refine t_RU 5 ?_
   refine aO_ 0 ?_
   refine t_U 2 ?_
   refine aO_ 0 ?_
   refine t_N ?_
   refine t_RN ?_
   refine k_eI (rT rN) ?_
   refine t_N ?_
   refine t_h (Heap.addNil · true 3) ?_
   exact cv_ (rT rN) fun he hS hH => he ▸ ⟨(T.row true 0 []), ⟨rfl, rfl⟩, (ad_ hS (by kernel_rfl)), (Heap.sel hH [1, 2, 3, 0, 5] rfl (by kernel_rfl))⟩
  refine t_RU 3 ?_
  refine ae_ 0 ?_
  refine t_U 3 ?_
  refine aO_ 0 ?_
  refine t_N ?_
  refine t_RU 3 ?_
  refine ae_ 0 ?_
  refine lX_ mh_bp0 ?_
  refine t_N ?_
  refine mi_ [] [.box bp0 [a0.env_.t, .str a0.subject_, i4 a0.fuel_, i4 (w4 (a0.steps_ + 1)), i4 a0.start_, p0_1, p0_2, p0_3, i4 a0.most_, .bool a0.isMere_, mq_bp0, i4 a0.code_], .flt 4 p0_1 a0.now_.t, .flt 4 p0_2 a0.conds_.t, .own true 3 p0_3 a0.matches_.t, .keep F σk] ?_ ?_
  ·refine oZ_ (fun hc5 => ?_) fun hc5 => ?_
   ·refine t_RU 3 ?_
    refine ae_ 0 ?_
    refine t_U 1 ?_
    refine h0_ hc5 KeyM.nil ?_
    refine t_U 1 ?_
    refine hX_ hc5 KeyM.nil ?_
    refine t_N ?_
    exact t_eU fun hS hH => ⟨rfl, ad_ hS (by kernel_rfl), hH⟩
   exact t_eU fun hS hH => ⟨rfl, ad_ hS (by kernel_rfl), hH⟩
  refine t_RN ?_
  exact cv_ (rT rN) fun he hS hH => he ▸ ⟨p0_3, hp0_3, (ad_ hS (by kernel_rfl)), hH⟩
 obtain ⟨t2, ht2, ⟨hS, hH⟩⟩ := HF
 refine t_bk h hS hH ?_
 refine t_N ?_
 refine t_if (fun hc6 => ?_) fun hc6 => ?_
 ·refine t_RU 3 ?_
  refine ae_ 0 ?_
  refine t_U 1 ?_
  refine t_gF 18 hc1 ?_
  refine t_N ?_
  intro h s σ hS hH
  obtain rfl := si_1 h
  exact aR_ [p0_1, p0_2, t2] (bs_ (v := .bool false) hS rfl r_nil) rfl rfl hH
 refine t_RU 3 ?_
 refine ae_ 0 ?_
 refine iC_ (a := y2.2.2.2) 3 ?_
 refine t_N ?_
 refine t_if (fun hc7 => ?_) fun hc7 => ?_
 ·refine t_RU 3 ?_
  refine aO_ 0 ?_
  refine t_N ?_
  refine t_RN ?_
  intro h s σ hS hH
  obtain rfl := si_1 h
  exact aR_ [p0_1, p0_2, t2] (bs_ (v := .bool false) hS rfl r_nil) rfl rfl hH
 refine be_ [(22, RN), (25, RN)] ext_x fun mb σs hn0 hlt hlto => ?_
 have hlt_bp0 : bp0 < mb := hlt bp0 _ (List.Mem.head _)
 refine t_U 4 ?_
 refine ae_ 0 ?_ (hlt := by exact (Or.inr ⟨hlt_bp0, (Wc.cons (.inl (by kernel_rfl)) (Wc.cons (.inl (by kernel_rfl)) Wc.nil))⟩))
 refine t_U 3 ?_
 refine ae_ 0 ?_ (hlt := by exact (Or.inr ⟨hlt_bp0, (Wc.cons (.inl (by kernel_rfl)) (Wc.cons (.inl (by kernel_rfl)) Wc.nil))⟩))
 refine t_U 4 ?_
 refine ae_ 0 ?_ (hlt := by exact (Or.inl (by kernel_rfl)))
 refine t_U 3 ?_
 refine ae_ 0 ?_ (hlt := by exact (Or.inl (by kernel_rfl)))
 intro h s σ hS hH
 refine sD_ rfl (by exact hn0) (e := 91) (sz := 1) (vs := [p0_1, p0_2]) (zc := [(nt DCapture)]) (cs := [p0_1, p0_2]) (v := (T.row false 2 [p0_1, p0_2])) rfl hS hH (by kernel_rfl) (by kernel_rfl) (by kernel_rfl) (by kernel_rfl) (by kernel_rfl) (⟨(by simp [hp0_1.1, hp0_1.2]), (by simp [hp0_1.1, hp0_1.2]), (by simp [hp0_2.1, hp0_2.2]), (by simp [hp0_2.1, hp0_2.2]), trivial⟩) (by simp [hp0_1.1, hp0_1.2, hp0_2.1, hp0_2.2]) rfl ?_; intro t3 σ s ht3 hH hS
 have hH : Heap σ0 σ [.flt 1 t3 (T.row false 2 [p0_1, p0_2]), .box bp0 [a0.env_.t, .str a0.subject_, i4 a0.fuel_, i4 y2.2.1, i4 a0.start_, p0_1, p0_2, t2, i4 a0.most_, .bool a0.isMere_, mq_bp0, i4 y2.2.2.1], .flt 4 p0_1 a0.now_.t, .flt 4 p0_2 a0.conds_.t, .own true 3 t2 y2.2.2.2.t, .keep F σk] := hH
 have hH := hH.up3.up3.up2
 obtain ⟨y3, hy3, h⟩ := bind_some h
 refine pc_ rfl (ts := [t3]) (vs := [(Sl.t (⟨false, [a0.now_, a0.conds_]⟩ : Sl (Sl DCapture)))]) rfl hS rfl rfl rfl hH (qe_ hH) hy3 ?_; intro hs σ s hl hH hS
 obtain ⟨t4, rfl⟩ := len1 hl
 have hH : Heap σ0 σ [.own true 4 t4 y3.t, .flt 1 t3 (T.row false 2 [p0_1, p0_2]), .flt 4 p0_1 a0.now_.t, .flt 4 p0_2 a0.conds_.t, .box bp0 [a0.env_.t, .str a0.subject_, i4 a0.fuel_, i4 y2.2.1, i4 a0.start_, p0_1, p0_2, t2, i4 a0.most_, .bool a0.isMere_, mq_bp0, i4 y2.2.2.1], .own true 3 t2 y2.2.2.2.t, .keep F σk] := hH
 have ht4 : ar_ t4 := Heap.one hH
 refine ln_ (qs := [(0, i4 a0.start_), (1, i4 a1), (2, t4)]) (z := [i4 0, i4 0, (nt DCapture)]) (r := [i4 a0.start_, i4 a1, t4]) [[i4 a0.start_], [i4 a1], [t4]] rfl hS rfl (by kernel_rfl) (by kernel_rfl) (⟨rfl, (by kernel_rfl), rfl, (by kernel_rfl), (by simp [ht4.1, ht4.2]), (by simp [ht4.1, ht4.2]), trivial⟩) (by kernel_rfl) ?_; intro s hS
 refine t_bk h hS hH ?_
 refine k_bs (z := true) (⟨false, [(⟨a0.start_, a1, y3⟩ : DMatch)]⟩ : Sl DMatch) (fun t5 ht5 => ?_) (hb := by exact hn0) (h1 := by simp [ht4.1, ht4.2])
 refine lF_ 5 0 (fun y4 t6 hy4 ht6 => ?_) (hb := by exact hn0) (hwr := by exact fun hH b e o n h0 => Or.inr ⟨22, by kernel_rfl, fun h => h⟩)
 refine t_U 2 ?_
 refine ca_ 4 ht6 ?_ (hwr := by exact fun hH => Or.inr ⟨25, by kernel_rfl, fun h => h⟩)
 refine t_N ?_
 refine t_D fun mb => ?_
 refine t_U 3 ?_
 refine ae_ 0 ?_
 refine iC_ (a := y4) 1 ?_
 refine t_U 3 ?_
 refine ae_ 0 ?_
 refine t_N ?_
 intro h s σ hS hH
 obtain rfl := si_1 h
 exact aR_ [p0_1, p0_2, t6] (bs_ (v := .bool (!decide ((y4.l.length : Int) = a0.most_))) hS rfl r_nil) rfl rfl (Heap.sel hH [0, 3, 4, 1, 5] rfl (by kernel_rfl))
theorem ek_ (Fk : List Nat) (σq : St) (bs : Nat) (mq_bs : T) (mh_bs : isMp mq_bs = true) : dV_ Try.prog md ext (a1_ bs mq_bs) 3 (T.fn 113 [.ptr bs 0 0 12] []) (fun e (S : aa_) => ak_ S e) Fk σq := fun e S y hs hl h => by
 obtain ⟨t1, t2, t3, rfl⟩ := len3 hl
 exact ⟨113, _, _, rfl, (gr_ S e y h bs mq_bs mh_bs t1 t2 t3).keep _⟩
noncomputable def ds_ (a0 : (Sl DNamed)) (a1 : DPattern) (a2 : ByteArray) (a3 : Bool) (a4 : Int) : Option (Int × Int) := ((cz_ a0 a1 a2 a4).bind fun y1 => (if (!decide (y1 = 0)) = true then (some (0, y1)) else ((bm_ a2 a3).bind fun y2 => ((aF_ (S := (Int × (Sl DNamed) × ByteArray × Int × Int × Int × Int × Bool × Int × (Sl DCapture) × (Sl DCapture) × (Sl DMatch))) (R := ((Sl DNamed) × ByteArray × Int × Int × Int × Int × Bool × Int × (Sl DCapture) × (Sl DCapture) × (Sl DMatch))) (fun st1 => (if (decide (st1.1 < (y2.l.length : Int))) = true then ((elt y2 st1.1).bind fun y4 => ((bk_ (⟨st1.2.1, st1.2.2.1, st1.2.2.2.1, st1.2.2.2.2.1, y4.v, st1.2.2.2.2.2.2.2.2.2.1, st1.2.2.2.2.2.2.2.2.2.2.1, st1.2.2.2.2.2.2.2.2.2.2.2, st1.2.2.2.2.2.2.1, st1.2.2.2.2.2.2.2.1, T.nilm, st1.2.2.2.2.2.2.2.2.1⟩ : aa_) a1 y4.v (fun e (S : aa_) => ak_ S e)).bind fun y5 => (if (!y5.1) = true then (some (.inr (y5.2.env_, y5.2.subject_, y5.2.fuel_, y5.2.steps_, y5.2.start_, y5.2.most_, y5.2.isMere_, y5.2.code_, y5.2.now_, y5.2.conds_, y5.2.matches_))) else (some (.inl ((w4 (st1.1 + 1)), y5.2.env_, y5.2.subject_, y5.2.fuel_, y5.2.steps_, y5.2.start_, y5.2.most_, y5.2.isMere_, y5.2.code_, y5.2.now_, y5.2.conds_, y5.2.matches_)))))) else (some (.inr (st1.2.1, st1.2.2.1, st1.2.2.2.1, st1.2.2.2.2.1, st1.2.2.2.2.2.1, st1.2.2.2.2.2.2.1, st1.2.2.2.2.2.2.2.1, st1.2.2.2.2.2.2.2.2.1, st1.2.2.2.2.2.2.2.2.2.1, st1.2.2.2.2.2.2.2.2.2.2.1, st1.2.2.2.2.2.2.2.2.2.2.2))))) (0, a0, a2, a4, 0, 0, 0, true, 0, (⟨true, []⟩ : Sl DCapture), (⟨true, []⟩ : Sl DCapture), (⟨true, []⟩ : Sl DMatch))).bind fun y3 => (if (!decide (y3.2.2.2.2.2.2.2.1 = 0)) = true then (some (0, y3.2.2.2.2.2.2.2.1)) else (some (y3.2.2.2.1, 0)))))))
theorem hl_ (a0 : (Sl DNamed)) (a1 : DPattern) (a2 : ByteArray) (a3 : Bool) (a4 : Int) (r : (Int × Int)) (h : ds_ a0 a1 a2 a3 a4 = some r) : cF_ a0 a1 a2 a3 a4 = some r := by
 unfold ds_ at h
 refine k_W ok_43 E_t2_i64_i64_inj h (fun σ0 => ?_)
 refine t_R ?_
 refine cI_ (fun b1 => ?_)
 refine t_N ?_
 refine t_RU 4 ?_
 refine dS_ ok_83 ?_
 refine t_RN ?_
 refine t_RU 3 ?_
 refine ae_ 0 ?_
 refine t_U 2 ?_
 refine aA_ fun y1 hy1 => ?_
 refine t_N ?_
 refine t_RN ?_
 refine t_if (fun hc1 => ?_) fun hc1 => ?_
 ·refine t_RN ?_
  refine k_eI (rT (rT rN)) ?_
  refine t_N ?_
  refine t_RN ?_
  refine t_cT hc1 ?_
  refine t_RN ?_
  exact k_eW (rT (rT rN)) E_t2_i64_i64_p
 refine t_RU 3 ?_
 refine oF_ ?_
 refine t_U 1 ?_
 refine cI_ (fun b2 => ?_)
 refine t_N ?_
 refine t_RU 4 ?_
 refine eD_ (fun y2 t1 hy2 ht1 => ?_)
 refine dS_ ok_71 ?_
 refine t_RU 1 ?_
 refine iC_ (a := y2) 0 ?_
 refine t_N ?_
 refine t_h (Heap.addNil · true 4) ?_
 refine mn_ 4 0 ?_
 refine t_h (Heap.addNil · true 4) ?_
 refine mn_ 4 0 ?_
 refine t_h (Heap.addNil · true 3) ?_
 refine a6_ (fun st1 fr => ∃ t5, ar_ t5 ∧ ∃ t6, ar_ t6 ∧ ∃ t7, ar_ t7 ∧ Sub [(0, .ptr b2 0 0 12), (1, .ptr b1 0 0 4), (8, t1), (9, i4 (y2.l.length : Int)), (10, i4 st1.1)] fr.s ∧ Heap σ0 fr.σ [.box b2 [st1.2.1.t, .str st1.2.2.1, i4 st1.2.2.2.1, i4 st1.2.2.2.2.1, i4 st1.2.2.2.2.2.1, t5, t6, t7, i4 st1.2.2.2.2.2.2.1, .bool st1.2.2.2.2.2.2.2.1, .mp true, i4 st1.2.2.2.2.2.2.2.2.1], .box b1 [i4 a1.Kind, i4 a1.Num, .str a1.Text, a1.Kids.t], .own true 1 t1 y2.t, .flt 4 t5 st1.2.2.2.2.2.2.2.2.2.1.t, .flt 4 t6 st1.2.2.2.2.2.2.2.2.2.2.1.t, .own true 3 t7 st1.2.2.2.2.2.2.2.2.2.2.2.t]) (fun y3 e fr => ∃ t8, ar_ t8 ∧ ∃ t9, ar_ t9 ∧ ∃ t10, ar_ t10 ∧ e = (.exit 0) ∧ Sub [] fr.s ∧ Heap σ0 fr.σ [.box b2 [y3.1.t, .str y3.2.1, i4 y3.2.2.1, i4 y3.2.2.2.1, i4 y3.2.2.2.2.1, t8, t9, t10, i4 y3.2.2.2.2.2.1, .bool y3.2.2.2.2.2.2.1, .mp true, i4 y3.2.2.2.2.2.2.2.1], .flt 4 t8 y3.2.2.2.2.2.2.2.2.1.t, .flt 4 t9 y3.2.2.2.2.2.2.2.2.2.1.t, .own true 3 t10 y3.2.2.2.2.2.2.2.2.2.2.t]) (fun hS hH => ⟨(T.row true 0 []), ⟨rfl, rfl⟩, (T.row true 0 []), ⟨rfl, rfl⟩, (T.row true 0 []), ⟨rfl, rfl⟩, (ad_ hS (by kernel_rfl)), (Heap.sel hH [4, 5, 3, 2, 1, 0] rfl (by kernel_rfl))⟩) (fun st1 x fr h HI => ?_) fun y3 e fr h HF => ?_
 ·obtain ⟨s, σ⟩ := fr; obtain ⟨t5, ht5, ⟨t6, ht6, ⟨t7, ht7, ⟨hS, hH⟩⟩⟩⟩ := HI
  refine t_bk h hS hH ?_
  refine t_RN ?_
  refine t_if (fun hc2 => ?_) fun hc2 => ?_
  ·refine t_R ?_
   refine h9_ 2 (fun hb1 hb1e y4 hy4 hl_hb1 => ?_)
   refine ju_ 2 0 hl_hb1 hy4 ?_
   refine t_N ?_
   refine t_RU 4 ?_
   refine aO_ 0 ?_
   refine t_N ?_
   refine t_RU 5 ?_
   refine t_h Heap.up1 ?_
   intro h s σ hS hH
   obtain ⟨Fq1, σq1, hH, hU1, hB1, hK1⟩ := Heap.wrapN (A := [.box b1 [i4 a1.Kind, i4 a1.Num, .str a1.Text, a1.Kids.t]]) hH
   have hH := hH.up5.up5.up5.up4
   refine t_bk h hS hH ?_
   refine aK_ (fun y5 hs hy5 hl => ?_) (hr := by exact fun y5 hy5 => ew_ _ _ _ _ y5 hy5 Fq1 σq1 b2 (.mp true) rfl t5 t6 t7 (.ptr b1 0 0 4) (Pt.box rfl (hB1 _ _ (List.Mem.head _))) (T.fn 113 [.ptr b2 0 0 12] []) ⟨rfl, rfl⟩ (ek_ Fq1 σq1 b2 (.mp true) rfl))
   obtain ⟨t11, t12, t13, rfl⟩ := len3 hl
   refine bf_ ?_
   refine ay_ 1 fun ht11 => ?_
   refine ay_ 2 fun ht12 => ?_
   refine ay_ 3 fun ht13 => ?_
   refine t_h Heap.up4 ?_
   intro h s σ hS hH
   have hH := hU1 _ _ hH
   have hH : Heap σ0 σ [.box b1 [i4 a1.Kind, i4 a1.Num, .str a1.Text, a1.Kids.t], .box b2 [y5.2.env_.t, .str y5.2.subject_, i4 y5.2.fuel_, i4 y5.2.steps_, i4 y5.2.start_, t11, t12, t13, i4 y5.2.most_, .bool y5.2.isMere_, .mp true, i4 y5.2.code_], .flt 4 t11 y5.2.now_.t, .flt 4 t12 y5.2.conds_.t, .own true 3 t13 y5.2.matches_.t, .own true 1 t1 y2.t] := hH
   refine t_bk h hS hH ?_
   refine t_N ?_
   refine t_if (fun hc3 => ?_) fun hc3 => ?_
   ·exact t_e fun he hS hH => he ▸ ⟨t11, ht11, t12, ht12, t13, ht13, rfl, (ad_ hS (by kernel_rfl)), (Heap.sel hH [1, 2, 3, 4] rfl (by kernel_rfl))⟩
   refine t_RN ?_
   exact t_e fun he hS hH => he ▸ ⟨t11, ht11, t12, ht12, t13, ht13, (ad_ hS (by kernel_rfl)), (Heap.sel hH [1, 0, 5, 2, 3, 4] rfl (by kernel_rfl))⟩
  exact t_e fun he hS hH => he ▸ ⟨t5, ht5, t6, ht6, t7, ht7, rfl, (ad_ hS (by kernel_rfl)), (Heap.sel hH [0, 3, 4, 5] rfl (by kernel_rfl))⟩
 obtain ⟨s, σ⟩ := fr
 obtain ⟨t8, ht8, ⟨t9, ht9, ⟨t10, ht10, ⟨rfl, hS, hH⟩⟩⟩⟩ := HF
 refine t_bx h hS hH ?_
 refine k_eI rN ?_
 refine t_N ?_
 refine t_D fun mb => ?_
 refine t_U 4 ?_
 refine ae_ 0 ?_
 refine t_N ?_
 refine k_eI (rT (rT rN)) ?_
 refine t_N ?_
 refine t_RN ?_
 refine t_if (fun hc4 => ?_) fun hc4 => ?_
 ·refine t_RN ?_
  exact k_eW (rT (rT rN)) E_t2_i64_i64_p
 refine t_RU 3 ?_
 refine ae_ 0 ?_
 refine t_N ?_
 exact k_eW (rT (rT rN)) E_t2_i64_i64_p
noncomputable def c4_ (a0 : (Sl DMatch)) (a1 : (Sl DMatch)) : Option Bool := ((bU_ a0 a1 (T.fn 85 [] [])).bind fun y1 => (some y1))
theorem gM_ (a0 : (Sl DMatch)) (a1 : (Sl DMatch)) (r : Bool) (h : c4_ a0 a1 = some r) : cn_ a0 a1 = some r := by
 unfold c4_ at h
 refine k_W ok_44 E_bool_inj h (fun σ0 => ?_)
 refine t_RN ?_
 refine t_RU 2 ?_
 refine aA_ fun y1 hy1 => ?_
 refine t_N ?_
 exact k_eW (rT rN) E_bool_p
noncomputable def cV_ (a0 : DPattern) : Option Bool := ((aG_ a0 0).bind fun y1 => (some (decide (y1 ≤ 60))))
theorem gz_ (a0 : DPattern) (r : Bool) (h : cV_ a0 = some r) : b3_ a0 = some r := by
 unfold cV_ at h
 refine k_W ok_52 E_bool_inj h (fun σ0 => ?_)
 refine t_R ?_
 refine cI_ (fun b1 => ?_)
 refine t_N ?_
 refine t_R ?_
 refine ae_ 0 ?_
 refine aA_ fun y1 hy1 => ?_
 refine t_N ?_
 exact k_eW (rT rN) E_bool_p
noncomputable def dz_ (a0 : DPattern) : Option DPattern := ((bz_ a0).bind fun y1 => (((if (decide (a0.Kind = 14)) = true then (some (decide (a0.Kind = 14))) else (some (decide (a0.Kind = 17)))) : Option Bool).bind fun y2 => (if y2 = true then (some (⟨1, 0, ⟨#[]⟩, ⟨true, []⟩⟩ : DPattern)) else (if (decide (a0.Kind = 15)) = true then (some (⟨16, 0, ⟨#[]⟩, ⟨true, []⟩⟩ : DPattern)) else ((aF_ (S := (Int × (Sl DPattern))) (R := (Sl DPattern)) (fun st1 => (if (decide (st1.1 < (a0.Kids.l.length : Int))) = true then ((elt a0.Kids st1.1).bind fun y4 => ((bw_ y4).bind fun y5 => ((elt st1.2 st1.1).bind fun y6 => (some (.inl ((w4 (st1.1 + 1)), (setS st1.2 st1.1 (y5 : DPattern)))))))) else (some (.inr st1.2)))) (0, y1.Kids)).bind fun y3 => (some (⟨y1.Kind, y1.Num, y1.Text, y3⟩ : DPattern)))))))
theorem iQ_ (a0 : DPattern) (r : DPattern) (h : dz_ a0 = some r) : bw_ a0 = some r := by
 unfold dz_ at h
 refine k_O ok_56 h (fun σ0 => ?_)
 refine t_R ?_
 refine cI_ (fun b1 => ?_)
 refine b2_ fun b2 => ?_
 refine t_N ?_
 refine t_R ?_
 refine ae_ 1 ?_
 refine eD_ (fun y1 t1 hy1 ht1 => ?_)
 refine b2_ fun b3 => ?_
 refine aY_ 0 ?_ (h1 := by simp [ht1.1, ht1.2])
 refine t_N ?_
 refine t_RU 1 ?_
 refine ae_ 3 ?_
 refine t_N ?_
 refine t_RN ?_
 refine ee_ 0 (fun y2 e fr => e = .normal ∧ Sub [(1, .ptr b1 0 0 4), (2, .ptr b2 0 0 4), (3, .ptr b3 0 0 4), (8, i4 a0.Kind), (9, .bool y2)] fr.s ∧ Heap σ0 fr.σ [.box b3 [i4 y1.Kind, i4 y1.Num, .str y1.Text, t1], .box b2 [i4 0, i4 0, .str ⟨#[]⟩, (nt DPattern)], .box b1 [i4 a0.Kind, i4 a0.Num, .str a0.Text, a0.Kids.t], .own true 4 t1 y1.Kids.t]) (fun y2 e fr h HF => ?_) fun y2 => ?_
 ·obtain ⟨s, σ⟩ := fr
  obtain ⟨rfl, hS, hH⟩ := HF
  refine t_bx h hS hH ?_
  refine t_if (fun hc1 => ?_) fun hc1 => ?_
  ·refine t_RU 1 ?_
   refine aY_ 1 ?_
   refine t_N ?_
   refine t_h (Heap.addNil · true 4) ?_
   exact k_eO [(T.row true 0 [])] (rC 1 rN)
  refine t_RN ?_
  refine t_if (fun hc2 => ?_) fun hc2 => ?_
  ·refine t_RU 1 ?_
   refine aY_ 1 ?_
   refine t_N ?_
   refine t_h (Heap.addNil · true 4) ?_
   exact k_eO [(T.row true 0 [])] (rC 1 rN)
  refine t_RN ?_
  refine a6_ (fun st1 fr => Sub [(1, .ptr b1 0 0 4), (2, .ptr b2 0 0 4), (3, .ptr b3 0 0 4), (4, i4 st1.1)] fr.s ∧ Heap σ0 fr.σ [.box b3 [i4 y1.Kind, i4 y1.Num, .str y1.Text, t1], .box b2 [i4 0, i4 0, .str ⟨#[]⟩, (nt DPattern)], .box b1 [i4 a0.Kind, i4 a0.Num, .str a0.Text, a0.Kids.t], .own true 4 t1 st1.2.t]) (fun y3 e fr => e = (.exit 1) ∧ Sub [(2, .ptr b2 0 0 4), (3, .ptr b3 0 0 4)] fr.s ∧ Heap σ0 fr.σ [.box b3 [i4 y1.Kind, i4 y1.Num, .str y1.Text, t1], .box b2 [i4 0, i4 0, .str ⟨#[]⟩, (nt DPattern)], .own true 4 t1 y3.t]) (fun hS hH => ⟨(ad_ hS (by kernel_rfl)), hH⟩) (fun st1 x fr h HI => ?_) fun y3 e fr h HF => ?_
  ·obtain ⟨s, σ⟩ := fr; obtain ⟨hS, hH⟩ := HI
   refine t_bk h hS hH ?_
   refine t_RU 2 ?_
   refine ae_ 2 ?_
   refine t_N ?_
   refine t_if (fun hc3 => ?_) fun hc3 => ?_
   ·refine be_ [(10, RN)] ext_x fun mb σs hn0 hlt hlto => ?_
    have hlt_b3 : b3 < mb := hlt b3 _ (List.Mem.head _)
    refine t_U 1 ?_
    refine ae_ 0 ?_ (hlt := by exact (Or.inr ⟨hlt_b3, (Wc.cons (.inl (by kernel_rfl)) Wc.nil)⟩))
    refine t_U 2 ?_
    refine ae_ 2 ?_ (hlt := by exact (Or.inl (by kernel_rfl)))
    refine t_U 1 ?_
    refine cj_ fun y4 rest1 hy4 => ?_
    refine t_U 1 ?_
    refine eD_ (fun y5 t2 hy5 ht2 => ?_)
    refine h9_ 4 (fun hb1 hb1e y6 hy6 hl_hb1 => ?_) (hlt := by exact (fun _ _ _ _ _ => Or.inl (by kernel_rfl)))
    refine t_h Heap.up4 ?_
    intro h s σ hS hH
    refine ki_ rfl (ents := [.own true 4 t2 y5.Kids.t]) (a := st1.2) (j := st1.1) (y := y6) (y' := (y5 : DPattern)) (off := 0) (c := [i4 y6.Kind, i4 y6.Num, .str y6.Text, y6.Kids.t]) (us := [i4 y5.Kind, i4 y5.Num, .str y5.Text, t2]) (vs := [i4 y5.Kind, i4 y5.Num, .str y5.Text, y5.Kids.t]) (v := .agg [i4 y5.Kind, i4 y5.Num, .str y5.Text, t2]) (by exact Or.inr ⟨10, by kernel_rfl, fun h => h⟩) rfl hS hH hl_hb1 rfl rfl rfl (by simp [ht2.1, ht2.2]) (by kernel_rfl) rfl hy6 (DPattern.cells_eq _) (HLi (HLi (HLs (HL.own rfl HL.nil)))) rfl (by rw [DPattern.enc_eq]; rfl) ?_; intro σ s hH hS
    refine t_bk h hS hH ?_
    refine t_N ?_
    refine t_RN ?_
    exact t_e fun he hS hH => he ▸ ⟨(ad_ hS (by kernel_rfl)), (Heap.sel hH [1, 2, 3, 0] rfl (by kernel_rfl))⟩
   exact t_e fun he hS hH => he ▸ ⟨rfl, (ad_ hS (by kernel_rfl)), (Heap.sel hH [0, 1, 3] rfl (by kernel_rfl))⟩
  obtain ⟨s, σ⟩ := fr
  obtain ⟨rfl, hS, hH⟩ := HF
  refine t_bx h hS hH ?_
  refine t_R ?_
  refine ae_ 0 ?_
  refine aY_ 1 ?_ (h1 := by simp [ht1.1, ht1.2])
  refine t_N ?_
  refine t_h Heap.up2 ?_
  exact k_eO [t1] (rC 1 rN)
 refine t_if (fun hc4 => ?_) fun hc4 => ?_
 ·exact t_e fun he hS hH => by subst he; exact ⟨rfl, (ad_ hS (by kernel_rfl)), (Heap.sel hH [0, 2, 3, 1] rfl (by kernel_rfl))⟩
 refine t_RN ?_
 exact t_e fun he hS hH => by subst he; exact ⟨rfl, (ad_ hS (by kernel_rfl)), (Heap.sel hH [0, 2, 3, 1] rfl (by kernel_rfl))⟩
noncomputable def f1_ (a0 : (Sl (Iv .i64))) : Option Int := ((aF_ (S := Int) (R := (Unit ⊕ Int)) (fun st1 => (if (decide (st1 < (a0.l.length : Int))) = true then ((elt a0 st1).bind fun y2 => (if (!decide (y2.v = 0)) = true then (some (.inr (.inr y2.v))) else (some (.inl (w4 (st1 + 1)))))) else (some (.inr (.inl ()))))) 0).bind fun y1 => (Sum.elim (fun y1 => (some 0)) (fun y1 => (some y1)) y1))
theorem kW_ (a0 : (Sl (Iv .i64))) (r : Int) (h : f1_ a0 = some r) : fO_ a0 = some r := by
 unfold f1_ at h
 refine k_W ok_67 E_i64_inj h (fun σ0 => ?_)
 refine t_RN ?_
 refine t_RN ?_
 refine a6_ (fun st1 fr => Sub [(5, a0.t), (6, i4 (a0.l.length : Int)), (7, i4 st1)] fr.s ∧ Heap σ0 fr.σ []) (fun y1 e fr => (Sum.elim (fun y => e = (.exit 0) ∧ Sub [] fr.s ∧ Heap σ0 fr.σ []) (fun y => e = .ret ∧ endW Try.prog (Try.f67.results.toList) σ0 (E_i64 y) .ret fr)) y1) (fun hS hH => ⟨(ad_ hS (by kernel_rfl)), hH⟩) (fun st1 x fr h HI => ?_) fun y1 e fr h HF => ?_
 ·obtain ⟨s, σ⟩ := fr; obtain ⟨hS, hH⟩ := HI
  refine t_bk h hS hH ?_
  refine t_RN ?_
  refine t_if (fun hc1 => ?_) fun hc1 => ?_
  ·refine t_R ?_
   refine cj_ fun y2 rest1 hy2 => ?_
   refine t_N ?_
   refine t_RN ?_
   refine t_if (fun hc2 => ?_) fun hc2 => ?_
   ·refine t_RN ?_
    exact t_e fun he hS hH => he ▸ ⟨rfl, (eW hS hH (rT rN) E_i64_p)⟩
   refine t_RN ?_
   exact t_e fun he hS hH => he ▸ ⟨(ad_ hS (by kernel_rfl)), hH⟩
  exact t_e fun he hS hH => he ▸ ⟨rfl, (ad_ hS (by kernel_rfl)), hH⟩
 obtain ⟨s, σ⟩ := fr
 rcases y1 with y1 | y1
 ·have h := el_l h
  obtain ⟨rfl, hS, hH⟩ := HF
  refine t_bx h hS hH ?_
  refine t_RN ?_
  exact k_eW (rT rN) E_i64_p
 have h := el_r h
 obtain ⟨rfl, HE⟩ := HF
 obtain rfl := si_1 h; exact HE
noncomputable def fc_ (a0 : Bool) (a1 : Int) : Option Int := (if a0 = true then (some 0) else (some a1))
theorem jw_ (a0 : Bool) (a1 : Int) (r : Int) (h : fc_ a0 a1 = some r) : dY_ a0 a1 = some r := by
 unfold fc_ at h
 refine k_W ok_68 E_i64_inj h (fun σ0 => ?_)
 refine t_RN ?_
 refine t_RN ?_
 refine t_if (fun hc1 => ?_) fun hc1 => ?_
 ·refine t_RN ?_
  exact k_eW (rT rN) E_i64_p
 refine t_RN ?_
 exact k_eW (rT rN) E_i64_p
noncomputable def eS_ (a0 : ByteArray) : Option Bool := (some (decide ((a0.size : Int) ≤ 200)))
theorem iN_ (a0 : ByteArray) (r : Bool) (h : eS_ a0 = some r) : cL_ a0 = some r := by
 unfold eS_ at h
 refine k_W ok_69 E_bool_inj h (fun σ0 => ?_)
 refine t_RN ?_
 refine t_RN ?_
 exact k_eW (rT rN) E_bool_p
noncomputable def dn_ (a0 : (Sl DNamed)) (a1 : DPattern) (a2 : ByteArray) (a3 : Int) : Option Int := ((((el_ a0).bind fun y6 => (if y6 = true then ((b3_ a1).bind fun y7 => (if y7 = true then ((cL_ a2).bind fun y8 => (some y8)) else (some false))) else (some false))) : Option Bool).bind fun y1 => ((dY_ y1 1).bind fun y2 => ((bM_ a3 0 20000).bind fun y3 => ((dY_ y3 3).bind fun y4 => ((fO_ (⟨false, [⟨y2⟩, ⟨y4⟩]⟩)).bind fun y5 => (some y5))))))
theorem g8_ (a0 : (Sl DNamed)) (a1 : DPattern) (a2 : ByteArray) (a3 : Int) (r : Int) (h : dn_ a0 a1 a2 a3 = some r) : cz_ a0 a1 a2 a3 = some r := by
 unfold dn_ at h
 refine k_W ok_70 E_i64_inj h (fun σ0 => ?_)
 refine t_R ?_
 refine cI_ (fun b1 => ?_)
 refine t_N ?_
 refine ee_ 0 (fun y1 e fr => e = .normal ∧ Sub [(3, i4 a3), (9, .bool y1)] fr.s ∧ Heap σ0 fr.σ []) (fun y1 e fr h HF => ?_) fun y1 => ?_
 ·obtain ⟨s, σ⟩ := fr
  obtain ⟨rfl, hS, hH⟩ := HF
  refine t_bx h hS hH ?_
  refine t_RU 1 ?_
  refine aA_ fun y2 hy2 => ?_
  refine t_U 1 ?_
  refine aA_ fun y3 hy3 => ?_
  refine aA_ fun y4 hy4 => ?_
  refine k_bs (z := true) (⟨false, [⟨y2⟩, ⟨y4⟩]⟩ : Sl (Iv .i64)) (fun t1 ht1 => ?_)
  refine nh_ (fun y5 hy5 => ?_)
  refine t_N ?_
  exact k_eW (rT rN) E_i64_p
 refine t_RU 1 ?_
 refine aA_ fun y6 hy6 => ?_
 refine t_U 1 ?_
 refine aQ_ 12 (fun hc1 => ?_) fun hc1 => ?_
 ·refine ae_ 0 ?_
  refine aA_ fun y7 hy7 => ?_
  refine t_U 2 ?_
  refine aQ_ 16 (fun hc2 => ?_) fun hc2 => ?_
  ·refine t_U 1 ?_
   refine aA_ fun y8 hy8 => ?_
   refine t_N ?_
   exact t_e fun he hS hH => he ▸ ⟨rfl, (ad_ hS (by kernel_rfl)), (Heap.sel hH [] rfl (by kernel_rfl))⟩
  refine t_N ?_
  exact t_e fun he hS hH => he ▸ ⟨rfl, (ad_ hS (by kernel_rfl)), (Heap.sel hH [] rfl (by kernel_rfl))⟩
 refine t_N ?_
 exact t_e fun he hS hH => he ▸ ⟨rfl, (ad_ hS (by kernel_rfl)), (Heap.sel hH [] rfl (by kernel_rfl))⟩
noncomputable def c0_ (a0 : (Sl DNamed)) (a1 : DPattern) (a2 : ByteArray) (a3 : (Sl (Iv .i64))) (a4 : Int) : Option ((Sl DMatch) × Int) := ((aF_ (S := (Int × (Sl DNamed) × ByteArray × Int × Int × Int × Int × Bool × Int × (Sl DCapture) × (Sl DCapture) × (Sl DMatch))) (R := ((Sl DNamed) × ByteArray × Int × Int × Int × Int × Bool × Int × (Sl DCapture) × (Sl DCapture) × (Sl DMatch))) (fun st1 => (if (decide (st1.1 < (a3.l.length : Int))) = true then ((elt a3 st1.1).bind fun y2 => ((bk_ (⟨st1.2.1, st1.2.2.1, st1.2.2.2.1, st1.2.2.2.2.1, y2.v, st1.2.2.2.2.2.2.2.2.2.1, st1.2.2.2.2.2.2.2.2.2.2.1, st1.2.2.2.2.2.2.2.2.2.2.2, st1.2.2.2.2.2.2.1, st1.2.2.2.2.2.2.2.1, T.nilm, st1.2.2.2.2.2.2.2.2.1⟩ : aa_) a1 y2.v (fun e (S : aa_) => ak_ S e)).bind fun y3 => (if (!y3.1) = true then (some (.inr (y3.2.env_, y3.2.subject_, y3.2.fuel_, y3.2.steps_, y3.2.start_, y3.2.most_, y3.2.isMere_, y3.2.code_, y3.2.now_, y3.2.conds_, y3.2.matches_))) else (some (.inl ((w4 (st1.1 + 1)), y3.2.env_, y3.2.subject_, y3.2.fuel_, y3.2.steps_, y3.2.start_, y3.2.most_, y3.2.isMere_, y3.2.code_, y3.2.now_, y3.2.conds_, y3.2.matches_)))))) else (some (.inr (st1.2.1, st1.2.2.1, st1.2.2.2.1, st1.2.2.2.2.1, st1.2.2.2.2.2.1, st1.2.2.2.2.2.2.1, st1.2.2.2.2.2.2.2.1, st1.2.2.2.2.2.2.2.2.1, st1.2.2.2.2.2.2.2.2.2.1, st1.2.2.2.2.2.2.2.2.2.2.1, st1.2.2.2.2.2.2.2.2.2.2.2))))) (0, a0, a2, a4, 0, 0, 0, false, 0, (⟨true, []⟩ : Sl DCapture), (⟨true, []⟩ : Sl DCapture), (⟨true, []⟩ : Sl DMatch))).bind fun y1 => (some (y1.2.2.2.2.2.2.2.2.2.2, y1.2.2.2.2.2.2.2.1)))
theorem gZ_ (a0 : (Sl DNamed)) (a1 : DPattern) (a2 : ByteArray) (a3 : (Sl (Iv .i64))) (a4 : Int) (r : ((Sl DMatch) × Int)) (h : c0_ a0 a1 a2 a3 a4 = some r) : db_ a0 a1 a2 a3 a4 = some r := by
 unfold c0_ at h
 refine k_O ok_75 h (fun σ0 => ?_)
 refine t_R ?_
 refine cI_ (fun b1 => ?_)
 refine t_N ?_
 refine t_RU 4 ?_
 refine cI_ (fun b2 => ?_)
 refine t_N ?_
 refine t_RU 2 ?_
 refine dS_ ok_71 ?_
 refine t_RN ?_
 refine t_h (Heap.addNil · true 4) ?_
 refine mn_ 4 0 ?_
 refine t_h (Heap.addNil · true 4) ?_
 refine mn_ 4 0 ?_
 refine t_h (Heap.addNil · true 3) ?_
 refine a6_ (fun st1 fr => ∃ t4, ar_ t4 ∧ ∃ t5, ar_ t5 ∧ ∃ t6, ar_ t6 ∧ Sub [(0, .ptr b2 0 0 12), (1, .ptr b1 0 0 4), (8, a3.t), (9, i4 (a3.l.length : Int)), (10, i4 st1.1)] fr.s ∧ Heap σ0 fr.σ [.box b2 [st1.2.1.t, .str st1.2.2.1, i4 st1.2.2.2.1, i4 st1.2.2.2.2.1, i4 st1.2.2.2.2.2.1, t4, t5, t6, i4 st1.2.2.2.2.2.2.1, .bool st1.2.2.2.2.2.2.2.1, .mp false, i4 st1.2.2.2.2.2.2.2.2.1], .box b1 [i4 a1.Kind, i4 a1.Num, .str a1.Text, a1.Kids.t], .flt 4 t4 st1.2.2.2.2.2.2.2.2.2.1.t, .flt 4 t5 st1.2.2.2.2.2.2.2.2.2.2.1.t, .own true 3 t6 st1.2.2.2.2.2.2.2.2.2.2.2.t]) (fun y1 e fr => ∃ t7, ar_ t7 ∧ ∃ t8, ar_ t8 ∧ ∃ t9, ar_ t9 ∧ e = (.exit 0) ∧ Sub [] fr.s ∧ Heap σ0 fr.σ [.box b2 [y1.1.t, .str y1.2.1, i4 y1.2.2.1, i4 y1.2.2.2.1, i4 y1.2.2.2.2.1, t7, t8, t9, i4 y1.2.2.2.2.2.1, .bool y1.2.2.2.2.2.2.1, .mp false, i4 y1.2.2.2.2.2.2.2.1], .flt 4 t7 y1.2.2.2.2.2.2.2.2.1.t, .flt 4 t8 y1.2.2.2.2.2.2.2.2.2.1.t, .own true 3 t9 y1.2.2.2.2.2.2.2.2.2.2.t]) (fun hS hH => ⟨(T.row true 0 []), ⟨rfl, rfl⟩, (T.row true 0 []), ⟨rfl, rfl⟩, (T.row true 0 []), ⟨rfl, rfl⟩, (ad_ hS (by kernel_rfl)), (Heap.sel hH [3, 4, 2, 1, 0] rfl (by kernel_rfl))⟩) (fun st1 x fr h HI => ?_) fun y1 e fr h HF => ?_
 ·obtain ⟨s, σ⟩ := fr; obtain ⟨t4, ht4, ⟨t5, ht5, ⟨t6, ht6, ⟨hS, hH⟩⟩⟩⟩ := HI
  refine t_bk h hS hH ?_
  refine t_RN ?_
  refine t_if (fun hc1 => ?_) fun hc1 => ?_
  ·refine t_R ?_
   refine cj_ fun y2 rest1 hy2 => ?_
   refine t_N ?_
   refine t_RU 4 ?_
   refine aO_ 0 ?_
   refine t_N ?_
   refine t_RU 5 ?_
   refine t_h Heap.up1 ?_
   intro h s σ hS hH
   obtain ⟨Fq1, σq1, hH, hU1, hB1, hK1⟩ := Heap.wrapN (A := [.box b1 [i4 a1.Kind, i4 a1.Num, .str a1.Text, a1.Kids.t]]) hH
   have hH := hH.up4.up4.up4.up4
   refine t_bk h hS hH ?_
   refine aK_ (fun y3 hs hy3 hl => ?_) (hr := by exact fun y3 hy3 => ew_ _ _ _ _ y3 hy3 Fq1 σq1 b2 (.mp false) rfl t4 t5 t6 (.ptr b1 0 0 4) (Pt.box rfl (hB1 _ _ (List.Mem.head _))) (T.fn 113 [.ptr b2 0 0 12] []) ⟨rfl, rfl⟩ (ek_ Fq1 σq1 b2 (.mp false) rfl))
   obtain ⟨t10, t11, t12, rfl⟩ := len3 hl
   refine bf_ ?_
   refine ay_ 1 fun ht10 => ?_
   refine ay_ 2 fun ht11 => ?_
   refine ay_ 3 fun ht12 => ?_
   refine t_h Heap.up4 ?_
   intro h s σ hS hH
   have hH := hU1 _ _ hH
   have hH : Heap σ0 σ [.box b1 [i4 a1.Kind, i4 a1.Num, .str a1.Text, a1.Kids.t], .box b2 [y3.2.env_.t, .str y3.2.subject_, i4 y3.2.fuel_, i4 y3.2.steps_, i4 y3.2.start_, t10, t11, t12, i4 y3.2.most_, .bool y3.2.isMere_, .mp false, i4 y3.2.code_], .flt 4 t10 y3.2.now_.t, .flt 4 t11 y3.2.conds_.t, .own true 3 t12 y3.2.matches_.t] := hH
   refine t_bk h hS hH ?_
   refine t_N ?_
   refine t_if (fun hc2 => ?_) fun hc2 => ?_
   ·exact t_e fun he hS hH => he ▸ ⟨t10, ht10, t11, ht11, t12, ht12, rfl, (ad_ hS (by kernel_rfl)), (Heap.sel hH [1, 2, 3, 4] rfl (by kernel_rfl))⟩
   refine t_RN ?_
   exact t_e fun he hS hH => he ▸ ⟨t10, ht10, t11, ht11, t12, ht12, (ad_ hS (by kernel_rfl)), (Heap.sel hH [1, 0, 2, 3, 4] rfl (by kernel_rfl))⟩
  exact t_e fun he hS hH => he ▸ ⟨t4, ht4, t5, ht5, t6, ht6, rfl, (ad_ hS (by kernel_rfl)), (Heap.sel hH [0, 2, 3, 4] rfl (by kernel_rfl))⟩
 obtain ⟨s, σ⟩ := fr
 obtain ⟨t7, ht7, ⟨t8, ht8, ⟨t9, ht9, ⟨rfl, hS, hH⟩⟩⟩⟩ := HF
 refine t_bx h hS hH ?_
 refine k_eI rN ?_
 refine t_N ?_
 refine t_D fun mb => ?_
 refine t_U 3 ?_
 refine ae_ 0 ?_
 refine t_U 3 ?_
 refine ae_ 0 ?_
 refine t_N ?_
 refine t_h Heap.up3 ?_
 exact k_eO [t9] (rT (rT rN))
noncomputable def c1_ (a0 : ByteArray) (a1 : Bool) : Option (Sl (Iv .i64)) := ((aF_ (S := (Int × (Sl (Iv .i64)))) (R := (Sl (Iv .i64))) (fun st1 => (if (decide (st1.1 ≤ (a0.size : Int))) = true then (if (!a1) = true then ((appS 8 st1.2 (⟨false, [⟨st1.1⟩]⟩ : Sl (Iv .i64))).bind fun y2 => (some (.inl ((w4 (st1.1 + 1)), y2)))) else (some (.inr st1.2))) else (some (.inr st1.2)))) (1, (⟨false, [⟨0⟩]⟩ : Sl (Iv .i64)))).bind fun y1 => (some y1))
theorem fS_ (a0 : ByteArray) (a1 : Bool) (r : (Sl (Iv .i64))) (h : c1_ a0 a1 = some r) : bm_ a0 a1 = some r := by
 unfold c1_ at h
 refine k_O ok_76 h (fun σ0 => ?_)
 refine t_RN ?_
 refine t_R ?_
 refine k_bs (z := true) (⟨false, [⟨0⟩]⟩ : Sl (Iv .i64)) (fun t1 ht1 => ?_)
 refine t_N ?_
 refine t_RN ?_
 refine a6_ (fun st1 fr => ∃ t3, ar_ t3 ∧ Sub [(0, .str a0), (1, .bool a1), (5, t3), (6, i4 st1.1)] fr.s ∧ Heap σ0 fr.σ [.own true 1 t3 st1.2.t]) (fun y1 e fr => ∃ t4, ar_ t4 ∧ e = (.exit 0) ∧ Sub [(5, t4)] fr.s ∧ Heap σ0 fr.σ [.own true 1 t4 y1.t]) (fun hS hH => ⟨t1, ht1, (ad_ hS (by kernel_rfl)), hH⟩) (fun st1 x fr h HI => ?_) fun y1 e fr h HF => ?_
 ·obtain ⟨s, σ⟩ := fr; obtain ⟨t3, ht3, ⟨hS, hH⟩⟩ := HI
  refine t_bk h hS hH ?_
  refine t_RU 5 ?_
  refine aQ_ 12 (fun hc1 => ?_) fun hc1 => ?_
  ·refine t_N ?_
   refine t_if (fun hc2 => ?_) fun hc2 => ?_
   ·refine t_RU 2 ?_
    refine k_bs (z := true) (⟨false, [⟨st1.1⟩]⟩ : Sl (Iv .i64)) (fun t5 ht5 => ?_)
    refine lF_ 1 0 (fun y2 t6 hy2 ht6 => ?_)
    refine t_N ?_
    refine t_RN ?_
    exact t_e fun he hS hH => he ▸ ⟨t6, ht6, (ad_ hS (by kernel_rfl)), hH⟩
   exact t_e fun he hS hH => he ▸ ⟨t3, ht3, rfl, (ad_ hS (by kernel_rfl)), hH⟩
  refine t_N ?_
  refine t_cF ff_ne ?_
  exact t_e fun he hS hH => he ▸ ⟨t3, ht3, rfl, (ad_ hS (by kernel_rfl)), hH⟩
 obtain ⟨s, σ⟩ := fr
 obtain ⟨t4, ht4, ⟨rfl, hS, hH⟩⟩ := HF
 refine t_bx h hS hH ?_
 refine t_RN ?_
 exact k_eO [t4] (rT rN)
noncomputable def fq_ (a0 : (Sl DNamed)) (a1 : DPattern) (a2 : ByteArray) (a3 : Int) : Option Int := ((eo_ a0).bind fun y1 => (if (!y1) = true then (some 1) else ((b8_ a1).bind fun y2 => (if (!y2) = true then (some 1) else (if (decide (200 < (a2.size : Int))) = true then (some 1) else ((cq_ a3 0 20000).bind fun y3 => (if (!y3) = true then (some 3) else (some 0))))))))
theorem jG_ (a0 : (Sl DNamed)) (a1 : DPattern) (a2 : ByteArray) (a3 : Int) (r : Int) (h : fq_ a0 a1 a2 a3 = some r) : gU_ a0 a1 a2 a3 = some r := by
 unfold fq_ at h
 refine k_W ok_78 E_i64_inj h (fun σ0 => ?_)
 refine t_R ?_
 refine cI_ (fun b1 => ?_)
 refine t_N ?_
 refine t_RU 1 ?_
 refine aA_ fun y1 hy1 => ?_
 refine t_U 2 ?_
 refine aQ_ 12 (fun hc1 => ?_) fun hc1 => ?_
 ·refine t_N ?_
  refine t_cT rfl ?_
  refine t_RN ?_
  exact k_eW (rT rN) E_i64_p
 refine ae_ 0 ?_
 refine aA_ fun y2 hy2 => ?_
 refine t_U 3 ?_
 refine aQ_ 17 (fun hc2 => ?_) fun hc2 => ?_
 ·refine t_N ?_
  refine t_cT rfl ?_
  refine t_RN ?_
  exact k_eW (rT rN) E_i64_p
 refine t_N ?_
 refine t_if (fun hc3 => ?_) fun hc3 => ?_
 ·refine t_RN ?_
  exact k_eW (rT rN) E_i64_p
 refine t_RU 1 ?_
 refine aA_ fun y3 hy3 => ?_
 refine t_N ?_
 refine t_if (fun hc4 => ?_) fun hc4 => ?_
 ·refine t_RN ?_
  exact k_eW (rT rN) E_i64_p
 refine t_RN ?_
 exact k_eW (rT rN) E_i64_p
noncomputable def bV_ (a0 : (Sl DMatch)) (a1 : (Sl DMatch)) (a2 : T) : Option Bool := (if flat1 a2 = true then (if ((!decide ((a0.l.length : Int) = (a1.l.length : Int)))) = true then (some false) else ((aF_ (S := Int) (R := (Unit ⊕ Bool)) (fun st1 => (if (decide (st1 < (a0.l.length : Int))) = true then ((elt a0 st1).bind fun y2 => ((elt a1 st1).bind fun y3 => ((iv_ Try.prog md ext E_bool a2 [.agg (DMatch.cells y2), .agg (DMatch.cells y3)]).bind fun y4 => (if (!y4) = true then (some (.inr (.inr false))) else (some (.inl (w4 (st1 + 1)))))))) else (some (.inr (.inl ()))))) 0).bind fun y1 => (Sum.elim (fun y1 => (some true)) (fun y1 => (some y1)) y1))) else none)
theorem e9_ (a0 : (Sl DMatch)) (a1 : (Sl DMatch)) (a2 : T) (r : Bool) (h : bV_ a0 a1 a2 = some r) : bU_ a0 a1 a2 = some r := by
 unfold bV_ at h
 obtain ⟨hf_a2, h⟩ := ir_ h
 refine k_W ok_84 E_bool_inj h (fun σ0 => ?_) (hf := (all_cons (by kernel_rfl) (all_cons (by kernel_rfl) (all_cons (jD_ hf_a2) all_nil))))
 refine t_RN ?_
 refine t_RN ?_
 refine t_if (fun hc1 => ?_) fun hc1 => ?_
 ·refine t_RN ?_
  exact k_eW (rT rN) E_bool_p
 refine t_RN ?_
 refine a6_ (fun st1 fr => Sub [(1, a1.t), (2, a2), (15, a0.t), (16, i4 (a0.l.length : Int)), (17, i4 st1)] fr.s ∧ Heap σ0 fr.σ []) (fun y1 e fr => (Sum.elim (fun y => e = (.exit 0) ∧ Sub [] fr.s ∧ Heap σ0 fr.σ []) (fun y => e = .ret ∧ endW Try.prog (Try.f84.results.toList) σ0 (E_bool y) .ret fr)) y1) (fun hS hH => ⟨(ad_ hS (by kernel_rfl)), hH⟩) (fun st1 x fr h HI => ?_) fun y1 e fr h HF => ?_
 ·obtain ⟨s, σ⟩ := fr; obtain ⟨hS, hH⟩ := HI
  refine t_bk h hS hH ?_
  refine t_RN ?_
  refine t_if (fun hc2 => ?_) fun hc2 => ?_
  ·refine t_RU 1 ?_
   refine cj_ fun y2 rest1 hy2 => ?_
   refine t_U 1 ?_
   refine b2_ fun b1 => ?_
   refine t_U 1 ?_
   refine aY_ 0 ?_
   refine t_N ?_
   refine t_RU 2 ?_
   refine cj_ fun y3 rest2 hy3 => ?_
   refine t_U 1 ?_
   refine b2_ fun b2 => ?_
   refine aY_ 0 ?_
   refine t_N ?_
   refine t_RU 1 ?_
   refine ae_ 1 ?_
   refine ae_ 0 ?_
   refine lt_ fun y4 hy4 => ?_
   refine t_N ?_
   refine t_if (fun hc3 => ?_) fun hc3 => ?_
   ·refine t_RN ?_
    exact t_e fun he hS hH => he ▸ ⟨rfl, (eW hS hH (rT rN) E_bool_p)⟩
   refine t_RN ?_
   exact t_e fun he hS hH => he ▸ ⟨(ad_ hS (by kernel_rfl)), (Heap.sel hH [] rfl (by kernel_rfl))⟩
  exact t_e fun he hS hH => he ▸ ⟨rfl, (ad_ hS (by kernel_rfl)), hH⟩
 obtain ⟨s, σ⟩ := fr
 rcases y1 with y1 | y1
 ·have h := el_l h
  obtain ⟨rfl, hS, hH⟩ := HF
  refine t_bx h hS hH ?_
  refine t_RN ?_
  exact k_eW (rT rN) E_bool_p
 have h := el_r h
 obtain ⟨rfl, HE⟩ := HF
 obtain rfl := si_1 h; exact HE
noncomputable def dT_ (a0 : DMatch) (a1 : DMatch) : Option Bool := (if (decide (a0.Start = a1.Start)) = true then (if (decide (a0.End = a1.End)) = true then ((cm_ a0.Captures a1.Captures).bind fun y1 => (some y1)) else (some false)) else (some false))
theorem hI_ (a0 : DMatch) (a1 : DMatch) (r : Bool) (h : dT_ a0 a1 = some r) : dE_ a0 a1 = some r := by
 unfold dT_ at h
 refine k_W ok_85 E_bool_inj h (fun σ0 => ?_)
 refine t_R ?_
 refine cI_ (fun b1 => ?_)
 refine cI_ (fun b2 => ?_)
 refine t_N ?_
 refine t_RU 1 ?_
 refine ae_ 1 ?_
 refine t_U 1 ?_
 refine ae_ 0 ?_
 refine t_U 2 ?_
 refine aQ_ 10 (fun hc1 => ?_) fun hc1 => ?_
 ·refine t_U 1 ?_
  refine ae_ 1 ?_
  refine t_U 1 ?_
  refine ae_ 0 ?_
  refine t_U 3 ?_
  refine aQ_ 17 (fun hc2 => ?_) fun hc2 => ?_
  ·refine t_U 1 ?_
   refine ae_ 1 ?_
   refine t_U 1 ?_
   refine ae_ 0 ?_
   refine aA_ fun y1 hy1 => ?_
   refine t_N ?_
   exact k_eW (rT rN) E_bool_p
  refine t_N ?_
  exact k_eW (rT rN) E_bool_p
 refine t_N ?_
 exact k_eW (rT rN) E_bool_p
noncomputable def bE_ (a0 : DPattern) (a1 : Int) : Option Int := (if (decide (60 < (w4 (a1 + 1)))) = true then (some 61) else ((dt_ a0.Kind a0.Num a0.Text).bind fun y1 => (if (!y1) = true then (some 61) else ((fy_ a0.Kind).bind fun y2 => (if (!decide ((a0.Kids.l.length : Int) = y2)) = true then (some 61) else ((aF_ (S := (Int × Int)) (R := Int) (fun st1 => (if (decide (st1.2 < (a0.Kids.l.length : Int))) = true then ((elt a0.Kids st1.2).bind fun y4 => ((aG_ y4 st1.1).bind fun y5 => (if (decide (60 < y5)) = true then (some (.inr y5)) else (some (.inl (y5, (w4 (st1.2 + 1)))))))) else (some (.inr st1.1)))) ((w4 (a1 + 1)), 0)).bind fun y3 => (some y3)))))))
theorem eu_ (a0 : DPattern) (a1 : Int) (r : Int) (h : bE_ a0 a1 = some r) : aG_ a0 a1 = some r := by
 unfold bE_ at h
 refine k_W ok_92 E_i64_inj h (fun σ0 => ?_)
 refine t_R ?_
 refine cI_ (fun b1 => ?_)
 refine t_N ?_
 refine t_RN ?_
 refine t_D fun mb => ?_
 refine t_U 3 ?_
 refine aQ_ 11 (fun hc1 => ?_) fun hc1 => ?_
 ·refine t_N ?_
  refine t_cT rfl ?_
  refine t_RN ?_
  exact k_eW (rT rN) E_i64_p
 refine t_U 1 ?_
 refine ae_ 0 ?_
 refine t_U 1 ?_
 refine ae_ 0 ?_
 refine t_U 1 ?_
 refine ae_ 0 ?_
 refine aA_ fun y1 hy1 => ?_
 refine t_U 3 ?_
 refine aQ_ 21 (fun hc2 => ?_) fun hc2 => ?_
 ·refine t_N ?_
  refine t_cT rfl ?_
  refine t_RN ?_
  exact k_eW (rT rN) E_i64_p
 refine t_U 1 ?_
 refine ae_ 0 ?_
 refine t_U 2 ?_
 refine ae_ 0 ?_
 refine aA_ fun y2 hy2 => ?_
 refine t_N ?_
 refine t_if (fun hc3 => ?_) fun hc3 => ?_
 ·refine t_RN ?_
  exact k_eW (rT rN) E_i64_p
 refine t_RU 1 ?_
 refine ae_ 0 ?_
 refine t_N ?_
 refine a6_ (fun st1 fr => Sub [(1, i4 st1.1), (31, a0.Kids.t), (32, i4 (a0.Kids.l.length : Int)), (33, i4 st1.2)] fr.s ∧ Heap σ0 fr.σ []) (fun y3 e fr => e = (.exit 0) ∧ Sub [(1, i4 y3)] fr.s ∧ Heap σ0 fr.σ []) (fun hS hH => ⟨(ad_ hS (by kernel_rfl)), (Heap.sel hH [] rfl (by kernel_rfl))⟩) (fun st1 x fr h HI => ?_) fun y3 e fr h HF => ?_
 ·obtain ⟨s, σ⟩ := fr; obtain ⟨hS, hH⟩ := HI
  refine t_bk h hS hH ?_
  refine t_RN ?_
  refine t_if (fun hc4 => ?_) fun hc4 => ?_
  ·refine t_R ?_
   refine cj_ fun y4 rest1 hy4 => ?_
   refine t_U 1 ?_
   refine b2_ fun b2 => ?_
   refine aY_ 0 ?_
   refine t_N ?_
   refine t_R ?_
   refine ae_ 0 ?_
   refine t_U 1 ?_
   refine aA_ fun y5 hy5 => ?_
   refine t_N ?_
   refine t_RN ?_
   refine t_if (fun hc5 => ?_) fun hc5 => ?_
   ·exact t_e fun he hS hH => he ▸ ⟨rfl, (ad_ hS (by kernel_rfl)), (Heap.sel hH [] rfl (by kernel_rfl))⟩
   refine t_RN ?_
   exact t_e fun he hS hH => he ▸ ⟨(ad_ hS (by kernel_rfl)), (Heap.sel hH [] rfl (by kernel_rfl))⟩
  exact t_e fun he hS hH => he ▸ ⟨rfl, (ad_ hS (by kernel_rfl)), hH⟩
 obtain ⟨s, σ⟩ := fr
 obtain ⟨rfl, hS, hH⟩ := HF
 refine t_bx h hS hH ?_
 refine t_RN ?_
 exact k_eW (rT rN) E_i64_p
noncomputable def fe_ (a0 : Int) (a1 : Int) (a2 : Int) : Option Bool := (if (decide (a1 ≤ a0)) = true then (some (decide (a0 ≤ a2))) else (some false))
theorem jF_ (a0 : Int) (a1 : Int) (a2 : Int) (r : Bool) (h : fe_ a0 a1 a2 = some r) : bM_ a0 a1 a2 = some r := by
 unfold fe_ at h
 refine k_W ok_94 E_bool_inj h (fun σ0 => ?_)
 refine t_RN ?_
 refine t_RU 4 ?_
 refine aQ_ 10 (fun hc1 => ?_) fun hc1 => ?_
 ·refine t_N ?_
  exact k_eW (rT rN) E_bool_p
 refine t_N ?_
 exact k_eW (rT rN) E_bool_p
noncomputable def er_ (a0 : (Sl DNamed)) : Option Bool := (if (decide (40 < (a0.l.length : Int))) = true then (some false) else ((cX_ a0 (T.fn 126 [] [])).bind fun y1 => (if (!y1) = true then (some false) else ((aF_ (S := Int) (R := (Unit ⊕ Bool)) (fun st1 => (if (decide (st1 < (a0.l.length : Int))) = true then ((elt a0 st1).bind fun y3 => ((subS a0 0 st1).bind fun y4 => ((d6_ y4 y3.Name).bind fun y5 => (if y5.2 = true then (some (.inr (.inr false))) else (some (.inl (w4 (st1 + 1)))))))) else (some (.inr (.inl ()))))) 0).bind fun y2 => (Sum.elim (fun y2 => (some true)) (fun y2 => (some y2)) y2)))))
theorem ig_ (a0 : (Sl DNamed)) (r : Bool) (h : er_ a0 = some r) : el_ a0 = some r := by
 unfold er_ at h
 refine k_W ok_95 E_bool_inj h (fun σ0 => ?_)
 refine t_RN ?_
 refine t_RU 4 ?_
 refine aQ_ 10 (fun hc1 => ?_) fun hc1 => ?_
 ·refine t_N ?_
  refine t_cT rfl ?_
  refine t_RN ?_
  exact k_eW (rT rN) E_bool_p
 refine t_U 1 ?_
 refine aA_ fun y1 hy1 => ?_
 refine t_N ?_
 refine t_if (fun hc2 => ?_) fun hc2 => ?_
 ·refine t_RN ?_
  exact k_eW (rT rN) E_bool_p
 refine t_RN ?_
 refine a6_ (fun st1 fr => Sub [(0, a0.t), (15, a0.t), (16, i4 (a0.l.length : Int)), (17, i4 st1)] fr.s ∧ Heap σ0 fr.σ []) (fun y2 e fr => (Sum.elim (fun y => e = (.exit 0) ∧ Sub [] fr.s ∧ Heap σ0 fr.σ []) (fun y => e = .ret ∧ endW Try.prog (Try.f95.results.toList) σ0 (E_bool y) .ret fr)) y2) (fun hS hH => ⟨(ad_ hS (by kernel_rfl)), hH⟩) (fun st1 x fr h HI => ?_) fun y2 e fr h HF => ?_
 ·obtain ⟨s, σ⟩ := fr; obtain ⟨hS, hH⟩ := HI
  refine t_bk h hS hH ?_
  refine t_RN ?_
  refine t_if (fun hc3 => ?_) fun hc3 => ?_
  ·refine t_RU 1 ?_
   refine cj_ fun y3 rest1 hy3 => ?_
   refine t_U 1 ?_
   refine b2_ fun b1 => ?_
   refine t_U 1 ?_
   refine aY_ 0 ?_
   refine t_N ?_
   refine be_ [(10, RN)] ext_x fun mb σs hn0 hlt hlto => ?_
   refine t_U 2 ?_
   refine tw_ fun y4 hy4 => ?_
   refine t_U 1 ?_
   refine ae_ 0 ?_ (hlt := by exact (Or.inl (by kernel_rfl)))
   refine aA_ fun y5 hy5 => ?_
   refine t_U 3 ?_
   refine lZ_ (by exact hn0) fun b2 hwr_b2 => ?_
   refine aY_ 0 ?_ (hwr := by exact fun _ => Or.inl hwr_b2)
   refine t_N ?_
   refine t_RN ?_
   refine t_if (fun hc4 => ?_) fun hc4 => ?_
   ·refine t_RN ?_
    exact t_e fun he hS hH => he ▸ ⟨rfl, (eW hS hH (rT rN) E_bool_p)⟩
   refine t_RN ?_
   exact t_e fun he hS hH => he ▸ ⟨(ad_ hS (by kernel_rfl)), (Heap.sel hH [] rfl (by kernel_rfl))⟩
  exact t_e fun he hS hH => he ▸ ⟨rfl, (ad_ hS (by kernel_rfl)), hH⟩
 obtain ⟨s, σ⟩ := fr
 rcases y2 with y2 | y2
 ·have h := el_l h
  obtain ⟨rfl, hS, hH⟩ := HF
  refine t_bx h hS hH ?_
  refine t_RN ?_
  exact k_eW (rT rN) E_bool_p
 have h := el_r h
 obtain ⟨rfl, HE⟩ := HF
 obtain rfl := si_1 h; exact HE
noncomputable def dM_ (a0 : ByteArray) (a1 : Bool) : Option (Sl (Iv .i64)) := ((aF_ (S := (Int × (Sl (Iv .i64)))) (R := (Sl (Iv .i64))) (fun st1 => (if (decide (st1.1 ≤ (a0.size : Int))) = true then (if (!a1) = true then ((appS 8 st1.2 (⟨false, [⟨st1.1⟩]⟩ : Sl (Iv .i64))).bind fun y2 => (some (.inl ((w4 (st1.1 + 1)), y2)))) else (some (.inr st1.2))) else (some (.inr st1.2)))) (1, (⟨false, [⟨0⟩]⟩ : Sl (Iv .i64)))).bind fun y1 => (some y1))
theorem hJ_ (a0 : ByteArray) (a1 : Bool) (r : (Sl (Iv .i64))) (h : dM_ a0 a1 = some r) : fB_ a0 a1 = some r := by
 unfold dM_ at h
 refine k_O ok_97 h (fun σ0 => ?_)
 refine t_RN ?_
 refine t_R ?_
 refine k_bs (z := true) (⟨false, [⟨0⟩]⟩ : Sl (Iv .i64)) (fun t1 ht1 => ?_)
 refine t_N ?_
 refine t_RN ?_
 refine a6_ (fun st1 fr => ∃ t3, ar_ t3 ∧ Sub [(0, .str a0), (1, .bool a1), (5, t3), (6, i4 st1.1)] fr.s ∧ Heap σ0 fr.σ [.own true 1 t3 st1.2.t]) (fun y1 e fr => ∃ t4, ar_ t4 ∧ e = (.exit 0) ∧ Sub [(5, t4)] fr.s ∧ Heap σ0 fr.σ [.own true 1 t4 y1.t]) (fun hS hH => ⟨t1, ht1, (ad_ hS (by kernel_rfl)), hH⟩) (fun st1 x fr h HI => ?_) fun y1 e fr h HF => ?_
 ·obtain ⟨s, σ⟩ := fr; obtain ⟨t3, ht3, ⟨hS, hH⟩⟩ := HI
  refine t_bk h hS hH ?_
  refine t_RU 5 ?_
  refine aQ_ 12 (fun hc1 => ?_) fun hc1 => ?_
  ·refine t_N ?_
   refine t_if (fun hc2 => ?_) fun hc2 => ?_
   ·refine t_RU 2 ?_
    refine k_bs (z := true) (⟨false, [⟨st1.1⟩]⟩ : Sl (Iv .i64)) (fun t5 ht5 => ?_)
    refine lF_ 1 0 (fun y2 t6 hy2 ht6 => ?_)
    refine t_N ?_
    refine t_RN ?_
    exact t_e fun he hS hH => he ▸ ⟨t6, ht6, (ad_ hS (by kernel_rfl)), hH⟩
   exact t_e fun he hS hH => he ▸ ⟨t3, ht3, rfl, (ad_ hS (by kernel_rfl)), hH⟩
  refine t_N ?_
  refine t_cF ff_ne ?_
  exact t_e fun he hS hH => he ▸ ⟨t3, ht3, rfl, (ad_ hS (by kernel_rfl)), hH⟩
 obtain ⟨s, σ⟩ := fr
 obtain ⟨t4, ht4, ⟨rfl, hS, hH⟩⟩ := HF
 refine t_bx h hS hH ?_
 refine t_RN ?_
 exact k_eO [t4] (rT rN)
noncomputable def eU_ (a0 : DPattern) : Option DPattern := ((aF_ (S := (Int × (Sl DPattern))) (R := (Sl DPattern)) (fun st1 => (if (decide (st1.1 < (a0.Kids.l.length : Int))) = true then ((elt a0.Kids st1.1).bind fun y2 => ((bz_ y2).bind fun y3 => ((appS 56 st1.2 (⟨false, [y3]⟩ : Sl DPattern)).bind fun y4 => (some (.inl ((w4 (st1.1 + 1)), y4)))))) else (some (.inr st1.2)))) (0, (⟨true, []⟩ : Sl DPattern))).bind fun y1 => (some (⟨a0.Kind, a0.Num, a0.Text, y1⟩ : DPattern)))
theorem iT_ (a0 : DPattern) (r : DPattern) (h : eU_ a0 = some r) : bz_ a0 = some r := by
 unfold eU_ at h
 refine k_O ok_98 h (fun σ0 => ?_)
 refine t_R ?_
 refine cI_ (fun b1 => ?_)
 refine b2_ fun b2 => ?_
 refine t_N ?_
 refine t_RU 1 ?_
 refine ae_ 1 ?_
 refine t_U 1 ?_
 refine ae_ 1 ?_
 refine t_U 1 ?_
 refine ae_ 1 ?_
 refine t_U 1 ?_
 refine b2_ fun b3 => ?_
 refine aY_ 0 ?_
 refine t_N ?_
 refine t_RN ?_
 refine t_h (Heap.addNil · true 4) ?_
 refine a6_ (fun st1 fr => ∃ t2, ar_ t2 ∧ Sub [(1, .ptr b1 0 0 4), (2, .ptr b2 0 0 4), (3, .ptr b3 0 0 4), (4, i4 st1.1)] fr.s ∧ Heap σ0 fr.σ [.box b3 [i4 a0.Kind, i4 a0.Num, .str a0.Text, t2], .box b2 [i4 0, i4 0, .str ⟨#[]⟩, (nt DPattern)], .box b1 [i4 a0.Kind, i4 a0.Num, .str a0.Text, a0.Kids.t], .own true 4 t2 st1.2.t]) (fun y1 e fr => ∃ t3, ar_ t3 ∧ e = (.exit 0) ∧ Sub [(2, .ptr b2 0 0 4), (3, .ptr b3 0 0 4)] fr.s ∧ Heap σ0 fr.σ [.box b3 [i4 a0.Kind, i4 a0.Num, .str a0.Text, t3], .box b2 [i4 0, i4 0, .str ⟨#[]⟩, (nt DPattern)], .own true 4 t3 y1.t]) (fun hS hH => ⟨(T.row true 0 []), ⟨rfl, rfl⟩, (ad_ hS (by kernel_rfl)), (Heap.sel hH [1, 2, 3, 0] rfl (by kernel_rfl))⟩) (fun st1 x fr h HI => ?_) fun y1 e fr h HF => ?_
 ·obtain ⟨s, σ⟩ := fr; obtain ⟨t2, ht2, ⟨hS, hH⟩⟩ := HI
  refine t_bk h hS hH ?_
  refine t_RU 2 ?_
  refine ae_ 2 ?_
  refine t_N ?_
  refine t_if (fun hc1 => ?_) fun hc1 => ?_
  ·refine be_ [(9, RN), (11, RN)] ext_x fun mb σs hn0 hlt hlto => ?_
   have hlt_b3 : b3 < mb := hlt b3 _ (List.Mem.head _)
   refine t_U 1 ?_
   refine ae_ 0 ?_ (hlt := by exact (Or.inr ⟨hlt_b3, (Wc.cons (.inl (by kernel_rfl)) (Wc.cons (.inl (by kernel_rfl)) Wc.nil))⟩))
   refine t_U 1 ?_
   refine ae_ 2 ?_ (hlt := by exact (Or.inl (by kernel_rfl)))
   refine t_U 1 ?_
   refine cj_ fun y2 rest1 hy2 => ?_
   refine t_U 1 ?_
   refine eD_ (fun y3 t4 hy3 ht4 => ?_)
   refine k_bs (z := true) (⟨false, [y3]⟩ : Sl DPattern) (fun t5 ht5 => ?_) (hb := by exact hn0) (h1 := by simp [ht4.1, ht4.2])
   refine lF_ 4 0 (fun y4 t6 hy4 ht6 => ?_) (hb := by exact hn0) (hwr := by exact fun hH b e o n h0 => Or.inr ⟨9, by kernel_rfl, fun h => h⟩)
   refine t_U 1 ?_
   refine ca_ 1 ht6 ?_ (hwr := by exact fun hH => Or.inr ⟨11, by kernel_rfl, fun h => h⟩)
   refine t_N ?_
   refine t_RN ?_
   exact t_e fun he hS hH => he ▸ ⟨t6, ht6, (ad_ hS (by kernel_rfl)), (Heap.sel hH [0, 2, 3, 1] rfl (by kernel_rfl))⟩
  exact t_e fun he hS hH => he ▸ ⟨t2, ht2, rfl, (ad_ hS (by kernel_rfl)), (Heap.sel hH [0, 1, 3] rfl (by kernel_rfl))⟩
 obtain ⟨s, σ⟩ := fr
 obtain ⟨t3, ht3, ⟨rfl, hS, hH⟩⟩ := HF
 refine t_bx h hS hH ?_
 refine t_R ?_
 refine ae_ 0 ?_
 refine aY_ 1 ?_ (h1 := by simp [ht3.1, ht3.2])
 refine t_N ?_
 refine t_h Heap.up2 ?_
 exact k_eO [t3] (rC 1 rN)
noncomputable def eR_ (a0 : Int) : Option (Int × ByteArray) := (if (decide (a0 = 1)) = true then (some (0, ⟨#[115]⟩)) else ((gi_ a0).bind fun y1 => ((aF_ (S := (Int × ByteArray × Int)) (R := (Int × ByteArray)) (fun st1 => (if (decide (st1.2.2 < (y1.2.size : Int))) = true then ((aU_ y1.2 st1.2.2).bind fun y3 => (if (decide (y3 = 112)) = true then (some (.inl ((w4 (st1.1 + 1)), st1.2.1, (w4 (st1.2.2 + 1))))) else ((subB y1.2 st1.2.2 (w4 (st1.2.2 + 1))).bind fun y4 => ((catB st1.2.1 y4).bind fun y5 => (some (.inl (st1.1, y5, (w4 (st1.2.2 + 1))))))))) else (some (.inr (st1.1, st1.2.1))))) (0, ⟨#[]⟩, 0)).bind fun y2 => (some (y2.1, y2.2)))))
theorem gm_ (a0 : Int) (r : (Int × ByteArray)) (h : eR_ a0 = some r) : ch_ a0 = some r := by
 unfold eR_ at h
 refine k_W ok_102 E_t2_i64_str_inj h (fun σ0 => ?_)
 refine t_RN ?_
 refine t_RN ?_
 refine t_if (fun hc1 => ?_) fun hc1 => ?_
 ·refine t_RN ?_
  exact k_eW (rT (rT rN)) E_t2_i64_str_p
 refine t_RU 1 ?_
 refine aA_ fun y1 hy1 => ?_
 refine t_N ?_
 refine t_RN ?_
 refine t_RN ?_
 refine t_RN ?_
 refine a6_ (fun st1 fr => Sub [(5, .str y1.2), (6, i4 st1.1), (7, .str st1.2.1), (8, i4 st1.2.2)] fr.s ∧ Heap σ0 fr.σ []) (fun y2 e fr => e = (.exit 0) ∧ Sub [(6, i4 y2.1), (7, .str y2.2)] fr.s ∧ Heap σ0 fr.σ []) (fun hS hH => ⟨(ad_ hS (by kernel_rfl)), hH⟩) (fun st1 x fr h HI => ?_) fun y2 e fr h HF => ?_
 ·obtain ⟨s, σ⟩ := fr; obtain ⟨hS, hH⟩ := HI
  refine t_bk h hS hH ?_
  refine t_RN ?_
  refine t_if (fun hc2 => ?_) fun hc2 => ?_
  ·refine t_RU 2 ?_
   refine dA_ fun y3 hy3 => ?_
   refine t_N ?_
   refine t_if (fun hc3 => ?_) fun hc3 => ?_
   ·refine t_RN ?_
    refine t_RN ?_
    exact t_e fun he hS hH => he ▸ ⟨(ad_ hS (by kernel_rfl)), hH⟩
   refine t_RU 5 ?_
   refine h6_ fun y4 hy4 => ?_
   refine r3_ fun y5 hy5 => ?_
   refine t_N ?_
   refine t_RN ?_
   exact t_e fun he hS hH => he ▸ ⟨(ad_ hS (by kernel_rfl)), hH⟩
  exact t_e fun he hS hH => he ▸ ⟨rfl, (ad_ hS (by kernel_rfl)), hH⟩
 obtain ⟨s, σ⟩ := fr
 obtain ⟨rfl, hS, hH⟩ := HF
 refine t_bx h hS hH ?_
 refine t_RN ?_
 exact k_eW (rT (rT rN)) E_t2_i64_str_p
noncomputable def cp_ (a0 : DPattern) (a1 : Int) : Option Int := (if (decide (a1 < 1)) = true then (some (-1)) else ((eW_ a0).bind fun y1 => (if (!y1) = true then (some (-1)) else ((aF_ (S := (Int × Int)) (R := (Int ⊕ Int)) (fun st1 => (if (decide (st1.2 < (a0.Kids.l.length : Int))) = true then ((elt a0.Kids st1.2).bind fun y3 => ((aX_ y3 (w4 (a1 - st1.1))).bind fun y4 => (if (decide (y4 < 0)) = true then (some (.inr (.inr (-1)))) else (some (.inl ((w4 (st1.1 + y4)), (w4 (st1.2 + 1)))))))) else (some (.inr (.inl st1.1))))) (1, 0)).bind fun y2 => (Sum.elim (fun y2 => (some y2)) (fun y2 => (some y2)) y2)))))
theorem fH_ (a0 : DPattern) (a1 : Int) (r : Int) (h : cp_ a0 a1 = some r) : aX_ a0 a1 = some r := by
 unfold cp_ at h
 refine k_W ok_110 E_i64_inj h (fun σ0 => ?_)
 refine t_R ?_
 refine cI_ (fun b1 => ?_)
 refine t_N ?_
 refine t_RU 3 ?_
 refine aQ_ 10 (fun hc1 => ?_) fun hc1 => ?_
 ·refine t_N ?_
  refine t_cT rfl ?_
  refine t_RN ?_
  exact k_eW (rT rN) E_i64_p
 refine ae_ 0 ?_
 refine aA_ fun y1 hy1 => ?_
 refine t_N ?_
 refine t_if (fun hc2 => ?_) fun hc2 => ?_
 ·refine t_RN ?_
  exact k_eW (rT rN) E_i64_p
 refine t_RN ?_
 refine t_RN ?_
 refine a6_ (fun st1 fr => Sub [(1, i4 a1), (2, .ptr b1 0 0 4), (5, i4 st1.1), (6, i4 st1.2)] fr.s ∧ Heap σ0 fr.σ [.box b1 [i4 a0.Kind, i4 a0.Num, .str a0.Text, a0.Kids.t]]) (fun y2 e fr => (Sum.elim (fun y => e = (.exit 0) ∧ Sub [(5, i4 y)] fr.s ∧ Heap σ0 fr.σ []) (fun y => e = .ret ∧ endW Try.prog (Try.f110.results.toList) σ0 (E_i64 y) .ret fr)) y2) (fun hS hH => ⟨(ad_ hS (by kernel_rfl)), hH⟩) (fun st1 x fr h HI => ?_) fun y2 e fr h HF => ?_
 ·obtain ⟨s, σ⟩ := fr; obtain ⟨hS, hH⟩ := HI
  refine t_bk h hS hH ?_
  refine t_RU 2 ?_
  refine ae_ 0 ?_
  refine t_N ?_
  refine t_if (fun hc3 => ?_) fun hc3 => ?_
  ·refine t_RU 1 ?_
   refine ae_ 0 ?_
   refine t_U 1 ?_
   refine cj_ fun y3 rest1 hy3 => ?_
   refine t_U 4 ?_
   refine aA_ fun y4 hy4 => ?_
   refine t_N ?_
   refine t_RN ?_
   refine t_if (fun hc4 => ?_) fun hc4 => ?_
   ·refine t_RN ?_
    exact t_e fun he hS hH => he ▸ ⟨rfl, (eW hS hH (rT rN) E_i64_p)⟩
   refine t_RN ?_
   refine t_RN ?_
   exact t_e fun he hS hH => he ▸ ⟨(ad_ hS (by kernel_rfl)), hH⟩
  exact t_e fun he hS hH => he ▸ ⟨rfl, (ad_ hS (by kernel_rfl)), (Heap.sel hH [] rfl (by kernel_rfl))⟩
 obtain ⟨s, σ⟩ := fr
 rcases y2 with y2 | y2
 ·have h := el_l h
  obtain ⟨rfl, hS, hH⟩ := HF
  refine t_bx h hS hH ?_
  refine t_RN ?_
  exact k_eW (rT rN) E_i64_p
 have h := el_r h
 obtain ⟨rfl, HE⟩ := HF
 obtain rfl := si_1 h; exact HE
noncomputable def eq_ (a0 : (Sl DNamed)) : Option Bool := (if (decide (40 < (a0.l.length : Int))) = true then (some false) else ((aF_ (S := Int) (R := (Unit ⊕ Bool)) (fun st1 => (if (decide (st1 < (a0.l.length : Int))) = true then ((elt a0 st1).bind fun y2 => ((d7_ y2.Name).bind fun y3 => (if (!y3) = true then (some (.inr (.inr false))) else ((elt a0 st1).bind fun y4 => ((b8_ y4.Pattern).bind fun y5 => (if (!y5) = true then (some (.inr (.inr false))) else ((aF_ (S := Int) (R := (Unit ⊕ Bool)) (fun st2 => (if (decide (st2 < st1)) = true then ((elt a0 st2).bind fun y7 => ((elt a0 st1).bind fun y8 => (if (decide (y7.Name = y8.Name)) = true then (some (.inr (.inr false))) else (some (.inl (w4 (st2 + 1))))))) else (some (.inr (.inl ()))))) 0).bind fun y6 => (Sum.elim (fun y6 => (some (.inl (w4 (st1 + 1))))) (fun y6 => (some (.inr (.inr y6)))) y6)))))))) else (some (.inr (.inl ()))))) 0).bind fun y1 => (Sum.elim (fun y1 => (some true)) (fun y1 => (some y1)) y1)))
theorem is_ (a0 : (Sl DNamed)) (r : Bool) (h : eq_ a0 = some r) : eo_ a0 = some r := by
 unfold eq_ at h
 refine k_W ok_115 E_bool_inj h (fun σ0 => ?_)
 refine t_RN ?_
 refine t_RN ?_
 refine t_if (fun hc1 => ?_) fun hc1 => ?_
 ·refine t_RN ?_
  exact k_eW (rT rN) E_bool_p
 refine t_RN ?_
 refine a6_ (fun st1 fr => Sub [(0, a0.t), (3, i4 st1)] fr.s ∧ Heap σ0 fr.σ []) (fun y1 e fr => (Sum.elim (fun y => e = (.exit 0) ∧ Sub [] fr.s ∧ Heap σ0 fr.σ []) (fun y => e = .ret ∧ endW Try.prog (Try.f115.results.toList) σ0 (E_bool y) .ret fr)) y1) (fun hS hH => ⟨(ad_ hS (by kernel_rfl)), hH⟩) (fun st1 x fr h HI => ?_) fun y1 e fr h HF => ?_
 ·obtain ⟨s, σ⟩ := fr; obtain ⟨hS, hH⟩ := HI
  refine t_bk h hS hH ?_
  refine t_RN ?_
  refine t_if (fun hc2 => ?_) fun hc2 => ?_
  ·refine t_RU 2 ?_
   refine cj_ fun y2 rest1 hy2 => ?_
   refine t_U 2 ?_
   refine aA_ fun y3 hy3 => ?_
   refine t_U 2 ?_
   refine aQ_ 21 (fun hc3 => ?_) fun hc3 => ?_
   ·refine t_N ?_
    refine t_cT rfl ?_
    refine t_RN ?_
    exact t_e fun he hS hH => he ▸ ⟨rfl, (eW hS hH (rT rN) E_bool_p)⟩
   refine t_U 2 ?_
   refine cj_ fun y4 rest2 hy4 => ?_
   refine t_U 2 ?_
   refine aA_ fun y5 hy5 => ?_
   refine t_N ?_
   refine t_if (fun hc4 => ?_) fun hc4 => ?_
   ·refine t_RN ?_
    exact t_e fun he hS hH => he ▸ ⟨rfl, (eW hS hH (rT rN) E_bool_p)⟩
   refine t_RN ?_
   refine a6_ (fun st2 fr => Sub [(0, a0.t), (3, i4 st1), (4, i4 st2)] fr.s ∧ Heap σ0 fr.σ []) (fun y6 e fr => (Sum.elim (fun y => e = (.exit 2) ∧ Sub [(0, a0.t), (3, i4 st1)] fr.s ∧ Heap σ0 fr.σ []) (fun y => e = .ret ∧ endW Try.prog (Try.f115.results.toList) σ0 (E_bool y) .ret fr)) y6) (fun hS hH => ⟨(ad_ hS (by kernel_rfl)), hH⟩) (fun st2 x fr h HI => ?_) fun y6 e fr h HF => ?_
   ·obtain ⟨s, σ⟩ := fr; obtain ⟨hS, hH⟩ := HI
    refine t_bk h hS hH ?_
    refine t_RN ?_
    refine t_if (fun hc5 => ?_) fun hc5 => ?_
    ·refine t_D fun mb => ?_
     refine t_U 2 ?_
     refine cj_ fun y7 rest3 hy7 => ?_
     refine t_U 4 ?_
     refine cj_ fun y8 rest4 hy8 => ?_
     refine t_N ?_
     refine t_if (fun hc6 => ?_) fun hc6 => ?_
     ·refine t_RN ?_
      exact t_e fun he hS hH => he ▸ ⟨rfl, (eW hS hH (rT rN) E_bool_p)⟩
     refine t_RN ?_
     exact t_e fun he hS hH => he ▸ ⟨(ad_ hS (by kernel_rfl)), hH⟩
    exact t_e fun he hS hH => he ▸ ⟨rfl, (ad_ hS (by kernel_rfl)), hH⟩
   obtain ⟨s, σ⟩ := fr
   rcases y6 with y6 | y6
   ·have h := el_l h
    obtain ⟨rfl, hS, hH⟩ := HF
    refine t_bx h hS hH ?_
    refine t_RN ?_
    exact t_e fun he hS hH => he ▸ ⟨(ad_ hS (by kernel_rfl)), hH⟩
   have h := el_r h
   obtain ⟨rfl, HE⟩ := HF
   obtain rfl := si_1 h; exact ⟨rfl, HE⟩
  exact t_e fun he hS hH => he ▸ ⟨rfl, (ad_ hS (by kernel_rfl)), hH⟩
 obtain ⟨s, σ⟩ := fr
 rcases y1 with y1 | y1
 ·have h := el_l h
  obtain ⟨rfl, hS, hH⟩ := HF
  refine t_bx h hS hH ?_
  refine t_RN ?_
  exact k_eW (rT rN) E_bool_p
 have h := el_r h
 obtain ⟨rfl, HE⟩ := HF
 obtain rfl := si_1 h; exact HE
noncomputable def cW_ (a0 : DPattern) : Option Bool := ((aX_ a0 60).bind fun y1 => (some (decide (0 < y1))))
theorem gq_ (a0 : DPattern) (r : Bool) (h : cW_ a0 = some r) : b8_ a0 = some r := by
 unfold cW_ at h
 refine k_W ok_116 E_bool_inj h (fun σ0 => ?_)
 refine t_R ?_
 refine cI_ (fun b1 => ?_)
 refine t_N ?_
 refine t_R ?_
 refine ae_ 0 ?_
 refine aA_ fun y1 hy1 => ?_
 refine t_N ?_
 exact k_eW (rT rN) E_bool_p
noncomputable def f4_ (a0 : Int) (a1 : Int) (a2 : Int) : Option Bool := (if (decide (a1 ≤ a0)) = true then (some (decide (a0 ≤ a2))) else (some false))
theorem kl_ (a0 : Int) (a1 : Int) (a2 : Int) (r : Bool) (h : f4_ a0 a1 a2 = some r) : cq_ a0 a1 a2 = some r := by
 unfold f4_ at h
 refine k_W ok_117 E_bool_inj h (fun σ0 => ?_)
 refine t_RN ?_
 refine t_RU 4 ?_
 refine aQ_ 10 (fun hc1 => ?_) fun hc1 => ?_
 ·refine t_N ?_
  exact k_eW (rT rN) E_bool_p
 refine t_N ?_
 exact k_eW (rT rN) E_bool_p
end Go.Am
