/- Functions of the program. -/
import Derived.Test.YthpmndnnpnojjaaAd0
import Derived.Test.YthpmndnnpnojjaaAg2
set_option maxRecDepth 100000
set_option maxHeartbeats 4000000
set_option linter.unusedVariables false
set_option linter.unusedSimpArgs false
namespace Go.Am
open Go.Proofs
noncomputable def aE_ (a0 : aa_) (a1 : Int) : Option (Bool × aa_) := (if a0.isMere_ = true then (((if (decide (a0.steps_ = a0.fuel_)) = true then (some (false, a0.steps_, 7, (⟨true, []⟩ : Sl aq_))) else (some (true, (w4 (a0.steps_ + 1)), a0.code_, a0.matches_))) : Option (Bool × Int × Int × (Sl aq_))).bind fun y1 => (some (y1.1, (⟨a0.env_, a0.subject_, a0.fuel_, y1.2.1, a0.start_, a0.now_, a0.conds_, y1.2.2.2, a0.most_, a0.isMere_, T.nilm, y1.2.2.1⟩ : aa_)))) else (((if (decide (a0.steps_ = a0.fuel_)) = true then (some (false, a0.steps_, 7, (⟨true, []⟩ : Sl aq_))) else (some (true, (w4 (a0.steps_ + 1)), a0.code_, a0.matches_))) : Option (Bool × Int × Int × (Sl aq_))).bind fun y2 => (if (!y2.1) = true then (some (false, (⟨a0.env_, a0.subject_, a0.fuel_, y2.2.1, a0.start_, a0.now_, a0.conds_, y2.2.2.2, a0.most_, a0.isMere_, T.nilm, y2.2.2.1⟩ : aa_))) else (if (decide ((y2.2.2.2.l.length : Int) = 60)) = true then (some (false, (⟨a0.env_, a0.subject_, a0.fuel_, y2.2.1, a0.start_, a0.now_, a0.conds_, y2.2.2.2, a0.most_, a0.isMere_, T.nilm, 6⟩ : aa_))) else ((bD_ ⟨false, [a0.now_, a0.conds_]⟩).bind fun y3 => ((appS 40 y2.2.2.2 (⟨false, [(⟨a0.start_, a1, y3⟩ : aq_)]⟩ : Sl aq_)).bind fun y4 => (some ((!decide ((y4.l.length : Int) = a0.most_)), (⟨a0.env_, a0.subject_, a0.fuel_, y2.2.1, a0.start_, a0.now_, a0.conds_, y4, a0.most_, a0.isMere_, T.nilm, y2.2.2.1⟩ : aa_)))))))))
theorem fr_ (a0 : aa_) (a1 : Int) (r : (Bool × aa_)) (h : aE_ a0 a1 = some r) (bp0 : Nat) (p0_1 p0_2 p0_3 : T) : RawS Try.prog md ext 130 [.ptr bp0 0 0 12, i4 a1] 3 (fun hs => E_bool r.1) [.box bp0 [a0.env_.t, .str a0.subject_, i4 a0.fuel_, i4 a0.steps_, i4 a0.start_, p0_1, p0_2, p0_3, i4 a0.most_, .bool a0.isMere_, T.nilm, i4 a0.code_], .flt 4 p0_1 a0.now_.t, .flt 4 p0_2 a0.conds_.t, .own true 3 p0_3 a0.matches_.t] (fun hs => aM_ bp0 r.2 hs) := by
 unfold aE_ at h
 refine cl_ rfl rfl ok_130 rfl ?_
 intro σ0 σ F σk s hS hH
 have hp0_1 : ak_ p0_1 := Heap.fltOne (hH.at 1 rfl)
 have hp0_2 : ak_ p0_2 := Heap.fltOne (hH.at 2 rfl)
 have hp0_3 : ak_ p0_3 := Heap.one (hH.at 3 rfl)
 have hS := ac_ (L' := [(0, .ptr bp0 0 0 12), (1, i4 a1)]) hS (by kernel_rfl)
 refine t_go h hS hH ?_
 refine t_RN ?_
 refine t_RU 3 ?_
 refine ab_ 0 ?_
 refine t_U 1 ?_
 refine ae_ 9 (fun hc1 => ?_) fun hc1 => ?_
 ·refine t_N ?_
  refine t_cT rfl ?_
  refine t_RU 3 ?_
  refine ab_ 0 ?_
  refine t_U 1 ?_
  refine t_gT 18 hc1 ?_
  refine t_U 1 ?_
  refine d4_ (fun y1 s σ => ∃ t1, ak_ t1 ∧ Sub [(18, .bool true), (20, .bool y1.1)] s ∧ Heap σ0 σ [.box bp0 [a0.env_.t, .str a0.subject_, i4 a0.fuel_, i4 y1.2.1, i4 a0.start_, p0_1, p0_2, t1, i4 a0.most_, .bool a0.isMere_, T.nilm, i4 y1.2.2.1], .flt 4 p0_1 a0.now_.t, .flt 4 p0_2 a0.conds_.t, .own true 3 t1 y1.2.2.2.t, .keep F σk]) ok_149 (fun y1 => ?_) fun y1 s σ HF h => ?_
  ·refine t_RN ?_
   refine t_D fun mb => ?_
   refine t_U 3 ?_
   refine ab_ 0 ?_
   refine t_U 3 ?_
   refine ab_ 0 ?_
   refine t_N ?_
   refine t_if (fun hc2 => ?_) fun hc2 => ?_
   ·refine t_RU 1 ?_
    refine dU_ ok_153 ?_
    refine t_RN ?_
    refine t_RU 5 ?_
    refine aF_ 0 ?_
    refine t_U 2 ?_
    refine aF_ 0 ?_
    refine t_N ?_
    refine t_RN ?_
    refine k_eI (rT rN) ?_
    refine t_N ?_
    refine t_h (Heap.addNil · true 3) ?_
    exact bN_ (rT rN) fun he hS hH => he ▸ ⟨(T.row true 0 []), ⟨rfl, rfl⟩, (ac_ hS (by kernel_rfl)), (Heap.sel hH [1, 2, 3, 0, 5] rfl (by kernel_rfl))⟩
   refine t_RU 3 ?_
   refine ab_ 0 ?_
   refine t_U 3 ?_
   refine aF_ 0 ?_
   refine t_N ?_
   refine t_RU 3 ?_
   refine ab_ 0 ?_
   refine t_N ?_
   refine t_cF ff_ne ?_
   refine t_RN ?_
   exact bN_ (rT rN) fun he hS hH => he ▸ ⟨p0_3, hp0_3, (ac_ hS (by kernel_rfl)), hH⟩
  obtain ⟨t1, ht1, ⟨hS, hH⟩⟩ := HF
  refine t_bk h hS hH ?_
  refine t_N ?_
  intro h s σ hS hH
  obtain rfl := si_1 h
  exact aJ_ [p0_1, p0_2, t1] (bg_ (v := .bool y1.1) hS rfl r_nil) rfl rfl hH
 refine t_U 1 ?_
 refine d4_ (fun y2 s σ => ∃ t2, ak_ t2 ∧ Sub [(0, .ptr bp0 0 0 12), (1, i4 a1), (9, .bool false), (11, .bool y2.1)] s ∧ Heap σ0 σ [.box bp0 [a0.env_.t, .str a0.subject_, i4 a0.fuel_, i4 y2.2.1, i4 a0.start_, p0_1, p0_2, t2, i4 a0.most_, .bool a0.isMere_, T.nilm, i4 y2.2.2.1], .flt 4 p0_1 a0.now_.t, .flt 4 p0_2 a0.conds_.t, .own true 3 t2 y2.2.2.2.t, .keep F σk]) ok_149 (fun y2 => ?_) fun y2 s σ HF h => ?_
 ·refine t_RN ?_
  refine t_D fun mb => ?_
  refine t_U 3 ?_
  refine ab_ 0 ?_
  refine t_U 3 ?_
  refine ab_ 0 ?_
  refine t_N ?_
  refine t_if (fun hc3 => ?_) fun hc3 => ?_
  ·refine t_RU 1 ?_
   refine dU_ ok_153 ?_
   refine t_RN ?_
   refine t_RU 5 ?_
   refine aF_ 0 ?_
   refine t_U 2 ?_
   refine aF_ 0 ?_
   refine t_N ?_
   refine t_RN ?_
   refine k_eI (rT rN) ?_
   refine t_N ?_
   refine t_h (Heap.addNil · true 3) ?_
   exact bN_ (rT rN) fun he hS hH => he ▸ ⟨(T.row true 0 []), ⟨rfl, rfl⟩, (ac_ hS (by kernel_rfl)), (Heap.sel hH [1, 2, 3, 0, 5] rfl (by kernel_rfl))⟩
  refine t_RU 3 ?_
  refine ab_ 0 ?_
  refine t_U 3 ?_
  refine aF_ 0 ?_
  refine t_N ?_
  refine t_RU 3 ?_
  refine ab_ 0 ?_
  refine t_N ?_
  refine t_cF ff_ne ?_
  refine t_RN ?_
  exact bN_ (rT rN) fun he hS hH => he ▸ ⟨p0_3, hp0_3, (ac_ hS (by kernel_rfl)), hH⟩
 obtain ⟨t2, ht2, ⟨hS, hH⟩⟩ := HF
 refine t_bk h hS hH ?_
 refine t_N ?_
 refine t_if (fun hc4 => ?_) fun hc4 => ?_
 ·refine t_RU 3 ?_
  refine ab_ 0 ?_
  refine t_U 1 ?_
  refine t_gF 18 hc1 ?_
  refine t_N ?_
  intro h s σ hS hH
  obtain rfl := si_1 h
  exact aJ_ [p0_1, p0_2, t2] (bg_ (v := .bool false) hS rfl r_nil) rfl rfl hH
 refine t_RU 3 ?_
 refine ab_ 0 ?_
 refine iq_ (a := y2.2.2.2) 3 ?_
 refine t_N ?_
 refine t_if (fun hc5 => ?_) fun hc5 => ?_
 ·refine t_RU 3 ?_
  refine aF_ 0 ?_
  refine t_N ?_
  refine t_RN ?_
  intro h s σ hS hH
  obtain rfl := si_1 h
  exact aJ_ [p0_1, p0_2, t2] (bg_ (v := .bool false) hS rfl r_nil) rfl rfl hH
 refine be_ [(22, RN), (25, RN)] ext_x fun mb σs hn0 hlt hlto => ?_
 have hlt_bp0 : bp0 < mb := hlt bp0 _ (List.Mem.head _)
 refine t_U 4 ?_
 refine ab_ 0 ?_ (hlt := by exact (Or.inr ⟨hlt_bp0, (Wc.cons (.inl (by kernel_rfl)) (Wc.cons (.inl (by kernel_rfl)) Wc.nil))⟩))
 refine t_U 3 ?_
 refine ab_ 0 ?_ (hlt := by exact (Or.inr ⟨hlt_bp0, (Wc.cons (.inl (by kernel_rfl)) (Wc.cons (.inl (by kernel_rfl)) Wc.nil))⟩))
 refine t_U 4 ?_
 refine ab_ 0 ?_ (hlt := by exact (Or.inl (by kernel_rfl)))
 refine t_U 3 ?_
 refine ab_ 0 ?_ (hlt := by exact (Or.inl (by kernel_rfl)))
 intro h s σ hS hH
 refine p9_ rfl (by exact hn0) (e := 77) (sz := 1) (vs := [p0_1, p0_2]) (zc := [(nt ad_)]) (cs := [p0_1, p0_2]) (v := (T.row false 2 [p0_1, p0_2])) rfl hS hH (by kernel_rfl) (by kernel_rfl) (by kernel_rfl) (by kernel_rfl) (by kernel_rfl) (⟨(by simp [hp0_1.1, hp0_1.2]), (by simp [hp0_1.1, hp0_1.2]), (by simp [hp0_2.1, hp0_2.2]), (by simp [hp0_2.1, hp0_2.2]), trivial⟩) (by simp [hp0_1.1, hp0_1.2, hp0_2.1, hp0_2.2]) rfl ?_; intro t3 σ s ht3 hH hS
 have hH : Heap σ0 σ [.flt 1 t3 (T.row false 2 [p0_1, p0_2]), .box bp0 [a0.env_.t, .str a0.subject_, i4 a0.fuel_, i4 y2.2.1, i4 a0.start_, p0_1, p0_2, t2, i4 a0.most_, .bool a0.isMere_, T.nilm, i4 y2.2.2.1], .flt 4 p0_1 a0.now_.t, .flt 4 p0_2 a0.conds_.t, .own true 3 t2 y2.2.2.2.t, .keep F σk] := hH
 have hH := hH.up3.up3.up2
 obtain ⟨y3, hy3, h⟩ := bind_some h
 refine my_ rfl (ts := [t3]) (vs := [(Sl.t (⟨false, [a0.now_, a0.conds_]⟩ : Sl (Sl ad_)))]) rfl hS rfl rfl rfl hH (or_ hH) hy3 ?_; intro hs σ s hl hH hS
 obtain ⟨t4, rfl⟩ := len1 hl
 have hH : Heap σ0 σ [.own true 4 t4 y3.t, .flt 1 t3 (T.row false 2 [p0_1, p0_2]), .flt 4 p0_1 a0.now_.t, .flt 4 p0_2 a0.conds_.t, .box bp0 [a0.env_.t, .str a0.subject_, i4 a0.fuel_, i4 y2.2.1, i4 a0.start_, p0_1, p0_2, t2, i4 a0.most_, .bool a0.isMere_, T.nilm, i4 y2.2.2.1], .own true 3 t2 y2.2.2.2.t, .keep F σk] := hH
 have ht4 : ak_ t4 := Heap.one hH
 refine mi_ (qs := [(0, i4 a0.start_), (1, i4 a1), (2, t4)]) (z := [i4 0, i4 0, (nt ad_)]) (r := [i4 a0.start_, i4 a1, t4]) [[i4 a0.start_], [i4 a1], [t4]] rfl hS rfl (by kernel_rfl) (by kernel_rfl) (⟨rfl, (by kernel_rfl), rfl, (by kernel_rfl), (by simp [ht4.1, ht4.2]), (by simp [ht4.1, ht4.2]), trivial⟩) (by kernel_rfl) ?_; intro s hS
 refine t_bk h hS hH ?_
 refine k_bs (z := true) (⟨false, [(⟨a0.start_, a1, y3⟩ : aq_)]⟩ : Sl aq_) (fun t5 ht5 => ?_) (hb := by exact hn0) (h1 := by simp [ht4.1, ht4.2])
 refine nT_ 5 0 (fun y4 t6 hy4 ht6 => ?_) (hb := by exact hn0) (hwr := by exact fun hH b e o n h0 => Or.inr ⟨22, by kernel_rfl, fun h => h⟩)
 refine t_U 2 ?_
 refine bW_ 4 ht6 ?_ (hwr := by exact fun hH => Or.inr ⟨25, by kernel_rfl, fun h => h⟩)
 refine t_N ?_
 refine t_D fun mb => ?_
 refine t_U 3 ?_
 refine ab_ 0 ?_
 refine iq_ (a := y4) 1 ?_
 refine t_U 3 ?_
 refine ab_ 0 ?_
 refine t_N ?_
 intro h s σ hS hH
 obtain rfl := si_1 h
 exact aJ_ [p0_1, p0_2, t6] (bg_ (v := .bool (!decide ((y4.l.length : Int) = a0.most_))) hS rfl r_nil) rfl rfl (Heap.sel hH [0, 3, 4, 1, 5] rfl (by kernel_rfl))
theorem fj_ (Fk : List Nat) (σq : St) (bs : Nat) : c4_ Try.prog md ext (aM_ bs) 3 (T.fn 130 [.ptr bs 0 0 12] []) (fun e (S : aa_) => aE_ S e) Fk σq := fun e S y hs hl h => by
 obtain ⟨t1, t2, t3, rfl⟩ := len3 hl
 exact ⟨130, _, _, rfl, (fr_ S e y h bs t1 t2 t3).keep _⟩
noncomputable def cr_ (a0 : (Sl al_)) (a1 : DPattern) (a2 : ByteArray) (a3 : (Sl (Iv .i64))) (a4 : Int) : Option ((Sl aq_) × Int) := ((aI_ (S := (Int × (Sl al_) × ByteArray × Int × Int × Int × Int × Bool × Int × (Sl ad_) × (Sl ad_) × (Sl aq_))) (R := ((Sl al_) × ByteArray × Int × Int × Int × Int × Bool × Int × (Sl ad_) × (Sl ad_) × (Sl aq_))) (fun st1 => (if (decide (st1.1 < (a3.l.length : Int))) = true then ((elt a3 st1.1).bind fun y2 => ((bF_ (⟨st1.2.1, st1.2.2.1, st1.2.2.2.1, st1.2.2.2.2.1, y2.v, st1.2.2.2.2.2.2.2.2.2.1, st1.2.2.2.2.2.2.2.2.2.2.1, st1.2.2.2.2.2.2.2.2.2.2.2, st1.2.2.2.2.2.2.1, st1.2.2.2.2.2.2.2.1, T.nilm, st1.2.2.2.2.2.2.2.2.1⟩ : aa_) a1 y2.v (fun e (S : aa_) => aE_ S e)).bind fun y3 => (if (!y3.1) = true then (some (.inr (y3.2.env_, y3.2.subject_, y3.2.fuel_, y3.2.steps_, y3.2.start_, y3.2.most_, y3.2.isMere_, y3.2.code_, y3.2.now_, y3.2.conds_, y3.2.matches_))) else (some (.inl ((w4 (st1.1 + 1)), y3.2.env_, y3.2.subject_, y3.2.fuel_, y3.2.steps_, y3.2.start_, y3.2.most_, y3.2.isMere_, y3.2.code_, y3.2.now_, y3.2.conds_, y3.2.matches_)))))) else (some (.inr (st1.2.1, st1.2.2.1, st1.2.2.2.1, st1.2.2.2.2.1, st1.2.2.2.2.2.1, st1.2.2.2.2.2.2.1, st1.2.2.2.2.2.2.2.1, st1.2.2.2.2.2.2.2.2.1, st1.2.2.2.2.2.2.2.2.2.1, st1.2.2.2.2.2.2.2.2.2.2.1, st1.2.2.2.2.2.2.2.2.2.2.2))))) (0, a0, a2, a4, 0, 0, 0, false, 0, (⟨true, []⟩ : Sl ad_), (⟨true, []⟩ : Sl ad_), (⟨true, []⟩ : Sl aq_))).bind fun y1 => (some (y1.2.2.2.2.2.2.2.2.2.2, y1.2.2.2.2.2.2.2.1)))
theorem fw_ (a0 : (Sl al_)) (a1 : DPattern) (a2 : ByteArray) (a3 : (Sl (Iv .i64))) (a4 : Int) (r : ((Sl aq_) × Int)) (h : cr_ a0 a1 a2 a3 a4 = some r) : cq_ a0 a1 a2 a3 a4 = some r := by
 unfold cr_ at h
 refine k_O ok_91 h (fun σ0 => ?_)
 refine t_R ?_
 refine cB_ (fun b1 => ?_)
 refine t_N ?_
 refine t_RU 4 ?_
 refine cB_ (fun b2 => ?_)
 refine t_N ?_
 refine t_RU 2 ?_
 refine dU_ ok_96 ?_
 refine t_RN ?_
 refine t_h (Heap.addNil · true 4) ?_
 refine nv_ 4 0 ?_
 refine t_h (Heap.addNil · true 4) ?_
 refine nv_ 4 0 ?_
 refine t_h (Heap.addNil · true 3) ?_
 refine a4_ (fun st1 fr => ∃ t4, ak_ t4 ∧ ∃ t5, ak_ t5 ∧ ∃ t6, ak_ t6 ∧ Sub [(0, .ptr b2 0 0 12), (1, .ptr b1 0 0 4), (8, a3.t), (9, i4 (a3.l.length : Int)), (10, i4 st1.1)] fr.s ∧ Heap σ0 fr.σ [.box b2 [st1.2.1.t, .str st1.2.2.1, i4 st1.2.2.2.1, i4 st1.2.2.2.2.1, i4 st1.2.2.2.2.2.1, t4, t5, t6, i4 st1.2.2.2.2.2.2.1, .bool st1.2.2.2.2.2.2.2.1, T.nilm, i4 st1.2.2.2.2.2.2.2.2.1], .box b1 [i4 a1.Kind, i4 a1.Num, .str a1.Text, a1.Kids.t], .flt 4 t4 st1.2.2.2.2.2.2.2.2.2.1.t, .flt 4 t5 st1.2.2.2.2.2.2.2.2.2.2.1.t, .own true 3 t6 st1.2.2.2.2.2.2.2.2.2.2.2.t]) (fun y1 e fr => ∃ t7, ak_ t7 ∧ ∃ t8, ak_ t8 ∧ ∃ t9, ak_ t9 ∧ e = (.exit 0) ∧ Sub [] fr.s ∧ Heap σ0 fr.σ [.box b2 [y1.1.t, .str y1.2.1, i4 y1.2.2.1, i4 y1.2.2.2.1, i4 y1.2.2.2.2.1, t7, t8, t9, i4 y1.2.2.2.2.2.1, .bool y1.2.2.2.2.2.2.1, T.nilm, i4 y1.2.2.2.2.2.2.2.1], .flt 4 t7 y1.2.2.2.2.2.2.2.2.1.t, .flt 4 t8 y1.2.2.2.2.2.2.2.2.2.1.t, .own true 3 t9 y1.2.2.2.2.2.2.2.2.2.2.t]) (fun hS hH => ⟨(T.row true 0 []), ⟨rfl, rfl⟩, (T.row true 0 []), ⟨rfl, rfl⟩, (T.row true 0 []), ⟨rfl, rfl⟩, (ac_ hS (by kernel_rfl)), (Heap.sel hH [3, 4, 2, 1, 0] rfl (by kernel_rfl))⟩) (fun st1 x fr h HI => ?_) fun y1 e fr h HF => ?_
 ·obtain ⟨s, σ⟩ := fr; obtain ⟨t4, ht4, ⟨t5, ht5, ⟨t6, ht6, ⟨hS, hH⟩⟩⟩⟩ := HI
  refine t_bk h hS hH ?_
  refine t_RN ?_
  refine t_if (fun hc1 => ?_) fun hc1 => ?_
  ·refine t_R ?_
   refine bY_ fun y2 rest1 hy2 => ?_
   refine t_N ?_
   refine t_RU 4 ?_
   refine aF_ 0 ?_
   refine t_N ?_
   refine t_RU 5 ?_
   refine t_h Heap.up1 ?_
   intro h s σ hS hH
   obtain ⟨Fq1, σq1, hH, hU1, hB1, hK1⟩ := Heap.wrapN (A := [.box b1 [i4 a1.Kind, i4 a1.Num, .str a1.Text, a1.Kids.t]]) hH
   have hH := hH.up4.up4.up4.up4
   refine t_bk h hS hH ?_
   refine aQ_ (fun y3 hs hy3 hl => ?_) (hr := by exact fun y3 hy3 => fn_ _ _ _ _ y3 hy3 Fq1 σq1 b2 t4 t5 t6 (.ptr b1 0 0 4) (Pt.box rfl (hB1 _ _ (List.Mem.head _))) (T.fn 130 [.ptr b2 0 0 12] []) ⟨rfl, rfl⟩ (fj_ Fq1 σq1 b2))
   obtain ⟨t10, t11, t12, rfl⟩ := len3 hl
   refine bJ_ ?_
   refine am_ 1 fun ht10 => ?_
   refine am_ 2 fun ht11 => ?_
   refine am_ 3 fun ht12 => ?_
   refine t_h Heap.up4 ?_
   intro h s σ hS hH
   have hH := hU1 _ _ hH
   have hH : Heap σ0 σ [.box b1 [i4 a1.Kind, i4 a1.Num, .str a1.Text, a1.Kids.t], .box b2 [y3.2.env_.t, .str y3.2.subject_, i4 y3.2.fuel_, i4 y3.2.steps_, i4 y3.2.start_, t10, t11, t12, i4 y3.2.most_, .bool y3.2.isMere_, T.nilm, i4 y3.2.code_], .flt 4 t10 y3.2.now_.t, .flt 4 t11 y3.2.conds_.t, .own true 3 t12 y3.2.matches_.t] := hH
   refine t_bk h hS hH ?_
   refine t_N ?_
   refine t_if (fun hc2 => ?_) fun hc2 => ?_
   ·exact t_e fun he hS hH => he ▸ ⟨t10, ht10, t11, ht11, t12, ht12, rfl, (ac_ hS (by kernel_rfl)), (Heap.sel hH [1, 2, 3, 4] rfl (by kernel_rfl))⟩
   refine t_RN ?_
   exact t_e fun he hS hH => he ▸ ⟨t10, ht10, t11, ht11, t12, ht12, (ac_ hS (by kernel_rfl)), (Heap.sel hH [1, 0, 2, 3, 4] rfl (by kernel_rfl))⟩
  exact t_e fun he hS hH => he ▸ ⟨t4, ht4, t5, ht5, t6, ht6, rfl, (ac_ hS (by kernel_rfl)), (Heap.sel hH [0, 2, 3, 4] rfl (by kernel_rfl))⟩
 obtain ⟨s, σ⟩ := fr
 obtain ⟨t7, ht7, ⟨t8, ht8, ⟨t9, ht9, ⟨rfl, hS, hH⟩⟩⟩⟩ := HF
 refine t_bx h hS hH ?_
 refine k_eI rN ?_
 refine t_N ?_
 refine t_D fun mb => ?_
 refine t_U 3 ?_
 refine ab_ 0 ?_
 refine t_U 3 ?_
 refine ab_ 0 ?_
 refine t_N ?_
 refine t_h Heap.up3 ?_
 exact k_eO [t9] (rT (rT rN))
noncomputable def dP_ (a0 : ByteArray) : Option Bool := (some (decide ((a0.size : Int) ≤ 200)))
theorem he_ (a0 : ByteArray) (r : Bool) (h : dP_ a0 = some r) : b5_ a0 = some r := by
 unfold dP_ at h
 refine k_W ok_95 E_bool_inj h (fun σ0 => ?_)
 refine t_RN ?_
 refine t_RN ?_
 exact k_eW (rT rN) E_bool_p
noncomputable def bP_ (a0 : DPattern) (a1 : Int) : Option Int := (if (decide (a1 < 1)) = true then (some (-1)) else ((dY_ a0).bind fun y1 => (if (!y1) = true then (some (-1)) else ((aI_ (S := (Int × Int)) (R := (Int ⊕ Int)) (fun st1 => (if (decide (st1.2 < (a0.Kids.l.length : Int))) = true then ((elt a0.Kids st1.2).bind fun y3 => ((aH_ y3 (w4 (a1 - st1.1))).bind fun y4 => (if (decide (y4 < 0)) = true then (some (.inr (.inr (-1)))) else (some (.inl ((w4 (st1.1 + y4)), (w4 (st1.2 + 1)))))))) else (some (.inr (.inl st1.1))))) (1, 0)).bind fun y2 => (Sum.elim (fun y2 => (some y2)) (fun y2 => (some y2)) y2)))))
theorem eG_ (a0 : DPattern) (a1 : Int) (r : Int) (h : bP_ a0 a1 = some r) : aH_ a0 a1 = some r := by
 unfold bP_ at h
 refine k_W ok_105 E_i64_inj h (fun σ0 => ?_)
 refine t_R ?_
 refine cB_ (fun b1 => ?_)
 refine t_N ?_
 refine t_RU 3 ?_
 refine ae_ 10 (fun hc1 => ?_) fun hc1 => ?_
 ·refine t_N ?_
  refine t_cT rfl ?_
  refine t_RN ?_
  exact k_eW (rT rN) E_i64_p
 refine ab_ 0 ?_
 refine ao_ fun y1 hy1 => ?_
 refine t_N ?_
 refine t_if (fun hc2 => ?_) fun hc2 => ?_
 ·refine t_RN ?_
  exact k_eW (rT rN) E_i64_p
 refine t_RN ?_
 refine t_RN ?_
 refine a4_ (fun st1 fr => Sub [(1, i4 a1), (2, .ptr b1 0 0 4), (5, i4 st1.1), (6, i4 st1.2)] fr.s ∧ Heap σ0 fr.σ [.box b1 [i4 a0.Kind, i4 a0.Num, .str a0.Text, a0.Kids.t]]) (fun y2 e fr => (Sum.elim (fun y => e = (.exit 0) ∧ Sub [(5, i4 y)] fr.s ∧ Heap σ0 fr.σ []) (fun y => e = .ret ∧ endW Try.prog (Try.f105.results.toList) σ0 (E_i64 y) .ret fr)) y2) (fun hS hH => ⟨(ac_ hS (by kernel_rfl)), hH⟩) (fun st1 x fr h HI => ?_) fun y2 e fr h HF => ?_
 ·obtain ⟨s, σ⟩ := fr; obtain ⟨hS, hH⟩ := HI
  refine t_bk h hS hH ?_
  refine t_RU 2 ?_
  refine ab_ 0 ?_
  refine t_N ?_
  refine t_if (fun hc3 => ?_) fun hc3 => ?_
  ·refine t_RU 1 ?_
   refine ab_ 0 ?_
   refine t_U 1 ?_
   refine bY_ fun y3 rest1 hy3 => ?_
   refine t_U 4 ?_
   refine ao_ fun y4 hy4 => ?_
   refine t_N ?_
   refine t_RN ?_
   refine t_if (fun hc4 => ?_) fun hc4 => ?_
   ·refine t_RN ?_
    exact t_e fun he hS hH => he ▸ ⟨rfl, (eW hS hH (rT rN) E_i64_p)⟩
   refine t_RN ?_
   refine t_RN ?_
   exact t_e fun he hS hH => he ▸ ⟨(ac_ hS (by kernel_rfl)), hH⟩
  exact t_e fun he hS hH => he ▸ ⟨rfl, (ac_ hS (by kernel_rfl)), (Heap.sel hH [] rfl (by kernel_rfl))⟩
 obtain ⟨s, σ⟩ := fr
 rcases y2 with y2 | y2
 ·have h := el_l h
  obtain ⟨rfl, hS, hH⟩ := HF
  refine t_bx h hS hH ?_
  refine t_RN ?_
  exact k_eW (rT rN) E_i64_p
 have h := el_r h
 obtain ⟨rfl, HE⟩ := HF
 obtain rfl := si_1 h; exact HE
noncomputable def ej_ (a0 : ByteArray) : Option Bool := (if (!decide (a0 = (⟨#[]⟩ : ByteArray))) = true then (if (decide ((a0.size : Int) ≤ 12)) = true then ((cD_ a0 0).bind fun y1 => (some (decide (y1 = (a0.size : Int))))) else (some false)) else (some false))
theorem h3_ (a0 : ByteArray) (r : Bool) (h : ej_ a0 = some r) : de_ a0 = some r := by
 unfold ej_ at h
 refine k_W ok_108 E_bool_inj h (fun σ0 => ?_)
 refine t_RN ?_
 refine t_RU 3 ?_
 refine ae_ 5 (fun hc1 => ?_) fun hc1 => ?_
 ·refine t_U 5 ?_
  refine ae_ 10 (fun hc2 => ?_) fun hc2 => ?_
  ·refine t_U 1 ?_
   refine ao_ fun y1 hy1 => ?_
   refine t_N ?_
   exact k_eW (rT rN) E_bool_p
  refine t_N ?_
  exact k_eW (rT rN) E_bool_p
 refine t_N ?_
 exact k_eW (rT rN) E_bool_p
noncomputable def b9_ (a0 : DPattern) : Option Bool := ((aH_ a0 60).bind fun y1 => (some (decide (0 < y1))))
theorem fq_ (a0 : DPattern) (r : Bool) (h : b9_ a0 = some r) : bC_ a0 = some r := by
 unfold b9_ at h
 refine k_W ok_109 E_bool_inj h (fun σ0 => ?_)
 refine t_R ?_
 refine cB_ (fun b1 => ?_)
 refine t_N ?_
 refine t_R ?_
 refine ab_ 0 ?_
 refine ao_ fun y1 hy1 => ?_
 refine t_N ?_
 exact k_eW (rT rN) E_bool_p
noncomputable def b6_ (a0 : (Sl al_)) (a1 : T) : Option Bool := (if flat1 a1 = true then ((aI_ (S := Int) (R := (Unit ⊕ Bool)) (fun st1 => (if (decide (st1 < (a0.l.length : Int))) = true then ((elt a0 st1).bind fun y2 => ((ii_ Try.prog md ext E_bool a1 [.agg (al_.cells y2)]).bind fun y3 => (if (!y3) = true then (some (.inr (.inr false))) else (some (.inl (w4 (st1 + 1))))))) else (some (.inr (.inl ()))))) 0).bind fun y1 => (Sum.elim (fun y1 => (some true)) (fun y1 => (some y1)) y1)) else none)
theorem fm_ (a0 : (Sl al_)) (a1 : T) (r : Bool) (h : b6_ a0 a1 = some r) : ca_ a0 a1 = some r := by
 unfold b6_ at h
 obtain ⟨hf_a1, h⟩ := hR_ h
 refine k_W ok_112 E_bool_inj h (fun σ0 => ?_) (hf := (all_cons (by kernel_rfl) (all_cons (jS_ hf_a1) all_nil)))
 refine t_RN ?_
 refine t_RN ?_
 refine a4_ (fun st1 fr => Sub [(1, a1), (7, a0.t), (8, i4 (a0.l.length : Int)), (9, i4 st1)] fr.s ∧ Heap σ0 fr.σ []) (fun y1 e fr => (Sum.elim (fun y => e = (.exit 0) ∧ Sub [] fr.s ∧ Heap σ0 fr.σ []) (fun y => e = .ret ∧ endW Try.prog (Try.f112.results.toList) σ0 (E_bool y) .ret fr)) y1) (fun hS hH => ⟨(ac_ hS (by kernel_rfl)), hH⟩) (fun st1 x fr h HI => ?_) fun y1 e fr h HF => ?_
 ·obtain ⟨s, σ⟩ := fr; obtain ⟨hS, hH⟩ := HI
  refine t_bk h hS hH ?_
  refine t_RN ?_
  refine t_if (fun hc1 => ?_) fun hc1 => ?_
  ·refine t_R ?_
   refine bY_ fun y2 rest1 hy2 => ?_
   refine t_U 1 ?_
   refine b8_ fun b1 => ?_
   refine bk_ 0 ?_
   refine t_N ?_
   refine t_RU 1 ?_
   refine ab_ 0 ?_
   refine lc_ fun y3 hy3 => ?_
   refine t_N ?_
   refine t_if (fun hc2 => ?_) fun hc2 => ?_
   ·refine t_RN ?_
    exact t_e fun he hS hH => he ▸ ⟨rfl, (eW hS hH (rT rN) E_bool_p)⟩
   refine t_RN ?_
   exact t_e fun he hS hH => he ▸ ⟨(ac_ hS (by kernel_rfl)), (Heap.sel hH [] rfl (by kernel_rfl))⟩
  exact t_e fun he hS hH => he ▸ ⟨rfl, (ac_ hS (by kernel_rfl)), hH⟩
 obtain ⟨s, σ⟩ := fr
 rcases y1 with y1 | y1
 ·have h := el_l h
  obtain ⟨rfl, hS, hH⟩ := HF
  refine t_bx h hS hH ?_
  refine t_RN ?_
  exact k_eW (rT rN) E_bool_p
 have h := el_r h
 obtain ⟨rfl, HE⟩ := HF
 obtain rfl := si_1 h; exact HE
noncomputable def cE_ (a0 : al_) : Option Bool := ((c8_ a0.Name).bind fun y1 => (if y1 = true then ((bE_ a0.Pattern).bind fun y2 => (some y2)) else (some false)))
theorem f0_ (a0 : al_) (r : Bool) (h : cE_ a0 = some r) : cG_ a0 = some r := by
 unfold cE_ at h
 refine k_W ok_113 E_bool_inj h (fun σ0 => ?_)
 refine t_R ?_
 refine cB_ (fun b1 => ?_)
 refine t_N ?_
 refine t_RU 1 ?_
 refine ab_ 0 ?_
 refine ao_ fun y1 hy1 => ?_
 refine t_U 1 ?_
 refine ae_ 6 (fun hc1 => ?_) fun hc1 => ?_
 ·refine t_U 1 ?_
  refine ab_ 0 ?_
  refine ao_ fun y2 hy2 => ?_
  refine t_N ?_
  exact k_eW (rT rN) E_bool_p
 refine t_N ?_
 exact k_eW (rT rN) E_bool_p
noncomputable def ew_ (a0 : ByteArray) : Option Bool := (if (decide (1 ≤ (a0.size : Int))) = true then (if (decide ((a0.size : Int) ≤ 12)) = true then ((aX_ a0 0).bind fun y1 => ((ch_ y1).bind fun y2 => (if y2 = true then ((iO_ a0).bind fun y3 => ((dK_ y3 (T.fn 138 [] [])).bind fun y4 => (some y4))) else (some false)))) else (some false)) else (some false))
theorem hU_ (a0 : ByteArray) (r : Bool) (h : ew_ a0 = some r) : c8_ a0 = some r := by
 unfold ew_ at h
 refine k_W ok_114 E_bool_inj h (fun σ0 => ?_)
 refine t_RN ?_
 refine t_RU 4 ?_
 refine ae_ 6 (fun hc1 => ?_) fun hc1 => ?_
 ·refine t_U 5 ?_
  refine ae_ 11 (fun hc2 => ?_) fun hc2 => ?_
  ·refine t_U 1 ?_
   refine cS_ fun y1 hy1 => ?_
   refine ao_ fun y2 hy2 => ?_
   refine t_U 2 ?_
   refine ae_ 16 (fun hc3 => ?_) fun hc3 => ?_
   ·refine t_U 1 ?_
    intro h s σ hS hH
    obtain ⟨y3, hy3, h⟩ := bind_some h
    refine re_ (e := 5) rfl hS hH rfl (by kernel_rfl) (by kernel_rfl) (by kernel_rfl) hy3 ?_; intro t1 σ s ht1 hH hS
    refine t_bk h hS hH ?_
    refine ar_ (fun y4 hy4 => ?_) (hh := by exact HC.of (HL.own rfl (HL.leaf (fun σ d => kB_ (by first | assumption | rfl)) HL.nil)))
    refine t_N ?_
    exact k_eW (rT rN) E_bool_p
   refine t_N ?_
   exact k_eW (rT rN) E_bool_p
  refine t_N ?_
  exact k_eW (rT rN) E_bool_p
 refine t_N ?_
 exact k_eW (rT rN) E_bool_p
noncomputable def dW_ (a0 : Int) : Option (Int × ByteArray) := (if (decide (a0 = 1)) = true then (some (0, ⟨#[115]⟩)) else ((fi_ a0).bind fun y1 => ((aI_ (S := (Int × ByteArray × Int)) (R := (Int × ByteArray)) (fun st1 => (if (decide (st1.2.2 < (y1.2.size : Int))) = true then ((aX_ y1.2 st1.2.2).bind fun y3 => (if (decide (y3 = 112)) = true then (some (.inl ((w4 (st1.1 + 1)), st1.2.1, (w4 (st1.2.2 + 1))))) else ((subB y1.2 st1.2.2 (w4 (st1.2.2 + 1))).bind fun y4 => ((catB st1.2.1 y4).bind fun y5 => (some (.inl (st1.1, y5, (w4 (st1.2.2 + 1))))))))) else (some (.inr (st1.1, st1.2.1))))) (0, ⟨#[]⟩, 0)).bind fun y2 => (some (y2.1, y2.2)))))
theorem fh_ (a0 : Int) (r : (Int × ByteArray)) (h : dW_ a0 = some r) : cL_ a0 = some r := by
 unfold dW_ at h
 refine k_W ok_118 E_t2_i64_str_inj h (fun σ0 => ?_)
 refine t_RN ?_
 refine t_RN ?_
 refine t_if (fun hc1 => ?_) fun hc1 => ?_
 ·refine t_RN ?_
  exact k_eW (rT (rT rN)) E_t2_i64_str_p
 refine t_RU 1 ?_
 refine ao_ fun y1 hy1 => ?_
 refine t_N ?_
 refine t_RN ?_
 refine t_RN ?_
 refine t_RN ?_
 refine a4_ (fun st1 fr => Sub [(5, .str y1.2), (6, i4 st1.1), (7, .str st1.2.1), (8, i4 st1.2.2)] fr.s ∧ Heap σ0 fr.σ []) (fun y2 e fr => e = (.exit 0) ∧ Sub [(6, i4 y2.1), (7, .str y2.2)] fr.s ∧ Heap σ0 fr.σ []) (fun hS hH => ⟨(ac_ hS (by kernel_rfl)), hH⟩) (fun st1 x fr h HI => ?_) fun y2 e fr h HF => ?_
 ·obtain ⟨s, σ⟩ := fr; obtain ⟨hS, hH⟩ := HI
  refine t_bk h hS hH ?_
  refine t_RN ?_
  refine t_if (fun hc2 => ?_) fun hc2 => ?_
  ·refine t_RU 2 ?_
   refine cS_ fun y3 hy3 => ?_
   refine t_N ?_
   refine t_if (fun hc3 => ?_) fun hc3 => ?_
   ·refine t_RN ?_
    refine t_RN ?_
    exact t_e fun he hS hH => he ▸ ⟨(ac_ hS (by kernel_rfl)), hH⟩
   refine t_RU 5 ?_
   refine ha_ fun y4 hy4 => ?_
   refine pb_ fun y5 hy5 => ?_
   refine t_N ?_
   refine t_RN ?_
   exact t_e fun he hS hH => he ▸ ⟨(ac_ hS (by kernel_rfl)), hH⟩
  exact t_e fun he hS hH => he ▸ ⟨rfl, (ac_ hS (by kernel_rfl)), hH⟩
 obtain ⟨s, σ⟩ := fr
 obtain ⟨rfl, hS, hH⟩ := HF
 refine t_bx h hS hH ?_
 refine t_RN ?_
 exact k_eW (rT (rT rN)) E_t2_i64_str_p
noncomputable def bd_ (a0 : DPattern) (a1 : Int) : Option Int := (if (decide (60 < (w4 (a1 + 1)))) = true then (some 61) else ((cI_ a0.Kind a0.Num a0.Text).bind fun y1 => (if (!y1) = true then (some 61) else ((ef_ a0.Kind).bind fun y2 => (if (!decide ((a0.Kids.l.length : Int) = y2)) = true then (some 61) else ((aI_ (S := (Int × Int)) (R := Int) (fun st1 => (if (decide (st1.2 < (a0.Kids.l.length : Int))) = true then ((elt a0.Kids st1.2).bind fun y4 => ((av_ y4 st1.1).bind fun y5 => (if (decide (60 < y5)) = true then (some (.inr y5)) else (some (.inl (y5, (w4 (st1.2 + 1)))))))) else (some (.inr st1.1)))) ((w4 (a1 + 1)), 0)).bind fun y3 => (some y3)))))))
theorem dj_ (a0 : DPattern) (a1 : Int) (r : Int) (h : bd_ a0 a1 = some r) : av_ a0 a1 = some r := by
 unfold bd_ at h
 refine k_W ok_121 E_i64_inj h (fun σ0 => ?_)
 refine t_R ?_
 refine cB_ (fun b1 => ?_)
 refine t_N ?_
 refine t_RN ?_
 refine t_D fun mb => ?_
 refine t_U 3 ?_
 refine ae_ 11 (fun hc1 => ?_) fun hc1 => ?_
 ·refine t_N ?_
  refine t_cT rfl ?_
  refine t_RN ?_
  exact k_eW (rT rN) E_i64_p
 refine t_U 1 ?_
 refine ab_ 0 ?_
 refine t_U 1 ?_
 refine ab_ 0 ?_
 refine t_U 1 ?_
 refine ab_ 0 ?_
 refine ao_ fun y1 hy1 => ?_
 refine t_U 3 ?_
 refine ae_ 21 (fun hc2 => ?_) fun hc2 => ?_
 ·refine t_N ?_
  refine t_cT rfl ?_
  refine t_RN ?_
  exact k_eW (rT rN) E_i64_p
 refine t_U 1 ?_
 refine ab_ 0 ?_
 refine t_U 2 ?_
 refine ab_ 0 ?_
 refine ao_ fun y2 hy2 => ?_
 refine t_N ?_
 refine t_if (fun hc3 => ?_) fun hc3 => ?_
 ·refine t_RN ?_
  exact k_eW (rT rN) E_i64_p
 refine t_RU 1 ?_
 refine ab_ 0 ?_
 refine t_N ?_
 refine a4_ (fun st1 fr => Sub [(1, i4 st1.1), (31, a0.Kids.t), (32, i4 (a0.Kids.l.length : Int)), (33, i4 st1.2)] fr.s ∧ Heap σ0 fr.σ []) (fun y3 e fr => e = (.exit 0) ∧ Sub [(1, i4 y3)] fr.s ∧ Heap σ0 fr.σ []) (fun hS hH => ⟨(ac_ hS (by kernel_rfl)), (Heap.sel hH [] rfl (by kernel_rfl))⟩) (fun st1 x fr h HI => ?_) fun y3 e fr h HF => ?_
 ·obtain ⟨s, σ⟩ := fr; obtain ⟨hS, hH⟩ := HI
  refine t_bk h hS hH ?_
  refine t_RN ?_
  refine t_if (fun hc4 => ?_) fun hc4 => ?_
  ·refine t_R ?_
   refine bY_ fun y4 rest1 hy4 => ?_
   refine t_U 1 ?_
   refine b8_ fun b2 => ?_
   refine bk_ 0 ?_
   refine t_N ?_
   refine t_R ?_
   refine ab_ 0 ?_
   refine t_U 1 ?_
   refine ao_ fun y5 hy5 => ?_
   refine t_N ?_
   refine t_RN ?_
   refine t_if (fun hc5 => ?_) fun hc5 => ?_
   ·exact t_e fun he hS hH => he ▸ ⟨rfl, (ac_ hS (by kernel_rfl)), (Heap.sel hH [] rfl (by kernel_rfl))⟩
   refine t_RN ?_
   exact t_e fun he hS hH => he ▸ ⟨(ac_ hS (by kernel_rfl)), (Heap.sel hH [] rfl (by kernel_rfl))⟩
  exact t_e fun he hS hH => he ▸ ⟨rfl, (ac_ hS (by kernel_rfl)), hH⟩
 obtain ⟨s, σ⟩ := fr
 obtain ⟨rfl, hS, hH⟩ := HF
 refine t_bx h hS hH ?_
 refine t_RN ?_
 exact k_eW (rT rN) E_i64_p
end Go.Am
