/- Functions of the program. -/
import Derived.Test.YtkgmfmcpbgffpaaAd0
import Derived.Test.YtkgmfmcpbgffpaaAg1
set_option maxRecDepth 100000
set_option maxHeartbeats 4000000
set_option linter.unusedVariables false
set_option linter.unusedSimpArgs false
namespace Go.Am
open Go.Proofs
noncomputable def aK_ (a0 : aa_) (a1 : Int) : Option (Bool × aa_) := (if a0.isMere_ = true then (((if (decide (a0.steps_ = a0.fuel_)) = true then (some (false, a0.steps_, 7, (⟨true, []⟩ : Sl DMatch))) else (some (true, (w4 (a0.steps_ + 1)), a0.code_, a0.matches_))) : Option (Bool × Int × Int × (Sl DMatch))).bind fun y1 => (some (y1.1, (⟨a0.env_, a0.subject_, a0.fuel_, y1.2.1, a0.start_, a0.now_, a0.conds_, y1.2.2.2, a0.most_, a0.isMere_, T.nilm, y1.2.2.1⟩ : aa_)))) else (((if (decide (a0.steps_ = a0.fuel_)) = true then (some (false, a0.steps_, 7, (⟨true, []⟩ : Sl DMatch))) else (some (true, (w4 (a0.steps_ + 1)), a0.code_, a0.matches_))) : Option (Bool × Int × Int × (Sl DMatch))).bind fun y2 => (if (!y2.1) = true then (some (false, (⟨a0.env_, a0.subject_, a0.fuel_, y2.2.1, a0.start_, a0.now_, a0.conds_, y2.2.2.2, a0.most_, a0.isMere_, T.nilm, y2.2.2.1⟩ : aa_))) else (if (decide ((y2.2.2.2.l.length : Int) = 60)) = true then (some (false, (⟨a0.env_, a0.subject_, a0.fuel_, y2.2.1, a0.start_, a0.now_, a0.conds_, y2.2.2.2, a0.most_, a0.isMere_, T.nilm, 6⟩ : aa_))) else ((be_ ⟨false, [a0.now_, a0.conds_]⟩).bind fun y3 => ((appS 40 y2.2.2.2 (⟨false, [(⟨a0.start_, a1, y3⟩ : DMatch)]⟩ : Sl DMatch)).bind fun y4 => (some ((!decide ((y4.l.length : Int) = a0.most_)), (⟨a0.env_, a0.subject_, a0.fuel_, y2.2.1, a0.start_, a0.now_, a0.conds_, y4, a0.most_, a0.isMere_, T.nilm, y2.2.2.1⟩ : aa_)))))))))
theorem gE_ (a0 : aa_) (a1 : Int) (r : (Bool × aa_)) (h : aK_ a0 a1 = some r) (bp0 : Nat) (mq_bp0 : T) (mh_bp0 : isMp mq_bp0 = true) (p0_1 p0_2 p0_3 : T) : RawS Try.prog md ext 124 [.ptr bp0 0 0 12, i4 a1] 3 (fun hs => E_bool r.1) [.box bp0 [a0.env_.t, .str a0.subject_, i4 a0.fuel_, i4 a0.steps_, i4 a0.start_, p0_1, p0_2, p0_3, i4 a0.most_, .bool a0.isMere_, mq_bp0, i4 a0.code_], .flt 4 p0_1 a0.now_.t, .flt 4 p0_2 a0.conds_.t, .own true 3 p0_3 a0.matches_.t] (fun hs => aY_ bp0 mq_bp0 r.2 hs) := by
 unfold aK_ at h
 refine cC_ rfl rfl ok_124 rfl ?_
 intro σ0 σ F σk s hS hH
 have hp0_1 : ar_ p0_1 := Heap.fltOne (hH.at 1 rfl)
 have hp0_2 : ar_ p0_2 := Heap.fltOne (hH.at 2 rfl)
 have hp0_3 : ar_ p0_3 := Heap.one (hH.at 3 rfl)
 have hmq_bp0 : ar_ mq_bp0 := gm_ mh_bp0
 have hS := ad_ (L' := [(0, .ptr bp0 0 0 12), (1, i4 a1)]) hS (by kernel_rfl)
 refine t_go h hS hH ?_
 refine t_RN ?_
 refine t_RU 3 ?_
 refine ab_ 0 ?_
 refine t_U 1 ?_
 refine ay_ 9 (fun hc1 => ?_) fun hc1 => ?_
 ·refine t_N ?_
  refine t_cT rfl ?_
  refine t_RU 3 ?_
  refine ab_ 0 ?_
  refine t_U 1 ?_
  refine t_gT 18 hc1 ?_
  refine t_U 1 ?_
  refine jJ_ (fun y1 s σ => ∃ t1, ar_ t1 ∧ Sub [(18, .bool true), (20, .bool y1.1)] s ∧ Heap σ0 σ [.box bp0 [a0.env_.t, .str a0.subject_, i4 a0.fuel_, i4 y1.2.1, i4 a0.start_, p0_1, p0_2, t1, i4 a0.most_, .bool a0.isMere_, mq_bp0, i4 y1.2.2.1], .flt 4 p0_1 a0.now_.t, .flt 4 p0_2 a0.conds_.t, .own true 3 t1 y1.2.2.2.t, .keep F σk]) ok_145 (fun y1 => ?_) fun y1 s σ HF h => ?_
  ·refine t_RN ?_
   refine t_D fun mb => ?_
   refine t_U 3 ?_
   refine ab_ 0 ?_
   refine t_U 3 ?_
   refine ab_ 0 ?_
   refine t_N ?_
   refine t_if (fun hc2 => ?_) fun hc2 => ?_
   ·refine t_RU 1 ?_
    refine fP_ ok_150 ?_
    refine t_RN ?_
    refine t_RU 5 ?_
    refine a6_ 0 ?_
    refine t_U 2 ?_
    refine a6_ 0 ?_
    refine t_N ?_
    refine t_RN ?_
    refine k_eI (rT rN) ?_
    refine t_N ?_
    refine t_h (Heap.addNil · true 3) ?_
    exact fO_ (rT rN) fun he hS hH => he ▸ ⟨(T.row true 0 []), ⟨rfl, rfl⟩, (ad_ hS (by kernel_rfl)), (Heap.sel hH [1, 2, 3, 0, 5] rfl (by kernel_rfl))⟩
   refine t_RU 3 ?_
   refine ab_ 0 ?_
   refine t_U 3 ?_
   refine a6_ 0 ?_
   refine t_N ?_
   refine t_RU 3 ?_
   refine ab_ 0 ?_
   refine m2_ mh_bp0 ?_
   refine t_N ?_
   refine m8_ [] [.box bp0 [a0.env_.t, .str a0.subject_, i4 a0.fuel_, i4 (w4 (a0.steps_ + 1)), i4 a0.start_, p0_1, p0_2, p0_3, i4 a0.most_, .bool a0.isMere_, mq_bp0, i4 a0.code_], .flt 4 p0_1 a0.now_.t, .flt 4 p0_2 a0.conds_.t, .own true 3 p0_3 a0.matches_.t, .keep F σk] ?_ ?_
   ·refine qo_ (fun hc3 => ?_) fun hc3 => ?_
    ·refine t_RU 3 ?_
     refine ab_ 0 ?_
     refine t_U 1 ?_
     refine ib_ hc3 KeyM.nil ?_
     refine t_U 1 ?_
     refine if_ hc3 KeyM.nil ?_
     refine t_N ?_
     exact t_eU fun hS hH => ⟨rfl, ad_ hS (by kernel_rfl), hH⟩
    exact t_eU fun hS hH => ⟨rfl, ad_ hS (by kernel_rfl), hH⟩
   refine t_RN ?_
   exact fO_ (rT rN) fun he hS hH => he ▸ ⟨p0_3, hp0_3, (ad_ hS (by kernel_rfl)), hH⟩
  obtain ⟨t1, ht1, ⟨hS, hH⟩⟩ := HF
  refine t_bk h hS hH ?_
  refine t_N ?_
  intro h s σ hS hH
  obtain rfl := si_1 h
  exact bp_ [p0_1, p0_2, t1] (bE_ (v := .bool y1.1) hS rfl r_nil) rfl rfl hH
 refine t_U 1 ?_
 refine jJ_ (fun y2 s σ => ∃ t2, ar_ t2 ∧ Sub [(0, .ptr bp0 0 0 12), (1, i4 a1), (9, .bool false), (11, .bool y2.1)] s ∧ Heap σ0 σ [.box bp0 [a0.env_.t, .str a0.subject_, i4 a0.fuel_, i4 y2.2.1, i4 a0.start_, p0_1, p0_2, t2, i4 a0.most_, .bool a0.isMere_, mq_bp0, i4 y2.2.2.1], .flt 4 p0_1 a0.now_.t, .flt 4 p0_2 a0.conds_.t, .own true 3 t2 y2.2.2.2.t, .keep F σk]) ok_145 (fun y2 => ?_) fun y2 s σ HF h => ?_
 ·refine t_RN ?_
  refine t_D fun mb => ?_
  refine t_U 3 ?_
  refine ab_ 0 ?_
  refine t_U 3 ?_
  refine ab_ 0 ?_
  refine t_N ?_
  refine t_if (fun hc4 => ?_) fun hc4 => ?_
  ·refine t_RU 1 ?_
   refine fP_ ok_150 ?_
   refine t_RN ?_
   refine t_RU 5 ?_
   refine a6_ 0 ?_
   refine t_U 2 ?_
   refine a6_ 0 ?_
   refine t_N ?_
   refine t_RN ?_
   refine k_eI (rT rN) ?_
   refine t_N ?_
   refine t_h (Heap.addNil · true 3) ?_
   exact fO_ (rT rN) fun he hS hH => he ▸ ⟨(T.row true 0 []), ⟨rfl, rfl⟩, (ad_ hS (by kernel_rfl)), (Heap.sel hH [1, 2, 3, 0, 5] rfl (by kernel_rfl))⟩
  refine t_RU 3 ?_
  refine ab_ 0 ?_
  refine t_U 3 ?_
  refine a6_ 0 ?_
  refine t_N ?_
  refine t_RU 3 ?_
  refine ab_ 0 ?_
  refine m2_ mh_bp0 ?_
  refine t_N ?_
  refine m8_ [] [.box bp0 [a0.env_.t, .str a0.subject_, i4 a0.fuel_, i4 (w4 (a0.steps_ + 1)), i4 a0.start_, p0_1, p0_2, p0_3, i4 a0.most_, .bool a0.isMere_, mq_bp0, i4 a0.code_], .flt 4 p0_1 a0.now_.t, .flt 4 p0_2 a0.conds_.t, .own true 3 p0_3 a0.matches_.t, .keep F σk] ?_ ?_
  ·refine qo_ (fun hc5 => ?_) fun hc5 => ?_
   ·refine t_RU 3 ?_
    refine ab_ 0 ?_
    refine t_U 1 ?_
    refine ib_ hc5 KeyM.nil ?_
    refine t_U 1 ?_
    refine if_ hc5 KeyM.nil ?_
    refine t_N ?_
    exact t_eU fun hS hH => ⟨rfl, ad_ hS (by kernel_rfl), hH⟩
   exact t_eU fun hS hH => ⟨rfl, ad_ hS (by kernel_rfl), hH⟩
  refine t_RN ?_
  exact fO_ (rT rN) fun he hS hH => he ▸ ⟨p0_3, hp0_3, (ad_ hS (by kernel_rfl)), hH⟩
 obtain ⟨t2, ht2, ⟨hS, hH⟩⟩ := HF
 refine t_bk h hS hH ?_
 refine t_N ?_
 refine t_if (fun hc6 => ?_) fun hc6 => ?_
 ·refine t_RU 3 ?_
  refine ab_ 0 ?_
  refine t_U 1 ?_
  refine t_gF 18 hc1 ?_
  refine t_N ?_
  intro h s σ hS hH
  obtain rfl := si_1 h
  exact bp_ [p0_1, p0_2, t2] (bE_ (v := .bool false) hS rfl r_nil) rfl rfl hH
 refine t_RU 3 ?_
 refine ab_ 0 ?_
 refine mF_ (a := y2.2.2.2) 3 ?_
 refine t_N ?_
 refine t_if (fun hc7 => ?_) fun hc7 => ?_
 ·refine t_RU 3 ?_
  refine a6_ 0 ?_
  refine t_N ?_
  refine t_RN ?_
  intro h s σ hS hH
  obtain rfl := si_1 h
  exact bp_ [p0_1, p0_2, t2] (bE_ (v := .bool false) hS rfl r_nil) rfl rfl hH
 refine bD_ [(22, RN), (25, RN)] ext_x fun mb σs hn0 hlt hlto => ?_
 have hlt_bp0 : bp0 < mb := hlt bp0 _ (List.Mem.head _)
 refine t_U 4 ?_
 refine ab_ 0 ?_ (hlt := by exact (Or.inr ⟨hlt_bp0, (Wc.cons (.inl (by kernel_rfl)) (Wc.cons (.inl (by kernel_rfl)) Wc.nil))⟩))
 refine t_U 3 ?_
 refine ab_ 0 ?_ (hlt := by exact (Or.inr ⟨hlt_bp0, (Wc.cons (.inl (by kernel_rfl)) (Wc.cons (.inl (by kernel_rfl)) Wc.nil))⟩))
 refine t_U 4 ?_
 refine ab_ 0 ?_ (hlt := by exact (Or.inl (by kernel_rfl)))
 refine t_U 3 ?_
 refine ab_ 0 ?_ (hlt := by exact (Or.inl (by kernel_rfl)))
 intro h s σ hS hH
 refine t8_ rfl (by exact hn0) (e := 93) (sz := 1) (vs := [p0_1, p0_2]) (zc := [(nt DCapture)]) (cs := [p0_1, p0_2]) (v := (T.row false 2 [p0_1, p0_2])) rfl hS hH (by kernel_rfl) (by kernel_rfl) (by kernel_rfl) (by kernel_rfl) (by kernel_rfl) (⟨(by simp [hp0_1.1, hp0_1.2]), (by simp [hp0_1.1, hp0_1.2]), (by simp [hp0_2.1, hp0_2.2]), (by simp [hp0_2.1, hp0_2.2]), trivial⟩) (by simp [hp0_1.1, hp0_1.2, hp0_2.1, hp0_2.2]) rfl ?_; intro t3 σ s ht3 hH hS
 have hH : Heap σ0 σ [.flt 1 t3 (T.row false 2 [p0_1, p0_2]), .box bp0 [a0.env_.t, .str a0.subject_, i4 a0.fuel_, i4 y2.2.1, i4 a0.start_, p0_1, p0_2, t2, i4 a0.most_, .bool a0.isMere_, mq_bp0, i4 y2.2.2.1], .flt 4 p0_1 a0.now_.t, .flt 4 p0_2 a0.conds_.t, .own true 3 t2 y2.2.2.2.t, .keep F σk] := hH
 have hH := hH.up3.up3.up2
 obtain ⟨y3, hy3, h⟩ := bind_some h
 refine p4_ rfl (ts := [t3]) (vs := [(Sl.t (⟨false, [a0.now_, a0.conds_]⟩ : Sl (Sl DCapture)))]) rfl hS rfl rfl rfl hH (ro_ hH) hy3 ?_; intro hs σ s hl hH hS
 obtain ⟨t4, rfl⟩ := len1 hl
 have hH : Heap σ0 σ [.own true 4 t4 y3.t, .flt 1 t3 (T.row false 2 [p0_1, p0_2]), .flt 4 p0_1 a0.now_.t, .flt 4 p0_2 a0.conds_.t, .box bp0 [a0.env_.t, .str a0.subject_, i4 a0.fuel_, i4 y2.2.1, i4 a0.start_, p0_1, p0_2, t2, i4 a0.most_, .bool a0.isMere_, mq_bp0, i4 y2.2.2.1], .own true 3 t2 y2.2.2.2.t, .keep F σk] := hH
 have ht4 : ar_ t4 := Heap.one hH
 refine iV_ (qs := [(0, i4 a0.start_), (1, i4 a1), (2, t4)]) (z := [i4 0, i4 0, (nt DCapture)]) (r := [i4 a0.start_, i4 a1, t4]) [[i4 a0.start_], [i4 a1], [t4]] rfl hS rfl (by kernel_rfl) (by kernel_rfl) (⟨rfl, (by kernel_rfl), rfl, (by kernel_rfl), (by simp [ht4.1, ht4.2]), (by simp [ht4.1, ht4.2]), trivial⟩) (by kernel_rfl) ?_; intro s hS
 refine t_bk h hS hH ?_
 refine k_bs (z := true) (⟨false, [(⟨a0.start_, a1, y3⟩ : DMatch)]⟩ : Sl DMatch) (fun t5 ht5 => ?_) (hb := by exact hn0) (h1 := by simp [ht4.1, ht4.2])
 refine n9_ 5 0 (fun y4 t6 hy4 ht6 => ?_) (hb := by exact hn0) (hwr := by exact fun hH b e o n h0 => Or.inr ⟨22, by kernel_rfl, fun h => h⟩)
 refine t_U 2 ?_
 refine bI_ 4 ht6 ?_ (hwr := by exact fun hH => Or.inr ⟨25, by kernel_rfl, fun h => h⟩)
 refine t_N ?_
 refine t_D fun mb => ?_
 refine t_U 3 ?_
 refine ab_ 0 ?_
 refine mF_ (a := y4) 1 ?_
 refine t_U 3 ?_
 refine ab_ 0 ?_
 refine t_N ?_
 intro h s σ hS hH
 obtain rfl := si_1 h
 exact bp_ [p0_1, p0_2, t6] (bE_ (v := .bool (!decide ((y4.l.length : Int) = a0.most_))) hS rfl r_nil) rfl rfl (Heap.sel hH [0, 3, 4, 1, 5] rfl (by kernel_rfl))
theorem gP_ (Fk : List Nat) (σq : St) (bs : Nat) (mq_bs : T) (mh_bs : isMp mq_bs = true) : d3_ Try.prog md ext (aY_ bs mq_bs) 3 (T.fn 124 [.ptr bs 0 0 12] []) (fun e (S : aa_) => aK_ S e) Fk σq := fun e S y hs hl h => by
 obtain ⟨t1, t2, t3, rfl⟩ := len3 hl
 exact ⟨124, _, _, rfl, (gE_ S e y h bs mq_bs mh_bs t1 t2 t3).keep _⟩
noncomputable def db_ (a0 : (Sl DNamed)) (a1 : DPattern) (a2 : ByteArray) (a3 : (Sl (Iv .i64))) (a4 : Int) : Option ((Sl DMatch) × Int) := ((az_ (S := (Int × (Sl DNamed) × ByteArray × Int × Int × Int × Int × Bool × Int × (Sl DCapture) × (Sl DCapture) × (Sl DMatch))) (R := ((Sl DNamed) × ByteArray × Int × Int × Int × Int × Bool × Int × (Sl DCapture) × (Sl DCapture) × (Sl DMatch))) (fun st1 => (if (decide (st1.1 < (a3.l.length : Int))) = true then ((elt a3 st1.1).bind fun y2 => ((c0_ (⟨st1.2.1, st1.2.2.1, st1.2.2.2.1, st1.2.2.2.2.1, y2.v, st1.2.2.2.2.2.2.2.2.2.1, st1.2.2.2.2.2.2.2.2.2.2.1, st1.2.2.2.2.2.2.2.2.2.2.2, st1.2.2.2.2.2.2.1, st1.2.2.2.2.2.2.2.1, T.nilm, st1.2.2.2.2.2.2.2.2.1⟩ : aa_) a1 y2.v (fun e (S : aa_) => aK_ S e)).bind fun y3 => (if (!y3.1) = true then (some (.inr (y3.2.env_, y3.2.subject_, y3.2.fuel_, y3.2.steps_, y3.2.start_, y3.2.most_, y3.2.isMere_, y3.2.code_, y3.2.now_, y3.2.conds_, y3.2.matches_))) else (some (.inl ((w4 (st1.1 + 1)), y3.2.env_, y3.2.subject_, y3.2.fuel_, y3.2.steps_, y3.2.start_, y3.2.most_, y3.2.isMere_, y3.2.code_, y3.2.now_, y3.2.conds_, y3.2.matches_)))))) else (some (.inr (st1.2.1, st1.2.2.1, st1.2.2.2.1, st1.2.2.2.2.1, st1.2.2.2.2.2.1, st1.2.2.2.2.2.2.1, st1.2.2.2.2.2.2.2.1, st1.2.2.2.2.2.2.2.2.1, st1.2.2.2.2.2.2.2.2.2.1, st1.2.2.2.2.2.2.2.2.2.2.1, st1.2.2.2.2.2.2.2.2.2.2.2))))) (0, a0, a2, a4, 0, 0, 0, false, 0, (⟨true, []⟩ : Sl DCapture), (⟨true, []⟩ : Sl DCapture), (⟨true, []⟩ : Sl DMatch))).bind fun y1 => (some (y1.2.2.2.2.2.2.2.2.2.2, y1.2.2.2.2.2.2.2.1)))
theorem gZ_ (a0 : (Sl DNamed)) (a1 : DPattern) (a2 : ByteArray) (a3 : (Sl (Iv .i64))) (a4 : Int) (r : ((Sl DMatch) × Int)) (h : db_ a0 a1 a2 a3 a4 = some r) : cx_ a0 a1 a2 a3 a4 = some r := by
 unfold db_ at h
 refine k_O ok_82 h (fun σ0 => ?_)
 refine t_R ?_
 refine cm_ (fun b1 => ?_)
 refine t_N ?_
 refine t_RU 4 ?_
 refine cm_ (fun b2 => ?_)
 refine t_N ?_
 refine t_RU 2 ?_
 refine fP_ ok_78 ?_
 refine t_RN ?_
 refine t_h (Heap.addNil · true 4) ?_
 refine qB_ 4 0 ?_
 refine t_h (Heap.addNil · true 4) ?_
 refine qB_ 4 0 ?_
 refine t_h (Heap.addNil · true 3) ?_
 refine bv_ (fun st1 fr => ∃ t4, ar_ t4 ∧ ∃ t5, ar_ t5 ∧ ∃ t6, ar_ t6 ∧ Sub [(0, .ptr b2 0 0 12), (1, .ptr b1 0 0 4), (8, a3.t), (9, i4 (a3.l.length : Int)), (10, i4 st1.1)] fr.s ∧ Heap σ0 fr.σ [.box b2 [st1.2.1.t, .str st1.2.2.1, i4 st1.2.2.2.1, i4 st1.2.2.2.2.1, i4 st1.2.2.2.2.2.1, t4, t5, t6, i4 st1.2.2.2.2.2.2.1, .bool st1.2.2.2.2.2.2.2.1, .mp false, i4 st1.2.2.2.2.2.2.2.2.1], .box b1 [i4 a1.Kind, i4 a1.Num, .str a1.Text, a1.Kids.t], .flt 4 t4 st1.2.2.2.2.2.2.2.2.2.1.t, .flt 4 t5 st1.2.2.2.2.2.2.2.2.2.2.1.t, .own true 3 t6 st1.2.2.2.2.2.2.2.2.2.2.2.t]) (fun y1 e fr => ∃ t7, ar_ t7 ∧ ∃ t8, ar_ t8 ∧ ∃ t9, ar_ t9 ∧ e = (.exit 0) ∧ Sub [] fr.s ∧ Heap σ0 fr.σ [.box b2 [y1.1.t, .str y1.2.1, i4 y1.2.2.1, i4 y1.2.2.2.1, i4 y1.2.2.2.2.1, t7, t8, t9, i4 y1.2.2.2.2.2.1, .bool y1.2.2.2.2.2.2.1, .mp false, i4 y1.2.2.2.2.2.2.2.1], .flt 4 t7 y1.2.2.2.2.2.2.2.2.1.t, .flt 4 t8 y1.2.2.2.2.2.2.2.2.2.1.t, .own true 3 t9 y1.2.2.2.2.2.2.2.2.2.2.t]) (fun hS hH => ⟨(T.row true 0 []), ⟨rfl, rfl⟩, (T.row true 0 []), ⟨rfl, rfl⟩, (T.row true 0 []), ⟨rfl, rfl⟩, (ad_ hS (by kernel_rfl)), (Heap.sel hH [3, 4, 2, 1, 0] rfl (by kernel_rfl))⟩) (fun st1 x fr h HI => ?_) fun y1 e fr h HF => ?_
 ·obtain ⟨s, σ⟩ := fr; obtain ⟨t4, ht4, ⟨t5, ht5, ⟨t6, ht6, ⟨hS, hH⟩⟩⟩⟩ := HI
  refine t_bk h hS hH ?_
  refine t_RN ?_
  refine t_if (fun hc1 => ?_) fun hc1 => ?_
  ·refine t_R ?_
   refine cA_ fun y2 rest1 hy2 => ?_
   refine t_N ?_
   refine t_RU 4 ?_
   refine a6_ 0 ?_
   refine t_N ?_
   refine t_RU 5 ?_
   refine t_h Heap.up1 ?_
   intro h s σ hS hH
   obtain ⟨Fq1, σq1, hH, hU1, hB1, hK1⟩ := Heap.wrapN (A := [.box b1 [i4 a1.Kind, i4 a1.Num, .str a1.Text, a1.Kids.t]]) hH
   have hH := hH.up4.up4.up4.up4
   refine t_bk h hS hH ?_
   refine a1_ (fun y3 hs hy3 hl => ?_) (hr := by exact fun y3 hy3 => gK_ _ _ _ _ y3 hy3 Fq1 σq1 b2 (.mp false) rfl t4 t5 t6 (.ptr b1 0 0 4) (Pt.box rfl (hB1 _ _ (List.Mem.head _))) (T.fn 124 [.ptr b2 0 0 12] []) ⟨rfl, rfl⟩ (gP_ Fq1 σq1 b2 (.mp false) rfl))
   obtain ⟨t10, t11, t12, rfl⟩ := len3 hl
   refine cj_ ?_
   refine a7_ 1 fun ht10 => ?_
   refine a7_ 2 fun ht11 => ?_
   refine a7_ 3 fun ht12 => ?_
   refine t_h Heap.up4 ?_
   intro h s σ hS hH
   have hH := hU1 _ _ hH
   have hH : Heap σ0 σ [.box b1 [i4 a1.Kind, i4 a1.Num, .str a1.Text, a1.Kids.t], .box b2 [y3.2.env_.t, .str y3.2.subject_, i4 y3.2.fuel_, i4 y3.2.steps_, i4 y3.2.start_, t10, t11, t12, i4 y3.2.most_, .bool y3.2.isMere_, .mp false, i4 y3.2.code_], .flt 4 t10 y3.2.now_.t, .flt 4 t11 y3.2.conds_.t, .own true 3 t12 y3.2.matches_.t] := hH
   refine t_bk h hS hH ?_
   refine t_N ?_
   refine t_if (fun hc2 => ?_) fun hc2 => ?_
   ·exact t_e fun he hS hH => he ▸ ⟨t10, ht10, t11, ht11, t12, ht12, rfl, (ad_ hS (by kernel_rfl)), (Heap.sel hH [1, 2, 3, 4] rfl (by kernel_rfl))⟩
   refine t_RN ?_
   exact t_e fun he hS hH => he ▸ ⟨t10, ht10, t11, ht11, t12, ht12, (ad_ hS (by kernel_rfl)), (Heap.sel hH [1, 0, 2, 3, 4] rfl (by kernel_rfl))⟩
  exact t_e fun he hS hH => he ▸ ⟨t4, ht4, t5, ht5, t6, ht6, rfl, (ad_ hS (by kernel_rfl)), (Heap.sel hH [0, 2, 3, 4] rfl (by kernel_rfl))⟩
 obtain ⟨s, σ⟩ := fr
 obtain ⟨t7, ht7, ⟨t8, ht8, ⟨t9, ht9, ⟨rfl, hS, hH⟩⟩⟩⟩ := HF
 refine t_bx h hS hH ?_
 refine k_eI rN ?_
 refine t_N ?_
 refine t_D fun mb => ?_
 refine t_U 3 ?_
 refine ab_ 0 ?_
 refine t_U 3 ?_
 refine ab_ 0 ?_
 refine t_N ?_
 refine t_h Heap.up3 ?_
 exact k_eO [t9] (rT (rT rN))
noncomputable def eo_ (a0 : ByteArray) (a1 : Bool) : Option (Sl (Iv .i64)) := ((az_ (S := (Int × (Sl (Iv .i64)))) (R := (Sl (Iv .i64))) (fun st1 => (if (decide (st1.1 ≤ (a0.size : Int))) = true then (if (!a1) = true then ((appS 8 st1.2 (⟨false, [⟨st1.1⟩]⟩ : Sl (Iv .i64))).bind fun y2 => (some (.inl ((w4 (st1.1 + 1)), y2)))) else (some (.inr st1.2))) else (some (.inr st1.2)))) (1, (⟨false, [⟨0⟩]⟩ : Sl (Iv .i64)))).bind fun y1 => (some y1))
theorem i3_ (a0 : ByteArray) (a1 : Bool) (r : (Sl (Iv .i64))) (h : eo_ a0 a1 = some r) : dl_ a0 a1 = some r := by
 unfold eo_ at h
 refine k_O ok_83 h (fun σ0 => ?_)
 refine t_RN ?_
 refine t_R ?_
 refine k_bs (z := true) (⟨false, [⟨0⟩]⟩ : Sl (Iv .i64)) (fun t1 ht1 => ?_)
 refine t_N ?_
 refine t_RN ?_
 refine bv_ (fun st1 fr => ∃ t3, ar_ t3 ∧ Sub [(0, .str a0), (1, .bool a1), (5, t3), (6, i4 st1.1)] fr.s ∧ Heap σ0 fr.σ [.own true 1 t3 st1.2.t]) (fun y1 e fr => ∃ t4, ar_ t4 ∧ e = (.exit 0) ∧ Sub [(5, t4)] fr.s ∧ Heap σ0 fr.σ [.own true 1 t4 y1.t]) (fun hS hH => ⟨t1, ht1, (ad_ hS (by kernel_rfl)), hH⟩) (fun st1 x fr h HI => ?_) fun y1 e fr h HF => ?_
 ·obtain ⟨s, σ⟩ := fr; obtain ⟨t3, ht3, ⟨hS, hH⟩⟩ := HI
  refine t_bk h hS hH ?_
  refine t_RU 5 ?_
  refine ay_ 12 (fun hc1 => ?_) fun hc1 => ?_
  ·refine t_N ?_
   refine t_if (fun hc2 => ?_) fun hc2 => ?_
   ·refine t_RU 2 ?_
    refine k_bs (z := true) (⟨false, [⟨st1.1⟩]⟩ : Sl (Iv .i64)) (fun t5 ht5 => ?_)
    refine n9_ 1 0 (fun y2 t6 hy2 ht6 => ?_)
    refine t_N ?_
    refine t_RN ?_
    exact t_e fun he hS hH => he ▸ ⟨t6, ht6, (ad_ hS (by kernel_rfl)), hH⟩
   exact t_e fun he hS hH => he ▸ ⟨t3, ht3, rfl, (ad_ hS (by kernel_rfl)), hH⟩
  refine t_N ?_
  refine t_cF ff_ne ?_
  exact t_e fun he hS hH => he ▸ ⟨t3, ht3, rfl, (ad_ hS (by kernel_rfl)), hH⟩
 obtain ⟨s, σ⟩ := fr
 obtain ⟨t4, ht4, ⟨rfl, hS, hH⟩⟩ := HF
 refine t_bx h hS hH ?_
 refine t_RN ?_
 exact k_eO [t4] (rT rN)
noncomputable def bx_ (a0 : (Sl DMatch)) (a1 : (Sl DMatch)) (a2 : T) : Option Bool := (if flat1 a2 = true then (if ((!decide ((a0.l.length : Int) = (a1.l.length : Int)))) = true then (some false) else ((az_ (S := Int) (R := (Unit ⊕ Bool)) (fun st1 => (if (decide (st1 < (a0.l.length : Int))) = true then ((elt a0 st1).bind fun y2 => ((elt a1 st1).bind fun y3 => ((g5_ Try.prog md ext E_bool a2 [.agg (DMatch.cells y2), .agg (DMatch.cells y3)]).bind fun y4 => (if (!y4) = true then (some (.inr (.inr false))) else (some (.inl (w4 (st1 + 1)))))))) else (some (.inr (.inl ()))))) 0).bind fun y1 => (Sum.elim (fun y1 => (some true)) (fun y1 => (some y1)) y1))) else none)
theorem c3_ (a0 : (Sl DMatch)) (a1 : (Sl DMatch)) (a2 : T) (r : Bool) (h : bx_ a0 a1 a2 = some r) : bz_ a0 a1 a2 = some r := by
 unfold bx_ at h
 obtain ⟨hf_a2, h⟩ := hs_ h
 refine k_W ok_91 E_bool_inj h (fun σ0 => ?_) (hf := (all_cons (by kernel_rfl) (all_cons (by kernel_rfl) (all_cons (h9_ hf_a2) all_nil))))
 refine t_RN ?_
 refine t_RN ?_
 refine t_if (fun hc1 => ?_) fun hc1 => ?_
 ·refine t_RN ?_
  exact k_eW (rT rN) E_bool_p
 refine t_RN ?_
 refine bv_ (fun st1 fr => Sub [(1, a1.t), (2, a2), (15, a0.t), (16, i4 (a0.l.length : Int)), (17, i4 st1)] fr.s ∧ Heap σ0 fr.σ []) (fun y1 e fr => (Sum.elim (fun y => e = (.exit 0) ∧ Sub [] fr.s ∧ Heap σ0 fr.σ []) (fun y => e = .ret ∧ endW Try.prog (Try.f91.results.toList) σ0 (E_bool y) .ret fr)) y1) (fun hS hH => ⟨(ad_ hS (by kernel_rfl)), hH⟩) (fun st1 x fr h HI => ?_) fun y1 e fr h HF => ?_
 ·obtain ⟨s, σ⟩ := fr; obtain ⟨hS, hH⟩ := HI
  refine t_bk h hS hH ?_
  refine t_RN ?_
  refine t_if (fun hc2 => ?_) fun hc2 => ?_
  ·refine t_RU 1 ?_
   refine cA_ fun y2 rest1 hy2 => ?_
   refine t_U 1 ?_
   refine a2_ fun b1 => ?_
   refine t_U 1 ?_
   refine af_ 0 ?_
   refine t_N ?_
   refine t_RU 2 ?_
   refine cA_ fun y3 rest2 hy3 => ?_
   refine t_U 1 ?_
   refine a2_ fun b2 => ?_
   refine af_ 0 ?_
   refine t_N ?_
   refine t_RU 1 ?_
   refine ab_ 1 ?_
   refine ab_ 0 ?_
   refine kA_ fun y4 hy4 => ?_
   refine t_N ?_
   refine t_if (fun hc3 => ?_) fun hc3 => ?_
   ·refine t_RN ?_
    exact t_e fun he hS hH => he ▸ ⟨rfl, (eW hS hH (rT rN) E_bool_p)⟩
   refine t_RN ?_
   exact t_e fun he hS hH => he ▸ ⟨(ad_ hS (by kernel_rfl)), (Heap.sel hH [] rfl (by kernel_rfl))⟩
  exact t_e fun he hS hH => he ▸ ⟨rfl, (ad_ hS (by kernel_rfl)), hH⟩
 obtain ⟨s, σ⟩ := fr
 rcases y1 with y1 | y1
 ·have h := el_l h
  obtain ⟨rfl, hS, hH⟩ := HF
  refine t_bx h hS hH ?_
  refine t_RN ?_
  exact k_eW (rT rN) E_bool_p
 have h := el_r h
 obtain ⟨rfl, HE⟩ := HF
 obtain rfl := si_1 h; exact HE
noncomputable def cR_ (a0 : DMatch) (a1 : DMatch) : Option Bool := (if (decide (a0.Start = a1.Start)) = true then (if (decide (a0.End = a1.End)) = true then ((bR_ a0.Captures a1.Captures).bind fun y1 => (some y1)) else (some false)) else (some false))
theorem fM_ (a0 : DMatch) (a1 : DMatch) (r : Bool) (h : cR_ a0 a1 = some r) : cn_ a0 a1 = some r := by
 unfold cR_ at h
 refine k_W ok_92 E_bool_inj h (fun σ0 => ?_)
 refine t_R ?_
 refine cm_ (fun b1 => ?_)
 refine cm_ (fun b2 => ?_)
 refine t_N ?_
 refine t_RU 1 ?_
 refine ab_ 1 ?_
 refine t_U 1 ?_
 refine ab_ 0 ?_
 refine t_U 2 ?_
 refine ay_ 10 (fun hc1 => ?_) fun hc1 => ?_
 ·refine t_U 1 ?_
  refine ab_ 1 ?_
  refine t_U 1 ?_
  refine ab_ 0 ?_
  refine t_U 3 ?_
  refine ay_ 17 (fun hc2 => ?_) fun hc2 => ?_
  ·refine t_U 1 ?_
   refine ab_ 1 ?_
   refine t_U 1 ?_
   refine ab_ 0 ?_
   refine an_ fun y1 hy1 => ?_
   refine t_N ?_
   exact k_eW (rT rN) E_bool_p
  refine t_N ?_
  exact k_eW (rT rN) E_bool_p
 refine t_N ?_
 exact k_eW (rT rN) E_bool_p
noncomputable def a5_ (a0 : DPattern) (a1 : DPattern) : Option DPattern := (((if (decide (a0.Kind = 1)) = true then (if (decide (a1.Kind = 1)) = true then ((catB a0.Text a1.Text).bind fun y17 => ((a9_ y17).bind fun y18 => (some y18))) else (some false)) else (some false)) : Option Bool).bind fun y1 => ((aw_ a0).bind fun y2 => (if y2 = true then (some a1) else ((aw_ a1).bind fun y3 => (if y3 = true then (some a0) else (if (decide (a0.Kind = 16)) = true then (some a0) else (if (decide (a0.Kind = 15)) = true then (some a0) else (if (decide (a0.Kind = 19)) = true then ((elt a0.Kids 0).bind fun y4 => ((elt a0.Kids 1).bind fun y5 => ((bG_ y5 a1).bind fun y6 => ((bG_ y4 y6).bind fun y7 => (some y7))))) else (if y1 = true then ((catB a0.Text a1.Text).bind fun y8 => (some (⟨1, 0, y8, ⟨true, []⟩⟩ : DPattern))) else (((if (decide (a0.Kind = 1)) = true then (if (decide (a1.Kind = 19)) = true then ((elt a1.Kids 0).bind fun y13 => (if (decide (y13.Kind = 1)) = true then ((elt a1.Kids 0).bind fun y14 => ((catB a0.Text y14.Text).bind fun y15 => ((a9_ y15).bind fun y16 => (some y16)))) else (some false))) else (some false)) else (some false)) : Option Bool).bind fun y9 => (if y9 = true then ((elt a1.Kids 0).bind fun y10 => ((catB a0.Text y10.Text).bind fun y11 => ((elt a1.Kids 1).bind fun y12 => (some (⟨19, 0, ⟨#[]⟩, ⟨false, [(⟨1, 0, y11, ⟨true, []⟩⟩ : DPattern), y12]⟩⟩ : DPattern))))) else (some (⟨19, 0, ⟨#[]⟩, ⟨false, [a0, a1]⟩⟩ : DPattern)))))))))))))
theorem bF_ (a0 : DPattern) (a1 : DPattern) (r : DPattern) (h : a5_ a0 a1 = some r) : bG_ a0 a1 = some r := by
 unfold a5_ at h
 refine k_W ok_95 E_DPattern_inj h (fun σ0 => ?_)
 refine t_R ?_
 refine cm_ (fun b1 => ?_)
 refine cm_ (fun b2 => ?_)
 refine a2_ fun b3 => ?_
 refine t_N ?_
 refine d4_ 0 (fun y1 e fr => e = .normal ∧ Sub [(2, .ptr b1 0 0 4), (3, .ptr b2 0 0 4), (4, .ptr b3 0 0 4), (5, .bool y1)] fr.s ∧ Heap σ0 fr.σ [.box b3 [i4 0, i4 0, .str ⟨#[]⟩, (nt DPattern)], .box b2 [i4 a1.Kind, i4 a1.Num, .str a1.Text, a1.Kids.t], .box b1 [i4 a0.Kind, i4 a0.Num, .str a0.Text, a0.Kids.t]]) (fun y1 e fr h HF => ?_) fun y1 => ?_
 ·obtain ⟨s, σ⟩ := fr
  obtain ⟨rfl, hS, hH⟩ := HF
  refine t_bx h hS hH ?_
  refine t_R ?_
  refine ab_ 2 ?_
  refine an_ fun y2 hy2 => ?_
  refine t_N ?_
  refine t_if (fun hc1 => ?_) fun hc1 => ?_
  ·refine t_R ?_
   refine ab_ 1 ?_
   refine af_ 0 ?_
   refine t_N ?_
   exact k_eW (rC 0 rN) E_DPattern_p
  refine t_R ?_
  refine ab_ 1 ?_
  refine an_ fun y3 hy3 => ?_
  refine t_U 1 ?_
  refine ay_ 29 (fun hc2 => ?_) fun hc2 => ?_
  ·refine t_N ?_
   refine t_cT rfl ?_
   refine t_R ?_
   refine ab_ 2 ?_
   refine af_ 0 ?_
   refine t_N ?_
   exact k_eW (rC 0 rN) E_DPattern_p
  refine t_U 1 ?_
  refine ab_ 2 ?_
  refine t_U 3 ?_
  refine ay_ 34 (fun hc3 => ?_) fun hc3 => ?_
  ·refine t_N ?_
   refine t_cT rfl ?_
   refine t_R ?_
   refine ab_ 2 ?_
   refine af_ 0 ?_
   refine t_N ?_
   exact k_eW (rC 0 rN) E_DPattern_p
  refine t_U 1 ?_
  refine ab_ 2 ?_
  refine t_N ?_
  refine t_if (fun hc4 => ?_) fun hc4 => ?_
  ·refine t_R ?_
   refine ab_ 2 ?_
   refine af_ 0 ?_
   refine t_N ?_
   exact k_eW (rC 0 rN) E_DPattern_p
  refine t_RU 1 ?_
  refine ab_ 2 ?_
  refine t_N ?_
  refine t_if (fun hc5 => ?_) fun hc5 => ?_
  ·refine bD_ [(11, RN)] ext_x fun mb σs hn0 hlt hlto => ?_
   have hlt_b1 : b1 < mb := hlt b1 _ (List.Mem.tail _ (List.Mem.tail _ (List.Mem.head _)))
   refine t_U 1 ?_
   refine ab_ 2 ?_ (hlt := by exact (Or.inr ⟨hlt_b1, (Wc.cons (.inl (by kernel_rfl)) Wc.nil)⟩))
   refine cA_ fun y4 rest1 hy4 => ?_
   refine t_U 2 ?_
   refine ab_ 2 ?_ (hlt := by exact (Or.inl (by kernel_rfl)))
   refine cA_ fun y5 rest2 hy5 => ?_
   refine t_U 1 ?_
   refine ab_ 1 ?_ (hlt := by exact (Or.inl (by kernel_rfl)))
   refine an_ fun y6 hy6 => ?_
   refine an_ fun y7 hy7 => ?_
   refine af_ 0 ?_ (hwr := by exact fun hH => Or.inr ⟨11, by kernel_rfl, fun h => h⟩)
   refine t_N ?_
   exact k_eW (rC 0 rN) E_DPattern_p
  refine t_RN ?_
  refine t_if (fun hc6 => ?_) fun hc6 => ?_
  ·refine t_RU 1 ?_
   refine ab_ 2 ?_
   refine t_U 1 ?_
   refine ab_ 1 ?_
   refine nk_ fun y8 hy8 => ?_
   refine t_U 1 ?_
   refine af_ 0 ?_
   refine t_N ?_
   exact k_eW (rC 0 rN) E_DPattern_p
  refine d4_ 0 (fun y9 e fr => e = .normal ∧ Sub [(2, .ptr b1 0 0 4), (3, .ptr b2 0 0 4), (4, .ptr b3 0 0 4), (63, .bool y9)] fr.s ∧ Heap σ0 fr.σ [.box b3 [i4 0, i4 0, .str ⟨#[]⟩, (nt DPattern)], .box b2 [i4 a1.Kind, i4 a1.Num, .str a1.Text, a1.Kids.t], .box b1 [i4 a0.Kind, i4 a0.Num, .str a0.Text, a0.Kids.t]]) (fun y9 e fr h HF => ?_) fun y9 => ?_
  ·obtain ⟨s, σ⟩ := fr
   obtain ⟨rfl, hS, hH⟩ := HF
   refine t_bx h hS hH ?_
   refine t_if (fun hc7 => ?_) fun hc7 => ?_
   ·refine bD_ [(15, RN)] ext_x fun mb σs hn0 hlt hlto => ?_
    refine t_U 1 ?_
    refine ab_ 2 ?_ (hlt := by exact (Or.inl (by kernel_rfl)))
    refine t_U 1 ?_
    refine ab_ 1 ?_ (hlt := by exact (Or.inl (by kernel_rfl)))
    refine cA_ fun y10 rest3 hy10 => ?_
    refine t_U 2 ?_
    refine nk_ fun y11 hy11 => ?_
    refine t_U 2 ?_
    refine ab_ 1 ?_ (hlt := by exact (Or.inl (by kernel_rfl)))
    refine cA_ fun y12 rest4 hy12 => ?_
    refine t_U 1 ?_
    refine k_bs (z := false) (⟨false, [(⟨1, 0, y11, ⟨true, []⟩⟩ : DPattern), y12]⟩ : Sl DPattern) (fun t1 ht1 => ?_) (hb := by exact hn0)
    intro h s σ hS hH
    refine iV_ (qs := [(0, i4 19), (3, t1)]) (z := [i4 0, i4 0, .str ⟨#[]⟩, (nt DPattern)]) (r := [i4 19, i4 0, .str ⟨#[]⟩, t1]) [[i4 19], [t1]] rfl hS rfl (by kernel_rfl) (by kernel_rfl) (⟨rfl, (by kernel_rfl), (by simp [ht1.1, ht1.2]), (by simp [ht1.1, ht1.2]), trivial⟩) (by kernel_rfl) ?_; intro s hS
    refine t_bk h hS hH ?_
    refine af_ 1 ?_ (h1 := by simp [ht1.1, ht1.2]) (hwr := by exact fun hH => Or.inr ⟨15, by kernel_rfl, fun h => h⟩)
    refine t_N ?_
    intro h s σ hS hH
    obtain rfl := si_1 h
    have hH := hH.up1
    exact md_ (ents := [.own false 4 t1 (Sl.t (⟨false, [(⟨1, 0, y11, ⟨true, []⟩⟩ : DPattern), y12]⟩ : Sl DPattern))]) (z := false) hH (ce_ (v := .agg [i4 19, i4 0, .str ⟨#[]⟩, t1]) hS (hH.at 1 rfl) rfl (by kernel_rfl) r_nil) (HL.agg (es1 := [.own false 4 t1 (Sl.t (⟨false, [(⟨1, 0, y11, ⟨true, []⟩⟩ : DPattern), y12]⟩ : Sl DPattern))]) (es2 := []) (HLi (HLi (HLs (HL.own rfl HL.nil)))) HL.nil) (by simp [pureT, pureL, E_DPattern])
   refine t_R ?_
   refine ab_ 2 ?_
   refine ab_ 1 ?_
   refine k_bs (z := false) (⟨false, [a0, a1]⟩ : Sl DPattern) (fun t2 ht2 => ?_)
   intro h s σ hS hH
   refine iV_ (qs := [(0, i4 19), (3, t2)]) (z := [i4 0, i4 0, .str ⟨#[]⟩, (nt DPattern)]) (r := [i4 19, i4 0, .str ⟨#[]⟩, t2]) [[i4 19], [t2]] rfl hS rfl (by kernel_rfl) (by kernel_rfl) (⟨rfl, (by kernel_rfl), (by simp [ht2.1, ht2.2]), (by simp [ht2.1, ht2.2]), trivial⟩) (by kernel_rfl) ?_; intro s hS
   refine t_bk h hS hH ?_
   refine af_ 1 ?_ (h1 := by simp [ht2.1, ht2.2])
   refine t_N ?_
   intro h s σ hS hH
   obtain rfl := si_1 h
   have hH := hH.up1
   exact md_ (ents := [.own false 4 t2 (Sl.t (⟨false, [a0, a1]⟩ : Sl DPattern))]) (z := false) hH (ce_ (v := .agg [i4 19, i4 0, .str ⟨#[]⟩, t2]) hS (hH.at 1 rfl) rfl (by kernel_rfl) r_nil) (HL.agg (es1 := [.own false 4 t2 (Sl.t (⟨false, [a0, a1]⟩ : Sl DPattern))]) (es2 := []) (HLi (HLi (HLs (HL.own rfl HL.nil)))) HL.nil) (by simp [pureT, pureL, E_DPattern])
  refine t_D fun mb => ?_
  refine t_U 1 ?_
  refine ab_ 2 ?_
  refine t_U 2 ?_
  refine ay_ 67 (fun hc8 => ?_) fun hc8 => ?_
  ·refine t_U 1 ?_
   refine ab_ 1 ?_
   refine t_U 3 ?_
   refine ay_ 72 (fun hc9 => ?_) fun hc9 => ?_
   ·refine t_U 1 ?_
    refine ab_ 1 ?_
    refine cA_ fun y13 rest5 hy13 => ?_
    refine t_U 5 ?_
    refine ay_ 80 (fun hc10 => ?_) fun hc10 => ?_
    ·refine t_U 1 ?_
     refine ab_ 2 ?_
     refine t_U 1 ?_
     refine ab_ 1 ?_
     refine cA_ fun y14 rest6 hy14 => ?_
     refine t_U 2 ?_
     refine nk_ fun y15 hy15 => ?_
     refine an_ fun y16 hy16 => ?_
     refine t_N ?_
     exact t_e fun he hS hH => he ▸ ⟨rfl, (ad_ hS (by kernel_rfl)), hH⟩
    refine t_N ?_
    exact t_e fun he hS hH => he ▸ ⟨rfl, (ad_ hS (by kernel_rfl)), hH⟩
   refine t_N ?_
   exact t_e fun he hS hH => he ▸ ⟨rfl, (ad_ hS (by kernel_rfl)), hH⟩
  refine t_N ?_
  exact t_e fun he hS hH => he ▸ ⟨rfl, (ad_ hS (by kernel_rfl)), hH⟩
 refine t_RU 1 ?_
 refine ab_ 2 ?_
 refine t_U 2 ?_
 refine ay_ 9 (fun hc11 => ?_) fun hc11 => ?_
 ·refine t_U 1 ?_
  refine ab_ 1 ?_
  refine t_U 3 ?_
  refine ay_ 14 (fun hc12 => ?_) fun hc12 => ?_
  ·refine t_U 1 ?_
   refine ab_ 2 ?_
   refine t_U 1 ?_
   refine ab_ 1 ?_
   refine nk_ fun y17 hy17 => ?_
   refine an_ fun y18 hy18 => ?_
   refine t_N ?_
   exact t_e fun he hS hH => he ▸ ⟨rfl, (ad_ hS (by kernel_rfl)), hH⟩
  refine t_N ?_
  exact t_e fun he hS hH => he ▸ ⟨rfl, (ad_ hS (by kernel_rfl)), hH⟩
 refine t_N ?_
 exact t_e fun he hS hH => he ▸ ⟨rfl, (ad_ hS (by kernel_rfl)), hH⟩
noncomputable def am_ (a0 : DPattern) : Option DPattern := ((az_ (S := (Int × (Sl DPattern))) (R := (Sl DPattern)) (fun st1 => (if (decide (st1.1 < (a0.Kids.l.length : Int))) = true then ((elt a0.Kids st1.1).bind fun y2 => ((ap_ y2).bind fun y3 => ((appS 56 st1.2 (⟨false, [y3]⟩ : Sl DPattern)).bind fun y4 => (some (.inl ((w4 (st1.1 + 1)), y4)))))) else (some (.inr st1.2)))) (0, (⟨false, []⟩ : Sl DPattern))).bind fun y1 => (if (decide (a0.Kind = 6)) = true then (if (decide (a0.Num = 0)) = true then (some (⟨1, 0, ⟨#[]⟩, ⟨true, []⟩⟩ : DPattern)) else (if (decide (a0.Kind = 19)) = true then ((elt y1 0).bind fun y5 => ((elt y1 1).bind fun y6 => ((bG_ y5 y6).bind fun y7 => (some y7)))) else (if (decide (a0.Kind = 18)) = true then ((elt y1 0).bind fun y8 => ((elt y1 1).bind fun y9 => ((bZ_ y8 y9).bind fun y10 => (some y10)))) else (if (decide (a0.Kind = 20)) = true then ((elt y1 0).bind fun y11 => (if (decide (y11.Kind = 16)) = true then (some (⟨1, 0, ⟨#[]⟩, ⟨true, []⟩⟩ : DPattern)) else ((elt y1 0).bind fun y12 => ((aw_ y12).bind fun y13 => (if y13 = true then (some (⟨1, 0, ⟨#[]⟩, ⟨true, []⟩⟩ : DPattern)) else (if (decide (a0.Kind = 21)) = true then ((elt y1 0).bind fun y14 => (if (decide (y14.Kind = 16)) = true then ((elt y1 0).bind fun y15 => (some y15)) else ((elt y1 0).bind fun y16 => (if (decide (y16.Kind = 15)) = true then ((elt y1 0).bind fun y17 => (some y17)) else (some (⟨a0.Kind, a0.Num, a0.Text, y1⟩ : DPattern)))))) else (if (decide (a0.Kind = 22)) = true then ((elt y1 0).bind fun y18 => (if (decide (y18.Kind = 16)) = true then ((elt y1 0).bind fun y19 => (some y19)) else ((elt y1 0).bind fun y20 => (if (decide (y20.Kind = 15)) = true then ((elt y1 0).bind fun y21 => (some y21)) else (some (⟨a0.Kind, a0.Num, a0.Text, y1⟩ : DPattern)))))) else (some (⟨a0.Kind, a0.Num, a0.Text, y1⟩ : DPattern))))))))) else (if (decide (a0.Kind = 21)) = true then ((elt y1 0).bind fun y22 => (if (decide (y22.Kind = 16)) = true then ((elt y1 0).bind fun y23 => (some y23)) else ((elt y1 0).bind fun y24 => (if (decide (y24.Kind = 15)) = true then ((elt y1 0).bind fun y25 => (some y25)) else (some (⟨a0.Kind, a0.Num, a0.Text, y1⟩ : DPattern)))))) else (if (decide (a0.Kind = 22)) = true then ((elt y1 0).bind fun y26 => (if (decide (y26.Kind = 16)) = true then ((elt y1 0).bind fun y27 => (some y27)) else ((elt y1 0).bind fun y28 => (if (decide (y28.Kind = 15)) = true then ((elt y1 0).bind fun y29 => (some y29)) else (some (⟨a0.Kind, a0.Num, a0.Text, y1⟩ : DPattern)))))) else (some (⟨a0.Kind, a0.Num, a0.Text, y1⟩ : DPattern)))))))) else (if (decide (a0.Kind = 19)) = true then ((elt y1 0).bind fun y30 => ((elt y1 1).bind fun y31 => ((bG_ y30 y31).bind fun y32 => (some y32)))) else (if (decide (a0.Kind = 18)) = true then ((elt y1 0).bind fun y33 => ((elt y1 1).bind fun y34 => ((bZ_ y33 y34).bind fun y35 => (some y35)))) else (if (decide (a0.Kind = 20)) = true then ((elt y1 0).bind fun y36 => (if (decide (y36.Kind = 16)) = true then (some (⟨1, 0, ⟨#[]⟩, ⟨true, []⟩⟩ : DPattern)) else ((elt y1 0).bind fun y37 => ((aw_ y37).bind fun y38 => (if y38 = true then (some (⟨1, 0, ⟨#[]⟩, ⟨true, []⟩⟩ : DPattern)) else (if (decide (a0.Kind = 21)) = true then ((elt y1 0).bind fun y39 => (if (decide (y39.Kind = 16)) = true then ((elt y1 0).bind fun y40 => (some y40)) else ((elt y1 0).bind fun y41 => (if (decide (y41.Kind = 15)) = true then ((elt y1 0).bind fun y42 => (some y42)) else (some (⟨a0.Kind, a0.Num, a0.Text, y1⟩ : DPattern)))))) else (if (decide (a0.Kind = 22)) = true then ((elt y1 0).bind fun y43 => (if (decide (y43.Kind = 16)) = true then ((elt y1 0).bind fun y44 => (some y44)) else ((elt y1 0).bind fun y45 => (if (decide (y45.Kind = 15)) = true then ((elt y1 0).bind fun y46 => (some y46)) else (some (⟨a0.Kind, a0.Num, a0.Text, y1⟩ : DPattern)))))) else (some (⟨a0.Kind, a0.Num, a0.Text, y1⟩ : DPattern))))))))) else (if (decide (a0.Kind = 21)) = true then ((elt y1 0).bind fun y47 => (if (decide (y47.Kind = 16)) = true then ((elt y1 0).bind fun y48 => (some y48)) else ((elt y1 0).bind fun y49 => (if (decide (y49.Kind = 15)) = true then ((elt y1 0).bind fun y50 => (some y50)) else (some (⟨a0.Kind, a0.Num, a0.Text, y1⟩ : DPattern)))))) else (if (decide (a0.Kind = 22)) = true then ((elt y1 0).bind fun y51 => (if (decide (y51.Kind = 16)) = true then ((elt y1 0).bind fun y52 => (some y52)) else ((elt y1 0).bind fun y53 => (if (decide (y53.Kind = 15)) = true then ((elt y1 0).bind fun y54 => (some y54)) else (some (⟨a0.Kind, a0.Num, a0.Text, y1⟩ : DPattern)))))) else (some (⟨a0.Kind, a0.Num, a0.Text, y1⟩ : DPattern)))))))))
theorem eT_ (a0 : DPattern) (r : DPattern) (h : am_ a0 = some r) : ap_ a0 = some r := by
 unfold am_ at h
 refine k_W ok_96 E_DPattern_inj h (fun σ0 => ?_)
 refine t_R ?_
 refine cm_ (fun b1 => ?_)
 refine a2_ fun b2 => ?_
 refine t_N ?_
 refine t_R ?_
 refine sQ_ (α := DPattern) (fun t1 ht1 => ?_)
 refine t1_ 4 0 ?_
 refine t_N ?_
 refine t_RU 1 ?_
 refine ab_ 2 ?_
 refine t_N ?_
 refine bv_ (fun st1 fr => ∃ t3, ar_ t3 ∧ Sub [(1, .ptr b1 0 0 4), (2, .ptr b2 0 0 4), (3, t3), (9, a0.Kids.t), (10, i4 (a0.Kids.l.length : Int)), (11, i4 st1.1)] fr.s ∧ Heap σ0 fr.σ [.box b2 [i4 0, i4 0, .str ⟨#[]⟩, (nt DPattern)], .box b1 [i4 a0.Kind, i4 a0.Num, .str a0.Text, a0.Kids.t], .flt 4 t3 st1.2.t]) (fun y1 e fr => ∃ t4, ar_ t4 ∧ e = (.exit 0) ∧ Sub [(1, .ptr b1 0 0 4), (2, .ptr b2 0 0 4), (3, t4)] fr.s ∧ Heap σ0 fr.σ [.box b2 [i4 0, i4 0, .str ⟨#[]⟩, (nt DPattern)], .box b1 [i4 a0.Kind, i4 a0.Num, .str a0.Text, a0.Kids.t], .flt 4 t4 y1.t]) (fun hS hH => ⟨t1, ht1, (ad_ hS (by kernel_rfl)), (Heap.sel hH [1, 2, 0] rfl (by kernel_rfl))⟩) (fun st1 x fr h HI => ?_) fun y1 e fr h HF => ?_
 ·obtain ⟨s, σ⟩ := fr; obtain ⟨t3, ht3, ⟨hS, hH⟩⟩ := HI
  refine t_bk h hS hH ?_
  refine t_RN ?_
  refine t_if (fun hc1 => ?_) fun hc1 => ?_
  ·refine t_R ?_
   refine cA_ fun y2 rest1 hy2 => ?_
   refine t_U 1 ?_
   refine a2_ fun b3 => ?_
   refine af_ 0 ?_
   refine t_N ?_
   refine t_RU 1 ?_
   refine ab_ 0 ?_
   refine an_ fun y3 hy3 => ?_
   refine pQ_ (⟨false, [y3]⟩ : Sl DPattern) (fun t5 ht5 => ?_)
   refine kv_ 4 (fun hH => ie_ (hH.at 0 rfl) (by kernel_rfl)) (fun y4 t6 hy4 ht6 => ?_)
   refine t_N ?_
   refine t_RN ?_
   exact t_e fun he hS hH => he ▸ ⟨t6, ht6, (ad_ hS (by kernel_rfl)), (Heap.sel hH [3, 4, 0] rfl (by kernel_rfl))⟩
  exact t_e fun he hS hH => he ▸ ⟨t3, ht3, rfl, (ad_ hS (by kernel_rfl)), hH⟩
 obtain ⟨s, σ⟩ := fr
 obtain ⟨t4, ht4, ⟨rfl, hS, hH⟩⟩ := HF
 refine t_bx h hS hH ?_
 refine t_RU 1 ?_
 refine a2_ fun b4 => ?_
 refine af_ 0 ?_
 refine t_N ?_
 refine t_RU 1 ?_
 refine ab_ 2 ?_
 refine t_U 2 ?_
 refine ay_ 26 (fun hc2 => ?_) fun hc2 => ?_
 ·refine t_U 1 ?_
  refine ab_ 2 ?_
  refine t_N ?_
  refine t_if (fun hc3 => ?_) fun hc3 => ?_
  ·refine t_R ?_
   refine ab_ 0 ?_
   refine af_ 1 ?_
   refine t_N ?_
   exact k_eW (rC 0 rN) E_DPattern_p
  refine t_RU 1 ?_
  refine ab_ 2 ?_
  refine t_N ?_
  refine t_if (fun hc4 => ?_) fun hc4 => ?_
  ·refine bD_ [(7, RN)] ext_x fun mb σs hn0 hlt hlto => ?_
   refine t_U 1 ?_
   refine a3_ 3 (fun hb1 hb1e y5 hy5 hl_hb1 => ?_) (hlt := by exact (fun _ _ _ _ _ => Or.inl (by kernel_rfl)))
   refine aJ_ 3 0 hl_hb1 hy5 ?_ (hlt := by exact (fun _ _ _ _ _ => Or.inl (by kernel_rfl)))
   refine t_U 1 ?_
   refine a3_ 3 (fun hb2 hb2e y6 hy6 hl_hb2 => ?_) (hlt := by exact (fun _ _ _ _ _ => Or.inl (by kernel_rfl)))
   refine aJ_ 3 0 hl_hb2 hy6 ?_ (hlt := by exact (fun _ _ _ _ _ => Or.inl (by kernel_rfl)))
   refine an_ fun y7 hy7 => ?_
   refine af_ 1 ?_ (hwr := by exact fun hH => Or.inr ⟨7, by kernel_rfl, fun h => h⟩)
   refine t_N ?_
   exact k_eW (rC 0 rN) E_DPattern_p
  refine t_RU 1 ?_
  refine ab_ 2 ?_
  refine t_N ?_
  refine t_if (fun hc5 => ?_) fun hc5 => ?_
  ·refine bD_ [(7, RN)] ext_x fun mb σs hn0 hlt hlto => ?_
   refine t_U 1 ?_
   refine a3_ 3 (fun hb3 hb3e y8 hy8 hl_hb3 => ?_) (hlt := by exact (fun _ _ _ _ _ => Or.inl (by kernel_rfl)))
   refine aJ_ 3 0 hl_hb3 hy8 ?_ (hlt := by exact (fun _ _ _ _ _ => Or.inl (by kernel_rfl)))
   refine t_U 1 ?_
   refine a3_ 3 (fun hb4 hb4e y9 hy9 hl_hb4 => ?_) (hlt := by exact (fun _ _ _ _ _ => Or.inl (by kernel_rfl)))
   refine aJ_ 3 0 hl_hb4 hy9 ?_ (hlt := by exact (fun _ _ _ _ _ => Or.inl (by kernel_rfl)))
   refine an_ fun y10 hy10 => ?_
   refine af_ 1 ?_ (hwr := by exact fun hH => Or.inr ⟨7, by kernel_rfl, fun h => h⟩)
   refine t_N ?_
   exact k_eW (rC 0 rN) E_DPattern_p
  refine t_RU 1 ?_
  refine ab_ 2 ?_
  refine t_U 2 ?_
  refine ay_ 58 (fun hc6 => ?_) fun hc6 => ?_
  ·refine t_U 1 ?_
   refine a3_ 3 (fun hb5 hb5e y11 hy11 hl_hb5 => ?_)
   refine t_U 1 ?_
   refine aJ_ 3 0 hl_hb5 hy11 ?_
   refine t_U 2 ?_
   refine ay_ 64 (fun hc7 => ?_) fun hc7 => ?_
   ·refine t_N ?_
    refine t_cT rfl ?_
    refine t_R ?_
    refine ab_ 0 ?_
    refine af_ 1 ?_
    refine t_N ?_
    exact k_eW (rC 0 rN) E_DPattern_p
   refine t_U 1 ?_
   refine a3_ 3 (fun hb6 hb6e y12 hy12 hl_hb6 => ?_)
   refine aJ_ 3 0 hl_hb6 hy12 ?_
   refine an_ fun y13 hy13 => ?_
   refine t_N ?_
   refine t_if (fun hc8 => ?_) fun hc8 => ?_
   ·refine t_R ?_
    refine ab_ 0 ?_
    refine af_ 1 ?_
    refine t_N ?_
    exact k_eW (rC 0 rN) E_DPattern_p
   refine t_RU 1 ?_
   refine ab_ 2 ?_
   refine t_U 2 ?_
   refine ay_ 76 (fun hc9 => ?_) fun hc9 => ?_
   ·refine t_U 6 ?_
    refine a3_ 3 (fun hb7 hb7e y14 hy14 hl_hb7 => ?_)
    refine t_U 1 ?_
    refine aJ_ 3 0 hl_hb7 hy14 ?_
    refine t_U 2 ?_
    refine ay_ 87 (fun hc10 => ?_) fun hc10 => ?_
    ·refine t_N ?_
     refine t_cT rfl ?_
     refine t_RU 1 ?_
     refine a3_ 3 (fun hb8 hb8e y15 hy15 hl_hb8 => ?_)
     refine aJ_ 3 0 hl_hb8 hy15 ?_
     refine af_ 1 ?_
     refine t_N ?_
     exact k_eW (rC 0 rN) E_DPattern_p
    refine t_U 1 ?_
    refine a3_ 3 (fun hb9 hb9e y16 hy16 hl_hb9 => ?_)
    refine t_U 1 ?_
    refine aJ_ 3 0 hl_hb9 hy16 ?_
    refine t_N ?_
    refine t_if (fun hc11 => ?_) fun hc11 => ?_
    ·refine t_RU 1 ?_
     refine a3_ 3 (fun hb10 hb10e y17 hy17 hl_hb10 => ?_)
     refine aJ_ 3 0 hl_hb10 hy17 ?_
     refine af_ 1 ?_
     refine t_N ?_
     exact k_eW (rC 0 rN) E_DPattern_p
    refine t_RU 2 ?_
    refine bI_ 2 ht4 ?_
    refine t_N ?_
    refine t_R ?_
    refine ab_ 0 ?_
    refine af_ 2 ?_ (h1 := by simp [ht4.1, ht4.2])
    refine t_N ?_
    intro h s σ hS hH
    obtain rfl := si_1 h
    exact hZ_ hH (ce_ (v := .agg [i4 a0.Kind, i4 a0.Num, .str a0.Text, t4]) hS hH rfl (by kernel_rfl) r_nil) (FzL.agg (FzL.leaf rfl (FzL.leaf rfl (FzL.leaf rfl (FzL.flt (x := y1) 3 hH rfl FzL.nil)))) FzL.nil) (by simp [pureT, pureL, E_DPattern])
   refine t_U 1 ?_
   refine ab_ 2 ?_
   refine t_U 3 ?_
   refine ay_ 81 (fun hc12 => ?_) fun hc12 => ?_
   ·refine t_U 1 ?_
    refine a3_ 3 (fun hb11 hb11e y18 hy18 hl_hb11 => ?_)
    refine t_U 1 ?_
    refine aJ_ 3 0 hl_hb11 hy18 ?_
    refine t_U 2 ?_
    refine ay_ 87 (fun hc13 => ?_) fun hc13 => ?_
    ·refine t_N ?_
     refine t_cT rfl ?_
     refine t_RU 1 ?_
     refine a3_ 3 (fun hb12 hb12e y19 hy19 hl_hb12 => ?_)
     refine aJ_ 3 0 hl_hb12 hy19 ?_
     refine af_ 1 ?_
     refine t_N ?_
     exact k_eW (rC 0 rN) E_DPattern_p
    refine t_U 1 ?_
    refine a3_ 3 (fun hb13 hb13e y20 hy20 hl_hb13 => ?_)
    refine t_U 1 ?_
    refine aJ_ 3 0 hl_hb13 hy20 ?_
    refine t_N ?_
    refine t_if (fun hc14 => ?_) fun hc14 => ?_
    ·refine t_RU 1 ?_
     refine a3_ 3 (fun hb14 hb14e y21 hy21 hl_hb14 => ?_)
     refine aJ_ 3 0 hl_hb14 hy21 ?_
     refine af_ 1 ?_
     refine t_N ?_
     exact k_eW (rC 0 rN) E_DPattern_p
    refine t_RU 2 ?_
    refine bI_ 2 ht4 ?_
    refine t_N ?_
    refine t_R ?_
    refine ab_ 0 ?_
    refine af_ 2 ?_ (h1 := by simp [ht4.1, ht4.2])
    refine t_N ?_
    intro h s σ hS hH
    obtain rfl := si_1 h
    exact hZ_ hH (ce_ (v := .agg [i4 a0.Kind, i4 a0.Num, .str a0.Text, t4]) hS hH rfl (by kernel_rfl) r_nil) (FzL.agg (FzL.leaf rfl (FzL.leaf rfl (FzL.leaf rfl (FzL.flt (x := y1) 3 hH rfl FzL.nil)))) FzL.nil) (by simp [pureT, pureL, E_DPattern])
   refine t_N ?_
   refine t_cF ff_ne ?_
   refine t_RU 2 ?_
   refine bI_ 2 ht4 ?_
   refine t_N ?_
   refine t_R ?_
   refine ab_ 0 ?_
   refine af_ 2 ?_ (h1 := by simp [ht4.1, ht4.2])
   refine t_N ?_
   intro h s σ hS hH
   obtain rfl := si_1 h
   exact hZ_ hH (ce_ (v := .agg [i4 a0.Kind, i4 a0.Num, .str a0.Text, t4]) hS hH rfl (by kernel_rfl) r_nil) (FzL.agg (FzL.leaf rfl (FzL.leaf rfl (FzL.leaf rfl (FzL.flt (x := y1) 3 hH rfl FzL.nil)))) FzL.nil) (by simp [pureT, pureL, E_DPattern])
  refine t_N ?_
  refine t_cF ff_ne ?_
  refine t_RU 1 ?_
  refine ab_ 2 ?_
  refine t_U 2 ?_
  refine ay_ 76 (fun hc15 => ?_) fun hc15 => ?_
  ·refine t_U 6 ?_
   refine a3_ 3 (fun hb15 hb15e y22 hy22 hl_hb15 => ?_)
   refine t_U 1 ?_
   refine aJ_ 3 0 hl_hb15 hy22 ?_
   refine t_U 2 ?_
   refine ay_ 87 (fun hc16 => ?_) fun hc16 => ?_
   ·refine t_N ?_
    refine t_cT rfl ?_
    refine t_RU 1 ?_
    refine a3_ 3 (fun hb16 hb16e y23 hy23 hl_hb16 => ?_)
    refine aJ_ 3 0 hl_hb16 hy23 ?_
    refine af_ 1 ?_
    refine t_N ?_
    exact k_eW (rC 0 rN) E_DPattern_p
   refine t_U 1 ?_
   refine a3_ 3 (fun hb17 hb17e y24 hy24 hl_hb17 => ?_)
   refine t_U 1 ?_
   refine aJ_ 3 0 hl_hb17 hy24 ?_
   refine t_N ?_
   refine t_if (fun hc17 => ?_) fun hc17 => ?_
   ·refine t_RU 1 ?_
    refine a3_ 3 (fun hb18 hb18e y25 hy25 hl_hb18 => ?_)
    refine aJ_ 3 0 hl_hb18 hy25 ?_
    refine af_ 1 ?_
    refine t_N ?_
    exact k_eW (rC 0 rN) E_DPattern_p
   refine t_RU 2 ?_
   refine bI_ 2 ht4 ?_
   refine t_N ?_
   refine t_R ?_
   refine ab_ 0 ?_
   refine af_ 2 ?_ (h1 := by simp [ht4.1, ht4.2])
   refine t_N ?_
   intro h s σ hS hH
   obtain rfl := si_1 h
   exact hZ_ hH (ce_ (v := .agg [i4 a0.Kind, i4 a0.Num, .str a0.Text, t4]) hS hH rfl (by kernel_rfl) r_nil) (FzL.agg (FzL.leaf rfl (FzL.leaf rfl (FzL.leaf rfl (FzL.flt (x := y1) 3 hH rfl FzL.nil)))) FzL.nil) (by simp [pureT, pureL, E_DPattern])
  refine t_U 1 ?_
  refine ab_ 2 ?_
  refine t_U 3 ?_
  refine ay_ 81 (fun hc18 => ?_) fun hc18 => ?_
  ·refine t_U 1 ?_
   refine a3_ 3 (fun hb19 hb19e y26 hy26 hl_hb19 => ?_)
   refine t_U 1 ?_
   refine aJ_ 3 0 hl_hb19 hy26 ?_
   refine t_U 2 ?_
   refine ay_ 87 (fun hc19 => ?_) fun hc19 => ?_
   ·refine t_N ?_
    refine t_cT rfl ?_
    refine t_RU 1 ?_
    refine a3_ 3 (fun hb20 hb20e y27 hy27 hl_hb20 => ?_)
    refine aJ_ 3 0 hl_hb20 hy27 ?_
    refine af_ 1 ?_
    refine t_N ?_
    exact k_eW (rC 0 rN) E_DPattern_p
   refine t_U 1 ?_
   refine a3_ 3 (fun hb21 hb21e y28 hy28 hl_hb21 => ?_)
   refine t_U 1 ?_
   refine aJ_ 3 0 hl_hb21 hy28 ?_
   refine t_N ?_
   refine t_if (fun hc20 => ?_) fun hc20 => ?_
   ·refine t_RU 1 ?_
    refine a3_ 3 (fun hb22 hb22e y29 hy29 hl_hb22 => ?_)
    refine aJ_ 3 0 hl_hb22 hy29 ?_
    refine af_ 1 ?_
    refine t_N ?_
    exact k_eW (rC 0 rN) E_DPattern_p
   refine t_RU 2 ?_
   refine bI_ 2 ht4 ?_
   refine t_N ?_
   refine t_R ?_
   refine ab_ 0 ?_
   refine af_ 2 ?_ (h1 := by simp [ht4.1, ht4.2])
   refine t_N ?_
   intro h s σ hS hH
   obtain rfl := si_1 h
   exact hZ_ hH (ce_ (v := .agg [i4 a0.Kind, i4 a0.Num, .str a0.Text, t4]) hS hH rfl (by kernel_rfl) r_nil) (FzL.agg (FzL.leaf rfl (FzL.leaf rfl (FzL.leaf rfl (FzL.flt (x := y1) 3 hH rfl FzL.nil)))) FzL.nil) (by simp [pureT, pureL, E_DPattern])
  refine t_N ?_
  refine t_cF ff_ne ?_
  refine t_RU 2 ?_
  refine bI_ 2 ht4 ?_
  refine t_N ?_
  refine t_R ?_
  refine ab_ 0 ?_
  refine af_ 2 ?_ (h1 := by simp [ht4.1, ht4.2])
  refine t_N ?_
  intro h s σ hS hH
  obtain rfl := si_1 h
  exact hZ_ hH (ce_ (v := .agg [i4 a0.Kind, i4 a0.Num, .str a0.Text, t4]) hS hH rfl (by kernel_rfl) r_nil) (FzL.agg (FzL.leaf rfl (FzL.leaf rfl (FzL.leaf rfl (FzL.flt (x := y1) 3 hH rfl FzL.nil)))) FzL.nil) (by simp [pureT, pureL, E_DPattern])
 refine t_N ?_
 refine t_cF ff_ne ?_
 refine t_RU 1 ?_
 refine ab_ 2 ?_
 refine t_N ?_
 refine t_if (fun hc21 => ?_) fun hc21 => ?_
 ·refine bD_ [(7, RN)] ext_x fun mb σs hn0 hlt hlto => ?_
  refine t_U 1 ?_
  refine a3_ 3 (fun hb23 hb23e y30 hy30 hl_hb23 => ?_) (hlt := by exact (fun _ _ _ _ _ => Or.inl (by kernel_rfl)))
  refine aJ_ 3 0 hl_hb23 hy30 ?_ (hlt := by exact (fun _ _ _ _ _ => Or.inl (by kernel_rfl)))
  refine t_U 1 ?_
  refine a3_ 3 (fun hb24 hb24e y31 hy31 hl_hb24 => ?_) (hlt := by exact (fun _ _ _ _ _ => Or.inl (by kernel_rfl)))
  refine aJ_ 3 0 hl_hb24 hy31 ?_ (hlt := by exact (fun _ _ _ _ _ => Or.inl (by kernel_rfl)))
  refine an_ fun y32 hy32 => ?_
  refine af_ 1 ?_ (hwr := by exact fun hH => Or.inr ⟨7, by kernel_rfl, fun h => h⟩)
  refine t_N ?_
  exact k_eW (rC 0 rN) E_DPattern_p
 refine t_RU 1 ?_
 refine ab_ 2 ?_
 refine t_N ?_
 refine t_if (fun hc22 => ?_) fun hc22 => ?_
 ·refine bD_ [(7, RN)] ext_x fun mb σs hn0 hlt hlto => ?_
  refine t_U 1 ?_
  refine a3_ 3 (fun hb25 hb25e y33 hy33 hl_hb25 => ?_) (hlt := by exact (fun _ _ _ _ _ => Or.inl (by kernel_rfl)))
  refine aJ_ 3 0 hl_hb25 hy33 ?_ (hlt := by exact (fun _ _ _ _ _ => Or.inl (by kernel_rfl)))
  refine t_U 1 ?_
  refine a3_ 3 (fun hb26 hb26e y34 hy34 hl_hb26 => ?_) (hlt := by exact (fun _ _ _ _ _ => Or.inl (by kernel_rfl)))
  refine aJ_ 3 0 hl_hb26 hy34 ?_ (hlt := by exact (fun _ _ _ _ _ => Or.inl (by kernel_rfl)))
  refine an_ fun y35 hy35 => ?_
  refine af_ 1 ?_ (hwr := by exact fun hH => Or.inr ⟨7, by kernel_rfl, fun h => h⟩)
  refine t_N ?_
  exact k_eW (rC 0 rN) E_DPattern_p
 refine t_RU 1 ?_
 refine ab_ 2 ?_
 refine t_U 2 ?_
 refine ay_ 58 (fun hc23 => ?_) fun hc23 => ?_
 ·refine t_U 1 ?_
  refine a3_ 3 (fun hb27 hb27e y36 hy36 hl_hb27 => ?_)
  refine t_U 1 ?_
  refine aJ_ 3 0 hl_hb27 hy36 ?_
  refine t_U 2 ?_
  refine ay_ 64 (fun hc24 => ?_) fun hc24 => ?_
  ·refine t_N ?_
   refine t_cT rfl ?_
   refine t_R ?_
   refine ab_ 0 ?_
   refine af_ 1 ?_
   refine t_N ?_
   exact k_eW (rC 0 rN) E_DPattern_p
  refine t_U 1 ?_
  refine a3_ 3 (fun hb28 hb28e y37 hy37 hl_hb28 => ?_)
  refine aJ_ 3 0 hl_hb28 hy37 ?_
  refine an_ fun y38 hy38 => ?_
  refine t_N ?_
  refine t_if (fun hc25 => ?_) fun hc25 => ?_
  ·refine t_R ?_
   refine ab_ 0 ?_
   refine af_ 1 ?_
   refine t_N ?_
   exact k_eW (rC 0 rN) E_DPattern_p
  refine t_RU 1 ?_
  refine ab_ 2 ?_
  refine t_U 2 ?_
  refine ay_ 76 (fun hc26 => ?_) fun hc26 => ?_
  ·refine t_U 6 ?_
   refine a3_ 3 (fun hb29 hb29e y39 hy39 hl_hb29 => ?_)
   refine t_U 1 ?_
   refine aJ_ 3 0 hl_hb29 hy39 ?_
   refine t_U 2 ?_
   refine ay_ 87 (fun hc27 => ?_) fun hc27 => ?_
   ·refine t_N ?_
    refine t_cT rfl ?_
    refine t_RU 1 ?_
    refine a3_ 3 (fun hb30 hb30e y40 hy40 hl_hb30 => ?_)
    refine aJ_ 3 0 hl_hb30 hy40 ?_
    refine af_ 1 ?_
    refine t_N ?_
    exact k_eW (rC 0 rN) E_DPattern_p
   refine t_U 1 ?_
   refine a3_ 3 (fun hb31 hb31e y41 hy41 hl_hb31 => ?_)
   refine t_U 1 ?_
   refine aJ_ 3 0 hl_hb31 hy41 ?_
   refine t_N ?_
   refine t_if (fun hc28 => ?_) fun hc28 => ?_
   ·refine t_RU 1 ?_
    refine a3_ 3 (fun hb32 hb32e y42 hy42 hl_hb32 => ?_)
    refine aJ_ 3 0 hl_hb32 hy42 ?_
    refine af_ 1 ?_
    refine t_N ?_
    exact k_eW (rC 0 rN) E_DPattern_p
   refine t_RU 2 ?_
   refine bI_ 2 ht4 ?_
   refine t_N ?_
   refine t_R ?_
   refine ab_ 0 ?_
   refine af_ 2 ?_ (h1 := by simp [ht4.1, ht4.2])
   refine t_N ?_
   intro h s σ hS hH
   obtain rfl := si_1 h
   exact hZ_ hH (ce_ (v := .agg [i4 a0.Kind, i4 a0.Num, .str a0.Text, t4]) hS hH rfl (by kernel_rfl) r_nil) (FzL.agg (FzL.leaf rfl (FzL.leaf rfl (FzL.leaf rfl (FzL.flt (x := y1) 3 hH rfl FzL.nil)))) FzL.nil) (by simp [pureT, pureL, E_DPattern])
  refine t_U 1 ?_
  refine ab_ 2 ?_
  refine t_U 3 ?_
  refine ay_ 81 (fun hc29 => ?_) fun hc29 => ?_
  ·refine t_U 1 ?_
   refine a3_ 3 (fun hb33 hb33e y43 hy43 hl_hb33 => ?_)
   refine t_U 1 ?_
   refine aJ_ 3 0 hl_hb33 hy43 ?_
   refine t_U 2 ?_
   refine ay_ 87 (fun hc30 => ?_) fun hc30 => ?_
   ·refine t_N ?_
    refine t_cT rfl ?_
    refine t_RU 1 ?_
    refine a3_ 3 (fun hb34 hb34e y44 hy44 hl_hb34 => ?_)
    refine aJ_ 3 0 hl_hb34 hy44 ?_
    refine af_ 1 ?_
    refine t_N ?_
    exact k_eW (rC 0 rN) E_DPattern_p
   refine t_U 1 ?_
   refine a3_ 3 (fun hb35 hb35e y45 hy45 hl_hb35 => ?_)
   refine t_U 1 ?_
   refine aJ_ 3 0 hl_hb35 hy45 ?_
   refine t_N ?_
   refine t_if (fun hc31 => ?_) fun hc31 => ?_
   ·refine t_RU 1 ?_
    refine a3_ 3 (fun hb36 hb36e y46 hy46 hl_hb36 => ?_)
    refine aJ_ 3 0 hl_hb36 hy46 ?_
    refine af_ 1 ?_
    refine t_N ?_
    exact k_eW (rC 0 rN) E_DPattern_p
   refine t_RU 2 ?_
   refine bI_ 2 ht4 ?_
   refine t_N ?_
   refine t_R ?_
   refine ab_ 0 ?_
   refine af_ 2 ?_ (h1 := by simp [ht4.1, ht4.2])
   refine t_N ?_
   intro h s σ hS hH
   obtain rfl := si_1 h
   exact hZ_ hH (ce_ (v := .agg [i4 a0.Kind, i4 a0.Num, .str a0.Text, t4]) hS hH rfl (by kernel_rfl) r_nil) (FzL.agg (FzL.leaf rfl (FzL.leaf rfl (FzL.leaf rfl (FzL.flt (x := y1) 3 hH rfl FzL.nil)))) FzL.nil) (by simp [pureT, pureL, E_DPattern])
  refine t_N ?_
  refine t_cF ff_ne ?_
  refine t_RU 2 ?_
  refine bI_ 2 ht4 ?_
  refine t_N ?_
  refine t_R ?_
  refine ab_ 0 ?_
  refine af_ 2 ?_ (h1 := by simp [ht4.1, ht4.2])
  refine t_N ?_
  intro h s σ hS hH
  obtain rfl := si_1 h
  exact hZ_ hH (ce_ (v := .agg [i4 a0.Kind, i4 a0.Num, .str a0.Text, t4]) hS hH rfl (by kernel_rfl) r_nil) (FzL.agg (FzL.leaf rfl (FzL.leaf rfl (FzL.leaf rfl (FzL.flt (x := y1) 3 hH rfl FzL.nil)))) FzL.nil) (by simp [pureT, pureL, E_DPattern])
 refine t_N ?_
 refine t_cF ff_ne ?_
 refine t_RU 1 ?_
 refine ab_ 2 ?_
 refine t_U 2 ?_
 refine ay_ 76 (fun hc32 => ?_) fun hc32 => ?_
 ·refine t_U 6 ?_
  refine a3_ 3 (fun hb37 hb37e y47 hy47 hl_hb37 => ?_)
  refine t_U 1 ?_
  refine aJ_ 3 0 hl_hb37 hy47 ?_
  refine t_U 2 ?_
  refine ay_ 87 (fun hc33 => ?_) fun hc33 => ?_
  ·refine t_N ?_
   refine t_cT rfl ?_
   refine t_RU 1 ?_
   refine a3_ 3 (fun hb38 hb38e y48 hy48 hl_hb38 => ?_)
   refine aJ_ 3 0 hl_hb38 hy48 ?_
   refine af_ 1 ?_
   refine t_N ?_
   exact k_eW (rC 0 rN) E_DPattern_p
  refine t_U 1 ?_
  refine a3_ 3 (fun hb39 hb39e y49 hy49 hl_hb39 => ?_)
  refine t_U 1 ?_
  refine aJ_ 3 0 hl_hb39 hy49 ?_
  refine t_N ?_
  refine t_if (fun hc34 => ?_) fun hc34 => ?_
  ·refine t_RU 1 ?_
   refine a3_ 3 (fun hb40 hb40e y50 hy50 hl_hb40 => ?_)
   refine aJ_ 3 0 hl_hb40 hy50 ?_
   refine af_ 1 ?_
   refine t_N ?_
   exact k_eW (rC 0 rN) E_DPattern_p
  refine t_RU 2 ?_
  refine bI_ 2 ht4 ?_
  refine t_N ?_
  refine t_R ?_
  refine ab_ 0 ?_
  refine af_ 2 ?_ (h1 := by simp [ht4.1, ht4.2])
  refine t_N ?_
  intro h s σ hS hH
  obtain rfl := si_1 h
  exact hZ_ hH (ce_ (v := .agg [i4 a0.Kind, i4 a0.Num, .str a0.Text, t4]) hS hH rfl (by kernel_rfl) r_nil) (FzL.agg (FzL.leaf rfl (FzL.leaf rfl (FzL.leaf rfl (FzL.flt (x := y1) 3 hH rfl FzL.nil)))) FzL.nil) (by simp [pureT, pureL, E_DPattern])
 refine t_U 1 ?_
 refine ab_ 2 ?_
 refine t_U 3 ?_
 refine ay_ 81 (fun hc35 => ?_) fun hc35 => ?_
 ·refine t_U 1 ?_
  refine a3_ 3 (fun hb41 hb41e y51 hy51 hl_hb41 => ?_)
  refine t_U 1 ?_
  refine aJ_ 3 0 hl_hb41 hy51 ?_
  refine t_U 2 ?_
  refine ay_ 87 (fun hc36 => ?_) fun hc36 => ?_
  ·refine t_N ?_
   refine t_cT rfl ?_
   refine t_RU 1 ?_
   refine a3_ 3 (fun hb42 hb42e y52 hy52 hl_hb42 => ?_)
   refine aJ_ 3 0 hl_hb42 hy52 ?_
   refine af_ 1 ?_
   refine t_N ?_
   exact k_eW (rC 0 rN) E_DPattern_p
  refine t_U 1 ?_
  refine a3_ 3 (fun hb43 hb43e y53 hy53 hl_hb43 => ?_)
  refine t_U 1 ?_
  refine aJ_ 3 0 hl_hb43 hy53 ?_
  refine t_N ?_
  refine t_if (fun hc37 => ?_) fun hc37 => ?_
  ·refine t_RU 1 ?_
   refine a3_ 3 (fun hb44 hb44e y54 hy54 hl_hb44 => ?_)
   refine aJ_ 3 0 hl_hb44 hy54 ?_
   refine af_ 1 ?_
   refine t_N ?_
   exact k_eW (rC 0 rN) E_DPattern_p
  refine t_RU 2 ?_
  refine bI_ 2 ht4 ?_
  refine t_N ?_
  refine t_R ?_
  refine ab_ 0 ?_
  refine af_ 2 ?_ (h1 := by simp [ht4.1, ht4.2])
  refine t_N ?_
  intro h s σ hS hH
  obtain rfl := si_1 h
  exact hZ_ hH (ce_ (v := .agg [i4 a0.Kind, i4 a0.Num, .str a0.Text, t4]) hS hH rfl (by kernel_rfl) r_nil) (FzL.agg (FzL.leaf rfl (FzL.leaf rfl (FzL.leaf rfl (FzL.flt (x := y1) 3 hH rfl FzL.nil)))) FzL.nil) (by simp [pureT, pureL, E_DPattern])
 refine t_N ?_
 refine t_cF ff_ne ?_
 refine t_RU 2 ?_
 refine bI_ 2 ht4 ?_
 refine t_N ?_
 refine t_R ?_
 refine ab_ 0 ?_
 refine af_ 2 ?_ (h1 := by simp [ht4.1, ht4.2])
 refine t_N ?_
 intro h s σ hS hH
 obtain rfl := si_1 h
 exact hZ_ hH (ce_ (v := .agg [i4 a0.Kind, i4 a0.Num, .str a0.Text, t4]) hS hH rfl (by kernel_rfl) r_nil) (FzL.agg (FzL.leaf rfl (FzL.leaf rfl (FzL.leaf rfl (FzL.flt (x := y1) 3 hH rfl FzL.nil)))) FzL.nil) (by simp [pureT, pureL, E_DPattern])
noncomputable def g1_ (a0 : Int) (a1 : ByteArray) (a2 : (Sl DPattern)) : Option DPattern := (some (⟨a0, 0, a1, a2⟩ : DPattern))
theorem kd_ (a0 : Int) (a1 : ByteArray) (a2 : (Sl DPattern)) (r : DPattern) (h : g1_ a0 a1 a2 = some r) : ft_ a0 a1 a2 = some r := by
 unfold g1_ at h
 refine k_W ok_97 E_DPattern_inj h (fun σ0 => ?_)
 refine t_R ?_
 refine a2_ fun b1 => ?_
 refine t_N ?_
 refine t_RU 4 ?_
 refine af_ 0 ?_
 refine t_N ?_
 exact k_eW (rC 0 rN) E_DPattern_p
noncomputable def bQ_ (a0 : DPattern) (a1 : Int) : Option Int := (if (decide (60 < (w4 (a1 + 1)))) = true then (some 61) else ((du_ a0.Kind a0.Num a0.Text).bind fun y1 => (if (!y1) = true then (some 61) else ((fv_ a0.Kind).bind fun y2 => (if (!decide ((a0.Kids.l.length : Int) = y2)) = true then (some 61) else ((az_ (S := (Int × Int)) (R := Int) (fun st1 => (if (decide (st1.2 < (a0.Kids.l.length : Int))) = true then ((elt a0.Kids st1.2).bind fun y4 => ((aB_ y4 st1.1).bind fun y5 => (if (decide (60 < y5)) = true then (some (.inr y5)) else (some (.inl (y5, (w4 (st1.2 + 1)))))))) else (some (.inr st1.1)))) ((w4 (a1 + 1)), 0)).bind fun y3 => (some y3)))))))
theorem em_ (a0 : DPattern) (a1 : Int) (r : Int) (h : bQ_ a0 a1 = some r) : aB_ a0 a1 = some r := by
 unfold bQ_ at h
 refine k_W ok_99 E_i64_inj h (fun σ0 => ?_)
 refine t_R ?_
 refine cm_ (fun b1 => ?_)
 refine t_N ?_
 refine t_RN ?_
 refine t_D fun mb => ?_
 refine t_U 3 ?_
 refine ay_ 11 (fun hc1 => ?_) fun hc1 => ?_
 ·refine t_N ?_
  refine t_cT rfl ?_
  refine t_RN ?_
  exact k_eW (rT rN) E_i64_p
 refine t_U 1 ?_
 refine ab_ 0 ?_
 refine t_U 1 ?_
 refine ab_ 0 ?_
 refine t_U 1 ?_
 refine ab_ 0 ?_
 refine an_ fun y1 hy1 => ?_
 refine t_U 3 ?_
 refine ay_ 21 (fun hc2 => ?_) fun hc2 => ?_
 ·refine t_N ?_
  refine t_cT rfl ?_
  refine t_RN ?_
  exact k_eW (rT rN) E_i64_p
 refine t_U 1 ?_
 refine ab_ 0 ?_
 refine t_U 2 ?_
 refine ab_ 0 ?_
 refine an_ fun y2 hy2 => ?_
 refine t_N ?_
 refine t_if (fun hc3 => ?_) fun hc3 => ?_
 ·refine t_RN ?_
  exact k_eW (rT rN) E_i64_p
 refine t_RU 1 ?_
 refine ab_ 0 ?_
 refine t_N ?_
 refine bv_ (fun st1 fr => Sub [(1, i4 st1.1), (31, a0.Kids.t), (32, i4 (a0.Kids.l.length : Int)), (33, i4 st1.2)] fr.s ∧ Heap σ0 fr.σ []) (fun y3 e fr => e = (.exit 0) ∧ Sub [(1, i4 y3)] fr.s ∧ Heap σ0 fr.σ []) (fun hS hH => ⟨(ad_ hS (by kernel_rfl)), (Heap.sel hH [] rfl (by kernel_rfl))⟩) (fun st1 x fr h HI => ?_) fun y3 e fr h HF => ?_
 ·obtain ⟨s, σ⟩ := fr; obtain ⟨hS, hH⟩ := HI
  refine t_bk h hS hH ?_
  refine t_RN ?_
  refine t_if (fun hc4 => ?_) fun hc4 => ?_
  ·refine t_R ?_
   refine cA_ fun y4 rest1 hy4 => ?_
   refine t_U 1 ?_
   refine a2_ fun b2 => ?_
   refine af_ 0 ?_
   refine t_N ?_
   refine t_R ?_
   refine ab_ 0 ?_
   refine t_U 1 ?_
   refine an_ fun y5 hy5 => ?_
   refine t_N ?_
   refine t_RN ?_
   refine t_if (fun hc5 => ?_) fun hc5 => ?_
   ·exact t_e fun he hS hH => he ▸ ⟨rfl, (ad_ hS (by kernel_rfl)), (Heap.sel hH [] rfl (by kernel_rfl))⟩
   refine t_RN ?_
   exact t_e fun he hS hH => he ▸ ⟨(ad_ hS (by kernel_rfl)), (Heap.sel hH [] rfl (by kernel_rfl))⟩
  exact t_e fun he hS hH => he ▸ ⟨rfl, (ad_ hS (by kernel_rfl)), hH⟩
 obtain ⟨s, σ⟩ := fr
 obtain ⟨rfl, hS, hH⟩ := HF
 refine t_bx h hS hH ?_
 refine t_RN ?_
 exact k_eW (rT rN) E_i64_p
noncomputable def fE_ (a0 : Int) (a1 : Int) (a2 : Int) : Option Bool := (if (decide (a1 ≤ a0)) = true then (some (decide (a0 ≤ a2))) else (some false))
theorem ke_ (a0 : Int) (a1 : Int) (a2 : Int) (r : Bool) (h : fE_ a0 a1 a2 = some r) : b3_ a0 a1 a2 = some r := by
 unfold fE_ at h
 refine k_W ok_103 E_bool_inj h (fun σ0 => ?_)
 refine t_RN ?_
 refine t_RU 4 ?_
 refine ay_ 10 (fun hc1 => ?_) fun hc1 => ?_
 ·refine t_N ?_
  exact k_eW (rT rN) E_bool_p
 refine t_N ?_
 exact k_eW (rT rN) E_bool_p
noncomputable def dK_ (a0 : DPattern) : Option DPattern := ((az_ (S := (Int × (Sl DPattern))) (R := (Sl DPattern)) (fun st1 => (if (decide (st1.1 < (a0.Kids.l.length : Int))) = true then ((elt a0.Kids st1.1).bind fun y2 => ((aR_ y2).bind fun y3 => ((appS 56 st1.2 (⟨false, [y3]⟩ : Sl DPattern)).bind fun y4 => (some (.inl ((w4 (st1.1 + 1)), y4)))))) else (some (.inr st1.2)))) (0, (⟨true, []⟩ : Sl DPattern))).bind fun y1 => (some (⟨a0.Kind, a0.Num, a0.Text, y1⟩ : DPattern)))
theorem gx_ (a0 : DPattern) (r : DPattern) (h : dK_ a0 = some r) : aR_ a0 = some r := by
 unfold dK_ at h
 refine k_O ok_108 h (fun σ0 => ?_)
 refine t_R ?_
 refine cm_ (fun b1 => ?_)
 refine a2_ fun b2 => ?_
 refine t_N ?_
 refine t_RU 1 ?_
 refine ab_ 1 ?_
 refine t_U 1 ?_
 refine ab_ 1 ?_
 refine t_U 1 ?_
 refine ab_ 1 ?_
 refine t_U 1 ?_
 refine a2_ fun b3 => ?_
 refine af_ 0 ?_
 refine t_N ?_
 refine t_RN ?_
 refine t_h (Heap.addNil · true 4) ?_
 refine bv_ (fun st1 fr => ∃ t2, ar_ t2 ∧ Sub [(1, .ptr b1 0 0 4), (2, .ptr b2 0 0 4), (3, .ptr b3 0 0 4), (4, i4 st1.1)] fr.s ∧ Heap σ0 fr.σ [.box b3 [i4 a0.Kind, i4 a0.Num, .str a0.Text, t2], .box b2 [i4 0, i4 0, .str ⟨#[]⟩, (nt DPattern)], .box b1 [i4 a0.Kind, i4 a0.Num, .str a0.Text, a0.Kids.t], .own true 4 t2 st1.2.t]) (fun y1 e fr => ∃ t3, ar_ t3 ∧ e = (.exit 0) ∧ Sub [(2, .ptr b2 0 0 4), (3, .ptr b3 0 0 4)] fr.s ∧ Heap σ0 fr.σ [.box b3 [i4 a0.Kind, i4 a0.Num, .str a0.Text, t3], .box b2 [i4 0, i4 0, .str ⟨#[]⟩, (nt DPattern)], .own true 4 t3 y1.t]) (fun hS hH => ⟨(T.row true 0 []), ⟨rfl, rfl⟩, (ad_ hS (by kernel_rfl)), (Heap.sel hH [1, 2, 3, 0] rfl (by kernel_rfl))⟩) (fun st1 x fr h HI => ?_) fun y1 e fr h HF => ?_
 ·obtain ⟨s, σ⟩ := fr; obtain ⟨t2, ht2, ⟨hS, hH⟩⟩ := HI
  refine t_bk h hS hH ?_
  refine t_RU 2 ?_
  refine ab_ 2 ?_
  refine t_N ?_
  refine t_if (fun hc1 => ?_) fun hc1 => ?_
  ·refine bD_ [(9, RN), (11, RN)] ext_x fun mb σs hn0 hlt hlto => ?_
   have hlt_b3 : b3 < mb := hlt b3 _ (List.Mem.head _)
   refine t_U 1 ?_
   refine ab_ 0 ?_ (hlt := by exact (Or.inr ⟨hlt_b3, (Wc.cons (.inl (by kernel_rfl)) (Wc.cons (.inl (by kernel_rfl)) Wc.nil))⟩))
   refine t_U 1 ?_
   refine ab_ 2 ?_ (hlt := by exact (Or.inl (by kernel_rfl)))
   refine t_U 1 ?_
   refine cA_ fun y2 rest1 hy2 => ?_
   refine t_U 1 ?_
   refine gh_ (fun y3 t4 hy3 ht4 => ?_)
   refine k_bs (z := true) (⟨false, [y3]⟩ : Sl DPattern) (fun t5 ht5 => ?_) (hb := by exact hn0) (h1 := by simp [ht4.1, ht4.2])
   refine n9_ 4 0 (fun y4 t6 hy4 ht6 => ?_) (hb := by exact hn0) (hwr := by exact fun hH b e o n h0 => Or.inr ⟨9, by kernel_rfl, fun h => h⟩)
   refine t_U 1 ?_
   refine bI_ 1 ht6 ?_ (hwr := by exact fun hH => Or.inr ⟨11, by kernel_rfl, fun h => h⟩)
   refine t_N ?_
   refine t_RN ?_
   exact t_e fun he hS hH => he ▸ ⟨t6, ht6, (ad_ hS (by kernel_rfl)), (Heap.sel hH [0, 2, 3, 1] rfl (by kernel_rfl))⟩
  exact t_e fun he hS hH => he ▸ ⟨t2, ht2, rfl, (ad_ hS (by kernel_rfl)), (Heap.sel hH [0, 1, 3] rfl (by kernel_rfl))⟩
 obtain ⟨s, σ⟩ := fr
 obtain ⟨t3, ht3, ⟨rfl, hS, hH⟩⟩ := HF
 refine t_bx h hS hH ?_
 refine t_R ?_
 refine ab_ 0 ?_
 refine af_ 1 ?_ (h1 := by simp [ht3.1, ht3.2])
 refine t_N ?_
 refine t_h Heap.up2 ?_
 exact k_eO [t3] (rC 1 rN)
noncomputable def e3_ (a0 : Int) : Option (Int × ByteArray) := (if (decide (a0 = 1)) = true then (some (0, ⟨#[115]⟩)) else ((gA_ a0).bind fun y1 => ((az_ (S := (Int × ByteArray × Int)) (R := (Int × ByteArray)) (fun st1 => (if (decide (st1.2.2 < (y1.2.size : Int))) = true then ((aP_ y1.2 st1.2.2).bind fun y3 => (if (decide (y3 = 112)) = true then (some (.inl ((w4 (st1.1 + 1)), st1.2.1, (w4 (st1.2.2 + 1))))) else ((subB y1.2 st1.2.2 (w4 (st1.2.2 + 1))).bind fun y4 => ((catB st1.2.1 y4).bind fun y5 => (some (.inl (st1.1, y5, (w4 (st1.2.2 + 1))))))))) else (some (.inr (st1.1, st1.2.1))))) (0, ⟨#[]⟩, 0)).bind fun y2 => (some (y2.1, y2.2)))))
theorem gy_ (a0 : Int) (r : (Int × ByteArray)) (h : e3_ a0 = some r) : cr_ a0 = some r := by
 unfold e3_ at h
 refine k_W ok_112 E_t2_i64_str_inj h (fun σ0 => ?_)
 refine t_RN ?_
 refine t_RN ?_
 refine t_if (fun hc1 => ?_) fun hc1 => ?_
 ·refine t_RN ?_
  exact k_eW (rT (rT rN)) E_t2_i64_str_p
 refine t_RU 1 ?_
 refine an_ fun y1 hy1 => ?_
 refine t_N ?_
 refine t_RN ?_
 refine t_RN ?_
 refine t_RN ?_
 refine bv_ (fun st1 fr => Sub [(5, .str y1.2), (6, i4 st1.1), (7, .str st1.2.1), (8, i4 st1.2.2)] fr.s ∧ Heap σ0 fr.σ []) (fun y2 e fr => e = (.exit 0) ∧ Sub [(6, i4 y2.1), (7, .str y2.2)] fr.s ∧ Heap σ0 fr.σ []) (fun hS hH => ⟨(ad_ hS (by kernel_rfl)), hH⟩) (fun st1 x fr h HI => ?_) fun y2 e fr h HF => ?_
 ·obtain ⟨s, σ⟩ := fr; obtain ⟨hS, hH⟩ := HI
  refine t_bk h hS hH ?_
  refine t_RN ?_
  refine t_if (fun hc2 => ?_) fun hc2 => ?_
  ·refine t_RU 2 ?_
   refine dP_ fun y3 hy3 => ?_
   refine t_N ?_
   refine t_if (fun hc3 => ?_) fun hc3 => ?_
   ·refine t_RN ?_
    refine t_RN ?_
    exact t_e fun he hS hH => he ▸ ⟨(ad_ hS (by kernel_rfl)), hH⟩
   refine t_RU 5 ?_
   refine lk_ fun y4 hy4 => ?_
   refine nk_ fun y5 hy5 => ?_
   refine t_N ?_
   refine t_RN ?_
   exact t_e fun he hS hH => he ▸ ⟨(ad_ hS (by kernel_rfl)), hH⟩
  exact t_e fun he hS hH => he ▸ ⟨rfl, (ad_ hS (by kernel_rfl)), hH⟩
 obtain ⟨s, σ⟩ := fr
 obtain ⟨rfl, hS, hH⟩ := HF
 refine t_bx h hS hH ?_
 refine t_RN ?_
 exact k_eW (rT (rT rN)) E_t2_i64_str_p
noncomputable def cE_ (a0 : DPattern) (a1 : Int) : Option Int := (if (decide (a1 < 1)) = true then (some (-1)) else ((e4_ a0).bind fun y1 => (if (!y1) = true then (some (-1)) else ((az_ (S := (Int × Int)) (R := (Int ⊕ Int)) (fun st1 => (if (decide (st1.2 < (a0.Kids.l.length : Int))) = true then ((elt a0.Kids st1.2).bind fun y3 => ((aV_ y3 (w4 (a1 - st1.1))).bind fun y4 => (if (decide (y4 < 0)) = true then (some (.inr (.inr (-1)))) else (some (.inl ((w4 (st1.1 + y4)), (w4 (st1.2 + 1)))))))) else (some (.inr (.inl st1.1))))) (1, 0)).bind fun y2 => (Sum.elim (fun y2 => (some y2)) (fun y2 => (some y2)) y2)))))
theorem f0_ (a0 : DPattern) (a1 : Int) (r : Int) (h : cE_ a0 a1 = some r) : aV_ a0 a1 = some r := by
 unfold cE_ at h
 refine k_W ok_120 E_i64_inj h (fun σ0 => ?_)
 refine t_R ?_
 refine cm_ (fun b1 => ?_)
 refine t_N ?_
 refine t_RU 3 ?_
 refine ay_ 10 (fun hc1 => ?_) fun hc1 => ?_
 ·refine t_N ?_
  refine t_cT rfl ?_
  refine t_RN ?_
  exact k_eW (rT rN) E_i64_p
 refine ab_ 0 ?_
 refine an_ fun y1 hy1 => ?_
 refine t_N ?_
 refine t_if (fun hc2 => ?_) fun hc2 => ?_
 ·refine t_RN ?_
  exact k_eW (rT rN) E_i64_p
 refine t_RN ?_
 refine t_RN ?_
 refine bv_ (fun st1 fr => Sub [(1, i4 a1), (2, .ptr b1 0 0 4), (5, i4 st1.1), (6, i4 st1.2)] fr.s ∧ Heap σ0 fr.σ [.box b1 [i4 a0.Kind, i4 a0.Num, .str a0.Text, a0.Kids.t]]) (fun y2 e fr => (Sum.elim (fun y => e = (.exit 0) ∧ Sub [(5, i4 y)] fr.s ∧ Heap σ0 fr.σ []) (fun y => e = .ret ∧ endW Try.prog (Try.f120.results.toList) σ0 (E_i64 y) .ret fr)) y2) (fun hS hH => ⟨(ad_ hS (by kernel_rfl)), hH⟩) (fun st1 x fr h HI => ?_) fun y2 e fr h HF => ?_
 ·obtain ⟨s, σ⟩ := fr; obtain ⟨hS, hH⟩ := HI
  refine t_bk h hS hH ?_
  refine t_RU 2 ?_
  refine ab_ 0 ?_
  refine t_N ?_
  refine t_if (fun hc3 => ?_) fun hc3 => ?_
  ·refine t_RU 1 ?_
   refine ab_ 0 ?_
   refine t_U 1 ?_
   refine cA_ fun y3 rest1 hy3 => ?_
   refine t_U 4 ?_
   refine an_ fun y4 hy4 => ?_
   refine t_N ?_
   refine t_RN ?_
   refine t_if (fun hc4 => ?_) fun hc4 => ?_
   ·refine t_RN ?_
    exact t_e fun he hS hH => he ▸ ⟨rfl, (eW hS hH (rT rN) E_i64_p)⟩
   refine t_RN ?_
   refine t_RN ?_
   exact t_e fun he hS hH => he ▸ ⟨(ad_ hS (by kernel_rfl)), hH⟩
  exact t_e fun he hS hH => he ▸ ⟨rfl, (ad_ hS (by kernel_rfl)), (Heap.sel hH [] rfl (by kernel_rfl))⟩
 obtain ⟨s, σ⟩ := fr
 rcases y2 with y2 | y2
 ·have h := el_l h
  obtain ⟨rfl, hS, hH⟩ := HF
  refine t_bx h hS hH ?_
  refine t_RN ?_
  exact k_eW (rT rN) E_i64_p
 have h := el_r h
 obtain ⟨rfl, HE⟩ := HF
 obtain rfl := si_1 h; exact HE
noncomputable def ep_ (a0 : (Sl DNamed)) : Option Bool := (if (decide (40 < (a0.l.length : Int))) = true then (some false) else ((cX_ a0 (T.fn 142 [] [])).bind fun y1 => (if (!y1) = true then (some false) else ((az_ (S := Int) (R := (Unit ⊕ Bool)) (fun st1 => (if (decide (st1 < (a0.l.length : Int))) = true then ((elt a0 st1).bind fun y3 => ((subS a0 0 st1).bind fun y4 => ((eb_ y4 y3.Name).bind fun y5 => (if y5.2 = true then (some (.inr (.inr false))) else (some (.inl (w4 (st1 + 1)))))))) else (some (.inr (.inl ()))))) 0).bind fun y2 => (Sum.elim (fun y2 => (some true)) (fun y2 => (some y2)) y2)))))
theorem iU_ (a0 : (Sl DNamed)) (r : Bool) (h : ep_ a0 = some r) : es_ a0 = some r := by
 unfold ep_ at h
 refine k_W ok_122 E_bool_inj h (fun σ0 => ?_)
 refine t_RN ?_
 refine t_RU 4 ?_
 refine ay_ 10 (fun hc1 => ?_) fun hc1 => ?_
 ·refine t_N ?_
  refine t_cT rfl ?_
  refine t_RN ?_
  exact k_eW (rT rN) E_bool_p
 refine t_U 1 ?_
 refine an_ fun y1 hy1 => ?_
 refine t_N ?_
 refine t_if (fun hc2 => ?_) fun hc2 => ?_
 ·refine t_RN ?_
  exact k_eW (rT rN) E_bool_p
 refine t_RN ?_
 refine bv_ (fun st1 fr => Sub [(0, a0.t), (15, a0.t), (16, i4 (a0.l.length : Int)), (17, i4 st1)] fr.s ∧ Heap σ0 fr.σ []) (fun y2 e fr => (Sum.elim (fun y => e = (.exit 0) ∧ Sub [] fr.s ∧ Heap σ0 fr.σ []) (fun y => e = .ret ∧ endW Try.prog (Try.f122.results.toList) σ0 (E_bool y) .ret fr)) y2) (fun hS hH => ⟨(ad_ hS (by kernel_rfl)), hH⟩) (fun st1 x fr h HI => ?_) fun y2 e fr h HF => ?_
 ·obtain ⟨s, σ⟩ := fr; obtain ⟨hS, hH⟩ := HI
  refine t_bk h hS hH ?_
  refine t_RN ?_
  refine t_if (fun hc3 => ?_) fun hc3 => ?_
  ·refine t_RU 1 ?_
   refine cA_ fun y3 rest1 hy3 => ?_
   refine t_U 1 ?_
   refine a2_ fun b1 => ?_
   refine t_U 1 ?_
   refine af_ 0 ?_
   refine t_N ?_
   refine bD_ [(10, RN)] ext_x fun mb σs hn0 hlt hlto => ?_
   refine t_U 2 ?_
   refine tH_ fun y4 hy4 => ?_
   refine t_U 1 ?_
   refine ab_ 0 ?_ (hlt := by exact (Or.inl (by kernel_rfl)))
   refine an_ fun y5 hy5 => ?_
   refine t_U 3 ?_
   refine kt_ (by exact hn0) fun b2 hwr_b2 => ?_
   refine af_ 0 ?_ (hwr := by exact fun _ => Or.inl hwr_b2)
   refine t_N ?_
   refine t_RN ?_
   refine t_if (fun hc4 => ?_) fun hc4 => ?_
   ·refine t_RN ?_
    exact t_e fun he hS hH => he ▸ ⟨rfl, (eW hS hH (rT rN) E_bool_p)⟩
   refine t_RN ?_
   exact t_e fun he hS hH => he ▸ ⟨(ad_ hS (by kernel_rfl)), (Heap.sel hH [] rfl (by kernel_rfl))⟩
  exact t_e fun he hS hH => he ▸ ⟨rfl, (ad_ hS (by kernel_rfl)), hH⟩
 obtain ⟨s, σ⟩ := fr
 rcases y2 with y2 | y2
 ·have h := el_l h
  obtain ⟨rfl, hS, hH⟩ := HF
  refine t_bx h hS hH ?_
  refine t_RN ?_
  exact k_eW (rT rN) E_bool_p
 have h := el_r h
 obtain ⟨rfl, HE⟩ := HF
 obtain rfl := si_1 h; exact HE
noncomputable def fT_ (a0 : Int) (a1 : Int) (a2 : Int) : Option Bool := (if (decide (a1 ≤ a0)) = true then (some (decide (a0 ≤ a2))) else (some false))
theorem k4_ (a0 : Int) (a1 : Int) (a2 : Int) (r : Bool) (h : fT_ a0 a1 a2 = some r) : c2_ a0 a1 a2 = some r := by
 unfold fT_ at h
 refine k_W ok_128 E_bool_inj h (fun σ0 => ?_)
 refine t_RN ?_
 refine t_RU 4 ?_
 refine ay_ 10 (fun hc1 => ?_) fun hc1 => ?_
 ·refine t_N ?_
  exact k_eW (rT rN) E_bool_p
 refine t_N ?_
 exact k_eW (rT rN) E_bool_p
noncomputable def bS_ (a0 : (Sl DCapture)) (a1 : (Sl DCapture)) : Option Bool := (if ((!decide ((a0.l.length : Int) = (a1.l.length : Int)))) = true then (some false) else ((az_ (S := Int) (R := (Unit ⊕ Bool)) (fun st1 => (if (decide (st1 < (a0.l.length : Int))) = true then ((elt a0 st1).bind fun y2 => ((elt a1 st1).bind fun y3 => (if ((!(decide (y2.Name = y3.Name) && (decide (y2.Text = y3.Text) && (decide (y2.Cursor = y3.Cursor) && (decide (y2.Kind = y3.Kind) && true)))))) = true then (some (.inr (.inr false))) else (some (.inl (w4 (st1 + 1))))))) else (some (.inr (.inl ()))))) 0).bind fun y1 => (Sum.elim (fun y1 => (some true)) (fun y1 => (some y1)) y1)))
theorem dq_ (a0 : (Sl DCapture)) (a1 : (Sl DCapture)) (r : Bool) (h : bS_ a0 a1 = some r) : bR_ a0 a1 = some r := by
 unfold bS_ at h
 refine k_W ok_131 E_bool_inj h (fun σ0 => ?_)
 refine t_RN ?_
 refine t_RN ?_
 refine t_if (fun hc1 => ?_) fun hc1 => ?_
 ·refine t_RN ?_
  exact k_eW (rT rN) E_bool_p
 refine t_RN ?_
 refine bv_ (fun st1 fr => Sub [(0, a0.t), (1, a1.t), (12, i4 (a0.l.length : Int)), (13, i4 st1)] fr.s ∧ Heap σ0 fr.σ []) (fun y1 e fr => (Sum.elim (fun y => e = (.exit 0) ∧ Sub [] fr.s ∧ Heap σ0 fr.σ []) (fun y => e = .ret ∧ endW Try.prog (Try.f131.results.toList) σ0 (E_bool y) .ret fr)) y1) (fun hS hH => ⟨(ad_ hS (by kernel_rfl)), hH⟩) (fun st1 x fr h HI => ?_) fun y1 e fr h HF => ?_
 ·obtain ⟨s, σ⟩ := fr; obtain ⟨hS, hH⟩ := HI
  refine t_bk h hS hH ?_
  refine t_RN ?_
  refine t_if (fun hc2 => ?_) fun hc2 => ?_
  ·refine t_RN ?_
   refine t_D fun mb => ?_
   refine t_U 2 ?_
   refine cA_ fun y2 rest1 hy2 => ?_
   refine t_U 3 ?_
   refine cA_ fun y3 rest2 hy3 => ?_
   refine t_U 1 ?_
   intro h s σ hS hH
   refine vl_ (xs := [.str y2.Name, .str y2.Text, i4 y2.Cursor, i4 y2.Kind]) (ys := [.str y3.Name, .str y3.Text, i4 y3.Cursor, i4 y3.Kind]) (v := (decide (y2.Name = y3.Name) && (decide (y2.Text = y3.Text) && (decide (y2.Cursor = y3.Cursor) && (decide (y2.Kind = y3.Kind) && true))))) rfl hS rfl rfl (by kernel_rfl) (by kernel_rfl) ?_; intro s hS
   refine t_bk h hS hH ?_
   refine t_N ?_
   refine t_if (fun hc3 => ?_) fun hc3 => ?_
   ·refine t_RN ?_
    exact t_e fun he hS hH => he ▸ ⟨rfl, (eW hS hH (rT rN) E_bool_p)⟩
   refine t_RN ?_
   exact t_e fun he hS hH => he ▸ ⟨(ad_ hS (by kernel_rfl)), hH⟩
  exact t_e fun he hS hH => he ▸ ⟨rfl, (ad_ hS (by kernel_rfl)), hH⟩
 obtain ⟨s, σ⟩ := fr
 rcases y1 with y1 | y1
 ·have h := el_l h
  obtain ⟨rfl, hS, hH⟩ := HF
  refine t_bx h hS hH ?_
  refine t_RN ?_
  exact k_eW (rT rN) E_bool_p
 have h := el_r h
 obtain ⟨rfl, HE⟩ := HF
 obtain rfl := si_1 h; exact HE
noncomputable def a8_ (a0 : DPattern) : Option Bool := (if (decide (a0.Kind = 1)) = true then (some (decide (a0.Text = (⟨#[]⟩ : ByteArray)))) else (some false))
theorem cv_ (a0 : DPattern) (r : Bool) (h : a8_ a0 = some r) : aw_ a0 = some r := by
 unfold a8_ at h
 refine k_W ok_132 E_bool_inj h (fun σ0 => ?_)
 refine t_R ?_
 refine cm_ (fun b1 => ?_)
 refine t_N ?_
 refine t_RU 1 ?_
 refine ab_ 0 ?_
 refine t_U 2 ?_
 refine ay_ 6 (fun hc1 => ?_) fun hc1 => ?_
 ·refine t_U 1 ?_
  refine ab_ 0 ?_
  refine t_N ?_
  exact k_eW (rT rN) E_bool_p
 refine t_N ?_
 exact k_eW (rT rN) E_bool_p
noncomputable def bC_ (a0 : DPattern) (a1 : DPattern) : Option DPattern := (if (decide (a0.Kind = 16)) = true then (some a1) else (if (decide (a1.Kind = 16)) = true then (some a0) else (if (decide (a0.Kind = 15)) = true then (some a0) else (if (decide (a0.Kind = 18)) = true then ((elt a0.Kids 0).bind fun y1 => ((elt a0.Kids 1).bind fun y2 => ((bZ_ y2 a1).bind fun y3 => ((bZ_ y1 y3).bind fun y4 => (some y4))))) else (some (⟨18, 0, ⟨#[]⟩, ⟨false, [a0, a1]⟩⟩ : DPattern))))))
theorem cl_ (a0 : DPattern) (a1 : DPattern) (r : DPattern) (h : bC_ a0 a1 = some r) : bZ_ a0 a1 = some r := by
 unfold bC_ at h
 refine k_W ok_133 E_DPattern_inj h (fun σ0 => ?_)
 refine t_R ?_
 refine cm_ (fun b1 => ?_)
 refine cm_ (fun b2 => ?_)
 refine a2_ fun b3 => ?_
 refine t_N ?_
 refine t_RU 1 ?_
 refine ab_ 2 ?_
 refine t_N ?_
 refine t_if (fun hc1 => ?_) fun hc1 => ?_
 ·refine t_R ?_
  refine ab_ 1 ?_
  refine af_ 0 ?_
  refine t_N ?_
  exact k_eW (rC 0 rN) E_DPattern_p
 refine t_RU 1 ?_
 refine ab_ 1 ?_
 refine t_U 2 ?_
 refine ay_ 14 (fun hc2 => ?_) fun hc2 => ?_
 ·refine t_N ?_
  refine t_cT rfl ?_
  refine t_R ?_
  refine ab_ 2 ?_
  refine af_ 0 ?_
  refine t_N ?_
  exact k_eW (rC 0 rN) E_DPattern_p
 refine t_U 1 ?_
 refine ab_ 2 ?_
 refine t_N ?_
 refine t_if (fun hc3 => ?_) fun hc3 => ?_
 ·refine t_R ?_
  refine ab_ 2 ?_
  refine af_ 0 ?_
  refine t_N ?_
  exact k_eW (rC 0 rN) E_DPattern_p
 refine t_RU 1 ?_
 refine ab_ 2 ?_
 refine t_N ?_
 refine t_if (fun hc4 => ?_) fun hc4 => ?_
 ·refine bD_ [(11, RN)] ext_x fun mb σs hn0 hlt hlto => ?_
  have hlt_b1 : b1 < mb := hlt b1 _ (List.Mem.tail _ (List.Mem.tail _ (List.Mem.head _)))
  refine t_U 1 ?_
  refine ab_ 2 ?_ (hlt := by exact (Or.inr ⟨hlt_b1, (Wc.cons (.inl (by kernel_rfl)) Wc.nil)⟩))
  refine cA_ fun y1 rest1 hy1 => ?_
  refine t_U 2 ?_
  refine ab_ 2 ?_ (hlt := by exact (Or.inl (by kernel_rfl)))
  refine cA_ fun y2 rest2 hy2 => ?_
  refine t_U 1 ?_
  refine ab_ 1 ?_ (hlt := by exact (Or.inl (by kernel_rfl)))
  refine an_ fun y3 hy3 => ?_
  refine an_ fun y4 hy4 => ?_
  refine af_ 0 ?_ (hwr := by exact fun hH => Or.inr ⟨11, by kernel_rfl, fun h => h⟩)
  refine t_N ?_
  exact k_eW (rC 0 rN) E_DPattern_p
 refine t_R ?_
 refine ab_ 2 ?_
 refine ab_ 1 ?_
 refine k_bs (z := false) (⟨false, [a0, a1]⟩ : Sl DPattern) (fun t1 ht1 => ?_)
 intro h s σ hS hH
 refine iV_ (qs := [(0, i4 18), (3, t1)]) (z := [i4 0, i4 0, .str ⟨#[]⟩, (nt DPattern)]) (r := [i4 18, i4 0, .str ⟨#[]⟩, t1]) [[i4 18], [t1]] rfl hS rfl (by kernel_rfl) (by kernel_rfl) (⟨rfl, (by kernel_rfl), (by simp [ht1.1, ht1.2]), (by simp [ht1.1, ht1.2]), trivial⟩) (by kernel_rfl) ?_; intro s hS
 refine t_bk h hS hH ?_
 refine af_ 1 ?_ (h1 := by simp [ht1.1, ht1.2])
 refine t_N ?_
 intro h s σ hS hH
 obtain rfl := si_1 h
 have hH := hH.up1
 exact md_ (ents := [.own false 4 t1 (Sl.t (⟨false, [a0, a1]⟩ : Sl DPattern))]) (z := false) hH (ce_ (v := .agg [i4 18, i4 0, .str ⟨#[]⟩, t1]) hS (hH.at 1 rfl) rfl (by kernel_rfl) r_nil) (HL.agg (es1 := [.own false 4 t1 (Sl.t (⟨false, [a0, a1]⟩ : Sl DPattern))]) (es2 := []) (HLi (HLi (HLs (HL.own rfl HL.nil)))) HL.nil) (by simp [pureT, pureL, E_DPattern])
end Go.Am
