/- Functions of the program. -/
import Derived.Test.YtkgmfmcpbgffpaaAd0
set_option maxRecDepth 100000
set_option maxHeartbeats 4000000
set_option linter.unusedVariables false
set_option linter.unusedSimpArgs false
namespace Go.Am
open Go.Proofs
def a0_ (R : aa_ → DPattern → Int → (Int → aa_ → Option (Bool × aa_)) → Option (Bool × aa_)) : Prop := ∀ (a0 : aa_) (a1 : DPattern) (a2 : Int) (a3 : (Int → aa_ → Option (Bool × aa_))) (r : (Bool × aa_)), R a0 a1 a2 a3 = some r → ∀ (Fk : List Nat) (σq : St) (bp0 : Nat) (mq_bp0 : T) (mh_bp0 : isMp mq_bp0 = true) (p0_1 p0_2 p0_3 : T) (pp1 : T) (hp_pp1 : Pt Fk σq pp1 [i4 a1.Kind, i4 a1.Num, .str a1.Text, a1.Kids.t]) (th3 : T) (hone_th3 : ar_ th3) (ht_th3 : d3_ Try.prog md ext (aY_ bp0 mq_bp0) 3 th3 a3 Fk σq), RawS Try.prog md ext 123 [.ptr bp0 0 0 12, pp1, i4 a2, th3] 3 (fun hs => E_bool r.1) [.box bp0 [a0.env_.t, .str a0.subject_, i4 a0.fuel_, i4 a0.steps_, i4 a0.start_, p0_1, p0_2, p0_3, i4 a0.most_, .bool a0.isMere_, mq_bp0, i4 a0.code_], .flt 4 p0_1 a0.now_.t, .flt 4 p0_2 a0.conds_.t, .own true 3 p0_3 a0.matches_.t, .keep Fk σq] (fun hs => aY_ bp0 mq_bp0 r.2 hs ++ [.keep Fk σq])
def aM_ (R : aa_ → DPattern → Int → (Int → aa_ → Option (Bool × aa_)) → Option (Bool × aa_)) : Prop := ∀ (a0 : aa_) (a1 : DPattern) (a2 : Int) (a3 : (Int → aa_ → Option (Bool × aa_))) (r : (Bool × aa_)), R a0 a1 a2 a3 = some r → ∀ (Fk : List Nat) (σq : St) (bp0 : Nat) (mq_bp0 : T) (mh_bp0 : isMp mq_bp0 = true) (p0_1 p0_2 p0_3 : T) (pp1 : T) (hp_pp1 : Pt Fk σq pp1 [i4 a1.Kind, i4 a1.Num, .str a1.Text, a1.Kids.t]) (th3 : T) (hone_th3 : ar_ th3) (ht_th3 : d3_ Try.prog md ext (aY_ bp0 mq_bp0) 3 th3 a3 Fk σq), RawS Try.prog md ext 151 [.ptr bp0 0 0 12, pp1, i4 a2, th3] 3 (fun hs => E_bool r.1) [.box bp0 [a0.env_.t, .str a0.subject_, i4 a0.fuel_, i4 a0.steps_, i4 a0.start_, p0_1, p0_2, p0_3, i4 a0.most_, .bool a0.isMere_, mq_bp0, i4 a0.code_], .flt 4 p0_1 a0.now_.t, .flt 4 p0_2 a0.conds_.t, .own true 3 p0_3 a0.matches_.t, .keep Fk σq] (fun hs => aY_ bp0 mq_bp0 r.2 hs ++ [.keep Fk σq])
noncomputable def aC_ (R_123 : aa_ → DPattern → Int → (Int → aa_ → Option (Bool × aa_)) → Option (Bool × aa_)) (R_151 : aa_ → DPattern → Int → (Int → aa_ → Option (Bool × aa_)) → Option (Bool × aa_)) (q1 : DPattern) (q2 : (Int → aa_ → Option (Bool × aa_))) (a0 : Int) (aS : aa_) : Option (Bool × aa_) := ((elt q1.Kids 1).bind fun y1 => ((R_123 (⟨aS.env_, aS.subject_, aS.fuel_, aS.steps_, aS.start_, aS.now_, aS.conds_, aS.matches_, aS.most_, aS.isMere_, T.nilm, aS.code_⟩ : aa_) y1 a0 q2).bind fun y2 => (some (y2.1, (⟨y2.2.env_, y2.2.subject_, y2.2.fuel_, y2.2.steps_, y2.2.start_, y2.2.now_, y2.2.conds_, y2.2.matches_, y2.2.most_, y2.2.isMere_, T.nilm, y2.2.code_⟩ : aa_)))))
theorem eE_ (R_123 : aa_ → DPattern → Int → (Int → aa_ → Option (Bool × aa_)) → Option (Bool × aa_)) (R_151 : aa_ → DPattern → Int → (Int → aa_ → Option (Bool × aa_)) → Option (Bool × aa_)) (hR_123 : a0_ R_123) (hR_151 : aM_ R_151) (Fk : List Nat) (σq : St) (bs : Nat) (mq_bs : T) (mh_bs : isMp mq_bs = true) (q1 : DPattern) (q2 : (Int → aa_ → Option (Bool × aa_))) (x_0 : Nat) (hk_x_0 : Kb Fk σq x_0 [.ptr bs 0 0 12]) (x_1 : Nat) (pp_1 : T) (hp_pp_1 : Pt Fk σq pp_1 [i4 q1.Kind, i4 q1.Num, .str q1.Text, q1.Kids.t]) (hk_x_1 : Kb Fk σq x_1 [pp_1]) (x_2 : Nat) (th_2 : T) (hone_th_2 : ar_ th_2) (ht_th_2 : d3_ Try.prog md ext (aY_ bs mq_bs) 3 th_2 q2 Fk σq) (hk_x_2 : Kb Fk σq x_2 [th_2]) : d3_ Try.prog md ext (aY_ bs mq_bs) 3 (T.fn 173 [] [.ptr x_0 0 0 1, .ptr x_1 0 0 1, .ptr x_2 0 0 1]) (aC_ R_123 R_151 q1 q2) Fk σq := fun a0 aS r hs hl h => by
 obtain ⟨p_1, p_2, p_3, rfl⟩ := len3 hl
 refine ⟨173, [], [.ptr x_0 0 0 1, .ptr x_1 0 0 1, .ptr x_2 0 0 1], rfl, ?_⟩
 unfold aC_ at h
 refine cC_ (ents := [.box bs [aS.env_.t, .str aS.subject_, i4 aS.fuel_, i4 aS.steps_, i4 aS.start_, p_1, p_2, p_3, i4 aS.most_, .bool aS.isMere_, mq_bs, i4 aS.code_], .flt 4 p_1 aS.now_.t, .flt 4 p_2 aS.conds_.t, .own true 3 p_3 aS.matches_.t, .keep Fk σq]) rfl rfl ok_173 rfl ?_
 intro σ0 σ F σk s hS hH
 have hp_1 : ar_ p_1 := Heap.fltOne (hH.at 1 rfl)
 have hp_2 : ar_ p_2 := Heap.fltOne (hH.at 2 rfl)
 have hp_3 : ar_ p_3 := Heap.one (hH.at 3 rfl)
 have hmq_bs : ar_ mq_bs := gm_ mh_bs
 have hone_pp_1 : ar_ pp_1 := hp_pp_1.one
 have hS := ad_ (L' := [(0, i4 a0), (1, .ptr x_0 0 0 1), (2, .ptr x_1 0 0 1), (3, .ptr x_2 0 0 1)]) hS (by kernel_rfl)
 refine t_go h hS hH ?_
 refine t_RN ?_
 refine bD_ [(8, RN)] ext_x fun mb σs hn0 hlt hlto => ?_
 refine bA_ 4 hk_x_0 ?_ (hlt := Or.inl (by kernel_rfl))
 refine bA_ 4 hk_x_1 ?_ (hlt := Or.inl (by kernel_rfl))
 refine dy_ hp_pp_1 ?_
 refine b9_ hp_pp_1 ?_
 refine cJ_ 4 hp_pp_1 ?_ (hlt := fun _ => Or.inl (by kernel_rfl))
 refine cA_ fun y1 rest1 hy1 => ?_
 refine t_U 1 ?_
 refine bA_ 4 hk_x_2 ?_ (hlt := Or.inl (by kernel_rfl))
 refine gk_ RN ext_x Stay.nil (by exact fun x hx => Or.inr ⟨8, by kernel_rfl, hx⟩) (fun y2 hs hy2 hl => ?_) (hr := by exact fun y2 hy2 => hR_123 _ _ _ _ y2 hy2 Fk σq bs mq_bs mh_bs p_1 p_2 p_3 (.vw ([i4 y1.Kind, i4 y1.Num, .str y1.Text, y1.Kids.t] ++ rest1)) Pt.vw th_2 hone_th_2 ht_th_2)
 obtain ⟨t1, t2, t3, rfl⟩ := len3 hl
 refine cj_ ?_
 refine a7_ 1 fun ht1 => ?_
 refine a7_ 2 fun ht2 => ?_
 refine a7_ 3 fun ht3 => ?_
 refine t_N ?_
 intro h s σ hS hH
 obtain rfl := si_1 h
 exact bp_ [t1, t2, t3] (bE_ (v := .bool y2.1) hS rfl r_nil) rfl rfl hH
noncomputable def al_ (R_123 : aa_ → DPattern → Int → (Int → aa_ → Option (Bool × aa_)) → Option (Bool × aa_)) (R_151 : aa_ → DPattern → Int → (Int → aa_ → Option (Bool × aa_)) → Option (Bool × aa_)) (q0 : Int) (q2 : DPattern) (q3 : (Int → aa_ → Option (Bool × aa_))) (a0 : Int) (aS : aa_) : Option (Bool × aa_) := (if (decide (a0 = q0)) = true then (some (true, (⟨aS.env_, aS.subject_, aS.fuel_, aS.steps_, aS.start_, aS.now_, aS.conds_, aS.matches_, aS.most_, aS.isMere_, T.nilm, aS.code_⟩ : aa_))) else ((R_123 (⟨aS.env_, aS.subject_, aS.fuel_, aS.steps_, aS.start_, aS.now_, aS.conds_, aS.matches_, aS.most_, aS.isMere_, T.nilm, aS.code_⟩ : aa_) q2 a0 q3).bind fun y1 => (some (y1.1, (⟨y1.2.env_, y1.2.subject_, y1.2.fuel_, y1.2.steps_, y1.2.start_, y1.2.now_, y1.2.conds_, y1.2.matches_, y1.2.most_, y1.2.isMere_, T.nilm, y1.2.code_⟩ : aa_)))))
theorem eF_ (R_123 : aa_ → DPattern → Int → (Int → aa_ → Option (Bool × aa_)) → Option (Bool × aa_)) (R_151 : aa_ → DPattern → Int → (Int → aa_ → Option (Bool × aa_)) → Option (Bool × aa_)) (hR_123 : a0_ R_123) (hR_151 : aM_ R_151) (Fk : List Nat) (σq : St) (bs : Nat) (mq_bs : T) (mh_bs : isMp mq_bs = true) (q0 : Int) (q2 : DPattern) (q3 : (Int → aa_ → Option (Bool × aa_))) (x_0 : Nat) (hk_x_0 : Kb Fk σq x_0 [i4 q0]) (x_1 : Nat) (hk_x_1 : Kb Fk σq x_1 [.ptr bs 0 0 12]) (x_2 : Nat) (pp_2 : T) (hp_pp_2 : Pt Fk σq pp_2 [i4 q2.Kind, i4 q2.Num, .str q2.Text, q2.Kids.t]) (hk_x_2 : Kb Fk σq x_2 [pp_2]) (x_3 : Nat) (th_3 : T) (hone_th_3 : ar_ th_3) (ht_th_3 : d3_ Try.prog md ext (aY_ bs mq_bs) 3 th_3 q3 Fk σq) (hk_x_3 : Kb Fk σq x_3 [th_3]) : d3_ Try.prog md ext (aY_ bs mq_bs) 3 (T.fn 174 [] [.ptr x_0 0 0 1, .ptr x_1 0 0 1, .ptr x_2 0 0 1, .ptr x_3 0 0 1]) (al_ R_123 R_151 q0 q2 q3) Fk σq := fun a0 aS r hs hl h => by
 obtain ⟨p_1, p_2, p_3, rfl⟩ := len3 hl
 refine ⟨174, [], [.ptr x_0 0 0 1, .ptr x_1 0 0 1, .ptr x_2 0 0 1, .ptr x_3 0 0 1], rfl, ?_⟩
 unfold al_ at h
 refine cC_ (ents := [.box bs [aS.env_.t, .str aS.subject_, i4 aS.fuel_, i4 aS.steps_, i4 aS.start_, p_1, p_2, p_3, i4 aS.most_, .bool aS.isMere_, mq_bs, i4 aS.code_], .flt 4 p_1 aS.now_.t, .flt 4 p_2 aS.conds_.t, .own true 3 p_3 aS.matches_.t, .keep Fk σq]) rfl rfl ok_174 rfl ?_
 intro σ0 σ F σk s hS hH
 have hp_1 : ar_ p_1 := Heap.fltOne (hH.at 1 rfl)
 have hp_2 : ar_ p_2 := Heap.fltOne (hH.at 2 rfl)
 have hp_3 : ar_ p_3 := Heap.one (hH.at 3 rfl)
 have hmq_bs : ar_ mq_bs := gm_ mh_bs
 have hone_pp_2 : ar_ pp_2 := hp_pp_2.one
 have hS := ad_ (L' := [(0, i4 a0), (1, .ptr x_0 0 0 1), (2, .ptr x_1 0 0 1), (3, .ptr x_2 0 0 1), (4, .ptr x_3 0 0 1)]) hS (by kernel_rfl)
 refine t_go h hS hH ?_
 refine t_RN ?_
 refine t_RU 1 ?_
 refine bA_ 4 hk_x_0 ?_
 refine t_U 2 ?_
 refine ay_ 10 (fun hc1 => ?_) fun hc1 => ?_
 ·refine t_N ?_
  intro h s σ hS hH
  obtain rfl := si_1 h
  exact bp_ [p_1, p_2, p_3] (bE_ (v := .bool true) hS rfl r_nil) rfl rfl hH
 refine bA_ 4 hk_x_1 ?_
 refine bA_ 4 hk_x_2 ?_
 refine t_U 1 ?_
 refine bA_ 4 hk_x_3 ?_
 refine a1_ (fun y1 hs hy1 hl => ?_) (hr := by exact fun y1 hy1 => hR_123 _ _ _ _ y1 hy1 Fk σq bs mq_bs mh_bs p_1 p_2 p_3 pp_2 hp_pp_2 th_3 hone_th_3 ht_th_3)
 obtain ⟨t1, t2, t3, rfl⟩ := len3 hl
 refine cj_ ?_
 refine a7_ 1 fun ht1 => ?_
 refine a7_ 2 fun ht2 => ?_
 refine a7_ 3 fun ht3 => ?_
 refine t_N ?_
 intro h s σ hS hH
 obtain rfl := si_1 h
 exact bp_ [t1, t2, t3] (bE_ (v := .bool y1.1) hS rfl r_nil) rfl rfl hH
noncomputable def aq_ (R_123 : aa_ → DPattern → Int → (Int → aa_ → Option (Bool × aa_)) → Option (Bool × aa_)) (R_151 : aa_ → DPattern → Int → (Int → aa_ → Option (Bool × aa_)) → Option (Bool × aa_)) (q0 : DPattern) (q2 : Int) (q3 : (Int → aa_ → Option (Bool × aa_))) (a0 : Int) (aS : aa_) : Option (Bool × aa_) := ((subB aS.subject_ q2 a0).bind fun y1 => (if (decide (q0.Kind = 22)) = true then ((((appS 48 aS.now_ (⟨false, [(⟨q0.Text, y1, a0, 2⟩ : DCapture)]⟩ : Sl DCapture)).bind fun y3 => (if ((decide (100 < (w4 ((y3.l.length : Int) + (aS.conds_.l.length : Int)))))) = true then (some (false, 6, y3, (⟨true, []⟩ : Sl DMatch))) else (some (true, aS.code_, y3, aS.matches_)))) : Option ((Bool × Int × (Sl DCapture) × (Sl DMatch)))).bind fun y2 => (if y2.1 = true then ((q3 a0 (⟨aS.env_, aS.subject_, aS.fuel_, aS.steps_, aS.start_, y2.2.2.1, aS.conds_, y2.2.2.2, aS.most_, aS.isMere_, T.nilm, y2.2.1⟩ : aa_)).bind fun y4 => (some (y4.1, (⟨y4.2.env_, y4.2.subject_, y4.2.fuel_, y4.2.steps_, y4.2.start_, y4.2.now_, y4.2.conds_, y4.2.matches_, y4.2.most_, y4.2.isMere_, T.nilm, y4.2.code_⟩ : aa_)))) else (some (false, (⟨aS.env_, aS.subject_, aS.fuel_, aS.steps_, aS.start_, y2.2.2.1, aS.conds_, y2.2.2.2, aS.most_, aS.isMere_, T.nilm, y2.2.1⟩ : aa_))))) else ((((((appS 48 aS.conds_ (⟨false, [(⟨q0.Text, y1, a0, 1⟩ : DCapture)]⟩ : Sl DCapture)).bind fun y8 => (if ((decide (100 < (w4 ((aS.now_.l.length : Int) + (y8.l.length : Int)))))) = true then (some (false, 6, y8, (⟨true, []⟩ : Sl DMatch))) else (some (true, aS.code_, y8, aS.matches_)))) : Option ((Bool × Int × (Sl DCapture) × (Sl DMatch)))).bind fun y7 => (if y7.1 = true then ((q3 a0 (⟨aS.env_, aS.subject_, aS.fuel_, aS.steps_, aS.start_, aS.now_, y7.2.2.1, y7.2.2.2, aS.most_, aS.isMere_, T.nilm, y7.2.1⟩ : aa_)).bind fun y9 => (some (y9.1, y9.2.env_, y9.2.subject_, y9.2.fuel_, y9.2.steps_, y9.2.start_, y9.2.most_, y9.2.isMere_, y9.2.code_, y9.2.now_, y9.2.conds_, y9.2.matches_))) else (some (false, aS.env_, aS.subject_, aS.fuel_, aS.steps_, aS.start_, aS.most_, aS.isMere_, y7.2.1, aS.now_, y7.2.2.1, y7.2.2.2)))) : Option ((Bool × (Sl DNamed) × ByteArray × Int × Int × Int × Int × Bool × Int × (Sl DCapture) × (Sl DCapture) × (Sl DMatch)))).bind fun y5 => ((cutS y5.2.2.2.2.2.2.2.2.2.2.1 (aS.conds_.l.length : Int)).bind fun y6 => (some (y5.1, (⟨y5.2.1, y5.2.2.1, y5.2.2.2.1, y5.2.2.2.2.1, y5.2.2.2.2.2.1, y5.2.2.2.2.2.2.2.2.2.1, y6, y5.2.2.2.2.2.2.2.2.2.2.2, y5.2.2.2.2.2.2.1, y5.2.2.2.2.2.2.2.1, T.nilm, y5.2.2.2.2.2.2.2.2.1⟩ : aa_)))))))
theorem eD_ (R_123 : aa_ → DPattern → Int → (Int → aa_ → Option (Bool × aa_)) → Option (Bool × aa_)) (R_151 : aa_ → DPattern → Int → (Int → aa_ → Option (Bool × aa_)) → Option (Bool × aa_)) (hR_123 : a0_ R_123) (hR_151 : aM_ R_151) (Fk : List Nat) (σq : St) (bs : Nat) (mq_bs : T) (mh_bs : isMp mq_bs = true) (q0 : DPattern) (q2 : Int) (q3 : (Int → aa_ → Option (Bool × aa_))) (x_0 : Nat) (pp_0 : T) (hp_pp_0 : Pt Fk σq pp_0 [i4 q0.Kind, i4 q0.Num, .str q0.Text, q0.Kids.t]) (hk_x_0 : Kb Fk σq x_0 [pp_0]) (x_1 : Nat) (hk_x_1 : Kb Fk σq x_1 [.ptr bs 0 0 12]) (x_2 : Nat) (hk_x_2 : Kb Fk σq x_2 [i4 q2]) (x_3 : Nat) (th_3 : T) (hone_th_3 : ar_ th_3) (ht_th_3 : d3_ Try.prog md ext (aY_ bs mq_bs) 3 th_3 q3 Fk σq) (hk_x_3 : Kb Fk σq x_3 [th_3]) : d3_ Try.prog md ext (aY_ bs mq_bs) 3 (T.fn 175 [] [.ptr x_0 0 0 1, .ptr x_1 0 0 1, .ptr x_2 0 0 1, .ptr x_3 0 0 1]) (aq_ R_123 R_151 q0 q2 q3) Fk σq := fun a0 aS r hs hl h => by
 obtain ⟨p_1, p_2, p_3, rfl⟩ := len3 hl
 refine ⟨175, [], [.ptr x_0 0 0 1, .ptr x_1 0 0 1, .ptr x_2 0 0 1, .ptr x_3 0 0 1], rfl, ?_⟩
 unfold aq_ at h
 refine cC_ (ents := [.box bs [aS.env_.t, .str aS.subject_, i4 aS.fuel_, i4 aS.steps_, i4 aS.start_, p_1, p_2, p_3, i4 aS.most_, .bool aS.isMere_, mq_bs, i4 aS.code_], .flt 4 p_1 aS.now_.t, .flt 4 p_2 aS.conds_.t, .own true 3 p_3 aS.matches_.t, .keep Fk σq]) rfl rfl ok_175 rfl ?_
 intro σ0 σ F σk s hS hH
 have hp_1 : ar_ p_1 := Heap.fltOne (hH.at 1 rfl)
 have hp_2 : ar_ p_2 := Heap.fltOne (hH.at 2 rfl)
 have hp_3 : ar_ p_3 := Heap.one (hH.at 3 rfl)
 have hmq_bs : ar_ mq_bs := gm_ mh_bs
 have hone_pp_0 : ar_ pp_0 := hp_pp_0.one
 have hS := ad_ (L' := [(0, i4 a0), (1, .ptr x_0 0 0 1), (2, .ptr x_1 0 0 1), (3, .ptr x_2 0 0 1), (4, .ptr x_3 0 0 1)]) hS (by kernel_rfl)
 refine t_go h hS hH ?_
 refine t_RN ?_
 refine bD_ [(14, RN)] ext_x fun mb σs hn0 hlt hlto => ?_
 refine bA_ 4 hk_x_0 ?_ (hlt := Or.inl (by kernel_rfl))
 refine dy_ hp_pp_0 ?_
 refine b9_ hp_pp_0 ?_
 refine cJ_ 4 hp_pp_0 ?_ (hlt := fun _ => Or.inl (by kernel_rfl))
 refine bA_ 4 hk_x_1 ?_ (hlt := Or.inl (by kernel_rfl))
 refine t_U 2 ?_
 refine ab_ 0 ?_ (hlt := by exact (Or.inl (by kernel_rfl)))
 refine bA_ 4 hk_x_2 ?_ (hlt := Or.inl (by kernel_rfl))
 refine t_U 1 ?_
 refine lk_ fun y1 hy1 => ?_
 refine t_U 2 ?_
 refine kt_ (by exact hn0) fun b1 hwr_b1 => ?_
 refine af_ 0 ?_ (hwr := by exact fun _ => Or.inl hwr_b1)
 refine t_N ?_
 refine t_R ?_
 refine bA_ 5 hk_x_0 ?_
 refine dy_ hp_pp_0 ?_
 refine b9_ hp_pp_0 ?_
 refine cJ_ 5 hp_pp_0 ?_
 refine t_N ?_
 refine t_if (fun hc1 => ?_) fun hc1 => ?_
 ·refine bD_ [(5, RN), (9, RN)] ext_x fun mb σs hn0 hlt hlto => ?_
  refine bA_ 5 hk_x_1 ?_ (hlt := Or.inl (by kernel_rfl))
  refine bA_ 5 hk_x_1 ?_ (hlt := Or.inl (by kernel_rfl))
  refine t_U 2 ?_
  refine ab_ 0 ?_ (hlt := by exact (Or.inl (by kernel_rfl)))
  refine ow_ (fun y2 s σ => ∃ t1, ar_ t1 ∧ ∃ t2, ar_ t2 ∧ Sub [(0, i4 a0), (4, .ptr x_3 0 0 1), (33, .bool y2.1)] s ∧ Heap σ0 σ [.box bs [aS.env_.t, .str aS.subject_, i4 aS.fuel_, i4 aS.steps_, i4 aS.start_, t1, p_2, t2, i4 aS.most_, .bool aS.isMere_, mq_bs, i4 y2.2.1], .flt 4 t1 y2.2.2.1.t, .flt 4 p_2 aS.conds_.t, .own true 3 t2 y2.2.2.2.t, .keep Fk σq, .keep F σk]) ext_x RN (fun _ _ _ _ _ _ x hx => False.elim hx) (by exact fun x hx => Or.inr ⟨5, by kernel_rfl, hx⟩) ok_147 (fun y2 => ?_) fun y2 s σ HF h => ?_
  ·refine t_R ?_
   refine cm_ (fun b2 => ?_)
   refine t_N ?_
   refine bD_ [(6, RN), (8, RN)] ext_x fun mb σs hn0 hlt hlto => ?_
   refine t_U 3 ?_
   refine ab_ 2 ?_ (hlt := by exact (Or.inl (by kernel_rfl)))
   refine ab_ 0 ?_ (hlt := by exact (Or.inl (by kernel_rfl)))
   refine pQ_ (⟨false, [(⟨q0.Text, y1, a0, 2⟩ : DCapture)]⟩ : Sl DCapture) (fun t3 ht3 => ?_) (hb := by exact hn0)
   refine kv_ 4 (fun hH => ie_ (hH.at 0 rfl) (by kernel_rfl)) (fun y3 t4 hy3 ht4 => ?_) (hb := by exact hn0) (hwr := by exact fun hH b e o n h0 => Or.inr ⟨6, by kernel_rfl, fun h => h⟩)
   refine t_U 1 ?_
   refine bI_ 4 ht4 ?_ (hwr := by exact fun hH => Or.inr ⟨8, by kernel_rfl, fun h => h⟩)
   refine t_N ?_
   refine t_D fun mb => ?_
   refine t_U 3 ?_
   refine ab_ 0 ?_
   refine i5_ (a := y3) 1 ?_
   refine t_U 3 ?_
   refine ab_ 0 ?_
   refine i5_ (a := aS.conds_) 5 ?_
   refine t_N ?_
   refine t_if (fun hc2 => ?_) fun hc2 => ?_
   ·refine t_RU 1 ?_
    refine fP_ ok_150 ?_
    refine t_RN ?_
    refine t_RU 5 ?_
    refine a6_ 0 ?_
    refine t_U 2 ?_
    refine a6_ 0 ?_
    refine t_N ?_
    refine t_RN ?_
    refine k_eI (rT rN) ?_
    refine t_N ?_
    refine t_h (Heap.addNil · true 3) ?_
    exact fO_ (rT rN) fun he hS hH => he ▸ ⟨t4, ht4, (T.row true 0 []), ⟨rfl, rfl⟩, (ad_ hS (by kernel_rfl)), (Heap.sel hH [1, 2, 6, 0, 8, 9] rfl (by kernel_rfl))⟩
   refine t_RN ?_
   exact fO_ (rT rN) fun he hS hH => he ▸ ⟨t4, ht4, p_3, hp_3, (ad_ hS (by kernel_rfl)), (Heap.sel hH [0, 1, 5, 6, 7, 8] rfl (by kernel_rfl))⟩
  obtain ⟨t1, ht1, ⟨t2, ht2, ⟨hS, hH⟩⟩⟩ := HF
  refine t_bk h hS hH ?_
  refine t_U 1 ?_
  refine ay_ 34 (fun hc3 => ?_) fun hc3 => ?_
  ·refine bA_ 4 hk_x_3 ?_ (hlt := Or.inl (by kernel_rfl))
   refine t_U 1 ?_
   intro h s σ hS hH
   obtain ⟨y4, hy4, h⟩ := bind_some h
   refine ku_ ext_x rfl RN Stay.nil (by exact fun x hx => Or.inr ⟨9, by kernel_rfl, hx⟩) (es := [.keep F σk]) (S := (⟨aS.env_, aS.subject_, aS.fuel_, aS.steps_, aS.start_, y2.2.2.1, aS.conds_, y2.2.2.2, aS.most_, aS.isMere_, T.nilm, y2.2.1⟩ : aa_)) (hs := [t1, p_2, t2]) ht_th_3 rfl hy4 rfl hS rfl rfl hH ?_; intro hs σ s hl hH hS
   obtain ⟨t5, t6, t7, rfl⟩ := len3 hl
   have hH : Heap σ0 σ [.box bs [y4.2.env_.t, .str y4.2.subject_, i4 y4.2.fuel_, i4 y4.2.steps_, i4 y4.2.start_, t5, t6, t7, i4 y4.2.most_, .bool y4.2.isMere_, mq_bs, i4 y4.2.code_], .flt 4 t5 y4.2.now_.t, .flt 4 t6 y4.2.conds_.t, .own true 3 t7 y4.2.matches_.t, .keep Fk σq, .keep F σk] := hH
   refine t_bk h hS hH ?_
   refine a7_ 1 fun ht5 => ?_
   refine a7_ 2 fun ht6 => ?_
   refine a7_ 3 fun ht7 => ?_
   refine t_N ?_
   intro h s σ hS hH
   obtain rfl := si_1 h
   exact bp_ [t5, t6, t7] (bE_ (v := .bool y4.1) hS rfl r_nil) rfl rfl hH
  refine t_N ?_
  intro h s σ hS hH
  obtain rfl := si_1 h
  exact bp_ [t1, p_2, t2] (bE_ (v := .bool false) hS rfl r_nil) rfl rfl hH
 refine t_R ?_
 refine bA_ 5 hk_x_1 ?_
 refine t_U 2 ?_
 refine ab_ 1 ?_
 refine i5_ (a := aS.conds_) 3 ?_
 refine t_N ?_
 refine t_RU 1 ?_
 refine a6_ 0 ?_
 refine t_N ?_
 refine d4_ 0 (fun y5 e fr => ∃ t8, ar_ t8 ∧ ∃ t9, ar_ t9 ∧ ∃ t10, ar_ t10 ∧ e = .normal ∧ Sub [(2, .ptr x_1 0 0 1), (8, i4 (aS.conds_.l.length : Int)), (9, .bool y5.1)] fr.s ∧ Heap σ0 fr.σ [.box bs [y5.2.1.t, .str y5.2.2.1, i4 y5.2.2.2.1, i4 y5.2.2.2.2.1, i4 y5.2.2.2.2.2.1, t8, t9, t10, i4 y5.2.2.2.2.2.2.1, .bool y5.2.2.2.2.2.2.2.1, mq_bs, i4 y5.2.2.2.2.2.2.2.2.1], .flt 4 t8 y5.2.2.2.2.2.2.2.2.2.1.t, .flt 4 t9 y5.2.2.2.2.2.2.2.2.2.2.1.t, .own true 3 t10 y5.2.2.2.2.2.2.2.2.2.2.2.t, .keep Fk σq, .keep F σk]) (fun y5 e fr h HF => ?_) fun y5 => ?_
 ·obtain ⟨s, σ⟩ := fr
  obtain ⟨t8, ht8, ⟨t9, ht9, ⟨t10, ht10, ⟨rfl, hS, hH⟩⟩⟩⟩ := HF
  refine t_bx h hS hH ?_
  refine bD_ [(9, RN)] ext_x fun mb σs hn0 hlt hlto => ?_
  refine bA_ 4 hk_x_1 ?_ (hlt := Or.inl (by kernel_rfl))
  refine bA_ 4 hk_x_1 ?_ (hlt := Or.inl (by kernel_rfl))
  refine t_U 2 ?_
  refine ab_ 0 ?_ (hlt := by exact (Or.inl (by kernel_rfl)))
  refine t_U 1 ?_
  refine s7_ 2 (fun y6 t11 hy6 ht11 => ?_) (hlt := by exact (fun _ _ _ _ _ => Or.inl (by kernel_rfl)))
  refine t_U 2 ?_
  refine bI_ 1 ht11 ?_ (hwr := by exact fun hH => Or.inr ⟨9, by kernel_rfl, fun h => h⟩)
  refine t_N ?_
  refine t_RN ?_
  intro h s σ hS hH
  obtain rfl := si_1 h
  exact bp_ [t8, t11, t10] (bE_ (v := .bool y5.1) hS rfl r_nil) rfl rfl (Heap.sel hH [0, 2, 1, 3, 4, 5] rfl (by kernel_rfl))
 refine bD_ [(5, RN), (9, RN)] ext_x fun mb σs hn0 hlt hlto => ?_
 refine bA_ 5 hk_x_1 ?_ (hlt := Or.inl (by kernel_rfl))
 refine bA_ 5 hk_x_1 ?_ (hlt := Or.inl (by kernel_rfl))
 refine t_U 2 ?_
 refine ab_ 0 ?_ (hlt := by exact (Or.inl (by kernel_rfl)))
 refine ow_ (fun y7 s σ => ∃ t12, ar_ t12 ∧ ∃ t13, ar_ t13 ∧ Sub [(0, i4 a0), (2, .ptr x_1 0 0 1), (4, .ptr x_3 0 0 1), (8, i4 (aS.conds_.l.length : Int)), (50, .bool y7.1)] s ∧ Heap σ0 σ [.box bs [aS.env_.t, .str aS.subject_, i4 aS.fuel_, i4 aS.steps_, i4 aS.start_, p_1, t12, t13, i4 aS.most_, .bool aS.isMere_, mq_bs, i4 y7.2.1], .flt 4 p_1 aS.now_.t, .flt 4 t12 y7.2.2.1.t, .own true 3 t13 y7.2.2.2.t, .keep Fk σq, .keep F σk]) ext_x RN (fun _ _ _ _ _ _ x hx => False.elim hx) (by exact fun x hx => Or.inr ⟨5, by kernel_rfl, hx⟩) ok_147 (fun y7 => ?_) fun y7 s σ HF h => ?_
 ·refine t_R ?_
  refine cm_ (fun b3 => ?_)
  refine t_N ?_
  refine bD_ [(6, RN), (8, RN)] ext_x fun mb σs hn0 hlt hlto => ?_
  refine t_U 3 ?_
  refine ab_ 2 ?_ (hlt := by exact (Or.inl (by kernel_rfl)))
  refine ab_ 0 ?_ (hlt := by exact (Or.inl (by kernel_rfl)))
  refine pQ_ (⟨false, [(⟨q0.Text, y1, a0, 1⟩ : DCapture)]⟩ : Sl DCapture) (fun t14 ht14 => ?_) (hb := by exact hn0)
  refine kv_ 5 (fun hH => ie_ (hH.at 0 rfl) (by kernel_rfl)) (fun y8 t15 hy8 ht15 => ?_) (hb := by exact hn0) (hwr := by exact fun hH b e o n h0 => Or.inr ⟨6, by kernel_rfl, fun h => h⟩)
  refine t_U 1 ?_
  refine bI_ 4 ht15 ?_ (hwr := by exact fun hH => Or.inr ⟨8, by kernel_rfl, fun h => h⟩)
  refine t_N ?_
  refine t_D fun mb => ?_
  refine t_U 3 ?_
  refine ab_ 0 ?_
  refine i5_ (a := aS.now_) 5 ?_
  refine t_U 3 ?_
  refine ab_ 0 ?_
  refine i5_ (a := y8) 1 ?_
  refine t_N ?_
  refine t_if (fun hc4 => ?_) fun hc4 => ?_
  ·refine t_RU 1 ?_
   refine fP_ ok_150 ?_
   refine t_RN ?_
   refine t_RU 5 ?_
   refine a6_ 0 ?_
   refine t_U 2 ?_
   refine a6_ 0 ?_
   refine t_N ?_
   refine t_RN ?_
   refine k_eI (rT rN) ?_
   refine t_N ?_
   refine t_h (Heap.addNil · true 3) ?_
   exact fO_ (rT rN) fun he hS hH => he ▸ ⟨t15, ht15, (T.row true 0 []), ⟨rfl, rfl⟩, (ad_ hS (by kernel_rfl)), (Heap.sel hH [1, 6, 2, 0, 8, 9] rfl (by kernel_rfl))⟩
  refine t_RN ?_
  exact fO_ (rT rN) fun he hS hH => he ▸ ⟨t15, ht15, p_3, hp_3, (ad_ hS (by kernel_rfl)), (Heap.sel hH [0, 5, 1, 6, 7, 8] rfl (by kernel_rfl))⟩
 obtain ⟨t12, ht12, ⟨t13, ht13, ⟨hS, hH⟩⟩⟩ := HF
 refine t_bk h hS hH ?_
 refine t_U 1 ?_
 refine ay_ 51 (fun hc5 => ?_) fun hc5 => ?_
 ·refine bA_ 4 hk_x_3 ?_ (hlt := Or.inl (by kernel_rfl))
  refine t_U 1 ?_
  intro h s σ hS hH
  obtain ⟨y9, hy9, h⟩ := bind_some h
  refine ku_ ext_x rfl RN Stay.nil (by exact fun x hx => Or.inr ⟨9, by kernel_rfl, hx⟩) (es := [.keep F σk]) (S := (⟨aS.env_, aS.subject_, aS.fuel_, aS.steps_, aS.start_, aS.now_, y7.2.2.1, y7.2.2.2, aS.most_, aS.isMere_, T.nilm, y7.2.1⟩ : aa_)) (hs := [p_1, t12, t13]) ht_th_3 rfl hy9 rfl hS rfl rfl hH ?_; intro hs σ s hl hH hS
  obtain ⟨t16, t17, t18, rfl⟩ := len3 hl
  have hH : Heap σ0 σ [.box bs [y9.2.env_.t, .str y9.2.subject_, i4 y9.2.fuel_, i4 y9.2.steps_, i4 y9.2.start_, t16, t17, t18, i4 y9.2.most_, .bool y9.2.isMere_, mq_bs, i4 y9.2.code_], .flt 4 t16 y9.2.now_.t, .flt 4 t17 y9.2.conds_.t, .own true 3 t18 y9.2.matches_.t, .keep Fk σq, .keep F σk] := hH
  refine t_bk h hS hH ?_
  refine a7_ 1 fun ht16 => ?_
  refine a7_ 2 fun ht17 => ?_
  refine a7_ 3 fun ht18 => ?_
  refine t_N ?_
  exact t_e fun he hS hH => he ▸ ⟨t16, ht16, t17, ht17, t18, ht18, rfl, (ad_ hS (by kernel_rfl)), hH⟩
 refine t_N ?_
 exact t_e fun he hS hH => he ▸ ⟨p_1, hp_1, t12, ht12, t13, ht13, rfl, (ad_ hS (by kernel_rfl)), hH⟩
noncomputable def ac_ (R_123 : aa_ → DPattern → Int → (Int → aa_ → Option (Bool × aa_)) → Option (Bool × aa_)) (R_151 : aa_ → DPattern → Int → (Int → aa_ → Option (Bool × aa_)) → Option (Bool × aa_)) (a0 : aa_) (a1 : DPattern) (a2 : Int) (a3 : (Int → aa_ → Option (Bool × aa_))) : Option (Bool × aa_) := (((if (decide (a0.steps_ = a0.fuel_)) = true then (some (false, a0.steps_, 7, (⟨true, []⟩ : Sl DMatch))) else (some (true, (w4 (a0.steps_ + 1)), a0.code_, a0.matches_))) : Option (Bool × Int × Int × (Sl DMatch))).bind fun y1 => (if (!y1.1) = true then (some (false, (⟨a0.env_, a0.subject_, a0.fuel_, y1.2.1, a0.start_, a0.now_, a0.conds_, y1.2.2.2, a0.most_, a0.isMere_, T.nilm, y1.2.2.1⟩ : aa_))) else (if (decide (a1.Kind = 12)) = true then ((az_ (S := (Int × (Sl DNamed) × ByteArray × Int × Int × Int × Int × Bool × Int × (Sl DCapture) × (Sl DCapture) × (Sl DMatch))) (R := (((Sl DNamed) × ByteArray × Int × Int × Int × Int × Bool × Int × (Sl DCapture) × (Sl DCapture) × (Sl DMatch)) ⊕ (Bool × aa_))) (fun st1 => (if (decide (st1.1 ≤ (st1.2.2.1.size : Int))) = true then ((a3 st1.1 (⟨st1.2.1, st1.2.2.1, st1.2.2.2.1, st1.2.2.2.2.1, st1.2.2.2.2.2.1, st1.2.2.2.2.2.2.2.2.2.1, st1.2.2.2.2.2.2.2.2.2.2.1, st1.2.2.2.2.2.2.2.2.2.2.2, st1.2.2.2.2.2.2.1, st1.2.2.2.2.2.2.2.1, T.nilm, st1.2.2.2.2.2.2.2.2.1⟩ : aa_)).bind fun y3 => (if (!y3.1) = true then (some (.inr (.inr (false, (⟨y3.2.env_, y3.2.subject_, y3.2.fuel_, y3.2.steps_, y3.2.start_, y3.2.now_, y3.2.conds_, y3.2.matches_, y3.2.most_, y3.2.isMere_, T.nilm, y3.2.code_⟩ : aa_))))) else (some (.inl ((w4 (st1.1 + 1)), y3.2.env_, y3.2.subject_, y3.2.fuel_, y3.2.steps_, y3.2.start_, y3.2.most_, y3.2.isMere_, y3.2.code_, y3.2.now_, y3.2.conds_, y3.2.matches_))))) else (some (.inr (.inl (st1.2.1, st1.2.2.1, st1.2.2.2.1, st1.2.2.2.2.1, st1.2.2.2.2.2.1, st1.2.2.2.2.2.2.1, st1.2.2.2.2.2.2.2.1, st1.2.2.2.2.2.2.2.2.1, st1.2.2.2.2.2.2.2.2.2.1, st1.2.2.2.2.2.2.2.2.2.2.1, st1.2.2.2.2.2.2.2.2.2.2.2)))))) (a2, a0.env_, a0.subject_, a0.fuel_, y1.2.1, a0.start_, a0.most_, a0.isMere_, y1.2.2.1, a0.now_, a0.conds_, y1.2.2.2)).bind fun y2 => (Sum.elim (fun y2 => (some (true, (⟨y2.1, y2.2.1, y2.2.2.1, y2.2.2.2.1, y2.2.2.2.2.1, y2.2.2.2.2.2.2.2.2.1, y2.2.2.2.2.2.2.2.2.2.1, y2.2.2.2.2.2.2.2.2.2.2, y2.2.2.2.2.2.1, y2.2.2.2.2.2.2.1, T.nilm, y2.2.2.2.2.2.2.2.1⟩ : aa_)))) (fun y2 => (some y2)) y2)) else (if (decide (a1.Kind = 13)) = true then ((aU_ a0.subject_ a2 a2).bind fun y4 => ((az_ (S := (Int × (Sl DNamed) × ByteArray × Int × Int × Int × Int × Bool × Int × (Sl DCapture) × (Sl DCapture) × (Sl DMatch))) (R := (((Sl DNamed) × ByteArray × Int × Int × Int × Int × Bool × Int × (Sl DCapture) × (Sl DCapture) × (Sl DMatch)) ⊕ (Bool × aa_))) (fun st2 => (if (decide (0 ≤ st2.1)) = true then ((a3 st2.1 (⟨st2.2.1, st2.2.2.1, st2.2.2.2.1, st2.2.2.2.2.1, st2.2.2.2.2.2.1, st2.2.2.2.2.2.2.2.2.2.1, st2.2.2.2.2.2.2.2.2.2.2.1, st2.2.2.2.2.2.2.2.2.2.2.2, st2.2.2.2.2.2.2.1, st2.2.2.2.2.2.2.2.1, T.nilm, st2.2.2.2.2.2.2.2.2.1⟩ : aa_)).bind fun y6 => (if (!y6.1) = true then (some (.inr (.inr (false, (⟨y6.2.env_, y6.2.subject_, y6.2.fuel_, y6.2.steps_, y6.2.start_, y6.2.now_, y6.2.conds_, y6.2.matches_, y6.2.most_, y6.2.isMere_, T.nilm, y6.2.code_⟩ : aa_))))) else ((aU_ y6.2.subject_ a2 st2.1).bind fun y7 => (some (.inl (y7, y6.2.env_, y6.2.subject_, y6.2.fuel_, y6.2.steps_, y6.2.start_, y6.2.most_, y6.2.isMere_, y6.2.code_, y6.2.now_, y6.2.conds_, y6.2.matches_)))))) else (some (.inr (.inl (st2.2.1, st2.2.2.1, st2.2.2.2.1, st2.2.2.2.2.1, st2.2.2.2.2.2.1, st2.2.2.2.2.2.2.1, st2.2.2.2.2.2.2.2.1, st2.2.2.2.2.2.2.2.2.1, st2.2.2.2.2.2.2.2.2.2.1, st2.2.2.2.2.2.2.2.2.2.2.1, st2.2.2.2.2.2.2.2.2.2.2.2)))))) (y4, a0.env_, a0.subject_, a0.fuel_, y1.2.1, a0.start_, a0.most_, a0.isMere_, y1.2.2.1, a0.now_, a0.conds_, y1.2.2.2)).bind fun y5 => (Sum.elim (fun y5 => (some (true, (⟨y5.1, y5.2.1, y5.2.2.1, y5.2.2.2.1, y5.2.2.2.2.1, y5.2.2.2.2.2.2.2.2.1, y5.2.2.2.2.2.2.2.2.2.1, y5.2.2.2.2.2.2.2.2.2.2, y5.2.2.2.2.2.1, y5.2.2.2.2.2.2.1, T.nilm, y5.2.2.2.2.2.2.2.1⟩ : aa_)))) (fun y5 => (some y5)) y5))) else (if (decide (a1.Kind = 14)) = true then ((a3 a2 (⟨a0.env_, a0.subject_, a0.fuel_, y1.2.1, a0.start_, a0.now_, a0.conds_, y1.2.2.2, a0.most_, a0.isMere_, T.nilm, y1.2.2.1⟩ : aa_)).bind fun y8 => (some (false, (⟨y8.2.env_, y8.2.subject_, y8.2.fuel_, y8.2.steps_, y8.2.start_, y8.2.now_, y8.2.conds_, y8.2.matches_, y8.2.most_, y8.2.isMere_, T.nilm, y8.2.code_⟩ : aa_)))) else (if (decide (a1.Kind = 15)) = true then (some (false, (⟨a0.env_, a0.subject_, a0.fuel_, y1.2.1, a0.start_, a0.now_, a0.conds_, y1.2.2.2, a0.most_, a0.isMere_, T.nilm, y1.2.2.1⟩ : aa_))) else (if (decide (a1.Kind = 16)) = true then (some (true, (⟨a0.env_, a0.subject_, a0.fuel_, y1.2.1, a0.start_, a0.now_, a0.conds_, y1.2.2.2, a0.most_, a0.isMere_, T.nilm, y1.2.2.1⟩ : aa_))) else (if (decide (a1.Kind = 17)) = true then ((az_ (S := ((Sl DNamed) × ByteArray × Int × Int × Int × Int × Bool × Int × (Sl DCapture) × (Sl DCapture) × (Sl DMatch))) (R := (((Sl DNamed) × ByteArray × Int × Int × Int × Int × Bool × Int × (Sl DCapture) × (Sl DCapture) × (Sl DMatch)) ⊕ (Bool × aa_))) (fun st3 => ((a3 a2 (⟨st3.1, st3.2.1, st3.2.2.1, st3.2.2.2.1, st3.2.2.2.2.1, st3.2.2.2.2.2.2.2.2.1, st3.2.2.2.2.2.2.2.2.2.1, st3.2.2.2.2.2.2.2.2.2.2, st3.2.2.2.2.2.1, st3.2.2.2.2.2.2.1, T.nilm, st3.2.2.2.2.2.2.2.1⟩ : aa_)).bind fun y10 => (if y10.1 = true then (((if (decide (y10.2.steps_ = y10.2.fuel_)) = true then (some (false, y10.2.steps_, 7, (⟨true, []⟩ : Sl DMatch))) else (some (true, (w4 (y10.2.steps_ + 1)), y10.2.code_, y10.2.matches_))) : Option (Bool × Int × Int × (Sl DMatch))).bind fun y11 => (if (!y11.1) = true then (some (.inr (.inr (false, (⟨y10.2.env_, y10.2.subject_, y10.2.fuel_, y11.2.1, y10.2.start_, y10.2.now_, y10.2.conds_, y11.2.2.2, y10.2.most_, y10.2.isMere_, T.nilm, y11.2.2.1⟩ : aa_))))) else (some (.inl (y10.2.env_, y10.2.subject_, y10.2.fuel_, y11.2.1, y10.2.start_, y10.2.most_, y10.2.isMere_, y11.2.2.1, y10.2.now_, y10.2.conds_, y11.2.2.2))))) else (some (.inr (.inl (y10.2.env_, y10.2.subject_, y10.2.fuel_, y10.2.steps_, y10.2.start_, y10.2.most_, y10.2.isMere_, y10.2.code_, y10.2.now_, y10.2.conds_, y10.2.matches_))))))) (a0.env_, a0.subject_, a0.fuel_, y1.2.1, a0.start_, a0.most_, a0.isMere_, y1.2.2.1, a0.now_, a0.conds_, y1.2.2.2)).bind fun y9 => (Sum.elim (fun y9 => (some (false, (⟨y9.1, y9.2.1, y9.2.2.1, y9.2.2.2.1, y9.2.2.2.2.1, y9.2.2.2.2.2.2.2.2.1, y9.2.2.2.2.2.2.2.2.2.1, y9.2.2.2.2.2.2.2.2.2.2, y9.2.2.2.2.2.1, y9.2.2.2.2.2.2.1, T.nilm, y9.2.2.2.2.2.2.2.1⟩ : aa_)))) (fun y9 => (some y9)) y9)) else (if (decide (a1.Kind = 23)) = true then ((((appS 48 a0.now_ (⟨false, [(⟨a1.Text, ⟨#[]⟩, a2, 3⟩ : DCapture)]⟩ : Sl DCapture)).bind fun y13 => (if ((decide (100 < (w4 ((y13.l.length : Int) + (a0.conds_.l.length : Int)))))) = true then (some (false, 6, y13, (⟨true, []⟩ : Sl DMatch))) else (some (true, y1.2.2.1, y13, y1.2.2.2)))) : Option ((Bool × Int × (Sl DCapture) × (Sl DMatch)))).bind fun y12 => (if y12.1 = true then ((a3 a2 (⟨a0.env_, a0.subject_, a0.fuel_, y1.2.1, a0.start_, y12.2.2.1, a0.conds_, y12.2.2.2, a0.most_, a0.isMere_, T.nilm, y12.2.1⟩ : aa_)).bind fun y14 => (some (y14.1, (⟨y14.2.env_, y14.2.subject_, y14.2.fuel_, y14.2.steps_, y14.2.start_, y14.2.now_, y14.2.conds_, y14.2.matches_, y14.2.most_, y14.2.isMere_, T.nilm, y14.2.code_⟩ : aa_)))) else (some (false, (⟨a0.env_, a0.subject_, a0.fuel_, y1.2.1, a0.start_, y12.2.2.1, a0.conds_, y12.2.2.2, a0.most_, a0.isMere_, T.nilm, y12.2.1⟩ : aa_))))) else (if (decide (a1.Kind = 24)) = true then ((((az_ (S := Int) (R := (Unit ⊕ Int)) (fun st4 => (if (decide (st4 < (a0.env_.l.length : Int))) = true then ((elt a0.env_ st4).bind fun y17 => (if (decide (y17.Name = a1.Text)) = true then (some (.inr (.inr st4))) else (some (.inl (w4 (st4 + 1)))))) else (some (.inr (.inl ()))))) 0).bind fun y16 => (Sum.elim (fun y16 => (some (-1))) (fun y16 => (some y16)) y16)) : Option Int).bind fun y15 => (if (decide (y15 < 0)) = true then (some (false, (⟨a0.env_, a0.subject_, a0.fuel_, y1.2.1, a0.start_, a0.now_, a0.conds_, ⟨true, []⟩, a0.most_, a0.isMere_, T.nilm, 5⟩ : aa_))) else ((elt a0.env_ y15).bind fun y18 => ((R_123 (⟨a0.env_, a0.subject_, a0.fuel_, y1.2.1, a0.start_, a0.now_, a0.conds_, y1.2.2.2, a0.most_, a0.isMere_, T.nilm, y1.2.2.1⟩ : aa_) y18.Pattern a2 a3).bind fun y19 => (some (y19.1, (⟨y19.2.env_, y19.2.subject_, y19.2.fuel_, y19.2.steps_, y19.2.start_, y19.2.now_, y19.2.conds_, y19.2.matches_, y19.2.most_, y19.2.isMere_, T.nilm, y19.2.code_⟩ : aa_))))))) else (if (decide (0 < (a1.Kids.l.length : Int))) = true then ((R_151 (⟨a0.env_, a0.subject_, a0.fuel_, y1.2.1, a0.start_, a0.now_, a0.conds_, y1.2.2.2, a0.most_, a0.isMere_, T.nilm, y1.2.2.1⟩ : aa_) a1 a2 a3).bind fun y20 => (some (y20.1, (⟨y20.2.env_, y20.2.subject_, y20.2.fuel_, y20.2.steps_, y20.2.start_, y20.2.now_, y20.2.conds_, y20.2.matches_, y20.2.most_, y20.2.isMere_, T.nilm, y20.2.code_⟩ : aa_)))) else ((aL_ a1.Kind a1.Num a1.Text a0.subject_ a2).bind fun y21 => (if (decide (y21 < 0)) = true then (some (true, (⟨a0.env_, a0.subject_, a0.fuel_, y1.2.1, a0.start_, a0.now_, a0.conds_, y1.2.2.2, a0.most_, a0.isMere_, T.nilm, y1.2.2.1⟩ : aa_))) else ((a3 y21 (⟨a0.env_, a0.subject_, a0.fuel_, y1.2.1, a0.start_, a0.now_, a0.conds_, y1.2.2.2, a0.most_, a0.isMere_, T.nilm, y1.2.2.1⟩ : aa_)).bind fun y22 => (some (y22.1, (⟨y22.2.env_, y22.2.subject_, y22.2.fuel_, y22.2.steps_, y22.2.start_, y22.2.now_, y22.2.conds_, y22.2.matches_, y22.2.most_, y22.2.isMere_, T.nilm, y22.2.code_⟩ : aa_)))))))))))))))))
theorem gp_ (R_123 : aa_ → DPattern → Int → (Int → aa_ → Option (Bool × aa_)) → Option (Bool × aa_)) (R_151 : aa_ → DPattern → Int → (Int → aa_ → Option (Bool × aa_)) → Option (Bool × aa_)) (hR_123 : a0_ R_123) (hR_151 : aM_ R_151) : a0_ (ac_ R_123 R_151) := by
 intro a0 a1 a2 a3 r h Fk σq bp0 mq_bp0 mh_bp0 p0_1 p0_2 p0_3 pp1 hp_pp1 th3 hone_th3 ht_th3
 unfold ac_ at h
 refine cC_ rfl rfl ok_123 rfl ?_
 intro σ0 σ F σk s hS hH
 have hp0_1 : ar_ p0_1 := Heap.fltOne (hH.at 1 rfl)
 have hp0_2 : ar_ p0_2 := Heap.fltOne (hH.at 2 rfl)
 have hp0_3 : ar_ p0_3 := Heap.one (hH.at 3 rfl)
 have hmq_bp0 : ar_ mq_bp0 := gm_ mh_bp0
 have hone_pp1 : ar_ pp1 := hp_pp1.one
 have hS := ad_ (L' := [(0, .ptr bp0 0 0 12), (1, pp1), (2, i4 a2), (3, th3)]) hS (by kernel_rfl)
 refine t_go h hS hH ?_
 refine t_R ?_
 refine o8_ hone_pp1 fun b1 => ?_
 refine t_N ?_
 refine t_RU 1 ?_
 refine ab_ 0 ?_
 refine jJ_ (fun y1 s σ => ∃ t1, ar_ t1 ∧ Sub [(0, .ptr bp0 0 0 12), (2, i4 a2), (3, th3), (5, .ptr b1 0 0 1), (15, .bool y1.1)] s ∧ Heap σ0 σ [.box b1 [pp1], .box bp0 [a0.env_.t, .str a0.subject_, i4 a0.fuel_, i4 y1.2.1, i4 a0.start_, p0_1, p0_2, t1, i4 a0.most_, .bool a0.isMere_, mq_bp0, i4 y1.2.2.1], .flt 4 p0_1 a0.now_.t, .flt 4 p0_2 a0.conds_.t, .own true 3 t1 y1.2.2.2.t, .keep Fk σq, .keep F σk]) ok_145 (fun y1 => ?_) fun y1 s σ HF h => ?_
 ·refine t_RN ?_
  refine t_D fun mb => ?_
  refine t_U 3 ?_
  refine ab_ 1 ?_
  refine t_U 3 ?_
  refine ab_ 1 ?_
  refine t_N ?_
  refine t_if (fun hc1 => ?_) fun hc1 => ?_
  ·refine t_RU 1 ?_
   refine fP_ ok_150 ?_
   refine t_RN ?_
   refine t_RU 5 ?_
   refine a6_ 1 ?_
   refine t_U 2 ?_
   refine a6_ 0 ?_
   refine t_N ?_
   refine t_RN ?_
   refine k_eI (rT rN) ?_
   refine t_N ?_
   refine t_h (Heap.addNil · true 3) ?_
   exact fO_ (rT rN) fun he hS hH => he ▸ ⟨(T.row true 0 []), ⟨rfl, rfl⟩, (ad_ hS (by kernel_rfl)), (Heap.sel hH [2, 1, 3, 4, 0, 6, 7] rfl (by kernel_rfl))⟩
  refine t_RU 3 ?_
  refine ab_ 1 ?_
  refine t_U 3 ?_
  refine a6_ 1 ?_
  refine t_N ?_
  refine t_RU 3 ?_
  refine ab_ 0 ?_
  refine m2_ mh_bp0 ?_
  refine t_N ?_
  refine m8_ [] [.box bp0 [a0.env_.t, .str a0.subject_, i4 a0.fuel_, i4 (w4 (a0.steps_ + 1)), i4 a0.start_, p0_1, p0_2, p0_3, i4 a0.most_, .bool a0.isMere_, mq_bp0, i4 a0.code_], .box b1 [pp1], .flt 4 p0_1 a0.now_.t, .flt 4 p0_2 a0.conds_.t, .own true 3 p0_3 a0.matches_.t, .keep Fk σq, .keep F σk] ?_ ?_
  ·refine qo_ (fun hc2 => ?_) fun hc2 => ?_
   ·refine t_RU 3 ?_
    refine ab_ 0 ?_
    refine t_U 1 ?_
    refine ib_ hc2 (KeyM.pt 5 hp_pp1) ?_
    refine t_U 1 ?_
    refine if_ hc2 (KeyM.pt 5 hp_pp1) ?_
    refine t_N ?_
    exact t_eU fun hS hH => ⟨rfl, ad_ hS (by kernel_rfl), hH⟩
   exact t_eU fun hS hH => ⟨rfl, ad_ hS (by kernel_rfl), hH⟩
  refine t_RN ?_
  exact fO_ (rT rN) fun he hS hH => he ▸ ⟨p0_3, hp0_3, (ad_ hS (by kernel_rfl)), (Heap.sel hH [1, 0, 2, 3, 4, 5, 6] rfl (by kernel_rfl))⟩
 obtain ⟨t1, ht1, ⟨hS, hH⟩⟩ := HF
 refine t_bk h hS hH ?_
 refine t_N ?_
 refine t_if (fun hc3 => ?_) fun hc3 => ?_
 ·refine t_RN ?_
  intro h s σ hS hH
  obtain rfl := si_1 h
  exact bp_ [p0_1, p0_2, t1] (bE_ (v := .bool false) hS rfl r_nil) rfl rfl (Heap.sel hH [1, 2, 3, 4, 5, 6] rfl (by kernel_rfl))
 refine t_R ?_
 refine ab_ 0 ?_
 refine dy_ hp_pp1 ?_
 refine b9_ hp_pp1 ?_
 refine cJ_ 5 hp_pp1 ?_
 refine t_N ?_
 refine t_RN ?_
 refine t_if (fun hc4 => ?_) fun hc4 => ?_
 ·refine t_RN ?_
  refine bv_ (fun st1 fr => ∃ t5, ar_ t5 ∧ ∃ t6, ar_ t6 ∧ ∃ t7, ar_ t7 ∧ Sub [(0, .ptr bp0 0 0 12), (3, th3), (9, i4 st1.1)] fr.s ∧ Heap σ0 fr.σ [.box bp0 [st1.2.1.t, .str st1.2.2.1, i4 st1.2.2.2.1, i4 st1.2.2.2.2.1, i4 st1.2.2.2.2.2.1, t5, t6, t7, i4 st1.2.2.2.2.2.2.1, .bool st1.2.2.2.2.2.2.2.1, mq_bp0, i4 st1.2.2.2.2.2.2.2.2.1], .flt 4 t5 st1.2.2.2.2.2.2.2.2.2.1.t, .flt 4 t6 st1.2.2.2.2.2.2.2.2.2.2.1.t, .own true 3 t7 st1.2.2.2.2.2.2.2.2.2.2.2.t, .keep Fk σq, .keep F σk]) (fun y2 e fr => (Sum.elim (fun y => ∃ t8, ar_ t8 ∧ ∃ t9, ar_ t9 ∧ ∃ t10, ar_ t10 ∧ e = (.exit 1) ∧ Sub [] fr.s ∧ Heap σ0 fr.σ [.box bp0 [y.1.t, .str y.2.1, i4 y.2.2.1, i4 y.2.2.2.1, i4 y.2.2.2.2.1, t8, t9, t10, i4 y.2.2.2.2.2.1, .bool y.2.2.2.2.2.2.1, mq_bp0, i4 y.2.2.2.2.2.2.2.1], .flt 4 t8 y.2.2.2.2.2.2.2.2.1.t, .flt 4 t9 y.2.2.2.2.2.2.2.2.2.1.t, .own true 3 t10 y.2.2.2.2.2.2.2.2.2.2.t, .keep Fk σq, .keep F σk]) (fun y => e = .ret ∧ endM Try.prog (Try.f123.results.toList) σ0 3 (fun hs => E_bool y.1) (fun hs => aY_ bp0 mq_bp0 y.2 hs ++ [.keep Fk σq] ++ [.keep F σk]) .ret fr)) y2) (fun hS hH => ⟨p0_1, hp0_1, p0_2, hp0_2, t1, ht1, (ad_ hS (by kernel_rfl)), (Heap.sel hH [1, 2, 3, 4, 5, 6] rfl (by kernel_rfl))⟩) (fun st1 x fr h HI => ?_) fun y2 e fr h HF => ?_
  ·obtain ⟨s, σ⟩ := fr; obtain ⟨t5, ht5, ⟨t6, ht6, ⟨t7, ht7, ⟨hS, hH⟩⟩⟩⟩ := HI
   refine t_bk h hS hH ?_
   refine t_RU 4 ?_
   refine ab_ 0 ?_
   refine t_N ?_
   refine t_if (fun hc5 => ?_) fun hc5 => ?_
   ·refine t_RU 2 ?_
    intro h s σ hS hH
    obtain ⟨y3, hy3, h⟩ := bind_some h
    refine hD_ (es := [.keep F σk]) (S := (⟨st1.2.1, st1.2.2.1, st1.2.2.2.1, st1.2.2.2.2.1, st1.2.2.2.2.2.1, st1.2.2.2.2.2.2.2.2.2.1, st1.2.2.2.2.2.2.2.2.2.2.1, st1.2.2.2.2.2.2.2.2.2.2.2, st1.2.2.2.2.2.2.1, st1.2.2.2.2.2.2.2.1, T.nilm, st1.2.2.2.2.2.2.2.2.1⟩ : aa_)) (hs := [t5, t6, t7]) ht_th3 rfl hy3 rfl hS rfl rfl hH ?_; intro hs σ s hl hH hS
    obtain ⟨t11, t12, t13, rfl⟩ := len3 hl
    have hH : Heap σ0 σ [.box bp0 [y3.2.env_.t, .str y3.2.subject_, i4 y3.2.fuel_, i4 y3.2.steps_, i4 y3.2.start_, t11, t12, t13, i4 y3.2.most_, .bool y3.2.isMere_, mq_bp0, i4 y3.2.code_], .flt 4 t11 y3.2.now_.t, .flt 4 t12 y3.2.conds_.t, .own true 3 t13 y3.2.matches_.t, .keep Fk σq, .keep F σk] := hH
    refine t_bk h hS hH ?_
    refine a7_ 1 fun ht11 => ?_
    refine a7_ 2 fun ht12 => ?_
    refine a7_ 3 fun ht13 => ?_
    refine t_N ?_
    refine t_if (fun hc6 => ?_) fun hc6 => ?_
    ·refine t_RN ?_
     intro h s σ hS hH
     obtain rfl := si_1 h
     exact ⟨rfl, (bp_ [t11, t12, t13] (bE_ (v := .bool false) hS rfl r_nil) rfl rfl hH)⟩
    refine t_RN ?_
    exact t_e fun he hS hH => he ▸ ⟨t11, ht11, t12, ht12, t13, ht13, (ad_ hS (by kernel_rfl)), hH⟩
   exact t_e fun he hS hH => he ▸ ⟨t5, ht5, t6, ht6, t7, ht7, rfl, (ad_ hS (by kernel_rfl)), hH⟩
  obtain ⟨s, σ⟩ := fr
  rcases y2 with y2 | y2
  ·have h := el_l h
   obtain ⟨t8, ht8, ⟨t9, ht9, ⟨t10, ht10, ⟨rfl, hS, hH⟩⟩⟩⟩ := HF
   refine t_bx h hS hH ?_
   refine t_RN ?_
   intro h s σ hS hH
   obtain rfl := si_1 h
   exact bp_ [t8, t9, t10] (bE_ (v := .bool true) hS rfl r_nil) rfl rfl hH
  have h := el_r h
  obtain ⟨rfl, HE⟩ := HF
  obtain rfl := si_1 h; exact HE
 refine t_RN ?_
 refine t_if (fun hc7 => ?_) fun hc7 => ?_
 ·refine t_RU 3 ?_
  refine ab_ 1 ?_
  refine t_U 2 ?_
  refine an_ fun y4 hy4 => ?_
  refine t_N ?_
  refine bv_ (fun st2 fr => ∃ t17, ar_ t17 ∧ ∃ t18, ar_ t18 ∧ ∃ t19, ar_ t19 ∧ Sub [(0, .ptr bp0 0 0 12), (2, i4 a2), (3, th3), (10, i4 st2.1)] fr.s ∧ Heap σ0 fr.σ [.box bp0 [st2.2.1.t, .str st2.2.2.1, i4 st2.2.2.2.1, i4 st2.2.2.2.2.1, i4 st2.2.2.2.2.2.1, t17, t18, t19, i4 st2.2.2.2.2.2.2.1, .bool st2.2.2.2.2.2.2.2.1, mq_bp0, i4 st2.2.2.2.2.2.2.2.2.1], .flt 4 t17 st2.2.2.2.2.2.2.2.2.2.1.t, .flt 4 t18 st2.2.2.2.2.2.2.2.2.2.2.1.t, .own true 3 t19 st2.2.2.2.2.2.2.2.2.2.2.2.t, .keep Fk σq, .keep F σk]) (fun y5 e fr => (Sum.elim (fun y => ∃ t20, ar_ t20 ∧ ∃ t21, ar_ t21 ∧ ∃ t22, ar_ t22 ∧ e = (.exit 3) ∧ Sub [] fr.s ∧ Heap σ0 fr.σ [.box bp0 [y.1.t, .str y.2.1, i4 y.2.2.1, i4 y.2.2.2.1, i4 y.2.2.2.2.1, t20, t21, t22, i4 y.2.2.2.2.2.1, .bool y.2.2.2.2.2.2.1, mq_bp0, i4 y.2.2.2.2.2.2.2.1], .flt 4 t20 y.2.2.2.2.2.2.2.2.1.t, .flt 4 t21 y.2.2.2.2.2.2.2.2.2.1.t, .own true 3 t22 y.2.2.2.2.2.2.2.2.2.2.t, .keep Fk σq, .keep F σk]) (fun y => e = .ret ∧ endM Try.prog (Try.f123.results.toList) σ0 3 (fun hs => E_bool y.1) (fun hs => aY_ bp0 mq_bp0 y.2 hs ++ [.keep Fk σq] ++ [.keep F σk]) .ret fr)) y5) (fun hS hH => ⟨p0_1, hp0_1, p0_2, hp0_2, t1, ht1, (ad_ hS (by kernel_rfl)), (Heap.sel hH [1, 2, 3, 4, 5, 6] rfl (by kernel_rfl))⟩) (fun st2 x fr h HI => ?_) fun y5 e fr h HF => ?_
  ·obtain ⟨s, σ⟩ := fr; obtain ⟨t17, ht17, ⟨t18, ht18, ⟨t19, ht19, ⟨hS, hH⟩⟩⟩⟩ := HI
   refine t_bk h hS hH ?_
   refine t_RN ?_
   refine t_if (fun hc8 => ?_) fun hc8 => ?_
   ·refine t_RU 2 ?_
    intro h s σ hS hH
    obtain ⟨y6, hy6, h⟩ := bind_some h
    refine hD_ (es := [.keep F σk]) (S := (⟨st2.2.1, st2.2.2.1, st2.2.2.2.1, st2.2.2.2.2.1, st2.2.2.2.2.2.1, st2.2.2.2.2.2.2.2.2.2.1, st2.2.2.2.2.2.2.2.2.2.2.1, st2.2.2.2.2.2.2.2.2.2.2.2, st2.2.2.2.2.2.2.1, st2.2.2.2.2.2.2.2.1, T.nilm, st2.2.2.2.2.2.2.2.2.1⟩ : aa_)) (hs := [t17, t18, t19]) ht_th3 rfl hy6 rfl hS rfl rfl hH ?_; intro hs σ s hl hH hS
    obtain ⟨t23, t24, t25, rfl⟩ := len3 hl
    have hH : Heap σ0 σ [.box bp0 [y6.2.env_.t, .str y6.2.subject_, i4 y6.2.fuel_, i4 y6.2.steps_, i4 y6.2.start_, t23, t24, t25, i4 y6.2.most_, .bool y6.2.isMere_, mq_bp0, i4 y6.2.code_], .flt 4 t23 y6.2.now_.t, .flt 4 t24 y6.2.conds_.t, .own true 3 t25 y6.2.matches_.t, .keep Fk σq, .keep F σk] := hH
    refine t_bk h hS hH ?_
    refine a7_ 1 fun ht23 => ?_
    refine a7_ 2 fun ht24 => ?_
    refine a7_ 3 fun ht25 => ?_
    refine t_N ?_
    refine t_if (fun hc9 => ?_) fun hc9 => ?_
    ·refine t_RN ?_
     intro h s σ hS hH
     obtain rfl := si_1 h
     exact ⟨rfl, (bp_ [t23, t24, t25] (bE_ (v := .bool false) hS rfl r_nil) rfl rfl hH)⟩
    refine t_RU 3 ?_
    refine ab_ 0 ?_
    refine t_U 2 ?_
    refine an_ fun y7 hy7 => ?_
    refine t_N ?_
    exact t_e fun he hS hH => he ▸ ⟨t23, ht23, t24, ht24, t25, ht25, (ad_ hS (by kernel_rfl)), hH⟩
   exact t_e fun he hS hH => he ▸ ⟨t17, ht17, t18, ht18, t19, ht19, rfl, (ad_ hS (by kernel_rfl)), hH⟩
  obtain ⟨s, σ⟩ := fr
  rcases y5 with y5 | y5
  ·have h := el_l h
   obtain ⟨t20, ht20, ⟨t21, ht21, ⟨t22, ht22, ⟨rfl, hS, hH⟩⟩⟩⟩ := HF
   refine t_bx h hS hH ?_
   refine t_RN ?_
   intro h s σ hS hH
   obtain rfl := si_1 h
   exact bp_ [t20, t21, t22] (bE_ (v := .bool true) hS rfl r_nil) rfl rfl hH
  have h := el_r h
  obtain ⟨rfl, HE⟩ := HF
  obtain rfl := si_1 h; exact HE
 refine t_RN ?_
 refine t_if (fun hc10 => ?_) fun hc10 => ?_
 ·refine t_RU 2 ?_
  refine t_h (·.up5.up5.up5.up5.up5) ?_
  intro h s σ hS hH
  obtain ⟨y8, hy8, h⟩ := bind_some h
  refine hD_ (es := [.box b1 [pp1], .keep F σk]) (S := (⟨a0.env_, a0.subject_, a0.fuel_, y1.2.1, a0.start_, a0.now_, a0.conds_, y1.2.2.2, a0.most_, a0.isMere_, T.nilm, y1.2.2.1⟩ : aa_)) (hs := [p0_1, p0_2, t1]) ht_th3 rfl hy8 rfl hS rfl rfl hH ?_; intro hs σ s hl hH hS
  obtain ⟨t26, t27, t28, rfl⟩ := len3 hl
  have hH : Heap σ0 σ [.box bp0 [y8.2.env_.t, .str y8.2.subject_, i4 y8.2.fuel_, i4 y8.2.steps_, i4 y8.2.start_, t26, t27, t28, i4 y8.2.most_, .bool y8.2.isMere_, mq_bp0, i4 y8.2.code_], .flt 4 t26 y8.2.now_.t, .flt 4 t27 y8.2.conds_.t, .own true 3 t28 y8.2.matches_.t, .keep Fk σq, .box b1 [pp1], .keep F σk] := hH
  refine t_bk h hS hH ?_
  refine a7_ 1 fun ht26 => ?_
  refine a7_ 2 fun ht27 => ?_
  refine a7_ 3 fun ht28 => ?_
  refine t_N ?_
  refine t_RN ?_
  intro h s σ hS hH
  obtain rfl := si_1 h
  exact bp_ [t26, t27, t28] (bE_ (v := .bool false) hS rfl r_nil) rfl rfl (Heap.sel hH [0, 1, 2, 3, 4, 6] rfl (by kernel_rfl))
 refine t_RN ?_
 refine t_if (fun hc11 => ?_) fun hc11 => ?_
 ·refine t_RN ?_
  intro h s σ hS hH
  obtain rfl := si_1 h
  exact bp_ [p0_1, p0_2, t1] (bE_ (v := .bool false) hS rfl r_nil) rfl rfl (Heap.sel hH [1, 2, 3, 4, 5, 6] rfl (by kernel_rfl))
 refine t_RN ?_
 refine t_if (fun hc12 => ?_) fun hc12 => ?_
 ·refine t_RN ?_
  intro h s σ hS hH
  obtain rfl := si_1 h
  exact bp_ [p0_1, p0_2, t1] (bE_ (v := .bool true) hS rfl r_nil) rfl rfl (Heap.sel hH [1, 2, 3, 4, 5, 6] rfl (by kernel_rfl))
 refine t_RN ?_
 refine t_if (fun hc13 => ?_) fun hc13 => ?_
 ·refine bv_ (fun st3 fr => ∃ t32, ar_ t32 ∧ ∃ t33, ar_ t33 ∧ ∃ t34, ar_ t34 ∧ Sub [(0, .ptr bp0 0 0 12), (2, i4 a2), (3, th3), (5, .ptr b1 0 0 1)] fr.s ∧ Heap σ0 fr.σ [.box b1 [pp1], .box bp0 [st3.1.t, .str st3.2.1, i4 st3.2.2.1, i4 st3.2.2.2.1, i4 st3.2.2.2.2.1, t32, t33, t34, i4 st3.2.2.2.2.2.1, .bool st3.2.2.2.2.2.2.1, mq_bp0, i4 st3.2.2.2.2.2.2.2.1], .flt 4 t32 st3.2.2.2.2.2.2.2.2.1.t, .flt 4 t33 st3.2.2.2.2.2.2.2.2.2.1.t, .own true 3 t34 st3.2.2.2.2.2.2.2.2.2.2.t, .keep Fk σq, .keep F σk]) (fun y9 e fr => (Sum.elim (fun y => ∃ t35, ar_ t35 ∧ ∃ t36, ar_ t36 ∧ ∃ t37, ar_ t37 ∧ e = (.exit 5) ∧ Sub [] fr.s ∧ Heap σ0 fr.σ [.box bp0 [y.1.t, .str y.2.1, i4 y.2.2.1, i4 y.2.2.2.1, i4 y.2.2.2.2.1, t35, t36, t37, i4 y.2.2.2.2.2.1, .bool y.2.2.2.2.2.2.1, mq_bp0, i4 y.2.2.2.2.2.2.2.1], .flt 4 t35 y.2.2.2.2.2.2.2.2.1.t, .flt 4 t36 y.2.2.2.2.2.2.2.2.2.1.t, .own true 3 t37 y.2.2.2.2.2.2.2.2.2.2.t, .keep Fk σq, .keep F σk]) (fun y => e = .ret ∧ endM Try.prog (Try.f123.results.toList) σ0 3 (fun hs => E_bool y.1) (fun hs => aY_ bp0 mq_bp0 y.2 hs ++ [.keep Fk σq] ++ [.keep F σk]) .ret fr)) y9) (fun hS hH => ⟨p0_1, hp0_1, p0_2, hp0_2, t1, ht1, (ad_ hS (by kernel_rfl)), hH⟩) (fun st3 x fr h HI => ?_) fun y9 e fr h HF => ?_
  ·obtain ⟨s, σ⟩ := fr; obtain ⟨t32, ht32, ⟨t33, ht33, ⟨t34, ht34, ⟨hS, hH⟩⟩⟩⟩ := HI
   refine t_bk h hS hH ?_
   refine t_RU 2 ?_
   refine t_h (·.up5.up5.up5.up5.up5) ?_
   intro h s σ hS hH
   obtain ⟨y10, hy10, h⟩ := bind_some h
   refine hD_ (es := [.box b1 [pp1], .keep F σk]) (S := (⟨st3.1, st3.2.1, st3.2.2.1, st3.2.2.2.1, st3.2.2.2.2.1, st3.2.2.2.2.2.2.2.2.1, st3.2.2.2.2.2.2.2.2.2.1, st3.2.2.2.2.2.2.2.2.2.2, st3.2.2.2.2.2.1, st3.2.2.2.2.2.2.1, T.nilm, st3.2.2.2.2.2.2.2.1⟩ : aa_)) (hs := [t32, t33, t34]) ht_th3 rfl hy10 rfl hS rfl rfl hH ?_; intro hs σ s hl hH hS
   obtain ⟨t38, t39, t40, rfl⟩ := len3 hl
   have hH : Heap σ0 σ [.box bp0 [y10.2.env_.t, .str y10.2.subject_, i4 y10.2.fuel_, i4 y10.2.steps_, i4 y10.2.start_, t38, t39, t40, i4 y10.2.most_, .bool y10.2.isMere_, mq_bp0, i4 y10.2.code_], .flt 4 t38 y10.2.now_.t, .flt 4 t39 y10.2.conds_.t, .own true 3 t40 y10.2.matches_.t, .keep Fk σq, .box b1 [pp1], .keep F σk] := hH
   refine t_bk h hS hH ?_
   refine a7_ 1 fun ht38 => ?_
   refine a7_ 2 fun ht39 => ?_
   refine a7_ 3 fun ht40 => ?_
   refine t_N ?_
   refine t_if (fun hc14 => ?_) fun hc14 => ?_
   ·refine t_RU 1 ?_
    refine ab_ 5 ?_
    refine jJ_ (fun y11 s σ => ∃ t41, ar_ t41 ∧ Sub [(0, .ptr bp0 0 0 12), (2, i4 a2), (3, th3), (5, .ptr b1 0 0 1), (75, .bool y11.1)] s ∧ Heap σ0 σ [.box bp0 [y10.2.env_.t, .str y10.2.subject_, i4 y10.2.fuel_, i4 y11.2.1, i4 y10.2.start_, t38, t39, t41, i4 y10.2.most_, .bool y10.2.isMere_, mq_bp0, i4 y11.2.2.1], .box b1 [pp1], .flt 4 t38 y10.2.now_.t, .flt 4 t39 y10.2.conds_.t, .own true 3 t41 y11.2.2.2.t, .keep Fk σq, .keep F σk]) ok_145 (fun y11 => ?_) fun y11 s σ HF h => ?_
    ·refine t_RN ?_
     refine t_D fun mb => ?_
     refine t_U 3 ?_
     refine ab_ 0 ?_
     refine t_U 3 ?_
     refine ab_ 0 ?_
     refine t_N ?_
     refine t_if (fun hc15 => ?_) fun hc15 => ?_
     ·refine t_RU 1 ?_
      refine fP_ ok_150 ?_
      refine t_RN ?_
      refine t_RU 5 ?_
      refine a6_ 0 ?_
      refine t_U 2 ?_
      refine a6_ 0 ?_
      refine t_N ?_
      refine t_RN ?_
      refine k_eI (rT rN) ?_
      refine t_N ?_
      refine t_h (Heap.addNil · true 3) ?_
      exact fO_ (rT rN) fun he hS hH => he ▸ ⟨(T.row true 0 []), ⟨rfl, rfl⟩, (ad_ hS (by kernel_rfl)), (Heap.sel hH [1, 6, 2, 3, 0, 5, 7] rfl (by kernel_rfl))⟩
     refine t_RU 3 ?_
     refine ab_ 0 ?_
     refine t_U 3 ?_
     refine a6_ 0 ?_
     refine t_N ?_
     refine t_RU 3 ?_
     refine ab_ 0 ?_
     refine m2_ mh_bp0 ?_
     refine t_N ?_
     refine m8_ [] [.box bp0 [y10.2.env_.t, .str y10.2.subject_, i4 y10.2.fuel_, i4 (w4 (y10.2.steps_ + 1)), i4 y10.2.start_, t38, t39, t40, i4 y10.2.most_, .bool y10.2.isMere_, mq_bp0, i4 y10.2.code_], .flt 4 t38 y10.2.now_.t, .flt 4 t39 y10.2.conds_.t, .own true 3 t40 y10.2.matches_.t, .keep Fk σq, .box b1 [pp1], .keep F σk] ?_ ?_
     ·refine qo_ (fun hc16 => ?_) fun hc16 => ?_
      ·refine t_RU 3 ?_
       refine ab_ 0 ?_
       refine t_U 1 ?_
       refine ib_ hc16 (KeyM.pt 4 hp_pp1) ?_
       refine t_U 1 ?_
       refine if_ hc16 (KeyM.pt 4 hp_pp1) ?_
       refine t_N ?_
       exact t_eU fun hS hH => ⟨rfl, ad_ hS (by kernel_rfl), hH⟩
      exact t_eU fun hS hH => ⟨rfl, ad_ hS (by kernel_rfl), hH⟩
     refine t_RN ?_
     exact fO_ (rT rN) fun he hS hH => he ▸ ⟨t40, ht40, (ad_ hS (by kernel_rfl)), (Heap.sel hH [0, 5, 1, 2, 3, 4, 6] rfl (by kernel_rfl))⟩
    obtain ⟨t41, ht41, ⟨hS, hH⟩⟩ := HF
    refine t_bk h hS hH ?_
    refine t_N ?_
    refine t_if (fun hc17 => ?_) fun hc17 => ?_
    ·refine t_RN ?_
     intro h s σ hS hH
     obtain rfl := si_1 h
     exact ⟨rfl, (bp_ [t38, t39, t41] (bE_ (v := .bool false) hS rfl r_nil) rfl rfl (Heap.sel hH [0, 2, 3, 4, 5, 6] rfl (by kernel_rfl)))⟩
    exact t_e fun he hS hH => he ▸ ⟨t38, ht38, t39, ht39, t41, ht41, (ad_ hS (by kernel_rfl)), (Heap.sel hH [1, 0, 2, 3, 4, 5, 6] rfl (by kernel_rfl))⟩
   exact t_e fun he hS hH => he ▸ ⟨t38, ht38, t39, ht39, t40, ht40, rfl, (ad_ hS (by kernel_rfl)), (Heap.sel hH [0, 1, 2, 3, 4, 6] rfl (by kernel_rfl))⟩
  obtain ⟨s, σ⟩ := fr
  rcases y9 with y9 | y9
  ·have h := el_l h
   obtain ⟨t35, ht35, ⟨t36, ht36, ⟨t37, ht37, ⟨rfl, hS, hH⟩⟩⟩⟩ := HF
   refine t_bx h hS hH ?_
   refine t_RN ?_
   intro h s σ hS hH
   obtain rfl := si_1 h
   exact bp_ [t35, t36, t37] (bE_ (v := .bool false) hS rfl r_nil) rfl rfl hH
  have h := el_r h
  obtain ⟨rfl, HE⟩ := HF
  obtain rfl := si_1 h; exact HE
 refine t_RN ?_
 refine t_if (fun hc18 => ?_) fun hc18 => ?_
 ·refine bD_ [(10, RN), (14, RN)] ext_x fun mb σs hn0 hlt hlto => ?_
  refine t_U 4 ?_
  refine ab_ 0 ?_ (hlt := by exact (Or.inl (by kernel_rfl)))
  refine dy_ hp_pp1 ?_
  refine b9_ hp_pp1 ?_
  refine cJ_ 5 hp_pp1 ?_ (hlt := fun _ => Or.inl (by kernel_rfl))
  refine t_U 2 ?_
  refine ow_ (fun y12 s σ => ∃ t42, ar_ t42 ∧ ∃ t43, ar_ t43 ∧ Sub [(2, i4 a2), (3, th3), (89, .bool y12.1)] s ∧ Heap σ0 σ [.box bp0 [a0.env_.t, .str a0.subject_, i4 a0.fuel_, i4 y1.2.1, i4 a0.start_, t42, p0_2, t43, i4 a0.most_, .bool a0.isMere_, mq_bp0, i4 y12.2.1], .flt 4 t42 y12.2.2.1.t, .flt 4 p0_2 a0.conds_.t, .own true 3 t43 y12.2.2.2.t, .keep Fk σq, .keep F σk]) ext_x RN (fun _ _ _ _ _ _ x hx => False.elim hx) (by exact fun x hx => Or.inr ⟨10, by kernel_rfl, hx⟩) ok_147 (fun y12 => ?_) fun y12 s σ HF h => ?_
  ·refine t_R ?_
   refine cm_ (fun b2 => ?_)
   refine t_N ?_
   refine bD_ [(6, RN), (8, RN)] ext_x fun mb σs hn0 hlt hlto => ?_
   refine t_U 3 ?_
   refine ab_ 2 ?_ (hlt := by exact (Or.inl (by kernel_rfl)))
   refine ab_ 0 ?_ (hlt := by exact (Or.inl (by kernel_rfl)))
   refine pQ_ (⟨false, [(⟨a1.Text, ⟨#[]⟩, a2, 3⟩ : DCapture)]⟩ : Sl DCapture) (fun t44 ht44 => ?_) (hb := by exact hn0)
   refine kv_ 4 (fun hH => ie_ (hH.at 0 rfl) (by kernel_rfl)) (fun y13 t45 hy13 ht45 => ?_) (hb := by exact hn0) (hwr := by exact fun hH b e o n h0 => Or.inr ⟨6, by kernel_rfl, fun h => h⟩)
   refine t_U 1 ?_
   refine bI_ 4 ht45 ?_ (hwr := by exact fun hH => Or.inr ⟨8, by kernel_rfl, fun h => h⟩)
   refine t_N ?_
   refine t_D fun mb => ?_
   refine t_U 3 ?_
   refine ab_ 0 ?_
   refine i5_ (a := y13) 1 ?_
   refine t_U 3 ?_
   refine ab_ 0 ?_
   refine i5_ (a := a0.conds_) 5 ?_
   refine t_N ?_
   refine t_if (fun hc19 => ?_) fun hc19 => ?_
   ·refine t_RU 1 ?_
    refine fP_ ok_150 ?_
    refine t_RN ?_
    refine t_RU 5 ?_
    refine a6_ 0 ?_
    refine t_U 2 ?_
    refine a6_ 0 ?_
    refine t_N ?_
    refine t_RN ?_
    refine k_eI (rT rN) ?_
    refine t_N ?_
    refine t_h (Heap.addNil · true 3) ?_
    exact fO_ (rT rN) fun he hS hH => he ▸ ⟨t45, ht45, (T.row true 0 []), ⟨rfl, rfl⟩, (ad_ hS (by kernel_rfl)), (Heap.sel hH [1, 2, 6, 0, 8, 9] rfl (by kernel_rfl))⟩
   refine t_RN ?_
   exact fO_ (rT rN) fun he hS hH => he ▸ ⟨t45, ht45, t1, ht1, (ad_ hS (by kernel_rfl)), (Heap.sel hH [0, 1, 5, 6, 7, 8] rfl (by kernel_rfl))⟩
  obtain ⟨t42, ht42, ⟨t43, ht43, ⟨hS, hH⟩⟩⟩ := HF
  refine t_bk h hS hH ?_
  refine t_U 1 ?_
  refine ay_ 90 (fun hc20 => ?_) fun hc20 => ?_
  ·refine t_U 2 ?_
   intro h s σ hS hH
   obtain ⟨y14, hy14, h⟩ := bind_some h
   refine ku_ ext_x rfl RN Stay.nil (by exact fun x hx => Or.inr ⟨14, by kernel_rfl, hx⟩) (es := [.keep F σk]) (S := (⟨a0.env_, a0.subject_, a0.fuel_, y1.2.1, a0.start_, y12.2.2.1, a0.conds_, y12.2.2.2, a0.most_, a0.isMere_, T.nilm, y12.2.1⟩ : aa_)) (hs := [t42, p0_2, t43]) ht_th3 rfl hy14 rfl hS rfl rfl hH ?_; intro hs σ s hl hH hS
   obtain ⟨t46, t47, t48, rfl⟩ := len3 hl
   have hH : Heap σ0 σ [.box bp0 [y14.2.env_.t, .str y14.2.subject_, i4 y14.2.fuel_, i4 y14.2.steps_, i4 y14.2.start_, t46, t47, t48, i4 y14.2.most_, .bool y14.2.isMere_, mq_bp0, i4 y14.2.code_], .flt 4 t46 y14.2.now_.t, .flt 4 t47 y14.2.conds_.t, .own true 3 t48 y14.2.matches_.t, .keep Fk σq, .keep F σk] := hH
   refine t_bk h hS hH ?_
   refine a7_ 1 fun ht46 => ?_
   refine a7_ 2 fun ht47 => ?_
   refine a7_ 3 fun ht48 => ?_
   refine t_N ?_
   intro h s σ hS hH
   obtain rfl := si_1 h
   exact bp_ [t46, t47, t48] (bE_ (v := .bool y14.1) hS rfl r_nil) rfl rfl hH
  refine t_N ?_
  intro h s σ hS hH
  obtain rfl := si_1 h
  exact bp_ [t42, p0_2, t43] (bE_ (v := .bool false) hS rfl r_nil) rfl rfl hH
 refine t_RN ?_
 refine t_if (fun hc21 => ?_) fun hc21 => ?_
 ·refine t_RU 3 ?_
  refine ab_ 1 ?_
  refine t_U 1 ?_
  refine jJ_ (fun y15 s σ => Sub [(0, .ptr bp0 0 0 12), (2, i4 a2), (3, th3), (102, i4 y15)] s ∧ Heap σ0 σ [.box bp0 [a0.env_.t, .str a0.subject_, i4 a0.fuel_, i4 y1.2.1, i4 a0.start_, p0_1, p0_2, t1, i4 a0.most_, .bool a0.isMere_, mq_bp0, i4 y1.2.2.1], .flt 4 p0_1 a0.now_.t, .flt 4 p0_2 a0.conds_.t, .own true 3 t1 y1.2.2.2.t, .keep Fk σq, .keep F σk]) ok_148 (fun y15 => ?_) fun y15 s σ HF h => ?_
  ·refine t_RN ?_
   refine t_RN ?_
   refine bv_ (fun st4 fr => Sub [(0, a0.env_.t), (1, T.fn 149 [] [.ptr b1 0 0 1]), (7, i4 (a0.env_.l.length : Int)), (8, i4 st4)] fr.s ∧ Heap σ0 fr.σ [.box b1 [pp1], .box bp0 [a0.env_.t, .str a0.subject_, i4 a0.fuel_, i4 y1.2.1, i4 a0.start_, p0_1, p0_2, t1, i4 a0.most_, .bool a0.isMere_, mq_bp0, i4 y1.2.2.1], .flt 4 p0_1 a0.now_.t, .flt 4 p0_2 a0.conds_.t, .own true 3 t1 y1.2.2.2.t, .keep Fk σq, .keep F σk]) (fun y16 e fr => (Sum.elim (fun y => e = (.exit 0) ∧ Sub [] fr.s ∧ Heap σ0 fr.σ [.box bp0 [a0.env_.t, .str a0.subject_, i4 a0.fuel_, i4 y1.2.1, i4 a0.start_, p0_1, p0_2, t1, i4 a0.most_, .bool a0.isMere_, mq_bp0, i4 y1.2.2.1], .flt 4 p0_1 a0.now_.t, .flt 4 p0_2 a0.conds_.t, .own true 3 t1 y1.2.2.2.t, .keep Fk σq, .keep F σk]) (fun y => e = .ret ∧ Sub [(4, i4 y)] fr.s ∧ Heap σ0 fr.σ [.box bp0 [a0.env_.t, .str a0.subject_, i4 a0.fuel_, i4 y1.2.1, i4 a0.start_, p0_1, p0_2, t1, i4 a0.most_, .bool a0.isMere_, mq_bp0, i4 y1.2.2.1], .flt 4 p0_1 a0.now_.t, .flt 4 p0_2 a0.conds_.t, .own true 3 t1 y1.2.2.2.t, .keep Fk σq, .keep F σk])) y16) (fun hS hH => ⟨(ad_ hS (by kernel_rfl)), hH⟩) (fun st4 x fr h HI => ?_) fun y16 e fr h HF => ?_
   ·obtain ⟨s, σ⟩ := fr; obtain ⟨hS, hH⟩ := HI
    refine t_bk h hS hH ?_
    refine t_RN ?_
    refine t_if (fun hc22 => ?_) fun hc22 => ?_
    ·refine t_RN ?_
     refine t_RU 3 ?_
     refine cA_ fun y17 rest1 hy17 => ?_
     refine t_U 1 ?_
     refine fP_ ok_149 ?_
     refine t_R ?_
     refine cm_ (fun b3 => ?_)
     refine t_N ?_
     refine t_D fun mb => ?_
     refine t_U 1 ?_
     refine ab_ 0 ?_
     refine ab_ 1 ?_
     refine dy_ hp_pp1 ?_
     refine b9_ hp_pp1 ?_
     refine cJ_ 6 hp_pp1 ?_
     refine t_N ?_
     refine k_eI (rT rN) ?_
     refine t_N ?_
     refine t_if (fun hc23 => ?_) fun hc23 => ?_
     ·refine t_RN ?_
      exact t_e fun he hS hH => he ▸ ⟨rfl, (ad_ hS (by kernel_rfl)), (Heap.sel hH [2, 3, 4, 5, 6, 7] rfl (by kernel_rfl))⟩
     refine t_RN ?_
     exact t_e fun he hS hH => he ▸ ⟨(ad_ hS (by kernel_rfl)), (Heap.sel hH [1, 2, 3, 4, 5, 6, 7] rfl (by kernel_rfl))⟩
    exact t_e fun he hS hH => he ▸ ⟨rfl, (ad_ hS (by kernel_rfl)), (Heap.sel hH [1, 2, 3, 4, 5, 6] rfl (by kernel_rfl))⟩
   obtain ⟨s, σ⟩ := fr
   rcases y16 with y16 | y16
   ·have h := el_l h
    obtain ⟨rfl, hS, hH⟩ := HF
    refine t_bx h hS hH ?_
    refine t_RN ?_
    exact fO_ (rT rN) fun he hS hH => he ▸ ⟨(ad_ hS (by kernel_rfl)), hH⟩
   have h := el_r h
   obtain ⟨rfl, hS, hH⟩ := HF
   refine t_bx h hS hH ?_
   exact fO_ (rT rN) fun he hS hH => he ▸ ⟨(ad_ hS (by kernel_rfl)), hH⟩
  obtain ⟨hS, hH⟩ := HF
  refine t_bk h hS hH ?_
  refine t_N ?_
  refine t_RN ?_
  refine t_if (fun hc24 => ?_) fun hc24 => ?_
  ·refine t_RU 1 ?_
   refine fP_ ok_150 ?_
   refine t_RN ?_
   refine t_RU 5 ?_
   refine a6_ 0 ?_
   refine t_U 2 ?_
   refine a6_ 0 ?_
   refine t_N ?_
   refine t_RN ?_
   refine k_eI (rT rN) ?_
   refine t_N ?_
   intro h s σ hS hH
   obtain rfl := si_1 h
   refine t_bk h hS hH ?_
   refine t_h (Heap.addNil · true 3) ?_
   intro h s σ hS hH
   exact bp_ [p0_1, p0_2, (T.row true 0 [])] (bE_ (v := .bool false) hS rfl r_nil) rfl rfl (Heap.sel hH [1, 2, 3, 0, 5, 6] rfl (by kernel_rfl))
  refine t_RU 4 ?_
  refine ab_ 0 ?_
  refine t_U 1 ?_
  refine cA_ fun y18 rest2 hy18 => ?_
  refine t_U 3 ?_
  refine a1_ (fun y19 hs hy19 hl => ?_) (hr := by exact fun y19 hy19 => hR_123 _ _ _ _ y19 hy19 Fk σq bp0 mq_bp0 mh_bp0 p0_1 p0_2 t1 (.vw ([i4 y18.Pattern.Kind, i4 y18.Pattern.Num, .str y18.Pattern.Text, y18.Pattern.Kids.t] ++ rest2)) Pt.vw th3 hone_th3 ht_th3)
  obtain ⟨t49, t50, t51, rfl⟩ := len3 hl
  refine cj_ ?_
  refine a7_ 1 fun ht49 => ?_
  refine a7_ 2 fun ht50 => ?_
  refine a7_ 3 fun ht51 => ?_
  refine t_N ?_
  intro h s σ hS hH
  obtain rfl := si_1 h
  exact bp_ [t49, t50, t51] (bE_ (v := .bool y19.1) hS rfl r_nil) rfl rfl hH
 refine t_R ?_
 refine ab_ 0 ?_
 refine dy_ hp_pp1 ?_
 refine b9_ hp_pp1 ?_
 refine cJ_ 5 hp_pp1 ?_
 refine t_N ?_
 refine t_if (fun hc25 => ?_) fun hc25 => ?_
 ·refine t_RU 1 ?_
  refine ab_ 0 ?_
  refine t_U 2 ?_
  refine t_h (·.up5.up5.up5.up5.up5) ?_
  refine a1_ (fun y20 hs hy20 hl => ?_) (hr := by exact fun y20 hy20 => hR_151 _ _ _ _ y20 hy20 Fk σq bp0 mq_bp0 mh_bp0 p0_1 p0_2 t1 pp1 hp_pp1 th3 hone_th3 ht_th3)
  obtain ⟨t52, t53, t54, rfl⟩ := len3 hl
  refine cj_ ?_
  refine a7_ 1 fun ht52 => ?_
  refine a7_ 2 fun ht53 => ?_
  refine a7_ 3 fun ht54 => ?_
  refine t_N ?_
  intro h s σ hS hH
  obtain rfl := si_1 h
  exact bp_ [t52, t53, t54] (bE_ (v := .bool y20.1) hS rfl r_nil) rfl rfl (Heap.sel hH [0, 1, 2, 3, 4, 6] rfl (by kernel_rfl))
 refine t_D fun mb => ?_
 refine ab_ 0 ?_
 refine dy_ hp_pp1 ?_
 refine b9_ hp_pp1 ?_
 refine cJ_ 5 hp_pp1 ?_
 refine ab_ 0 ?_
 refine dy_ hp_pp1 ?_
 refine b9_ hp_pp1 ?_
 refine cJ_ 5 hp_pp1 ?_
 refine ab_ 0 ?_
 refine dy_ hp_pp1 ?_
 refine b9_ hp_pp1 ?_
 refine cJ_ 5 hp_pp1 ?_
 refine t_U 3 ?_
 refine ab_ 1 ?_
 refine t_U 1 ?_
 refine an_ fun y21 hy21 => ?_
 refine t_N ?_
 refine t_RU 3 ?_
 refine ay_ 149 (fun hc26 => ?_) fun hc26 => ?_
 ·refine t_N ?_
  intro h s σ hS hH
  obtain rfl := si_1 h
  exact bp_ [p0_1, p0_2, t1] (bE_ (v := .bool true) hS rfl r_nil) rfl rfl (Heap.sel hH [1, 2, 3, 4, 5, 6] rfl (by kernel_rfl))
 refine t_U 2 ?_
 refine t_h (·.up5.up5.up5.up5.up5) ?_
 intro h s σ hS hH
 obtain ⟨y22, hy22, h⟩ := bind_some h
 refine hD_ (es := [.box b1 [pp1], .keep F σk]) (S := (⟨a0.env_, a0.subject_, a0.fuel_, y1.2.1, a0.start_, a0.now_, a0.conds_, y1.2.2.2, a0.most_, a0.isMere_, T.nilm, y1.2.2.1⟩ : aa_)) (hs := [p0_1, p0_2, t1]) ht_th3 rfl hy22 rfl hS rfl rfl hH ?_; intro hs σ s hl hH hS
 obtain ⟨t55, t56, t57, rfl⟩ := len3 hl
 have hH : Heap σ0 σ [.box bp0 [y22.2.env_.t, .str y22.2.subject_, i4 y22.2.fuel_, i4 y22.2.steps_, i4 y22.2.start_, t55, t56, t57, i4 y22.2.most_, .bool y22.2.isMere_, mq_bp0, i4 y22.2.code_], .flt 4 t55 y22.2.now_.t, .flt 4 t56 y22.2.conds_.t, .own true 3 t57 y22.2.matches_.t, .keep Fk σq, .box b1 [pp1], .keep F σk] := hH
 refine t_bk h hS hH ?_
 refine a7_ 1 fun ht55 => ?_
 refine a7_ 2 fun ht56 => ?_
 refine a7_ 3 fun ht57 => ?_
 refine t_N ?_
 intro h s σ hS hH
 obtain rfl := si_1 h
 exact bp_ [t55, t56, t57] (bE_ (v := .bool y22.1) hS rfl r_nil) rfl rfl (Heap.sel hH [0, 1, 2, 3, 4, 6] rfl (by kernel_rfl))
noncomputable def ai_ (R_123 : aa_ → DPattern → Int → (Int → aa_ → Option (Bool × aa_)) → Option (Bool × aa_)) (R_151 : aa_ → DPattern → Int → (Int → aa_ → Option (Bool × aa_)) → Option (Bool × aa_)) (a0 : aa_) (a1 : DPattern) (a2 : Int) (a3 : (Int → aa_ → Option (Bool × aa_))) : Option (Bool × aa_) := ((elt a1.Kids 0).bind fun y1 => (if (decide (a1.Kind = 18)) = true then ((R_123 (⟨a0.env_, a0.subject_, a0.fuel_, a0.steps_, a0.start_, a0.now_, a0.conds_, a0.matches_, a0.most_, a0.isMere_, T.nilm, a0.code_⟩ : aa_) y1 a2 a3).bind fun y2 => (if y2.1 = true then ((elt a1.Kids 1).bind fun y3 => ((R_123 (⟨y2.2.env_, y2.2.subject_, y2.2.fuel_, y2.2.steps_, y2.2.start_, y2.2.now_, y2.2.conds_, y2.2.matches_, y2.2.most_, y2.2.isMere_, T.nilm, y2.2.code_⟩ : aa_) y3 a2 a3).bind fun y4 => (some (y4.1, (⟨y4.2.env_, y4.2.subject_, y4.2.fuel_, y4.2.steps_, y4.2.start_, y4.2.now_, y4.2.conds_, y4.2.matches_, y4.2.most_, y4.2.isMere_, T.nilm, y4.2.code_⟩ : aa_))))) else (some (false, (⟨y2.2.env_, y2.2.subject_, y2.2.fuel_, y2.2.steps_, y2.2.start_, y2.2.now_, y2.2.conds_, y2.2.matches_, y2.2.most_, y2.2.isMere_, T.nilm, y2.2.code_⟩ : aa_))))) else (if (decide (a1.Kind = 19)) = true then ((R_123 (⟨a0.env_, a0.subject_, a0.fuel_, a0.steps_, a0.start_, a0.now_, a0.conds_, a0.matches_, a0.most_, a0.isMere_, T.nilm, a0.code_⟩ : aa_) y1 a2 (aC_ R_123 R_151 a1 a3)).bind fun y5 => (some (y5.1, (⟨y5.2.env_, y5.2.subject_, y5.2.fuel_, y5.2.steps_, y5.2.start_, y5.2.now_, y5.2.conds_, y5.2.matches_, y5.2.most_, y5.2.isMere_, T.nilm, y5.2.code_⟩ : aa_)))) else (if (decide (a1.Kind = 20)) = true then ((a3 a2 (⟨a0.env_, a0.subject_, a0.fuel_, a0.steps_, a0.start_, a0.now_, a0.conds_, a0.matches_, a0.most_, a0.isMere_, T.nilm, a0.code_⟩ : aa_)).bind fun y6 => (if y6.1 = true then ((R_123 (⟨y6.2.env_, y6.2.subject_, y6.2.fuel_, y6.2.steps_, y6.2.start_, y6.2.now_, y6.2.conds_, y6.2.matches_, y6.2.most_, y6.2.isMere_, T.nilm, y6.2.code_⟩ : aa_) y1 a2 (al_ R_123 R_151 a2 a1 a3)).bind fun y7 => (some (y7.1, (⟨y7.2.env_, y7.2.subject_, y7.2.fuel_, y7.2.steps_, y7.2.start_, y7.2.now_, y7.2.conds_, y7.2.matches_, y7.2.most_, y7.2.isMere_, T.nilm, y7.2.code_⟩ : aa_)))) else (some (false, (⟨y6.2.env_, y6.2.subject_, y6.2.fuel_, y6.2.steps_, y6.2.start_, y6.2.now_, y6.2.conds_, y6.2.matches_, y6.2.most_, y6.2.isMere_, T.nilm, y6.2.code_⟩ : aa_))))) else ((R_123 (⟨a0.env_, a0.subject_, a0.fuel_, a0.steps_, a0.start_, a0.now_, a0.conds_, a0.matches_, a0.most_, a0.isMere_, T.nilm, a0.code_⟩ : aa_) y1 a2 (aq_ R_123 R_151 a1 a2 a3)).bind fun y8 => (some (y8.1, (⟨y8.2.env_, y8.2.subject_, y8.2.fuel_, y8.2.steps_, y8.2.start_, y8.2.now_, y8.2.conds_, y8.2.matches_, y8.2.most_, y8.2.isMere_, T.nilm, y8.2.code_⟩ : aa_))))))))
theorem fc_ (R_123 : aa_ → DPattern → Int → (Int → aa_ → Option (Bool × aa_)) → Option (Bool × aa_)) (R_151 : aa_ → DPattern → Int → (Int → aa_ → Option (Bool × aa_)) → Option (Bool × aa_)) (hR_123 : a0_ R_123) (hR_151 : aM_ R_151) : aM_ (ai_ R_123 R_151) := by
 intro a0 a1 a2 a3 r h Fk σq bp0 mq_bp0 mh_bp0 p0_1 p0_2 p0_3 pp1 hp_pp1 th3 hone_th3 ht_th3
 unfold ai_ at h
 refine cC_ rfl rfl ok_151 rfl ?_
 intro σ0 σ F σk s hS hH
 have hp0_1 : ar_ p0_1 := Heap.fltOne (hH.at 1 rfl)
 have hp0_2 : ar_ p0_2 := Heap.fltOne (hH.at 2 rfl)
 have hp0_3 : ar_ p0_3 := Heap.one (hH.at 3 rfl)
 have hmq_bp0 : ar_ mq_bp0 := gm_ mh_bp0
 have hone_pp1 : ar_ pp1 := hp_pp1.one
 have hS := ad_ (L' := [(0, .ptr bp0 0 0 12), (1, pp1), (2, i4 a2), (3, th3)]) hS (by kernel_rfl)
 refine t_go h hS hH ?_
 refine t_R ?_
 refine cm_ (fun b1 => ?_)
 refine o8_ hone_pp1 fun b2 => ?_
 refine cm_ (fun b3 => ?_)
 refine o8_ hone_th3 fun b4 => ?_
 refine t_N ?_
 refine t_R ?_
 refine ab_ 2 ?_
 refine dy_ hp_pp1 ?_
 refine b9_ hp_pp1 ?_
 refine cJ_ 8 hp_pp1 ?_
 refine cA_ fun y1 rest1 hy1 => ?_
 refine t_N ?_
 refine t_R ?_
 refine ab_ 2 ?_
 refine dy_ hp_pp1 ?_
 refine b9_ hp_pp1 ?_
 refine cJ_ 8 hp_pp1 ?_
 refine t_N ?_
 refine t_RN ?_
 refine t_if (fun hc1 => ?_) fun hc1 => ?_
 ·refine bD_ [(4, RN), (14, RN)] ext_x fun mb σs hn0 hlt hlto => ?_
  refine ab_ 3 ?_ (hlt := by exact (Or.inl (by kernel_rfl)))
  refine t_U 1 ?_
  refine ab_ 1 ?_ (hlt := by exact (Or.inl (by kernel_rfl)))
  refine ab_ 0 ?_ (hlt := by exact (Or.inl (by kernel_rfl)))
  refine t_h (·.up8.up8.up8.up8.up8) ?_
  refine gk_ RN ext_x Stay.nil (by exact fun x hx => Or.inr ⟨4, by kernel_rfl, hx⟩) (fun y2 hs hy2 hl => ?_) (hr := by exact fun y2 hy2 => hR_123 _ _ _ _ y2 hy2 Fk σq bp0 mq_bp0 mh_bp0 p0_1 p0_2 p0_3 (.vw ([i4 y1.Kind, i4 y1.Num, .str y1.Text, y1.Kids.t] ++ rest1)) Pt.vw th3 hone_th3 ht_th3)
  obtain ⟨t1, t2, t3, rfl⟩ := len3 hl
  refine cj_ ?_
  refine a7_ 1 fun ht1 => ?_
  refine a7_ 2 fun ht2 => ?_
  refine a7_ 3 fun ht3 => ?_
  refine t_U 1 ?_
  refine ay_ 26 (fun hc2 => ?_) fun hc2 => ?_
  ·refine ab_ 8 ?_ (hlt := by exact (Or.inl (by kernel_rfl)))
   refine ab_ 7 ?_ (hlt := by exact (Or.inl (by kernel_rfl)))
   refine dy_ hp_pp1 ?_
   refine b9_ hp_pp1 ?_
   refine cJ_ 4 hp_pp1 ?_ (hlt := fun _ => Or.inl (by kernel_rfl))
   refine cA_ fun y3 rest2 hy3 => ?_
   refine ab_ 6 ?_ (hlt := by exact (Or.inl (by kernel_rfl)))
   refine ab_ 5 ?_ (hlt := by exact (Or.inl (by kernel_rfl)))
   refine gk_ RN ext_x Stay.nil (by exact fun x hx => Or.inr ⟨14, by kernel_rfl, hx⟩) (fun y4 hs hy4 hl => ?_) (hr := by exact fun y4 hy4 => hR_123 _ _ _ _ y4 hy4 Fk σq bp0 mq_bp0 mh_bp0 t1 t2 t3 (.vw ([i4 y3.Kind, i4 y3.Num, .str y3.Text, y3.Kids.t] ++ rest2)) Pt.vw th3 hone_th3 ht_th3)
   obtain ⟨t4, t5, t6, rfl⟩ := len3 hl
   refine cj_ ?_
   refine a7_ 1 fun ht4 => ?_
   refine a7_ 2 fun ht5 => ?_
   refine a7_ 3 fun ht6 => ?_
   refine t_N ?_
   intro h s σ hS hH
   obtain rfl := si_1 h
   exact bp_ [t4, t5, t6] (bE_ (v := .bool y4.1) hS rfl r_nil) rfl rfl (Heap.sel hH [0, 1, 2, 3, 4, 9] rfl (by kernel_rfl))
  refine t_N ?_
  intro h s σ hS hH
  obtain rfl := si_1 h
  exact bp_ [t1, t2, t3] (bE_ (v := .bool false) hS rfl r_nil) rfl rfl (Heap.sel hH [0, 1, 2, 3, 4, 9] rfl (by kernel_rfl))
 refine t_RN ?_
 refine t_if (fun hc3 => ?_) fun hc3 => ?_
 ·refine t_R ?_
  refine ab_ 3 ?_
  refine t_U 1 ?_
  refine ab_ 1 ?_
  refine t_U 1 ?_
  refine t_h (·.up8.up4.up4.up4.up4) ?_
  intro h s σ hS hH
  obtain ⟨Fq1, σq1, hH, hU1, hB1, hK1⟩ := Heap.wrapN (A := [.box b4 [th3], .box b3 [i4 a2], .box b2 [pp1], .box b1 [.ptr bp0 0 0 12], .keep Fk σq]) hH
  have hH := hH.up4.up4.up4.up4
  refine t_bk h hS hH ?_
  refine a1_ (fun y5 hs hy5 hl => ?_) (hr := by exact fun y5 hy5 => hR_123 _ _ _ _ y5 hy5 Fq1 σq1 bp0 mq_bp0 mh_bp0 p0_1 p0_2 p0_3 (.vw ([i4 y1.Kind, i4 y1.Num, .str y1.Text, y1.Kids.t] ++ rest1)) Pt.vw (T.fn 173 [] [.ptr b1 0 0 1, .ptr b2 0 0 1, .ptr b4 0 0 1]) ⟨rfl, rfl⟩ ((eE_ R_123 R_151 hR_123 hR_151 Fq1 σq1 bp0 mq_bp0 mh_bp0 a1 a3 b1 (hB1 _ _ (List.Mem.tail _ (List.Mem.tail _ (List.Mem.tail _ (List.Mem.head _))))) b2 pp1 (hp_pp1.mono (hK1 _ _ (List.Mem.tail _ (List.Mem.tail _ (List.Mem.tail _ (List.Mem.tail _ (List.Mem.head _))))))) (hB1 _ _ (List.Mem.tail _ (List.Mem.tail _ (List.Mem.head _)))) b4 th3 hone_th3 (ht_th3.mono (hK1 _ _ (List.Mem.tail _ (List.Mem.tail _ (List.Mem.tail _ (List.Mem.tail _ (List.Mem.head _))))))) (hB1 _ _ (List.Mem.head _)))))
  obtain ⟨t7, t8, t9, rfl⟩ := len3 hl
  refine cj_ ?_
  refine a7_ 1 fun ht7 => ?_
  refine a7_ 2 fun ht8 => ?_
  refine a7_ 3 fun ht9 => ?_
  refine t_h Heap.up4 ?_
  intro h s σ hS hH
  have hH := hU1 _ _ hH
  have hH : Heap σ0 σ [.box b4 [th3], .box b3 [i4 a2], .box b2 [pp1], .box b1 [.ptr bp0 0 0 12], .keep Fk σq, .box bp0 [y5.2.env_.t, .str y5.2.subject_, i4 y5.2.fuel_, i4 y5.2.steps_, i4 y5.2.start_, t7, t8, t9, i4 y5.2.most_, .bool y5.2.isMere_, mq_bp0, i4 y5.2.code_], .flt 4 t7 y5.2.now_.t, .flt 4 t8 y5.2.conds_.t, .own true 3 t9 y5.2.matches_.t, .keep F σk] := hH
  refine t_bk h hS hH ?_
  refine t_N ?_
  intro h s σ hS hH
  obtain rfl := si_1 h
  exact bp_ [t7, t8, t9] (bE_ (v := .bool y5.1) hS rfl r_nil) rfl rfl (Heap.sel hH [5, 6, 7, 8, 4, 9] rfl (by kernel_rfl))
 refine t_RN ?_
 refine t_if (fun hc4 => ?_) fun hc4 => ?_
 ·refine t_R ?_
  refine ab_ 0 ?_
  refine ab_ 1 ?_
  refine t_h (·.up8.up8.up8.up8.up8) ?_
  intro h s σ hS hH
  obtain ⟨y6, hy6, h⟩ := bind_some h
  refine hD_ (es := [.box b4 [th3], .box b3 [i4 a2], .box b2 [pp1], .box b1 [.ptr bp0 0 0 12], .keep F σk]) (S := (⟨a0.env_, a0.subject_, a0.fuel_, a0.steps_, a0.start_, a0.now_, a0.conds_, a0.matches_, a0.most_, a0.isMere_, T.nilm, a0.code_⟩ : aa_)) (hs := [p0_1, p0_2, p0_3]) ht_th3 rfl hy6 rfl hS rfl rfl hH ?_; intro hs σ s hl hH hS
  obtain ⟨t10, t11, t12, rfl⟩ := len3 hl
  have hH : Heap σ0 σ [.box bp0 [y6.2.env_.t, .str y6.2.subject_, i4 y6.2.fuel_, i4 y6.2.steps_, i4 y6.2.start_, t10, t11, t12, i4 y6.2.most_, .bool y6.2.isMere_, mq_bp0, i4 y6.2.code_], .flt 4 t10 y6.2.now_.t, .flt 4 t11 y6.2.conds_.t, .own true 3 t12 y6.2.matches_.t, .keep Fk σq, .box b4 [th3], .box b3 [i4 a2], .box b2 [pp1], .box b1 [.ptr bp0 0 0 12], .keep F σk] := hH
  refine t_bk h hS hH ?_
  refine a7_ 1 fun ht10 => ?_
  refine a7_ 2 fun ht11 => ?_
  refine a7_ 3 fun ht12 => ?_
  refine t_U 1 ?_
  refine ay_ 49 (fun hc5 => ?_) fun hc5 => ?_
  ·refine ab_ 8 ?_
   refine t_U 1 ?_
   refine ab_ 6 ?_
   refine t_U 1 ?_
   refine t_h (·.up4.up8.up8.up8.up8) ?_
   intro h s σ hS hH
   obtain ⟨Fq2, σq2, hH, hU2, hB2, hK2⟩ := Heap.wrapN (A := [.box b4 [th3], .box b3 [i4 a2], .box b2 [pp1], .box b1 [.ptr bp0 0 0 12], .keep Fk σq]) hH
   have hH := hH.up4.up4.up4.up4
   refine t_bk h hS hH ?_
   refine a1_ (fun y7 hs hy7 hl => ?_) (hr := by exact fun y7 hy7 => hR_123 _ _ _ _ y7 hy7 Fq2 σq2 bp0 mq_bp0 mh_bp0 t10 t11 t12 (.vw ([i4 y1.Kind, i4 y1.Num, .str y1.Text, y1.Kids.t] ++ rest1)) Pt.vw (T.fn 174 [] [.ptr b3 0 0 1, .ptr b1 0 0 1, .ptr b2 0 0 1, .ptr b4 0 0 1]) ⟨rfl, rfl⟩ ((eF_ R_123 R_151 hR_123 hR_151 Fq2 σq2 bp0 mq_bp0 mh_bp0 a2 a1 a3 b3 (hB2 _ _ (List.Mem.tail _ (List.Mem.head _))) b1 (hB2 _ _ (List.Mem.tail _ (List.Mem.tail _ (List.Mem.tail _ (List.Mem.head _))))) b2 pp1 (hp_pp1.mono (hK2 _ _ (List.Mem.tail _ (List.Mem.tail _ (List.Mem.tail _ (List.Mem.tail _ (List.Mem.head _))))))) (hB2 _ _ (List.Mem.tail _ (List.Mem.tail _ (List.Mem.head _)))) b4 th3 hone_th3 (ht_th3.mono (hK2 _ _ (List.Mem.tail _ (List.Mem.tail _ (List.Mem.tail _ (List.Mem.tail _ (List.Mem.head _))))))) (hB2 _ _ (List.Mem.head _)))))
   obtain ⟨t13, t14, t15, rfl⟩ := len3 hl
   refine cj_ ?_
   refine a7_ 1 fun ht13 => ?_
   refine a7_ 2 fun ht14 => ?_
   refine a7_ 3 fun ht15 => ?_
   refine t_h Heap.up4 ?_
   intro h s σ hS hH
   have hH := hU2 _ _ hH
   have hH : Heap σ0 σ [.box b4 [th3], .box b3 [i4 a2], .box b2 [pp1], .box b1 [.ptr bp0 0 0 12], .keep Fk σq, .box bp0 [y7.2.env_.t, .str y7.2.subject_, i4 y7.2.fuel_, i4 y7.2.steps_, i4 y7.2.start_, t13, t14, t15, i4 y7.2.most_, .bool y7.2.isMere_, mq_bp0, i4 y7.2.code_], .flt 4 t13 y7.2.now_.t, .flt 4 t14 y7.2.conds_.t, .own true 3 t15 y7.2.matches_.t, .keep F σk] := hH
   refine t_bk h hS hH ?_
   refine t_N ?_
   intro h s σ hS hH
   obtain rfl := si_1 h
   exact bp_ [t13, t14, t15] (bE_ (v := .bool y7.1) hS rfl r_nil) rfl rfl (Heap.sel hH [5, 6, 7, 8, 4, 9] rfl (by kernel_rfl))
  refine t_N ?_
  intro h s σ hS hH
  obtain rfl := si_1 h
  exact bp_ [t10, t11, t12] (bE_ (v := .bool false) hS rfl r_nil) rfl rfl (Heap.sel hH [0, 1, 2, 3, 4, 9] rfl (by kernel_rfl))
 refine t_R ?_
 refine ab_ 3 ?_
 refine t_U 1 ?_
 refine ab_ 1 ?_
 refine t_U 1 ?_
 refine t_h (·.up8.up4.up4.up4.up4) ?_
 intro h s σ hS hH
 obtain ⟨Fq3, σq3, hH, hU3, hB3, hK3⟩ := Heap.wrapN (A := [.box b4 [th3], .box b3 [i4 a2], .box b2 [pp1], .box b1 [.ptr bp0 0 0 12], .keep Fk σq]) hH
 have hH := hH.up4.up4.up4.up4
 refine t_bk h hS hH ?_
 refine a1_ (fun y8 hs hy8 hl => ?_) (hr := by exact fun y8 hy8 => hR_123 _ _ _ _ y8 hy8 Fq3 σq3 bp0 mq_bp0 mh_bp0 p0_1 p0_2 p0_3 (.vw ([i4 y1.Kind, i4 y1.Num, .str y1.Text, y1.Kids.t] ++ rest1)) Pt.vw (T.fn 175 [] [.ptr b2 0 0 1, .ptr b1 0 0 1, .ptr b3 0 0 1, .ptr b4 0 0 1]) ⟨rfl, rfl⟩ ((eD_ R_123 R_151 hR_123 hR_151 Fq3 σq3 bp0 mq_bp0 mh_bp0 a1 a2 a3 b2 pp1 (hp_pp1.mono (hK3 _ _ (List.Mem.tail _ (List.Mem.tail _ (List.Mem.tail _ (List.Mem.tail _ (List.Mem.head _))))))) (hB3 _ _ (List.Mem.tail _ (List.Mem.tail _ (List.Mem.head _)))) b1 (hB3 _ _ (List.Mem.tail _ (List.Mem.tail _ (List.Mem.tail _ (List.Mem.head _))))) b3 (hB3 _ _ (List.Mem.tail _ (List.Mem.head _))) b4 th3 hone_th3 (ht_th3.mono (hK3 _ _ (List.Mem.tail _ (List.Mem.tail _ (List.Mem.tail _ (List.Mem.tail _ (List.Mem.head _))))))) (hB3 _ _ (List.Mem.head _)))))
 obtain ⟨t16, t17, t18, rfl⟩ := len3 hl
 refine cj_ ?_
 refine a7_ 1 fun ht16 => ?_
 refine a7_ 2 fun ht17 => ?_
 refine a7_ 3 fun ht18 => ?_
 refine t_h Heap.up4 ?_
 intro h s σ hS hH
 have hH := hU3 _ _ hH
 have hH : Heap σ0 σ [.box b4 [th3], .box b3 [i4 a2], .box b2 [pp1], .box b1 [.ptr bp0 0 0 12], .keep Fk σq, .box bp0 [y8.2.env_.t, .str y8.2.subject_, i4 y8.2.fuel_, i4 y8.2.steps_, i4 y8.2.start_, t16, t17, t18, i4 y8.2.most_, .bool y8.2.isMere_, mq_bp0, i4 y8.2.code_], .flt 4 t16 y8.2.now_.t, .flt 4 t17 y8.2.conds_.t, .own true 3 t18 y8.2.matches_.t, .keep F σk] := hH
 refine t_bk h hS hH ?_
 refine t_N ?_
 intro h s σ hS hH
 obtain rfl := si_1 h
 exact bp_ [t16, t17, t18] (bE_ (v := .bool y8.1) hS rfl r_nil) rfl rfl (Heap.sel hH [5, 6, 7, 8, 4, 9] rfl (by kernel_rfl))
noncomputable def BG_impl_search_match : Nat → (aa_ → DPattern → Int → (Int → aa_ → Option (Bool × aa_)) → Option (Bool × aa_)) × (aa_ → DPattern → Int → (Int → aa_ → Option (Bool × aa_)) → Option (Bool × aa_))
 | 0 => ((fun _ _ _ _ => none), (fun _ _ _ _ => none))
 | n + 1 => (ac_ (BG_impl_search_match n).1 (BG_impl_search_match n).2, ai_ (BG_impl_search_match n).1 (BG_impl_search_match n).2)
theorem uBG_impl_search_match : ∀ n, a0_ ((BG_impl_search_match n).1) ∧ aM_ ((BG_impl_search_match n).2)
 | 0 => ⟨(by intro _ _ _ _ r h; have h : none = some r := h; cases h), (by intro _ _ _ _ r h; have h : none = some r := h; cases h)⟩
 | n + 1 => ⟨gp_ (BG_impl_search_match n).1 (BG_impl_search_match n).2 (uBG_impl_search_match n).1 (uBG_impl_search_match n).2, fc_ (BG_impl_search_match n).1 (BG_impl_search_match n).2 (uBG_impl_search_match n).1 (uBG_impl_search_match n).2⟩
noncomputable def c0_ (a0 : aa_) (a1 : DPattern) (a2 : Int) (a3 : (Int → aa_ → Option (Bool × aa_))) : Option (Bool × aa_) := (BG_impl_search_match bigN).1 a0 a1 a2 a3
theorem gK_ (a0 : aa_) (a1 : DPattern) (a2 : Int) (a3 : (Int → aa_ → Option (Bool × aa_))) (r : (Bool × aa_)) (h : c0_ a0 a1 a2 a3 = some r) (Fk : List Nat) (σq : St) (bp0 : Nat) (mq_bp0 : T) (mh_bp0 : isMp mq_bp0 = true) (p0_1 p0_2 p0_3 : T) (pp1 : T) (hp_pp1 : Pt Fk σq pp1 [i4 a1.Kind, i4 a1.Num, .str a1.Text, a1.Kids.t]) (th3 : T) (hone_th3 : ar_ th3) (ht_th3 : d3_ Try.prog md ext (aY_ bp0 mq_bp0) 3 th3 a3 Fk σq) : RawS Try.prog md ext 123 [.ptr bp0 0 0 12, pp1, i4 a2, th3] 3 (fun hs => E_bool r.1) [.box bp0 [a0.env_.t, .str a0.subject_, i4 a0.fuel_, i4 a0.steps_, i4 a0.start_, p0_1, p0_2, p0_3, i4 a0.most_, .bool a0.isMere_, mq_bp0, i4 a0.code_], .flt 4 p0_1 a0.now_.t, .flt 4 p0_2 a0.conds_.t, .own true 3 p0_3 a0.matches_.t, .keep Fk σq] (fun hs => aY_ bp0 mq_bp0 r.2 hs ++ [.keep Fk σq]) := (uBG_impl_search_match bigN).1 a0 a1 a2 a3 r h Fk σq bp0 mq_bp0 mh_bp0 p0_1 p0_2 p0_3 pp1 hp_pp1 th3 hone_th3 ht_th3
noncomputable def fL_ (a0 : aa_) (a1 : DPattern) (a2 : Int) (a3 : (Int → aa_ → Option (Bool × aa_))) : Option (Bool × aa_) := (BG_impl_search_match bigN).2 a0 a1 a2 a3
theorem jT_ (a0 : aa_) (a1 : DPattern) (a2 : Int) (a3 : (Int → aa_ → Option (Bool × aa_))) (r : (Bool × aa_)) (h : fL_ a0 a1 a2 a3 = some r) (Fk : List Nat) (σq : St) (bp0 : Nat) (mq_bp0 : T) (mh_bp0 : isMp mq_bp0 = true) (p0_1 p0_2 p0_3 : T) (pp1 : T) (hp_pp1 : Pt Fk σq pp1 [i4 a1.Kind, i4 a1.Num, .str a1.Text, a1.Kids.t]) (th3 : T) (hone_th3 : ar_ th3) (ht_th3 : d3_ Try.prog md ext (aY_ bp0 mq_bp0) 3 th3 a3 Fk σq) : RawS Try.prog md ext 151 [.ptr bp0 0 0 12, pp1, i4 a2, th3] 3 (fun hs => E_bool r.1) [.box bp0 [a0.env_.t, .str a0.subject_, i4 a0.fuel_, i4 a0.steps_, i4 a0.start_, p0_1, p0_2, p0_3, i4 a0.most_, .bool a0.isMere_, mq_bp0, i4 a0.code_], .flt 4 p0_1 a0.now_.t, .flt 4 p0_2 a0.conds_.t, .own true 3 p0_3 a0.matches_.t, .keep Fk σq] (fun hs => aY_ bp0 mq_bp0 r.2 hs ++ [.keep Fk σq]) := (uBG_impl_search_match bigN).2 a0 a1 a2 a3 r h Fk σq bp0 mq_bp0 mh_bp0 p0_1 p0_2 p0_3 pp1 hp_pp1 th3 hone_th3 ht_th3
end Go.Am
