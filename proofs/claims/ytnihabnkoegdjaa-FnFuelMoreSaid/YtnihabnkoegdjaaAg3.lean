/- Functions of the program. -/
import Derived.Test.YtnihabnkoegdjaaAd0
set_option maxRecDepth 100000
set_option maxHeartbeats 4000000
set_option linter.unusedVariables false
set_option linter.unusedSimpArgs false
namespace Go.Am
open Go.Proofs
def cD_ (R : an_ → DPattern → Int → Int → Option (Unit × an_)) : Prop := ∀ (a0 : an_) (a1 : DPattern) (a2 : Int) (a3 : Int) (r : (Unit × an_)), R a0 a1 a2 a3 = some r → ∀ (bp0 : Nat) (p0_1 p0_2 p0_3 p0_4 : T), RawS Try.prog md ext 119 [.ptr bp0 0 0 13, .agg [i4 a1.Kind, i4 a1.Num, .str a1.Text, a1.Kids.t], i4 a2, i4 a3] 4 (fun hs => E_t0_ r.1) [.box bp0 [a0.env_.t, .str a0.s_, i4 a0.fuel_, i4 a0.mode_, i4 a0.steps_, p0_1, p0_2, p0_3, p0_4, .bool a0.full_, .bool a0.abort_, .bool a0.stop_, i4 a0.code_], .flt 6 p0_1 a0.conts_.t, .own true 3 p0_2 a0.out_.t, .flt 4 p0_3 a0.now_.t, .flt 4 p0_4 a0.conds_.t] (fun hs => f6_ bp0 r.2 hs)
def cx_ (R : an_ → Int → Int → Option (Unit × an_)) : Prop := ∀ (a0 : an_) (a1 : Int) (a2 : Int) (r : (Unit × an_)), R a0 a1 a2 = some r → ∀ (bp0 : Nat) (p0_1 p0_2 p0_3 p0_4 : T), RawS Try.prog md ext 149 [.ptr bp0 0 0 13, i4 a1, i4 a2] 4 (fun hs => E_t0_ r.1) [.box bp0 [a0.env_.t, .str a0.s_, i4 a0.fuel_, i4 a0.mode_, i4 a0.steps_, p0_1, p0_2, p0_3, p0_4, .bool a0.full_, .bool a0.abort_, .bool a0.stop_, i4 a0.code_], .flt 6 p0_1 a0.conts_.t, .own true 3 p0_2 a0.out_.t, .flt 4 p0_3 a0.now_.t, .flt 4 p0_4 a0.conds_.t] (fun hs => f6_ bp0 r.2 hs)
noncomputable def af_ (R_119 : an_ → DPattern → Int → Int → Option (Unit × an_)) (R_149 : an_ → Int → Int → Option (Unit × an_)) (a0 : an_) (a1 : DPattern) (a2 : Int) (a3 : Int) : Option (Unit × an_) := (((if (decide (a0.fuel_ ≤ a0.steps_)) = true then (some (false, a0.steps_, 7)) else (some (true, (w4 (a0.steps_ + 1)), a0.code_))) : Option (Bool × Int × Int)).bind fun y1 => (if (!y1.1) = true then (some ((), (⟨a0.env_, a0.s_, a0.fuel_, a0.mode_, y1.2.1, a0.conts_, a0.out_, a0.now_, a0.conds_, a0.full_, a0.abort_, a0.stop_, y1.2.2⟩ : an_))) else (if (decide (a1.Kind = 12)) = true then ((aF_ (S := (Int × (Sl DNamed) × ByteArray × Int × Int × Int × Bool × Bool × Bool × Int × (Sl ah_) × (Sl DMatch) × (Sl DCapture) × (Sl DCapture))) (R := ((Sl DNamed) × ByteArray × Int × Int × Int × Bool × Bool × Bool × Int × (Sl ah_) × (Sl DMatch) × (Sl DCapture) × (Sl DCapture))) (fun st1 => (if (decide (st1.1 ≤ (st1.2.2.1.size : Int))) = true then (if st1.2.2.2.2.2.2.2.1 = true then (some (.inr (st1.2.1, st1.2.2.1, st1.2.2.2.1, st1.2.2.2.2.1, st1.2.2.2.2.2.1, st1.2.2.2.2.2.2.1, st1.2.2.2.2.2.2.2.1, st1.2.2.2.2.2.2.2.2.1, st1.2.2.2.2.2.2.2.2.2.1, st1.2.2.2.2.2.2.2.2.2.2.1, st1.2.2.2.2.2.2.2.2.2.2.2.1, st1.2.2.2.2.2.2.2.2.2.2.2.2.1, st1.2.2.2.2.2.2.2.2.2.2.2.2.2))) else (if st1.2.2.2.2.2.2.2.2.1 = true then (some (.inr (st1.2.1, st1.2.2.1, st1.2.2.2.1, st1.2.2.2.2.1, st1.2.2.2.2.2.1, st1.2.2.2.2.2.2.1, st1.2.2.2.2.2.2.2.1, st1.2.2.2.2.2.2.2.2.1, st1.2.2.2.2.2.2.2.2.2.1, st1.2.2.2.2.2.2.2.2.2.2.1, st1.2.2.2.2.2.2.2.2.2.2.2.1, st1.2.2.2.2.2.2.2.2.2.2.2.2.1, st1.2.2.2.2.2.2.2.2.2.2.2.2.2))) else (if (!(!decide (st1.2.2.2.2.2.2.2.2.2.1 = 0))) = true then ((R_149 (⟨st1.2.1, st1.2.2.1, st1.2.2.2.1, st1.2.2.2.2.1, st1.2.2.2.2.2.1, st1.2.2.2.2.2.2.2.2.2.2.1, st1.2.2.2.2.2.2.2.2.2.2.2.1, st1.2.2.2.2.2.2.2.2.2.2.2.2.1, st1.2.2.2.2.2.2.2.2.2.2.2.2.2, st1.2.2.2.2.2.2.1, st1.2.2.2.2.2.2.2.1, st1.2.2.2.2.2.2.2.2.1, st1.2.2.2.2.2.2.2.2.2.1⟩ : an_) a3 st1.1).bind fun y3 => (some (.inl ((w4 (st1.1 + 1)), y3.2.env_, y3.2.s_, y3.2.fuel_, y3.2.mode_, y3.2.steps_, y3.2.full_, y3.2.abort_, y3.2.stop_, y3.2.code_, y3.2.conts_, y3.2.out_, y3.2.now_, y3.2.conds_)))) else (some (.inr (st1.2.1, st1.2.2.1, st1.2.2.2.1, st1.2.2.2.2.1, st1.2.2.2.2.2.1, st1.2.2.2.2.2.2.1, st1.2.2.2.2.2.2.2.1, st1.2.2.2.2.2.2.2.2.1, st1.2.2.2.2.2.2.2.2.2.1, st1.2.2.2.2.2.2.2.2.2.2.1, st1.2.2.2.2.2.2.2.2.2.2.2.1, st1.2.2.2.2.2.2.2.2.2.2.2.2.1, st1.2.2.2.2.2.2.2.2.2.2.2.2.2)))))) else (some (.inr (st1.2.1, st1.2.2.1, st1.2.2.2.1, st1.2.2.2.2.1, st1.2.2.2.2.2.1, st1.2.2.2.2.2.2.1, st1.2.2.2.2.2.2.2.1, st1.2.2.2.2.2.2.2.2.1, st1.2.2.2.2.2.2.2.2.2.1, st1.2.2.2.2.2.2.2.2.2.2.1, st1.2.2.2.2.2.2.2.2.2.2.2.1, st1.2.2.2.2.2.2.2.2.2.2.2.2.1, st1.2.2.2.2.2.2.2.2.2.2.2.2.2))))) (a2, a0.env_, a0.s_, a0.fuel_, a0.mode_, y1.2.1, a0.full_, a0.abort_, a0.stop_, y1.2.2, a0.conts_, a0.out_, a0.now_, a0.conds_)).bind fun y2 => (some ((), (⟨y2.1, y2.2.1, y2.2.2.1, y2.2.2.2.1, y2.2.2.2.2.1, y2.2.2.2.2.2.2.2.2.2.1, y2.2.2.2.2.2.2.2.2.2.2.1, y2.2.2.2.2.2.2.2.2.2.2.2.1, y2.2.2.2.2.2.2.2.2.2.2.2.2, y2.2.2.2.2.2.1, y2.2.2.2.2.2.2.1, y2.2.2.2.2.2.2.2.1, y2.2.2.2.2.2.2.2.2.1⟩ : an_)))) else (if (decide (a1.Kind = 13)) = true then ((b4_ a0.s_ a2 a2).bind fun y4 => ((aF_ (S := (Int × (Sl DNamed) × ByteArray × Int × Int × Int × Bool × Bool × Bool × Int × (Sl ah_) × (Sl DMatch) × (Sl DCapture) × (Sl DCapture))) (R := ((Sl DNamed) × ByteArray × Int × Int × Int × Bool × Bool × Bool × Int × (Sl ah_) × (Sl DMatch) × (Sl DCapture) × (Sl DCapture))) (fun st2 => (if (decide (0 ≤ st2.1)) = true then (if st2.2.2.2.2.2.2.2.1 = true then (some (.inr (st2.2.1, st2.2.2.1, st2.2.2.2.1, st2.2.2.2.2.1, st2.2.2.2.2.2.1, st2.2.2.2.2.2.2.1, st2.2.2.2.2.2.2.2.1, st2.2.2.2.2.2.2.2.2.1, st2.2.2.2.2.2.2.2.2.2.1, st2.2.2.2.2.2.2.2.2.2.2.1, st2.2.2.2.2.2.2.2.2.2.2.2.1, st2.2.2.2.2.2.2.2.2.2.2.2.2.1, st2.2.2.2.2.2.2.2.2.2.2.2.2.2))) else (if st2.2.2.2.2.2.2.2.2.1 = true then (some (.inr (st2.2.1, st2.2.2.1, st2.2.2.2.1, st2.2.2.2.2.1, st2.2.2.2.2.2.1, st2.2.2.2.2.2.2.1, st2.2.2.2.2.2.2.2.1, st2.2.2.2.2.2.2.2.2.1, st2.2.2.2.2.2.2.2.2.2.1, st2.2.2.2.2.2.2.2.2.2.2.1, st2.2.2.2.2.2.2.2.2.2.2.2.1, st2.2.2.2.2.2.2.2.2.2.2.2.2.1, st2.2.2.2.2.2.2.2.2.2.2.2.2.2))) else (if (!(!decide (st2.2.2.2.2.2.2.2.2.2.1 = 0))) = true then ((R_149 (⟨st2.2.1, st2.2.2.1, st2.2.2.2.1, st2.2.2.2.2.1, st2.2.2.2.2.2.1, st2.2.2.2.2.2.2.2.2.2.2.1, st2.2.2.2.2.2.2.2.2.2.2.2.1, st2.2.2.2.2.2.2.2.2.2.2.2.2.1, st2.2.2.2.2.2.2.2.2.2.2.2.2.2, st2.2.2.2.2.2.2.1, st2.2.2.2.2.2.2.2.1, st2.2.2.2.2.2.2.2.2.1, st2.2.2.2.2.2.2.2.2.2.1⟩ : an_) a3 st2.1).bind fun y6 => ((b4_ y6.2.s_ a2 st2.1).bind fun y7 => (some (.inl (y7, y6.2.env_, y6.2.s_, y6.2.fuel_, y6.2.mode_, y6.2.steps_, y6.2.full_, y6.2.abort_, y6.2.stop_, y6.2.code_, y6.2.conts_, y6.2.out_, y6.2.now_, y6.2.conds_))))) else (some (.inr (st2.2.1, st2.2.2.1, st2.2.2.2.1, st2.2.2.2.2.1, st2.2.2.2.2.2.1, st2.2.2.2.2.2.2.1, st2.2.2.2.2.2.2.2.1, st2.2.2.2.2.2.2.2.2.1, st2.2.2.2.2.2.2.2.2.2.1, st2.2.2.2.2.2.2.2.2.2.2.1, st2.2.2.2.2.2.2.2.2.2.2.2.1, st2.2.2.2.2.2.2.2.2.2.2.2.2.1, st2.2.2.2.2.2.2.2.2.2.2.2.2.2)))))) else (some (.inr (st2.2.1, st2.2.2.1, st2.2.2.2.1, st2.2.2.2.2.1, st2.2.2.2.2.2.1, st2.2.2.2.2.2.2.1, st2.2.2.2.2.2.2.2.1, st2.2.2.2.2.2.2.2.2.1, st2.2.2.2.2.2.2.2.2.2.1, st2.2.2.2.2.2.2.2.2.2.2.1, st2.2.2.2.2.2.2.2.2.2.2.2.1, st2.2.2.2.2.2.2.2.2.2.2.2.2.1, st2.2.2.2.2.2.2.2.2.2.2.2.2.2))))) (y4, a0.env_, a0.s_, a0.fuel_, a0.mode_, y1.2.1, a0.full_, a0.abort_, a0.stop_, y1.2.2, a0.conts_, a0.out_, a0.now_, a0.conds_)).bind fun y5 => (some ((), (⟨y5.1, y5.2.1, y5.2.2.1, y5.2.2.2.1, y5.2.2.2.2.1, y5.2.2.2.2.2.2.2.2.2.1, y5.2.2.2.2.2.2.2.2.2.2.1, y5.2.2.2.2.2.2.2.2.2.2.2.1, y5.2.2.2.2.2.2.2.2.2.2.2.2, y5.2.2.2.2.2.1, y5.2.2.2.2.2.2.1, y5.2.2.2.2.2.2.2.1, y5.2.2.2.2.2.2.2.2.1⟩ : an_))))) else (if (decide (a1.Kind = 14)) = true then ((R_149 (⟨a0.env_, a0.s_, a0.fuel_, a0.mode_, y1.2.1, a0.conts_, a0.out_, a0.now_, a0.conds_, a0.full_, a0.abort_, a0.stop_, y1.2.2⟩ : an_) a3 a2).bind fun y8 => (some ((), (⟨y8.2.env_, y8.2.s_, y8.2.fuel_, y8.2.mode_, y8.2.steps_, y8.2.conts_, y8.2.out_, y8.2.now_, y8.2.conds_, y8.2.full_, true, y8.2.stop_, y8.2.code_⟩ : an_)))) else (if (decide (a1.Kind = 15)) = true then (some ((), (⟨a0.env_, a0.s_, a0.fuel_, a0.mode_, y1.2.1, a0.conts_, a0.out_, a0.now_, a0.conds_, a0.full_, true, a0.stop_, y1.2.2⟩ : an_))) else (if (decide (a1.Kind = 16)) = true then (some ((), (⟨a0.env_, a0.s_, a0.fuel_, a0.mode_, y1.2.1, a0.conts_, a0.out_, a0.now_, a0.conds_, a0.full_, a0.abort_, a0.stop_, y1.2.2⟩ : an_))) else (if (decide (a1.Kind = 17)) = true then ((R_149 (⟨a0.env_, a0.s_, a0.fuel_, a0.mode_, y1.2.1, a0.conts_, a0.out_, a0.now_, a0.conds_, a0.full_, a0.abort_, a0.stop_, y1.2.2⟩ : an_) a3 a2).bind fun y9 => ((aF_ (S := ((Sl DNamed) × ByteArray × Int × Int × Int × Bool × Bool × Bool × Int × (Sl ah_) × (Sl DMatch) × (Sl DCapture) × (Sl DCapture))) (R := ((Sl DNamed) × ByteArray × Int × Int × Int × Bool × Bool × Bool × Int × (Sl ah_) × (Sl DMatch) × (Sl DCapture) × (Sl DCapture))) (fun st3 => (if st3.2.2.2.2.2.2.1 = true then (some (.inr (st3.1, st3.2.1, st3.2.2.1, st3.2.2.2.1, st3.2.2.2.2.1, st3.2.2.2.2.2.1, st3.2.2.2.2.2.2.1, st3.2.2.2.2.2.2.2.1, st3.2.2.2.2.2.2.2.2.1, st3.2.2.2.2.2.2.2.2.2.1, st3.2.2.2.2.2.2.2.2.2.2.1, st3.2.2.2.2.2.2.2.2.2.2.2.1, st3.2.2.2.2.2.2.2.2.2.2.2.2))) else (if st3.2.2.2.2.2.2.2.1 = true then (some (.inr (st3.1, st3.2.1, st3.2.2.1, st3.2.2.2.1, st3.2.2.2.2.1, st3.2.2.2.2.2.1, st3.2.2.2.2.2.2.1, st3.2.2.2.2.2.2.2.1, st3.2.2.2.2.2.2.2.2.1, st3.2.2.2.2.2.2.2.2.2.1, st3.2.2.2.2.2.2.2.2.2.2.1, st3.2.2.2.2.2.2.2.2.2.2.2.1, st3.2.2.2.2.2.2.2.2.2.2.2.2))) else (if (!(!decide (st3.2.2.2.2.2.2.2.2.1 = 0))) = true then (((if (decide (st3.2.2.1 ≤ st3.2.2.2.2.1)) = true then (some (false, st3.2.2.2.2.1, 7)) else (some (true, (w4 (st3.2.2.2.2.1 + 1)), st3.2.2.2.2.2.2.2.2.1))) : Option (Bool × Int × Int)).bind fun y11 => (if y11.1 = true then ((R_149 (⟨st3.1, st3.2.1, st3.2.2.1, st3.2.2.2.1, y11.2.1, st3.2.2.2.2.2.2.2.2.2.1, st3.2.2.2.2.2.2.2.2.2.2.1, st3.2.2.2.2.2.2.2.2.2.2.2.1, st3.2.2.2.2.2.2.2.2.2.2.2.2, st3.2.2.2.2.2.1, st3.2.2.2.2.2.2.1, st3.2.2.2.2.2.2.2.1, y11.2.2⟩ : an_) a3 a2).bind fun y12 => (some (.inl (y12.2.env_, y12.2.s_, y12.2.fuel_, y12.2.mode_, y12.2.steps_, y12.2.full_, y12.2.abort_, y12.2.stop_, y12.2.code_, y12.2.conts_, y12.2.out_, y12.2.now_, y12.2.conds_)))) else (some (.inr (st3.1, st3.2.1, st3.2.2.1, st3.2.2.2.1, y11.2.1, st3.2.2.2.2.2.1, st3.2.2.2.2.2.2.1, st3.2.2.2.2.2.2.2.1, y11.2.2, st3.2.2.2.2.2.2.2.2.2.1, st3.2.2.2.2.2.2.2.2.2.2.1, st3.2.2.2.2.2.2.2.2.2.2.2.1, st3.2.2.2.2.2.2.2.2.2.2.2.2))))) else (some (.inr (st3.1, st3.2.1, st3.2.2.1, st3.2.2.2.1, st3.2.2.2.2.1, st3.2.2.2.2.2.1, st3.2.2.2.2.2.2.1, st3.2.2.2.2.2.2.2.1, st3.2.2.2.2.2.2.2.2.1, st3.2.2.2.2.2.2.2.2.2.1, st3.2.2.2.2.2.2.2.2.2.2.1, st3.2.2.2.2.2.2.2.2.2.2.2.1, st3.2.2.2.2.2.2.2.2.2.2.2.2))))))) (y9.2.env_, y9.2.s_, y9.2.fuel_, y9.2.mode_, y9.2.steps_, y9.2.full_, y9.2.abort_, y9.2.stop_, y9.2.code_, y9.2.conts_, y9.2.out_, y9.2.now_, y9.2.conds_)).bind fun y10 => (some ((), (⟨y10.1, y10.2.1, y10.2.2.1, y10.2.2.2.1, y10.2.2.2.2.1, y10.2.2.2.2.2.2.2.2.2.1, y10.2.2.2.2.2.2.2.2.2.2.1, y10.2.2.2.2.2.2.2.2.2.2.2.1, y10.2.2.2.2.2.2.2.2.2.2.2.2, y10.2.2.2.2.2.1, y10.2.2.2.2.2.2.1, y10.2.2.2.2.2.2.2.1, y10.2.2.2.2.2.2.2.2.1⟩ : an_))))) else (if (decide (a1.Kind = 18)) = true then ((elt a1.Kids 0).bind fun y13 => ((R_119 (⟨a0.env_, a0.s_, a0.fuel_, a0.mode_, y1.2.1, a0.conts_, a0.out_, a0.now_, a0.conds_, a0.full_, a0.abort_, a0.stop_, y1.2.2⟩ : an_) y13 a2 a3).bind fun y14 => (if y14.2.abort_ = true then (some ((), y14.2)) else (if y14.2.stop_ = true then (some ((), y14.2)) else (if (!(!decide (y14.2.code_ = 0))) = true then ((elt a1.Kids 1).bind fun y15 => ((R_119 y14.2 y15 a2 a3).bind fun y16 => (some ((), y16.2)))) else (some ((), y14.2))))))) else (((if (decide (a1.Kind = 19)) = true then (some (decide (a1.Kind = 19))) else (if (decide (a1.Kind = 21)) = true then (some (decide (a1.Kind = 21))) else (some (decide (a1.Kind = 22))))) : Option Bool).bind fun y17 => (if y17 = true then ((elt a1.Kids 0).bind fun y18 => ((((appS 72 a0.conts_ (⟨false, [(⟨a1, a2, a3⟩ : ah_)]⟩ : Sl ah_)).bind fun y20 => (some ((w4 ((y20.l.length : Int) - 1)), y20))) : Option (Int × (Sl ah_))).bind fun y19 => ((R_119 (⟨a0.env_, a0.s_, a0.fuel_, a0.mode_, y1.2.1, y19.2, a0.out_, a0.now_, a0.conds_, a0.full_, a0.abort_, a0.stop_, y1.2.2⟩ : an_) y18 a2 y19.1).bind fun y21 => (some ((), y21.2))))) else (if (decide (a1.Kind = 20)) = true then ((R_149 (⟨a0.env_, a0.s_, a0.fuel_, a0.mode_, y1.2.1, a0.conts_, a0.out_, a0.now_, a0.conds_, a0.full_, a0.abort_, a0.stop_, y1.2.2⟩ : an_) a3 a2).bind fun y22 => (if y22.2.abort_ = true then (some ((), y22.2)) else (if y22.2.stop_ = true then (some ((), y22.2)) else (if (!(!decide (y22.2.code_ = 0))) = true then ((elt a1.Kids 0).bind fun y23 => ((((appS 72 y22.2.conts_ (⟨false, [(⟨a1, a2, a3⟩ : ah_)]⟩ : Sl ah_)).bind fun y25 => (some ((w4 ((y25.l.length : Int) - 1)), y25))) : Option (Int × (Sl ah_))).bind fun y24 => ((R_119 (⟨y22.2.env_, y22.2.s_, y22.2.fuel_, y22.2.mode_, y22.2.steps_, y24.2, y22.2.out_, y22.2.now_, y22.2.conds_, y22.2.full_, y22.2.abort_, y22.2.stop_, y22.2.code_⟩ : an_) y23 a2 y24.1).bind fun y26 => (some ((), y26.2))))) else (some ((), y22.2)))))) else (if (decide (a1.Kind = 23)) = true then ((appS 48 a0.now_ (⟨false, [(⟨a1.Text, ⟨#[]⟩, a2, 3⟩ : DCapture)]⟩ : Sl DCapture)).bind fun y27 => (((if ((decide (100 < (w4 ((y27.l.length : Int) + (a0.conds_.l.length : Int)))))) = true then (some (false, 6)) else (some (true, y1.2.2))) : Option (Bool × Int)).bind fun y28 => (if y28.1 = true then ((R_149 (⟨a0.env_, a0.s_, a0.fuel_, a0.mode_, y1.2.1, a0.conts_, a0.out_, y27, a0.conds_, a0.full_, a0.abort_, a0.stop_, y28.2⟩ : an_) a3 a2).bind fun y29 => (some ((), y29.2))) else (some ((), (⟨a0.env_, a0.s_, a0.fuel_, a0.mode_, y1.2.1, a0.conts_, a0.out_, y27, a0.conds_, a0.full_, a0.abort_, a0.stop_, y28.2⟩ : an_)))))) else (if (decide (a1.Kind = 24)) = true then ((ce_ a0.env_ a1.Text).bind fun y30 => (if (decide (y30 < 0)) = true then (some ((), (⟨a0.env_, a0.s_, a0.fuel_, a0.mode_, y1.2.1, a0.conts_, a0.out_, a0.now_, a0.conds_, a0.full_, a0.abort_, a0.stop_, 5⟩ : an_))) else ((elt a0.env_ y30).bind fun y31 => ((R_119 (⟨a0.env_, a0.s_, a0.fuel_, a0.mode_, y1.2.1, a0.conts_, a0.out_, a0.now_, a0.conds_, a0.full_, a0.abort_, a0.stop_, y1.2.2⟩ : an_) y31.Pattern a2 a3).bind fun y32 => (some ((), y32.2)))))) else ((fn_ a1 a0.s_ a2).bind fun y33 => (if (decide (0 ≤ y33)) = true then ((R_149 (⟨a0.env_, a0.s_, a0.fuel_, a0.mode_, y1.2.1, a0.conts_, a0.out_, a0.now_, a0.conds_, a0.full_, a0.abort_, a0.stop_, y1.2.2⟩ : an_) a3 y33).bind fun y34 => (some ((), y34.2))) else (some ((), (⟨a0.env_, a0.s_, a0.fuel_, a0.mode_, y1.2.1, a0.conts_, a0.out_, a0.now_, a0.conds_, a0.full_, a0.abort_, a0.stop_, y1.2.2⟩ : an_)))))))))))))))))))
theorem hq_ (R_119 : an_ → DPattern → Int → Int → Option (Unit × an_)) (R_149 : an_ → Int → Int → Option (Unit × an_)) (hR_119 : cD_ R_119) (hR_149 : cx_ R_149) : cD_ (af_ R_119 R_149) := by
 intro a0 a1 a2 a3 r h bp0 p0_1 p0_2 p0_3 p0_4
 unfold af_ at h
 refine b9_ rfl rfl ok_119 rfl ?_
 intro σ0 σ F σk s hS hH
 have hp0_1 : ar_ p0_1 := Heap.fltOne (hH.at 1 rfl)
 have hp0_2 : ar_ p0_2 := Heap.one (hH.at 2 rfl)
 have hp0_3 : ar_ p0_3 := Heap.fltOne (hH.at 3 rfl)
 have hp0_4 : ar_ p0_4 := Heap.fltOne (hH.at 4 rfl)
 have hS := ad_ (L' := [(0, .ptr bp0 0 0 13), (1, .agg [i4 a1.Kind, i4 a1.Num, .str a1.Text, a1.Kids.t]), (2, i4 a2), (3, i4 a3)]) hS (by kernel_rfl)
 refine t_go h hS hH ?_
 refine t_R ?_
 refine cI_ (fun b1 => ?_)
 refine t_N ?_
 refine t_RU 1 ?_
 refine e3_ (fun y1 s σ => Sub [(0, .ptr bp0 0 0 13), (2, i4 a2), (3, i4 a3), (5, .ptr b1 0 0 4), (13, .bool y1.1)] s ∧ Heap σ0 σ [.box b1 [i4 a1.Kind, i4 a1.Num, .str a1.Text, a1.Kids.t], .box bp0 [a0.env_.t, .str a0.s_, i4 a0.fuel_, i4 a0.mode_, i4 y1.2.1, p0_1, p0_2, p0_3, p0_4, .bool a0.full_, .bool a0.abort_, .bool a0.stop_, i4 y1.2.2], .flt 6 p0_1 a0.conts_.t, .own true 3 p0_2 a0.out_.t, .flt 4 p0_3 a0.now_.t, .flt 4 p0_4 a0.conds_.t, .keep F σk]) ok_148 (fun y1 => ?_) fun y1 s σ HF h => ?_
 ·refine t_RN ?_
  refine t_D fun mb => ?_
  refine t_U 3 ?_
  refine ae_ 1 ?_
  refine t_U 3 ?_
  refine ae_ 1 ?_
  refine t_N ?_
  refine t_if (fun hc1 => ?_) fun hc1 => ?_
  ·refine t_RU 3 ?_
   refine aO_ 1 ?_
   refine t_N ?_
   refine t_RN ?_
   exact cv_ (rT rN) fun he hS hH => he ▸ ⟨(ad_ hS (by kernel_rfl)), (Heap.sel hH [1, 0, 2, 3, 4, 5, 6] rfl (by kernel_rfl))⟩
  refine t_RU 3 ?_
  refine ae_ 1 ?_
  refine t_U 3 ?_
  refine aO_ 1 ?_
  refine t_N ?_
  refine t_RN ?_
  exact cv_ (rT rN) fun he hS hH => he ▸ ⟨(ad_ hS (by kernel_rfl)), (Heap.sel hH [1, 0, 2, 3, 4, 5, 6] rfl (by kernel_rfl))⟩
 obtain ⟨hS, hH⟩ := HF
 refine t_bk h hS hH ?_
 refine t_N ?_
 refine t_if (fun hc2 => ?_) fun hc2 => ?_
 ·intro h s σ hS hH
  obtain rfl := si_1 h
  exact aR_ [p0_1, p0_2, p0_3, p0_4] r_nil rfl rfl (Heap.sel hH [1, 2, 3, 4, 5, 6] rfl (by kernel_rfl))
 refine t_RU 1 ?_
 refine ae_ 0 ?_
 refine t_N ?_
 refine t_RN ?_
 refine t_if (fun hc3 => ?_) fun hc3 => ?_
 ·refine t_RN ?_
  refine a6_ (fun st1 fr => ∃ t5, ar_ t5 ∧ ∃ t6, ar_ t6 ∧ ∃ t7, ar_ t7 ∧ ∃ t8, ar_ t8 ∧ Sub [(0, .ptr bp0 0 0 13), (3, i4 a3), (8, i4 st1.1)] fr.s ∧ Heap σ0 fr.σ [.box bp0 [st1.2.1.t, .str st1.2.2.1, i4 st1.2.2.2.1, i4 st1.2.2.2.2.1, i4 st1.2.2.2.2.2.1, t5, t6, t7, t8, .bool st1.2.2.2.2.2.2.1, .bool st1.2.2.2.2.2.2.2.1, .bool st1.2.2.2.2.2.2.2.2.1, i4 st1.2.2.2.2.2.2.2.2.2.1], .flt 6 t5 st1.2.2.2.2.2.2.2.2.2.2.1.t, .own true 3 t6 st1.2.2.2.2.2.2.2.2.2.2.2.1.t, .flt 4 t7 st1.2.2.2.2.2.2.2.2.2.2.2.2.1.t, .flt 4 t8 st1.2.2.2.2.2.2.2.2.2.2.2.2.2.t, .keep F σk]) (fun y2 e fr => ∃ t9, ar_ t9 ∧ ∃ t10, ar_ t10 ∧ ∃ t11, ar_ t11 ∧ ∃ t12, ar_ t12 ∧ e = (.exit 1) ∧ Sub [] fr.s ∧ Heap σ0 fr.σ [.box bp0 [y2.1.t, .str y2.2.1, i4 y2.2.2.1, i4 y2.2.2.2.1, i4 y2.2.2.2.2.1, t9, t10, t11, t12, .bool y2.2.2.2.2.2.1, .bool y2.2.2.2.2.2.2.1, .bool y2.2.2.2.2.2.2.2.1, i4 y2.2.2.2.2.2.2.2.2.1], .flt 6 t9 y2.2.2.2.2.2.2.2.2.2.1.t, .own true 3 t10 y2.2.2.2.2.2.2.2.2.2.2.1.t, .flt 4 t11 y2.2.2.2.2.2.2.2.2.2.2.2.1.t, .flt 4 t12 y2.2.2.2.2.2.2.2.2.2.2.2.2.t, .keep F σk]) (fun hS hH => ⟨p0_1, hp0_1, p0_2, hp0_2, p0_3, hp0_3, p0_4, hp0_4, (ad_ hS (by kernel_rfl)), (Heap.sel hH [1, 2, 3, 4, 5, 6] rfl (by kernel_rfl))⟩) (fun st1 x fr h HI => ?_) fun y2 e fr h HF => ?_
  ·obtain ⟨s, σ⟩ := fr; obtain ⟨t5, ht5, ⟨t6, ht6, ⟨t7, ht7, ⟨t8, ht8, ⟨hS, hH⟩⟩⟩⟩⟩ := HI
   refine t_bk h hS hH ?_
   refine t_RU 4 ?_
   refine ae_ 0 ?_
   refine t_U 3 ?_
   refine aQ_ 40 (fun hc4 => ?_) fun hc4 => ?_
   ·refine t_U 1 ?_
    refine dS_ ok_118 ?_
    refine t_RN ?_
    refine t_RU 3 ?_
    refine ae_ 0 ?_
    refine t_U 1 ?_
    refine aQ_ 7 (fun hc5 => ?_) fun hc5 => ?_
    ·refine t_N ?_
     refine k_eI (rT rN) ?_
     refine t_N ?_
     refine t_cF ff_ne ?_
     exact t_e fun he hS hH => he ▸ ⟨t5, ht5, t6, ht6, t7, ht7, t8, ht8, rfl, (ad_ hS (by kernel_rfl)), hH⟩
    refine t_U 3 ?_
    refine ae_ 0 ?_
    refine t_U 2 ?_
    refine aQ_ 13 (fun hc6 => ?_) fun hc6 => ?_
    ·refine t_N ?_
     refine k_eI (rT rN) ?_
     refine t_N ?_
     refine t_cF ff_ne ?_
     exact t_e fun he hS hH => he ▸ ⟨t5, ht5, t6, ht6, t7, ht7, t8, ht8, rfl, (ad_ hS (by kernel_rfl)), hH⟩
    refine t_U 3 ?_
    refine ae_ 0 ?_
    refine t_N ?_
    refine k_eI (rT rN) ?_
    refine t_N ?_
    refine t_if (fun hc7 => ?_) fun hc7 => ?_
    ·refine t_RU 3 ?_
     refine aK_ (fun y3 hs hy3 hl => ?_) (hr := by exact fun y3 hy3 => hR_149 _ _ _ y3 hy3 bp0 t5 t6 t7 t8)
     obtain ⟨t13, t14, t15, t16, rfl⟩ := len4 hl
     refine bf_ ?_
     refine ay_ 1 fun ht13 => ?_
     refine ay_ 2 fun ht14 => ?_
     refine ay_ 3 fun ht15 => ?_
     refine ay_ 4 fun ht16 => ?_
     refine t_N ?_
     refine t_RN ?_
     exact t_e fun he hS hH => he ▸ ⟨t13, ht13, t14, ht14, t15, ht15, t16, ht16, (ad_ hS (by kernel_rfl)), hH⟩
    exact t_e fun he hS hH => he ▸ ⟨t5, ht5, t6, ht6, t7, ht7, t8, ht8, rfl, (ad_ hS (by kernel_rfl)), hH⟩
   refine t_N ?_
   refine t_cF ff_ne ?_
   exact t_e fun he hS hH => he ▸ ⟨t5, ht5, t6, ht6, t7, ht7, t8, ht8, rfl, (ad_ hS (by kernel_rfl)), hH⟩
  obtain ⟨s, σ⟩ := fr
  obtain ⟨t9, ht9, ⟨t10, ht10, ⟨t11, ht11, ⟨t12, ht12, ⟨rfl, hS, hH⟩⟩⟩⟩⟩ := HF
  refine t_bx h hS hH ?_
  intro h s σ hS hH
  obtain rfl := si_1 h
  exact bN_ (aR_ [t9, t10, t11, t12] r_nil rfl rfl hH)
 refine t_RN ?_
 refine t_if (fun hc8 => ?_) fun hc8 => ?_
 ·refine t_RU 3 ?_
  refine ae_ 1 ?_
  refine t_U 2 ?_
  refine aA_ fun y4 hy4 => ?_
  refine t_N ?_
  refine a6_ (fun st2 fr => ∃ t21, ar_ t21 ∧ ∃ t22, ar_ t22 ∧ ∃ t23, ar_ t23 ∧ ∃ t24, ar_ t24 ∧ Sub [(0, .ptr bp0 0 0 13), (2, i4 a2), (3, i4 a3), (9, i4 st2.1)] fr.s ∧ Heap σ0 fr.σ [.box bp0 [st2.2.1.t, .str st2.2.2.1, i4 st2.2.2.2.1, i4 st2.2.2.2.2.1, i4 st2.2.2.2.2.2.1, t21, t22, t23, t24, .bool st2.2.2.2.2.2.2.1, .bool st2.2.2.2.2.2.2.2.1, .bool st2.2.2.2.2.2.2.2.2.1, i4 st2.2.2.2.2.2.2.2.2.2.1], .flt 6 t21 st2.2.2.2.2.2.2.2.2.2.2.1.t, .own true 3 t22 st2.2.2.2.2.2.2.2.2.2.2.2.1.t, .flt 4 t23 st2.2.2.2.2.2.2.2.2.2.2.2.2.1.t, .flt 4 t24 st2.2.2.2.2.2.2.2.2.2.2.2.2.2.t, .keep F σk]) (fun y5 e fr => ∃ t25, ar_ t25 ∧ ∃ t26, ar_ t26 ∧ ∃ t27, ar_ t27 ∧ ∃ t28, ar_ t28 ∧ e = (.exit 3) ∧ Sub [] fr.s ∧ Heap σ0 fr.σ [.box bp0 [y5.1.t, .str y5.2.1, i4 y5.2.2.1, i4 y5.2.2.2.1, i4 y5.2.2.2.2.1, t25, t26, t27, t28, .bool y5.2.2.2.2.2.1, .bool y5.2.2.2.2.2.2.1, .bool y5.2.2.2.2.2.2.2.1, i4 y5.2.2.2.2.2.2.2.2.1], .flt 6 t25 y5.2.2.2.2.2.2.2.2.2.1.t, .own true 3 t26 y5.2.2.2.2.2.2.2.2.2.2.1.t, .flt 4 t27 y5.2.2.2.2.2.2.2.2.2.2.2.1.t, .flt 4 t28 y5.2.2.2.2.2.2.2.2.2.2.2.2.t, .keep F σk]) (fun hS hH => ⟨p0_1, hp0_1, p0_2, hp0_2, p0_3, hp0_3, p0_4, hp0_4, (ad_ hS (by kernel_rfl)), (Heap.sel hH [1, 2, 3, 4, 5, 6] rfl (by kernel_rfl))⟩) (fun st2 x fr h HI => ?_) fun y5 e fr h HF => ?_
  ·obtain ⟨s, σ⟩ := fr; obtain ⟨t21, ht21, ⟨t22, ht22, ⟨t23, ht23, ⟨t24, ht24, ⟨hS, hH⟩⟩⟩⟩⟩ := HI
   refine t_bk h hS hH ?_
   refine t_RU 3 ?_
   refine aQ_ 62 (fun hc9 => ?_) fun hc9 => ?_
   ·refine t_U 1 ?_
    refine dS_ ok_118 ?_
    refine t_RN ?_
    refine t_RU 3 ?_
    refine ae_ 0 ?_
    refine t_U 1 ?_
    refine aQ_ 7 (fun hc10 => ?_) fun hc10 => ?_
    ·refine t_N ?_
     refine k_eI (rT rN) ?_
     refine t_N ?_
     refine t_cF ff_ne ?_
     exact t_e fun he hS hH => he ▸ ⟨t21, ht21, t22, ht22, t23, ht23, t24, ht24, rfl, (ad_ hS (by kernel_rfl)), hH⟩
    refine t_U 3 ?_
    refine ae_ 0 ?_
    refine t_U 2 ?_
    refine aQ_ 13 (fun hc11 => ?_) fun hc11 => ?_
    ·refine t_N ?_
     refine k_eI (rT rN) ?_
     refine t_N ?_
     refine t_cF ff_ne ?_
     exact t_e fun he hS hH => he ▸ ⟨t21, ht21, t22, ht22, t23, ht23, t24, ht24, rfl, (ad_ hS (by kernel_rfl)), hH⟩
    refine t_U 3 ?_
    refine ae_ 0 ?_
    refine t_N ?_
    refine k_eI (rT rN) ?_
    refine t_N ?_
    refine t_if (fun hc12 => ?_) fun hc12 => ?_
    ·refine t_RU 3 ?_
     refine aK_ (fun y6 hs hy6 hl => ?_) (hr := by exact fun y6 hy6 => hR_149 _ _ _ y6 hy6 bp0 t21 t22 t23 t24)
     obtain ⟨t29, t30, t31, t32, rfl⟩ := len4 hl
     refine bf_ ?_
     refine ay_ 1 fun ht29 => ?_
     refine ay_ 2 fun ht30 => ?_
     refine ay_ 3 fun ht31 => ?_
     refine ay_ 4 fun ht32 => ?_
     refine t_N ?_
     refine t_RU 3 ?_
     refine ae_ 0 ?_
     refine t_U 2 ?_
     refine aA_ fun y7 hy7 => ?_
     refine t_N ?_
     exact t_e fun he hS hH => he ▸ ⟨t29, ht29, t30, ht30, t31, ht31, t32, ht32, (ad_ hS (by kernel_rfl)), hH⟩
    exact t_e fun he hS hH => he ▸ ⟨t21, ht21, t22, ht22, t23, ht23, t24, ht24, rfl, (ad_ hS (by kernel_rfl)), hH⟩
   refine t_N ?_
   refine t_cF ff_ne ?_
   exact t_e fun he hS hH => he ▸ ⟨t21, ht21, t22, ht22, t23, ht23, t24, ht24, rfl, (ad_ hS (by kernel_rfl)), hH⟩
  obtain ⟨s, σ⟩ := fr
  obtain ⟨t25, ht25, ⟨t26, ht26, ⟨t27, ht27, ⟨t28, ht28, ⟨rfl, hS, hH⟩⟩⟩⟩⟩ := HF
  refine t_bx h hS hH ?_
  intro h s σ hS hH
  obtain rfl := si_1 h
  exact bN_ (aR_ [t25, t26, t27, t28] r_nil rfl rfl hH)
 refine t_RN ?_
 refine t_if (fun hc13 => ?_) fun hc13 => ?_
 ·refine t_RU 3 ?_
  refine t_h (·.up5.up5.up5.up5.up5) ?_
  refine aK_ (fun y8 hs hy8 hl => ?_) (hr := by exact fun y8 hy8 => hR_149 _ _ _ y8 hy8 bp0 p0_1 p0_2 p0_3 p0_4)
  obtain ⟨t33, t34, t35, t36, rfl⟩ := len4 hl
  refine bf_ ?_
  refine ay_ 1 fun ht33 => ?_
  refine ay_ 2 fun ht34 => ?_
  refine ay_ 3 fun ht35 => ?_
  refine ay_ 4 fun ht36 => ?_
  refine t_N ?_
  refine t_RU 3 ?_
  refine aO_ 0 ?_
  refine t_N ?_
  intro h s σ hS hH
  obtain rfl := si_1 h
  exact bN_ (aR_ [t33, t34, t35, t36] r_nil rfl rfl (Heap.sel hH [0, 1, 2, 3, 4, 6] rfl (by kernel_rfl)))
 refine t_RN ?_
 refine t_if (fun hc14 => ?_) fun hc14 => ?_
 ·refine t_RU 3 ?_
  refine aO_ 1 ?_
  refine t_N ?_
  intro h s σ hS hH
  obtain rfl := si_1 h
  exact bN_ (aR_ [p0_1, p0_2, p0_3, p0_4] r_nil rfl rfl (Heap.sel hH [0, 2, 3, 4, 5, 6] rfl (by kernel_rfl)))
 refine t_RN ?_
 refine t_if (fun hc15 => ?_) fun hc15 => ?_
 ·intro h s σ hS hH
  obtain rfl := si_1 h
  exact bN_ (aR_ [p0_1, p0_2, p0_3, p0_4] r_nil rfl rfl (Heap.sel hH [1, 2, 3, 4, 5, 6] rfl (by kernel_rfl)))
 refine t_RN ?_
 refine t_if (fun hc16 => ?_) fun hc16 => ?_
 ·refine t_RU 3 ?_
  refine t_h (·.up5.up5.up5.up5.up5) ?_
  refine aK_ (fun y9 hs hy9 hl => ?_) (hr := by exact fun y9 hy9 => hR_149 _ _ _ y9 hy9 bp0 p0_1 p0_2 p0_3 p0_4)
  obtain ⟨t37, t38, t39, t40, rfl⟩ := len4 hl
  refine bf_ ?_
  refine ay_ 1 fun ht37 => ?_
  refine ay_ 2 fun ht38 => ?_
  refine ay_ 3 fun ht39 => ?_
  refine ay_ 4 fun ht40 => ?_
  refine t_N ?_
  refine a6_ (fun st3 fr => ∃ t45, ar_ t45 ∧ ∃ t46, ar_ t46 ∧ ∃ t47, ar_ t47 ∧ ∃ t48, ar_ t48 ∧ Sub [(0, .ptr bp0 0 0 13), (2, i4 a2), (3, i4 a3)] fr.s ∧ Heap σ0 fr.σ [.box bp0 [st3.1.t, .str st3.2.1, i4 st3.2.2.1, i4 st3.2.2.2.1, i4 st3.2.2.2.2.1, t45, t46, t47, t48, .bool st3.2.2.2.2.2.1, .bool st3.2.2.2.2.2.2.1, .bool st3.2.2.2.2.2.2.2.1, i4 st3.2.2.2.2.2.2.2.2.1], .flt 6 t45 st3.2.2.2.2.2.2.2.2.2.1.t, .own true 3 t46 st3.2.2.2.2.2.2.2.2.2.2.1.t, .flt 4 t47 st3.2.2.2.2.2.2.2.2.2.2.2.1.t, .flt 4 t48 st3.2.2.2.2.2.2.2.2.2.2.2.2.t, .keep F σk]) (fun y10 e fr => ∃ t49, ar_ t49 ∧ ∃ t50, ar_ t50 ∧ ∃ t51, ar_ t51 ∧ ∃ t52, ar_ t52 ∧ e = (.exit 5) ∧ Sub [] fr.s ∧ Heap σ0 fr.σ [.box bp0 [y10.1.t, .str y10.2.1, i4 y10.2.2.1, i4 y10.2.2.2.1, i4 y10.2.2.2.2.1, t49, t50, t51, t52, .bool y10.2.2.2.2.2.1, .bool y10.2.2.2.2.2.2.1, .bool y10.2.2.2.2.2.2.2.1, i4 y10.2.2.2.2.2.2.2.2.1], .flt 6 t49 y10.2.2.2.2.2.2.2.2.2.1.t, .own true 3 t50 y10.2.2.2.2.2.2.2.2.2.2.1.t, .flt 4 t51 y10.2.2.2.2.2.2.2.2.2.2.2.1.t, .flt 4 t52 y10.2.2.2.2.2.2.2.2.2.2.2.2.t, .keep F σk]) (fun hS hH => ⟨t37, ht37, t38, ht38, t39, ht39, t40, ht40, (ad_ hS (by kernel_rfl)), (Heap.sel hH [0, 1, 2, 3, 4, 6] rfl (by kernel_rfl))⟩) (fun st3 x fr h HI => ?_) fun y10 e fr h HF => ?_
  ·obtain ⟨s, σ⟩ := fr; obtain ⟨t45, ht45, ⟨t46, ht46, ⟨t47, ht47, ⟨t48, ht48, ⟨hS, hH⟩⟩⟩⟩⟩ := HI
   refine t_bk h hS hH ?_
   refine t_RU 1 ?_
   refine dS_ ok_118 ?_
   refine t_RN ?_
   refine t_RU 3 ?_
   refine ae_ 0 ?_
   refine t_U 1 ?_
   refine aQ_ 7 (fun hc17 => ?_) fun hc17 => ?_
   ·refine t_N ?_
    refine k_eI (rT rN) ?_
    refine t_N ?_
    refine t_cF ff_ne ?_
    exact t_e fun he hS hH => he ▸ ⟨t45, ht45, t46, ht46, t47, ht47, t48, ht48, rfl, (ad_ hS (by kernel_rfl)), hH⟩
   refine t_U 3 ?_
   refine ae_ 0 ?_
   refine t_U 2 ?_
   refine aQ_ 13 (fun hc18 => ?_) fun hc18 => ?_
   ·refine t_N ?_
    refine k_eI (rT rN) ?_
    refine t_N ?_
    refine t_cF ff_ne ?_
    exact t_e fun he hS hH => he ▸ ⟨t45, ht45, t46, ht46, t47, ht47, t48, ht48, rfl, (ad_ hS (by kernel_rfl)), hH⟩
   refine t_U 3 ?_
   refine ae_ 0 ?_
   refine t_N ?_
   refine k_eI (rT rN) ?_
   refine t_U 2 ?_
   refine aQ_ 103 (fun hc19 => ?_) fun hc19 => ?_
   ·refine t_U 1 ?_
    refine e3_ (fun y11 s σ => Sub [(0, .ptr bp0 0 0 13), (2, i4 a2), (3, i4 a3), (103, .bool true), (105, .bool y11.1)] s ∧ Heap σ0 σ [.box bp0 [st3.1.t, .str st3.2.1, i4 st3.2.2.1, i4 st3.2.2.2.1, i4 y11.2.1, t45, t46, t47, t48, .bool st3.2.2.2.2.2.1, .bool st3.2.2.2.2.2.2.1, .bool st3.2.2.2.2.2.2.2.1, i4 y11.2.2], .flt 6 t45 st3.2.2.2.2.2.2.2.2.2.1.t, .own true 3 t46 st3.2.2.2.2.2.2.2.2.2.2.1.t, .flt 4 t47 st3.2.2.2.2.2.2.2.2.2.2.2.1.t, .flt 4 t48 st3.2.2.2.2.2.2.2.2.2.2.2.2.t, .keep F σk]) ok_148 (fun y11 => ?_) fun y11 s σ HF h => ?_
    ·refine t_RN ?_
     refine t_D fun mb => ?_
     refine t_U 3 ?_
     refine ae_ 0 ?_
     refine t_U 3 ?_
     refine ae_ 0 ?_
     refine t_N ?_
     refine t_if (fun hc20 => ?_) fun hc20 => ?_
     ·refine t_RU 3 ?_
      refine aO_ 0 ?_
      refine t_N ?_
      refine t_RN ?_
      exact cv_ (rT rN) fun he hS hH => he ▸ ⟨(ad_ hS (by kernel_rfl)), hH⟩
     refine t_RU 3 ?_
     refine ae_ 0 ?_
     refine t_U 3 ?_
     refine aO_ 0 ?_
     refine t_N ?_
     refine t_RN ?_
     exact cv_ (rT rN) fun he hS hH => he ▸ ⟨(ad_ hS (by kernel_rfl)), hH⟩
    obtain ⟨hS, hH⟩ := HF
    refine t_bk h hS hH ?_
    refine t_N ?_
    refine t_if (fun hc21 => ?_) fun hc21 => ?_
    ·refine t_RU 3 ?_
     refine aK_ (fun y12 hs hy12 hl => ?_) (hr := by exact fun y12 hy12 => hR_149 _ _ _ y12 hy12 bp0 t45 t46 t47 t48)
     obtain ⟨t53, t54, t55, t56, rfl⟩ := len4 hl
     refine bf_ ?_
     refine ay_ 1 fun ht53 => ?_
     refine ay_ 2 fun ht54 => ?_
     refine ay_ 3 fun ht55 => ?_
     refine ay_ 4 fun ht56 => ?_
     refine t_N ?_
     exact t_e fun he hS hH => he ▸ ⟨t53, ht53, t54, ht54, t55, ht55, t56, ht56, (ad_ hS (by kernel_rfl)), hH⟩
    exact t_e fun he hS hH => he ▸ ⟨t45, ht45, t46, ht46, t47, ht47, t48, ht48, rfl, (ad_ hS (by kernel_rfl)), hH⟩
   refine t_N ?_
   refine t_cF ff_ne ?_
   exact t_e fun he hS hH => he ▸ ⟨t45, ht45, t46, ht46, t47, ht47, t48, ht48, rfl, (ad_ hS (by kernel_rfl)), hH⟩
  obtain ⟨s, σ⟩ := fr
  obtain ⟨t49, ht49, ⟨t50, ht50, ⟨t51, ht51, ⟨t52, ht52, ⟨rfl, hS, hH⟩⟩⟩⟩⟩ := HF
  refine t_bx h hS hH ?_
  intro h s σ hS hH
  obtain rfl := si_1 h
  exact bN_ (aR_ [t49, t50, t51, t52] r_nil rfl rfl hH)
 refine t_RN ?_
 refine t_if (fun hc22 => ?_) fun hc22 => ?_
 ·refine t_RU 2 ?_
  refine ae_ 0 ?_
  refine cj_ fun y13 rest1 hy13 => ?_
  refine t_U 3 ?_
  refine t_h (·.up5.up5.up5.up5.up5) ?_
  refine aK_ (fun y14 hs hy14 hl => ?_) (hr := by exact fun y14 hy14 => hR_119 _ _ _ _ y14 hy14 bp0 p0_1 p0_2 p0_3 p0_4)
  obtain ⟨t57, t58, t59, t60, rfl⟩ := len4 hl
  refine bf_ ?_
  refine ay_ 1 fun ht57 => ?_
  refine ay_ 2 fun ht58 => ?_
  refine ay_ 3 fun ht59 => ?_
  refine ay_ 4 fun ht60 => ?_
  refine t_N ?_
  refine t_RU 1 ?_
  refine dS_ ok_118 ?_
  refine t_RN ?_
  refine t_RU 3 ?_
  refine ae_ 0 ?_
  refine t_U 1 ?_
  refine aQ_ 7 (fun hc23 => ?_) fun hc23 => ?_
  ·refine t_N ?_
   refine k_eI (rT rN) ?_
   refine t_N ?_
   refine t_cF ff_ne ?_
   intro h s σ hS hH
   obtain rfl := si_1 h
   exact bN_ (aR_ [t57, t58, t59, t60] r_nil rfl rfl (Heap.sel hH [0, 1, 2, 3, 4, 6] rfl (by kernel_rfl)))
  refine t_U 3 ?_
  refine ae_ 0 ?_
  refine t_U 2 ?_
  refine aQ_ 13 (fun hc24 => ?_) fun hc24 => ?_
  ·refine t_N ?_
   refine k_eI (rT rN) ?_
   refine t_N ?_
   refine t_cF ff_ne ?_
   intro h s σ hS hH
   obtain rfl := si_1 h
   exact bN_ (aR_ [t57, t58, t59, t60] r_nil rfl rfl (Heap.sel hH [0, 1, 2, 3, 4, 6] rfl (by kernel_rfl)))
  refine t_U 3 ?_
  refine ae_ 0 ?_
  refine t_N ?_
  refine k_eI (rT rN) ?_
  refine t_N ?_
  refine t_if (fun hc25 => ?_) fun hc25 => ?_
  ·refine t_RU 2 ?_
   refine ae_ 5 ?_
   refine cj_ fun y15 rest2 hy15 => ?_
   refine t_U 3 ?_
   refine aK_ (fun y16 hs hy16 hl => ?_) (hr := by exact fun y16 hy16 => hR_119 _ _ _ _ y16 hy16 bp0 t57 t58 t59 t60)
   obtain ⟨t61, t62, t63, t64, rfl⟩ := len4 hl
   refine bf_ ?_
   refine ay_ 1 fun ht61 => ?_
   refine ay_ 2 fun ht62 => ?_
   refine ay_ 3 fun ht63 => ?_
   refine ay_ 4 fun ht64 => ?_
   refine t_N ?_
   intro h s σ hS hH
   obtain rfl := si_1 h
   exact bN_ (aR_ [t61, t62, t63, t64] r_nil rfl rfl (Heap.sel hH [0, 1, 2, 3, 4, 6] rfl (by kernel_rfl)))
  intro h s σ hS hH
  obtain rfl := si_1 h
  exact bN_ (aR_ [t57, t58, t59, t60] r_nil rfl rfl (Heap.sel hH [0, 1, 2, 3, 4, 6] rfl (by kernel_rfl)))
 refine t_RN ?_
 refine ee_ 0 (fun y17 e fr => e = .normal ∧ Sub [(0, .ptr bp0 0 0 13), (2, i4 a2), (3, i4 a3), (5, .ptr b1 0 0 4), (16, i4 a1.Kind), (132, .bool y17)] fr.s ∧ Heap σ0 fr.σ [.box b1 [i4 a1.Kind, i4 a1.Num, .str a1.Text, a1.Kids.t], .box bp0 [a0.env_.t, .str a0.s_, i4 a0.fuel_, i4 a0.mode_, i4 y1.2.1, p0_1, p0_2, p0_3, p0_4, .bool a0.full_, .bool a0.abort_, .bool a0.stop_, i4 y1.2.2], .flt 6 p0_1 a0.conts_.t, .own true 3 p0_2 a0.out_.t, .flt 4 p0_3 a0.now_.t, .flt 4 p0_4 a0.conds_.t, .keep F σk]) (fun y17 e fr h HF => ?_) fun y17 => ?_
 ·obtain ⟨s, σ⟩ := fr
  obtain ⟨rfl, hS, hH⟩ := HF
  refine t_bx h hS hH ?_
  refine t_if (fun hc26 => ?_) fun hc26 => ?_
  ·refine be_ [(10, (RB b1 RN)), (11, RN)] ext_x fun mb σs hn0 hlt hlto => ?_
   have hlt_b1 : b1 < mb := hlt b1 _ (List.Mem.head _)
   refine t_U 2 ?_
   refine ae_ 0 ?_ (hlt := by exact (Or.inr ⟨hlt_b1, (Wc.cons (.inr (Or.inl rfl)) (Wc.cons (.inl (by kernel_rfl)) Wc.nil))⟩))
   refine cj_ fun y18 rest3 hy18 => ?_
   refine t_U 3 ?_
   refine ae_ 0 ?_ (hlt := by exact (Or.inl (by kernel_rfl)))
   refine t_U 2 ?_
   intro h s σ hS hH
   obtain ⟨Fq1, σq1, hH, hU1, hB1, hK1⟩ := Heap.wrapN (A := [.box b1 [i4 a1.Kind, i4 a1.Num, .str a1.Text, a1.Kids.t]]) hH
   refine t_bk h hS hH ?_
   refine kJ_ (fun y19 s σ => ∃ t65, ar_ t65 ∧ Sub [(136, .ptr bp0 0 0 13), (140, .agg [i4 y18.Kind, i4 y18.Num, .str y18.Text, y18.Kids.t]), (141, i4 a2), (146, i4 y19.1)] s ∧ Heap σ0 σ [.box bp0 [a0.env_.t, .str a0.s_, i4 a0.fuel_, i4 a0.mode_, i4 y1.2.1, t65, p0_2, p0_3, p0_4, .bool a0.full_, .bool a0.abort_, .bool a0.stop_, i4 y1.2.2], .flt 6 t65 y19.2.t, .own true 3 p0_2 a0.out_.t, .flt 4 p0_3 a0.now_.t, .flt 4 p0_4 a0.conds_.t, .keep Fq1 σq1, .keep F σk]) ext_x (RB b1 RN) (fun y19 s _ _ hH HF => by obtain ⟨t65, ht65, ⟨hS', hH'⟩⟩ := HF; exact kg_ (i := 0) (j := 5) hH rfl hH' rfl (fun x hx => by rcases hx with rfl | hx; exact (hB1 _ _ (List.Mem.head _)).1; exact False.elim hx)) (by exact fun x hx => Or.inr ⟨10, by kernel_rfl, hx⟩) ok_151 (fun y19 => ?_) fun y19 s σ HF h => ?_
   ·refine t_R ?_
    refine cI_ (fun b2 => ?_)
    refine t_N ?_
    refine be_ [(10, RN), (13, RN)] ext_x fun mb σs hn0 hlt hlto => ?_
    refine t_U 4 ?_
    refine ae_ 2 ?_ (hlt := by exact (Or.inl (by kernel_rfl)))
    refine ae_ 0 ?_ (hlt := by exact (Or.inl (by kernel_rfl)))
    refine t_U 3 ?_
    refine kM_ (⟨false, [(⟨a1, a2, a3⟩ : ah_)]⟩ : Sl ah_) (fun t66 ht66 => ?_) (hb := by exact hn0)
    refine f2_ 4 (fun hH => dx_ (hH.at 0 rfl) (by kernel_rfl)) (fun y20 t67 hy20 ht67 => ?_) (hb := by exact hn0) (hwr := by exact fun hH b e o n h0 => Or.inr ⟨10, by kernel_rfl, fun h => h⟩)
    refine t_U 2 ?_
    refine ca_ 4 ht67 ?_ (hwr := by exact fun hH => Or.inr ⟨13, by kernel_rfl, fun h => h⟩)
    refine t_N ?_
    refine t_RU 3 ?_
    refine ae_ 0 ?_
    refine dU_ (a := y20) 1 ?_
    refine t_N ?_
    exact cv_ (rT rN) fun he hS hH => he ▸ ⟨t67, ht67, (ad_ hS (by kernel_rfl)), (Heap.sel hH [0, 1, 5, 6, 7, 4, 8] rfl (by kernel_rfl))⟩
   obtain ⟨t65, ht65, ⟨hS, hH⟩⟩ := HF
   have hH := hH.up5
   have hH := hU1 _ _ hH
   have hH : Heap σ0 σ [.box b1 [i4 a1.Kind, i4 a1.Num, .str a1.Text, a1.Kids.t], .box bp0 [a0.env_.t, .str a0.s_, i4 a0.fuel_, i4 a0.mode_, i4 y1.2.1, t65, p0_2, p0_3, p0_4, .bool a0.full_, .bool a0.abort_, .bool a0.stop_, i4 y1.2.2], .flt 6 t65 y19.2.t, .own true 3 p0_2 a0.out_.t, .flt 4 p0_3 a0.now_.t, .flt 4 p0_4 a0.conds_.t, .keep F σk] := hH
   have hH := hH.up5.up5.up5.up5.up5
   refine t_bk h hS hH ?_
   refine d2_ RN ext_x Stay.nil (by exact fun x hx => Or.inr ⟨11, by kernel_rfl, hx⟩) (fun y21 hs hy21 hl => ?_) (hr := by exact fun y21 hy21 => hR_119 _ _ _ _ y21 hy21 bp0 t65 p0_2 p0_3 p0_4)
   obtain ⟨t68, t69, t70, t71, rfl⟩ := len4 hl
   refine bf_ ?_
   refine ay_ 1 fun ht68 => ?_
   refine ay_ 2 fun ht69 => ?_
   refine ay_ 3 fun ht70 => ?_
   refine ay_ 4 fun ht71 => ?_
   refine t_N ?_
   intro h s σ hS hH
   obtain rfl := si_1 h
   exact bN_ (aR_ [t68, t69, t70, t71] r_nil rfl rfl (Heap.sel hH [0, 1, 2, 3, 4, 6] rfl (by kernel_rfl)))
  refine t_RN ?_
  refine t_if (fun hc27 => ?_) fun hc27 => ?_
  ·refine t_RU 3 ?_
   refine t_h (·.up5.up5.up5.up5.up5) ?_
   refine aK_ (fun y22 hs hy22 hl => ?_) (hr := by exact fun y22 hy22 => hR_149 _ _ _ y22 hy22 bp0 p0_1 p0_2 p0_3 p0_4)
   obtain ⟨t72, t73, t74, t75, rfl⟩ := len4 hl
   refine bf_ ?_
   refine ay_ 1 fun ht72 => ?_
   refine ay_ 2 fun ht73 => ?_
   refine ay_ 3 fun ht74 => ?_
   refine ay_ 4 fun ht75 => ?_
   refine t_N ?_
   refine t_RU 1 ?_
   refine dS_ ok_118 ?_
   refine t_RN ?_
   refine t_RU 3 ?_
   refine ae_ 0 ?_
   refine t_U 1 ?_
   refine aQ_ 7 (fun hc28 => ?_) fun hc28 => ?_
   ·refine t_N ?_
    refine k_eI (rT rN) ?_
    refine t_N ?_
    refine t_cF ff_ne ?_
    intro h s σ hS hH
    obtain rfl := si_1 h
    exact bN_ (aR_ [t72, t73, t74, t75] r_nil rfl rfl (Heap.sel hH [0, 1, 2, 3, 4, 6] rfl (by kernel_rfl)))
   refine t_U 3 ?_
   refine ae_ 0 ?_
   refine t_U 2 ?_
   refine aQ_ 13 (fun hc29 => ?_) fun hc29 => ?_
   ·refine t_N ?_
    refine k_eI (rT rN) ?_
    refine t_N ?_
    refine t_cF ff_ne ?_
    intro h s σ hS hH
    obtain rfl := si_1 h
    exact bN_ (aR_ [t72, t73, t74, t75] r_nil rfl rfl (Heap.sel hH [0, 1, 2, 3, 4, 6] rfl (by kernel_rfl)))
   refine t_U 3 ?_
   refine ae_ 0 ?_
   refine t_N ?_
   refine k_eI (rT rN) ?_
   refine t_N ?_
   refine t_if (fun hc30 => ?_) fun hc30 => ?_
   ·refine be_ [(10, (RB b1 RN)), (11, RN)] ext_x fun mb σs hn0 hlt hlto => ?_
    have hlt_b1 : b1 < mb := hlt b1 _ (List.Mem.tail _ (List.Mem.tail _ (List.Mem.tail _ (List.Mem.tail _ (List.Mem.tail _ (List.Mem.head _))))))
    refine t_U 2 ?_
    refine ae_ 5 ?_ (hlt := by exact (Or.inr ⟨hlt_b1, (Wc.cons (.inr (Or.inl rfl)) (Wc.cons (.inl (by kernel_rfl)) Wc.nil))⟩))
    refine cj_ fun y23 rest4 hy23 => ?_
    refine t_U 3 ?_
    refine ae_ 5 ?_ (hlt := by exact (Or.inl (by kernel_rfl)))
    refine t_U 2 ?_
    refine t_h Heap.up5 ?_
    intro h s σ hS hH
    obtain ⟨Fq2, σq2, hH, hU2, hB2, hK2⟩ := Heap.wrapN (A := [.box b1 [i4 a1.Kind, i4 a1.Num, .str a1.Text, a1.Kids.t]]) hH
    refine t_bk h hS hH ?_
    refine kJ_ (fun y24 s σ => ∃ t76, ar_ t76 ∧ Sub [(157, .ptr bp0 0 0 13), (161, .agg [i4 y23.Kind, i4 y23.Num, .str y23.Text, y23.Kids.t]), (162, i4 a2), (167, i4 y24.1)] s ∧ Heap σ0 σ [.box bp0 [y22.2.env_.t, .str y22.2.s_, i4 y22.2.fuel_, i4 y22.2.mode_, i4 y22.2.steps_, t76, t73, t74, t75, .bool y22.2.full_, .bool y22.2.abort_, .bool y22.2.stop_, i4 y22.2.code_], .flt 6 t76 y24.2.t, .own true 3 t73 y22.2.out_.t, .flt 4 t74 y22.2.now_.t, .flt 4 t75 y22.2.conds_.t, .keep Fq2 σq2, .keep F σk]) ext_x (RB b1 RN) (fun y24 s _ _ hH HF => by obtain ⟨t76, ht76, ⟨hS', hH'⟩⟩ := HF; exact kg_ (i := 0) (j := 5) hH rfl hH' rfl (fun x hx => by rcases hx with rfl | hx; exact (hB2 _ _ (List.Mem.head _)).1; exact False.elim hx)) (by exact fun x hx => Or.inr ⟨10, by kernel_rfl, hx⟩) ok_151 (fun y24 => ?_) fun y24 s σ HF h => ?_
    ·refine t_R ?_
     refine cI_ (fun b3 => ?_)
     refine t_N ?_
     refine be_ [(10, RN), (13, RN)] ext_x fun mb σs hn0 hlt hlto => ?_
     refine t_U 4 ?_
     refine ae_ 2 ?_ (hlt := by exact (Or.inl (by kernel_rfl)))
     refine ae_ 0 ?_ (hlt := by exact (Or.inl (by kernel_rfl)))
     refine t_U 3 ?_
     refine kM_ (⟨false, [(⟨a1, a2, a3⟩ : ah_)]⟩ : Sl ah_) (fun t77 ht77 => ?_) (hb := by exact hn0)
     refine f2_ 4 (fun hH => dx_ (hH.at 0 rfl) (by kernel_rfl)) (fun y25 t78 hy25 ht78 => ?_) (hb := by exact hn0) (hwr := by exact fun hH b e o n h0 => Or.inr ⟨10, by kernel_rfl, fun h => h⟩)
     refine t_U 2 ?_
     refine ca_ 4 ht78 ?_ (hwr := by exact fun hH => Or.inr ⟨13, by kernel_rfl, fun h => h⟩)
     refine t_N ?_
     refine t_RU 3 ?_
     refine ae_ 0 ?_
     refine dU_ (a := y25) 1 ?_
     refine t_N ?_
     exact cv_ (rT rN) fun he hS hH => he ▸ ⟨t78, ht78, (ad_ hS (by kernel_rfl)), (Heap.sel hH [0, 1, 5, 6, 7, 4, 8] rfl (by kernel_rfl))⟩
    obtain ⟨t76, ht76, ⟨hS, hH⟩⟩ := HF
    have hH := hH.up5
    have hH := hU2 _ _ hH
    have hH : Heap σ0 σ [.box b1 [i4 a1.Kind, i4 a1.Num, .str a1.Text, a1.Kids.t], .box bp0 [y22.2.env_.t, .str y22.2.s_, i4 y22.2.fuel_, i4 y22.2.mode_, i4 y22.2.steps_, t76, t73, t74, t75, .bool y22.2.full_, .bool y22.2.abort_, .bool y22.2.stop_, i4 y22.2.code_], .flt 6 t76 y24.2.t, .own true 3 t73 y22.2.out_.t, .flt 4 t74 y22.2.now_.t, .flt 4 t75 y22.2.conds_.t, .keep F σk] := hH
    have hH := hH.up5.up5.up5.up5.up5
    refine t_bk h hS hH ?_
    refine d2_ RN ext_x Stay.nil (by exact fun x hx => Or.inr ⟨11, by kernel_rfl, hx⟩) (fun y26 hs hy26 hl => ?_) (hr := by exact fun y26 hy26 => hR_119 _ _ _ _ y26 hy26 bp0 t76 t73 t74 t75)
    obtain ⟨t79, t80, t81, t82, rfl⟩ := len4 hl
    refine bf_ ?_
    refine ay_ 1 fun ht79 => ?_
    refine ay_ 2 fun ht80 => ?_
    refine ay_ 3 fun ht81 => ?_
    refine ay_ 4 fun ht82 => ?_
    refine t_N ?_
    intro h s σ hS hH
    obtain rfl := si_1 h
    exact bN_ (aR_ [t79, t80, t81, t82] r_nil rfl rfl (Heap.sel hH [0, 1, 2, 3, 4, 6] rfl (by kernel_rfl)))
   intro h s σ hS hH
   obtain rfl := si_1 h
   exact bN_ (aR_ [t72, t73, t74, t75] r_nil rfl rfl (Heap.sel hH [0, 1, 2, 3, 4, 6] rfl (by kernel_rfl)))
  refine t_RN ?_
  refine t_if (fun hc31 => ?_) fun hc31 => ?_
  ·refine be_ [(10, RN), (13, RN)] ext_x fun mb σs hn0 hlt hlto => ?_
   refine t_U 4 ?_
   refine ae_ 1 ?_ (hlt := by exact (Or.inl (by kernel_rfl)))
   refine t_U 1 ?_
   refine ae_ 0 ?_ (hlt := by exact (Or.inl (by kernel_rfl)))
   refine t_U 2 ?_
   refine kM_ (⟨false, [(⟨a1.Text, ⟨#[]⟩, a2, 3⟩ : DCapture)]⟩ : Sl DCapture) (fun t83 ht83 => ?_) (hb := by exact hn0)
   refine f2_ 5 (fun hH => dx_ (hH.at 0 rfl) (by kernel_rfl)) (fun y27 t84 hy27 ht84 => ?_) (hb := by exact hn0) (hwr := by exact fun hH b e o n h0 => Or.inr ⟨10, by kernel_rfl, fun h => h⟩)
   refine t_U 2 ?_
   refine ca_ 3 ht84 ?_ (hwr := by exact fun hH => Or.inr ⟨13, by kernel_rfl, fun h => h⟩)
   refine t_N ?_
   refine t_RU 1 ?_
   refine e3_ (fun y28 s σ => Sub [(0, .ptr bp0 0 0 13), (2, i4 a2), (3, i4 a3), (185, .bool y28.1)] s ∧ Heap σ0 σ [.box bp0 [a0.env_.t, .str a0.s_, i4 a0.fuel_, i4 a0.mode_, i4 y1.2.1, p0_1, p0_2, t84, p0_4, .bool a0.full_, .bool a0.abort_, .bool a0.stop_, i4 y28.2], .flt 6 p0_1 a0.conts_.t, .own true 3 p0_2 a0.out_.t, .flt 4 t84 y27.t, .flt 4 p0_4 a0.conds_.t, .keep F σk]) ok_152 (fun y28 => ?_) fun y28 s σ HF h => ?_
   ·refine t_RN ?_
    refine t_D fun mb => ?_
    refine t_U 3 ?_
    refine ae_ 0 ?_
    refine dU_ (a := y27) 1 ?_
    refine t_U 3 ?_
    refine ae_ 0 ?_
    refine dU_ (a := a0.conds_) 6 ?_
    refine t_N ?_
    refine t_if (fun hc32 => ?_) fun hc32 => ?_
    ·refine t_RU 3 ?_
     refine aO_ 0 ?_
     refine t_N ?_
     refine t_RN ?_
     exact cv_ (rT rN) fun he hS hH => he ▸ ⟨(ad_ hS (by kernel_rfl)), (Heap.sel hH [0, 4, 5, 1, 6, 7] rfl (by kernel_rfl))⟩
    refine t_RN ?_
    exact cv_ (rT rN) fun he hS hH => he ▸ ⟨(ad_ hS (by kernel_rfl)), (Heap.sel hH [0, 4, 5, 1, 6, 7] rfl (by kernel_rfl))⟩
   obtain ⟨hS, hH⟩ := HF
   refine t_bk h hS hH ?_
   refine t_N ?_
   refine t_if (fun hc33 => ?_) fun hc33 => ?_
   ·refine t_RU 3 ?_
    refine aK_ (fun y29 hs hy29 hl => ?_) (hr := by exact fun y29 hy29 => hR_149 _ _ _ y29 hy29 bp0 p0_1 p0_2 t84 p0_4)
    obtain ⟨t85, t86, t87, t88, rfl⟩ := len4 hl
    refine bf_ ?_
    refine ay_ 1 fun ht85 => ?_
    refine ay_ 2 fun ht86 => ?_
    refine ay_ 3 fun ht87 => ?_
    refine ay_ 4 fun ht88 => ?_
    refine t_N ?_
    intro h s σ hS hH
    obtain rfl := si_1 h
    exact bN_ (aR_ [t85, t86, t87, t88] r_nil rfl rfl hH)
   intro h s σ hS hH
   obtain rfl := si_1 h
   exact bN_ (aR_ [p0_1, p0_2, t84, p0_4] r_nil rfl rfl hH)
  refine t_RN ?_
  refine t_if (fun hc34 => ?_) fun hc34 => ?_
  ·refine t_D fun mb => ?_
   refine t_U 3 ?_
   refine ae_ 1 ?_
   refine t_U 1 ?_
   refine ae_ 0 ?_
   refine aA_ fun y30 hy30 => ?_
   refine t_N ?_
   refine t_RN ?_
   refine t_if (fun hc35 => ?_) fun hc35 => ?_
   ·refine t_RU 3 ?_
    refine aO_ 1 ?_
    refine t_N ?_
    intro h s σ hS hH
    obtain rfl := si_1 h
    exact aR_ [p0_1, p0_2, p0_3, p0_4] r_nil rfl rfl (Heap.sel hH [0, 2, 3, 4, 5, 6] rfl (by kernel_rfl))
   refine t_RU 4 ?_
   refine ae_ 1 ?_
   refine t_U 1 ?_
   refine cj_ fun y31 rest5 hy31 => ?_
   refine t_U 4 ?_
   refine t_h (·.up5.up5.up5.up5.up5) ?_
   refine aK_ (fun y32 hs hy32 hl => ?_) (hr := by exact fun y32 hy32 => hR_119 _ _ _ _ y32 hy32 bp0 p0_1 p0_2 p0_3 p0_4)
   obtain ⟨t89, t90, t91, t92, rfl⟩ := len4 hl
   refine bf_ ?_
   refine ay_ 1 fun ht89 => ?_
   refine ay_ 2 fun ht90 => ?_
   refine ay_ 3 fun ht91 => ?_
   refine ay_ 4 fun ht92 => ?_
   refine t_N ?_
   intro h s σ hS hH
   obtain rfl := si_1 h
   exact bN_ (aR_ [t89, t90, t91, t92] r_nil rfl rfl (Heap.sel hH [0, 1, 2, 3, 4, 6] rfl (by kernel_rfl)))
  refine t_D fun mb => ?_
  refine ae_ 0 ?_
  refine t_U 3 ?_
  refine ae_ 1 ?_
  refine t_U 1 ?_
  refine aA_ fun y33 hy33 => ?_
  refine t_N ?_
  refine t_RN ?_
  refine t_if (fun hc36 => ?_) fun hc36 => ?_
  ·refine t_RU 3 ?_
   refine t_h (·.up5.up5.up5.up5.up5) ?_
   refine aK_ (fun y34 hs hy34 hl => ?_) (hr := by exact fun y34 hy34 => hR_149 _ _ _ y34 hy34 bp0 p0_1 p0_2 p0_3 p0_4)
   obtain ⟨t93, t94, t95, t96, rfl⟩ := len4 hl
   refine bf_ ?_
   refine ay_ 1 fun ht93 => ?_
   refine ay_ 2 fun ht94 => ?_
   refine ay_ 3 fun ht95 => ?_
   refine ay_ 4 fun ht96 => ?_
   refine t_N ?_
   intro h s σ hS hH
   obtain rfl := si_1 h
   exact bN_ (aR_ [t93, t94, t95, t96] r_nil rfl rfl (Heap.sel hH [0, 1, 2, 3, 4, 6] rfl (by kernel_rfl)))
  intro h s σ hS hH
  obtain rfl := si_1 h
  exact bN_ (aR_ [p0_1, p0_2, p0_3, p0_4] r_nil rfl rfl (Heap.sel hH [1, 2, 3, 4, 5, 6] rfl (by kernel_rfl)))
 refine t_if (fun hc37 => ?_) fun hc37 => ?_
 ·exact t_e fun he hS hH => by subst he; exact ⟨rfl, (ad_ hS (by kernel_rfl)), hH⟩
 refine t_RN ?_
 refine t_if (fun hc38 => ?_) fun hc38 => ?_
 ·exact t_e fun he hS hH => by subst he; exact ⟨rfl, (ad_ hS (by kernel_rfl)), hH⟩
 refine t_RN ?_
 exact t_e fun he hS hH => by subst he; exact ⟨rfl, (ad_ hS (by kernel_rfl)), hH⟩
noncomputable def aw_ (R_119 : an_ → DPattern → Int → Int → Option (Unit × an_)) (R_149 : an_ → Int → Int → Option (Unit × an_)) (a0 : an_) (a1 : Int) (a2 : Int) : Option (Unit × an_) := ((elt a0.conts_ a1).bind fun y1 => (if (decide (y1.p_.Kind = 19)) = true then ((elt y1.p_.Kids 1).bind fun y2 => ((R_119 a0 y2 a2 y1.next_).bind fun y3 => (some ((), y3.2)))) else (if (decide (y1.p_.Kind = 20)) = true then (if (decide (y1.c_ < a2)) = true then ((R_119 a0 y1.p_ a2 y1.next_).bind fun y4 => (some ((), y4.2))) else (some ((), a0))) else (if (decide (y1.p_.Kind = 21)) = true then ((subB a0.s_ y1.c_ a2).bind fun y5 => ((appS 48 a0.conds_ (⟨false, [(⟨y1.p_.Text, y5, a2, 1⟩ : DCapture)]⟩ : Sl DCapture)).bind fun y6 => (((if ((decide (100 < (w4 ((a0.now_.l.length : Int) + (y6.l.length : Int)))))) = true then (some (false, 6)) else (some (true, a0.code_))) : Option (Bool × Int)).bind fun y7 => (if y7.1 = true then ((R_149 (⟨a0.env_, a0.s_, a0.fuel_, a0.mode_, a0.steps_, a0.conts_, a0.out_, a0.now_, y6, a0.full_, a0.abort_, a0.stop_, y7.2⟩ : an_) y1.next_ a2).bind fun y8 => ((cutS y8.2.conds_ (w4 ((y8.2.conds_.l.length : Int) - 1))).bind fun y9 => (some ((), (⟨y8.2.env_, y8.2.s_, y8.2.fuel_, y8.2.mode_, y8.2.steps_, y8.2.conts_, y8.2.out_, y8.2.now_, y9, y8.2.full_, y8.2.abort_, y8.2.stop_, y8.2.code_⟩ : an_))))) else (some ((), (⟨a0.env_, a0.s_, a0.fuel_, a0.mode_, a0.steps_, a0.conts_, a0.out_, a0.now_, y6, a0.full_, a0.abort_, a0.stop_, y7.2⟩ : an_))))))) else (if (decide (y1.p_.Kind = 22)) = true then ((subB a0.s_ y1.c_ a2).bind fun y10 => ((appS 48 a0.now_ (⟨false, [(⟨y1.p_.Text, y10, a2, 2⟩ : DCapture)]⟩ : Sl DCapture)).bind fun y11 => (((if ((decide (100 < (w4 ((y11.l.length : Int) + (a0.conds_.l.length : Int)))))) = true then (some (false, 6)) else (some (true, a0.code_))) : Option (Bool × Int)).bind fun y12 => (if y12.1 = true then ((R_149 (⟨a0.env_, a0.s_, a0.fuel_, a0.mode_, a0.steps_, a0.conts_, a0.out_, y11, a0.conds_, a0.full_, a0.abort_, a0.stop_, y12.2⟩ : an_) y1.next_ a2).bind fun y13 => (some ((), y13.2))) else (some ((), (⟨a0.env_, a0.s_, a0.fuel_, a0.mode_, a0.steps_, a0.conts_, a0.out_, y11, a0.conds_, a0.full_, a0.abort_, a0.stop_, y12.2⟩ : an_))))))) else (((if (decide (a0.fuel_ ≤ a0.steps_)) = true then (some (false, a0.steps_, 7)) else (some (true, (w4 (a0.steps_ + 1)), a0.code_))) : Option (Bool × Int × Int)).bind fun y14 => (if y14.1 = true then (((if (decide (a0.mode_ = 3)) = true then (some (a0.full_, a0.stop_, a0.out_)) else (if (decide (60 ≤ (a0.out_.l.length : Int))) = true then (some (true, true, a0.out_)) else ((appS 48 (⟨false, []⟩ : Sl DCapture) a0.now_).bind fun y16 => ((appS 48 y16 a0.conds_).bind fun y17 => ((appS 40 a0.out_ (⟨false, [(⟨y1.c_, a2, y17⟩ : DMatch)]⟩ : Sl DMatch)).bind fun y18 => (some (a0.full_, (decide (a0.mode_ = 2)), y18))))))) : Option (Bool × Bool × (Sl DMatch))).bind fun y15 => (some ((), (⟨a0.env_, a0.s_, a0.fuel_, a0.mode_, y14.2.1, a0.conts_, y15.2.2, a0.now_, a0.conds_, y15.1, a0.abort_, y15.2.1, y14.2.2⟩ : an_)))) else (some ((), (⟨a0.env_, a0.s_, a0.fuel_, a0.mode_, y14.2.1, a0.conts_, a0.out_, a0.now_, a0.conds_, a0.full_, a0.abort_, a0.stop_, y14.2.2⟩ : an_))))))))))
theorem ht_ (R_119 : an_ → DPattern → Int → Int → Option (Unit × an_)) (R_149 : an_ → Int → Int → Option (Unit × an_)) (hR_119 : cD_ R_119) (hR_149 : cx_ R_149) : cx_ (aw_ R_119 R_149) := by
 intro a0 a1 a2 r h bp0 p0_1 p0_2 p0_3 p0_4
 unfold aw_ at h
 refine b9_ rfl rfl ok_149 rfl ?_
 intro σ0 σ F σk s hS hH
 have hp0_1 : ar_ p0_1 := Heap.fltOne (hH.at 1 rfl)
 have hp0_2 : ar_ p0_2 := Heap.one (hH.at 2 rfl)
 have hp0_3 : ar_ p0_3 := Heap.fltOne (hH.at 3 rfl)
 have hp0_4 : ar_ p0_4 := Heap.fltOne (hH.at 4 rfl)
 have hS := ad_ (L' := [(0, .ptr bp0 0 0 13), (1, i4 a1), (2, i4 a2)]) hS (by kernel_rfl)
 refine t_go h hS hH ?_
 refine t_RU 3 ?_
 refine ae_ 0 ?_
 refine t_U 1 ?_
 refine r8_ 1 (fun hb1 hb1e y1 hy1 hl_hb1 => ?_)
 refine qH_ 1 0 hl_hb1 hy1 ?_
 refine b2_ fun b1 => ?_
 refine aY_ 0 ?_
 refine t_N ?_
 refine t_RU 2 ?_
 refine ae_ 0 ?_
 refine t_N ?_
 refine t_RN ?_
 refine t_if (fun hc1 => ?_) fun hc1 => ?_
 ·refine be_ [(9, RN)] ext_x fun mb σs hn0 hlt hlto => ?_
  refine t_U 3 ?_
  refine ae_ 0 ?_ (hlt := by exact (Or.inl (by kernel_rfl)))
  refine cj_ fun y2 rest1 hy2 => ?_
  refine t_U 3 ?_
  refine ae_ 0 ?_ (hlt := by exact (Or.inl (by kernel_rfl)))
  refine t_h (·.up5.up5.up5.up5.up5) ?_
  refine d2_ RN ext_x Stay.nil (by exact fun x hx => Or.inr ⟨9, by kernel_rfl, hx⟩) (fun y3 hs hy3 hl => ?_) (hr := by exact fun y3 hy3 => hR_119 _ _ _ _ y3 hy3 bp0 p0_1 p0_2 p0_3 p0_4)
  obtain ⟨t1, t2, t3, t4, rfl⟩ := len4 hl
  refine bf_ ?_
  refine ay_ 1 fun ht1 => ?_
  refine ay_ 2 fun ht2 => ?_
  refine ay_ 3 fun ht3 => ?_
  refine ay_ 4 fun ht4 => ?_
  refine t_N ?_
  intro h s σ hS hH
  obtain rfl := si_1 h
  exact bN_ (aR_ [t1, t2, t3, t4] r_nil rfl rfl (Heap.sel hH [0, 1, 2, 3, 4, 6] rfl (by kernel_rfl)))
 refine t_RN ?_
 refine t_if (fun hc2 => ?_) fun hc2 => ?_
 ·refine t_RU 2 ?_
  refine ae_ 0 ?_
  refine t_N ?_
  refine t_if (fun hc3 => ?_) fun hc3 => ?_
  ·refine t_RU 2 ?_
   refine ae_ 0 ?_
   refine t_U 2 ?_
   refine ae_ 0 ?_
   refine t_h (·.up5.up5.up5.up5.up5) ?_
   refine aK_ (fun y4 hs hy4 hl => ?_) (hr := by exact fun y4 hy4 => hR_119 _ _ _ _ y4 hy4 bp0 p0_1 p0_2 p0_3 p0_4)
   obtain ⟨t5, t6, t7, t8, rfl⟩ := len4 hl
   refine bf_ ?_
   refine ay_ 1 fun ht5 => ?_
   refine ay_ 2 fun ht6 => ?_
   refine ay_ 3 fun ht7 => ?_
   refine ay_ 4 fun ht8 => ?_
   refine t_N ?_
   intro h s σ hS hH
   obtain rfl := si_1 h
   exact bN_ (aR_ [t5, t6, t7, t8] r_nil rfl rfl (Heap.sel hH [0, 1, 2, 3, 4, 6] rfl (by kernel_rfl)))
  intro h s σ hS hH
  obtain rfl := si_1 h
  exact bN_ (aR_ [p0_1, p0_2, p0_3, p0_4] r_nil rfl rfl (Heap.sel hH [1, 2, 3, 4, 5, 6] rfl (by kernel_rfl)))
 refine t_RN ?_
 refine t_if (fun hc4 => ?_) fun hc4 => ?_
 ·refine be_ [(19, RN), (22, RN)] ext_x fun mb σs hn0 hlt hlto => ?_
  refine t_U 4 ?_
  refine ae_ 1 ?_ (hlt := by exact (Or.inl (by kernel_rfl)))
  refine t_U 2 ?_
  refine ae_ 0 ?_ (hlt := by exact (Or.inl (by kernel_rfl)))
  refine t_U 3 ?_
  refine ae_ 1 ?_ (hlt := by exact (Or.inl (by kernel_rfl)))
  refine t_U 1 ?_
  refine ae_ 0 ?_ (hlt := by exact (Or.inl (by kernel_rfl)))
  refine t_U 1 ?_
  refine h6_ fun y5 hy5 => ?_
  refine t_U 2 ?_
  refine kM_ (⟨false, [(⟨y1.p_.Text, y5, a2, 1⟩ : DCapture)]⟩ : Sl DCapture) (fun t9 ht9 => ?_) (hb := by exact hn0)
  refine f2_ 6 (fun hH => dx_ (hH.at 0 rfl) (by kernel_rfl)) (fun y6 t10 hy6 ht10 => ?_) (hb := by exact hn0) (hwr := by exact fun hH b e o n h0 => Or.inr ⟨19, by kernel_rfl, fun h => h⟩)
  refine t_U 2 ?_
  refine ca_ 3 ht10 ?_ (hwr := by exact fun hH => Or.inr ⟨22, by kernel_rfl, fun h => h⟩)
  refine t_N ?_
  refine t_RU 1 ?_
  refine e3_ (fun y7 s σ => Sub [(0, .ptr bp0 0 0 13), (2, i4 a2), (6, .ptr b1 0 0 6), (74, .bool y7.1)] s ∧ Heap σ0 σ [.box bp0 [a0.env_.t, .str a0.s_, i4 a0.fuel_, i4 a0.mode_, i4 a0.steps_, p0_1, p0_2, p0_3, t10, .bool a0.full_, .bool a0.abort_, .bool a0.stop_, i4 y7.2], .box b1 (ah_.cells y1), .flt 6 p0_1 a0.conts_.t, .own true 3 p0_2 a0.out_.t, .flt 4 p0_3 a0.now_.t, .flt 4 t10 y6.t, .keep F σk]) ok_152 (fun y7 => ?_) fun y7 s σ HF h => ?_
  ·refine t_RN ?_
   refine t_D fun mb => ?_
   refine t_U 3 ?_
   refine ae_ 0 ?_
   refine dU_ (a := a0.now_) 6 ?_
   refine t_U 3 ?_
   refine ae_ 0 ?_
   refine dU_ (a := y6) 1 ?_
   refine t_N ?_
   refine t_if (fun hc5 => ?_) fun hc5 => ?_
   ·refine t_RU 3 ?_
    refine aO_ 0 ?_
    refine t_N ?_
    refine t_RN ?_
    exact cv_ (rT rN) fun he hS hH => he ▸ ⟨(ad_ hS (by kernel_rfl)), (Heap.sel hH [0, 3, 4, 5, 6, 1, 7] rfl (by kernel_rfl))⟩
   refine t_RN ?_
   exact cv_ (rT rN) fun he hS hH => he ▸ ⟨(ad_ hS (by kernel_rfl)), (Heap.sel hH [0, 3, 4, 5, 6, 1, 7] rfl (by kernel_rfl))⟩
  obtain ⟨hS, hH⟩ := HF
  refine t_bk h hS hH ?_
  refine t_N ?_
  refine t_if (fun hc6 => ?_) fun hc6 => ?_
  ·refine t_RU 2 ?_
   refine ae_ 1 ?_
   refine t_U 1 ?_
   refine t_h (·.up5.up5.up5.up5.up4) ?_
   refine aK_ (fun y8 hs hy8 hl => ?_) (hr := by exact fun y8 hy8 => hR_149 _ _ _ y8 hy8 bp0 p0_1 p0_2 p0_3 t10)
   obtain ⟨t11, t12, t13, t14, rfl⟩ := len4 hl
   refine bf_ ?_
   refine ay_ 1 fun ht11 => ?_
   refine ay_ 2 fun ht12 => ?_
   refine ay_ 3 fun ht13 => ?_
   refine ay_ 4 fun ht14 => ?_
   refine t_N ?_
   refine be_ [(14, RN)] ext_x fun mb σs hn0 hlt hlto => ?_
   refine t_U 4 ?_
   refine ae_ 0 ?_ (hlt := by exact (Or.inl (by kernel_rfl)))
   refine t_U 3 ?_
   refine ae_ 0 ?_ (hlt := by exact (Or.inl (by kernel_rfl)))
   refine dU_ (a := y8.2.conds_) 4 ?_
   refine t_U 1 ?_
   refine pM_ 4 (fun y9 t15 hy9 ht15 => ?_) (hlt := by exact (fun _ _ _ _ _ => Or.inl (by kernel_rfl)))
   refine t_U 2 ?_
   refine ca_ 1 ht15 ?_ (hwr := by exact fun hH => Or.inr ⟨14, by kernel_rfl, fun h => h⟩)
   refine t_N ?_
   intro h s σ hS hH
   obtain rfl := si_1 h
   exact bN_ (aR_ [t11, t12, t13, t15] r_nil rfl rfl (Heap.sel hH [0, 2, 3, 4, 1, 6] rfl (by kernel_rfl)))
  intro h s σ hS hH
  obtain rfl := si_1 h
  exact bN_ (aR_ [p0_1, p0_2, p0_3, t10] r_nil rfl rfl (Heap.sel hH [0, 2, 3, 4, 5, 6] rfl (by kernel_rfl)))
 refine t_RN ?_
 refine t_if (fun hc7 => ?_) fun hc7 => ?_
 ·refine be_ [(19, RN), (22, RN)] ext_x fun mb σs hn0 hlt hlto => ?_
  refine t_U 4 ?_
  refine ae_ 1 ?_ (hlt := by exact (Or.inl (by kernel_rfl)))
  refine t_U 2 ?_
  refine ae_ 0 ?_ (hlt := by exact (Or.inl (by kernel_rfl)))
  refine t_U 3 ?_
  refine ae_ 1 ?_ (hlt := by exact (Or.inl (by kernel_rfl)))
  refine t_U 1 ?_
  refine ae_ 0 ?_ (hlt := by exact (Or.inl (by kernel_rfl)))
  refine t_U 1 ?_
  refine h6_ fun y10 hy10 => ?_
  refine t_U 2 ?_
  refine kM_ (⟨false, [(⟨y1.p_.Text, y10, a2, 2⟩ : DCapture)]⟩ : Sl DCapture) (fun t16 ht16 => ?_) (hb := by exact hn0)
  refine f2_ 5 (fun hH => dx_ (hH.at 0 rfl) (by kernel_rfl)) (fun y11 t17 hy11 ht17 => ?_) (hb := by exact hn0) (hwr := by exact fun hH b e o n h0 => Or.inr ⟨19, by kernel_rfl, fun h => h⟩)
  refine t_U 2 ?_
  refine ca_ 3 ht17 ?_ (hwr := by exact fun hH => Or.inr ⟨22, by kernel_rfl, fun h => h⟩)
  refine t_N ?_
  refine t_RU 1 ?_
  refine e3_ (fun y12 s σ => Sub [(0, .ptr bp0 0 0 13), (2, i4 a2), (6, .ptr b1 0 0 6), (119, .bool y12.1)] s ∧ Heap σ0 σ [.box bp0 [a0.env_.t, .str a0.s_, i4 a0.fuel_, i4 a0.mode_, i4 a0.steps_, p0_1, p0_2, t17, p0_4, .bool a0.full_, .bool a0.abort_, .bool a0.stop_, i4 y12.2], .box b1 (ah_.cells y1), .flt 6 p0_1 a0.conts_.t, .own true 3 p0_2 a0.out_.t, .flt 4 t17 y11.t, .flt 4 p0_4 a0.conds_.t, .keep F σk]) ok_152 (fun y12 => ?_) fun y12 s σ HF h => ?_
  ·refine t_RN ?_
   refine t_D fun mb => ?_
   refine t_U 3 ?_
   refine ae_ 0 ?_
   refine dU_ (a := y11) 1 ?_
   refine t_U 3 ?_
   refine ae_ 0 ?_
   refine dU_ (a := a0.conds_) 6 ?_
   refine t_N ?_
   refine t_if (fun hc8 => ?_) fun hc8 => ?_
   ·refine t_RU 3 ?_
    refine aO_ 0 ?_
    refine t_N ?_
    refine t_RN ?_
    exact cv_ (rT rN) fun he hS hH => he ▸ ⟨(ad_ hS (by kernel_rfl)), (Heap.sel hH [0, 3, 4, 5, 1, 6, 7] rfl (by kernel_rfl))⟩
   refine t_RN ?_
   exact cv_ (rT rN) fun he hS hH => he ▸ ⟨(ad_ hS (by kernel_rfl)), (Heap.sel hH [0, 3, 4, 5, 1, 6, 7] rfl (by kernel_rfl))⟩
  obtain ⟨hS, hH⟩ := HF
  refine t_bk h hS hH ?_
  refine t_N ?_
  refine t_if (fun hc9 => ?_) fun hc9 => ?_
  ·refine t_RU 2 ?_
   refine ae_ 1 ?_
   refine t_U 1 ?_
   refine t_h (·.up5.up5.up5.up5.up4) ?_
   refine aK_ (fun y13 hs hy13 hl => ?_) (hr := by exact fun y13 hy13 => hR_149 _ _ _ y13 hy13 bp0 p0_1 p0_2 t17 p0_4)
   obtain ⟨t18, t19, t20, t21, rfl⟩ := len4 hl
   refine bf_ ?_
   refine ay_ 1 fun ht18 => ?_
   refine ay_ 2 fun ht19 => ?_
   refine ay_ 3 fun ht20 => ?_
   refine ay_ 4 fun ht21 => ?_
   refine t_N ?_
   intro h s σ hS hH
   obtain rfl := si_1 h
   exact bN_ (aR_ [t18, t19, t20, t21] r_nil rfl rfl (Heap.sel hH [0, 1, 2, 3, 4, 6] rfl (by kernel_rfl)))
  intro h s σ hS hH
  obtain rfl := si_1 h
  exact bN_ (aR_ [p0_1, p0_2, t17, p0_4] r_nil rfl rfl (Heap.sel hH [0, 2, 3, 4, 5, 6] rfl (by kernel_rfl)))
 refine t_RU 1 ?_
 refine e3_ (fun y14 s σ => Sub [(0, .ptr bp0 0 0 13), (2, i4 a2), (6, .ptr b1 0 0 6), (18, .bool y14.1)] s ∧ Heap σ0 σ [.box b1 (ah_.cells y1), .box bp0 [a0.env_.t, .str a0.s_, i4 a0.fuel_, i4 a0.mode_, i4 y14.2.1, p0_1, p0_2, p0_3, p0_4, .bool a0.full_, .bool a0.abort_, .bool a0.stop_, i4 y14.2.2], .flt 6 p0_1 a0.conts_.t, .own true 3 p0_2 a0.out_.t, .flt 4 p0_3 a0.now_.t, .flt 4 p0_4 a0.conds_.t, .keep F σk]) ok_148 (fun y14 => ?_) fun y14 s σ HF h => ?_
 ·refine t_RN ?_
  refine t_D fun mb => ?_
  refine t_U 3 ?_
  refine ae_ 1 ?_
  refine t_U 3 ?_
  refine ae_ 1 ?_
  refine t_N ?_
  refine t_if (fun hc10 => ?_) fun hc10 => ?_
  ·refine t_RU 3 ?_
   refine aO_ 1 ?_
   refine t_N ?_
   refine t_RN ?_
   exact cv_ (rT rN) fun he hS hH => he ▸ ⟨(ad_ hS (by kernel_rfl)), (Heap.sel hH [1, 0, 2, 3, 4, 5, 6] rfl (by kernel_rfl))⟩
  refine t_RU 3 ?_
  refine ae_ 1 ?_
  refine t_U 3 ?_
  refine aO_ 1 ?_
  refine t_N ?_
  refine t_RN ?_
  exact cv_ (rT rN) fun he hS hH => he ▸ ⟨(ad_ hS (by kernel_rfl)), (Heap.sel hH [1, 0, 2, 3, 4, 5, 6] rfl (by kernel_rfl))⟩
 obtain ⟨hS, hH⟩ := HF
 refine t_bk h hS hH ?_
 refine t_N ?_
 refine t_if (fun hc11 => ?_) fun hc11 => ?_
 ·refine t_RU 2 ?_
  refine ae_ 0 ?_
  refine t_U 1 ?_
  refine e3_ (fun y15 s σ => ∃ t22, ar_ t22 ∧ Sub [] s ∧ Heap σ0 σ [.box bp0 [a0.env_.t, .str a0.s_, i4 a0.fuel_, i4 a0.mode_, i4 y14.2.1, p0_1, t22, p0_3, p0_4, .bool y15.1, .bool a0.abort_, .bool y15.2.1, i4 y14.2.2], .flt 6 p0_1 a0.conts_.t, .own true 3 t22 y15.2.2.t, .flt 4 p0_3 a0.now_.t, .flt 4 p0_4 a0.conds_.t, .keep F σk]) ok_177 (fun y15 => ?_) fun y15 s σ HF h => ?_
  ·refine t_RU 3 ?_
   refine ae_ 1 ?_
   refine t_N ?_
   refine t_if (fun hc12 => ?_) fun hc12 => ?_
   ·exact cv_ rN fun he hS hH => he ▸ ⟨p0_2, hp0_2, (ad_ hS (by kernel_rfl)), (Heap.sel hH [1, 2, 3, 4, 5, 6] rfl (by kernel_rfl))⟩
   refine t_RU 3 ?_
   refine ae_ 1 ?_
   refine iC_ (a := a0.out_) 3 ?_
   refine t_N ?_
   refine t_if (fun hc13 => ?_) fun hc13 => ?_
   ·refine t_RU 3 ?_
    refine aO_ 1 ?_
    refine t_N ?_
    refine t_RU 3 ?_
    refine aO_ 0 ?_
    refine t_N ?_
    exact cv_ rN fun he hS hH => he ▸ ⟨p0_2, hp0_2, (ad_ hS (by kernel_rfl)), (Heap.sel hH [0, 2, 3, 4, 5, 6] rfl (by kernel_rfl))⟩
   refine t_RU 2 ?_
   refine rA_ (α := DCapture) (fun t23 ht23 => ?_)
   refine t_U 3 ?_
   refine ae_ 2 ?_
   refine op_ 0 (fun hH => dx_ (hH.at 5 rfl) (by kernel_rfl)) (fun y16 t24 hy16 ht24 => ?_)
   intro h s σ hS hH
   refine ln_ (qs := [(0, i4 y1.c_), (1, i4 a2), (2, t24)]) (z := [i4 0, i4 0, (nt DCapture)]) (r := [i4 y1.c_, i4 a2, t24]) [[i4 y1.c_], [i4 a2], [t24]] rfl hS rfl (by kernel_rfl) (by kernel_rfl) (⟨rfl, (by kernel_rfl), rfl, (by kernel_rfl), (by simp [ht24.1, ht24.2]), (by simp [ht24.1, ht24.2]), trivial⟩) (by kernel_rfl) ?_; intro s hS
   refine t_bk h hS hH ?_
   refine b2_ fun b2 => ?_
   refine aY_ 0 ?_ (h1 := by simp [ht24.1, ht24.2])
   refine t_N ?_
   refine be_ [(6, RN), (8, RN)] ext_x fun mb σs hn0 hlt hlto => ?_
   refine t_U 1 ?_
   refine ae_ 0 ?_ (hlt := by exact (Or.inl (by kernel_rfl)))
   refine t_U 3 ?_
   refine ae_ 3 ?_ (hlt := by exact (Or.inl (by kernel_rfl)))
   refine op_ 1 (fun hH => dx_ (hH.at 7 rfl) (by kernel_rfl)) (fun y17 t25 hy17 ht25 => ?_) (hb := by exact hn0) (hwr := by exact fun hH b e o n h0 => Or.inr ⟨6, by kernel_rfl, fun h => h⟩)
   refine t_U 1 ?_
   refine ca_ 1 ht25 ?_ (hwr := by exact fun hH => Or.inr ⟨8, by kernel_rfl, fun h => h⟩)
   refine t_N ?_
   refine be_ [(7, RN), (10, RN)] ext_x fun mb σs hn0 hlt hlto => ?_
   refine t_U 4 ?_
   refine ae_ 3 ?_ (hlt := by exact (Or.inl (by kernel_rfl)))
   refine ae_ 0 ?_ (hlt := by exact (Or.inl (by kernel_rfl)))
   refine t_h Heap.up1 ?_
   refine k_bs (z := true) (⟨false, [(⟨y1.c_, a2, y17⟩ : DMatch)]⟩ : Sl DMatch) (fun t26 ht26 => ?_) (hb := by exact hn0) (h1 := by simp [ht25.1, ht25.2])
   refine lF_ 5 0 (fun y18 t27 hy18 ht27 => ?_) (hb := by exact hn0) (hwr := by exact fun hH b e o n h0 => Or.inr ⟨7, by kernel_rfl, fun h => h⟩)
   refine t_U 2 ?_
   refine ca_ 3 ht27 ?_ (hwr := by exact fun hH => Or.inr ⟨10, by kernel_rfl, fun h => h⟩)
   refine t_N ?_
   refine t_RU 4 ?_
   refine ae_ 0 ?_
   refine t_U 3 ?_
   refine aO_ 0 ?_
   refine t_N ?_
   exact cv_ rN fun he hS hH => he ▸ ⟨t27, ht27, (ad_ hS (by kernel_rfl)), (Heap.sel hH [0, 4, 1, 5, 6, 7] rfl (by kernel_rfl))⟩
  obtain ⟨t22, ht22, ⟨hS, hH⟩⟩ := HF
  refine t_bk h hS hH ?_
  refine t_N ?_
  intro h s σ hS hH
  obtain rfl := si_1 h
  exact bN_ (aR_ [p0_1, t22, p0_3, p0_4] r_nil rfl rfl hH)
 intro h s σ hS hH
 obtain rfl := si_1 h
 exact bN_ (aR_ [p0_1, p0_2, p0_3, p0_4] r_nil rfl rfl (Heap.sel hH [1, 2, 3, 4, 5, 6] rfl (by kernel_rfl)))
noncomputable def BG_spec_l12Run_at : Nat → (an_ → DPattern → Int → Int → Option (Unit × an_)) × (an_ → Int → Int → Option (Unit × an_))
 | 0 => ((fun _ _ _ _ => none), (fun _ _ _ => none))
 | n + 1 => (af_ (BG_spec_l12Run_at n).1 (BG_spec_l12Run_at n).2, aw_ (BG_spec_l12Run_at n).1 (BG_spec_l12Run_at n).2)
theorem uBG_spec_l12Run_at : ∀ n, cD_ ((BG_spec_l12Run_at n).1) ∧ cx_ ((BG_spec_l12Run_at n).2)
 | 0 => ⟨(by intro _ _ _ _ r h; have h : none = some r := h; cases h), (by intro _ _ _ r h; have h : none = some r := h; cases h)⟩
 | n + 1 => ⟨hq_ (BG_spec_l12Run_at n).1 (BG_spec_l12Run_at n).2 (uBG_spec_l12Run_at n).1 (uBG_spec_l12Run_at n).2, ht_ (BG_spec_l12Run_at n).1 (BG_spec_l12Run_at n).2 (uBG_spec_l12Run_at n).1 (uBG_spec_l12Run_at n).2⟩
noncomputable def hF_ (a0 : an_) (a1 : DPattern) (a2 : Int) (a3 : Int) : Option (Unit × an_) := (BG_spec_l12Run_at bigN).1 a0 a1 a2 a3
theorem m9_ (a0 : an_) (a1 : DPattern) (a2 : Int) (a3 : Int) (r : (Unit × an_)) (h : hF_ a0 a1 a2 a3 = some r) (bp0 : Nat) (p0_1 p0_2 p0_3 p0_4 : T) : RawS Try.prog md ext 119 [.ptr bp0 0 0 13, .agg [i4 a1.Kind, i4 a1.Num, .str a1.Text, a1.Kids.t], i4 a2, i4 a3] 4 (fun hs => E_t0_ r.1) [.box bp0 [a0.env_.t, .str a0.s_, i4 a0.fuel_, i4 a0.mode_, i4 a0.steps_, p0_1, p0_2, p0_3, p0_4, .bool a0.full_, .bool a0.abort_, .bool a0.stop_, i4 a0.code_], .flt 6 p0_1 a0.conts_.t, .own true 3 p0_2 a0.out_.t, .flt 4 p0_3 a0.now_.t, .flt 4 p0_4 a0.conds_.t] (fun hs => f6_ bp0 r.2 hs) := (uBG_spec_l12Run_at bigN).1 a0 a1 a2 a3 r h bp0 p0_1 p0_2 p0_3 p0_4
noncomputable def hB_ (a0 : an_) (a1 : Int) (a2 : Int) : Option (Unit × an_) := (BG_spec_l12Run_at bigN).2 a0 a1 a2
theorem m8_ (a0 : an_) (a1 : Int) (a2 : Int) (r : (Unit × an_)) (h : hB_ a0 a1 a2 = some r) (bp0 : Nat) (p0_1 p0_2 p0_3 p0_4 : T) : RawS Try.prog md ext 149 [.ptr bp0 0 0 13, i4 a1, i4 a2] 4 (fun hs => E_t0_ r.1) [.box bp0 [a0.env_.t, .str a0.s_, i4 a0.fuel_, i4 a0.mode_, i4 a0.steps_, p0_1, p0_2, p0_3, p0_4, .bool a0.full_, .bool a0.abort_, .bool a0.stop_, i4 a0.code_], .flt 6 p0_1 a0.conts_.t, .own true 3 p0_2 a0.out_.t, .flt 4 p0_3 a0.now_.t, .flt 4 p0_4 a0.conds_.t] (fun hs => f6_ bp0 r.2 hs) := (uBG_spec_l12Run_at bigN).2 a0 a1 a2 r h bp0 p0_1 p0_2 p0_3 p0_4
noncomputable def ck_ (a0 : (Sl DCapture)) (a1 : (Sl DCapture)) : Option Bool := (if ((!decide ((a0.l.length : Int) = (a1.l.length : Int)))) = true then (some false) else ((aF_ (S := Int) (R := (Unit ⊕ Bool)) (fun st1 => (if (decide (st1 < (a0.l.length : Int))) = true then ((elt a0 st1).bind fun y2 => ((elt a1 st1).bind fun y3 => (if ((!(decide (y2.Name = y3.Name) && (decide (y2.Text = y3.Text) && (decide (y2.Cursor = y3.Cursor) && (decide (y2.Kind = y3.Kind) && true)))))) = true then (some (.inr (.inr false))) else (some (.inl (w4 (st1 + 1))))))) else (some (.inr (.inl ()))))) 0).bind fun y1 => (Sum.elim (fun y1 => (some true)) (fun y1 => (some y1)) y1)))
theorem fD_ (a0 : (Sl DCapture)) (a1 : (Sl DCapture)) (r : Bool) (h : ck_ a0 a1 = some r) : cm_ a0 a1 = some r := by
 unfold ck_ at h
 refine k_W ok_120 E_bool_inj h (fun σ0 => ?_)
 refine t_RN ?_
 refine t_RN ?_
 refine t_if (fun hc1 => ?_) fun hc1 => ?_
 ·refine t_RN ?_
  exact k_eW (rT rN) E_bool_p
 refine t_RN ?_
 refine a6_ (fun st1 fr => Sub [(0, a0.t), (1, a1.t), (12, i4 (a0.l.length : Int)), (13, i4 st1)] fr.s ∧ Heap σ0 fr.σ []) (fun y1 e fr => (Sum.elim (fun y => e = (.exit 0) ∧ Sub [] fr.s ∧ Heap σ0 fr.σ []) (fun y => e = .ret ∧ endW Try.prog (Try.f120.results.toList) σ0 (E_bool y) .ret fr)) y1) (fun hS hH => ⟨(ad_ hS (by kernel_rfl)), hH⟩) (fun st1 x fr h HI => ?_) fun y1 e fr h HF => ?_
 ·obtain ⟨s, σ⟩ := fr; obtain ⟨hS, hH⟩ := HI
  refine t_bk h hS hH ?_
  refine t_RN ?_
  refine t_if (fun hc2 => ?_) fun hc2 => ?_
  ·refine t_RN ?_
   refine t_D fun mb => ?_
   refine t_U 2 ?_
   refine cj_ fun y2 rest1 hy2 => ?_
   refine t_U 3 ?_
   refine cj_ fun y3 rest2 hy3 => ?_
   refine t_U 1 ?_
   intro h s σ hS hH
   refine uq_ (xs := [.str y2.Name, .str y2.Text, i4 y2.Cursor, i4 y2.Kind]) (ys := [.str y3.Name, .str y3.Text, i4 y3.Cursor, i4 y3.Kind]) (v := (decide (y2.Name = y3.Name) && (decide (y2.Text = y3.Text) && (decide (y2.Cursor = y3.Cursor) && (decide (y2.Kind = y3.Kind) && true))))) rfl hS rfl rfl (by kernel_rfl) (by kernel_rfl) ?_; intro s hS
   refine t_bk h hS hH ?_
   refine t_N ?_
   refine t_if (fun hc3 => ?_) fun hc3 => ?_
   ·refine t_RN ?_
    exact t_e fun he hS hH => he ▸ ⟨rfl, (eW hS hH (rT rN) E_bool_p)⟩
   refine t_RN ?_
   exact t_e fun he hS hH => he ▸ ⟨(ad_ hS (by kernel_rfl)), hH⟩
  exact t_e fun he hS hH => he ▸ ⟨rfl, (ad_ hS (by kernel_rfl)), hH⟩
 obtain ⟨s, σ⟩ := fr
 rcases y1 with y1 | y1
 ·have h := el_l h
  obtain ⟨rfl, hS, hH⟩ := HF
  refine t_bx h hS hH ?_
  refine t_RN ?_
  exact k_eW (rT rN) E_bool_p
 have h := el_r h
 obtain ⟨rfl, HE⟩ := HF
 obtain rfl := si_1 h; exact HE
noncomputable def do_ (a0 : Int) (a1 : Int) (a2 : ByteArray) : Option Bool := (if (decide (a0 = 1)) = true then (if (decide (a1 = 0)) = true then ((cL_ a2).bind fun y1 => (some y1)) else (some false)) else ((ft_ a0).bind fun y2 => (if y2 = true then (if (decide (a1 = 0)) = true then (if (!decide (a2 = (⟨#[]⟩ : ByteArray))) = true then ((cL_ a2).bind fun y3 => (some y3)) else (some false)) else (some false)) else ((dF_ a0).bind fun y4 => (if y4 = true then (if (decide (a2 = (⟨#[]⟩ : ByteArray))) = true then ((bM_ a1 0 200).bind fun y5 => (some y5)) else (some false)) else ((eP_ a0).bind fun y6 => (if y6 = true then (if (decide (a1 = 0)) = true then ((d0_ a2).bind fun y7 => (some y7)) else (some false)) else ((cH_ a0).bind fun y8 => (if y8 = true then (if (decide (a1 = 0)) = true then (some (decide (a2 = (⟨#[]⟩ : ByteArray)))) else (some false)) else (some false))))))))))
theorem hn_ (a0 : Int) (a1 : Int) (a2 : ByteArray) (r : Bool) (h : do_ a0 a1 a2 = some r) : dt_ a0 a1 a2 = some r := by
 unfold do_ at h
 refine k_W ok_123 E_bool_inj h (fun σ0 => ?_)
 refine t_RN ?_
 refine t_RN ?_
 refine t_if (fun hc1 => ?_) fun hc1 => ?_
 ·refine t_RU 3 ?_
  refine aQ_ 12 (fun hc2 => ?_) fun hc2 => ?_
  ·refine t_U 1 ?_
   refine aA_ fun y1 hy1 => ?_
   refine t_N ?_
   exact k_eW (rT rN) E_bool_p
  refine t_N ?_
  exact k_eW (rT rN) E_bool_p
 refine t_RU 1 ?_
 refine aA_ fun y2 hy2 => ?_
 refine t_N ?_
 refine t_if (fun hc3 => ?_) fun hc3 => ?_
 ·refine t_RU 3 ?_
  refine aQ_ 21 (fun hc4 => ?_) fun hc4 => ?_
  ·refine t_U 4 ?_
   refine aQ_ 25 (fun hc5 => ?_) fun hc5 => ?_
   ·refine t_U 1 ?_
    refine aA_ fun y3 hy3 => ?_
    refine t_N ?_
    exact k_eW (rT rN) E_bool_p
   refine t_N ?_
   exact k_eW (rT rN) E_bool_p
  refine t_N ?_
  exact k_eW (rT rN) E_bool_p
 refine t_RU 1 ?_
 refine aA_ fun y4 hy4 => ?_
 refine t_N ?_
 refine t_if (fun hc6 => ?_) fun hc6 => ?_
 ·refine t_RU 3 ?_
  refine aQ_ 34 (fun hc7 => ?_) fun hc7 => ?_
  ·refine t_U 1 ?_
   refine aA_ fun y5 hy5 => ?_
   refine t_N ?_
   exact k_eW (rT rN) E_bool_p
  refine t_N ?_
  exact k_eW (rT rN) E_bool_p
 refine t_RU 1 ?_
 refine aA_ fun y6 hy6 => ?_
 refine t_N ?_
 refine t_if (fun hc8 => ?_) fun hc8 => ?_
 ·refine t_RU 3 ?_
  refine aQ_ 43 (fun hc9 => ?_) fun hc9 => ?_
  ·refine t_U 1 ?_
   refine aA_ fun y7 hy7 => ?_
   refine t_N ?_
   exact k_eW (rT rN) E_bool_p
  refine t_N ?_
  exact k_eW (rT rN) E_bool_p
 refine t_RU 1 ?_
 refine aA_ fun y8 hy8 => ?_
 refine t_U 1 ?_
 refine aQ_ 49 (fun hc10 => ?_) fun hc10 => ?_
 ·refine t_U 4 ?_
  refine aQ_ 53 (fun hc11 => ?_) fun hc11 => ?_
  ·refine t_N ?_
   exact k_eW (rT rN) E_bool_p
  refine t_N ?_
  exact k_eW (rT rN) E_bool_p
 refine t_N ?_
 exact k_eW (rT rN) E_bool_p
noncomputable def fd_ (a0 : Int) : Option Int := (((if (decide (a0 = 18)) = true then (some (decide (a0 = 18))) else (some (decide (a0 = 19)))) : Option Bool).bind fun y1 => (if y1 = true then (some 2) else (((if (decide (a0 = 20)) = true then (some (decide (a0 = 20))) else (if (decide (a0 = 21)) = true then (some (decide (a0 = 21))) else (some (decide (a0 = 22))))) : Option Bool).bind fun y2 => (if y2 = true then (some 1) else (some 0)))))
theorem jP_ (a0 : Int) (r : Int) (h : fd_ a0 = some r) : fy_ a0 = some r := by
 unfold fd_ at h
 refine k_W ok_124 E_i64_inj h (fun σ0 => ?_)
 refine t_RN ?_
 refine t_RN ?_
 refine t_RN ?_
 refine ee_ 0 (fun y1 e fr => e = .normal ∧ Sub [(3, i4 a0), (4, .bool y1)] fr.s ∧ Heap σ0 fr.σ []) (fun y1 e fr h HF => ?_) fun y1 => ?_
 ·obtain ⟨s, σ⟩ := fr
  obtain ⟨rfl, hS, hH⟩ := HF
  refine t_bx h hS hH ?_
  refine t_if (fun hc1 => ?_) fun hc1 => ?_
  ·refine t_RN ?_
   exact k_eW (rT rN) E_i64_p
  refine t_RN ?_
  refine ee_ 0 (fun y2 e fr => e = .normal ∧ Sub [(7, .bool y2)] fr.s ∧ Heap σ0 fr.σ []) (fun y2 e fr h HF => ?_) fun y2 => ?_
  ·obtain ⟨s, σ⟩ := fr
   obtain ⟨rfl, hS, hH⟩ := HF
   refine t_bx h hS hH ?_
   refine t_if (fun hc2 => ?_) fun hc2 => ?_
   ·refine t_RN ?_
    exact k_eW (rT rN) E_i64_p
   refine t_RN ?_
   exact k_eW (rT rN) E_i64_p
  refine t_if (fun hc3 => ?_) fun hc3 => ?_
  ·exact t_e fun he hS hH => he ▸ ⟨rfl, (ad_ hS (by kernel_rfl)), hH⟩
  refine t_RN ?_
  refine t_if (fun hc4 => ?_) fun hc4 => ?_
  ·exact t_e fun he hS hH => he ▸ ⟨rfl, (ad_ hS (by kernel_rfl)), hH⟩
  refine t_RN ?_
  exact t_e fun he hS hH => he ▸ ⟨rfl, (ad_ hS (by kernel_rfl)), hH⟩
 refine t_if (fun hc5 => ?_) fun hc5 => ?_
 ·exact t_e fun he hS hH => he ▸ ⟨rfl, (ad_ hS (by kernel_rfl)), hH⟩
 refine t_RN ?_
 exact t_e fun he hS hH => he ▸ ⟨rfl, (ad_ hS (by kernel_rfl)), hH⟩
noncomputable def cT_ (a0 : (Sl DNamed)) (a1 : T) : Option Bool := (if flat1 a1 = true then ((aF_ (S := Int) (R := (Unit ⊕ Bool)) (fun st1 => (if (decide (st1 < (a0.l.length : Int))) = true then ((elt a0 st1).bind fun y2 => ((iv_ Try.prog md ext E_bool a1 [.agg (DNamed.cells y2)]).bind fun y3 => (if (!y3) = true then (some (.inr (.inr false))) else (some (.inl (w4 (st1 + 1))))))) else (some (.inr (.inl ()))))) 0).bind fun y1 => (Sum.elim (fun y1 => (some true)) (fun y1 => (some y1)) y1)) else none)
theorem gA_ (a0 : (Sl DNamed)) (a1 : T) (r : Bool) (h : cT_ a0 a1 = some r) : cX_ a0 a1 = some r := by
 unfold cT_ at h
 obtain ⟨hf_a1, h⟩ := ir_ h
 refine k_W ok_125 E_bool_inj h (fun σ0 => ?_) (hf := (all_cons (by kernel_rfl) (all_cons (jD_ hf_a1) all_nil)))
 refine t_RN ?_
 refine t_RN ?_
 refine a6_ (fun st1 fr => Sub [(1, a1), (7, a0.t), (8, i4 (a0.l.length : Int)), (9, i4 st1)] fr.s ∧ Heap σ0 fr.σ []) (fun y1 e fr => (Sum.elim (fun y => e = (.exit 0) ∧ Sub [] fr.s ∧ Heap σ0 fr.σ []) (fun y => e = .ret ∧ endW Try.prog (Try.f125.results.toList) σ0 (E_bool y) .ret fr)) y1) (fun hS hH => ⟨(ad_ hS (by kernel_rfl)), hH⟩) (fun st1 x fr h HI => ?_) fun y1 e fr h HF => ?_
 ·obtain ⟨s, σ⟩ := fr; obtain ⟨hS, hH⟩ := HI
  refine t_bk h hS hH ?_
  refine t_RN ?_
  refine t_if (fun hc1 => ?_) fun hc1 => ?_
  ·refine t_R ?_
   refine cj_ fun y2 rest1 hy2 => ?_
   refine t_U 1 ?_
   refine b2_ fun b1 => ?_
   refine aY_ 0 ?_
   refine t_N ?_
   refine t_RU 1 ?_
   refine ae_ 0 ?_
   refine lt_ fun y3 hy3 => ?_
   refine t_N ?_
   refine t_if (fun hc2 => ?_) fun hc2 => ?_
   ·refine t_RN ?_
    exact t_e fun he hS hH => he ▸ ⟨rfl, (eW hS hH (rT rN) E_bool_p)⟩
   refine t_RN ?_
   exact t_e fun he hS hH => he ▸ ⟨(ad_ hS (by kernel_rfl)), (Heap.sel hH [] rfl (by kernel_rfl))⟩
  exact t_e fun he hS hH => he ▸ ⟨rfl, (ad_ hS (by kernel_rfl)), hH⟩
 obtain ⟨s, σ⟩ := fr
 rcases y1 with y1 | y1
 ·have h := el_l h
  obtain ⟨rfl, hS, hH⟩ := HF
  refine t_bx h hS hH ?_
  refine t_RN ?_
  exact k_eW (rT rN) E_bool_p
 have h := el_r h
 obtain ⟨rfl, HE⟩ := HF
 obtain rfl := si_1 h; exact HE
noncomputable def dp_ (a0 : DNamed) : Option Bool := ((d0_ a0.Name).bind fun y1 => (if y1 = true then ((b3_ a0.Pattern).bind fun y2 => (some y2)) else (some false)))
theorem hj_ (a0 : DNamed) (r : Bool) (h : dp_ a0 = some r) : dq_ a0 = some r := by
 unfold dp_ at h
 refine k_W ok_126 E_bool_inj h (fun σ0 => ?_)
 refine t_R ?_
 refine cI_ (fun b1 => ?_)
 refine t_N ?_
 refine t_RU 1 ?_
 refine ae_ 0 ?_
 refine aA_ fun y1 hy1 => ?_
 refine t_U 1 ?_
 refine aQ_ 6 (fun hc1 => ?_) fun hc1 => ?_
 ·refine t_U 1 ?_
  refine ae_ 0 ?_
  refine aA_ fun y2 hy2 => ?_
  refine t_N ?_
  exact k_eW (rT rN) E_bool_p
 refine t_N ?_
 exact k_eW (rT rN) E_bool_p
noncomputable def fr_ (a0 : ByteArray) : Option Bool := (if (decide (1 ≤ (a0.size : Int))) = true then (if (decide ((a0.size : Int) ≤ 12)) = true then ((aU_ a0 0).bind fun y1 => ((da_ y1).bind fun y2 => (if y2 = true then ((kh_ a0).bind fun y3 => ((eH_ y3 (T.fn 161 [] [])).bind fun y4 => (some y4))) else (some false)))) else (some false)) else (some false))
theorem jW_ (a0 : ByteArray) (r : Bool) (h : fr_ a0 = some r) : d0_ a0 = some r := by
 unfold fr_ at h
 refine k_W ok_127 E_bool_inj h (fun σ0 => ?_)
 refine t_RN ?_
 refine t_RU 4 ?_
 refine aQ_ 6 (fun hc1 => ?_) fun hc1 => ?_
 ·refine t_U 5 ?_
  refine aQ_ 11 (fun hc2 => ?_) fun hc2 => ?_
  ·refine t_U 1 ?_
   refine dA_ fun y1 hy1 => ?_
   refine aA_ fun y2 hy2 => ?_
   refine t_U 2 ?_
   refine aQ_ 16 (fun hc3 => ?_) fun hc3 => ?_
   ·refine t_U 1 ?_
    intro h s σ hS hH
    obtain ⟨y3, hy3, h⟩ := bind_some h
    refine ui_ (e := 5) rfl hS hH rfl (by kernel_rfl) (by kernel_rfl) (by kernel_rfl) hy3 ?_; intro t1 σ s ht1 hH hS
    refine t_bk h hS hH ?_
    refine nh_ (fun y4 hy4 => ?_) (hh := by exact HC.of (HL.own rfl (HL.leaf (fun σ d => mz_ (by first | assumption | rfl)) HL.nil)))
    refine t_N ?_
    exact k_eW (rT rN) E_bool_p
   refine t_N ?_
   exact k_eW (rT rN) E_bool_p
  refine t_N ?_
  exact k_eW (rT rN) E_bool_p
 refine t_N ?_
 exact k_eW (rT rN) E_bool_p
noncomputable def d4_ (a0 : (Sl DNamed)) (a1 : ByteArray) : Option (DPattern × Bool) := ((((aF_ (S := Int) (R := (Unit ⊕ Int)) (fun st1 => (if (decide (st1 < (a0.l.length : Int))) = true then ((elt a0 st1).bind fun y3 => (if (decide (y3.Name = a1)) = true then (some (.inr (.inr st1))) else (some (.inl (w4 (st1 + 1)))))) else (some (.inr (.inl ()))))) 0).bind fun y2 => (Sum.elim (fun y2 => (some (-1))) (fun y2 => (some y2)) y2)) : Option Int).bind fun y1 => (if (decide (y1 < 0)) = true then (some ((⟨0, 0, ⟨#[]⟩, ⟨true, []⟩⟩ : DPattern), false)) else ((elt a0 y1).bind fun y4 => (some (y4.Pattern, true)))))
theorem gH_ (a0 : (Sl DNamed)) (a1 : ByteArray) (r : (DPattern × Bool)) (h : d4_ a0 a1 = some r) : d6_ a0 a1 = some r := by
 unfold d4_ at h
 refine k_W ok_128 E_t2_DPattern_bool_inj h (fun σ0 => ?_)
 refine t_R ?_
 refine cI_ (fun b1 => ?_)
 refine b2_ fun b2 => ?_
 refine t_N ?_
 refine t_RU 2 ?_
 refine e3_ (fun y1 s σ => Sub [(0, a0.t), (4, .ptr b2 0 0 4), (9, i4 y1)] s ∧ Heap σ0 σ [.box b2 [i4 0, i4 0, .str ⟨#[]⟩, (nt DPattern)]]) ok_140 (fun y1 => ?_) fun y1 s σ HF h => ?_
 ·refine t_RN ?_
  refine t_RN ?_
  refine a6_ (fun st1 fr => Sub [(0, a0.t), (1, T.fn 162 [] [.ptr b1 0 0 1]), (7, i4 (a0.l.length : Int)), (8, i4 st1)] fr.s ∧ Heap σ0 fr.σ [.box b2 [i4 0, i4 0, .str ⟨#[]⟩, (nt DPattern)], .box b1 [.str a1]]) (fun y2 e fr => (Sum.elim (fun y => e = (.exit 0) ∧ Sub [] fr.s ∧ Heap σ0 fr.σ [.box b2 [i4 0, i4 0, .str ⟨#[]⟩, (nt DPattern)]]) (fun y => e = .ret ∧ Sub [(4, i4 y)] fr.s ∧ Heap σ0 fr.σ [.box b2 [i4 0, i4 0, .str ⟨#[]⟩, (nt DPattern)]])) y2) (fun hS hH => ⟨(ad_ hS (by kernel_rfl)), hH⟩) (fun st1 x fr h HI => ?_) fun y2 e fr h HF => ?_
  ·obtain ⟨s, σ⟩ := fr; obtain ⟨hS, hH⟩ := HI
   refine t_bk h hS hH ?_
   refine t_RN ?_
   refine t_if (fun hc1 => ?_) fun hc1 => ?_
   ·refine t_RN ?_
    refine t_RU 3 ?_
    refine cj_ fun y3 rest1 hy3 => ?_
    refine t_U 1 ?_
    refine dS_ ok_162 ?_
    refine t_R ?_
    refine cI_ (fun b3 => ?_)
    refine t_N ?_
    refine t_RU 1 ?_
    refine ae_ 0 ?_
    refine ae_ 2 ?_
    refine t_N ?_
    refine k_eI (rT rN) ?_
    refine t_N ?_
    refine t_if (fun hc2 => ?_) fun hc2 => ?_
    ·refine t_RN ?_
     exact t_e fun he hS hH => he ▸ ⟨rfl, (ad_ hS (by kernel_rfl)), (Heap.sel hH [1] rfl (by kernel_rfl))⟩
    refine t_RN ?_
    exact t_e fun he hS hH => he ▸ ⟨(ad_ hS (by kernel_rfl)), (Heap.sel hH [1, 2] rfl (by kernel_rfl))⟩
   exact t_e fun he hS hH => he ▸ ⟨rfl, (ad_ hS (by kernel_rfl)), (Heap.sel hH [0] rfl (by kernel_rfl))⟩
  obtain ⟨s, σ⟩ := fr
  rcases y2 with y2 | y2
  ·have h := el_l h
   obtain ⟨rfl, hS, hH⟩ := HF
   refine t_bx h hS hH ?_
   refine t_RN ?_
   exact cv_ (rT rN) fun he hS hH => he ▸ ⟨(ad_ hS (by kernel_rfl)), hH⟩
  have h := el_r h
  obtain ⟨rfl, hS, hH⟩ := HF
  refine t_bx h hS hH ?_
  exact cv_ (rT rN) fun he hS hH => he ▸ ⟨(ad_ hS (by kernel_rfl)), hH⟩
 obtain ⟨hS, hH⟩ := HF
 refine t_bk h hS hH ?_
 refine t_N ?_
 refine t_RN ?_
 refine t_if (fun hc3 => ?_) fun hc3 => ?_
 ·refine t_RU 1 ?_
  refine aY_ 0 ?_
  refine t_N ?_
  exact k_eW (rC 0 (rT rN)) E_t2_DPattern_bool_p
 refine t_RU 2 ?_
 refine cj_ fun y4 rest2 hy4 => ?_
 refine t_U 2 ?_
 refine aY_ 0 ?_
 refine t_N ?_
 exact k_eW (rC 0 (rT rN)) E_t2_DPattern_bool_p
noncomputable def cU_ (a0 : ByteArray) (a1 : ByteArray) : Option Bool := ((bi_ a0 a1).bind fun y1 => (some y1))
theorem gs_ (a0 : ByteArray) (a1 : ByteArray) (r : Bool) (h : cU_ a0 a1 = some r) : cS_ a0 a1 = some r := by
 unfold cU_ at h
 refine k_W ok_130 E_bool_inj h (fun σ0 => ?_)
 refine t_RN ?_
 refine t_RU 2 ?_
 refine aA_ fun y1 hy1 => ?_
 refine t_N ?_
 exact k_eW (rT rN) E_bool_p
end Go.Am
