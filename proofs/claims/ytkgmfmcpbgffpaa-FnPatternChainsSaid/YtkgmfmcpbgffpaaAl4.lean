/- The law. -/
import Derived.Test.YtkgmfmcpbgffpaaAg1
import Derived.Test.YtkgmfmcpbgffpaaAl3
import Derived.Test.YtkgmfmcpbgffpaaAm6
section
set_option maxRecDepth 100000
set_option maxHeartbeats 1000000
set_option linter.unusedVariables false
set_option linter.unusedSimpArgs false
namespace Go.Am
def jn (k : Int) (f : DPattern → DPattern) (l : List DPattern) (o : DPattern) : DPattern := l.foldr (fun p o => ⟨k, 0, ⟨#[]⟩, ⟨false, [f p, o]⟩⟩) o
def tupP (p : DPattern) : Int × Int × ByteArray × Sl DPattern := (p.Kind, p.Num, p.Text, p.Kids)
theorem m5_ {k : Int} {f : DPattern → DPattern} {l : List DPattern} {n : Nat} (h : n < l.length) (o : DPattern) : jn k f (l.take n) ⟨k, 0, ⟨#[]⟩, ⟨false, [f l[n], o]⟩⟩ = jn k f (l.take (n + 1)) o := by
 rw [List.take_succ_eq_append_getElem h, jn, jn, List.foldr_append]; rfl
theorem or_ {k : Int} {f : DPattern → DPattern} (hf : ∀ p, nd (f p) = nd p) (o : DPattern) : ∀ l, nd (jn k f l o) = l.length + ndL l + nd o
 | [] => by simp [jn, ndL]
 | p :: l => by
  have := or_ (k := k) hf o l
  show nd ⟨k, 0, ⟨#[]⟩, ⟨false, [f p, jn k f l o]⟩⟩ = _
  rw [eQ_]
  simp only [ndL, hf, this, List.length_cons]; omega
theorem pg_ {k : Int} {f : DPattern → DPattern} {o : DPattern} (ho : SmPt o) : ∀ l, (∀ p ∈ l, SmPt (f p)) → SmPt (jn k f l o)
 | [], _ => ho
 | p :: l, h => .mk (by show (0 : Nat) ≤ _; omega) (by show 2 ≤ _; omega) fun q hq => by
  have hq : q ∈ [f p, jn k f l o] := hq
  simp only [List.mem_cons, List.not_mem_nil, or_false] at hq
  rcases hq with rfl | rfl
  ·exact h p (by simp)
  ·exact pg_ ho l fun p hp => h p (by simp [hp])
theorem nL_ {k : Int} (hk : k = 18 ∨ k = 19) {f : DPattern → DPattern} {o : DPattern} (ho : VP o) : ∀ l, (∀ p ∈ l, VP (f p)) → VP (jn k f l o)
 | [], _ => ho
 | p :: l, h => .mk ⟨by show 1 ≤ k ∧ k ≤ 24; omega, by
   show (2 : Int) = kidN k
   unfold kidN; rw [if_pos hk], by
   show ArgP k 0 ⟨#[]⟩
   unfold ArgP; rw [if_neg (by omega), if_neg (by omega), if_neg (by omega)]; exact ⟨rfl, rfl⟩⟩ fun q hq => by
  have hq : q ∈ [f p, jn k f l o] := hq
  simp only [List.mem_cons, List.not_mem_nil, or_false] at hq
  rcases hq with rfl | rfl
  ·exact h p (by simp)
  ·exact nL_ hk ho l fun p hp => h p (by simp [hp])
theorem VP_cp : ∀ p, VP p → VP (cpPt p) := by
 refine cg_ fun p ih h => ?_
 rw [dj_]
 refine .mk ?_ fun q hq => ?_
 ·obtain ⟨h1, h2, h3⟩ := h.node
  exact ⟨h1, by show ((p.Kids.l.map cpPt).length : Int) = _; rw [List.length_map]; exact h2, h3⟩
 ·obtain ⟨r, hr, rfl⟩ := List.mem_map.1 hq
  exact ih r hr (h.kid hr)
theorem mN_ {c : Sl DPattern} {k : Int} (hs : ∀ p ∈ c.l, SmPt p) : ∀ n, n ≤ c.l.length → ∀ o : DPattern,
  hi_ (fun (i1 : Int) (y7 : DPattern) (st1 : Int × Int × ByteArray × Sl DPattern) => ((ak_ y7).bind fun y8 => (some (k, (0 : Int), (⟨#[]⟩ : ByteArray), (⟨false, [y8, (⟨st1.1, st1.2.1, st1.2.2.1, st1.2.2.2⟩ : DPattern)]⟩ : Sl DPattern))))) c.l n (tupP o) = some (tupP (jn k cpPt (c.l.take n) o)) := by
 intro n
 induction n with
 | zero => intro _ o; rfl
 | succ n ih =>
  intro hn o
  have hlt : n < c.l.length := by omega
  rw [hi_, List.getElem?_eq_getElem hlt, Option.bind_some, copy2 _ (hs _ (List.getElem_mem hlt)), Option.bind_some, Option.bind_some, ← m5_ hlt]
  have := ih (by omega) ⟨k, 0, ⟨#[]⟩, ⟨false, [cpPt c.l[n], o]⟩⟩
  cases o; exact this
theorem jS_ (c : Sl DPattern) (hs : ∀ p ∈ c.l, SmPt p) (hl : c.l.length ≤ 1048576) : aI_ c (T.fn 53 [] []) = some (says (∀ p ∈ c.l, VPat p)) := by
 refine dD_ c _ _ ?_
 unfold bp_
 rw [if_pos (by rfl)]
 refine hJ_ (by omega) fun i x hx he => ?_
 have e : fV_ Go.Proofs.Try.prog md ext E_bool (T.fn 53 [] []) [.agg [i4 x.Kind, i4 x.Num, .str x.Text, x.Kids.t]] = ay_ x := rfl
 have q := m3_ x (hs x hx)
 refine ⟨fun hp => ?_, fun hp => ?_⟩
 ·show (elt c (i : Int)).bind _ = _
  rw [he, Option.bind_some, e, q, Option.bind_some, bQ_ hp]; rfl
 ·show (elt c (i : Int)).bind _ = _
  rw [he, Option.bind_some, e, q, Option.bind_some, bC_ hp]; rfl
end Go.Am
end
