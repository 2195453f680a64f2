/- What follows has a proof: one is told exactly if the term follows, and it is a proof, whatever is drawn: no condition. -/
import Derived.Test.YtcaogllnbpmcgaaMAllFnFindProof4
import Derived.Test.YtcaogllnbpmcgaaPx23
set_option linter.unusedVariables false
set_option linter.unusedSimpArgs false
namespace Go.Proofs.Ytcaogllnbpmcgaa.Pure
open Go Go.RowKit Go.Proofs.Ytcaogllnbpmcgaa.P Go.Proofs.YtcaogllnbpmcgaaW.PrintWords Go.Proofs.YtcaogllnbpmcgaaW.PrintLast Go.Proofs.Ytcaogllnbpmcgaa.M
theorem alive_okP : laws_alive.f = some true := by decide +kernel
theorem impl_findE (n : Int) (s : List Cl) (t : List Mk) (h : s.length < 4611686018427387904) : impl_FindProof.f n s t = some (findF n s t) := by
  unfold impl_FindProof.f
  rw [if_pos h]
theorem same_proof (fi : Int) (S : List Q.Sp) (h : S.length ≤ 1000) : Ev (fun k => laws_sameProof.f k fi S fi S) true := by
  unfold laws_sameProof.f
  refine ev_pos rfl ?_
  refine Ev.step (fun k => by rw [laws_sameProof.j0]) (ev_neg (by simp) ?_)
  have go : ∀ d i : Nat, i + d = S.length → Ev (fun k => laws_sameProof.l0 k (i : Int) fi S fi S) true := by
    intro d
    induction d with
    | zero => exact fun i hi => Ev.step (fun k => by rw [laws_sameProof.l0]) (ev_neg (by omega) (ev_ret rfl))
    | succ d ih =>
      intro i hi
      refine Ev.step (fun k => by rw [laws_sameProof.l0]) (ev_pos (by omega) (ev_pos (by omega) (ev_pos (by omega) (ev_neg (by simp) ?_))))
      rw [w64s (by omega)]
      exact ih (i + 1) (by omega)
  exact go S.length 0 (by omega)
theorem FnFindProof : laws_FnFindProof.Pure := by
  intro l0 hl h2 hw
  refine Ev.rounds ?_
  unfold laws_FnFindProof.f
  by_cases hbig : (l0.length : Int) > 1048576
  · exact ev_pos hbig (ev_ret rfl)
  refine ev_neg hbig ?_
  obtain ⟨b, hb, hB⟩ := openE l0 hw
  obtain ⟨n, s, l, q, ep, hsl, hss, hll, hls, hn4, _⟩ := l20ProvedE b hB
  have ed : Ev (fun k => spec_DrawFindProof.f k l0) (n, s, l) := by
    unfold spec_DrawFindProof.f
    exact ev_bindc hb (ev_bind ep (ev_ret rfl))
  refine ev_bind ed ?_
  dsimp only
  have h64 := hss.S64 (by omega)
  refine ev_bindc (impl_findE n s l (by omega)) ?_
  refine ev_bind (spec_findE n (by omega) s h64 l hls.M64 (by omega)) ?_
  obtain ⟨f1, f2, f3⟩ := findF_64 n s l
  refine ev_bind (same_proof _ _ (by omega)) (ev_pos rfl ?_)
  rw [show ((findF n s l).2.2 != (findF n s l).2.2) = false by simp]
  refine Ev.step (fun k => by rw [laws_FnFindProof.j0]) (ev_neg (by decide) ?_)
  obtain ⟨c, hc, hi⟩ := impl_followsT n s (by omega) l
  have no : (findF n s l) = (0, [], false) → c = false → Ev (fun k => if (findF n s l).2.2 = true then ((impl_FollowsFrom.f k n s l).bind fun t417 => (if t417 = true then ((impl_ProofOk.f n s l (findF n s l).1 (findF n s l).2.1).bind fun t418 => (some t418)) else (some false))) else (if (findF n s l).1 = 0 then (if ((findF n s l).2.1.length : Int) = 0 then ((impl_FollowsFrom.f k n s l).bind fun t419 => (if t419 = true then (some false) else ((laws_alive.f).bind fun t420 => (some t420)))) else (some false)) else (some false))) true := fun h1 h2 => by
    rw [h1]
    subst h2
    exact ev_neg (by decide) (ev_pos rfl (ev_pos rfl (ev_bind hc (ev_neg (by decide) (ev_bindc alive_okP (ev_ret rfl))))))
  by_cases h : StoryP n s ∧ TermP n l
  case neg =>
    refine no (findF_no h) ?_
    cases c with
    | false => rfl
    | true => exact absurd ⟨(hi.1 rfl).1, (hi.1 rfl).2.1⟩ h
  obtain ⟨hS, hT⟩ := h
  have hn := hS.2.1
  obtain ⟨m, rfl⟩ : ∃ m : Nat, n = (m : Int) := ⟨n.toNat, by omega⟩
  have hf := found_iff (n := m) (s := s) (t := l) (by omega)
  have hfy := findF_yes hS hT
  cases hg : grQ m s l m 0 0 0 with
  | none =>
    rw [hg] at hfy hf
    refine no hfy ?_
    cases c with
    | false => rfl
    | true =>
      have := hf.2 (by have := (hi.1 rfl).2.2; rw [Int.toNat_natCast] at this; exact this)
      cases this
  | some q =>
    obtain ⟨a, x⟩ := q
    rw [hg] at hfy hf
    have hok := grow_ok hS hT hg
    have hct : c = true := hi.2 ⟨hS, hT, by rw [Int.toNat_natCast]; exact hf.1 rfl⟩
    subst hct
    have hfy : findF (m : Int) s l = (x, a, true) := hfy
    rw [hfy] at f1 f2 f3 ⊢
    have h64p : Prf64 s x a := ⟨by omega, by have := f1.1; dsimp only at this; omega, fun i hi => by have := f3 _ (getD_mem a Q.zS i hi); omega⟩
    exact ev_pos rfl (ev_bind hc (ev_pos rfl (ev_bindc (impl_proofE (m : Int) s l x a h64p true ⟨fun _ => hok, fun _ => rfl⟩) (ev_ret rfl))))
end Go.Proofs.Ytcaogllnbpmcgaa.Pure
