import Derived.Test.YtfdgbghlanbddaaDoorAvHead2
set_option maxRecDepth 100000
namespace Go.Proofs.YtfdgbghlanbddaaDoor.Av
open Go.Proofs Go.Proofs.YtfdgbghlanbddaaDoor
theorem rowed_ok : mapsRowed Tryd.prog = true := by kernel_rfl
theorem heard_ok : Tryd.prog.stopsHeard = true := by kernel_rfl
/-- What a row asks of the program, in parts. -/
theorem facts_of {f : FuncId} {fn : Func} {s : ChangeSpec} {c : OpenClaim} (h1 : c.wf (OpenSpec.ofChange s) = true) (h2 : (fn.params.all (Tryd.prog.readableRec ·) && namedTie Tryd.prog c.named s.vars) = true)
    (h3 : ((c.stops == []) && (Tryd.prog.stops == []) && (c.knobs == []) && (Tryd.prog.stopKnobs == [])) = true) (h4 : (c.inPlace == Tryd.prog.inPlace f) = true) (h5 : (c.unfollowed == Tryd.prog.unfollowed f) = true) (h6 : (c.recurses == Tryd.prog.recurses f) = true) (h7 : (c.named == Tryd.prog.varsNamed f) = true)
    (h8 : ((c.maps == (fn.params.toList ++ s.plain.varTypes Tryd.prog).any (Tryd.prog.mapsRec ·)) && (c.ifaces == (fn.params.toList ++ s.plain.varTypes Tryd.prog).any (Tryd.prog.ifacesRec ·)) && (c.mapsOut == Tryd.prog.mapsAmong fn.resultTypes.toList) &&
      (c.loops == (fn.params.toList ++ s.plain.varTypes Tryd.prog).any (Tryd.prog.loopsFrom ·)) && (c.wideKeys == (fn.params.toList ++ s.plain.varTypes Tryd.prog ++ fn.resultTypes.toList).any (Tryd.prog.wideKeysFrom ·)) &&
      s.vars.all (Tryd.prog.varReadable ·) && fn.resultTypes.all (fun t => Tryd.prog.readableRec t && decide (t < Tryd.prog.types.size)) && (c.ifacesOut == fn.resultTypes.toList.any (Tryd.prog.ifacesRec ·)) && (c.loopsOut == fn.resultTypes.toList.any (Tryd.prog.loopsFrom ·)) && (c.plainKeys == Tryd.prog.plainKeys) && c.shortTexts.isNone) = true)
    (hl : c.lifted = false) (hm : c.make = .cut)
    (h9 : ((c.kinds == (if c.domain.isEmpty then [] else fn.params.toList.map fun t => match Tryd.prog.underlying t with | some (.int k) => some k | _ => none)) && (c.pinned == c.pinnedBy) &&
      (c.veiled == (fn.params.toList ++ s.plain.varTypes Tryd.prog ++ fn.resultTypes.toList).any (Tryd.prog.veiledRec ·)) && c.veiledFits Tryd.prog fn.params.toList (fn.params.toList ++ s.plain.varTypes Tryd.prog ++ fn.resultTypes.toList)) = true) : joinedFacts Tryd.prog f fn s c = true := by
  have a1 : (c.lifted == Tryd.prog.liftsFinal) = true := by rw [hl, lifts_ok]; simp
  have a2 : (Tryd.prog.make == some c.make) = true := by rw [hm, make_ok]; simp
  simp only [Bool.and_eq_true] at h2 h3 h8 h9
  simp only [joinedFacts, Bool.and_eq_true]
  refine ⟨⟨⟨⟨⟨⟨⟨⟨⟨⟨⟨⟨⟨⟨⟨⟨⟨⟨⟨⟨⟨⟨⟨⟨⟨⟨⟨⟨⟨⟨⟨h1, laidOut⟩, rowed_ok⟩, h2.1⟩, h2.2⟩, ?_⟩, ?_⟩, ?_⟩, ?_⟩, h4⟩, h5⟩, h6⟩, h7⟩, ?_⟩, ?_⟩, ?_⟩, ?_⟩, ?_⟩, ?_⟩, ?_⟩, ?_⟩, ?_⟩, ?_⟩, ?_⟩, heard_ok⟩, enter_ok⟩, a1⟩, a2⟩, ?_⟩, ?_⟩, ?_⟩, ?_⟩
  all_goals first | exact h3.1.1.1 | exact h3.1.1.2 | exact h3.1.2 | exact h3.2 | exact h8.1.1.1.1.1.1.1.1.1.1 | exact h8.1.1.1.1.1.1.1.1.1.2 | exact h8.1.1.1.1.1.1.1.1.2 | exact h8.1.1.1.1.1.1.1.2 | exact h8.1.1.1.1.1.1.2 | exact h8.1.1.1.1.1.2 | exact h8.1.1.1.1.2 | exact h8.1.1.1.2 | exact h8.1.1.2 | exact h8.1.2 | exact h8.2 | exact h9.1.1.1 | exact h9.1.1.2 | exact h9.1.2 | exact h9.2
end Go.Proofs.YtfdgbghlanbddaaDoor.Av
