/- For every input the Go function laws.FnDiagrams returns true, and each argument reads behind the call as before it (Rows.FnDiagramsSaid). Conditions: none but the row's own. -/
import Derived.Test.YtekbhbcgoadciaaGreatPart1
import Derived.Test.YtekbhbcgoadciaaGreatPart13
set_option maxRecDepth 100000
set_option maxHeartbeats 6400000
namespace Go.Proofs.YtekbhbcgoadciaaGreat.fnDiagrams
open Go.ChangeShapes Go.WideShapes Go.ChangeAt Go.RowKit
set_option linter.unusedVariables false
theorem own:ownKnob Tryz.prog.godebug=none:=by kernel_rfl
theorem laidOut:laidOutB Tryz.prog=true:=by kernel_rfl
theorem lifted (os:Os) (started:os.Started) (H:Type) (enc:TypeId×Value→H):
  ReturnsInHanded {} Tryz.checked os 4 .any (Rows.fnDiagramsSpec.pre6 enc Tryz.prog Tryz.f4 Rows.fnDiagramsRow.domain false) (Rows.fnDiagramsSpec.post enc Tryz.prog Tryz.f4 false true false false):=by
 refine returnsInHanded_of_change_sized (C:=Tryz.checked) own started (by kernel_rfl) Tryz.func4
  (ChangeSpec.witness6 (enc:=enc) (C:=Tryz.checked) false ⟨#[], #[.slice none 0 0], []⟩ 8 (by kernel_rfl) (by kernel_rfl) (by kernel_rfl) (by kernel_rfl)) ?_
 intro W base args ds gs before hval0 hW _ hsz0 _
 have hsz:(DataW.weightsEach Tryz.prog (Tryz.f4.params.toList ++ Rows.fnDiagramsSpec.plain.varTypes Tryz.prog) (ds ++ gs)).all (· ≤reachBytes)=true:=hsz0
 have hval:∀(j:Nat) t v,Tryz.f4.params[j]? =some t→args[j]? =some v→Value.okWide Tryz.prog W .any base t v:=hval0
 have hW':=hW
 obtain ⟨p,q,hA0,hV,rfl,hfz,hnd⟩:=hW
 have hA:DataW.TrodAll enc Tryz.prog W 0 (fun _=>true) true Tryz.f4.params.toList args.toList ds p:=hA0
 have hA1:=hA
 rw [Tryz.params4] at hA hval hsz
 obtain ⟨v0,vs0,d0,ds0,p0,q0,hargs,rfl,rfl,h0,r0⟩:=trodAll_cons hA
 obtain ⟨rfl,rfl,rfl⟩:=trodAll_nil r0
 obtain rfl:args= #[v0]:=by cases args;simp_all
 obtain ⟨rfl,rfl⟩:=trodVars_none hV
 obtain ⟨a0,n0,c0,rfl,hz0⟩:=JC Tryz.underlying22 Tryz.underlying5 (by kernel_rfl) (by kernel_rfl) (hval 0 _ v0 rfl rfl) h0 (fun el sp hd=>sized_slice hsz (j:=0) (t:=22) rfl (congrArg some hd) Tryz.underlying22)
 clear hA0 hval0
 refine (vF _ hz0).mono fun e W' ⟨he,hb⟩=> ?_
 subst he
 exact ⟨_,rfl,tK (pv:= []) hW' (fun _ _ _=>trodAll_cons_mk (shut_bool Tryz.underlying4 _) trodAll_mk0) (fun sp hsp=>nd laidOut hb _ _ _ _ (by rw [Tryz.params4];intro t ht;simp at ht;rcases ht with rfl<;>exact ⟨by kernel_rfl,of_decide_eq_true (by kernel_rfl)⟩) (fun x hx=>hW'.lt x (by simpa using hx)) (fun x hx=>hsp x (by simpa using hx)) hA1) (fun _ _=>rfl) rfl hb
  (ok_one (by kernel_rfl) rfl (okWide_bool_mk Tryz.underlying4 _))⟩
theorem Iv {a b:Bool} (h:a=true) (h':b=true):(a && b)=true:=by rw [h,h'];rfl
theorem closed:joinedFacts Tryz.pinned.checked.prog 4 Tryz.f4 Rows.fnDiagramsSpec Rows.fnDiagramsRow=true:=by
 unfold joinedFacts
 repeat' (with_reducible apply Iv)
 all_goals (as_aux_lemma=>kernel_rfl)
theorem over:Rows.fnDiagramsRow.holds Tryz.pinned (OpenSpec.ofChange Rows.fnDiagramsSpec):=
 OpenClaim.holds_of_wide 4 Tryz.f4 rfl rfl rfl rfl rfl rfl rfl ⟨rfl,rfl,rfl,rfl,rfl⟩ rfl rfl rfl rfl rfl ab Tryz.func4 closed
  (of_decide_eq_true ab) (by unfold Func.isWrapper;first | (rw [if_pos (by decide +kernel)];kernel_rfl) | (rw [if_neg (by decide +kernel)];exact ⟨rfl,rfl⟩))
  (fun os started H enc _=>lifted os started H enc)
theorem proved:Rows.FnDiagramsSaid:=
 over
#print axioms proved
end Go.Proofs.YtekbhbcgoadciaaGreat.fnDiagrams
