/- For every input the Go function laws.FnUniversal returns true, and each argument reads behind the call as before it (Rows.FnUniversalSaid). Conditions: none but the row's own. -/
import Derived.Test.YtfpcfckocmmcnaaPart1
import Derived.Test.YtfpcfckocmmcnaaPart11
set_option maxRecDepth 100000
set_option maxHeartbeats 6400000
namespace Go.Proofs.Ytfpcfckocmmcnaa.fnUniversal
open Go.ChangeShapes Go.WideShapes Go.ChangeAt Go.RowKit
set_option linter.unusedVariables false
theorem own:ownKnob Try.prog.godebug=none:=by kernel_rfl
theorem laidOut:laidOutB Try.prog=true:=by kernel_rfl
theorem lifted (os:Os) (started:os.Started) (H:Type) (enc:TypeId×Value→H):
  ReturnsInHanded {} Try.checked os 3 .any (Rows.fnUniversalSpec.pre6 enc Try.prog Try.f3 Rows.fnUniversalRow.domain false) (Rows.fnUniversalSpec.post enc Try.prog Try.f3 false true false false):=by
 refine returnsInHanded_of_change_sized (C:=Try.checked) own started (by kernel_rfl) Try.func3
  (ChangeSpec.witness6 (enc:=enc) (C:=Try.checked) false ⟨#[], #[.slice none 0 0], []⟩ 8 (by kernel_rfl) (by kernel_rfl) (by kernel_rfl) (by kernel_rfl)) ?_
 intro W base args ds gs before hval0 hW _ hsz0 _
 have hsz:(DataW.weightsEach Try.prog (Try.f3.params.toList ++ Rows.fnUniversalSpec.plain.varTypes Try.prog) (ds ++ gs)).all (· ≤reachBytes)=true:=hsz0
 have hval:∀(j:Nat) t v,Try.f3.params[j]? =some t→args[j]? =some v→Value.okWide Try.prog W .any base t v:=hval0
 have hW':=hW
 obtain ⟨p,q,hA0,hV,rfl,hfz,hnd⟩:=hW
 have hA:DataW.TrodAll enc Try.prog W 0 (fun _=>true) true Try.f3.params.toList args.toList ds p:=hA0
 have hA1:=hA
 rw [Try.params3] at hA hval hsz
 obtain ⟨v0,vs0,d0,ds0,p0,q0,hargs,rfl,rfl,h0,r0⟩:=trodAll_cons hA
 obtain ⟨rfl,rfl,rfl⟩:=trodAll_nil r0
 obtain rfl:args= #[v0]:=by cases args;simp_all
 obtain ⟨rfl,rfl⟩:=trodVars_none hV
 obtain ⟨a0,n0,c0,rfl,hz0⟩:=Iz Try.underlying22 Try.underlying5 (by kernel_rfl) (by kernel_rfl) (hval 0 _ v0 rfl rfl) h0 (fun el sp hd=>sized_slice hsz (j:=0) (t:=22) rfl (congrArg some hd) Try.underlying22)
 clear hA0 hval0
 refine (s8 _ hz0).mono fun e W' ⟨he,hb⟩=> ?_
 subst he
 exact ⟨_,rfl,sW (pv:= []) hW' (fun _ _ _=>trodAll_cons_mk (shut_bool Try.underlying4 _) trodAll_mk0) (fun sp hsp=>mE laidOut hb _ _ _ _ (by rw [Try.params3];intro t ht;simp at ht;rcases ht with rfl<;>exact ⟨by kernel_rfl,of_decide_eq_true (by kernel_rfl)⟩) (fun x hx=>hW'.lt x (by simpa using hx)) (fun x hx=>hsp x (by simpa using hx)) hA1) (fun _ _=>rfl) rfl hb
  (ok_one (by kernel_rfl) rfl (okWide_bool_mk Try.underlying4 _))⟩
theorem GY {a b:Bool} (h:a=true) (h':b=true):(a && b)=true:=by rw [h,h'];rfl
theorem closed:joinedFacts Try.pinned.checked.prog 3 Try.f3 Rows.fnUniversalSpec Rows.fnUniversalRow=true:=by
 unfold joinedFacts
 repeat' (with_reducible apply GY)
 all_goals (as_aux_lemma=>kernel_rfl)
theorem over:Rows.fnUniversalRow.holds Try.pinned (OpenSpec.ofChange Rows.fnUniversalSpec):=
 OpenClaim.holds_of_wide 3 Try.f3 rfl rfl rfl rfl rfl rfl rfl ⟨rfl,rfl,rfl,rfl,rfl⟩ rfl rfl rfl rfl rfl ae Try.func3 closed
  (of_decide_eq_true ae) (by unfold Func.isWrapper;first | (rw [if_pos (by decide +kernel)];kernel_rfl) | (rw [if_neg (by decide +kernel)];exact ⟨rfl,rfl⟩))
  (fun os started H enc _=>lifted os started H enc)
theorem proved:Rows.FnUniversalSaid:=
 over
#print axioms proved
end Go.Proofs.Ytfpcfckocmmcnaa.fnUniversal
