/- The components of a diagram, the reference's: l12Parts. guards: -/
import Derived.Test.YtekbhbcgoadciaaGreatPart1
import Derived.Test.YtekbhbcgoadciaaGreatPart3
import Derived.Test.YtekbhbcgoadciaaGreatPart5
import Derived.Test.YtekbhbcgoadciaaGreatPart4
namespace Go.Proofs.YtekbhbcgoadciaaGreat
open Go.RowKit
def dB (ps:cT):List (List Int):=ps.map (·.2)
abbrev hZ (ps:cT):Ch:=⟨true,24,1, .rows 2 (cM (dB ps)) []⟩
theorem iQ (ps:cT):(dB ps).length=ps.length:=by simp [dB]
theorem kG {ps:cT} {k:Nat} (h:k < ps.length):cD (dB ps) k=(cx ps k).2:=by simp [dB,cD,cx,h]
theorem jv {ps:cT} {k:Nat} (h:k < ps.length):(cM (dB ps))[k]? =some (aH (cx ps k).2):=by rw [←kG h];exact bV (by rw [iQ];exact h)
theorem sc (ps:cT) (k:Nat) (p:Nat×List Int):(cM (dB ps)).set k (aH p.2)=cM (dB (ps.set k p)):=by
 rw [sV];unfold dB;rw [List.map_set]
set_option maxRecDepth 100000 in
theorem gw (zs:List Int) (L:Nat) (h4:L≤4):FC Tryz.prog 50 [(1003,cf zs)] [o1 (.sl 1003 0 L)] [] (vv (I6 (L + 1:Nat))) []:=by
 have hw:IntKind.i64.wrap ((L:Int) + 1)=((L + 1:Nat):Int):=IntWalk.i64_in _ (by omega)
 refine a5 (nt:=6) Tryz.func50 rfl rfl (by simp) fun w0 ω0=> ?_
 (refine aj ?_;refine ag ?_;apply ae rfl;(exact ai rfl rfl);refine aq ?_;refine an ?_;refine aj ?_;refine ag ?_;apply ae rfl;(exact ah rfl rfl);apply ae rfl;(exact br rfl rfl rfl (by as_aux_lemma=>kernel_rfl));apply ae rfl;(first | exact aJ rfl rfl rfl hw | exact aN rfl rfl (by as_aux_lemma=>kernel_rfl) (by as_aux_lemma=>kernel_rfl) rfl);apply ae rfl;(exact ai rfl rfl);refine aq ?_;refine an ?_;refine aK ?_)
 exact aW (.inl rfl) rfl (.tmp rfl) trivial trivial
set_option maxRecDepth 100000 in
set_option maxHeartbeats 2000000 in
theorem pz (zs:List Int) (L mask:Nat) (hL:zs.length=L) (h4:L≤4) (hm:mask < 1000):
  FC Tryz.prog 115 [(1003,cf zs)] [o1 (.sl 1003 0 L),vv (I6 mask)] [(8,hZ (comps zs mask))] (o1 (.sl 8 0 (comps zs mask).length)) []:=by
 have hR:=gw zs L h4
 refine a5 (nt:=62) Tryz.func115 rfl rfl (by simp) fun w0 ω0=> ?_
 have hil:L≤(aH zs).length:=by rw [aO,hL];exact Nat.le_refl _
 (refine aj ?_;refine ag ?_;apply ae rfl;(exact ai rfl rfl);refine aq ?_;refine an ?_;refine aj ?_;refine ag ?_;apply ae rfl;(exact sD (E:=24) (F:=2) rfl (by as_aux_lemma=>kernel_rfl));apply ae rfl;(exact ai rfl rfl);refine aq ?_;refine an ?_;refine aj ?_;refine aj ?_;refine ag ?_;apply ae rfl;(exact ai rfl rfl);refine aq ?_;refine an ?_;refine aD ?_)
 refine bx (fun q:Nat×cT=>St.of [(0,o1 (.sl 1003 0 L)),(1,vv (I6 mask)),(5,o1 (.sl 8 0 q.2.length)),(6,vv (I6 q.1))] [(1003,cf zs),(8,hZ q.2)])
  (fun q=>q.1≤L + 1∧eA zs mask q.1=q.2) (fun q=>L + 1 - q.1) (0, []) ⟨Nat.zero_le _,rfl⟩ (Wk.of ⟨rfl,rfl,rfl,rfl,trivial⟩ ⟨rfl,rfl,trivial⟩ trivial) ?_
 rintro ⟨i,ps⟩ ⟨hi,hp⟩
 dsimp only at hi hp ⊢
 have hps:=jf zs mask i (by omega)
 have hnx:=eh zs mask i
 rw [hp] at hps hnx
 have hpl:ps.length≤5:=by have:=fq ps;have:=hps.sum;omega
 have hrx:=iQ ps
 (refine aj ?_;refine aj ?_;refine ag ?_;apply ae rfl;(exact ah rfl rfl);apply ae rfl;(exact ah rfl rfl);apply ae rfl;(apply ar 50;exact au hR (by as_aux_lemma=>kernel_rfl) rfl rfl ⟨rfl,trivial⟩ ⟨⟨_,rfl, .inl rfl⟩,trivial⟩ rfl rfl);apply ae rfl;(exact aB rfl rfl rfl rfl);refine aq ?_;refine an ?_)
 refine bM rfl (fun hlt=> ?_) (fun hlt=> ?_)
 ·have hiL:i≤L:=by omega
  have hi64:i≤64:=by omega
  have hmm:mask < 1000000:=by omega
  have hcv:IntKind.u64.wrap (i:Int)=(i:Int):=by rw [IntKind.wrap_u64];omega
  (refine aG ?_;refine an ?_;refine aj ?_;refine aD ?_;refine aj ?_;refine aj ?_;refine ag ?_;apply ae rfl;(exact ah rfl rfl);apply ae rfl;(exact ah rfl rfl);apply ae rfl;(first | exact aN rfl rfl (by as_aux_lemma=>kernel_rfl) (by as_aux_lemma=>kernel_rfl) hcv | exact bn (g:=i) rfl rfl rfl hi64 | exact bB rfl rfl hmm | exact cG rfl rfl);apply ae rfl;(first | exact aN rfl rfl (by as_aux_lemma=>kernel_rfl) (by as_aux_lemma=>kernel_rfl) hcv | exact bn (g:=i) rfl rfl rfl hi64 | exact bB rfl rfl hmm | exact cG rfl rfl);apply ae rfl;(first | exact aN rfl rfl (by as_aux_lemma=>kernel_rfl) (by as_aux_lemma=>kernel_rfl) hcv | exact bn (g:=i) rfl rfl rfl hi64 | exact bB rfl rfl hmm | exact cG rfl rfl);apply ae rfl;(first | exact aN rfl rfl (by as_aux_lemma=>kernel_rfl) (by as_aux_lemma=>kernel_rfl) hcv | exact bn (g:=i) rfl rfl rfl hi64 | exact bB rfl rfl hmm | exact cG rfl rfl);refine aq ?_;refine an ?_)
  refine ax rfl (fun hb=> ?_) (fun hb=> ?_)
  ·have hb:dM mask i=false:=by simpa using hb
   have hv:eA zs mask (i + 1)=ps:=by rw [hnx];unfold fN;rw [if_neg (by rw [hb];simp)]
   (refine a6 ?_;refine aE ?_;refine aP ?_;refine an ?_;refine ag ?_;apply ae rfl;(exact ah rfl rfl);apply ae rfl;(exact aJ rfl rfl rfl (by first | exact IntWalk.i64_in _ (by omega) | rfl));apply ae rfl;(exact ai rfl rfl);refine aq ?_)
   exact aX (i + 1,ps) ⟨by omega,hv⟩ (by show L + 1 - (i + 1) < L + 1 - i;omega) (Wk.of ⟨rfl,rfl,rfl,rfl,trivial⟩ ⟨rfl,rfl,trivial⟩ trivial)
  ·have hb:dM mask i=true:=by simpa using hb
   unfold fN at hnx
   rw [if_pos hb] at hnx
   (repeat (first | refine aj ?_ | refine an ?_ | refine aG ?_ | refine aD ?_ | refine aI ?_ | refine a6 ?_ | refine aP ?_ | refine bP rfl ?_ | refine aE ?_))
   refine cq (St.of [(0,o1 (.sl 1003 0 L)),(1,vv (I6 mask)),(5,o1 (.sl 8 0 ps.length)),(6,vv (I6 i)),(39,vv (.bool (jn zs mask i)))] [(1003,cf zs),(8,hZ ps)]) ?_ ?_
   ·refine ag ?_
    (apply ae rfl;(exact ah rfl rfl);apply ae rfl;(exact aB rfl rfl rfl rfl);apply ae rfl;(exact ah rfl rfl))
    refine bH 23 rfl (fun h1=> ?_) (fun h1=> ?_)
    ·have hi0:0 < i:=by have:=of_decide_eq_true h1;omega
     have hsb:IntKind.i64.wrap ((i:Int) - 1)=((i - 1:Nat):Int):=(IntWalk.i64_in _ (by omega)).trans (by omega)
     have hcv1:IntKind.u64.wrap ((i - 1:Nat):Int)=((i - 1:Nat):Int):=by rw [IntKind.wrap_u64];omega
     have hi64':i - 1≤64:=by omega
     (apply aw rfl rfl rfl;(exact ah rfl rfl);apply aw rfl rfl rfl;(exact ah rfl rfl);apply aw rfl rfl rfl;(first | exact bf rfl rfl rfl hsb | exact aN rfl rfl (by as_aux_lemma=>kernel_rfl) (by as_aux_lemma=>kernel_rfl) hcv1 | exact bn (g:=i - 1) rfl rfl rfl hi64' | exact bB rfl rfl hmm | exact bT rfl rfl);apply aw rfl rfl rfl;(first | exact bf rfl rfl rfl hsb | exact aN rfl rfl (by as_aux_lemma=>kernel_rfl) (by as_aux_lemma=>kernel_rfl) hcv1 | exact bn (g:=i - 1) rfl rfl rfl hi64' | exact bB rfl rfl hmm | exact bT rfl rfl);apply aw rfl rfl rfl;(first | exact bf rfl rfl rfl hsb | exact aN rfl rfl (by as_aux_lemma=>kernel_rfl) (by as_aux_lemma=>kernel_rfl) hcv1 | exact bn (g:=i - 1) rfl rfl rfl hi64' | exact bB rfl rfl hmm | exact bT rfl rfl);apply aw rfl rfl rfl;(first | exact bf rfl rfl rfl hsb | exact aN rfl rfl (by as_aux_lemma=>kernel_rfl) (by as_aux_lemma=>kernel_rfl) hcv1 | exact bn (g:=i - 1) rfl rfl rfl hi64' | exact bB rfl rfl hmm | exact bT rfl rfl);apply aw rfl rfl rfl;(first | exact bf rfl rfl rfl hsb | exact aN rfl rfl (by as_aux_lemma=>kernel_rfl) (by as_aux_lemma=>kernel_rfl) hcv1 | exact bn (g:=i - 1) rfl rfl rfl hi64' | exact bB rfl rfl hmm | exact bT rfl rfl);apply ae rfl;(exact aY rfl rfl rfl);apply ae rfl;(exact ah rfl rfl))
     refine bH 32 rfl (fun h2=> ?_) (fun h2=> ?_)
     ·have gz:(aH zs)[i - 1]? =some (I6 (aC zs (i - 1))):=aR (by omega)
      have hv:jn zs mask i=(aC zs (i - 1) != 2):=by unfold jn;rw [decide_eq_true hi0,h2];rfl
      rw [hv]
      (apply aw rfl rfl rfl;(exact ah rfl rfl);apply aw rfl rfl rfl;(exact ah rfl rfl);apply aw rfl rfl rfl;(first | exact bf rfl rfl rfl hsb | exact aS (j:=i - 1) rfl rfl rfl rfl rfl (by as_aux_lemma=>kernel_rfl) rfl (by omega) hil | exact aV rfl (by as_aux_lemma=>kernel_rfl) rfl rfl rfl gz);apply aw rfl rfl rfl;(first | exact bf rfl rfl rfl hsb | exact aS (j:=i - 1) rfl rfl rfl rfl rfl (by as_aux_lemma=>kernel_rfl) rfl (by omega) hil | exact aV rfl (by as_aux_lemma=>kernel_rfl) rfl rfl rfl gz);apply aw rfl rfl rfl;(first | exact bf rfl rfl rfl hsb | exact aS (j:=i - 1) rfl rfl rfl rfl rfl (by as_aux_lemma=>kernel_rfl) rfl (by omega) hil | exact aV rfl (by as_aux_lemma=>kernel_rfl) rfl rfl rfl gz);apply aw rfl rfl rfl;(exact aB rfl rfl rfl rfl);apply ae rfl;(exact aY rfl rfl rfl);refine aq ?_)
      exact aU (Wk.of ⟨rfl,rfl,rfl,rfl,rfl,trivial⟩ ⟨rfl,rfl,trivial⟩ trivial)
     ·have hv:jn zs mask i=false:=by unfold jn;rw [h2];simp
      rw [hv]
      (apply aA rfl rfl rfl rfl rfl;apply aA rfl rfl rfl rfl rfl;apply aA rfl rfl rfl rfl rfl;apply aA rfl rfl rfl rfl rfl;apply aA rfl rfl rfl rfl rfl;apply aA rfl rfl rfl rfl rfl;apply ae rfl;(exact a7 rfl rfl rfl);refine aq ?_)
      exact aU (Wk.of ⟨rfl,rfl,rfl,rfl,rfl,trivial⟩ ⟨rfl,rfl,trivial⟩ trivial)
    ·have hv:jn zs mask i=false:=by
      have:¬0 < i:=by have:=of_decide_eq_false h1;omega
      unfold jn;rw [decide_eq_false this];rfl
     rw [hv]
     (apply aA rfl rfl rfl rfl rfl;apply aA rfl rfl rfl rfl rfl;apply aA rfl rfl rfl rfl rfl;apply aA rfl rfl rfl rfl rfl;apply aA rfl rfl rfl rfl rfl;apply aA rfl rfl rfl rfl rfl;apply aA rfl rfl rfl rfl rfl;apply ae rfl;(exact a7 rfl rfl rfl);apply ae rfl;(exact ah rfl rfl);apply aA rfl rfl rfl rfl rfl;apply aA rfl rfl rfl rfl rfl;apply aA rfl rfl rfl rfl rfl;apply aA rfl rfl rfl rfl rfl;apply aA rfl rfl rfl rfl rfl;apply aA rfl rfl rfl rfl rfl;apply ae rfl;(exact a7 rfl rfl rfl);refine aq ?_)
     exact aU (Wk.of ⟨rfl,rfl,rfl,rfl,rfl,trivial⟩ ⟨rfl,rfl,trivial⟩ trivial)
   (refine an ?_)
   refine ax rfl (fun hjb=> ?_) (fun hjb=> ?_)
   ·have hjs:=fZ hjb
    have hne:=hps.ne hjs.1 hjs.2.1
    obtain ⟨j,hjl⟩:∃j,ps.length=j + 1:=⟨ps.length - 1,by omega⟩
    have hjp:j < ps.length:=by omega
    have hv:eA zs mask (i + 1)=ps.set j ((cx ps j).1 ||| 2 ^ i,(cx ps j).2 ++ [aC zs (i - 1)]):=by
     rw [hnx,if_pos hjb];unfold jP;rw [show ps.length - 1=j by omega]
    have hsub:IntKind.i64.wrap ((ps.length:Int) - 1)=(j:Int):=by rw [hjl];exact (IntWalk.i64_in _ (by omega)).trans (by omega)
    have hrj:=jv hjp
    have hllt:=lq (fx hjp)
    have hsum:=hps.sum
    have hfin0:=sc ps j ((cx ps j).1 ||| 2 ^ i,(cx ps j).2 ++ [aC zs (i - 1)])
    generalize (cx ps j).1=m at *
    generalize (cx ps j).2=labs at *
    have hmj:(aH labs).length=labs.length:=aO _
    have gz:(aH zs)[i - 1]? =some (I6 (aC zs (i - 1))):=aR (by omega)
    have hsb:IntKind.i64.wrap ((i:Int) - 1)=((i - 1:Nat):Int):=(IntWalk.i64_in _ (by omega)).trans (by omega)
    have hi1L:i - 1 < L:=by omega
    have hrl:ps.length≤(cM (dB ps)).length:=by rw [eu,hrx];exact Nat.le_refl _
    have hjl2:j < (cM (dB ps)).length:=by omega
    have hvl:(aH (labs ++ [aC zs (i - 1)])).length=labs.length + 1:=by rw [aO];simp
    have hfin:(cM (dB ps)).set j (aH (labs ++ [aC zs (i - 1)]))=cM (dB (ps.set j (m ||| 2 ^ i,labs ++ [aC zs (i - 1)]))):=hfin0
    (refine aj ?_;refine ag ?_;apply ae rfl;(exact ah rfl rfl);apply ae rfl;(exact br rfl rfl rfl (by as_aux_lemma=>kernel_rfl));apply ae rfl;(exact bf rfl rfl rfl hsub);apply ae rfl;(exact ai rfl rfl);refine aq ?_;refine an ?_;refine aj ?_)
    refine cq (St.of [(0,o1 (.sl 1003 0 L)),(1,vv (I6 mask)),(5,o1 (.sl 8 0 ps.length)),(6,vv (I6 i))] [(1003,cf zs),(8,hZ (ps.set j (m ||| 2 ^ i,labs ++ [aC zs (i - 1)])))]) ?_ ?_
    ·apply lM 12 [] [0,1] [[], [], [], [], [2,3], [2,3,4], [], [], [7], [6,7,8], [6,7,8,9], [6,7,8,9,10], [2,3,4,5,6,7,8,9,10,11], [0,1,2,3,4,5,6,7,8,9,10,11,12], [0,1,2,3,4,5,6,7,8,9,10,11,12,13]] [43,44,45,46,47,48,49,50,51,52,53,54] [54] (by kernel_rfl) (by kernel_rfl) (by kernel_rfl)
     ·(apply aF rfl;(intro S1 hS;exact ah rfl (hS.op rfl));apply aF rfl;(intro S1 hS;exact ah rfl (hS.op rfl));apply aF rfl;(intro S1 hS;exact ah rfl (hS.op rfl));apply aF rfl;(intro S1 hS;exact ah rfl (hS.op rfl));(first | (apply aF rfl;(focus (intro S1 hS;exact aS (j:=j) rfl (hS.op rfl) (hS.op rfl) (hS.ch _ _ rfl) rfl (by as_aux_lemma=>kernel_rfl) rfl hjp hrl))) | (apply aF rfl;(focus (intro S1 hS;exact cE rfl (by as_aux_lemma=>kernel_rfl) (hS.op rfl) (hS.ch _ _ rfl) rfl hrj hmj))) | (apply aF rfl;(focus (intro S1 hS;exact bf rfl (hS.op rfl) (hS.op rfl) hsb))) | (apply aF rfl;(focus (intro S1 hS;exact aS (j:=i - 1) rfl (hS.op rfl) (hS.op rfl) (hS.ch _ _ rfl) rfl (by as_aux_lemma=>kernel_rfl) rfl hi1L hil))) | (apply aF rfl;(focus (intro S1 hS;exact aV rfl (by as_aux_lemma=>kernel_rfl) (hS.op rfl) (hS.ch _ _ rfl) rfl gz))));(first | (apply aF rfl;(focus (intro S1 hS;exact aS (j:=j) rfl (hS.op rfl) (hS.op rfl) (hS.ch _ _ rfl) rfl (by as_aux_lemma=>kernel_rfl) rfl hjp hrl))) | (apply aF rfl;(focus (intro S1 hS;exact cE rfl (by as_aux_lemma=>kernel_rfl) (hS.op rfl) (hS.ch _ _ rfl) rfl hrj hmj))) | (apply aF rfl;(focus (intro S1 hS;exact bf rfl (hS.op rfl) (hS.op rfl) hsb))) | (apply aF rfl;(focus (intro S1 hS;exact aS (j:=i - 1) rfl (hS.op rfl) (hS.op rfl) (hS.ch _ _ rfl) rfl (by as_aux_lemma=>kernel_rfl) rfl hi1L hil))) | (apply aF rfl;(focus (intro S1 hS;exact aV rfl (by as_aux_lemma=>kernel_rfl) (hS.op rfl) (hS.ch _ _ rfl) rfl gz))));apply aF rfl;(intro S1 hS;exact ah rfl (hS.op rfl));apply aF rfl;(intro S1 hS;exact ah rfl (hS.op rfl));(first | (apply aF rfl;(focus (intro S1 hS;exact aS (j:=j) rfl (hS.op rfl) (hS.op rfl) (hS.ch _ _ rfl) rfl (by as_aux_lemma=>kernel_rfl) rfl hjp hrl))) | (apply aF rfl;(focus (intro S1 hS;exact cE rfl (by as_aux_lemma=>kernel_rfl) (hS.op rfl) (hS.ch _ _ rfl) rfl hrj hmj))) | (apply aF rfl;(focus (intro S1 hS;exact bf rfl (hS.op rfl) (hS.op rfl) hsb))) | (apply aF rfl;(focus (intro S1 hS;exact aS (j:=i - 1) rfl (hS.op rfl) (hS.op rfl) (hS.ch _ _ rfl) rfl (by as_aux_lemma=>kernel_rfl) rfl hi1L hil))) | (apply aF rfl;(focus (intro S1 hS;exact aV rfl (by as_aux_lemma=>kernel_rfl) (hS.op rfl) (hS.ch _ _ rfl) rfl gz))));(first | (apply aF rfl;(focus (intro S1 hS;exact aS (j:=j) rfl (hS.op rfl) (hS.op rfl) (hS.ch _ _ rfl) rfl (by as_aux_lemma=>kernel_rfl) rfl hjp hrl))) | (apply aF rfl;(focus (intro S1 hS;exact cE rfl (by as_aux_lemma=>kernel_rfl) (hS.op rfl) (hS.ch _ _ rfl) rfl hrj hmj))) | (apply aF rfl;(focus (intro S1 hS;exact bf rfl (hS.op rfl) (hS.op rfl) hsb))) | (apply aF rfl;(focus (intro S1 hS;exact aS (j:=i - 1) rfl (hS.op rfl) (hS.op rfl) (hS.ch _ _ rfl) rfl (by as_aux_lemma=>kernel_rfl) rfl hi1L hil))) | (apply aF rfl;(focus (intro S1 hS;exact aV rfl (by as_aux_lemma=>kernel_rfl) (hS.op rfl) (hS.ch _ _ rfl) rfl gz))));(first | (apply aF rfl;(focus (intro S1 hS;exact aS (j:=j) rfl (hS.op rfl) (hS.op rfl) (hS.ch _ _ rfl) rfl (by as_aux_lemma=>kernel_rfl) rfl hjp hrl))) | (apply aF rfl;(focus (intro S1 hS;exact cE rfl (by as_aux_lemma=>kernel_rfl) (hS.op rfl) (hS.ch _ _ rfl) rfl hrj hmj))) | (apply aF rfl;(focus (intro S1 hS;exact bf rfl (hS.op rfl) (hS.op rfl) hsb))) | (apply aF rfl;(focus (intro S1 hS;exact aS (j:=i - 1) rfl (hS.op rfl) (hS.op rfl) (hS.ch _ _ rfl) rfl (by as_aux_lemma=>kernel_rfl) rfl hi1L hil))) | (apply aF rfl;(focus (intro S1 hS;exact aV rfl (by as_aux_lemma=>kernel_rfl) (hS.op rfl) (hS.ch _ _ rfl) rfl gz))));apply gE rfl;(intro S1 hS;exact cJ (E:=2) rfl (by as_aux_lemma=>kernel_rfl) (hS.op rfl));exact eR.nil)
     ·rfl
     ·refine ⟨⟨?_, ?_⟩, ?_, ?_⟩
      ·refine cK (St.of [(0,o1 (.sl 1003 0 L)),(1,vv (I6 mask)),(5,o1 (.sl 8 0 ps.length)),(6,vv (I6 i))] [(1003,cf zs),(8,hZ (ps.set j (m ||| 2 ^ i,labs ++ [aC zs (i - 1)])))]) ?_ ?_
       ·((apply aZ 12 rfl (by as_aux_lemma=>kernel_rfl) rfl rfl;((first | exact bN.pre (bD (n:=8) (z:=55) (s:=48) rfl rfl hrj hmj rfl) (bp rfl (by as_aux_lemma=>kernel_rfl) rfl rfl rfl rfl rfl rfl (by omega)) | exact aS (j:=j) rfl rfl rfl rfl rfl (by as_aux_lemma=>kernel_rfl) rfl hjp hrl | exact bo rfl rfl (by simp) rfl rfl hvl rfl hjl2 (by as_aux_lemma=>kernel_rfl))));(apply aZ 13 rfl (by as_aux_lemma=>kernel_rfl) rfl rfl;((first | exact bN.pre (bD (n:=8) (z:=55) (s:=48) rfl rfl hrj hmj rfl) (bp rfl (by as_aux_lemma=>kernel_rfl) rfl rfl rfl rfl rfl rfl (by omega)) | exact aS (j:=j) rfl rfl rfl rfl rfl (by as_aux_lemma=>kernel_rfl) rfl hjp hrl | exact bo rfl rfl (by simp) rfl rfl hvl rfl hjl2 (by as_aux_lemma=>kernel_rfl))));(apply aZ 14 rfl (by as_aux_lemma=>kernel_rfl) rfl rfl;((first | exact bN.pre (bD (n:=8) (z:=55) (s:=48) rfl rfl hrj hmj rfl) (bp rfl (by as_aux_lemma=>kernel_rfl) rfl rfl rfl rfl rfl rfl (by omega)) | exact aS (j:=j) rfl rfl rfl rfl rfl (by as_aux_lemma=>kernel_rfl) rfl hjp hrl | exact bo rfl rfl (by simp) rfl rfl hvl rfl hjl2 (by as_aux_lemma=>kernel_rfl))));(refine bF (by as_aux_lemma=>kernel_rfl) ?_;exact aU (Wk.of ⟨rfl,rfl,rfl,rfl,trivial⟩ ⟨rfl,congrArg (fun l=>some (⟨true,24,1, .rows 2 l []⟩:Ch)) hfin,trivial⟩ trivial)))
       ·(skip)
        exact aU (Wk.of ⟨rfl,rfl,rfl,rfl,trivial⟩ ⟨rfl,rfl,trivial⟩ trivial)
      ·refine cK (St.of [(0,o1 (.sl 1003 0 L)),(1,vv (I6 mask)),(5,o1 (.sl 8 0 ps.length)),(6,vv (I6 i))] [(1003,cf zs),(8,hZ (ps.set j (m ||| 2 ^ i,labs ++ [aC zs (i - 1)])))]) ?_ ?_
       ·((apply eI 1 12 rfl (by as_aux_lemma=>kernel_rfl) rfl rfl rfl rfl;(exact ah rfl rfl);((first | exact bN.pre (bD (n:=8) (z:=55) (s:=48) rfl rfl hrj hmj rfl) (bp rfl (by as_aux_lemma=>kernel_rfl) rfl rfl rfl rfl rfl rfl (by omega)) | exact aS (j:=j) rfl rfl rfl rfl rfl (by as_aux_lemma=>kernel_rfl) rfl hjp hrl | exact bo rfl rfl (by simp) rfl rfl hvl rfl hjl2 (by as_aux_lemma=>kernel_rfl)));(focus ((apply aZ 12 rfl (by as_aux_lemma=>kernel_rfl) rfl rfl;((first | exact bN.pre (bD (n:=8) (z:=55) (s:=48) rfl rfl hrj hmj rfl) (bp rfl (by as_aux_lemma=>kernel_rfl) rfl rfl rfl rfl rfl rfl (by omega)) | exact aS (j:=j) rfl rfl rfl rfl rfl (by as_aux_lemma=>kernel_rfl) rfl hjp hrl | exact bo rfl rfl (by simp) rfl rfl hvl rfl hjl2 (by as_aux_lemma=>kernel_rfl))));(apply aZ 13 rfl (by as_aux_lemma=>kernel_rfl) rfl rfl;((first | exact bN.pre (bD (n:=8) (z:=55) (s:=48) rfl rfl hrj hmj rfl) (bp rfl (by as_aux_lemma=>kernel_rfl) rfl rfl rfl rfl rfl rfl (by omega)) | exact aS (j:=j) rfl rfl rfl rfl rfl (by as_aux_lemma=>kernel_rfl) rfl hjp hrl | exact bo rfl rfl (by simp) rfl rfl hvl rfl hjl2 (by as_aux_lemma=>kernel_rfl))));(apply aZ 14 rfl (by as_aux_lemma=>kernel_rfl) rfl rfl;((first | exact bN.pre (bD (n:=8) (z:=55) (s:=48) rfl rfl hrj hmj rfl) (bp rfl (by as_aux_lemma=>kernel_rfl) rfl rfl rfl rfl rfl rfl (by omega)) | exact aS (j:=j) rfl rfl rfl rfl rfl (by as_aux_lemma=>kernel_rfl) rfl hjp hrl | exact bo rfl rfl (by simp) rfl rfl hvl rfl hjl2 (by as_aux_lemma=>kernel_rfl))));(refine bF (by as_aux_lemma=>kernel_rfl) ?_;exact aU (Wk.of ⟨rfl,rfl,rfl,rfl,trivial⟩ ⟨rfl,congrArg (fun l=>some (⟨true,24,1, .rows 2 l []⟩:Ch)) hfin,trivial⟩ trivial))));(focus ((apply aZ 1 rfl (by as_aux_lemma=>kernel_rfl) rfl rfl;(exact ah rfl rfl));(apply aZ 13 rfl (by as_aux_lemma=>kernel_rfl) rfl rfl;((first | exact bN.pre (bD (n:=8) (z:=55) (s:=48) rfl rfl hrj hmj rfl) (bp rfl (by as_aux_lemma=>kernel_rfl) rfl rfl rfl rfl rfl rfl (by omega)) | exact aS (j:=j) rfl rfl rfl rfl rfl (by as_aux_lemma=>kernel_rfl) rfl hjp hrl | exact bo rfl rfl (by simp) rfl rfl hvl rfl hjl2 (by as_aux_lemma=>kernel_rfl))));(apply aZ 14 rfl (by as_aux_lemma=>kernel_rfl) rfl rfl;((first | exact bN.pre (bD (n:=8) (z:=55) (s:=48) rfl rfl hrj hmj rfl) (bp rfl (by as_aux_lemma=>kernel_rfl) rfl rfl rfl rfl rfl rfl (by omega)) | exact aS (j:=j) rfl rfl rfl rfl rfl (by as_aux_lemma=>kernel_rfl) rfl hjp hrl | exact bo rfl rfl (by simp) rfl rfl hvl rfl hjl2 (by as_aux_lemma=>kernel_rfl))));(refine bF (by as_aux_lemma=>kernel_rfl) ?_;exact aU (Wk.of ⟨rfl,rfl,rfl,rfl,trivial⟩ ⟨rfl,congrArg (fun l=>some (⟨true,24,1, .rows 2 l []⟩:Ch)) hfin,trivial⟩ trivial))))))
       ·(skip)
        exact aU (Wk.of ⟨rfl,rfl,rfl,rfl,trivial⟩ ⟨rfl,rfl,trivial⟩ trivial)
      ·refine cK (St.of [(0,o1 (.sl 1003 0 L)),(1,vv (I6 mask)),(5,o1 (.sl 8 0 ps.length)),(6,vv (I6 i))] [(1003,cf zs),(8,hZ (ps.set j (m ||| 2 ^ i,labs ++ [aC zs (i - 1)])))]) ?_ ?_
       ·((apply eI 0 12 rfl (by as_aux_lemma=>kernel_rfl) rfl rfl rfl rfl;(exact ah rfl rfl);((first | exact bN.pre (bD (n:=8) (z:=55) (s:=48) rfl rfl hrj hmj rfl) (bp rfl (by as_aux_lemma=>kernel_rfl) rfl rfl rfl rfl rfl rfl (by omega)) | exact aS (j:=j) rfl rfl rfl rfl rfl (by as_aux_lemma=>kernel_rfl) rfl hjp hrl | exact bo rfl rfl (by simp) rfl rfl hvl rfl hjl2 (by as_aux_lemma=>kernel_rfl)));(focus ((apply aZ 12 rfl (by as_aux_lemma=>kernel_rfl) rfl rfl;((first | exact bN.pre (bD (n:=8) (z:=55) (s:=48) rfl rfl hrj hmj rfl) (bp rfl (by as_aux_lemma=>kernel_rfl) rfl rfl rfl rfl rfl rfl (by omega)) | exact aS (j:=j) rfl rfl rfl rfl rfl (by as_aux_lemma=>kernel_rfl) rfl hjp hrl | exact bo rfl rfl (by simp) rfl rfl hvl rfl hjl2 (by as_aux_lemma=>kernel_rfl))));(apply aZ 13 rfl (by as_aux_lemma=>kernel_rfl) rfl rfl;((first | exact bN.pre (bD (n:=8) (z:=55) (s:=48) rfl rfl hrj hmj rfl) (bp rfl (by as_aux_lemma=>kernel_rfl) rfl rfl rfl rfl rfl rfl (by omega)) | exact aS (j:=j) rfl rfl rfl rfl rfl (by as_aux_lemma=>kernel_rfl) rfl hjp hrl | exact bo rfl rfl (by simp) rfl rfl hvl rfl hjl2 (by as_aux_lemma=>kernel_rfl))));(apply aZ 14 rfl (by as_aux_lemma=>kernel_rfl) rfl rfl;((first | exact bN.pre (bD (n:=8) (z:=55) (s:=48) rfl rfl hrj hmj rfl) (bp rfl (by as_aux_lemma=>kernel_rfl) rfl rfl rfl rfl rfl rfl (by omega)) | exact aS (j:=j) rfl rfl rfl rfl rfl (by as_aux_lemma=>kernel_rfl) rfl hjp hrl | exact bo rfl rfl (by simp) rfl rfl hvl rfl hjl2 (by as_aux_lemma=>kernel_rfl))));(refine bF (by as_aux_lemma=>kernel_rfl) ?_;exact aU (Wk.of ⟨rfl,rfl,rfl,rfl,trivial⟩ ⟨rfl,congrArg (fun l=>some (⟨true,24,1, .rows 2 l []⟩:Ch)) hfin,trivial⟩ trivial))));(focus ((apply aZ 0 rfl (by as_aux_lemma=>kernel_rfl) rfl rfl;(exact ah rfl rfl));(apply aZ 13 rfl (by as_aux_lemma=>kernel_rfl) rfl rfl;((first | exact bN.pre (bD (n:=8) (z:=55) (s:=48) rfl rfl hrj hmj rfl) (bp rfl (by as_aux_lemma=>kernel_rfl) rfl rfl rfl rfl rfl rfl (by omega)) | exact aS (j:=j) rfl rfl rfl rfl rfl (by as_aux_lemma=>kernel_rfl) rfl hjp hrl | exact bo rfl rfl (by simp) rfl rfl hvl rfl hjl2 (by as_aux_lemma=>kernel_rfl))));(apply aZ 14 rfl (by as_aux_lemma=>kernel_rfl) rfl rfl;((first | exact bN.pre (bD (n:=8) (z:=55) (s:=48) rfl rfl hrj hmj rfl) (bp rfl (by as_aux_lemma=>kernel_rfl) rfl rfl rfl rfl rfl rfl (by omega)) | exact aS (j:=j) rfl rfl rfl rfl rfl (by as_aux_lemma=>kernel_rfl) rfl hjp hrl | exact bo rfl rfl (by simp) rfl rfl hvl rfl hjl2 (by as_aux_lemma=>kernel_rfl))));(refine bF (by as_aux_lemma=>kernel_rfl) ?_;exact aU (Wk.of ⟨rfl,rfl,rfl,rfl,trivial⟩ ⟨rfl,congrArg (fun l=>some (⟨true,24,1, .rows 2 l []⟩:Ch)) hfin,trivial⟩ trivial))))))
       ·(skip)
        exact aU (Wk.of ⟨rfl,rfl,rfl,rfl,trivial⟩ ⟨rfl,rfl,trivial⟩ trivial)
      ·refine cK (St.of [(0,o1 (.sl 1003 0 L)),(1,vv (I6 mask)),(5,o1 (.sl 8 0 ps.length)),(6,vv (I6 i))] [(1003,cf zs),(8,hZ (ps.set j (m ||| 2 ^ i,labs ++ [aC zs (i - 1)])))]) ?_ ?_
       ·((apply qO 0 1 12 rfl (by as_aux_lemma=>kernel_rfl) rfl rfl rfl rfl rfl rfl;(exact ah rfl rfl);(exact ah rfl rfl);((first | exact bN.pre (bD (n:=8) (z:=55) (s:=48) rfl rfl hrj hmj rfl) (bp rfl (by as_aux_lemma=>kernel_rfl) rfl rfl rfl rfl rfl rfl (by omega)) | exact aS (j:=j) rfl rfl rfl rfl rfl (by as_aux_lemma=>kernel_rfl) rfl hjp hrl | exact bo rfl rfl (by simp) rfl rfl hvl rfl hjl2 (by as_aux_lemma=>kernel_rfl)));(focus ((apply eI 1 12 rfl (by as_aux_lemma=>kernel_rfl) rfl rfl rfl rfl;(exact ah rfl rfl);((first | exact bN.pre (bD (n:=8) (z:=55) (s:=48) rfl rfl hrj hmj rfl) (bp rfl (by as_aux_lemma=>kernel_rfl) rfl rfl rfl rfl rfl rfl (by omega)) | exact aS (j:=j) rfl rfl rfl rfl rfl (by as_aux_lemma=>kernel_rfl) rfl hjp hrl | exact bo rfl rfl (by simp) rfl rfl hvl rfl hjl2 (by as_aux_lemma=>kernel_rfl)));(focus ((apply aZ 12 rfl (by as_aux_lemma=>kernel_rfl) rfl rfl;((first | exact bN.pre (bD (n:=8) (z:=55) (s:=48) rfl rfl hrj hmj rfl) (bp rfl (by as_aux_lemma=>kernel_rfl) rfl rfl rfl rfl rfl rfl (by omega)) | exact aS (j:=j) rfl rfl rfl rfl rfl (by as_aux_lemma=>kernel_rfl) rfl hjp hrl | exact bo rfl rfl (by simp) rfl rfl hvl rfl hjl2 (by as_aux_lemma=>kernel_rfl))));(apply aZ 13 rfl (by as_aux_lemma=>kernel_rfl) rfl rfl;((first | exact bN.pre (bD (n:=8) (z:=55) (s:=48) rfl rfl hrj hmj rfl) (bp rfl (by as_aux_lemma=>kernel_rfl) rfl rfl rfl rfl rfl rfl (by omega)) | exact aS (j:=j) rfl rfl rfl rfl rfl (by as_aux_lemma=>kernel_rfl) rfl hjp hrl | exact bo rfl rfl (by simp) rfl rfl hvl rfl hjl2 (by as_aux_lemma=>kernel_rfl))));(apply aZ 14 rfl (by as_aux_lemma=>kernel_rfl) rfl rfl;((first | exact bN.pre (bD (n:=8) (z:=55) (s:=48) rfl rfl hrj hmj rfl) (bp rfl (by as_aux_lemma=>kernel_rfl) rfl rfl rfl rfl rfl rfl (by omega)) | exact aS (j:=j) rfl rfl rfl rfl rfl (by as_aux_lemma=>kernel_rfl) rfl hjp hrl | exact bo rfl rfl (by simp) rfl rfl hvl rfl hjl2 (by as_aux_lemma=>kernel_rfl))));(refine bF (by as_aux_lemma=>kernel_rfl) ?_;exact aU (Wk.of ⟨rfl,rfl,rfl,rfl,trivial⟩ ⟨rfl,congrArg (fun l=>some (⟨true,24,1, .rows 2 l []⟩:Ch)) hfin,trivial⟩ trivial))));(focus ((apply aZ 1 rfl (by as_aux_lemma=>kernel_rfl) rfl rfl;(exact ah rfl rfl));(apply aZ 13 rfl (by as_aux_lemma=>kernel_rfl) rfl rfl;((first | exact bN.pre (bD (n:=8) (z:=55) (s:=48) rfl rfl hrj hmj rfl) (bp rfl (by as_aux_lemma=>kernel_rfl) rfl rfl rfl rfl rfl rfl (by omega)) | exact aS (j:=j) rfl rfl rfl rfl rfl (by as_aux_lemma=>kernel_rfl) rfl hjp hrl | exact bo rfl rfl (by simp) rfl rfl hvl rfl hjl2 (by as_aux_lemma=>kernel_rfl))));(apply aZ 14 rfl (by as_aux_lemma=>kernel_rfl) rfl rfl;((first | exact bN.pre (bD (n:=8) (z:=55) (s:=48) rfl rfl hrj hmj rfl) (bp rfl (by as_aux_lemma=>kernel_rfl) rfl rfl rfl rfl rfl rfl (by omega)) | exact aS (j:=j) rfl rfl rfl rfl rfl (by as_aux_lemma=>kernel_rfl) rfl hjp hrl | exact bo rfl rfl (by simp) rfl rfl hvl rfl hjl2 (by as_aux_lemma=>kernel_rfl))));(refine bF (by as_aux_lemma=>kernel_rfl) ?_;exact aU (Wk.of ⟨rfl,rfl,rfl,rfl,trivial⟩ ⟨rfl,congrArg (fun l=>some (⟨true,24,1, .rows 2 l []⟩:Ch)) hfin,trivial⟩ trivial)))))));(focus ((apply eI 0 12 rfl (by as_aux_lemma=>kernel_rfl) rfl rfl rfl rfl;(exact ah rfl rfl);((first | exact bN.pre (bD (n:=8) (z:=55) (s:=48) rfl rfl hrj hmj rfl) (bp rfl (by as_aux_lemma=>kernel_rfl) rfl rfl rfl rfl rfl rfl (by omega)) | exact aS (j:=j) rfl rfl rfl rfl rfl (by as_aux_lemma=>kernel_rfl) rfl hjp hrl | exact bo rfl rfl (by simp) rfl rfl hvl rfl hjl2 (by as_aux_lemma=>kernel_rfl)));(focus ((apply aZ 12 rfl (by as_aux_lemma=>kernel_rfl) rfl rfl;((first | exact bN.pre (bD (n:=8) (z:=55) (s:=48) rfl rfl hrj hmj rfl) (bp rfl (by as_aux_lemma=>kernel_rfl) rfl rfl rfl rfl rfl rfl (by omega)) | exact aS (j:=j) rfl rfl rfl rfl rfl (by as_aux_lemma=>kernel_rfl) rfl hjp hrl | exact bo rfl rfl (by simp) rfl rfl hvl rfl hjl2 (by as_aux_lemma=>kernel_rfl))));(apply aZ 13 rfl (by as_aux_lemma=>kernel_rfl) rfl rfl;((first | exact bN.pre (bD (n:=8) (z:=55) (s:=48) rfl rfl hrj hmj rfl) (bp rfl (by as_aux_lemma=>kernel_rfl) rfl rfl rfl rfl rfl rfl (by omega)) | exact aS (j:=j) rfl rfl rfl rfl rfl (by as_aux_lemma=>kernel_rfl) rfl hjp hrl | exact bo rfl rfl (by simp) rfl rfl hvl rfl hjl2 (by as_aux_lemma=>kernel_rfl))));(apply aZ 14 rfl (by as_aux_lemma=>kernel_rfl) rfl rfl;((first | exact bN.pre (bD (n:=8) (z:=55) (s:=48) rfl rfl hrj hmj rfl) (bp rfl (by as_aux_lemma=>kernel_rfl) rfl rfl rfl rfl rfl rfl (by omega)) | exact aS (j:=j) rfl rfl rfl rfl rfl (by as_aux_lemma=>kernel_rfl) rfl hjp hrl | exact bo rfl rfl (by simp) rfl rfl hvl rfl hjl2 (by as_aux_lemma=>kernel_rfl))));(refine bF (by as_aux_lemma=>kernel_rfl) ?_;exact aU (Wk.of ⟨rfl,rfl,rfl,rfl,trivial⟩ ⟨rfl,congrArg (fun l=>some (⟨true,24,1, .rows 2 l []⟩:Ch)) hfin,trivial⟩ trivial))));(focus ((apply aZ 0 rfl (by as_aux_lemma=>kernel_rfl) rfl rfl;(exact ah rfl rfl));(apply aZ 13 rfl (by as_aux_lemma=>kernel_rfl) rfl rfl;((first | exact bN.pre (bD (n:=8) (z:=55) (s:=48) rfl rfl hrj hmj rfl) (bp rfl (by as_aux_lemma=>kernel_rfl) rfl rfl rfl rfl rfl rfl (by omega)) | exact aS (j:=j) rfl rfl rfl rfl rfl (by as_aux_lemma=>kernel_rfl) rfl hjp hrl | exact bo rfl rfl (by simp) rfl rfl hvl rfl hjl2 (by as_aux_lemma=>kernel_rfl))));(apply aZ 14 rfl (by as_aux_lemma=>kernel_rfl) rfl rfl;((first | exact bN.pre (bD (n:=8) (z:=55) (s:=48) rfl rfl hrj hmj rfl) (bp rfl (by as_aux_lemma=>kernel_rfl) rfl rfl rfl rfl rfl rfl (by omega)) | exact aS (j:=j) rfl rfl rfl rfl rfl (by as_aux_lemma=>kernel_rfl) rfl hjp hrl | exact bo rfl rfl (by simp) rfl rfl hvl rfl hjl2 (by as_aux_lemma=>kernel_rfl))));(refine bF (by as_aux_lemma=>kernel_rfl) ?_;exact aU (Wk.of ⟨rfl,rfl,rfl,rfl,trivial⟩ ⟨rfl,congrArg (fun l=>some (⟨true,24,1, .rows 2 l []⟩:Ch)) hfin,trivial⟩ trivial)))))));(focus ((apply eI 0 1 rfl (by as_aux_lemma=>kernel_rfl) rfl rfl rfl rfl;(exact ah rfl rfl);(exact ah rfl rfl);(focus ((apply aZ 1 rfl (by as_aux_lemma=>kernel_rfl) rfl rfl;(exact ah rfl rfl));(apply aZ 13 rfl (by as_aux_lemma=>kernel_rfl) rfl rfl;((first | exact bN.pre (bD (n:=8) (z:=55) (s:=48) rfl rfl hrj hmj rfl) (bp rfl (by as_aux_lemma=>kernel_rfl) rfl rfl rfl rfl rfl rfl (by omega)) | exact aS (j:=j) rfl rfl rfl rfl rfl (by as_aux_lemma=>kernel_rfl) rfl hjp hrl | exact bo rfl rfl (by simp) rfl rfl hvl rfl hjl2 (by as_aux_lemma=>kernel_rfl))));(apply aZ 14 rfl (by as_aux_lemma=>kernel_rfl) rfl rfl;((first | exact bN.pre (bD (n:=8) (z:=55) (s:=48) rfl rfl hrj hmj rfl) (bp rfl (by as_aux_lemma=>kernel_rfl) rfl rfl rfl rfl rfl rfl (by omega)) | exact aS (j:=j) rfl rfl rfl rfl rfl (by as_aux_lemma=>kernel_rfl) rfl hjp hrl | exact bo rfl rfl (by simp) rfl rfl hvl rfl hjl2 (by as_aux_lemma=>kernel_rfl))));(refine bF (by as_aux_lemma=>kernel_rfl) ?_;exact aU (Wk.of ⟨rfl,rfl,rfl,rfl,trivial⟩ ⟨rfl,congrArg (fun l=>some (⟨true,24,1, .rows 2 l []⟩:Ch)) hfin,trivial⟩ trivial))));(focus ((apply aZ 0 rfl (by as_aux_lemma=>kernel_rfl) rfl rfl;(exact ah rfl rfl));(apply aZ 13 rfl (by as_aux_lemma=>kernel_rfl) rfl rfl;((first | exact bN.pre (bD (n:=8) (z:=55) (s:=48) rfl rfl hrj hmj rfl) (bp rfl (by as_aux_lemma=>kernel_rfl) rfl rfl rfl rfl rfl rfl (by omega)) | exact aS (j:=j) rfl rfl rfl rfl rfl (by as_aux_lemma=>kernel_rfl) rfl hjp hrl | exact bo rfl rfl (by simp) rfl rfl hvl rfl hjl2 (by as_aux_lemma=>kernel_rfl))));(apply aZ 14 rfl (by as_aux_lemma=>kernel_rfl) rfl rfl;((first | exact bN.pre (bD (n:=8) (z:=55) (s:=48) rfl rfl hrj hmj rfl) (bp rfl (by as_aux_lemma=>kernel_rfl) rfl rfl rfl rfl rfl rfl (by omega)) | exact aS (j:=j) rfl rfl rfl rfl rfl (by as_aux_lemma=>kernel_rfl) rfl hjp hrl | exact bo rfl rfl (by simp) rfl rfl hvl rfl hjl2 (by as_aux_lemma=>kernel_rfl))));(refine bF (by as_aux_lemma=>kernel_rfl) ?_;exact aU (Wk.of ⟨rfl,rfl,rfl,rfl,trivial⟩ ⟨rfl,congrArg (fun l=>some (⟨true,24,1, .rows 2 l []⟩:Ch)) hfin,trivial⟩ trivial)))))))))
       ·(skip)
        exact aU (Wk.of ⟨rfl,rfl,rfl,rfl,trivial⟩ ⟨rfl,rfl,trivial⟩ trivial)
    (refine an ?_;refine a6 ?_;refine aE ?_;refine aP ?_;refine an ?_;refine ag ?_;apply ae rfl;(exact ah rfl rfl);apply ae rfl;(exact aJ rfl rfl rfl (by first | exact IntWalk.i64_in _ (by omega) | rfl));apply ae rfl;(exact ai rfl rfl);refine aq ?_)
    exact aX (i + 1,ps.set j (m ||| 2 ^ i,labs ++ [aC zs (i - 1)])) ⟨by omega,hv⟩ (by show L + 1 - (i + 1) < L + 1 - i;omega) (Wk.of ⟨rfl,rfl,congrArg (fun n=>some (o1 (.sl 8 0 n))) (by simp),rfl,trivial⟩ ⟨rfl,rfl,trivial⟩ trivial)
   ·have hv:eA zs mask (i + 1)=ps ++ [(2 ^ i, [])]:=by rw [hnx,if_neg (by rw [hjb];simp)]
    have hrl:(cM (dB ps)).length=ps.length:=by rw [eu,hrx]
    have hfin:cM (dB ps) ++ [[]]=cM (dB (ps ++ [(2 ^ i, [])])):=by simp [dB,cM,aH]
    (refine aG ?_;refine an ?_;refine ag ?_;apply ae rfl;(exact ah rfl rfl);apply ae rfl;(first | exact dr (E:=2) (k:=1) rfl (by as_aux_lemma=>kernel_rfl) | exact jd (vs:= []) rfl (by as_aux_lemma=>kernel_rfl) rfl rfl hrl rfl rfl rfl rfl rfl (by omega));apply ae rfl;(exact ub (E:=24) rfl (by as_aux_lemma=>kernel_rfl) rfl rfl rfl);apply ae rfl;(first | exact dr (E:=2) (k:=1) rfl (by as_aux_lemma=>kernel_rfl) | exact jd (vs:= []) rfl (by as_aux_lemma=>kernel_rfl) rfl rfl hrl rfl rfl rfl rfl rfl (by omega));apply ae rfl;(exact ai rfl rfl);refine aq ?_;refine aI ?_;refine an ?_;refine ag ?_;apply ae rfl;(exact ah rfl rfl);apply ae rfl;(exact aJ rfl rfl rfl (by first | exact IntWalk.i64_in _ (by omega) | rfl));apply ae rfl;(exact ai rfl rfl);refine aq ?_)
    exact aX (i + 1,ps ++ [(2 ^ i, [])]) ⟨by omega,hv⟩ (by show L + 1 - (i + 1) < L + 1 - i;omega) (Wk.of ⟨rfl,rfl,congrArg (fun n=>some (o1 (.sl 8 0 n))) (by simp),rfl,trivial⟩ ⟨rfl,congrArg (fun l=>some (⟨true,24,1, .rows 2 l []⟩:Ch)) hfin,trivial⟩ trivial)
 ·obtain rfl:i=L + 1:=by omega
  have hv:comps zs mask=ps:=by unfold comps;rw [hL];exact hp
  rw [hv]
  (refine a6 ?_;refine aE ?_;refine aE ?_;refine aP ?_;refine an ?_;refine aj ?_;refine ag ?_;apply ae rfl;(exact ah rfl rfl);apply ae rfl;(exact ai rfl rfl);refine aq ?_;refine an ?_;refine aK ?_)
  exact aW (.inl rfl) rfl (.tmp rfl) ⟨rfl,trivial⟩ trivial
end Go.Proofs.YtekbhbcgoadciaaGreat
namespace Go.Proofs.YtekbhbcgoadciaaGreat
open Go.RowKit
set_option maxRecDepth 100000 in
theorem fF (zs:List Int) (L:Nat) (hL:zs.length=L) (h4:L≤4):FC Tryz.prog 68 [(1003,cf zs)] [o1 (.sl 1003 0 L)] [] (vv (I6 (bg zs))) []:=by
 have hR:=gw zs L h4
 have h5:L + 1≤5:=by omega
 have hp:2 ^ (L + 1)≤2 ^ 5:=Nat.pow_le_pow_right (by decide) (by omega)
 have h1:=pV (L + 1)
 have hcv:IntKind.u64.wrap ((L + 1:Nat):Int)=((L + 1:Nat):Int):=by rw [IntKind.wrap_u64];omega
 have hw:IntKind.i64.wrap (((2 ^ (L + 1):Nat):Int) - 1)=((bg zs:Nat):Int):=by
  rw [IntWalk.i64_in _ (by omega)]
  unfold bg;rw [hL];omega
 refine a5 (nt:=8) Tryz.func68 rfl rfl (by simp) fun w0 ω0=> ?_
 (refine aj ?_;refine ag ?_;apply ae rfl;(exact ai rfl rfl);refine aq ?_;refine an ?_;refine aj ?_;refine ag ?_;apply ae rfl;(exact ah rfl rfl);apply ae rfl;(first | (apply ar 50;exact au hR (by as_aux_lemma=>kernel_rfl) rfl rfl ⟨rfl,trivial⟩ ⟨⟨_,rfl, .inl rfl⟩,trivial⟩ rfl rfl) | exact aN rfl rfl (by as_aux_lemma=>kernel_rfl) (by as_aux_lemma=>kernel_rfl) hcv | exact dv (g:=L + 1) rfl rfl rfl h5 | exact bf rfl rfl rfl hw);apply ae rfl;(first | (apply ar 50;exact au hR (by as_aux_lemma=>kernel_rfl) rfl rfl ⟨rfl,trivial⟩ ⟨⟨_,rfl, .inl rfl⟩,trivial⟩ rfl rfl) | exact aN rfl rfl (by as_aux_lemma=>kernel_rfl) (by as_aux_lemma=>kernel_rfl) hcv | exact dv (g:=L + 1) rfl rfl rfl h5 | exact bf rfl rfl rfl hw);apply ae rfl;(first | (apply ar 50;exact au hR (by as_aux_lemma=>kernel_rfl) rfl rfl ⟨rfl,trivial⟩ ⟨⟨_,rfl, .inl rfl⟩,trivial⟩ rfl rfl) | exact aN rfl rfl (by as_aux_lemma=>kernel_rfl) (by as_aux_lemma=>kernel_rfl) hcv | exact dv (g:=L + 1) rfl rfl rfl h5 | exact bf rfl rfl rfl hw);apply ae rfl;(first | (apply ar 50;exact au hR (by as_aux_lemma=>kernel_rfl) rfl rfl ⟨rfl,trivial⟩ ⟨⟨_,rfl, .inl rfl⟩,trivial⟩ rfl rfl) | exact aN rfl rfl (by as_aux_lemma=>kernel_rfl) (by as_aux_lemma=>kernel_rfl) hcv | exact dv (g:=L + 1) rfl rfl rfl h5 | exact bf rfl rfl rfl hw);apply ae rfl;(exact ai rfl rfl);refine aq ?_;refine an ?_;refine aK ?_)
 exact aW (.inl rfl) rfl (.tmp rfl) trivial trivial
set_option maxRecDepth 100000 in
set_option maxHeartbeats 2000000 in
theorem uL (zs:List Int) (L mask:Nat) (hL:zs.length=L) (hd:bz zs=true) (hmk:mask < 1000):
  FC Tryz.prog 73 [(1003,cf zs)] [o1 (.sl 1003 0 L),vv (I6 mask)] [] (vv (I6 (ey (comps zs mask) (comps zs mask).length:Nat))) []:=by
 have h4:L≤4:=by have:=bE hd;omega
 have hC:=(pz zs L mask hL h4 hmk).nm [(1003,1003),(8,10)] (by kernel_rfl)
 have hC:FC Tryz.prog 115 [(1003,cf zs)] [o1 (.sl 1003 0 L),vv (I6 mask)] [(10,hZ (comps zs mask))] (o1 (.sl 10 0 (comps zs mask).length)) []:=hC
 have hlab:∀k,k < (comps zs mask).length→gY (cx (comps zs mask) k).2:=fun k hk=>ga hd hk
 have hnp:(comps zs mask).length≤5:=by
  have h1:=fq (comps zs mask);have h2:=(fu zs mask).sum;omega
 refine a5 (nt:=36) Tryz.func73 rfl rfl (by simp) fun w0 ω0=> ?_
 generalize comps zs mask=ps at *
 generalize hN:ps.length=N at *
 have hrx:=iQ ps
 rw [hN] at hrx
 (refine aj ?_;refine ag ?_;apply ae rfl;(exact ai rfl rfl);refine aq ?_;refine an ?_;refine aj ?_;refine ag ?_;apply ae rfl;(exact ah rfl rfl);apply ae rfl;(exact ah rfl rfl);apply ae rfl;(apply ar 115;exact bl hC (by as_aux_lemma=>kernel_rfl) rfl rfl ⟨rfl,rfl,trivial⟩ ⟨⟨_,rfl, .inl rfl⟩,trivial⟩ rfl rfl rfl);apply ae rfl;(exact ai rfl rfl);apply ae rfl;(exact ai rfl rfl);refine aq ?_;refine an ?_;refine aj ?_;refine aj ?_;refine ag ?_;apply ae rfl;(exact ai rfl rfl);refine aq ?_;refine an ?_;refine aD ?_)
 refine bx (fun j:Nat=>St.of [(5,o1 (.sl 10 0 N)),(6,vv (I6 (ey ps j:Nat))),(7,vv (I6 j))] [(10,hZ ps)]) (fun j=>j≤N) (fun j=>N - j) 0 (Nat.zero_le _) (Wk.of ⟨rfl,rfl,rfl,trivial⟩ ⟨rfl,trivial⟩ trivial) ?_
 rintro j hj
 (refine aj ?_;refine aj ?_;refine ag ?_;apply ae rfl;(exact ah rfl rfl);apply ae rfl;(exact ah rfl rfl);apply ae rfl;(exact br rfl rfl rfl (by as_aux_lemma=>kernel_rfl));apply ae rfl;(exact aB rfl rfl rfl rfl);refine aq ?_;refine an ?_)
 refine bM rfl (fun hlt=> ?_) (fun hlt=> ?_)
 ·have hjN:j < N:=by omega
  have hjp:j < ps.length:=by omega
  have hL:=hlab j hjN
  have hk:=jl hjp
  have hk2:=uw ps j
  have hrj:=jv hjp
  have hrg:=kG hjp
  have hjr:j < (dB ps).length:=by omega
  have hix:N≤(cM (dB ps)).length:=by rw [eu,hrx];exact Nat.le_refl _
  generalize (cx ps j).2=labs at *
  have hm4:=hL.1
  have hlm:(aH labs).length=labs.length:=aO _
  have hAf:=(qT (dB ps) j labs.length labs hjr hrg rfl hm4).nm [(1000,10)] (by kernel_rfl)
  have hAf:FC Tryz.prog 120 [(10,bu (dB ps))] [o1 (.esl 10 j 0 labs.length)] [] (vv (.bool (wV labs))) []:=hAf
  have hrest:(cO labs).length=0→∀(S:St),S=S→True:=fun _ _ _=>trivial
  rcases rZ (dB ps) j labs.length labs hjr hrg rfl hm4 with ⟨hnil,hD⟩ | hD
  ·have hD:=hD.nm [(1000,10)] (by kernel_rfl)
   have hD:FC Tryz.prog 116 [(10,bu (dB ps))] [o1 (.esl 10 j 0 labs.length)] [] (vv (.slice none 0 0)) []:=hD
   unfold mj at hk
   rw [if_pos (by rw [hnil];rfl)] at hk
   (refine aG ?_;refine an ?_;refine aj ?_;refine aD ?_;refine aD ?_;refine aj ?_;refine ag ?_;apply ae rfl;(exact ah rfl rfl);apply ae rfl;(exact ah rfl rfl);apply ae rfl;(first | exact aS (j:=j) rfl rfl rfl rfl rfl (by as_aux_lemma=>kernel_rfl) rfl hjN hix | exact cE rfl (by as_aux_lemma=>kernel_rfl) rfl rfl rfl hrj hlm | (apply ar 116;exact au hD (by as_aux_lemma=>kernel_rfl) rfl rfl ⟨rfl,trivial⟩ ⟨⟨_,rfl, .inr rfl⟩,trivial⟩ rfl rfl));apply ae rfl;(first | exact aS (j:=j) rfl rfl rfl rfl rfl (by as_aux_lemma=>kernel_rfl) rfl hjN hix | exact cE rfl (by as_aux_lemma=>kernel_rfl) rfl rfl rfl hrj hlm | (apply ar 116;exact au hD (by as_aux_lemma=>kernel_rfl) rfl rfl ⟨rfl,trivial⟩ ⟨⟨_,rfl, .inr rfl⟩,trivial⟩ rfl rfl));apply ae rfl;(first | exact aS (j:=j) rfl rfl rfl rfl rfl (by as_aux_lemma=>kernel_rfl) rfl hjN hix | exact cE rfl (by as_aux_lemma=>kernel_rfl) rfl rfl rfl hrj hlm | (apply ar 116;exact au hD (by as_aux_lemma=>kernel_rfl) rfl rfl ⟨rfl,trivial⟩ ⟨⟨_,rfl, .inr rfl⟩,trivial⟩ rfl rfl));apply ae rfl;(exact br rfl rfl rfl (by as_aux_lemma=>kernel_rfl));apply ae rfl;(exact aB rfl rfl rfl rfl);apply ae rfl;(exact ai rfl rfl);refine aq ?_;refine an ?_)
   refine ax rfl (fun e=> ?_) (fun _=> ?_)
   ·exfalso;simp at e
   (refine aj ?_;refine ag ?_;apply ae rfl;(exact ah rfl rfl);apply ae rfl;(exact ah rfl rfl);apply ae rfl;(first | exact aS (j:=j) rfl rfl rfl rfl rfl (by as_aux_lemma=>kernel_rfl) rfl hjN hix | exact cE rfl (by as_aux_lemma=>kernel_rfl) rfl rfl rfl hrj hlm | (apply ar 120;exact au hAf (by as_aux_lemma=>kernel_rfl) rfl rfl ⟨rfl,trivial⟩ ⟨⟨_,rfl, .inr rfl⟩,trivial⟩ rfl rfl));apply ae rfl;(first | exact aS (j:=j) rfl rfl rfl rfl rfl (by as_aux_lemma=>kernel_rfl) rfl hjN hix | exact cE rfl (by as_aux_lemma=>kernel_rfl) rfl rfl rfl hrj hlm | (apply ar 120;exact au hAf (by as_aux_lemma=>kernel_rfl) rfl rfl ⟨rfl,trivial⟩ ⟨⟨_,rfl, .inr rfl⟩,trivial⟩ rfl rfl));apply ae rfl;(first | exact aS (j:=j) rfl rfl rfl rfl rfl (by as_aux_lemma=>kernel_rfl) rfl hjN hix | exact cE rfl (by as_aux_lemma=>kernel_rfl) rfl rfl rfl hrj hlm | (apply ar 120;exact au hAf (by as_aux_lemma=>kernel_rfl) rfl rfl ⟨rfl,trivial⟩ ⟨⟨_,rfl, .inr rfl⟩,trivial⟩ rfl rfl));apply ae rfl;(exact ah rfl rfl))
   refine bH 31 rfl (fun h1=> ?_) (fun h1=> ?_)
   ·rw [h1] at hk
    (apply aw rfl rfl rfl;(exact ah rfl rfl);apply aw rfl rfl rfl;(exact aB rfl rfl rfl rfl);apply ae rfl;(exact aY rfl rfl rfl);apply ae rfl;(exact ai rfl rfl);refine aq ?_;refine an ?_)
    refine ax rfl (fun h2=> ?_) (fun h2=> ?_)
    ·have h2:ey ps j≠2:=by
      have:(ey ps j:Int)≠2:=by simpa using h2
      omega
     rw [if_pos ⟨rfl,h2⟩] at hk
     (refine ag ?_;apply ae rfl;(exact ai rfl rfl);refine aq ?_;refine aI ?_;refine aI ?_;refine an ?_;refine ag ?_;apply ae rfl;(exact ah rfl rfl);apply ae rfl;(exact aJ rfl rfl rfl (by first | exact IntWalk.i64_in _ (by omega) | rfl));apply ae rfl;(exact ai rfl rfl);refine aq ?_)
     exact aX (j + 1) (by omega) (by omega) (Wk.of ⟨rfl,congrArg (fun k:Nat=>some (vv (I6 (k:Int)))) hk.symm,rfl,trivial⟩ ⟨rfl,trivial⟩ trivial)
    ·have h2:ey ps j=2:=by
      have:(ey ps j:Int)=2:=by simpa using h2
      omega
     rw [if_neg (fun h=>h.2 h2)] at hk
     (refine ag ?_;apply ae rfl;(exact ai rfl rfl);refine aq ?_;refine aI ?_;refine aI ?_;refine an ?_;refine ag ?_;apply ae rfl;(exact ah rfl rfl);apply ae rfl;(exact aJ rfl rfl rfl (by first | exact IntWalk.i64_in _ (by omega) | rfl));apply ae rfl;(exact ai rfl rfl);refine aq ?_)
     exact aX (j + 1) (by omega) (by omega) (Wk.of ⟨rfl,congrArg (fun k:Nat=>some (vv (I6 (k:Int)))) hk.symm,rfl,trivial⟩ ⟨rfl,trivial⟩ trivial)
   ·rw [h1,if_neg (by simp)] at hk
    (apply aA rfl rfl rfl rfl rfl;apply aA rfl rfl rfl rfl rfl;apply ae rfl;(exact a7 rfl rfl rfl);apply ae rfl;(exact ai rfl rfl);refine aq ?_;refine an ?_)
    refine ax rfl (fun e=>by cases e) (fun _=> ?_)
    (refine ag ?_;apply ae rfl;(exact ai rfl rfl);refine aq ?_;refine aI ?_;refine aI ?_;refine an ?_;refine ag ?_;apply ae rfl;(exact ah rfl rfl);apply ae rfl;(exact aJ rfl rfl rfl (by first | exact IntWalk.i64_in _ (by omega) | rfl));apply ae rfl;(exact ai rfl rfl);refine aq ?_)
    exact aX (j + 1) (by omega) (by omega) (Wk.of ⟨rfl,congrArg (fun k:Nat=>some (vv (I6 (k:Int)))) hk.symm,rfl,trivial⟩ ⟨rfl,trivial⟩ trivial)
  ·have hD:=hD.nm [(1000,10),(2100,22)] (by kernel_rfl)
   have hD:FC Tryz.prog 116 [(10,bu (dB ps))] [o1 (.esl 10 j 0 labs.length)] [(22,bI (cO labs))] (o1 (.sl 22 0 (cO labs).length)) []:=hD
   unfold mj at hk
   (refine aG ?_;refine an ?_;refine aj ?_;refine aD ?_;refine aD ?_;refine aj ?_;refine ag ?_;apply ae rfl;(exact ah rfl rfl);apply ae rfl;(exact ah rfl rfl);apply ae rfl;(first | exact aS (j:=j) rfl rfl rfl rfl rfl (by as_aux_lemma=>kernel_rfl) rfl hjN hix | exact cE rfl (by as_aux_lemma=>kernel_rfl) rfl rfl rfl hrj hlm | (apply ar 116;exact bl hD (by as_aux_lemma=>kernel_rfl) rfl rfl ⟨rfl,trivial⟩ ⟨⟨_,rfl, .inr rfl⟩,trivial⟩ rfl rfl rfl));apply ae rfl;(first | exact aS (j:=j) rfl rfl rfl rfl rfl (by as_aux_lemma=>kernel_rfl) rfl hjN hix | exact cE rfl (by as_aux_lemma=>kernel_rfl) rfl rfl rfl hrj hlm | (apply ar 116;exact bl hD (by as_aux_lemma=>kernel_rfl) rfl rfl ⟨rfl,trivial⟩ ⟨⟨_,rfl, .inr rfl⟩,trivial⟩ rfl rfl rfl));apply ae rfl;(first | exact aS (j:=j) rfl rfl rfl rfl rfl (by as_aux_lemma=>kernel_rfl) rfl hjN hix | exact cE rfl (by as_aux_lemma=>kernel_rfl) rfl rfl rfl hrj hlm | (apply ar 116;exact bl hD (by as_aux_lemma=>kernel_rfl) rfl rfl ⟨rfl,trivial⟩ ⟨⟨_,rfl, .inr rfl⟩,trivial⟩ rfl rfl rfl));apply ae rfl;(exact br rfl rfl rfl (by as_aux_lemma=>kernel_rfl));apply ae rfl;(exact aB rfl rfl rfl rfl);apply ae rfl;(exact ai rfl rfl);refine aq ?_;refine an ?_)
   refine ax rfl (fun e=> ?_) (fun e=> ?_)
   ·have e:¬(cO labs).length=0:=by
     have:=of_decide_eq_true e;omega
    rw [if_neg e] at hk
    (refine aG ?_;refine aI ?_;refine aI ?_;refine an ?_;refine ag ?_;apply ae rfl;(exact ah rfl rfl);apply ae rfl;(exact aJ rfl rfl rfl (by first | exact IntWalk.i64_in _ (by omega) | rfl));apply ae rfl;(exact ai rfl rfl);refine aq ?_)
    exact aX (j + 1) (by omega) (by omega) (Wk.of ⟨rfl,congrArg (fun k:Nat=>some (vv (I6 (k:Int)))) hk.symm,rfl,trivial⟩ ⟨rfl,trivial⟩ trivial)
   have e:(cO labs).length=0:=by
    have:=of_decide_eq_false e;omega
   rw [if_pos e] at hk
   (refine aj ?_;refine ag ?_;apply ae rfl;(exact ah rfl rfl);apply ae rfl;(exact ah rfl rfl);apply ae rfl;(first | exact aS (j:=j) rfl rfl rfl rfl rfl (by as_aux_lemma=>kernel_rfl) rfl hjN hix | exact cE rfl (by as_aux_lemma=>kernel_rfl) rfl rfl rfl hrj hlm | (apply ar 120;exact au hAf (by as_aux_lemma=>kernel_rfl) rfl rfl ⟨rfl,trivial⟩ ⟨⟨_,rfl, .inr rfl⟩,trivial⟩ rfl rfl));apply ae rfl;(first | exact aS (j:=j) rfl rfl rfl rfl rfl (by as_aux_lemma=>kernel_rfl) rfl hjN hix | exact cE rfl (by as_aux_lemma=>kernel_rfl) rfl rfl rfl hrj hlm | (apply ar 120;exact au hAf (by as_aux_lemma=>kernel_rfl) rfl rfl ⟨rfl,trivial⟩ ⟨⟨_,rfl, .inr rfl⟩,trivial⟩ rfl rfl));apply ae rfl;(first | exact aS (j:=j) rfl rfl rfl rfl rfl (by as_aux_lemma=>kernel_rfl) rfl hjN hix | exact cE rfl (by as_aux_lemma=>kernel_rfl) rfl rfl rfl hrj hlm | (apply ar 120;exact au hAf (by as_aux_lemma=>kernel_rfl) rfl rfl ⟨rfl,trivial⟩ ⟨⟨_,rfl, .inr rfl⟩,trivial⟩ rfl rfl));apply ae rfl;(exact ah rfl rfl))
   refine bH 31 rfl (fun h1=> ?_) (fun h1=> ?_)
   ·rw [h1] at hk
    (apply aw rfl rfl rfl;(exact ah rfl rfl);apply aw rfl rfl rfl;(exact aB rfl rfl rfl rfl);apply ae rfl;(exact aY rfl rfl rfl);apply ae rfl;(exact ai rfl rfl);refine aq ?_;refine an ?_)
    refine ax rfl (fun h2=> ?_) (fun h2=> ?_)
    ·have h2:ey ps j≠2:=by
      have:(ey ps j:Int)≠2:=by simpa using h2
      omega
     rw [if_pos ⟨rfl,h2⟩] at hk
     (refine ag ?_;apply ae rfl;(exact ai rfl rfl);refine aq ?_;refine aI ?_;refine aI ?_;refine an ?_;refine ag ?_;apply ae rfl;(exact ah rfl rfl);apply ae rfl;(exact aJ rfl rfl rfl (by first | exact IntWalk.i64_in _ (by omega) | rfl));apply ae rfl;(exact ai rfl rfl);refine aq ?_)
     exact aX (j + 1) (by omega) (by omega) (Wk.of ⟨rfl,congrArg (fun k:Nat=>some (vv (I6 (k:Int)))) hk.symm,rfl,trivial⟩ ⟨rfl,trivial⟩ trivial)
    ·have h2:ey ps j=2:=by
      have:(ey ps j:Int)=2:=by simpa using h2
      omega
     rw [if_neg (fun h=>h.2 h2)] at hk
     (refine ag ?_;apply ae rfl;(exact ai rfl rfl);refine aq ?_;refine aI ?_;refine aI ?_;refine an ?_;refine ag ?_;apply ae rfl;(exact ah rfl rfl);apply ae rfl;(exact aJ rfl rfl rfl (by first | exact IntWalk.i64_in _ (by omega) | rfl));apply ae rfl;(exact ai rfl rfl);refine aq ?_)
     exact aX (j + 1) (by omega) (by omega) (Wk.of ⟨rfl,congrArg (fun k:Nat=>some (vv (I6 (k:Int)))) hk.symm,rfl,trivial⟩ ⟨rfl,trivial⟩ trivial)
   ·rw [h1,if_neg (by simp)] at hk
    (apply aA rfl rfl rfl rfl rfl;apply aA rfl rfl rfl rfl rfl;apply ae rfl;(exact a7 rfl rfl rfl);apply ae rfl;(exact ai rfl rfl);refine aq ?_;refine an ?_)
    refine ax rfl (fun e=>by cases e) (fun _=> ?_)
    (refine ag ?_;apply ae rfl;(exact ai rfl rfl);refine aq ?_;refine aI ?_;refine aI ?_;refine an ?_;refine ag ?_;apply ae rfl;(exact ah rfl rfl);apply ae rfl;(exact aJ rfl rfl rfl (by first | exact IntWalk.i64_in _ (by omega) | rfl));apply ae rfl;(exact ai rfl rfl);refine aq ?_)
    exact aX (j + 1) (by omega) (by omega) (Wk.of ⟨rfl,congrArg (fun k:Nat=>some (vv (I6 (k:Int)))) hk.symm,rfl,trivial⟩ ⟨rfl,trivial⟩ trivial)
 ·obtain rfl:j=N:=by omega
  (refine a6 ?_;refine aE ?_;refine aE ?_;refine aP ?_;refine an ?_;refine aj ?_;refine ag ?_;apply ae rfl;(exact ah rfl rfl);apply ae rfl;(exact ai rfl rfl);refine aq ?_;refine an ?_;refine aK ?_)
  exact aW (.inl rfl) rfl (.tmp rfl) trivial trivial
end Go.Proofs.YtekbhbcgoadciaaGreat
namespace Go.Proofs.YtekbhbcgoadciaaGreat
open Go.RowKit
theorem oN {us:List Value} {u0 u1 u2:Value} (hl:us.length=3) (g0:us[0]? =some u0) (g1:us[1]? =some u1) (g2:us[2]? =some u2):us= [u0,u1,u2]:=by
 match us,hl with
 | [p,q,r],_=>simp at g0 g1 g2;rw [g0,g1,g2]
theorem kX (a b c:Int):FC Tryz.prog 61 [] [vv (I6 a),vv (I6 b),vv (I6 c)] [] (vv (.bool (gm a b c))) []:=
 du fun w η ω us hm ⟨hl,ha⟩=>by
  obtain ⟨u0,g0,d0⟩:=ha 0 _ rfl
  obtain ⟨u1,g1,d1⟩:=ha 1 _ rfl
  obtain ⟨u2,g2,d2⟩:=ha 2 _ rfl
  have d0:u0=I6 a:=d0
  have d1:u1=I6 b:=d1
  have d2:u2=I6 c:=d2
  subst d0 d1 d2
  rw [oN hl g0 g1 g2]
  refine (mq a b c w).mono ?_
  rintro e w' ⟨rfl,rfl⟩
  exact ⟨rfl,Below.refl _ _⟩
end Go.Proofs.YtekbhbcgoadciaaGreat
namespace Go.Proofs.YtekbhbcgoadciaaGreat
open Go.RowKit
def ld (zs:List Int) (m:Int):Int:=if bz zs=true then (if gm m 0 (bg zs)=true then (if dC zs m.toNat=true then 0 else 5) else 2) else 1
theorem xj (a b c:Int):FC Tryz.prog 105 [] [vv (I6 a),vv (I6 b),vv (I6 c)] [] (vv (.bool (gm a b c))) []:=
 du fun w η ω us hm ⟨hl,ha⟩=>by
  obtain ⟨u0,g0,d0⟩:=ha 0 _ rfl
  obtain ⟨u1,g1,d1⟩:=ha 1 _ rfl
  obtain ⟨u2,g2,d2⟩:=ha 2 _ rfl
  have d0:u0=I6 a:=d0
  have d1:u1=I6 b:=d1
  have d2:u2=I6 c:=d2
  subst d0 d1 d2
  rw [oN hl g0 g1 g2]
  refine (jg a b c w).mono ?_
  rintro e w' ⟨rfl,rfl⟩
  exact ⟨rfl,Below.refl _ _⟩
set_option maxRecDepth 100000 in
theorem me (zs:List Int) (L:Nat) (m:Int) (hL:zs.length=L) (hn:L≤4398046511104):FC Tryz.prog 104 [(1003,cf zs)] [o1 (.sl 1003 0 L),vv (I6 m)] [] (vv (I6 (ld zs m))) []:=by
 have hI:=j7 zs L hL hn
 unfold ld
 refine a5 (nt:=20) Tryz.func104 rfl rfl (by simp) fun w0 ω0=> ?_
 cases hd:bz zs with
 | false=>
  rw [hd] at hI
  rw [if_neg (by simp)]
  (refine aj ?_;refine ag ?_;apply ae rfl;(exact ai rfl rfl);refine aq ?_;refine an ?_;refine aj ?_;refine aD ?_;refine aj ?_;refine ag ?_;apply ae rfl;(exact ah rfl rfl);apply ae rfl;(apply ar 72;exact au hI (by as_aux_lemma=>kernel_rfl) rfl rfl ⟨rfl,trivial⟩ ⟨⟨_,rfl, .inl rfl⟩,trivial⟩ rfl rfl);apply ae rfl;(exact bK rfl rfl);apply ae rfl;(exact ai rfl rfl);refine aq ?_;refine an ?_)
  refine ax rfl (fun _=> ?_) (fun e=>by cases e)
  (refine aj ?_;refine ag ?_;apply ae rfl;(exact ai rfl rfl);refine aq ?_;refine an ?_;refine aK ?_;refine bh ?_;refine aT ?_)
  exact aW (.inl rfl) rfl (.tmp rfl) trivial trivial
 | true=>
  rw [hd] at hI
  rw [if_pos rfl]
  have h4:L≤4:=by have:=bE hd;omega
  have hW:=fF zs L hL h4
  have hIn:=xj m 0 (bg zs)
  (refine aj ?_;refine ag ?_;apply ae rfl;(exact ai rfl rfl);refine aq ?_;refine an ?_;refine aj ?_;refine aD ?_;refine aj ?_;refine ag ?_;apply ae rfl;(exact ah rfl rfl);apply ae rfl;(apply ar 72;exact au hI (by as_aux_lemma=>kernel_rfl) rfl rfl ⟨rfl,trivial⟩ ⟨⟨_,rfl, .inl rfl⟩,trivial⟩ rfl rfl);apply ae rfl;(exact bK rfl rfl);apply ae rfl;(exact ai rfl rfl);refine aq ?_;refine an ?_)
  refine ax rfl (fun e=>by cases e) (fun _=> ?_)
  (refine aj ?_;refine ag ?_;apply ae rfl;(exact ah rfl rfl);apply ae rfl;(exact ah rfl rfl);apply ae rfl;(first | (apply ar 68;exact au hW (by as_aux_lemma=>kernel_rfl) rfl rfl ⟨rfl,trivial⟩ ⟨⟨_,rfl, .inl rfl⟩,trivial⟩ rfl rfl) | (apply ar 105;exact au hIn (by as_aux_lemma=>kernel_rfl) rfl rfl ⟨rfl,rfl,rfl,trivial⟩ trivial rfl rfl));apply ae rfl;(first | (apply ar 68;exact au hW (by as_aux_lemma=>kernel_rfl) rfl rfl ⟨rfl,trivial⟩ ⟨⟨_,rfl, .inl rfl⟩,trivial⟩ rfl rfl) | (apply ar 105;exact au hIn (by as_aux_lemma=>kernel_rfl) rfl rfl ⟨rfl,rfl,rfl,trivial⟩ trivial rfl rfl));apply ae rfl;(exact bK rfl rfl);apply ae rfl;(exact ai rfl rfl);refine aq ?_;refine an ?_)
  refine ax rfl (fun h=> ?_) (fun h=> ?_)
  ·have hb:gm m 0 (bg zs)=false:=by simpa using h
   rw [hb,if_neg (by simp)]
   (refine aj ?_;refine ag ?_;apply ae rfl;(exact ai rfl rfl);refine aq ?_;refine an ?_;refine aK ?_;refine bh ?_;refine aT ?_)
   exact aW (.inl rfl) rfl (.tmp rfl) trivial trivial
  have hb:gm m 0 (bg zs)=true:=by simpa using h
  rw [hb,if_pos rfl]
  have hlt:=dk (zs:=zs) (by omega)
  have hbb:=dW.1 hb
  obtain ⟨k,hk⟩:=Int.eq_ofNat_of_zero_le hbb.1
  subst hk
  rw [Int.toNat_natCast]
  have hK:=uL zs L k hL hd (by omega)
  (refine aj ?_;refine ag ?_;apply ae rfl;(exact ah rfl rfl);apply ae rfl;(exact ah rfl rfl);apply ae rfl;(apply ar 73;exact au hK (by as_aux_lemma=>kernel_rfl) rfl rfl ⟨rfl,rfl,trivial⟩ ⟨⟨_,rfl, .inl rfl⟩,trivial⟩ rfl rfl);apply ae rfl;(exact aB rfl rfl rfl rfl);apply ae rfl;(exact ai rfl rfl);refine aq ?_;refine an ?_)
  refine ax rfl (fun h=> ?_) (fun h=> ?_)
  ·have hf:dC zs k=false:=by
    have:((ey (comps zs k) (comps zs k).length:Nat):Int)≠0:=by simpa using h
    unfold dC;rw [decide_eq_false_iff_not];omega
   rw [hf,if_neg (by simp)]
   (refine aj ?_;refine ag ?_;apply ae rfl;(exact ai rfl rfl);refine aq ?_;refine an ?_;refine aK ?_;refine bh ?_;refine aT ?_)
   exact aW (.inl rfl) rfl (.tmp rfl) trivial trivial
  have hf:dC zs k=true:=by
   have:((ey (comps zs k) (comps zs k).length:Nat):Int)=0:=by simpa using h
   unfold dC;rw [decide_eq_true_iff];omega
  rw [hf,if_pos rfl]
  (refine aG ?_;refine aI ?_;refine an ?_;refine aj ?_;refine ag ?_;apply ae rfl;(exact ai rfl rfl);refine aq ?_;refine an ?_;refine aK ?_)
  exact aW (.inl rfl) rfl (.tmp rfl) trivial trivial
def lG (zs:List Int):Int:=ld zs (bg zs)
set_option maxRecDepth 100000 in
theorem vw (zs:List Int) (L:Nat) (hL:zs.length=L) (hn:L≤4398046511104):FC Tryz.prog 66 [(1003,cf zs)] [o1 (.sl 1003 0 L)] [] (vv (I6 (lG zs))) []:=by
 have hI:=j7 zs L hL hn
 refine a5 (nt:=10) Tryz.func66 rfl rfl (by simp) fun w0 ω0=> ?_
 cases hd:bz zs with
 | false=>
  rw [hd] at hI
  have e:lG zs=1:=by unfold lG ld;rw [hd,if_neg (by simp)]
  rw [e]
  (refine aj ?_;refine ag ?_;apply ae rfl;(exact ai rfl rfl);refine aq ?_;refine an ?_;refine aj ?_;refine aj ?_;refine ag ?_;apply ae rfl;(exact ah rfl rfl);apply ae rfl;(apply ar 72;exact au hI (by as_aux_lemma=>kernel_rfl) rfl rfl ⟨rfl,trivial⟩ ⟨⟨_,rfl, .inl rfl⟩,trivial⟩ rfl rfl);apply ae rfl;(exact bK rfl rfl);refine aq ?_;refine an ?_)
  refine ax rfl (fun _=> ?_) (fun e=>by cases e)
  (refine aj ?_;refine ag ?_;apply ae rfl;(exact ai rfl rfl);refine aq ?_;refine an ?_;refine aK ?_;refine aT ?_)
  exact aW (.inl rfl) rfl (.tmp rfl) trivial trivial
 | true=>
  rw [hd] at hI
  have h4:L≤4:=by have:=bE hd;omega
  have hW:=fF zs L hL h4
  have hM:=me zs L (bg zs) hL hn
  (refine aj ?_;refine ag ?_;apply ae rfl;(exact ai rfl rfl);refine aq ?_;refine an ?_;refine aj ?_;refine aj ?_;refine ag ?_;apply ae rfl;(exact ah rfl rfl);apply ae rfl;(apply ar 72;exact au hI (by as_aux_lemma=>kernel_rfl) rfl rfl ⟨rfl,trivial⟩ ⟨⟨_,rfl, .inl rfl⟩,trivial⟩ rfl rfl);apply ae rfl;(exact bK rfl rfl);refine aq ?_;refine an ?_)
  refine ax rfl (fun e=>by cases e) (fun _=> ?_)
  (refine aG ?_;refine an ?_;refine aj ?_;refine ag ?_;apply ae rfl;(exact ah rfl rfl);apply ae rfl;(exact ah rfl rfl);apply ae rfl;(first | (apply ar 68;exact au hW (by as_aux_lemma=>kernel_rfl) rfl rfl ⟨rfl,trivial⟩ ⟨⟨_,rfl, .inl rfl⟩,trivial⟩ rfl rfl) | (apply ar 104;exact au hM (by as_aux_lemma=>kernel_rfl) rfl rfl ⟨rfl,rfl,trivial⟩ ⟨⟨_,rfl, .inl rfl⟩,trivial⟩ rfl rfl));apply ae rfl;(first | (apply ar 68;exact au hW (by as_aux_lemma=>kernel_rfl) rfl rfl ⟨rfl,trivial⟩ ⟨⟨_,rfl, .inl rfl⟩,trivial⟩ rfl rfl) | (apply ar 104;exact au hM (by as_aux_lemma=>kernel_rfl) rfl rfl ⟨rfl,rfl,trivial⟩ ⟨⟨_,rfl, .inl rfl⟩,trivial⟩ rfl rfl));apply ae rfl;(exact ai rfl rfl);refine aq ?_;refine an ?_;refine aK ?_)
  exact aW (.inl rfl) rfl (.tmp rfl) trivial trivial
theorem vU (zs:List Int) (hd:bz zs=true):lG zs=if dC zs (bg zs)=true then 0 else 5:=by
 unfold lG ld
 rw [if_pos hd,if_pos (dW.2 ⟨by omega,by omega⟩),Int.toNat_natCast]
end Go.Proofs.YtekbhbcgoadciaaGreat
namespace Go.Proofs.YtekbhbcgoadciaaGreat
open Go.RowKit
section
variable {P:Program} {nt:Nat} {S:St} {t:Nat} {ty:TypeId} {ps:String} {af:Array Edge} {gd:Option (Nat×Bool)} {x y:Operand}
theorem mr {x y:Nm} {s E k m:Nat} {vs:List Value} (hc:S.ch x=some ⟨true,E,k, .bG vs⟩) (hs0:S.sl s=some (o1 (.sl x 0 m))):
  Wk S (((S.rm x).new y ⟨true,E,k, .bG vs⟩).put s (o1 (.sl y 0 m))):=by
 refine ⟨fun w0 ω0 nt a w ⟨η,ω,h⟩=> ?_⟩
 obtain ⟨u,hu,hdu⟩:=h.slots s _ hs0
 have hdu:cu η (.sl x 0 m) u:=hdu
 obtain ⟨hd,e1,e2,e3⟩:=h.chunk hc
 have e3:cW ω w (x,none) hd E vs.length (bU η ω w true x (.bG vs)):=e3
 obtain ⟨ao,rfl,q1,_⟩:=hdu.2 hd e1
 let ω':bJ:=fun b=>if ω b=some (x,none) then some (y,none) else ω b
 have calm:Calm (S.rm x) ω w ω' w:=⟨rfl,rfl,rfl,Nat.le_refl _,fun b _ hl=>⟨rfl,by
  have h1:ω b≠some (x,none):=by
   rcases hl with h0 | ⟨y,j,c,h0,h1⟩
   ·rw [h0];simp
   ·rw [h0];intro e;simp at e;rw [e.1,eG,if_pos rfl] at h1;cases h1
  exact if_neg h1⟩⟩
 have h2:=(h.drop x).lay (x:=y) (c:=⟨true,E,k, .bG vs⟩) (hd:=hd) (r:=fun _=>⟨none,0,1⟩) calm ⟨e2,by
  show cW ω' w (y,none) hd E vs.length _
  rcases e3 with h0 | ⟨b,o,cs,f1,f2,f3,f4,f5,f6,f7⟩
  ·exact .inl h0
  ·exact .inr ⟨b,o,cs,f1,if_pos f2,f3,f4,f5,f6,f7⟩⟩
 refine ⟨_,ω', { h2 with slots:=fun t' av ht'=> ?_ }⟩
 rw [fI] at ht'
 by_cases e:t'=s
 ·subst e
  rw [if_pos rfl] at ht'
  obtain rfl:=Option.some.inj ht'
  refine ⟨_,hu,⟨_,_,rfl⟩,fun hd' he=> ?_⟩
  simp [Env.new] at he
  subst he
  exact ⟨_,rfl,fun _=>q1 rfl,fun h0=>absurd h0 (by omega)⟩
 ·rw [if_neg e] at ht'
  exact h2.slots t' av ht'
theorem fP {T E n q off len:Nat} {c:Ch} {zs:List Int} (ht:Nat.blt t nt=true) (hT:nf P T E 1=true) (hx:S.op x=some (o1 (.sl n 0 len))) (hc:S.ch n=some c) (hce:c=⟨true,E,1, .bG (aH zs)⟩) (hl:zs.length=len) (hy:S.op y=some (o1 (.sl q off 0))):
  bN P nt ⟨some t, .call { callee:= .builtin .append,args:= #[x,y],argTypes:= #[T,T] },ty,ps,af,gd⟩ S (S.put t (o1 (.sl n 0 len))):=
 bN.pure rfl ht fun w0 ω0 η ω a w hs=>by
  subst hce hl
  obtain ⟨hd,e1,e2,e3⟩:=hs.chunk hc
  have e2:hd.k=1:=e2
  have e3:cW ω w (n,none) hd E (aH zs).length (bU η ω w true n (.bG (aH zs))):=e3
  have hu:cu η (.sl n 0 zs.length) (a.eval x):=hs.fU hx
  obtain ⟨ao,hev,_,_⟩:=hu.2 hd e1
  rw [Nat.sub_zero] at hev
  have hroom:zs.length≤hd.c:=by
   rcases e3 with ⟨_,_,h3⟩ | ⟨b,o,cs,f1,f2,f3,f4,f5,f6,f7⟩
   ·rw [aO] at h3;omega
   ·rw [aO,e2] at f5;omega
  obtain ⟨⟨ay,cy,hey⟩,_⟩:cu η (.sl q off 0) (a.eval y):=hs.fU hy
  obtain ⟨i,z,g1,g2,g3,g4,g5,g6⟩:=dV hT
  refine ⟨.slice ao zs.length hd.c, ?_,by rw [←hev];exact hu⟩
  cases ay<;>cases ao<;>simp [execOp,resolve,invoke,builtin,hev,hey,Builtin.append_,run_underlying g1,sizeOf,typeInfo,g2,Builtin.lenOf,hroom,Builtin.firstCells,loadCells,loadCellsFrom,storeCells]
end
end Go.Proofs.YtekbhbcgoadciaaGreat
namespace Go.Proofs.YtekbhbcgoadciaaGreat
open Go.RowKit
theorem pP {S:St} {n:Nm} {at_ m:Nat} {c:Ch} {zs:List Int} (hc:S.ch n=some c) (hd:c.d= .bG (aH zs)) (hk:c.k=1) (hl:at_ + m=zs.length):Reads S (.sl n at_ m) m 1 (aH (zs.drop at_)):=by
 have:=dc (S:=S) (n:=n) (off:=at_) (m:=m) (k:=1) hc hd hk rfl (by rw [aO];omega)
 rwa [Nat.mul_one,Nat.mul_one,show ((aH zs).drop at_).take m=aH (zs.drop at_) by
  unfold aH;rw [←List.map_drop,List.take_of_length_le (by simp;omega)]] at this
theorem eW {S:St} {n:Nm} {m:Nat} {c:Ch} {zs:List Int} (hc:S.ch n=some c) (hd:c.d= .bG (aH zs)) (hk:c.k=1) (hl:m≤zs.length):Reads S (.sl n 0 m) m 1 (aH (zs.take m)):=by
 have:=dc (S:=S) (n:=n) (off:=0) (m:=m) (k:=1) hc hd hk rfl (by rw [aO];omega)
 rwa [Nat.zero_mul,List.drop_zero,Nat.mul_one,show (aH zs).take m=aH (zs.take m) by unfold aH;rw [List.map_take]] at this
theorem sC (A:List Int):(bS A).Pairwise (· ≤·):=by
 have:=List.pairwise_mergeSort (le:=fun a b:Int=>decide (a≤b)) (fun a b c h1 h2=>by simp at *;omega) (fun a b=>by simp;omega) A
 exact this.imp (by simp)
theorem xT {A:List Int} {e:Int} {i:Nat} (hi:i≤(bS A).length) (h1:∀x,x < i→aC (bS A) x≤e) (h2:i=(bS A).length∨e < aC (bS A) i):
  (bS A).take i ++ ([e] ++ (bS A).drop i)=bS (A ++ [e]):=by
 have hs:=sC A
 have hp:(bS A).Perm A:=List.mergeSort_perm A _
 generalize bS A=l at *
 apply mF
 ·have q1:(l.take i ++ ([e] ++ l.drop i)).Perm (e :: (l.take i ++ l.drop i)):=by
   rw [List.singleton_append];exact List.perm_middle
  rw [List.take_append_drop] at q1
  exact q1.trans ((hp.cons e).trans (List.perm_append_singleton e A).symm)
 ·rw [←List.take_append_drop i l,List.pairwise_append] at hs
  obtain ⟨s1,s2,s3⟩:=hs
  have ha:∀a∈l.take i,a≤e:=fun a ha=>by
   obtain ⟨x,hx,rfl⟩:=List.getElem_of_mem ha
   have hx':x < i:=by rw [List.length_take] at hx;omega
   have:=h1 x hx'
   rw [ct (by omega)] at this
   rw [List.getElem_take];exact this
  have hb:∀b∈l.drop i,e≤b:=fun b hb=>by
   rcases h2 with h2 | h2
   ·rw [List.drop_of_length_le (by omega)] at hb;cases hb
   ·have hil:i < l.length:=by
     rcases Nat.lt_or_ge i l.length with h | h
     ·exact h
     ·rw [List.drop_of_length_le h] at hb;cases hb
    rw [ct hil] at h2
    rw [List.drop_eq_getElem_cons hil] at s2 hb
    rcases List.mem_cons.1 hb with rfl | hb
    ·omega
    ·have:=(List.pairwise_cons.1 s2).1 b hb;omega
  rw [List.pairwise_append,List.singleton_append,List.pairwise_cons]
  refine ⟨s1,⟨hb,s2⟩,fun a h3 b h4=> ?_⟩
  rcases List.mem_cons.1 h4 with rfl | h4
  ·exact ha a h3
  ·exact s3 a h3 b h4
section
variable {P:Program} {nt:Nat} {S:St} {t:Nat} {ty:TypeId} {ps:String} {af:Array Edge} {gd:Option (Nat×Bool)} {x:Operand}
theorem b9 {T:TypeId} {n:Nm} {len l h m:Nat} {c:Ch} {lo hi:Option Operand} (hm:l + m=h) (ht:Nat.blt t nt=true) (hx:S.op x=some (o1 (.sl n 0 len))) (hc:S.ch n=some c) (hk:c.k=1) (hT:ir P T 1=true)
  (hlo:qw S lo 0 l) (hhi:qw S hi len h) (hhl:h≤len) (hl:len≤c.d.len):bN P nt ⟨some t, .slice T x lo hi none,ty,ps,af,gd⟩ S (S.put t (o1 (.sl n l m))):=by
 have:=s7 (P:=P) (nt:=nt) (ty:=ty) (ps:=ps) (af:=af) (gd:=gd) (k:=1) ht hx hc hk hT (by omega) hlo hhi (by omega) hhl (by omega)
 rwa [Nat.zero_add,show h - l=m by omega] at this
end
set_option maxRecDepth 100000 in
set_option maxHeartbeats 4000000 in
theorem wY (zs:List Int) (L mask:Nat) (hL:zs.length=L) (hd:bz zs=true) (hmk:mask < 1000) (hf:dC zs mask=true):
  FC Tryz.prog 67 [(1003,cf zs)] [o1 (.sl 1003 0 L),vv (I6 mask)] [(2300,bI (gA zs mask))] (o1 (.sl 2300 0 (eB (comps zs mask) (comps zs mask).length).length)) []:=by
 have h4:L≤4:=by have:=bE hd;omega
 have hC:=(pz zs L mask hL h4 hmk).nm [(1003,1003),(8,14)] (by kernel_rfl)
 have hC:FC Tryz.prog 115 [(1003,cf zs)] [o1 (.sl 1003 0 L),vv (I6 mask)] [(14,hZ (comps zs mask))] (o1 (.sl 14 0 (comps zs mask).length)) []:=hC
 have hlab:∀k,k < (comps zs mask).length→gY (cx (comps zs mask) k).2:=fun k hk=>ga hd hk
 have hcs:fj (comps zs mask)≤5:=by have:=(fu zs mask).sum;omega
 have hnp:(comps zs mask).length≤5:=by have:=fq (comps zs mask);omega
 have hfa:=(gI (ps:=comps zs mask) (comps zs mask).length (Nat.le_refl _)).1 (by simpa [dC] using hf)
 have hcl:∀j,j≤(comps zs mask).length→(eB (comps zs mask) j).length≤5:=fun j hj=>Nat.le_trans (iq hlab j hj) (Nat.le_trans (iM _ _) hcs)
 unfold gA
 refine a5 (nt:=67) Tryz.func67 rfl rfl (by simp) fun w0 ω0=> ?_
 generalize comps zs mask=ps at *
 generalize hN:ps.length=N at *
 have hrx:=iQ ps
 rw [hN] at hrx
 (refine aj ?_;refine ag ?_;apply ae rfl;(exact ai rfl rfl);refine aq ?_;refine an ?_;refine aj ?_;refine ag ?_;apply ae rfl;(exact ah rfl rfl);apply ae rfl;(exact ah rfl rfl);apply ae rfl;(apply ar 115;exact bl hC (by as_aux_lemma=>kernel_rfl) rfl rfl ⟨rfl,rfl,trivial⟩ ⟨⟨_,rfl, .inl rfl⟩,trivial⟩ rfl rfl rfl);apply ae rfl;(exact dr (E:=2) (k:=1) rfl (by as_aux_lemma=>kernel_rfl));apply ae rfl;(exact ai rfl rfl);apply ae rfl;(exact ai rfl rfl);refine aq ?_;refine an ?_;refine aj ?_;refine aj ?_;refine ag ?_;apply ae rfl;(exact ai rfl rfl);refine aq ?_;refine an ?_;refine aD ?_)
 refine bx (fun j:Nat=>St.of [(5,o1 (.sl 14 0 N)),(6,o1 (.sl 2300 0 (eB ps j).length)),(7,vv (I6 j))] [(14,hZ ps),(2300,bI (bS (eB ps j)))]) (fun j=>j≤N) (fun j=>N - j) 0 (Nat.zero_le _) (Wk.trans (mr (x:=15) (y:=2300) (s:=6) (m:=0) rfl rfl) (Wk.of ⟨rfl,rfl,rfl,trivial⟩ ⟨rfl,congrArg (fun z=>some (bI z)) (show []=bS (eB ps 0) by simp [eB,bS]),trivial⟩ trivial)) ?_
 rintro j hj
 (refine aj ?_;refine aj ?_;refine ag ?_;apply ae rfl;(exact ah rfl rfl);apply ae rfl;(exact ah rfl rfl);apply ae rfl;(exact br rfl rfl rfl (by as_aux_lemma=>kernel_rfl));apply ae rfl;(exact aB rfl rfl rfl rfl);refine aq ?_;refine an ?_)
 refine bM rfl (fun hlt=> ?_) (fun hlt=> ?_)
 ·have hjN:j < N:=by omega
  have hjp:j < ps.length:=by omega
  have hL:=hlab j hjN
  have hne:=hfa j hjN
  have hcat:=gy hjp
  have hc5:=hcl (j + 1) (by omega)
  have hrj:=jv hjp
  have hrg:=kG hjp
  have hjr:j < (dB ps).length:=by omega
  have hix:N≤(cM (dB ps)).length:=by rw [eu,hrx];exact Nat.le_refl _
  generalize (cx ps j).2=labs at *
  have hm4:=hL.1
  have hlm:(aH labs).length=labs.length:=aO _
  rcases rZ (dB ps) j labs.length labs hjr hrg rfl hm4 with ⟨hnil,_⟩ | hD
  ·exact absurd (by rw [hnil];rfl) hne
  have hD:=hD.nm [(1000,14),(2100,26)] (by kernel_rfl)
  have hD:FC Tryz.prog 116 [(14,bu (dB ps))] [o1 (.esl 14 j 0 labs.length)] [(26,bI (cO labs))] (o1 (.sl 26 0 (cO labs).length)) []:=hD
  rw [hcat,List.length_append] at hc5
  generalize hA:eB ps j=A at *
  generalize hM:cO labs=ds at *
  (refine aG ?_;refine an ?_;refine aj ?_;refine aD ?_;refine aj ?_;refine ag ?_;apply ae rfl;(exact ah rfl rfl);apply ae rfl;(exact ah rfl rfl);apply ae rfl;(first | exact aS (j:=j) rfl rfl rfl rfl rfl (by as_aux_lemma=>kernel_rfl) rfl hjN hix | exact cE rfl (by as_aux_lemma=>kernel_rfl) rfl rfl rfl hrj hlm | (apply ar 116;exact bl hD (by as_aux_lemma=>kernel_rfl) rfl rfl ⟨rfl,trivial⟩ ⟨⟨_,rfl, .inr rfl⟩,trivial⟩ rfl rfl rfl));apply ae rfl;(first | exact aS (j:=j) rfl rfl rfl rfl rfl (by as_aux_lemma=>kernel_rfl) rfl hjN hix | exact cE rfl (by as_aux_lemma=>kernel_rfl) rfl rfl rfl hrj hlm | (apply ar 116;exact bl hD (by as_aux_lemma=>kernel_rfl) rfl rfl ⟨rfl,trivial⟩ ⟨⟨_,rfl, .inr rfl⟩,trivial⟩ rfl rfl rfl));apply ae rfl;(first | exact aS (j:=j) rfl rfl rfl rfl rfl (by as_aux_lemma=>kernel_rfl) rfl hjN hix | exact cE rfl (by as_aux_lemma=>kernel_rfl) rfl rfl rfl hrj hlm | (apply ar 116;exact bl hD (by as_aux_lemma=>kernel_rfl) rfl rfl ⟨rfl,trivial⟩ ⟨⟨_,rfl, .inr rfl⟩,trivial⟩ rfl rfl rfl));apply ae rfl;(exact ai rfl rfl);refine aq ?_;refine an ?_;refine aj ?_;refine ag ?_;apply ae rfl;(exact ai rfl rfl);refine aq ?_;refine an ?_;refine aD ?_)
  refine bx (fun k:Nat=>St.of [(5,o1 (.sl 14 0 N)),(6,o1 (.sl 2300 0 (A.length + k))),(7,vv (I6 j)),(8,o1 (.sl 26 0 ds.length)),(9,vv (I6 k))] [(14,hZ ps),(2300,bI (bS (A ++ ds.take k))),(26,bI ds)]) (fun k=>k≤ds.length) (fun k=>ds.length - k) 0 (Nat.zero_le _) (Wk.of ⟨rfl,rfl,rfl,rfl,rfl,trivial⟩ ⟨rfl,congrArg (fun z=>some (bI (bS z))) (by rw [List.take_zero,List.append_nil]),rfl,trivial⟩ trivial) ?_
  rintro k hk
  (refine aj ?_;refine aj ?_;refine ag ?_;apply ae rfl;(exact ah rfl rfl);apply ae rfl;(exact ah rfl rfl);apply ae rfl;(exact br rfl rfl rfl (by as_aux_lemma=>kernel_rfl));apply ae rfl;(exact aB rfl rfl rfl rfl);refine aq ?_;refine an ?_)
  refine bM rfl (fun hlt=> ?_) (fun hlt=> ?_)
  ·have hkm:k < ds.length:=by omega
   have hln:(bS (A ++ ds.take k)).length=A.length + k:=by rw [kO,List.length_append,List.length_take];omega
   have hol:A.length + k≤(aH (bS (A ++ ds.take k))).length:=by rw [aO,hln];exact Nat.le_refl _
   have hdl:ds.length≤(aH ds).length:=by rw [aO];exact Nat.le_refl _
   have hg2:(aH ds)[k]? =some (I6 (aC ds k)):=aR hkm
   (refine aG ?_;refine an ?_;refine aj ?_;refine aD ?_;refine aj ?_;refine ag ?_;apply ae rfl;(exact ai rfl rfl);refine aq ?_;refine an ?_;refine aj ?_;refine aD ?_)
   refine bx (fun i:Nat=>St.of [(5,o1 (.sl 14 0 N)),(6,o1 (.sl 2300 0 (A.length + k))),(7,vv (I6 j)),(8,o1 (.sl 26 0 ds.length)),(9,vv (I6 k)),(10,vv (I6 i))] [(14,hZ ps),(2300,bI (bS (A ++ ds.take k))),(26,bI ds)]) (fun i=>i≤A.length + k∧∀x,x < i→aC (bS (A ++ ds.take k)) x≤aC ds k) (fun i=>A.length + k - i) 0 ⟨Nat.zero_le _,fun x hx=>absurd hx (by omega)⟩ (Wk.of ⟨rfl,rfl,rfl,rfl,rfl,rfl,trivial⟩ ⟨rfl,rfl,rfl,trivial⟩ trivial) ?_
   rintro at_ ⟨hat,hall⟩
   have hstop:(at_=A.length + k∨aC ds k < aC (bS (A ++ ds.take k)) at_)→(bS (A ++ ds.take k)).take at_ ++ ([aC ds k] ++ (bS (A ++ ds.take k)).drop at_)=bS (A ++ ds.take (k + 1)):=fun h=>by
    rw [xT (by rw [hln];exact hat) hall (by rw [hln];exact h),List.append_assoc,List.take_add_one,List.getElem?_eq_getElem hkm,ct hkm];rfl
   by_cases hatl:at_ < A.length + k
   ·have hb1:df .i64 .lss (at_:Int) ((A.length + k:Nat):Int)=some (.bool true):=by simp [df];omega
    have hg1:(aH (bS (A ++ ds.take k)))[at_]? =some (I6 (aC (bS (A ++ ds.take k)) at_)):=aR (by omega)
    by_cases hle:aC (bS (A ++ ds.take k)) at_≤aC ds k
    ·have hb2:df .i64 .leq (aC (bS (A ++ ds.take k)) at_) (aC ds k)=some (.bool true):=by simp [df];exact hle
     (refine aj ?_;refine aj ?_)
     apply jq 15 [] [[], [], [1], [0,1,2], [0,1,2,3], [0,1,2,3,4], [0,1,2,3,4], [0,1,2,3,4,5,6], [0,1,2,3,4,5,6,7], [0,1,2,3,4], [0,1,2,3,4], [0,1,2,3,4,9,10], [0,1,2,3,4,9,10,11], [0,1,2,3,4,5,6,7,8,9,10,11,12], [0,1,2,3,4,5,6,7,8,9,10,11,12,13]] [33,34,35,36,37,38,39,40,41,42,43,44,45,46,47] [] (by kernel_rfl) (by kernel_rfl)
     ·(apply cL rfl;(intro S1 hS;exact ah rfl (hS.op rfl)))
      (apply cL rfl;(intro S1 hS;exact ah rfl (hS.op rfl)))
      (apply cL rfl;(intro S1 hS;exact br rfl (hS.op rfl) rfl (by as_aux_lemma=>kernel_rfl)))
      (apply cL rfl;(intro S1 hS;exact aB rfl (hS.op rfl) (hS.op rfl) hb1))
      (apply cL rfl;(intro S1 hS;exact ah rfl (hS.op rfl)))
      (apply cI rfl rfl rfl;(intro S1 hS;exact ah rfl (hS.op rfl)))
      (apply cI rfl rfl rfl;(intro S1 hS;exact ah rfl (hS.op rfl)))
      (apply cI rfl rfl rfl;(intro S1 hS;exact aS (j:=at_) rfl (hS.op rfl) (hS.op rfl) (hS.ch _ _ rfl) rfl (by as_aux_lemma=>kernel_rfl) rfl hatl hol))
      (apply cI rfl rfl rfl;(intro S1 hS;exact aV rfl (by as_aux_lemma=>kernel_rfl) (hS.op rfl) (hS.ch _ _ rfl) rfl hg1))
      (apply cI rfl rfl rfl;(intro S1 hS;exact ah rfl (hS.op rfl)))
      (apply cI rfl rfl rfl;(intro S1 hS;exact ah rfl (hS.op rfl)))
      (apply cI rfl rfl rfl;(intro S1 hS;exact aS (j:=k) rfl (hS.op rfl) (hS.op rfl) (hS.ch _ _ rfl) rfl (by as_aux_lemma=>kernel_rfl) rfl hkm hdl))
      (apply cI rfl rfl rfl;(intro S1 hS;exact aV rfl (by as_aux_lemma=>kernel_rfl) (hS.op rfl) (hS.ch _ _ rfl) rfl hg2))
      (apply cI rfl rfl rfl;(intro S1 hS;exact aB rfl (hS.op rfl) (hS.op rfl) hb2))
      (apply cL rfl;(intro S1 hS;exact aY rfl (hS.op rfl) (hS.op rfl)))
      exact fh.nil
     ·rfl
     ((refine bF (by as_aux_lemma=>kernel_rfl) ?_;skip))
     (refine an ?_)
     refine ax rfl (fun _=> ?_) (fun e=>by cases e)
     (refine aG ?_;refine an ?_;refine aD ?_;refine ag ?_;apply ae rfl;(exact ah rfl rfl);apply ae rfl;(exact aJ rfl rfl rfl (by first | exact IntWalk.i64_in _ (by omega) | rfl));apply ae rfl;(exact ai rfl rfl);refine aq ?_;refine aI ?_)
     exact aX (at_ + 1) ⟨hatl,fun x hx=>by
      rcases Nat.lt_succ_iff_lt_or_eq.1 hx with h | rfl
      ·exact hall x h
      ·exact hle⟩ (by omega) (Wk.of ⟨rfl,rfl,rfl,rfl,rfl,rfl,trivial⟩ ⟨rfl,rfl,rfl,trivial⟩ trivial)
    ·have hb2:df .i64 .leq (aC (bS (A ++ ds.take k)) at_) (aC ds k)=some (.bool false):=by simp [df];omega
     have hins:=hstop (.inr (by omega))
     (refine aj ?_;refine aj ?_)
     apply jq 15 [] [[], [], [1], [0,1,2], [0,1,2,3], [0,1,2,3,4], [0,1,2,3,4], [0,1,2,3,4,5,6], [0,1,2,3,4,5,6,7], [0,1,2,3,4], [0,1,2,3,4], [0,1,2,3,4,9,10], [0,1,2,3,4,9,10,11], [0,1,2,3,4,5,6,7,8,9,10,11,12], [0,1,2,3,4,5,6,7,8,9,10,11,12,13]] [33,34,35,36,37,38,39,40,41,42,43,44,45,46,47] [] (by kernel_rfl) (by kernel_rfl)
     ·(apply cL rfl;(intro S1 hS;exact ah rfl (hS.op rfl)))
      (apply cL rfl;(intro S1 hS;exact ah rfl (hS.op rfl)))
      (apply cL rfl;(intro S1 hS;exact br rfl (hS.op rfl) rfl (by as_aux_lemma=>kernel_rfl)))
      (apply cL rfl;(intro S1 hS;exact aB rfl (hS.op rfl) (hS.op rfl) hb1))
      (apply cL rfl;(intro S1 hS;exact ah rfl (hS.op rfl)))
      (apply cI rfl rfl rfl;(intro S1 hS;exact ah rfl (hS.op rfl)))
      (apply cI rfl rfl rfl;(intro S1 hS;exact ah rfl (hS.op rfl)))
      (apply cI rfl rfl rfl;(intro S1 hS;exact aS (j:=at_) rfl (hS.op rfl) (hS.op rfl) (hS.ch _ _ rfl) rfl (by as_aux_lemma=>kernel_rfl) rfl hatl hol))
      (apply cI rfl rfl rfl;(intro S1 hS;exact aV rfl (by as_aux_lemma=>kernel_rfl) (hS.op rfl) (hS.ch _ _ rfl) rfl hg1))
      (apply cI rfl rfl rfl;(intro S1 hS;exact ah rfl (hS.op rfl)))
      (apply cI rfl rfl rfl;(intro S1 hS;exact ah rfl (hS.op rfl)))
      (apply cI rfl rfl rfl;(intro S1 hS;exact aS (j:=k) rfl (hS.op rfl) (hS.op rfl) (hS.ch _ _ rfl) rfl (by as_aux_lemma=>kernel_rfl) rfl hkm hdl))
      (apply cI rfl rfl rfl;(intro S1 hS;exact aV rfl (by as_aux_lemma=>kernel_rfl) (hS.op rfl) (hS.ch _ _ rfl) rfl hg2))
      (apply cI rfl rfl rfl;(intro S1 hS;exact aB rfl (hS.op rfl) (hS.op rfl) hb2))
      (apply cL rfl;(intro S1 hS;exact aY rfl (hS.op rfl) (hS.op rfl)))
      exact fh.nil
     ·rfl
     ((refine bF (by as_aux_lemma=>kernel_rfl) ?_;skip))
     (refine an ?_)
     refine ax rfl (fun e=>by cases e) (fun _=> ?_)
     obtain ⟨m,hm⟩:∃m,at_ + m=A.length + k:=⟨A.length + k - at_,by omega⟩
     have hm0:0 < m:=by omega
     have hdm:at_ + m=(bS (A ++ ds.take k)).length:=by rw [hln];exact hm
     have hat2:at_≤(bS (A ++ ds.take k)).length:=by omega
     refine rO (S':=St.of [(5,o1 (.sl 14 0 N)),(6,o1 (.sl 2300 0 (A.length + k))),(7,vv (I6 j)),(8,o1 (.sl 26 0 ds.length)),(9,vv (I6 k)),(10,vv (I6 at_))] [(14,hZ ps),(2300,bI (bS (A ++ ds.take k))),(26,bI ds)]) (Wk.of ⟨rfl,rfl,rfl,rfl,rfl,rfl,trivial⟩ ⟨rfl,rfl,rfl,trivial⟩ trivial) ?_
     (refine a6 ?_;refine aE ?_;refine aE ?_;refine aP ?_;refine an ?_;refine aj ?_)
     apply dK 8 [] [[], [], [0,1], [0,1,2], [0,1,2,3], [], [], [5,6], [0,1,2,3,4,5,6,7], [0,1,2,3,4,5,6,7,8]] [50,51,52,53,54,55,56,57] [54] (by kernel_rfl) (by kernel_rfl)
     ·(apply aF rfl;(focus (intro S1 hS;exact ah rfl (hS.op rfl))))
      (apply aF rfl;(focus (intro S1 hS;exact ah rfl (hS.op rfl))))
      (apply aF rfl;(focus (intro S1 hS;exact aS (j:=k) rfl (hS.op rfl) (hS.op rfl) (hS.ch _ _ rfl) rfl (by as_aux_lemma=>kernel_rfl) rfl hkm hdl)))
      (apply aF rfl;(focus (intro S1 hS;exact aV rfl (by as_aux_lemma=>kernel_rfl) (hS.op rfl) (hS.ch _ _ rfl) rfl hg2)))
      (apply gE rfl;(focus (intro S1 hS;exact cJ (E:=2) rfl (by as_aux_lemma=>kernel_rfl) (hS.op rfl))))
      (apply aF rfl;(focus (intro S1 hS;exact ah rfl (hS.op rfl))))
      (apply aF rfl;(focus (intro S1 hS;exact ah rfl (hS.op rfl))))
      (apply aF rfl;(focus (intro S1 hS;exact b9 (l:=at_) (m:=m) hm rfl (hS.op rfl) (hS.ch _ _ rfl) rfl (by as_aux_lemma=>kernel_rfl) (c6 (hS.op rfl) rfl) cQ (Nat.le_refl _) hol)))
      exact eR.nil
     ·rfl
     refine cK (St.of [(5,o1 (.sl 14 0 N)),(6,o1 (.sl 2300 0 (A.length + k))),(7,vv (I6 j)),(8,o1 (.sl 26 0 ds.length)),(9,vv (I6 k)),(10,vv (I6 at_)),(11,o1 (.sl 54 0 (1 + m)))] [(14,hZ ps),(2300,bI (bS (A ++ ds.take k))),(26,bI ds),(54,bI ([aC ds k] ++ (bS (A ++ ds.take k)).drop at_))]) ?_ ?_
     ·((apply aZ 8 rfl (by as_aux_lemma=>kernel_rfl) rfl rfl;(exact bZ (E:=2) (zs:= [aC ds k]) (m:=m) rfl (by as_aux_lemma=>kernel_rfl) rfl rfl rfl rfl rfl (pP rfl rfl rfl hdm) hm0 (by omega)));(apply aZ 9 rfl (by as_aux_lemma=>kernel_rfl) rfl rfl;(exact ai rfl rfl));(refine bF (by as_aux_lemma=>kernel_rfl) ?_;exact aU (Wk.of ⟨rfl,rfl,rfl,rfl,rfl,rfl,rfl,trivial⟩ ⟨rfl,rfl,rfl,rfl,trivial⟩ trivial)))
     have hrl:(aH ([aC ds k] ++ (bS (A ++ ds.take k)).drop at_)).length=1 + m:=by rw [aO,List.length_append,List.length_drop];simp;omega
     rcases Nat.eq_zero_or_pos at_ with h0 | h0
     ·have hs0:∀ {S:St} {o:Operand},S.op o=some (vv (I6 at_))→qw S (some o) (A.length + k) 0:=fun h=>c6 h (by omega)
      rw [h0] at hins
      (refine an ?_;refine ag ?_;apply ae rfl;(exact dr (E:=2) (k:=1) rfl (by as_aux_lemma=>kernel_rfl));apply ae rfl;(exact ah rfl rfl);apply ae rfl;(exact ah rfl rfl);apply ae rfl;(first | exact b9 (l:=0) (h:=0) (m:=0) rfl rfl rfl rfl rfl (by as_aux_lemma=>kernel_rfl) cQ (hs0 rfl) (Nat.zero_le _) hol | exact fP (zs:= []) rfl (by as_aux_lemma=>kernel_rfl) rfl rfl rfl rfl rfl | exact bZ (E:=2) (zs:= []) (m:=1 + m) rfl (by as_aux_lemma=>kernel_rfl) rfl rfl rfl rfl rfl (cm rfl rfl rfl hrl) (by omega) (by omega));apply ae rfl;(first | exact b9 (l:=0) (h:=0) (m:=0) rfl rfl rfl rfl rfl (by as_aux_lemma=>kernel_rfl) cQ (hs0 rfl) (Nat.zero_le _) hol | exact fP (zs:= []) rfl (by as_aux_lemma=>kernel_rfl) rfl rfl rfl rfl rfl | exact bZ (E:=2) (zs:= []) (m:=1 + m) rfl (by as_aux_lemma=>kernel_rfl) rfl rfl rfl rfl rfl (cm rfl rfl rfl hrl) (by omega) (by omega));apply ae rfl;(exact ah rfl rfl);apply ae rfl;(first | exact b9 (l:=0) (h:=0) (m:=0) rfl rfl rfl rfl rfl (by as_aux_lemma=>kernel_rfl) cQ (hs0 rfl) (Nat.zero_le _) hol | exact fP (zs:= []) rfl (by as_aux_lemma=>kernel_rfl) rfl rfl rfl rfl rfl | exact bZ (E:=2) (zs:= []) (m:=1 + m) rfl (by as_aux_lemma=>kernel_rfl) rfl rfl rfl rfl rfl (cm rfl rfl rfl hrl) (by omega) (by omega));apply ae rfl;(exact ai rfl rfl);refine aq ?_;refine aI ?_;refine an ?_;refine ag ?_;apply ae rfl;(exact ah rfl rfl);apply ae rfl;(exact aJ rfl rfl rfl (by first | exact IntWalk.i64_in _ (by omega) | rfl));apply ae rfl;(exact ai rfl rfl);refine aq ?_)
      exact aX (k + 1) (by omega) (by omega) (Wk.trans (mr (x:=59) (y:=2300) (s:=6) rfl rfl) (Wk.of ⟨rfl,congrArg (fun z:Nat=>some (o1 (.sl 2300 0 z))) (show 0 + (1 + m)=A.length + (k + 1) by omega),rfl,rfl,rfl,trivial⟩ ⟨rfl,congrArg (fun z=>some (bI z)) (show [] ++ ([aC ds k] ++ (bS (A ++ ds.take k)).drop at_)=_ by rw [List.nil_append,←hins,List.take_zero,List.nil_append,h0]),rfl,trivial⟩ trivial))
     ·have hz:(0:Nat) + at_=at_:=Nat.zero_add _
      have htl:([] ++ (bS (A ++ ds.take k)).take at_).length=0 + at_:=by rw [List.nil_append,List.length_take];omega
      (refine an ?_;refine ag ?_;apply ae rfl;(exact dr (E:=2) (k:=1) rfl (by as_aux_lemma=>kernel_rfl));apply ae rfl;(exact ah rfl rfl);apply ae rfl;(exact ah rfl rfl);apply ae rfl;(first | exact b9 (l:=0) (h:=at_) (m:=at_) hz rfl rfl rfl rfl (by as_aux_lemma=>kernel_rfl) cQ (c6 rfl rfl) (by omega) hol | exact bZ (E:=2) (zs:= []) (m:=at_) rfl (by as_aux_lemma=>kernel_rfl) rfl rfl rfl rfl rfl (eW rfl rfl rfl hat2) h0 (by omega) | exact bZ (E:=2) (zs:= [] ++ (bS (A ++ ds.take k)).take at_) (m:=1 + m) rfl (by as_aux_lemma=>kernel_rfl) rfl rfl rfl htl rfl (cm rfl rfl rfl hrl) (by omega) (by omega));apply ae rfl;(first | exact b9 (l:=0) (h:=at_) (m:=at_) hz rfl rfl rfl rfl (by as_aux_lemma=>kernel_rfl) cQ (c6 rfl rfl) (by omega) hol | exact bZ (E:=2) (zs:= []) (m:=at_) rfl (by as_aux_lemma=>kernel_rfl) rfl rfl rfl rfl rfl (eW rfl rfl rfl hat2) h0 (by omega) | exact bZ (E:=2) (zs:= [] ++ (bS (A ++ ds.take k)).take at_) (m:=1 + m) rfl (by as_aux_lemma=>kernel_rfl) rfl rfl rfl htl rfl (cm rfl rfl rfl hrl) (by omega) (by omega));apply ae rfl;(exact ah rfl rfl);apply ae rfl;(first | exact b9 (l:=0) (h:=at_) (m:=at_) hz rfl rfl rfl rfl (by as_aux_lemma=>kernel_rfl) cQ (c6 rfl rfl) (by omega) hol | exact bZ (E:=2) (zs:= []) (m:=at_) rfl (by as_aux_lemma=>kernel_rfl) rfl rfl rfl rfl rfl (eW rfl rfl rfl hat2) h0 (by omega) | exact bZ (E:=2) (zs:= [] ++ (bS (A ++ ds.take k)).take at_) (m:=1 + m) rfl (by as_aux_lemma=>kernel_rfl) rfl rfl rfl htl rfl (cm rfl rfl rfl hrl) (by omega) (by omega));apply ae rfl;(exact ai rfl rfl);refine aq ?_;refine aI ?_;refine an ?_;refine ag ?_;apply ae rfl;(exact ah rfl rfl);apply ae rfl;(exact aJ rfl rfl rfl (by first | exact IntWalk.i64_in _ (by omega) | rfl));apply ae rfl;(exact ai rfl rfl);refine aq ?_)
      exact aX (k + 1) (by omega) (by omega) (Wk.trans (mr (x:=59) (y:=2300) (s:=6) rfl rfl) (Wk.of ⟨rfl,congrArg (fun z:Nat=>some (o1 (.sl 2300 0 z))) (show 0 + at_ + (1 + m)=A.length + (k + 1) by omega),rfl,rfl,rfl,trivial⟩ ⟨rfl,congrArg (fun z=>some (bI z)) (show [] ++ (bS (A ++ ds.take k)).take at_ ++ ([aC ds k] ++ (bS (A ++ ds.take k)).drop at_)=_ by rw [List.nil_append];exact hins),rfl,trivial⟩ trivial))
   ·obtain rfl:at_=A.length + k:=by omega
    have hb1:df .i64 .lss ((A.length + k:Nat):Int) ((A.length + k:Nat):Int)=some (.bool false):=by simp [df]
    have hins:=hstop (.inl rfl)
    (refine aj ?_;refine aj ?_)
    apply jq 15 [] [[], [], [1], [0,1,2], [0,1,2,3], [0,1,2,3,4], [0,1,2,3,4], [0,1,2,3,4,5,6], [0,1,2,3,4,5,6,7], [0,1,2,3,4], [0,1,2,3,4], [0,1,2,3,4,9,10], [0,1,2,3,4,9,10,11], [0,1,2,3,4,5,6,7,8,9,10,11,12], [0,1,2,3,4,5,6,7,8,9,10,11,12,13]] [33,34,35,36,37,38,39,40,41,42,43,44,45,46,47] [] (by kernel_rfl) (by kernel_rfl)
    ·(apply cL rfl;(intro S1 hS;exact ah rfl (hS.op rfl)))
     (apply cL rfl;(intro S1 hS;exact ah rfl (hS.op rfl)))
     (apply cL rfl;(intro S1 hS;exact br rfl (hS.op rfl) rfl (by as_aux_lemma=>kernel_rfl)))
     (apply cL rfl;(intro S1 hS;exact aB rfl (hS.op rfl) (hS.op rfl) hb1))
     (apply cL rfl;(intro S1 hS;exact ah rfl (hS.op rfl)))
     apply eZ rfl rfl rfl rfl rfl
     apply eZ rfl rfl rfl rfl rfl
     apply eZ rfl rfl rfl rfl rfl
     apply eZ rfl rfl rfl rfl rfl
     apply eZ rfl rfl rfl rfl rfl
     apply eZ rfl rfl rfl rfl rfl
     apply eZ rfl rfl rfl rfl rfl
     apply eZ rfl rfl rfl rfl rfl
     apply eZ rfl rfl rfl rfl rfl
     (apply cL rfl;(intro S1 hS;exact a7 rfl (hS.op rfl) (hS.op rfl)))
     exact fh.nil
    ·rfl
    ((refine bF (by as_aux_lemma=>kernel_rfl) ?_;skip))
    (refine an ?_)
    refine ax rfl (fun e=>by cases e) (fun _=> ?_)
    have hm:(A.length + k) + 0=A.length + k:=rfl
    have hdm:(A.length + k) + 0=(bS (A ++ ds.take k)).length:=by rw [hln];exact hm
    have hat2:(A.length + k)≤(bS (A ++ ds.take k)).length:=by omega
    refine rO (S':=St.of [(5,o1 (.sl 14 0 N)),(6,o1 (.sl 2300 0 (A.length + k))),(7,vv (I6 j)),(8,o1 (.sl 26 0 ds.length)),(9,vv (I6 k)),(10,vv (I6 (A.length + k)))] [(14,hZ ps),(2300,bI (bS (A ++ ds.take k))),(26,bI ds)]) (Wk.of ⟨rfl,rfl,rfl,rfl,rfl,rfl,trivial⟩ ⟨rfl,rfl,rfl,trivial⟩ trivial) ?_
    (refine a6 ?_;refine aE ?_;refine aE ?_;refine aP ?_;refine an ?_;refine aj ?_)
    apply dK 8 [] [[], [], [0,1], [0,1,2], [0,1,2,3], [], [], [5,6], [0,1,2,3,4,5,6,7], [0,1,2,3,4,5,6,7,8]] [50,51,52,53,54,55,56,57] [54] (by kernel_rfl) (by kernel_rfl)
    ·(apply aF rfl;(focus (intro S1 hS;exact ah rfl (hS.op rfl))))
     (apply aF rfl;(focus (intro S1 hS;exact ah rfl (hS.op rfl))))
     (apply aF rfl;(focus (intro S1 hS;exact aS (j:=k) rfl (hS.op rfl) (hS.op rfl) (hS.ch _ _ rfl) rfl (by as_aux_lemma=>kernel_rfl) rfl hkm hdl)))
     (apply aF rfl;(focus (intro S1 hS;exact aV rfl (by as_aux_lemma=>kernel_rfl) (hS.op rfl) (hS.ch _ _ rfl) rfl hg2)))
     (apply gE rfl;(focus (intro S1 hS;exact cJ (E:=2) rfl (by as_aux_lemma=>kernel_rfl) (hS.op rfl))))
     (apply aF rfl;(focus (intro S1 hS;exact ah rfl (hS.op rfl))))
     (apply aF rfl;(focus (intro S1 hS;exact ah rfl (hS.op rfl))))
     (apply aF rfl;(focus (intro S1 hS;exact b9 (l:=(A.length + k)) (m:=0) hm rfl (hS.op rfl) (hS.ch _ _ rfl) rfl (by as_aux_lemma=>kernel_rfl) (c6 (hS.op rfl) rfl) cQ (Nat.le_refl _) hol)))
     exact eR.nil
    ·rfl
    refine cK (St.of [(5,o1 (.sl 14 0 N)),(6,o1 (.sl 2300 0 (A.length + k))),(7,vv (I6 j)),(8,o1 (.sl 26 0 ds.length)),(9,vv (I6 k)),(10,vv (I6 (A.length + k))),(11,o1 (.sl 54 0 (1 + 0)))] [(14,hZ ps),(2300,bI (bS (A ++ ds.take k))),(26,bI ds),(54,bI ([aC ds k] ++ (bS (A ++ ds.take k)).drop (A.length + k)))]) ?_ ?_
    ·((apply aZ 8 rfl (by as_aux_lemma=>kernel_rfl) rfl rfl;(exact fP (zs:= [aC ds k]) rfl (by as_aux_lemma=>kernel_rfl) rfl rfl rfl rfl rfl));(apply aZ 9 rfl (by as_aux_lemma=>kernel_rfl) rfl rfl;(exact ai rfl rfl));(refine bF (by as_aux_lemma=>kernel_rfl) ?_;exact aU (Wk.of ⟨rfl,rfl,rfl,rfl,rfl,rfl,rfl,trivial⟩ ⟨rfl,rfl,rfl,congrArg (fun z=>some (bI ([aC ds k] ++ z))) (List.drop_of_length_le (Nat.le_of_eq hln)).symm,trivial⟩ trivial)))
    have hrl:(aH ([aC ds k] ++ (bS (A ++ ds.take k)).drop (A.length + k))).length=1 + 0:=by rw [aO,List.length_append,List.length_drop];simp;omega
    rcases Nat.eq_zero_or_pos (A.length + k) with h0 | h0
    ·have hs0:∀ {S:St} {o:Operand},S.op o=some (vv (I6 (A.length + k)))→qw S (some o) (A.length + k) 0:=fun h=>c6 h (by omega)
     rw [h0] at hins
     (refine an ?_;refine ag ?_;apply ae rfl;(exact dr (E:=2) (k:=1) rfl (by as_aux_lemma=>kernel_rfl));apply ae rfl;(exact ah rfl rfl);apply ae rfl;(exact ah rfl rfl);apply ae rfl;(first | exact b9 (l:=0) (h:=0) (m:=0) rfl rfl rfl rfl rfl (by as_aux_lemma=>kernel_rfl) cQ (hs0 rfl) (Nat.zero_le _) hol | exact fP (zs:= []) rfl (by as_aux_lemma=>kernel_rfl) rfl rfl rfl rfl rfl | exact bZ (E:=2) (zs:= []) (m:=1 + 0) rfl (by as_aux_lemma=>kernel_rfl) rfl rfl rfl rfl rfl (cm rfl rfl rfl hrl) (by omega) (by omega));apply ae rfl;(first | exact b9 (l:=0) (h:=0) (m:=0) rfl rfl rfl rfl rfl (by as_aux_lemma=>kernel_rfl) cQ (hs0 rfl) (Nat.zero_le _) hol | exact fP (zs:= []) rfl (by as_aux_lemma=>kernel_rfl) rfl rfl rfl rfl rfl | exact bZ (E:=2) (zs:= []) (m:=1 + 0) rfl (by as_aux_lemma=>kernel_rfl) rfl rfl rfl rfl rfl (cm rfl rfl rfl hrl) (by omega) (by omega));apply ae rfl;(exact ah rfl rfl);apply ae rfl;(first | exact b9 (l:=0) (h:=0) (m:=0) rfl rfl rfl rfl rfl (by as_aux_lemma=>kernel_rfl) cQ (hs0 rfl) (Nat.zero_le _) hol | exact fP (zs:= []) rfl (by as_aux_lemma=>kernel_rfl) rfl rfl rfl rfl rfl | exact bZ (E:=2) (zs:= []) (m:=1 + 0) rfl (by as_aux_lemma=>kernel_rfl) rfl rfl rfl rfl rfl (cm rfl rfl rfl hrl) (by omega) (by omega));apply ae rfl;(exact ai rfl rfl);refine aq ?_;refine aI ?_;refine an ?_;refine ag ?_;apply ae rfl;(exact ah rfl rfl);apply ae rfl;(exact aJ rfl rfl rfl (by first | exact IntWalk.i64_in _ (by omega) | rfl));apply ae rfl;(exact ai rfl rfl);refine aq ?_)
     exact aX (k + 1) (by omega) (by omega) (Wk.trans (mr (x:=59) (y:=2300) (s:=6) rfl rfl) (Wk.of ⟨rfl,congrArg (fun z:Nat=>some (o1 (.sl 2300 0 z))) (show 0 + (1 + 0)=A.length + (k + 1) by omega),rfl,rfl,rfl,trivial⟩ ⟨rfl,congrArg (fun z=>some (bI z)) (show [] ++ ([aC ds k] ++ (bS (A ++ ds.take k)).drop (A.length + k))=_ by rw [List.nil_append,←hins,List.take_zero,List.nil_append,h0]),rfl,trivial⟩ trivial))
    ·have hz:(0:Nat) + (A.length + k)=(A.length + k):=Nat.zero_add _
     have htl:([] ++ (bS (A ++ ds.take k)).take (A.length + k)).length=0 + (A.length + k):=by rw [List.nil_append,List.length_take];omega
     (refine an ?_;refine ag ?_;apply ae rfl;(exact dr (E:=2) (k:=1) rfl (by as_aux_lemma=>kernel_rfl));apply ae rfl;(exact ah rfl rfl);apply ae rfl;(exact ah rfl rfl);apply ae rfl;(first | exact b9 (l:=0) (h:=(A.length + k)) (m:=(A.length + k)) hz rfl rfl rfl rfl (by as_aux_lemma=>kernel_rfl) cQ (c6 rfl rfl) (by omega) hol | exact bZ (E:=2) (zs:= []) (m:=(A.length + k)) rfl (by as_aux_lemma=>kernel_rfl) rfl rfl rfl rfl rfl (eW rfl rfl rfl hat2) h0 (by omega) | exact bZ (E:=2) (zs:= [] ++ (bS (A ++ ds.take k)).take (A.length + k)) (m:=1 + 0) rfl (by as_aux_lemma=>kernel_rfl) rfl rfl rfl htl rfl (cm rfl rfl rfl hrl) (by omega) (by omega));apply ae rfl;(first | exact b9 (l:=0) (h:=(A.length + k)) (m:=(A.length + k)) hz rfl rfl rfl rfl (by as_aux_lemma=>kernel_rfl) cQ (c6 rfl rfl) (by omega) hol | exact bZ (E:=2) (zs:= []) (m:=(A.length + k)) rfl (by as_aux_lemma=>kernel_rfl) rfl rfl rfl rfl rfl (eW rfl rfl rfl hat2) h0 (by omega) | exact bZ (E:=2) (zs:= [] ++ (bS (A ++ ds.take k)).take (A.length + k)) (m:=1 + 0) rfl (by as_aux_lemma=>kernel_rfl) rfl rfl rfl htl rfl (cm rfl rfl rfl hrl) (by omega) (by omega));apply ae rfl;(exact ah rfl rfl);apply ae rfl;(first | exact b9 (l:=0) (h:=(A.length + k)) (m:=(A.length + k)) hz rfl rfl rfl rfl (by as_aux_lemma=>kernel_rfl) cQ (c6 rfl rfl) (by omega) hol | exact bZ (E:=2) (zs:= []) (m:=(A.length + k)) rfl (by as_aux_lemma=>kernel_rfl) rfl rfl rfl rfl rfl (eW rfl rfl rfl hat2) h0 (by omega) | exact bZ (E:=2) (zs:= [] ++ (bS (A ++ ds.take k)).take (A.length + k)) (m:=1 + 0) rfl (by as_aux_lemma=>kernel_rfl) rfl rfl rfl htl rfl (cm rfl rfl rfl hrl) (by omega) (by omega));apply ae rfl;(exact ai rfl rfl);refine aq ?_;refine aI ?_;refine an ?_;refine ag ?_;apply ae rfl;(exact ah rfl rfl);apply ae rfl;(exact aJ rfl rfl rfl (by first | exact IntWalk.i64_in _ (by omega) | rfl));apply ae rfl;(exact ai rfl rfl);refine aq ?_)
     exact aX (k + 1) (by omega) (by omega) (Wk.trans (mr (x:=59) (y:=2300) (s:=6) rfl rfl) (Wk.of ⟨rfl,congrArg (fun z:Nat=>some (o1 (.sl 2300 0 z))) (show 0 + (A.length + k) + (1 + 0)=A.length + (k + 1) by omega),rfl,rfl,rfl,trivial⟩ ⟨rfl,congrArg (fun z=>some (bI z)) (show [] ++ (bS (A ++ ds.take k)).take (A.length + k) ++ ([aC ds k] ++ (bS (A ++ ds.take k)).drop (A.length + k))=_ by rw [List.nil_append];exact hins),rfl,trivial⟩ trivial))
  ·obtain rfl:k=ds.length:=by omega
   (refine a6 ?_;refine aE ?_;refine aE ?_;refine aP ?_;refine aI ?_;refine an ?_;refine ag ?_;apply ae rfl;(exact ah rfl rfl);apply ae rfl;(exact aJ rfl rfl rfl (by first | exact IntWalk.i64_in _ (by omega) | rfl));apply ae rfl;(exact ai rfl rfl);refine aq ?_)
   exact aX (j + 1) (by omega) (by omega) (Wk.of ⟨rfl,congrArg (fun z:Nat=>some (o1 (.sl 2300 0 z))) (by rw [hcat,List.length_append]),rfl,trivial⟩ ⟨rfl,congrArg (fun z=>some (bI (bS z))) (by rw [hcat,List.take_length]),trivial⟩ trivial)
 ·obtain rfl:j=N:=by omega
  (refine a6 ?_;refine aE ?_;refine aE ?_;refine aP ?_;refine an ?_;refine aj ?_;refine ag ?_;apply ae rfl;(exact ah rfl rfl);apply ae rfl;(exact ai rfl rfl);refine aq ?_;refine an ?_;refine aK ?_)
  exact aW (.inl rfl) rfl (.tmp rfl) ⟨rfl,trivial⟩ trivial
end Go.Proofs.YtekbhbcgoadciaaGreat
namespace Go.Proofs.YtekbhbcgoadciaaGreat
open Go.RowKit
theorem yC {η:Env} {a:AV} {u:Value} (h:Den η a u):fz η [a] [u]:=⟨rfl,fun j av hj=>by
 match j,hj with
 | 0,hj=>simp at hj;subst hj;exact ⟨u,rfl,h⟩⟩
theorem yN {η:Env} {a b:AV} {u v:Value} (h:Den η a u) (h':Den η b v):fz η [a,b] [u,v]:=⟨rfl,fun j av hj=>by
 match j,hj with
 | 0,hj=>simp at hj;subst hj;exact ⟨u,rfl,h⟩
 | 1,hj=>simp at hj;subst hj;exact ⟨v,rfl,h'⟩⟩
theorem jR {η:Env} {a b:A2} {v:Value} (h:Den η (.tup [a,b]) v):∃u u',v= .tuple #[u,u']∧fm η a u∧fm η b u':=by
 obtain ⟨us,rfl,hl,ha⟩:=h
 obtain ⟨u0,g0,d0⟩:=ha 0 _ rfl
 obtain ⟨u1,g1,d1⟩:=ha 1 _ rfl
 refine ⟨u0,u1, ?_,d0,d1⟩
 match us,hl with
 | ⟨[p,q]⟩,_=>simp at g0 g1;rw [g0,g1]
theorem fJ {P:Program} {f:FuncId} {args:Array Value} {w:World} {a b:Value} {outs:List (Nm×Ch)} (h:Calls P f args w fun e w'=>∃v η ω,e= .returned v∧Den η (.tup [.one (.val a), .one (.val b)]) v∧Mem η ω w' (fun x=>lk x outs)∧Below w.heap.size w w'∧∀b,b < w.heap.size→ω b=none):
  Calls P f args w fun e w'=>e= .returned (.tuple #[a,b])∧Below w.heap.size w w':=by
 refine h.mono ?_
 rintro e w' ⟨v,η,ω,rfl,hd,_,hb,_⟩
 obtain ⟨u,u',rfl,h1,h2⟩:=jR hd
 have h1:u=a:=h1
 have h2:u'=b:=h2
 subst h1 h2
 exact ⟨rfl,hb⟩
theorem jI {P:Program} {f:FuncId} {args:Array Value} {w:World} {a:Value} {outs:List (Nm×Ch)} (h:Calls P f args w fun e w'=>∃v η ω,e= .returned v∧Den η (vv a) v∧Mem η ω w' (fun x=>lk x outs)∧Below w.heap.size w w'∧∀b,b < w.heap.size→ω b=none):
  Calls P f args w fun e w'=>e= .returned a∧Below w.heap.size w w':=by
 refine h.mono ?_
 rintro e w' ⟨v,η,ω,rfl,hd,_,hb,_⟩
 have hd:v=a:=hd
 subst hd
 exact ⟨rfl,hb⟩
theorem vu {E:Nat} {w:World} {v:Value} {zs:List Int} (h:u9 E w v zs):zs.length≤4398046511104:=by
 obtain ⟨ao,n,c,rfl,ho⟩:=h
 have:=ho.len;have:=ho.2
 simp at *;omega
theorem uf {f:FuncId} {outs:List (Nm×Ch)} {res:AV} {zs:List Int} (hf:zs.length≤4398046511104→FC Tryz.prog f [(1003,cf zs)] [o1 (.sl 1003 0 zs.length)] outs res []) {E:Nat} {w:World} {lo hi:Nat} {v:Value} (h:dZ E w lo hi v zs):
  Calls Tryz.prog f #[v] w fun e w'=>∃v η ω,e= .returned v∧Den η res v∧Mem η ω w' (fun x=>lk x outs)∧Below w.heap.size w w'∧∀b,b < w.heap.size→ω b=none:=by
 obtain ⟨hd,r,rfl,hv⟩:=zd 1003 2 h.1
 exact (hf (vu h.1)).call (l:= [(1003,(cf zs,hd,r))]) (us:= [_]) (fun p hp=>by simp at hp;subst hp;exact hv) rfl (yC (qx (q:=(cf zs,hd,r)) rfl))
theorem jt {f:FuncId} {outs:List (Nm×Ch)} {res:AV} {zs:List Int} (m:Int) (hf:zs.length≤4398046511104→FC Tryz.prog f [(1003,cf zs)] [o1 (.sl 1003 0 zs.length),vv (I6 m)] outs res []) {E:Nat} {w:World} {lo hi:Nat} {v:Value} (h:dZ E w lo hi v zs):
  Calls Tryz.prog f #[v, .int .i64 m] w fun e w'=>∃v η ω,e= .returned v∧Den η res v∧Mem η ω w' (fun x=>lk x outs)∧Below w.heap.size w w'∧∀b,b < w.heap.size→ω b=none:=by
 obtain ⟨hd,r,rfl,hv⟩:=zd 1003 2 h.1
 exact (hf (vu h.1)).call (l:= [(1003,(cf zs,hd,r))]) (us:= [_,_]) (fun p hp=>by simp at hp;subst hp;exact hv) rfl (yN (qx (q:=(cf zs,hd,r)) rfl) rfl)
end Go.Proofs.YtekbhbcgoadciaaGreat
namespace Go.Proofs.YtekbhbcgoadciaaGreat
open Go.RowKit
def ed (A:List Int) (k:Nat):Int:=(A.take k).foldl (· * ·) 1
theorem il {A:List Int} {k:Nat} (h:k < A.length):ed A (k + 1)=ed A k * aC A k:=by
 unfold ed
 rw [List.take_add_one,List.getElem?_eq_getElem h,List.foldl_append,ct h];rfl
theorem nB {A:List Int} (hA:∀z∈A,2≤z∧z≤32):∀k,k≤A.length→1≤ed A k∧ed A k≤((32 ^ k:Nat):Int)
 | 0,_=>by simp [ed]
 | k + 1,h=>by
  have ih:=nB hA k (by omega)
  have hz:=hA _ (fc (zs:=A) (k:=k) (by omega))
  rw [il (by omega),Nat.pow_succ,Int.natCast_mul]
  refine ⟨?_,Int.mul_le_mul ih.2 (by omega) (by omega) (Int.natCast_nonneg _)⟩
  have:=Int.mul_le_mul ih.1 (show (1:Int)≤aC A k by omega) (by omega) (by omega)
  omega
theorem kt {A:List Int} (hA:∀z∈A,2≤z∧z≤32) (h5:A.length≤5) {k:Nat} (h:k≤A.length):1≤ed A k∧ed A k≤33554432:=by
 have h1:=nB hA k h
 have h2:32 ^ k≤32 ^ 5:=Nat.pow_le_pow_right (by decide) (by omega)
 have h3:(32:Nat) ^ 5=33554432:=by decide
 omega
theorem sa {ps:cT} (hL:∀k,k < ps.length→gY (cx ps k).2):∀j,j≤ps.length→∀z∈eB ps j,2≤z∧z≤32
 | 0,_=>by intro z hz;simp [eB] at hz
 | j + 1,h=>by
  intro z hz
  rw [gy (by omega)] at hz
  rcases List.mem_append.1 hz with hz | hz
  ·exact sa hL j (by omega) z hz
  ·exact ly (hL j (by omega)) z hz
theorem lA {zs:List Int} {mask:Nat} (hd:bz zs=true):∀z∈gA zs mask,2≤z∧z≤32:=fun z hz=>
 sa (fun k hk=>ga hd hk) _ (Nat.le_refl _) z ((List.mergeSort_perm _ _).mem_iff.1 hz)
theorem lO (zs:List Int) (mask:Nat):(gA zs mask).length=(eB (comps zs mask) (comps zs mask).length).length:=kO _
theorem nZ {zs:List Int} {mask:Nat} (hd:bz zs=true):(gA zs mask).length≤5:=by
 have h4:=bE hd
 have h1:=iq (fun k hk=>ga hd (mask:=mask) hk) _ (Nat.le_refl _)
 have h2:=iM (comps zs mask) (comps zs mask).length
 have h3:=(fu zs mask).sum
 rw [lO];omega
def kM (zs:List Int) (mask:Nat):Int:=ed (gA zs mask) (gA zs mask).length
set_option maxRecDepth 100000 in
theorem lD (zs:List Int) (L mask:Nat) (hL:zs.length=L) (hd:bz zs=true) (hmk:mask < 1000) (hf:dC zs mask=true):
  FC Tryz.prog 83 [(1003,cf zs)] [o1 (.sl 1003 0 L),vv (I6 mask)] [] (vv (I6 (kM zs mask))) []:=by
 have hA:=(wY zs L mask hL hd hmk hf).nm [(1003,1003),(2300,10)] (by kernel_rfl)
 rw [←lO] at hA
 have hA:FC Tryz.prog 67 [(1003,cf zs)] [o1 (.sl 1003 0 L),vv (I6 mask)] [(10,bI (gA zs mask))] (o1 (.sl 10 0 (gA zs mask).length)) []:=hA
 have hin:=lA (mask:=mask) hd
 have hle:=nZ (mask:=mask) hd
 unfold kM
 refine a5 (nt:=24) Tryz.func83 rfl rfl (by simp) fun w0 ω0=> ?_
 generalize gA zs mask=B at *
 have hil:B.length≤(aH B).length:=by rw [aO];exact Nat.le_refl _
 (refine aj ?_;refine ag ?_;apply ae rfl;(exact ai rfl rfl);refine aq ?_;refine an ?_;refine aj ?_;refine ag ?_;apply ae rfl;(exact ah rfl rfl);apply ae rfl;(exact ah rfl rfl);apply ae rfl;(apply ar 67;exact bl hA (by as_aux_lemma=>kernel_rfl) rfl rfl ⟨rfl,rfl,trivial⟩ ⟨⟨_,rfl, .inl rfl⟩,trivial⟩ rfl rfl rfl);apply ae rfl;(exact ai rfl rfl);apply ae rfl;(exact ai rfl rfl);refine aq ?_;refine an ?_;refine aj ?_;refine aj ?_;refine ag ?_;apply ae rfl;(exact ai rfl rfl);refine aq ?_;refine an ?_;refine aD ?_)
 refine bx (fun k:Nat=>St.of [(5,o1 (.sl 10 0 B.length)),(6,vv (I6 (ed B k))),(7,vv (I6 k))] [(10,bI B)]) (fun k=>k≤B.length) (fun k=>B.length - k) 0 (Nat.zero_le _) (Wk.of ⟨rfl,rfl,rfl,trivial⟩ ⟨rfl,trivial⟩ trivial) ?_
 rintro k hk
 (refine aj ?_;refine aj ?_;refine ag ?_;apply ae rfl;(exact ah rfl rfl);apply ae rfl;(exact ah rfl rfl);apply ae rfl;(exact br rfl rfl rfl (by as_aux_lemma=>kernel_rfl));apply ae rfl;(exact aB rfl rfl rfl rfl);refine aq ?_;refine an ?_)
 refine bM rfl (fun hlt=> ?_) (fun hlt=> ?_)
 ·have hkm:k < B.length:=by omega
  have hp:=kt hin hle (k:=k + 1) hkm
  have hg:(aH B)[k]? =some (I6 (aC B k)):=aR hkm
  have hw:IntKind.i64.wrap (ed B k * aC B k)=ed B (k + 1):=by rw [←il hkm];exact IntWalk.i64_in _ (by omega)
  (refine aG ?_;refine an ?_;refine aj ?_;refine aD ?_;refine ag ?_;apply ae rfl;(exact ah rfl rfl);apply ae rfl;(exact ah rfl rfl);apply ae rfl;(exact ah rfl rfl);apply ae rfl;(first | exact aS (j:=k) rfl rfl rfl rfl rfl (by as_aux_lemma=>kernel_rfl) rfl hkm hil | exact cV rfl rfl rfl hw);apply ae rfl;(exact aV rfl (by as_aux_lemma=>kernel_rfl) rfl rfl rfl (by first | assumption | exact aR (by assumption) | exact bV (by assumption) | exact aR (by omega) | exact bV (by omega) | rfl));apply ae rfl;(first | exact aS (j:=k) rfl rfl rfl rfl rfl (by as_aux_lemma=>kernel_rfl) rfl hkm hil | exact cV rfl rfl rfl hw);apply ae rfl;(exact ai rfl rfl);refine aq ?_;refine aI ?_;refine an ?_;refine ag ?_;apply ae rfl;(exact ah rfl rfl);apply ae rfl;(exact aJ rfl rfl rfl (by first | exact IntWalk.i64_in _ (by omega) | rfl));apply ae rfl;(exact ai rfl rfl);refine aq ?_)
  exact aX (k + 1) (by omega) (by omega) (Wk.of ⟨rfl,rfl,rfl,trivial⟩ ⟨rfl,trivial⟩ trivial)
 ·obtain rfl:k=B.length:=by omega
  (refine a6 ?_;refine aE ?_;refine aE ?_;refine aP ?_;refine an ?_;refine aj ?_;refine ag ?_;apply ae rfl;(exact ah rfl rfl);apply ae rfl;(exact ai rfl rfl);refine aq ?_;refine an ?_;refine aK ?_)
  exact aW (.inl rfl) rfl (.tmp rfl) trivial trivial
set_option maxRecDepth 100000 in
theorem fk (zs:List Int) (L mask:Nat) (hL:zs.length=L) (hd:bz zs=true) (hmk:mask < 1000) (hf:dC zs mask=true):
  FC Tryz.prog 56 [(1003,cf zs)] [o1 (.sl 1003 0 L),vv (I6 mask)] [] (.tup [.one (.val (I6 (kM zs mask))), .one (.val (.bool true))]) []:=by
 have hA:=(sW zs L mask hL hd hmk hf).nm [(1003,1003),(2200,15)] (by kernel_rfl)
 unfold xW at hA
 rw [←lO] at hA
 have hA:FC Tryz.prog 65 [(1003,cf zs)] [o1 (.sl 1003 0 L),vv (I6 mask)] [(15,bI (gA zs mask))] (.tup [.one (.sl 15 0 (gA zs mask).length), .one (.val (I6 (x9 zs mask:Nat))), .one (.val (.bool true))]) []:=hA
 have hin:=lA (mask:=mask) hd
 have hle:=nZ (mask:=mask) hd
 unfold kM
 refine a5 (nt:=31) Tryz.func56 rfl rfl (by simp) fun w0 ω0=> ?_
 generalize gA zs mask=B at *
 have hil:B.length≤(aH B).length:=by rw [aO];exact Nat.le_refl _
 (refine aj ?_;refine ag ?_;apply ae rfl;(exact ai rfl rfl);apply ae rfl;(exact ai rfl rfl);refine aq ?_;refine an ?_;refine aj ?_;refine ag ?_;apply ae rfl;(exact ah rfl rfl);apply ae rfl;(exact ah rfl rfl);apply ae rfl;(apply ar 65;exact bl hA (by as_aux_lemma=>kernel_rfl) rfl rfl ⟨rfl,rfl,trivial⟩ ⟨⟨_,rfl, .inl rfl⟩,trivial⟩ rfl rfl rfl);apply ae rfl;(exact ah rfl rfl);apply ae rfl;(exact bL rfl rfl rfl);apply ae rfl;(exact bL rfl rfl rfl);apply ae rfl;(exact bL rfl rfl rfl);apply ae rfl;(exact ai rfl rfl);apply ae rfl;(exact ai rfl rfl);apply ae rfl;(exact ai rfl rfl);refine aq ?_;refine an ?_;refine aj ?_;refine ag ?_;apply ae rfl;(exact ai rfl rfl);refine aq ?_;refine an ?_;refine aj ?_;refine aj ?_;refine ag ?_;apply ae rfl;(exact ah rfl rfl);apply ae rfl;(exact br rfl rfl rfl (by as_aux_lemma=>kernel_rfl));apply ae rfl;(exact ah rfl rfl);refine aq ?_;refine an ?_;refine aD ?_)
 refine bx (fun k:Nat=>St.of [(8,vv (.bool true)),(9,vv (I6 (ed B k))),(19,o1 (.sl 15 0 B.length)),(20,vv (I6 B.length)),(21,vv (I6 k))] [(15,bI B)]) (fun k=>k≤B.length) (fun k=>B.length - k) 0 (Nat.zero_le _) (Wk.of ⟨rfl,rfl,rfl,rfl,rfl,trivial⟩ ⟨rfl,trivial⟩ trivial) ?_
 rintro k hk
 (refine aj ?_;refine ag ?_;apply ae rfl;(exact aB rfl rfl rfl rfl);refine aq ?_;refine an ?_;refine aj ?_)
 refine bM rfl (fun hlt=> ?_) (fun hlt=> ?_)
 ·have hkm:k < B.length:=by omega
  have hp:=kt hin hle (k:=k + 1) hkm
  have hg:(aH B)[k]? =some (I6 (aC B k)):=aR hkm
  have hw:IntKind.i64.wrap (ed B k * aC B k)=ed B (k + 1):=by rw [←il hkm];exact IntWalk.i64_in _ (by omega)
  (refine aG ?_;refine an ?_;refine aj ?_;refine aD ?_;refine aj ?_;refine ag ?_;apply ae rfl;(first | exact aS (j:=k) rfl rfl rfl rfl rfl (by as_aux_lemma=>kernel_rfl) rfl hkm hil | exact cV rfl rfl rfl hw);apply ae rfl;(exact aV rfl (by as_aux_lemma=>kernel_rfl) rfl rfl rfl (by first | assumption | exact aR (by assumption) | exact bV (by assumption) | exact aR (by omega) | exact bV (by omega) | rfl));apply ae rfl;(exact ai rfl rfl);refine aq ?_;refine an ?_;refine ag ?_;apply ae rfl;(exact ah rfl rfl);apply ae rfl;(exact ah rfl rfl);apply ae rfl;(first | exact aS (j:=k) rfl rfl rfl rfl rfl (by as_aux_lemma=>kernel_rfl) rfl hkm hil | exact cV rfl rfl rfl hw);apply ae rfl;(exact ai rfl rfl);refine aq ?_;refine aI ?_;refine an ?_;refine ag ?_;apply ae rfl;(exact aJ rfl rfl rfl (by first | exact IntWalk.i64_in _ (by omega) | rfl));apply ae rfl;(exact ah rfl rfl);refine aq ?_)
  exact aX (k + 1) (by omega) (by omega) (Wk.of ⟨rfl,rfl,rfl,rfl,rfl,trivial⟩ ⟨rfl,trivial⟩ trivial)
 ·obtain rfl:k=B.length:=by omega
  (refine a6 ?_;refine aE ?_;refine aE ?_;refine aP ?_;refine an ?_;refine aj ?_;refine ag ?_;apply ae rfl;(exact ah rfl rfl);apply ae rfl;(exact ah rfl rfl);apply ae rfl;(exact ai rfl rfl);apply ae rfl;(exact ai rfl rfl);refine aq ?_;refine an ?_;refine aK ?_)
  exact cg (.inl rfl) rfl (.tmp rfl) (.tmp rfl) trivial trivial
set_option maxRecDepth 100000 in
theorem pM (zs:List Int) (L mask:Nat) (hL:zs.length=L) (hd:bz zs=true) (hmk:mask < 1000) (hf:dC zs mask=false):
  FC Tryz.prog 56 [(1003,cf zs)] [o1 (.sl 1003 0 L),vv (I6 mask)] [] (.tup [.one (.val (I6 1)), .one (.val (.bool false))]) []:=by
 have hA:=tM zs L mask hL hd hmk hf
 refine a5 (nt:=31) Tryz.func56 rfl rfl (by simp) fun w0 ω0=> ?_
 (refine aj ?_;refine ag ?_;apply ae rfl;(exact ai rfl rfl);apply ae rfl;(exact ai rfl rfl);refine aq ?_;refine an ?_;refine aj ?_;refine ag ?_;apply ae rfl;(exact ah rfl rfl);apply ae rfl;(exact ah rfl rfl);apply ae rfl;(apply ar 65;exact au hA (by as_aux_lemma=>kernel_rfl) rfl rfl ⟨rfl,rfl,trivial⟩ ⟨⟨_,rfl, .inl rfl⟩,trivial⟩ rfl rfl);apply ae rfl;(exact ah rfl rfl);apply ae rfl;(exact bL rfl rfl rfl);apply ae rfl;(exact bL rfl rfl rfl);apply ae rfl;(exact bL rfl rfl rfl);apply ae rfl;(exact ai rfl rfl);apply ae rfl;(exact ai rfl rfl);apply ae rfl;(exact ai rfl rfl);refine aq ?_;refine an ?_;refine aj ?_;refine ag ?_;apply ae rfl;(exact ai rfl rfl);refine aq ?_;refine an ?_;refine aj ?_;refine aj ?_;refine ag ?_;apply ae rfl;(exact ah rfl rfl);apply ae rfl;(exact br rfl rfl rfl (by as_aux_lemma=>kernel_rfl));apply ae rfl;(exact ah rfl rfl);refine aq ?_;refine an ?_;refine aD ?_)
 refine bx (fun _:Nat=>St.of [(8,vv (.bool false)),(9,vv (I6 1)),(20,vv (I6 0)),(21,vv (I6 0))] []) (fun _=>True) (fun _=>0) 0 trivial (Wk.of ⟨rfl,rfl,rfl,rfl,trivial⟩ trivial trivial) ?_
 rintro _ _
 (refine aj ?_;refine ag ?_;apply ae rfl;(exact aB rfl rfl rfl rfl);refine aq ?_;refine an ?_;refine aj ?_)
 refine ax rfl (fun e=>by simp at e) (fun _=> ?_)
 (refine a6 ?_;refine aE ?_;refine aE ?_;refine aP ?_;refine an ?_;refine aj ?_;refine ag ?_;apply ae rfl;(exact ah rfl rfl);apply ae rfl;(exact ah rfl rfl);apply ae rfl;(exact ai rfl rfl);apply ae rfl;(exact ai rfl rfl);refine aq ?_;refine an ?_;refine aK ?_)
 exact cg (.inl rfl) rfl (.tmp rfl) (.tmp rfl) trivial trivial
set_option maxRecDepth 100000 in
theorem gC (zs:List Int) (L:Nat) (m:Int) (hL:zs.length=L) (h4:L≤4):
  FC Tryz.prog 55 [(1003,cf zs)] [o1 (.sl 1003 0 L),vv (I6 m)] [] (vv (.bool (gm m 0 (bg zs)))) []:=by
 have hA:=gZ zs L hL h4
 have hW:=kX m 0 (bg zs)
 refine a5 (nt:=9) Tryz.func55 rfl rfl (by simp) fun w0 ω0=> ?_
 (refine aj ?_;refine ag ?_;apply ae rfl;(exact ai rfl rfl);refine aq ?_;refine an ?_;refine aj ?_;refine ag ?_;apply ae rfl;(exact ah rfl rfl);apply ae rfl;(exact ah rfl rfl);apply ae rfl;(first | (apply ar 57;exact au hA (by as_aux_lemma=>kernel_rfl) rfl rfl ⟨rfl,trivial⟩ ⟨⟨_,rfl, .inl rfl⟩,trivial⟩ rfl rfl) | (apply ar 61;exact au hW (by as_aux_lemma=>kernel_rfl) rfl rfl ⟨rfl,rfl,rfl,trivial⟩ trivial rfl rfl));apply ae rfl;(first | (apply ar 57;exact au hA (by as_aux_lemma=>kernel_rfl) rfl rfl ⟨rfl,trivial⟩ ⟨⟨_,rfl, .inl rfl⟩,trivial⟩ rfl rfl) | (apply ar 61;exact au hW (by as_aux_lemma=>kernel_rfl) rfl rfl ⟨rfl,rfl,rfl,trivial⟩ trivial rfl rfl));apply ae rfl;(exact ai rfl rfl);refine aq ?_;refine an ?_;refine aK ?_)
 exact aW (.inl rfl) rfl (.tmp rfl) trivial trivial
end Go.Proofs.YtekbhbcgoadciaaGreat
namespace Go.Proofs.YtekbhbcgoadciaaGreat
def xM (zs:List Int) (mask:Nat):Int:=(eB (comps zs mask) (comps zs mask).length).foldl (· * ·) 1
theorem sg {a b:List Int} (h:a.Perm b):∀z:Int,a.foldl (· * ·) z=b.foldl (· * ·) z:=by
 induction h with
 | nil=>intro z;rfl
 | cons x _ ih=>intro z;exact ih _
 | swap x y l=>
  intro z
  show List.foldl _ (z * y * x) l=List.foldl _ (z * x * y) l
  rw [Int.mul_assoc,Int.mul_comm y x,←Int.mul_assoc]
 | trans _ _ ih1 ih2=>intro z;exact (ih1 z).trans (ih2 z)
theorem xS (zs:List Int) (mask:Nat):kM zs mask=xM zs mask:=by
 unfold kM xM ed gA
 rw [List.take_length]
 exact sg (List.mergeSort_perm _ _) 1
end Go.Proofs.YtekbhbcgoadciaaGreat
namespace Go.Proofs.YtekbhbcgoadciaaGreat
open Go.RowKit
def swp (zs:List Int) (i j:Nat):List Int:=(zs.set i (aC zs j)).set j (aC zs i)
theorem ry (zs:List Int) (i j:Nat):(swp zs i j).length=zs.length:=by simp [swp]
theorem j4 {zs:List Int} {i j:Nat} (hi:i < zs.length) (hj:j < zs.length) (k:Nat):
  aC (swp zs i j) k=if k=j then aC zs i else if k=i then aC zs j else aC zs k:=by
 unfold swp
 by_cases e:k=j
 ·subst e;rw [if_pos rfl,dN (by simpa using hj)]
 ·rw [if_neg e,di (fun h=>e h.symm)]
  by_cases e2:k=i
  ·subst e2;rw [if_pos rfl,dN hi]
  ·rw [if_neg e2,di (fun h=>e2 h.symm)]
theorem oE {zs:List Int} {i j:Nat} (hi:i < zs.length) (hj:j < zs.length):(swp zs i j).Perm zs:=by
 have:=List.set_set_perm hi hj
 unfold swp
 rw [ct hi,ct hj];exact this
structure Kept (zs zs':List Int) (a b:Nat):Prop where
 len:zs'.length=zs.length
 perm:zs'.Perm zs
 out:∀j,j < a∨b≤j→aC zs' j=aC zs j
 mem:∀j,a≤j→j < b→∃i,a≤i∧i < b∧aC zs' j=aC zs i
theorem Kept.refl (zs:List Int) (a b:Nat):Kept zs zs a b:=⟨rfl,List.Perm.refl _,fun _ _=>rfl,fun j h1 h2=>⟨j,h1,h2,rfl⟩⟩
theorem Kept.trans {x y z:List Int} {a b:Nat} (h:Kept x y a b) (h':Kept y z a b):Kept x z a b:=
 ⟨h'.len.trans h.len,h'.perm.trans h.perm,fun j hj=>(h'.out j hj).trans (h.out j hj),fun j h1 h2=>by
  obtain ⟨i,i1,i2,i3⟩:=h'.mem j h1 h2
  obtain ⟨k,k1,k2,k3⟩:=h.mem i i1 i2
  exact ⟨k,k1,k2,i3.trans k3⟩⟩
theorem Kept.wide {x y:List Int} {a b a' b':Nat} (h:Kept x y a b) (ha:a'≤a) (hb:b≤b'):Kept x y a' b':=
 ⟨h.len,h.perm,fun j hj=>h.out j (by omega),fun j h1 h2=>by
  by_cases e:a≤j∧j < b
  ·obtain ⟨i,i1,i2,i3⟩:=h.mem j e.1 e.2
   exact ⟨i,by omega,by omega,i3⟩
  ·exact ⟨j,h1,h2,h.out j (by omega)⟩⟩
theorem Kept.swp {zs:List Int} {i j a b:Nat} (hi:i < zs.length) (hj:j < zs.length) (h1:a≤i) (h2:i < b) (h3:a≤j) (h4:j < b):Kept zs (swp zs i j) a b:=
 ⟨ry _ _ _,oE hi hj,fun k hk=>by rw [j4 hi hj,if_neg (by omega),if_neg (by omega)],fun k k1 k2=>by
  rw [j4 hi hj]
  by_cases e:k=j
  ·rw [if_pos e];exact ⟨i,h1,h2,rfl⟩
  ·rw [if_neg e]
   by_cases e2:k=i
   ·rw [if_pos e2];exact ⟨j,h3,h4,rfl⟩
   ·rw [if_neg e2];exact ⟨k,k1,k2,rfl⟩⟩
section
variable (key:Int→Nat) (less:Int→Int→Bool)
def fS (zs:List Int) (a b:Nat):Prop:=∀i j,a≤i→i < j→j < b→key (aC zs i)≤key (aC zs j)
def s9 (zs:List Int) (a m b:Nat):Prop:=∀i j,a≤i→i < m→m≤j→j < b→(less (aC zs j) (aC zs i)=true↔key (aC zs j) < key (aC zs i))
def nI (zs:List Int) (a b:Nat):Prop:=∀i j,a≤i→i < j→j < b→(less (aC zs j) (aC zs i)=true↔key (aC zs j) < key (aC zs i))
end
variable {key:Int→Nat} {less:Int→Int→Bool} {zs zs' zs1:List Int} {a b m:Nat}
structure Up (zs zs':List Int) (a i:Nat):Prop where
 kept:Kept zs zs' a (i + 1)
 lo:∀j,a≤j→j < i→aC zs' j=aC zs (j + 1)
 at_:aC zs' i=aC zs a
theorem Up.refl (zs:List Int) (a:Nat):Up zs zs a a:=⟨Kept.refl _ _ _,fun j h1 h2=>by omega,rfl⟩
theorem Up.step {k:Nat} (h:Up zs zs' a k) (ha:a≤k) (hk:k + 1 < zs.length):Up zs (swp zs' k (k + 1)) a (k + 1):=by
 have hl:=h.kept.len
 have g:=j4 (zs:=zs') (i:=k) (j:=k + 1) (by omega) (by omega)
 refine ⟨(h.kept.wide (Nat.le_refl _) (by omega)).trans (Kept.swp (by omega) (by omega) ha (by omega) (by omega) (by omega)),fun j h1 h2=> ?_, ?_⟩
 ·rw [g,if_neg (by omega)]
  by_cases e:j=k
  ·subst e;rw [if_pos rfl];exact h.kept.out _ (by omega)
  ·rw [if_neg e];exact h.lo j h1 (by omega)
 ·rw [g,if_pos rfl];exact h.at_
structure Dn (zs zs':List Int) (i b:Nat):Prop where
 kept:Kept zs zs' i (b + 1)
 hi:∀j,i < j→j≤b→aC zs' j=aC zs (j - 1)
 at_:aC zs' i=aC zs b
theorem Dn.refl (zs:List Int) (b:Nat):Dn zs zs b b:=⟨Kept.refl _ _ _,fun j h1 h2=>by omega,rfl⟩
theorem Dn.step {k:Nat} (h:Dn zs zs' (k + 1) b) (hk:k + 1≤b) (hb:b < zs.length):Dn zs (swp zs' (k + 1) k) k b:=by
 have hl:=h.kept.len
 have g:=j4 (zs:=zs') (i:=k + 1) (j:=k) (by omega) (by omega)
 refine ⟨(h.kept.wide (by omega) (Nat.le_refl _)).trans (Kept.swp (by omega) (by omega) (by omega) (by omega) (by omega) (by omega)),fun j h1 h2=> ?_, ?_⟩
 ·rw [g,if_neg (by omega)]
  by_cases e:j=k + 1
  ·subst e;rw [if_pos rfl];exact h.kept.out _ (by omega)
  ·rw [if_neg e];exact h.hi j (by omega) h2
 ·rw [g,if_pos rfl];exact h.at_
theorem ti {i:Nat} (hR:fS key zs (a + 1) b) (h1:a + 1≤i) (h2:i≤b) (lo:∀h,a + 1≤h→h < i→key (aC zs h)≤key (aC zs a)) (hi:∀h,i≤h→h < b→key (aC zs a)≤key (aC zs h))
  (hu:Up zs zs' a (i - 1)):Kept zs zs' a b∧fS key zs' a b:=by
 refine ⟨hu.kept.wide (Nat.le_refl _) (by omega),fun x y hx hxy hy=> ?_⟩
 have hx':aC zs' x=if x < i - 1 then aC zs (x + 1) else if x=i - 1 then aC zs a else aC zs x:=by
  split
  ·exact hu.lo x hx ‹_›
  ·split
   ·rename_i e;rw [e];exact hu.at_
   ·exact hu.kept.out x (by omega)
 have hy':aC zs' y=if y < i - 1 then aC zs (y + 1) else if y=i - 1 then aC zs a else aC zs y:=by
  split
  ·exact hu.lo y (by omega) ‹_›
  ·split
   ·rename_i e;rw [e];exact hu.at_
   ·exact hu.kept.out y (by omega)
 rw [hx',hy']
 split
 ·split
  ·exact hR _ _ (by omega) (by omega) (by omega)
  ·split
   ·exact lo _ (by omega) (by omega)
   ·exact hR _ _ (by omega) (by omega) (by omega)
 ·split
  ·split
   ·omega
   ·split
    ·omega
    ·exact hi _ (by omega) hy
  ·split
   ·omega
   ·split
    ·omega
    ·exact hR _ _ (by omega) (by omega) (by omega)
theorem oG {i:Nat} (hL:fS key zs a m) (h1:a≤i) (h2:i≤m) (lo:∀h,a≤h→h < i→key (aC zs h)≤key (aC zs m)) (hi:∀h,i≤h→h < m→key (aC zs m)≤key (aC zs h))
  (hd:Dn zs zs' i m):Kept zs zs' a (m + 1)∧fS key zs' a (m + 1):=by
 refine ⟨hd.kept.wide h1 (Nat.le_refl _),fun x y hx hxy hy=> ?_⟩
 have hg:∀x,a≤x→x≤m→aC zs' x=if x < i then aC zs x else if x=i then aC zs m else aC zs (x - 1):=fun x hx hm=>by
  split
  ·exact hd.kept.out x (by omega)
  ·split
   ·rename_i e;rw [e];exact hd.at_
   ·exact hd.hi x (by omega) hm
 rw [hg x hx (by omega),hg y (by omega) (by omega)]
 split
 ·split
  ·exact hL _ _ (by omega) (by omega) (by omega)
  ·split
   ·exact lo _ (by omega) (by omega)
   ·exact hL _ _ (by omega) (by omega) (by omega)
 ·split
  ·split
   ·omega
   ·split
    ·omega
    ·exact hi _ (by omega) (by omega)
  ·split
   ·omega
   ·split
    ·omega
    ·exact hL _ _ (by omega) (by omega) (by omega)
structure rr (zs zs':List Int) (a m b:Nat):Prop where
 kept:Kept zs zs' a b
 lo:∀j,a≤j→j < a + (b - m)→aC zs' j=aC zs (j + (m - a))
 hi:∀j,a + (b - m)≤j→j < b→aC zs' j=aC zs (j - (b - m))
structure Cut (key:Int→Nat) (zs:List Int) (a m b st en md:Nat):Prop where
 sum:st + en=md + m
 s1:a≤st
 s2:st≤m
 e1:m≤en
 e2:en≤b
 mid:md=(a + b) / 2
 ad:∀i j,a≤i→i < st→en≤j→j < b→key (aC zs i)≤key (aC zs j)
 cb:∀i j,m≤i→i < en→st≤j→j < m→key (aC zs i)≤key (aC zs j)
theorem yw {st md:Nat} (hmd:md=(a + b) / 2) (ham:a + 2≤m) (hmb:m + 2≤b) (hL:fS key zs a m) (hR:fS key zs m b)
  (h1:(if m > md then md + m - b else a)≤st) (h2:st≤(if m > md then md else m))
  (lo:∀c,(if m > md then md + m - b else a)≤c→c < st→key (aC zs c)≤key (aC zs (md + m - 1 - c)))
  (hi:∀c,st≤c→c < (if m > md then md else m)→key (aC zs (md + m - 1 - c))≤key (aC zs c)):
  Cut key zs a m b st (md + m - st) md:=by
 have hle:∀ {x y},(a≤x∧x≤y∧y < m)∨(m≤x∧x≤y∧y < b)→key (aC zs x)≤key (aC zs y):=fun {x y} h=>by
  by_cases e:x=y
  ·rw [e];exact Nat.le_refl _
  ·rcases h with h | h
   ·exact hL _ _ h.1 (by omega) h.2.2
   ·exact hR _ _ h.1 (by omega) h.2.2
 split at h1<;>split at h2<;>try omega
 ·rename_i hm _
  rw [if_pos hm] at lo hi
  refine ⟨by omega,by omega,by omega,by omega,by omega,hmd,fun i j i1 i2 j1 j2=> ?_,fun i j i1 i2 j1 j2=> ?_⟩
  ·have h3:=lo (st - 1) (by omega) (by omega)
   exact Nat.le_trans (hle (.inl ⟨i1,by omega,by omega⟩)) (Nat.le_trans h3 (hle (.inr ⟨by omega,by omega,by omega⟩)))
  ·have h3:=hi st (by omega) (by omega)
   exact Nat.le_trans (hle (.inr ⟨i1,by omega,by omega⟩)) (Nat.le_trans h3 (hle (.inl ⟨by omega,by omega,by omega⟩)))
 ·rename_i hm _
  rw [if_neg hm] at lo hi
  refine ⟨by omega,by omega,by omega,by omega,by omega,hmd,fun i j i1 i2 j1 j2=> ?_,fun i j i1 i2 j1 j2=> ?_⟩
  ·have h3:=lo (st - 1) (by omega) (by omega)
   exact Nat.le_trans (hle (.inl ⟨i1,by omega,by omega⟩)) (Nat.le_trans h3 (hle (.inr ⟨by omega,by omega,by omega⟩)))
  ·have h3:=hi st (by omega) (by omega)
   exact Nat.le_trans (hle (.inr ⟨i1,by omega,by omega⟩)) (Nat.le_trans h3 (hle (.inl ⟨by omega,by omega,by omega⟩)))
theorem rr.none {st en:Nat} (h:¬(st < m∧m < en)) (h1:st≤m) (h2:m≤en):rr zs zs st m en:=
 ⟨Kept.refl _ _ _,fun j i1 i2=>by rw [show j + (m - st)=j by omega],fun j i1 i2=>by rw [show j - (en - m)=j by omega]⟩
theorem rr.at {st en md:Nat} (c:Cut key zs a m b st en md) (hr:rr zs zs1 st m en):
  ∀j,a≤j→j < b→aC zs1 j=if j < st then aC zs j else if j < md then aC zs (j + (m - st)) else if j < en then aC zs (j - (en - m)) else aC zs j:=fun j j1 j2=>by
 have hs:=c.sum;have s2:=c.s2;have e1:=c.e1
 split
 ·exact hr.kept.out j (by omega)
 ·split
  ·exact hr.lo j (by omega) (by omega)
  ·split
   ·exact hr.hi j (by omega) ‹_›
   ·exact hr.kept.out j (by omega)
structure yf (key:Int→Nat) (less:Int→Int→Bool) (zs1:List Int) (a st md en b:Nat):Prop where
 o1:fS key zs1 a st
 o2:fS key zs1 st md
 o3:fS key zs1 md en
 o4:fS key zs1 en b
 g1:s9 key less zs1 a st md
 g2:s9 key less zs1 md en b
 ac:∀i j,a≤i→i < md→md≤j→j < b→key (aC zs1 i)≤key (aC zs1 j)
theorem sS {st en md:Nat} (c:Cut key zs a m b st en md) (hL:fS key zs a m) (hR:fS key zs m b) (hg:s9 key less zs a m b) (hr:rr zs zs1 st m en):yf key less zs1 a st md en b:=by
 have H:=rr.at c hr
 have hs:=c.sum;have s1:=c.s1;have s2:=c.s2;have e1:=c.e1;have e2:=c.e2;have hm:=c.mid
 have A:∀j,a≤j→j < st→aC zs1 j=aC zs j:=fun j j1 j2=>by rw [H j j1 (by omega),if_pos j2]
 have C:∀j,st≤j→j < md→aC zs1 j=aC zs (j + (m - st)):=fun j j1 j2=>by rw [H j (by omega) (by omega),if_neg (by omega),if_pos j2]
 have B:∀j,md≤j→j < en→aC zs1 j=aC zs (j - (en - m)):=fun j j1 j2=>by rw [H j (by omega) (by omega),if_neg (by omega),if_neg (by omega),if_pos j2]
 have D:∀j,en≤j→j < b→aC zs1 j=aC zs j:=fun j j1 j2=>by rw [H j (by omega) j2,if_neg (by omega),if_neg (by omega),if_neg (by omega)]
 refine ⟨fun i j i1 i2 i3=> ?_,fun i j i1 i2 i3=> ?_,fun i j i1 i2 i3=> ?_,fun i j i1 i2 i3=> ?_,fun i j i1 i2 i3 i4=> ?_,fun i j i1 i2 i3 i4=> ?_,fun i j i1 i2 i3 i4=> ?_⟩
 ·rw [A i i1 (by omega),A j (by omega) i3];exact hL _ _ i1 i2 (by omega)
 ·rw [C i i1 (by omega),C j (by omega) i3];exact hR _ _ (by omega) (by omega) (by omega)
 ·rw [B i i1 (by omega),B j (by omega) i3];exact hL _ _ (by omega) (by omega) (by omega)
 ·rw [D i i1 (by omega),D j (by omega) i3];exact hR _ _ (by omega) i2 i3
 ·rw [A i i1 i2,C j i3 i4];exact hg _ _ i1 (by omega) (by omega) (by omega)
 ·rw [B i i1 i2,D j i3 i4];exact hg _ _ (by omega) (by omega) (by omega) i4
 ·by_cases ei:i < st<;>by_cases ej:j < en
  ·rw [A i i1 ei,B j i3 ej];exact hL _ _ i1 (by omega) (by omega)
  ·rw [A i i1 ei,D j (by omega) i4];exact c.ad _ _ i1 ei (by omega) i4
  ·rw [C i (by omega) i2,B j i3 ej];exact c.cb _ _ (by omega) (by omega) (by omega) (by omega)
  ·rw [C i (by omega) i2,D j (by omega) i4];exact hR _ _ (by omega) (by omega) i4
theorem vi {zs2 zs3:List Int} {md:Nat} (ha:a≤md) (hb:md≤b) (k2:Kept zs1 zs2 a md) (o2:fS key zs2 a md) (k3:Kept zs2 zs3 md b) (o3:fS key zs3 md b)
  (ac:∀i j,a≤i→i < md→md≤j→j < b→key (aC zs1 i)≤key (aC zs1 j)):Kept zs1 zs3 a b∧fS key zs3 a b:=by
 refine ⟨(k2.wide (Nat.le_refl _) hb).trans (k3.wide ha (Nat.le_refl _)),fun i j i1 i2 i3=> ?_⟩
 by_cases ei:i < md<;>by_cases ej:j < md
 ·rw [k3.out i (.inl ei),k3.out j (.inl ej)];exact o2 _ _ i1 i2 ej
 ·obtain ⟨x,x1,x2,x3⟩:=k2.mem i i1 ei
  obtain ⟨y,y1,y2,y3⟩:=k3.mem j (by omega) i3
  rw [k3.out i (.inl ei),x3,y3,k2.out y (.inr y1)]
  exact ac _ _ x1 x2 y1 y2
 ·omega
 ·exact o3 _ _ (by omega) i2 i3
theorem s9.j0 {a' b':Nat} (h:s9 key less zs a m b) (k:Kept zs zs' a' b') (hb:b'≤a∨b≤a'):s9 key less zs' a m b:=fun i j i1 i2 i3 i4=>by
 rw [k.out i (by omega),k.out j (by omega)];exact h i j i1 i2 i3 i4
theorem fS.j0 {a' b':Nat} (h:fS key zs a b) (k:Kept zs zs' a' b') (hb:b'≤a∨b≤a'):fS key zs' a b:=fun i j i1 i2 i3=>by
 rw [k.out i (by omega),k.out j (by omega)];exact h i j i1 i2 i3
theorem fS.short (h:b≤a + 1):fS key zs a b:=fun i j i1 i2 i3=>by omega
theorem fS.glue {x:Nat} (h1:fS key zs a x) (h2:fS key zs x b) (h:x≤a∨b≤x):fS key zs a b:=fun i j i1 i2 i3=>by
 rcases h with h | h
 ·exact h2 i j (by omega) i2 i3
 ·exact h1 i j i1 i2 (by omega)
structure sK (zs zs':List Int) (a b n:Nat):Prop where
 len:zs'.length=zs.length
 perm:zs'.Perm zs
 lo:∀j,a≤j→j < a + n→aC zs' j=aC zs (b + (j - a))
 hi:∀j,b≤j→j < b + n→aC zs' j=aC zs (a + (j - b))
 out:∀j,(j < a∨a + n≤j)→(j < b∨b + n≤j)→aC zs' j=aC zs j
theorem sK.refl (zs:List Int) (a b:Nat):sK zs zs a b 0:=⟨rfl,List.Perm.refl _,fun j h1 h2=>by omega,fun j h1 h2=>by omega,fun _ _ _=>rfl⟩
theorem sK.step {k:Nat} (h:sK zs zs' a b k) (hab:a + k < b) (hb:b + k < zs.length):sK zs (swp zs' (a + k) (b + k)) a b (k + 1):=by
 have hl:=h.len
 have g:=j4 (zs:=zs') (i:=a + k) (j:=b + k) (by omega) (by omega)
 refine ⟨(ry _ _ _).trans hl,(oE (by omega) (by omega)).trans h.perm,fun j h1 h2=> ?_,fun j h1 h2=> ?_,fun j h1 h2=> ?_⟩
 ·rw [g,if_neg (by omega)]
  by_cases e:j=a + k
  ·rw [if_pos e,show b + (j - a)=b + k by omega];exact h.out _ (by omega) (by omega)
  ·rw [if_neg e];exact h.lo j h1 (by omega)
 ·rw [g]
  by_cases e:j=b + k
  ·rw [if_pos e,show a + (j - b)=a + k by omega];exact h.out _ (by omega) (by omega)
  ·rw [if_neg e,if_neg (by omega)];exact h.hi j h1 (by omega)
 ·rw [g,if_neg (by omega),if_neg (by omega)];exact h.out j (by omega) (by omega)
theorem sK.kept {n p q:Nat} (h:sK zs zs' a b n) (h1:p≤a) (h2:a + n≤q) (h3:p≤b) (h4:b + n≤q):Kept zs zs' p q:=
 ⟨h.len,h.perm,fun j hj=>h.out j (by omega) (by omega),fun j j1 j2=>by
  by_cases e:a≤j∧j < a + n
  ·exact ⟨b + (j - a),by omega,by omega,h.lo j e.1 e.2⟩
  ·by_cases e2:b≤j∧j < b + n
   ·exact ⟨a + (j - b),by omega,by omega,h.hi j e2.1 e2.2⟩
   ·exact ⟨j,j1,j2,h.out j (by omega) (by omega)⟩⟩
structure ll (T:Nat→Int) (cur:List Int) (m i j:Nat):Prop where
 out:∀p,p < m - i∨m + j≤p→aC cur p=T p
 lo:∀p,m - i≤p→p < m - i + j→T p=aC cur (p + i)
 hi:∀p,m - i + j≤p→p < m + j→T p=aC cur (p - j)
def pS (zs:List Int) (a m b p:Nat):Int:=if a≤p∧p < a + (b - m) then aC zs (p + (m - a)) else if a + (b - m)≤p∧p < b then aC zs (p - (b - m)) else aC zs p
theorem ll.start (h1:a≤m) (h2:m≤b):ll (pS zs a m b) zs m (m - a) (b - m):=
 ⟨fun p hp=>by unfold pS;rw [if_neg (by omega),if_neg (by omega)],fun p p1 p2=>by unfold pS;rw [if_pos (by omega)],fun p p1 p2=>by unfold pS;rw [if_neg (by omega),if_pos (by omega)]⟩
variable {T:Nat→Int} {cur cur':List Int} {i j:Nat}
theorem ll.more (h:ll T cur m i j) (hm:i≤m) (hij:j < i) (hs:sK cur cur' (m - i) m j):ll T cur' m (i - j) j:=by
 refine ⟨fun p hp=> ?_,fun p p1 p2=> ?_,fun p p1 p2=> ?_⟩
 ·by_cases e:m - i≤p∧p < m - i + j
  ·rw [hs.lo p e.1 e.2,h.lo p e.1 e.2];congr 1;omega
  ·rw [hs.out p (by omega) (by omega)];exact h.out p (by omega)
 ·rw [h.hi p (by omega) (by omega),hs.hi _ (by omega) (by omega)];congr 1;omega
 ·rw [h.hi p (by omega) (by omega),hs.out _ (by omega) (by omega)]
theorem ll.yV (h:ll T cur m i j) (hm:i≤m) (hij:i < j) (hs:sK cur cur' (m - i) (m + j - i) i):ll T cur' m i (j - i):=by
 refine ⟨fun p hp=> ?_,fun p p1 p2=> ?_,fun p p1 p2=> ?_⟩
 ·by_cases e:m + j - i≤p∧p < m + j
  ·rw [hs.hi p e.1 (by omega),h.hi p (by omega) (by omega)];congr 1;omega
  ·rw [hs.out p (by omega) (by omega)];exact h.out p (by omega)
 ·rw [h.lo p (by omega) (by omega),hs.out _ (by omega) (by omega)]
 ·rw [h.lo p (by omega) (by omega),hs.lo _ (by omega) (by omega)];congr 1;omega
theorem ll.last (h:ll T cur m i i) (hm:i≤m) (hs:sK cur cur' (m - i) m i):∀p,aC cur' p=T p:=fun p=>by
 by_cases e:m - i≤p∧p < m
 ·rw [hs.lo p e.1 (by omega),h.lo p e.1 (by omega)];congr 1;omega
 ·by_cases e2:m≤p∧p < m + i
  ·rw [hs.hi p e2.1 e2.2,h.hi p (by omega) e2.2];congr 1;omega
  ·rw [hs.out p (by omega) (by omega)];exact h.out p (by omega)
theorem rr.zx (k:Kept zs zs' a b) (h:∀p,aC zs' p=pS zs a m b p):rr zs zs' a m b:=
 ⟨k,fun p p1 p2=>by rw [h];unfold pS;rw [if_pos ⟨p1,p2⟩],fun p p1 p2=>by rw [h];unfold pS;rw [if_neg (by omega),if_pos ⟨p1,p2⟩]⟩
theorem pq {k:Nat} (hd:Dn zs zs' j k) (ha:a≤j) (hj:j≤k) (hA:fS key zs a k) (lo:j=a∨key (aC zs (j - 1))≤key (aC zs k)) (hi:∀h,j≤h→h < k→key (aC zs k)≤key (aC zs h)):
  Kept zs zs' a (k + 1)∧fS key zs' a (k + 1):=
 oG hA ha hj (fun h h1 h2=>by
  rcases lo with e | e
  ·omega
  ·by_cases e2:h=j - 1
   ·rw [e2];exact e
   ·exact Nat.le_trans (hA h (j - 1) h1 (by omega) (by omega)) e) hi hd
theorem th {l zs:List Int} (hinj:∀x y,x∈zs→y∈zs→key x=key y→x=y) (hp:l.Perm zs) (ha:fS key l 0 l.length) (zt:List Int) (hpt:zt.Perm zs) (hat:zt.Pairwise fun x y=>key x≤key y):l=zt:=by
 have h1:l.Pairwise fun x y=>key x≤key y:=by
  rw [List.pairwise_iff_getElem]
  intro i j hi hj hij
  have:=ha i j (Nat.zero_le _) hij hj
  rwa [ct hi,ct hj] at this
 exact List.Perm.eq_of_pairwise (fun x y hx hy h1 h2=>hinj x y (hp.subset hx) (hpt.subset hy) (Nat.le_antisymm h1 h2)) h1 hat (hp.trans hpt.symm)
end Go.Proofs.YtekbhbcgoadciaaGreat
namespace Go.Proofs.YtekbhbcgoadciaaGreat
open Go.RowKit
def cC (k:Nat):Nat:=k % 2 + k / 2 % 2 + k / 4 % 2 + k / 8 % 2 + k / 16 % 2
theorem n8 (k:Nat):cC k≤5:=by unfold cC;omega
set_option maxRecDepth 100000 in
theorem xC (w:World):Calls Tryz.prog 47 #[.int .u64 0] w fun e w'=>e= .returned (.int .i64 (cC 0:Nat))∧w'=w:=by
 go_enter Tryz.func47,Tryz.ntmps47
 go_wp2
 go_ret
 exact ⟨by kernel_rfl,rfl⟩
set_option maxRecDepth 100000 in
theorem yg (w:World):Calls Tryz.prog 47 #[.int .u64 1] w fun e w'=>e= .returned (.int .i64 (cC 1:Nat))∧w'=w:=by
 go_enter Tryz.func47,Tryz.ntmps47
 go_wp2
 go_ret
 exact ⟨by kernel_rfl,rfl⟩
set_option maxRecDepth 100000 in
theorem xU (w:World):Calls Tryz.prog 47 #[.int .u64 2] w fun e w'=>e= .returned (.int .i64 (cC 2:Nat))∧w'=w:=by
 go_enter Tryz.func47,Tryz.ntmps47
 go_wp2
 go_ret
 exact ⟨by kernel_rfl,rfl⟩
set_option maxRecDepth 100000 in
theorem yd (w:World):Calls Tryz.prog 47 #[.int .u64 3] w fun e w'=>e= .returned (.int .i64 (cC 3:Nat))∧w'=w:=by
 go_enter Tryz.func47,Tryz.ntmps47
 go_wp2
 go_ret
 exact ⟨by kernel_rfl,rfl⟩
set_option maxRecDepth 100000 in
theorem x5 (w:World):Calls Tryz.prog 47 #[.int .u64 4] w fun e w'=>e= .returned (.int .i64 (cC 4:Nat))∧w'=w:=by
 go_enter Tryz.func47,Tryz.ntmps47
 go_wp2
 go_ret
 exact ⟨by kernel_rfl,rfl⟩
set_option maxRecDepth 100000 in
theorem xL (w:World):Calls Tryz.prog 47 #[.int .u64 5] w fun e w'=>e= .returned (.int .i64 (cC 5:Nat))∧w'=w:=by
 go_enter Tryz.func47,Tryz.ntmps47
 go_wp2
 go_ret
 exact ⟨by kernel_rfl,rfl⟩
set_option maxRecDepth 100000 in
theorem xB (w:World):Calls Tryz.prog 47 #[.int .u64 6] w fun e w'=>e= .returned (.int .i64 (cC 6:Nat))∧w'=w:=by
 go_enter Tryz.func47,Tryz.ntmps47
 go_wp2
 go_ret
 exact ⟨by kernel_rfl,rfl⟩
set_option maxRecDepth 100000 in
theorem yv (w:World):Calls Tryz.prog 47 #[.int .u64 7] w fun e w'=>e= .returned (.int .i64 (cC 7:Nat))∧w'=w:=by
 go_enter Tryz.func47,Tryz.ntmps47
 go_wp2
 go_ret
 exact ⟨by kernel_rfl,rfl⟩
set_option maxRecDepth 100000 in
theorem yr (w:World):Calls Tryz.prog 47 #[.int .u64 8] w fun e w'=>e= .returned (.int .i64 (cC 8:Nat))∧w'=w:=by
 go_enter Tryz.func47,Tryz.ntmps47
 go_wp2
 go_ret
 exact ⟨by kernel_rfl,rfl⟩
set_option maxRecDepth 100000 in
theorem xX (w:World):Calls Tryz.prog 47 #[.int .u64 9] w fun e w'=>e= .returned (.int .i64 (cC 9:Nat))∧w'=w:=by
 go_enter Tryz.func47,Tryz.ntmps47
 go_wp2
 go_ret
 exact ⟨by kernel_rfl,rfl⟩
set_option maxRecDepth 100000 in
theorem vX (w:World):Calls Tryz.prog 47 #[.int .u64 10] w fun e w'=>e= .returned (.int .i64 (cC 10:Nat))∧w'=w:=by
 go_enter Tryz.func47,Tryz.ntmps47
 go_wp2
 go_ret
 exact ⟨by kernel_rfl,rfl⟩
set_option maxRecDepth 100000 in
theorem wP (w:World):Calls Tryz.prog 47 #[.int .u64 11] w fun e w'=>e= .returned (.int .i64 (cC 11:Nat))∧w'=w:=by
 go_enter Tryz.func47,Tryz.ntmps47
 go_wp2
 go_ret
 exact ⟨by kernel_rfl,rfl⟩
set_option maxRecDepth 100000 in
theorem wD (w:World):Calls Tryz.prog 47 #[.int .u64 12] w fun e w'=>e= .returned (.int .i64 (cC 12:Nat))∧w'=w:=by
 go_enter Tryz.func47,Tryz.ntmps47
 go_wp2
 go_ret
 exact ⟨by kernel_rfl,rfl⟩
set_option maxRecDepth 100000 in
theorem vZ (w:World):Calls Tryz.prog 47 #[.int .u64 13] w fun e w'=>e= .returned (.int .i64 (cC 13:Nat))∧w'=w:=by
 go_enter Tryz.func47,Tryz.ntmps47
 go_wp2
 go_ret
 exact ⟨by kernel_rfl,rfl⟩
set_option maxRecDepth 100000 in
theorem wA (w:World):Calls Tryz.prog 47 #[.int .u64 14] w fun e w'=>e= .returned (.int .i64 (cC 14:Nat))∧w'=w:=by
 go_enter Tryz.func47,Tryz.ntmps47
 go_wp2
 go_ret
 exact ⟨by kernel_rfl,rfl⟩
set_option maxRecDepth 100000 in
theorem vp (w:World):Calls Tryz.prog 47 #[.int .u64 15] w fun e w'=>e= .returned (.int .i64 (cC 15:Nat))∧w'=w:=by
 go_enter Tryz.func47,Tryz.ntmps47
 go_wp2
 go_ret
 exact ⟨by kernel_rfl,rfl⟩
set_option maxRecDepth 100000 in
theorem vO (w:World):Calls Tryz.prog 47 #[.int .u64 16] w fun e w'=>e= .returned (.int .i64 (cC 16:Nat))∧w'=w:=by
 go_enter Tryz.func47,Tryz.ntmps47
 go_wp2
 go_ret
 exact ⟨by kernel_rfl,rfl⟩
set_option maxRecDepth 100000 in
theorem wT (w:World):Calls Tryz.prog 47 #[.int .u64 17] w fun e w'=>e= .returned (.int .i64 (cC 17:Nat))∧w'=w:=by
 go_enter Tryz.func47,Tryz.ntmps47
 go_wp2
 go_ret
 exact ⟨by kernel_rfl,rfl⟩
set_option maxRecDepth 100000 in
theorem vY (w:World):Calls Tryz.prog 47 #[.int .u64 18] w fun e w'=>e= .returned (.int .i64 (cC 18:Nat))∧w'=w:=by
 go_enter Tryz.func47,Tryz.ntmps47
 go_wp2
 go_ret
 exact ⟨by kernel_rfl,rfl⟩
set_option maxRecDepth 100000 in
theorem vy (w:World):Calls Tryz.prog 47 #[.int .u64 19] w fun e w'=>e= .returned (.int .i64 (cC 19:Nat))∧w'=w:=by
 go_enter Tryz.func47,Tryz.ntmps47
 go_wp2
 go_ret
 exact ⟨by kernel_rfl,rfl⟩
set_option maxRecDepth 100000 in
theorem vF (w:World):Calls Tryz.prog 47 #[.int .u64 20] w fun e w'=>e= .returned (.int .i64 (cC 20:Nat))∧w'=w:=by
 go_enter Tryz.func47,Tryz.ntmps47
 go_wp2
 go_ret
 exact ⟨by kernel_rfl,rfl⟩
set_option maxRecDepth 100000 in
theorem wC (w:World):Calls Tryz.prog 47 #[.int .u64 21] w fun e w'=>e= .returned (.int .i64 (cC 21:Nat))∧w'=w:=by
 go_enter Tryz.func47,Tryz.ntmps47
 go_wp2
 go_ret
 exact ⟨by kernel_rfl,rfl⟩
set_option maxRecDepth 100000 in
theorem wH (w:World):Calls Tryz.prog 47 #[.int .u64 22] w fun e w'=>e= .returned (.int .i64 (cC 22:Nat))∧w'=w:=by
 go_enter Tryz.func47,Tryz.ntmps47
 go_wp2
 go_ret
 exact ⟨by kernel_rfl,rfl⟩
set_option maxRecDepth 100000 in
theorem wi (w:World):Calls Tryz.prog 47 #[.int .u64 23] w fun e w'=>e= .returned (.int .i64 (cC 23:Nat))∧w'=w:=by
 go_enter Tryz.func47,Tryz.ntmps47
 go_wp2
 go_ret
 exact ⟨by kernel_rfl,rfl⟩
set_option maxRecDepth 100000 in
theorem wG (w:World):Calls Tryz.prog 47 #[.int .u64 24] w fun e w'=>e= .returned (.int .i64 (cC 24:Nat))∧w'=w:=by
 go_enter Tryz.func47,Tryz.ntmps47
 go_wp2
 go_ret
 exact ⟨by kernel_rfl,rfl⟩
set_option maxRecDepth 100000 in
theorem wX (w:World):Calls Tryz.prog 47 #[.int .u64 25] w fun e w'=>e= .returned (.int .i64 (cC 25:Nat))∧w'=w:=by
 go_enter Tryz.func47,Tryz.ntmps47
 go_wp2
 go_ret
 exact ⟨by kernel_rfl,rfl⟩
set_option maxRecDepth 100000 in
theorem wv (w:World):Calls Tryz.prog 47 #[.int .u64 26] w fun e w'=>e= .returned (.int .i64 (cC 26:Nat))∧w'=w:=by
 go_enter Tryz.func47,Tryz.ntmps47
 go_wp2
 go_ret
 exact ⟨by kernel_rfl,rfl⟩
set_option maxRecDepth 100000 in
theorem vE (w:World):Calls Tryz.prog 47 #[.int .u64 27] w fun e w'=>e= .returned (.int .i64 (cC 27:Nat))∧w'=w:=by
 go_enter Tryz.func47,Tryz.ntmps47
 go_wp2
 go_ret
 exact ⟨by kernel_rfl,rfl⟩
set_option maxRecDepth 100000 in
theorem wz (w:World):Calls Tryz.prog 47 #[.int .u64 28] w fun e w'=>e= .returned (.int .i64 (cC 28:Nat))∧w'=w:=by
 go_enter Tryz.func47,Tryz.ntmps47
 go_wp2
 go_ret
 exact ⟨by kernel_rfl,rfl⟩
set_option maxRecDepth 100000 in
theorem we (w:World):Calls Tryz.prog 47 #[.int .u64 29] w fun e w'=>e= .returned (.int .i64 (cC 29:Nat))∧w'=w:=by
 go_enter Tryz.func47,Tryz.ntmps47
 go_wp2
 go_ret
 exact ⟨by kernel_rfl,rfl⟩
set_option maxRecDepth 100000 in
theorem xb (w:World):Calls Tryz.prog 47 #[.int .u64 30] w fun e w'=>e= .returned (.int .i64 (cC 30:Nat))∧w'=w:=by
 go_enter Tryz.func47,Tryz.ntmps47
 go_wp2
 go_ret
 exact ⟨by kernel_rfl,rfl⟩
set_option maxRecDepth 100000 in
theorem vg (w:World):Calls Tryz.prog 47 #[.int .u64 31] w fun e w'=>e= .returned (.int .i64 (cC 31:Nat))∧w'=w:=by
 go_enter Tryz.func47,Tryz.ntmps47
 go_wp2
 go_ret
 exact ⟨by kernel_rfl,rfl⟩
theorem lN (k:Nat) (hk:k < 32) (w:World):Calls Tryz.prog 47 #[.int .u64 k] w fun e w'=>e= .returned (.int .i64 (cC k:Nat))∧w'=w:=by
 match k,hk with
 | 0,_=>exact xC w
 | 1,_=>exact yg w
 | 2,_=>exact xU w
 | 3,_=>exact yd w
 | 4,_=>exact x5 w
 | 5,_=>exact xL w
 | 6,_=>exact xB w
 | 7,_=>exact yv w
 | 8,_=>exact yr w
 | 9,_=>exact xX w
 | 10,_=>exact vX w
 | 11,_=>exact wP w
 | 12,_=>exact wD w
 | 13,_=>exact vZ w
 | 14,_=>exact wA w
 | 15,_=>exact vp w
 | 16,_=>exact vO w
 | 17,_=>exact wT w
 | 18,_=>exact vY w
 | 19,_=>exact vy w
 | 20,_=>exact vF w
 | 21,_=>exact wC w
 | 22,_=>exact wH w
 | 23,_=>exact wi w
 | 24,_=>exact wG w
 | 25,_=>exact wX w
 | 26,_=>exact wv w
 | 27,_=>exact vE w
 | 28,_=>exact wz w
 | 29,_=>exact we w
 | 30,_=>exact xb w
 | 31,_=>exact vg w
 | k + 32,h=>exact absurd h (by omega)
theorem vA (x y:Nat) (hx:x < 32) (hy:y < 32) (w:World):Calls Tryz.prog 112 #[.int .i64 x, .int .i64 y] w fun e w'=>e= .returned (.int .i64 ((cC x:Nat) - (cC y:Nat)))∧w'=w:=by
 have h1:IntKind.u64.wrap (x:Int)=(x:Int):=by simp [IntKind.wrap,IntKind.bits,IntKind.signed];omega
 have h2:IntKind.u64.wrap (y:Int)=(y:Int):=by simp [IntKind.wrap,IntKind.bits,IntKind.signed];omega
 have p1:=n8 x
 have p2:=n8 y
 have h3:IntKind.i64.wrap ((cC x:Nat) - (cC y:Nat):Int)=(cC x:Nat) - (cC y:Nat):=IntWalk.i64_in _ (by omega)
 go_enter Tryz.func112,Tryz.ntmps112
 go_wp2_with fail
 refine (lN x hx _).mono ?_
 rintro e w1 ⟨rfl,rfl⟩
 go_wp2_with fail
 refine (lN y hy _).mono ?_
 rintro e w1 ⟨rfl,rfl⟩
 go_wp2_with fail
 go_ret
 exact ⟨by kernel_rfl,rfl⟩
end Go.Proofs.YtekbhbcgoadciaaGreat
namespace Go.Proofs.YtekbhbcgoadciaaGreat
open Go.RowKit
def nq (zs:List Int):Prop:=∀z∈zs,0≤z∧z < 32
theorem nq.at_ {zs:List Int} (h:nq zs) (j:Nat):∃k:Nat,aC zs j=k∧k < 32:=by
 by_cases hj:j < zs.length
 ·have h1:=h _ (fc hj)
  exact ⟨(aC zs j).toNat,by omega,by omega⟩
 ·exact ⟨0,by simp [aC,List.getElem?_eq_none (Nat.le_of_not_lt hj)],by omega⟩
theorem nq.perm {zs zt:List Int} (h:nq zs) (p:zt.Perm zs):nq zt:=fun z hz=>h z (p.subset hz)
def nF (x y:Int):Int:=(cC x.toNat:Nat) - (cC y.toNat:Nat)
def eE (x y:Int):Bool:=decide (nF x y < 0)
theorem jy {zs:List Int} (h:nq zs) (i j:Nat) (w:World):Calls Tryz.prog 112 #[.int .i64 (aC zs i), .int .i64 (aC zs j)] w fun e w'=>e= .returned (.int .i64 (nF (aC zs i) (aC zs j)))∧w'=w:=by
 obtain ⟨x,hx,hx2⟩:=h.at_ i
 obtain ⟨y,hy,hy2⟩:=h.at_ j
 have:=vA x y hx2 hy2 w
 rw [hx,hy];unfold nF;exact this
set_option maxHeartbeats 800000 in
theorem gg (ao:Option Addr) (n c a b k:Nat) (zs:List Int) (w:World) (base:Nat) (h:Own w base 2 ao n c (zs.map (Value.int .i64))) (hn:n≤1000) (hab:a + k≤b) (hb:b + k≤n) (f:Value):
  Calls Tryz.prog 187 #[.slice ao n c, .int .i64 a, .int .i64 b, .int .i64 k,f] w fun e w'=>e= .returned (.tuple #[])∧∃zt,sK zs zt a b k∧Own w' base 2 ao n c (zt.map (Value.int .i64))∧w.grownBy w' (bk ao):=by
 have hl:zs.length=n:=by have:=h.len;simpa using this
 have HL:=Lib.hid hl
 clear hl
 go_enter Tryz.func187,Tryz.ntmps187
 go_wp2
 go_loopw [10] (fun i wr=>∃(t:Nat) (cur:List Int),t≤k∧i= .int .i64 t∧sK zs cur a b t∧Own wr base 2 ao n c (cur.map (Value.int .i64))∧w.grownBy wr (bk ao)) (fun i _=>(k - intOf i).toNat)
 case atStart=>exact ⟨0,zs,Nat.zero_le _,rfl,sK.refl _ _ _,h,World.grownBy.refl _ _⟩
 case round=>
  obtain ⟨t,cur,ht,rfl,hsw,ho,hg⟩:=hrel
  have HS:=Lib.hid hsw
  have HO:=Lib.hid ho
  have HG:=Lib.hid hg
  clear hsw ho hg
  by_cases hlt:t < k
  ·obtain ⟨g,rfl, -,hgl, -, -, -⟩:=HO.out.form (by omega)
   have hin:a + t < n:=by omega
   have hjn:b + t < n:=by omega
   have e1:IntKind.i64.wrap ((a:Int) + (t:Int))=((a + t:Nat):Int):=by rw [IntWalk.i64_in _ (by omega)];omega
   have e2:IntKind.i64.wrap ((b:Int) + (t:Int))=((b + t:Nat):Int):=by rw [IntWalk.i64_in _ (by omega)];omega
   have hc1:=cS HO.out hin
   have hc2:=cS HO.out hjn
   have hf1:=HO.out.1.frozenAt (a + t)
   have hf2:=HO.out.1.frozenAt (b + t)
   have ho1:Own wr.drew base 2 (some ⟨g,0,none⟩) n c (cur.map (Value.int .i64)):=HO.out
   obtain ⟨s1,t1⟩:=ho1.stored (a + t) (.int .i64 (aC cur (b + t)))
   obtain ⟨s2,t2⟩:=s1.stored (b + t) (.int .i64 (aC cur (a + t)))
   have S2:=Lib.hid s2
   have T1:=Lib.hid t1
   have T2:=Lib.hid t2
   clear s1 t1 s2 t2 ho1
   go_wp2_with fail
   go_region
   go_wp2
   go_roundw
   case rel=>
    refine ⟨t + 1,swp cur (a + t) (b + t),by omega,by go_num,HS.out.step (by omega) (by have:=HS.out.len;have:=HL.out;omega), ?_, ?_⟩
    ·unfold swp;rw [List.map_set,List.map_set];exact S2.out
    ·exact bO HG.out (bO (⟨rfl,rfl,rfl,Nat.le_refl _,fun _ _ _=>rfl⟩:wr.grownBy wr.drew _) (bO T1.out T2.out))
   case measure=>simp [intOf];omega
  ·obtain rfl:t=k:=by omega
   go_wp2
   go_end0
   exact ⟨rfl,cur,HS.out,HO.out,HG.out⟩
theorem xe {x y:Nat} (h:y≤x) (hx:x≤1000000):IntKind.i64.wrap ((x:Int) - (y:Int))=((x - y:Nat):Int):=by rw [IntWalk.i64_in _ (by omega)];omega
theorem xl {x y:Nat} (hx:x≤1000000) (hy:y≤1000000):IntKind.i64.wrap ((x:Int) + (y:Int))=((x + y:Nat):Int):=by rw [IntWalk.i64_in _ (by omega)];omega
set_option maxHeartbeats 800000 in
theorem qh (ao:Option Addr) (n c a m b:Nat) (zs:List Int) (w:World) (base:Nat) (h:Own w base 2 ao n c (zs.map (Value.int .i64))) (hn:n≤1000) (ham:a < m) (hmb:m < b) (hb:b≤n) (f:Value):
  Calls Tryz.prog 179 #[.slice ao n c, .int .i64 a, .int .i64 m, .int .i64 b,f] w fun e w'=>e= .returned (.tuple #[])∧∃zt,rr zs zt a m b∧Own w' base 2 ao n c (zt.map (Value.int .i64))∧w.grownBy w' (bk ao):=by
 have hl:zs.length=n:=by have:=h.len;simpa using this
 have HL:=Lib.hid hl
 clear hl
 have e1:((m:Int) - (a:Int))=((m - a:Nat):Int):=by omega
 have e2:((b:Int) - (m:Int))=((b - m:Nat):Int):=by omega
 go_enter Tryz.func179,Tryz.ntmps179
 go_wp2
 go_loopw [10,11] (fun i j wr=>∃(x y:Nat) (cur:List Int),1≤x∧x≤m - a∧1≤y∧y≤b - m∧i= .int .i64 x∧j= .int .i64 y∧Kept zs cur a b∧ll (pS zs a m b) cur m x y∧Own wr base 2 ao n c (cur.map (Value.int .i64))∧w.grownBy wr (bk ao)) (fun i j _=>(intOf i + intOf j).toNat)
 case atStart=>exact ⟨m - a,b - m,zs,by omega,Nat.le_refl _,by omega,Nat.le_refl _,rfl,rfl,Kept.refl _ _ _,ll.start (by omega) (by omega),h,World.grownBy.refl _ _⟩
 case round=>
  clear e1 e2
  obtain ⟨x,y,cur,hx1,hx,hy1,hy,rfl,rfl,hk,hr,ho,hg⟩:=hrel
  have HK:=Lib.hid hk
  have HR:=Lib.hid hr
  have HO:=Lib.hid ho
  have HG:=Lib.hid hg
  clear hk hr ho hg
  have e1:((m:Int) - (x:Int))=((m - x:Nat):Int):=by omega
  by_cases hxy:x=y
  ·subst hxy
   go_wp2_with fail
   refine (gg ao n c (m - x) m x cur _ base HO.out hn (by omega) (by omega) f).mono ?_
   rintro e w1 ⟨rfl,zt,hs,ho,hg⟩
   go_wp2
   go_end0
   have hs':=HR.out.last (by omega) hs
   exact ⟨rfl,zt,rr.zx (HK.out.trans (hs.kept (by omega) (by omega) (by omega) (by omega))) hs',ho,bO HG.out hg⟩
  ·have hxy':¬((x:Int)=(y:Int)):=by omega
   by_cases hgt:y < x
   ·have e2:((x:Int) - (y:Int))=((x - y:Nat):Int):=by omega
    go_wp2_with fail
    refine (gg ao n c (m - x) m y cur _ base HO.out hn (by omega) (by omega) f).mono ?_
    rintro e w1 ⟨rfl,zt,hs,ho,hg⟩
    go_wp2
    go_roundw
    case rel=>exact ⟨x - y,y,zt,by omega,by omega,hy1,hy,by go_num,rfl,HK.out.trans (hs.kept (by omega) (by omega) (by omega) (by omega)),HR.out.more (by omega) hgt hs,ho,bO HG.out hg⟩
    case measure=>simp [intOf];omega
   ·have e2:((y:Int) - (x:Int))=((y - x:Nat):Int):=by omega
    have e3:((m:Int) + (y:Int)) - (x:Int)=((m + y - x:Nat):Int):=by omega
    go_wp2_with fail
    refine (gg ao n c (m - x) (m + y - x) x cur _ base HO.out hn (by omega) (by omega) f).mono ?_
    rintro e w1 ⟨rfl,zt,hs,ho,hg⟩
    go_wp2
    go_roundw
    case rel=>exact ⟨x,y - x,zt,hx1,hx,by omega,by omega,rfl,by go_num,HK.out.trans (hs.kept (by omega) (by omega) (by omega) (by omega)),HR.out.yV (by omega) (by omega) hs,ho,bO HG.out hg⟩
    case measure=>simp [intOf];omega
end Go.Proofs.YtekbhbcgoadciaaGreat
