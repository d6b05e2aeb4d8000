/- FixedNodes, the reference's. guards: -/
import Derived.Test.YtekbhbcgoadciaaGreatPart7
import Derived.Test.YtekbhbcgoadciaaGreatPart6
import Derived.Test.YtekbhbcgoadciaaGreatPart1
import Derived.Test.YtekbhbcgoadciaaGreatPart3
namespace Go.Proofs.YtekbhbcgoadciaaGreat
open Go.RowKit
section
variable {P:Program} {nt:Nat} {S:St} {w0:World} {ω0:g9} {Q:Exit→Act→World→Prop} {ops:Array Oper} {rest:List Oper} {o:Oper}
theorem cZ {j d t:Nat} {want:Bool} (hg:o.guard=some (j,want)) (hj:(ops[j]?).bind (·.dst)=some d) (hb:S.sl d=some (vv undef)) (ht:o.dst=some t) (hn:Nat.blt t nt=true) (k:oC P w0 ω0 nt ops Q (S.put t (vv undef)) rest):oC P w0 ω0 nt ops Q S (o :: rest):=by
 refine ⟨fun a w hs=> ?_⟩
 have hy:yielded ops a.tmps j=none:=by
  obtain ⟨η,ω,hs⟩:=hs
  obtain ⟨u,k1,k2⟩:=hs.slots d _ hb
  have k2:u=undef:=k2
  subst k2
  unfold yielded
  cases hoj:ops[j]? with
  | none=>rw [hoj] at hj;cases hj
  | some oj=>
   rw [hoj] at hj
   simp only [Option.bind_some] at hj
   simp [hj,k1,undef]
 refine wpList_step fun K hK=> ?_
 rw [if_neg (by simp [Region.wanted,hg,hy])]
 obtain ⟨η,ω,hs⟩:=hs
 exact hK _ _ (k.go _ _ ⟨η,ω,by rw [ht];exact hs.fi (by simpa using hn) rfl⟩)
end
set_option maxRecDepth 100000 in
set_option maxHeartbeats 2000000 in
theorem wB (zs:List Int) (L r set:Nat) (hL:zs.length=L) (h4:L≤4) (hr:r < 1000) (hs:set < 1000):
  FC Tryz.prog 87 [(1003,cf zs)] [o1 (.sl 1003 0 L),vv (I6 r),vv (I6 set)] [] (vv (I6 (iW zs r set:Nat))) []:=by
 have hR:=gw zs L h4
 have hil:L≤(aH zs).length:=by rw [aO,hL];exact Nat.le_refl _
 have hss:set < 1000000:=by omega
 have hrr:r < 1000000:=by omega
 have hor:(set ||| r) < 1000000:=by have:=Nat.or_lt_two_pow (n:=10) (x:=set) (y:=r) (by omega) (by omega);omega
 unfold iW
 rw [hL]
 refine a5 (nt:=77) Tryz.func87 rfl rfl (by simp) fun w0 ω0=> ?_
 (refine aj ?_;refine ag ?_;apply ae rfl;(exact ai rfl rfl);refine aq ?_;refine an ?_;refine aj ?_;refine ag ?_;apply ae rfl;(exact ai rfl rfl);refine aq ?_;refine an ?_;refine aj ?_;refine aj ?_;refine ag ?_;apply ae rfl;(exact ai rfl rfl);refine aq ?_;refine an ?_;refine aD ?_)
 refine bx (fun i:Nat=>St.of [(0,o1 (.sl 1003 0 L)),(1,vv (I6 r)),(2,vv (I6 set)),(7,vv (I6 (eT zs r set i:Nat))),(8,vv (I6 i))] [(1003,cf zs)]) (fun i=>i≤L + 1) (fun i=>L + 1 - i) 0 (Nat.zero_le _) (Wk.of ⟨rfl,rfl,rfl,rfl,rfl,trivial⟩ ⟨rfl,trivial⟩ trivial) ?_
 rintro i hi
 (refine aj ?_;refine aj ?_;refine ag ?_;apply ae rfl;(exact ah rfl rfl);apply ae rfl;(exact ah rfl rfl);apply ae rfl;(apply ar 50;exact au hR (by as_aux_lemma=>kernel_rfl) rfl rfl ⟨rfl,trivial⟩ ⟨⟨_,rfl, .inl rfl⟩,trivial⟩ rfl rfl);apply ae rfl;(exact aB rfl rfl rfl rfl);refine aq ?_;refine an ?_)
 refine bM rfl (fun hlt=> ?_) (fun hlt=> ?_)
 ·have hiL:i≤L:=by omega
  have hi64:i≤64:=by omega
  have hi5:i≤5:=by omega
  have hfl:=tN zs r set i
  have h2i:2 ^ i≤2 ^ 5:=Nat.pow_le_pow_right (by decide) hi5
  have hb1:eT zs r set i < 1000000:=by omega
  have hb2:2 ^ i < 1000000:=by omega
  have hcv:IntKind.u64.wrap (i:Int)=(i:Int):=by rw [IntKind.wrap_u64];omega
  (repeat (first | refine aj ?_ | refine an ?_ | refine aG ?_ | refine aD ?_ | refine aI ?_ | refine a6 ?_ | refine aP ?_ | refine bP rfl ?_ | refine aE ?_))
  refine cq (St.of [(0,o1 (.sl 1003 0 L)),(1,vv (I6 r)),(2,vv (I6 set)),(7,vv (I6 (eT zs r set i:Nat))),(8,vv (I6 i)),(9,vv (.bool (ud zs set i)))] [(1003,cf zs)]) ?_ ?_
  ·refine ag ?_
   (apply ae rfl;(exact ah rfl rfl);apply ae rfl;(exact aB rfl rfl rfl rfl);apply ae rfl;(exact ah rfl rfl))
   refine bH 18 rfl (fun h1=> ?_) (fun h1=> ?_)
   ·have hi0:0 < i:=by have:=of_decide_eq_true h1;omega
    have hsb:IntKind.i64.wrap ((i:Int) - 1)=((i - 1:Nat):Int):=(IntWalk.i64_in _ (by omega)).trans (by omega)
    have hcv1:IntKind.u64.wrap ((i - 1:Nat):Int)=((i - 1:Nat):Int):=by rw [IntKind.wrap_u64];omega
    have hi64':i - 1≤64:=by omega
    (apply aw rfl rfl rfl;(exact ah rfl rfl);apply aw rfl rfl rfl;(exact ah rfl rfl);apply aw rfl rfl rfl;(first | exact bf rfl rfl rfl hsb | exact aN rfl rfl (by as_aux_lemma=>kernel_rfl) (by as_aux_lemma=>kernel_rfl) hcv1 | exact bn (g:=i - 1) rfl rfl rfl hi64' | exact bB rfl rfl hss | exact bT rfl rfl);apply aw rfl rfl rfl;(first | exact bf rfl rfl rfl hsb | exact aN rfl rfl (by as_aux_lemma=>kernel_rfl) (by as_aux_lemma=>kernel_rfl) hcv1 | exact bn (g:=i - 1) rfl rfl rfl hi64' | exact bB rfl rfl hss | exact bT rfl rfl);apply aw rfl rfl rfl;(first | exact bf rfl rfl rfl hsb | exact aN rfl rfl (by as_aux_lemma=>kernel_rfl) (by as_aux_lemma=>kernel_rfl) hcv1 | exact bn (g:=i - 1) rfl rfl rfl hi64' | exact bB rfl rfl hss | exact bT rfl rfl);apply aw rfl rfl rfl;(first | exact bf rfl rfl rfl hsb | exact aN rfl rfl (by as_aux_lemma=>kernel_rfl) (by as_aux_lemma=>kernel_rfl) hcv1 | exact bn (g:=i - 1) rfl rfl rfl hi64' | exact bB rfl rfl hss | exact bT rfl rfl);apply aw rfl rfl rfl;(first | exact bf rfl rfl rfl hsb | exact aN rfl rfl (by as_aux_lemma=>kernel_rfl) (by as_aux_lemma=>kernel_rfl) hcv1 | exact bn (g:=i - 1) rfl rfl rfl hi64' | exact bB rfl rfl hss | exact bT rfl rfl);apply ae rfl;(exact aY rfl rfl rfl);apply ae rfl;(exact ah rfl rfl))
    refine bH 27 rfl (fun h2=> ?_) (fun h2=> ?_)
    ·have gz:(aH zs)[i - 1]? =some (I6 (aC zs (i - 1))):=aR (by omega)
     have hv:ud zs set i=(aC zs (i - 1) != 2):=by unfold ud;rw [decide_eq_true hi0,h2];rfl
     rw [hv]
     (apply aw rfl rfl rfl;(exact ah rfl rfl);apply aw rfl rfl rfl;(exact ah rfl rfl);apply aw rfl rfl rfl;(first | exact bf rfl rfl rfl hsb | exact aS (j:=i - 1) rfl rfl rfl rfl rfl (by as_aux_lemma=>kernel_rfl) rfl (by omega) hil | exact aV rfl (by as_aux_lemma=>kernel_rfl) rfl rfl rfl gz);apply aw rfl rfl rfl;(first | exact bf rfl rfl rfl hsb | exact aS (j:=i - 1) rfl rfl rfl rfl rfl (by as_aux_lemma=>kernel_rfl) rfl (by omega) hil | exact aV rfl (by as_aux_lemma=>kernel_rfl) rfl rfl rfl gz);apply aw rfl rfl rfl;(first | exact bf rfl rfl rfl hsb | exact aS (j:=i - 1) rfl rfl rfl rfl rfl (by as_aux_lemma=>kernel_rfl) rfl (by omega) hil | exact aV rfl (by as_aux_lemma=>kernel_rfl) rfl rfl rfl gz);apply aw rfl rfl rfl;(exact aB rfl rfl rfl rfl);apply ae rfl;(exact aY rfl rfl rfl);apply ae rfl;(exact ai rfl rfl);refine aq ?_)
     exact aU (Wk.of ⟨rfl,rfl,rfl,rfl,rfl,rfl,trivial⟩ ⟨rfl,trivial⟩ trivial)
    ·have hv:ud zs set i=false:=by unfold ud;rw [h2];simp
     rw [hv]
     (apply aA rfl rfl rfl rfl rfl;apply aA rfl rfl rfl rfl rfl;apply aA rfl rfl rfl rfl rfl;apply aA rfl rfl rfl rfl rfl;apply aA rfl rfl rfl rfl rfl;apply aA rfl rfl rfl rfl rfl;apply ae rfl;(exact a7 rfl rfl rfl);apply ae rfl;(exact ai rfl rfl);refine aq ?_)
     exact aU (Wk.of ⟨rfl,rfl,rfl,rfl,rfl,rfl,trivial⟩ ⟨rfl,trivial⟩ trivial)
   ·have hv:ud zs set i=false:=by
     have:¬0 < i:=by have:=of_decide_eq_false h1;omega
     unfold ud;rw [decide_eq_false this];rfl
    rw [hv]
    (apply aA rfl rfl rfl rfl rfl;apply aA rfl rfl rfl rfl rfl;apply aA rfl rfl rfl rfl rfl;apply aA rfl rfl rfl rfl rfl;apply aA rfl rfl rfl rfl rfl;apply aA rfl rfl rfl rfl rfl;apply aA rfl rfl rfl rfl rfl;apply ae rfl;(exact a7 rfl rfl rfl);apply ae rfl;(exact ah rfl rfl);apply aA rfl rfl rfl rfl rfl;apply aA rfl rfl rfl rfl rfl;apply aA rfl rfl rfl rfl rfl;apply aA rfl rfl rfl rfl rfl;apply aA rfl rfl rfl rfl rfl;apply aA rfl rfl rfl rfl rfl;apply ae rfl;(exact a7 rfl rfl rfl);apply ae rfl;(exact ai rfl rfl);refine aq ?_)
    exact aU (Wk.of ⟨rfl,rfl,rfl,rfl,rfl,rfl,trivial⟩ ⟨rfl,trivial⟩ trivial)
  (repeat (first | refine aj ?_ | refine an ?_ | refine aG ?_ | refine aD ?_ | refine aI ?_ | refine a6 ?_ | refine aP ?_ | refine bP rfl ?_ | refine aE ?_))
  refine cq (St.of [(0,o1 (.sl 1003 0 L)),(1,vv (I6 r)),(2,vv (I6 set)),(7,vv (I6 (eT zs r set i:Nat))),(8,vv (I6 i)),(9,vv (.bool (ud zs set i || wy zs set i)))] [(1003,cf zs)]) ?_ ?_
  ·refine ag ?_
   have hw1:IntKind.i64.wrap ((i:Int) + 1)=((i + 1:Nat):Int):=(IntWalk.i64_in _ (by omega)).trans (by omega)
   have hcv1:IntKind.u64.wrap ((i + 1:Nat):Int)=((i + 1:Nat):Int):=by rw [IntKind.wrap_u64];omega
   have hi64':i + 1≤64:=by omega
   cases hnl:ud zs set i with
   | true=>
    rw [Bool.true_or]
    (apply ae rfl;(exact ah rfl rfl);apply ae rfl;(exact ah rfl rfl);apply aA rfl rfl rfl rfl rfl;apply aA rfl rfl rfl rfl rfl;apply aA rfl rfl rfl rfl rfl;apply aA rfl rfl rfl rfl rfl;apply aA rfl rfl rfl rfl rfl;apply aA rfl rfl rfl rfl rfl)
    (apply cZ rfl rfl rfl rfl rfl)
    (apply cZ rfl rfl rfl rfl rfl)
    (apply cZ rfl rfl rfl rfl rfl)
    (apply cZ rfl rfl rfl rfl rfl)
    (apply cZ rfl rfl rfl rfl rfl)
    (apply cZ rfl rfl rfl rfl rfl)
    (apply cZ rfl rfl rfl rfl rfl)
    (apply aA rfl rfl rfl rfl rfl;apply aA rfl rfl rfl rfl rfl)
    (apply cZ rfl rfl rfl rfl rfl)
    (apply cZ rfl rfl rfl rfl rfl)
    (apply cZ rfl rfl rfl rfl rfl)
    (apply cZ rfl rfl rfl rfl rfl)
    (apply cZ rfl rfl rfl rfl rfl)
    (apply aA rfl rfl rfl rfl rfl;apply ae rfl;(exact aY rfl rfl rfl);apply ae rfl;(exact ai rfl rfl);refine aq ?_)
    exact aU (Wk.of ⟨rfl,rfl,rfl,rfl,rfl,rfl,trivial⟩ ⟨rfl,trivial⟩ trivial)
   | false=>
    rw [Bool.false_or]
    (apply ae rfl;(exact ah rfl rfl);apply ae rfl;(exact ah rfl rfl);apply aw rfl rfl rfl;(exact ah rfl rfl);apply aw rfl rfl rfl;(first | exact aJ rfl rfl rfl hw1 | (apply ar 50;exact au hR (by as_aux_lemma=>kernel_rfl) rfl rfl ⟨rfl,trivial⟩ ⟨⟨_,rfl, .inl rfl⟩,trivial⟩ rfl rfl));apply aw rfl rfl rfl;(exact ah rfl rfl);apply aw rfl rfl rfl;(first | exact aJ rfl rfl rfl hw1 | (apply ar 50;exact au hR (by as_aux_lemma=>kernel_rfl) rfl rfl ⟨rfl,trivial⟩ ⟨⟨_,rfl, .inl rfl⟩,trivial⟩ rfl rfl));apply aw rfl rfl rfl;(exact aB rfl rfl rfl rfl);apply aw rfl rfl rfl;(exact ah rfl rfl))
    refine bH 42 rfl (fun h1=> ?_) (fun h1=> ?_)
    ·have hi0:i + 1 < L + 1:=by have:=of_decide_eq_true h1;omega
     (apply aw rfl rfl rfl;(exact ah rfl rfl);apply aw rfl rfl rfl;(exact ah rfl rfl);apply aw rfl rfl rfl;(first | exact aJ rfl rfl rfl hw1 | exact aN rfl rfl (by as_aux_lemma=>kernel_rfl) (by as_aux_lemma=>kernel_rfl) hcv1 | exact bn (g:=i + 1) rfl rfl rfl hi64' | exact bB rfl rfl hss | exact bT rfl rfl);apply aw rfl rfl rfl;(first | exact aJ rfl rfl rfl hw1 | exact aN rfl rfl (by as_aux_lemma=>kernel_rfl) (by as_aux_lemma=>kernel_rfl) hcv1 | exact bn (g:=i + 1) rfl rfl rfl hi64' | exact bB rfl rfl hss | exact bT rfl rfl);apply aw rfl rfl rfl;(first | exact aJ rfl rfl rfl hw1 | exact aN rfl rfl (by as_aux_lemma=>kernel_rfl) (by as_aux_lemma=>kernel_rfl) hcv1 | exact bn (g:=i + 1) rfl rfl rfl hi64' | exact bB rfl rfl hss | exact bT rfl rfl);apply aw rfl rfl rfl;(first | exact aJ rfl rfl rfl hw1 | exact aN rfl rfl (by as_aux_lemma=>kernel_rfl) (by as_aux_lemma=>kernel_rfl) hcv1 | exact bn (g:=i + 1) rfl rfl rfl hi64' | exact bB rfl rfl hss | exact bT rfl rfl);apply aw rfl rfl rfl;(first | exact aJ rfl rfl rfl hw1 | exact aN rfl rfl (by as_aux_lemma=>kernel_rfl) (by as_aux_lemma=>kernel_rfl) hcv1 | exact bn (g:=i + 1) rfl rfl rfl hi64' | exact bB rfl rfl hss | exact bT rfl rfl);apply aw rfl rfl rfl;(exact aY rfl rfl rfl);apply aw rfl rfl rfl;(exact ah rfl rfl))
     refine bH 51 rfl (fun h2=> ?_) (fun h2=> ?_)
     ·have gz:(aH zs)[i]? =some (I6 (aC zs i)):=aR (by omega)
      have hv:wy zs set i=(aC zs i != 2):=by unfold wy;rw [hL,decide_eq_true hi0,h2];rfl
      rw [hv]
      (apply aw rfl rfl rfl;(exact ah rfl rfl);apply aw rfl rfl rfl;(exact ah rfl rfl);apply aw rfl rfl rfl;(first | exact aS (j:=i) rfl rfl rfl rfl rfl (by as_aux_lemma=>kernel_rfl) rfl (by omega) hil | exact aV rfl (by as_aux_lemma=>kernel_rfl) rfl rfl rfl gz);apply aw rfl rfl rfl;(first | exact aS (j:=i) rfl rfl rfl rfl rfl (by as_aux_lemma=>kernel_rfl) rfl (by omega) hil | exact aV rfl (by as_aux_lemma=>kernel_rfl) rfl rfl rfl gz);apply aw rfl rfl rfl;(exact aB rfl rfl rfl rfl);apply aw rfl rfl rfl;(exact aY rfl rfl rfl);apply ae rfl;(exact a7 rfl rfl rfl);apply ae rfl;(exact ai rfl rfl);refine aq ?_)
      exact aU (Wk.of ⟨rfl,rfl,rfl,rfl,rfl,rfl,trivial⟩ ⟨rfl,trivial⟩ trivial)
     ·have hv:wy zs set i=false:=by unfold wy;rw [h2];simp
      rw [hv]
      (apply aA rfl rfl rfl rfl rfl;apply aA rfl rfl rfl rfl rfl;apply aA rfl rfl rfl rfl rfl;apply aA rfl rfl rfl rfl rfl;apply aA rfl rfl rfl rfl rfl;apply aw rfl rfl rfl;(exact a7 rfl rfl rfl);apply ae rfl;(exact a7 rfl rfl rfl);apply ae rfl;(exact ai rfl rfl);refine aq ?_)
      exact aU (Wk.of ⟨rfl,rfl,rfl,rfl,rfl,rfl,trivial⟩ ⟨rfl,trivial⟩ trivial)
    ·have hv:wy zs set i=false:=by
      have:¬i + 1 < L + 1:=by have:=of_decide_eq_false h1;omega
      unfold wy;rw [hL,decide_eq_false this];rfl
     rw [hv]
     (apply aA rfl rfl rfl rfl rfl;apply aA rfl rfl rfl rfl rfl;apply aA rfl rfl rfl rfl rfl;apply aA rfl rfl rfl rfl rfl;apply aA rfl rfl rfl rfl rfl;apply aA rfl rfl rfl rfl rfl;apply aA rfl rfl rfl rfl rfl;apply aw rfl rfl rfl;(exact a7 rfl rfl rfl);apply aw rfl rfl rfl;(exact ah rfl rfl);apply aA rfl rfl rfl rfl rfl;apply aA rfl rfl rfl rfl rfl;apply aA rfl rfl rfl rfl rfl;apply aA rfl rfl rfl rfl rfl;apply aA rfl rfl rfl rfl rfl;apply aw rfl rfl rfl;(exact a7 rfl rfl rfl);apply ae rfl;(exact a7 rfl rfl rfl);apply ae rfl;(exact ai rfl rfl);refine aq ?_)
     exact aU (Wk.of ⟨rfl,rfl,rfl,rfl,rfl,rfl,trivial⟩ ⟨rfl,trivial⟩ trivial)
  cases hm:dM (set ||| r) i with
  | true=>
   have hfx:mB zs r set i=false:=by unfold mB;rw [hm];rfl
   have hv:eT zs r set (i + 1)=eT zs r set i:=by rw [eT,if_neg (by rw [hfx];simp)]
   have hq:((((set ||| r) / 2 ^ i &&& 1:Nat):Int) == 0)=false:=by
    have:=nU (set ||| r) i
    rw [hm] at this
    have h1:(((set ||| r) / 2 ^ i &&& 1:Nat):Int)=1:=by simpa using this
    rw [h1];rfl
   have hbe:df .i64 .eql (((set ||| r) / 2 ^ i &&& 1:Nat):Int) 0=some (.bool false):=by
    show some (Value.bool _)=_
    rw [hq]
   (refine an ?_;refine aj ?_;refine ag ?_;apply ae rfl;(exact ah rfl rfl);apply ae rfl;(exact ah rfl rfl);apply ae rfl;(first | exact cY rfl rfl rfl hss hrr | exact aN rfl rfl (by as_aux_lemma=>kernel_rfl) (by as_aux_lemma=>kernel_rfl) hcv | exact bn (g:=i) rfl rfl rfl hi64 | exact bB rfl rfl hor | exact aB rfl rfl rfl hbe);apply ae rfl;(exact ah rfl rfl);apply ae rfl;(first | exact cY rfl rfl rfl hss hrr | exact aN rfl rfl (by as_aux_lemma=>kernel_rfl) (by as_aux_lemma=>kernel_rfl) hcv | exact bn (g:=i) rfl rfl rfl hi64 | exact bB rfl rfl hor | exact aB rfl rfl rfl hbe);apply ae rfl;(first | exact cY rfl rfl rfl hss hrr | exact aN rfl rfl (by as_aux_lemma=>kernel_rfl) (by as_aux_lemma=>kernel_rfl) hcv | exact bn (g:=i) rfl rfl rfl hi64 | exact bB rfl rfl hor | exact aB rfl rfl rfl hbe);apply ae rfl;(first | exact cY rfl rfl rfl hss hrr | exact aN rfl rfl (by as_aux_lemma=>kernel_rfl) (by as_aux_lemma=>kernel_rfl) hcv | exact bn (g:=i) rfl rfl rfl hi64 | exact bB rfl rfl hor | exact aB rfl rfl rfl hbe);apply ae rfl;(first | exact cY rfl rfl rfl hss hrr | exact aN rfl rfl (by as_aux_lemma=>kernel_rfl) (by as_aux_lemma=>kernel_rfl) hcv | exact bn (g:=i) rfl rfl rfl hi64 | exact bB rfl rfl hor | exact aB rfl rfl rfl hbe);apply ae rfl;(exact ah rfl rfl);apply aA rfl rfl rfl rfl rfl;apply aA rfl rfl rfl rfl rfl;apply ae rfl;(exact a7 rfl rfl rfl);refine aq ?_;refine an ?_)
   refine ax rfl (fun e=>by cases e) (fun _=> ?_)
   (refine aG ?_;refine aI ?_;refine an ?_;refine ag ?_;apply ae rfl;(exact ah rfl rfl);apply ae rfl;(exact aJ rfl rfl rfl (by first | exact IntWalk.i64_in _ (by omega) | rfl));apply ae rfl;(exact ai rfl rfl);refine aq ?_)
   exact aX (i + 1) (by omega) (by omega) (Wk.of ⟨rfl,rfl,rfl,congrArg (fun z:Nat=>some (vv (I6 (z:Int)))) hv.symm,rfl,trivial⟩ ⟨rfl,trivial⟩ trivial)
  | false=>
   have hq:((((set ||| r) / 2 ^ i &&& 1:Nat):Int) == 0)=true:=by
    have h1:=jF (set ||| r) i
    unfold gq at h1
    have:=nU (set ||| r) i
    rw [hm] at this
    have h2:(((set ||| r) / 2 ^ i &&& 1:Nat):Int)≠1:=by simpa using this
    have h3:(set ||| r) / 2 ^ i &&& 1=0:=by omega
    rw [h3];rfl
   have hbe:df .i64 .eql (((set ||| r) / 2 ^ i &&& 1:Nat):Int) 0=some (.bool true):=by
    show some (Value.bool _)=_
    rw [hq]
   (refine an ?_;refine aj ?_;refine ag ?_;apply ae rfl;(exact ah rfl rfl);apply ae rfl;(exact ah rfl rfl);apply ae rfl;(first | exact cY rfl rfl rfl hss hrr | exact aN rfl rfl (by as_aux_lemma=>kernel_rfl) (by as_aux_lemma=>kernel_rfl) hcv | exact bn (g:=i) rfl rfl rfl hi64 | exact bB rfl rfl hor | exact aB rfl rfl rfl hbe);apply ae rfl;(exact ah rfl rfl);apply ae rfl;(first | exact cY rfl rfl rfl hss hrr | exact aN rfl rfl (by as_aux_lemma=>kernel_rfl) (by as_aux_lemma=>kernel_rfl) hcv | exact bn (g:=i) rfl rfl rfl hi64 | exact bB rfl rfl hor | exact aB rfl rfl rfl hbe);apply ae rfl;(first | exact cY rfl rfl rfl hss hrr | exact aN rfl rfl (by as_aux_lemma=>kernel_rfl) (by as_aux_lemma=>kernel_rfl) hcv | exact bn (g:=i) rfl rfl rfl hi64 | exact bB rfl rfl hor | exact aB rfl rfl rfl hbe);apply ae rfl;(first | exact cY rfl rfl rfl hss hrr | exact aN rfl rfl (by as_aux_lemma=>kernel_rfl) (by as_aux_lemma=>kernel_rfl) hcv | exact bn (g:=i) rfl rfl rfl hi64 | exact bB rfl rfl hor | exact aB rfl rfl rfl hbe);apply ae rfl;(first | exact cY rfl rfl rfl hss hrr | exact aN rfl rfl (by as_aux_lemma=>kernel_rfl) (by as_aux_lemma=>kernel_rfl) hcv | exact bn (g:=i) rfl rfl rfl hi64 | exact bB rfl rfl hor | exact aB rfl rfl rfl hbe);apply ae rfl;(exact ah rfl rfl);apply aw rfl rfl rfl;(exact ah rfl rfl);apply aw rfl rfl rfl;(exact bK rfl rfl);apply ae rfl;(exact aY rfl rfl rfl);refine aq ?_;refine an ?_)
   refine ax rfl (fun h=> ?_) (fun h=> ?_)
   ·have hfx:mB zs r set i=true:=by unfold mB;rw [hm];exact h
    have hv:eT zs r set (i + 1)=eT zs r set i ||| 2 ^ i:=by rw [eT,if_pos hfx]
    (refine ag ?_;apply ae rfl;(exact ah rfl rfl);apply ae rfl;(exact ah rfl rfl);apply ae rfl;(first | exact aN rfl rfl (by as_aux_lemma=>kernel_rfl) (by as_aux_lemma=>kernel_rfl) hcv | exact dv (g:=i) rfl rfl rfl hi5 | exact cY rfl rfl rfl hb1 hb2);apply ae rfl;(first | exact aN rfl rfl (by as_aux_lemma=>kernel_rfl) (by as_aux_lemma=>kernel_rfl) hcv | exact dv (g:=i) rfl rfl rfl hi5 | exact cY rfl rfl rfl hb1 hb2);apply ae rfl;(first | exact aN rfl rfl (by as_aux_lemma=>kernel_rfl) (by as_aux_lemma=>kernel_rfl) hcv | exact dv (g:=i) rfl rfl rfl hi5 | exact cY rfl rfl rfl hb1 hb2);apply ae rfl;(exact ai rfl rfl);refine aq ?_;refine aI ?_;refine an ?_;refine ag ?_;apply ae rfl;(exact ah rfl rfl);apply ae rfl;(exact aJ rfl rfl rfl (by first | exact IntWalk.i64_in _ (by omega) | rfl));apply ae rfl;(exact ai rfl rfl);refine aq ?_)
    exact aX (i + 1) (by omega) (by omega) (Wk.of ⟨rfl,rfl,rfl,congrArg (fun z:Nat=>some (vv (I6 (z:Int)))) hv.symm,rfl,trivial⟩ ⟨rfl,trivial⟩ trivial)
   ·have hfx:mB zs r set i=false:=by unfold mB;rw [hm];exact h
    have hv:eT zs r set (i + 1)=eT zs r set i:=by rw [eT,if_neg (by rw [hfx];simp)]
    (refine aG ?_;refine aI ?_;refine an ?_;refine ag ?_;apply ae rfl;(exact ah rfl rfl);apply ae rfl;(exact aJ rfl rfl rfl (by first | exact IntWalk.i64_in _ (by omega) | rfl));apply ae rfl;(exact ai rfl rfl);refine aq ?_)
    exact aX (i + 1) (by omega) (by omega) (Wk.of ⟨rfl,rfl,rfl,congrArg (fun z:Nat=>some (vv (I6 (z:Int)))) hv.symm,rfl,trivial⟩ ⟨rfl,trivial⟩ trivial)
 ·obtain rfl:i=L + 1:=by omega
  (refine a6 ?_;refine aE ?_;refine aE ?_;refine aP ?_;refine an ?_;refine aj ?_;refine ag ?_;apply ae rfl;(exact ah rfl rfl);apply ae rfl;(exact ai rfl rfl);refine aq ?_;refine an ?_;refine aK ?_)
  exact aW (.inl rfl) rfl (.tmp rfl) trivial trivial
end Go.Proofs.YtekbhbcgoadciaaGreat
namespace Go.Proofs.YtekbhbcgoadciaaGreat
open Go.RowKit
theorem yM {η:Env} {a b c:AV} {u v x:Value} (h:Den η a u) (h':Den η b v) (h'':Den η c x):fz η [a,b,c] [u,v,x]:=⟨rfl,fun j av hj=>by
 match j,hj with
 | 0,hj=>simp at hj;subst hj;exact ⟨u,rfl,h⟩
 | 1,hj=>simp at hj;subst hj;exact ⟨v,rfl,h'⟩
 | 2,hj=>simp at hj;subst hj;exact ⟨x,rfl,h''⟩⟩
theorem j9 {f:FuncId} {outs:List (Nm×Ch)} {res:AV} {zs:List Int} (m s:Int) (hf:zs.length≤4398046511104→FC Tryz.prog f [(1003,cf zs)] [o1 (.sl 1003 0 zs.length),vv (I6 m),vv (I6 s)] outs res []) {E:Nat} {w:World} {lo hi:Nat} {v:Value} (h:dZ E w lo hi v zs):
  Calls Tryz.prog f #[v, .int .i64 m, .int .i64 s] w fun e w'=>∃v η ω,e= .returned v∧Den η res v∧Mem η ω w' (fun x=>lk x outs)∧Below w.heap.size w w'∧∀b,b < w.heap.size→ω b=none:=by
 obtain ⟨hd,r,rfl,hv⟩:=zd 1003 2 h.1
 exact (hf (vu h.1)).call (l:= [(1003,(cf zs,hd,r))]) (us:= [_,_,_]) (fun p hp=>by simp at hp;subst hp;exact hv) rfl (yM (qx (q:=(cf zs,hd,r)) rfl) rfl rfl)
end Go.Proofs.YtekbhbcgoadciaaGreat
namespace Go.Proofs.YtekbhbcgoadciaaGreat
def iB (labs:List Int):Prop:=(cO labs).length≠0
theorem mZ {labs:List Int} (h:iB labs) (h4:labs.length≤4):labs.length≤1∨labs∈([[3,5], [5,3], [3,3,5], [5,3,3], [3,4,3], [3,3], [3,3,3], [3,3,3,3], [4,3], [4,3,3], [4,3,3,3], [3,4], [3,3,4], [3,3,3,4]]:List (List Int)):=by
 by_cases h1:labs.length≤1
 ·exact .inl h1
 right
 unfold iB cO at h
 rw [if_neg (by omega),if_neg (by omega)] at h
 split at h
 ·rename_i e;rcases dx.1 e with rfl | rfl<;>decide
 split at h
 ·rename_i e;rcases dx.1 e with rfl | rfl<;>decide
 split at h
 ·rename_i e;rcases dx.1 e with rfl | rfl<;>decide
 split at h
 ·rename_i e
  rcases (by omega:labs.length=2∨labs.length=3∨labs.length=4) with e2 | e2 | e2<;>(rw [e,e2];decide)
 split at h
 ·rename_i e
  rcases dx.1 e with e | e<;>rcases (by omega:labs.length=2∨labs.length=3∨labs.length=4) with e2 | e2 | e2<;>(rw [e,e2];decide)
 ·exact absurd rfl h
theorem ni {labs:List Int} (h:labs.length=0):iB labs:=by
 rw [List.length_eq_zero_iff.1 h];unfold iB;decide
theorem rH {labs:List Int} (h:iB labs) (h4:labs.length≤4):iB labs.tail∧iB labs.dropLast:=by
 rcases mZ h h4 with h1 | h1
 ·exact ⟨ni (by rw [List.length_tail];omega),ni (by rw [List.length_dropLast];omega)⟩
 ·simp only [List.mem_cons,List.not_mem_nil,or_false] at h1
  unfold iB
  rcases h1 with rfl | rfl | rfl | rfl | rfl | rfl | rfl | rfl | rfl | rfl | rfl | rfl | rfl | rfl<;>decide
theorem mW:∀(t a:List Int),(a ++ t).length≤4→iB (a ++ t)→iB a
 | [],a,_,h=>by rwa [List.append_nil] at h
 | x :: t,a,h4,h=>by
  have e:a ++ x :: t=(a ++ [x]) ++ t:=by simp
  rw [e] at h h4
  have h1:=mW t (a ++ [x]) h4 h
  have h2:=(rH h1 (by rw [List.length_append] at h4;omega)).2
  rwa [List.dropLast_concat] at h2
theorem pw:∀(s a:List Int),(s ++ a).length≤4→iB (s ++ a)→iB a
 | [],a,_,h=>h
 | x :: s,a,h4,h=>pw s a (by simp at h4 ⊢;omega) (rH h h4).1
theorem mX {a b:List Int} (hi:a <:+:b) (h4:b.length≤4) (h:iB b):iB a:=by
 obtain ⟨s,t,rfl⟩:=hi
 have h1:=mW t (s ++ a) h4 h
 exact pw s a (by rw [List.length_append] at h4;omega) h1
theorem jT {zs:List Int} {i:Nat} (hi:i≤zs.length):dM (bg zs) i=true:=by
 rw [gn];unfold bg;rw [Nat.testBit_two_pow_sub_one];simp;omega
structure yi (ps qs:cT) (last:Bool):Prop where
 inf:∀p∈ps,∃q∈qs,p.2 <:+:q.2
 suf:last=true→∃ps' p qs' q,ps=ps' ++ [p]∧qs=qs' ++ [q]∧p.2 <:+ q.2
theorem jN (qs:cT) (p x:Nat×List Int):(qs ++ [p]).set ((qs ++ [p]).length - 1) x=qs ++ [x]:=by
 rw [show (qs ++ [p]).length - 1=qs.length by simp,List.set_append_right _ _ (Nat.le_refl _)];simp
theorem iP (qs:cT) (p:Nat×List Int):cx (qs ++ [p]) ((qs ++ [p]).length - 1)=p:=by
 rw [show (qs ++ [p]).length - 1=qs.length by simp,eM (by simp)];simp
theorem pieces {zs:List Int} (set:Nat):∀i,i≤zs.length + 1→yi (eA zs set i) (eA zs (bg zs) i) (decide (0 < i) && dM set (i - 1))
 | 0,_=>⟨fun p hp=>(nomatch hp),fun h=>by simp at h⟩
 | i + 1,hi=>by
  have ih:=pieces (zs:=zs) set i (by omega)
  have hb:=jT (zs:=zs) (i:=i) (by omega)
  have hok:=jf zs (bg zs) i (by omega)
  have hq:(jn zs (bg zs) i=true∧∃qs' q,eA zs (bg zs) i=qs' ++ [q]∧eA zs (bg zs) (i + 1)=qs' ++ [(q.1 ||| 2 ^ i,q.2 ++ [aC zs (i - 1)])])∨(jn zs (bg zs) i=false∧eA zs (bg zs) (i + 1)=eA zs (bg zs) i ++ [(2 ^ i, [])]):=by
   rw [eh];unfold fN;rw [if_pos hb]
   cases hj:jn zs (bg zs) i with
   | true=>
    left
    refine ⟨rfl, ?_⟩
    have hs:=fZ hj
    have hne:=hok.ne hs.1 hs.2.1
    rcases gX (eA zs (bg zs) i) with e | ⟨qs',q,e⟩
    ·rw [e] at hne;exact absurd hne (by simp)
    ·refine ⟨qs',q,e, ?_⟩
     rw [if_pos rfl,e];unfold jP;rw [jN,iP]
   | false=>right;exact ⟨rfl,by rw [if_neg (by simp)]⟩
  have j0:∀p:Nat×List Int,(∃q∈eA zs (bg zs) i,p.2 <:+:q.2)→∃q∈eA zs (bg zs) (i + 1),p.2 <:+:q.2:=fun p ⟨q,hq1,hq2⟩=>by
   rcases hq with ⟨_,qs',q0,e1,e2⟩ | ⟨_,e2⟩
   ·rw [e2];rw [e1] at hq1
    rcases List.mem_append.1 hq1 with h | h
    ·exact ⟨q,List.mem_append_left _ h,hq2⟩
    ·obtain rfl:q=q0:=by simpa using h
     exact ⟨_,List.mem_append_right _ (List.mem_singleton.2 rfl),hq2.trans (List.prefix_append _ _).isInfix⟩
   ·rw [e2];exact ⟨q,List.mem_append_left _ hq1,hq2⟩
  have hlastq:∃qs' q,eA zs (bg zs) (i + 1)=qs' ++ [q]:=by
   rcases hq with ⟨_,qs',q0,_,e2⟩ | ⟨_,e2⟩
   ·exact ⟨_,_,e2⟩
   ·exact ⟨_,_,e2⟩
  rw [Nat.add_sub_cancel]
  cases hbs:dM set i with
  | false=>
   rw [lr hbs]
   exact ⟨fun p hp=>j0 p (ih.inf p hp),fun h=>by simp at h⟩
  | true=>
   cases hj:jn zs set i with
   | true=>
    have hs:=fZ hj
    obtain ⟨ps',p,qs',q,e1,e2,hsf⟩:=ih.suf (by rw [decide_eq_true hs.1,hs.2.1];rfl)
    have hja:jn zs (bg zs) i=true:=by
     unfold jn;rw [decide_eq_true hs.1,jT (zs:=zs) (i:=i - 1) (by omega)]
     simpa using hs.2.2
    have hp:eA zs set (i + 1)=ps' ++ [(p.1 ||| 2 ^ i,p.2 ++ [aC zs (i - 1)])]:=by
     rw [eh];unfold fN;rw [if_pos hbs,if_pos hj,e1];unfold jP;rw [jN,iP]
    have hqq:eA zs (bg zs) (i + 1)=qs' ++ [(q.1 ||| 2 ^ i,q.2 ++ [aC zs (i - 1)])]:=by
     rw [eh];unfold fN;rw [if_pos hb,if_pos hja,e2];unfold jP;rw [jN,iP]
    have hsf2:p.2 ++ [aC zs (i - 1)] <:+ q.2 ++ [aC zs (i - 1)]:=by
     obtain ⟨t,ht⟩:=hsf
     exact ⟨t,by rw [←List.append_assoc,ht]⟩
    refine ⟨fun x hx=> ?_,fun _=>⟨_,_,_,_,hp,hqq,hsf2⟩⟩
    rw [hp] at hx
    rcases List.mem_append.1 hx with h | h
    ·exact j0 x (ih.inf x (by rw [e1];exact List.mem_append_left _ h))
    ·obtain rfl:x=(p.1 ||| 2 ^ i,p.2 ++ [aC zs (i - 1)]):=by simpa using h
     exact ⟨_,by rw [hqq];exact List.mem_append_right _ (List.mem_singleton.2 rfl),hsf2.isInfix⟩
   | false=>
    have hp:eA zs set (i + 1)=eA zs set i ++ [(2 ^ i, [])]:=by
     rw [eh];unfold fN;rw [if_pos hbs,if_neg (by rw [hj];simp)]
    obtain ⟨qs',q,hqq⟩:=hlastq
    refine ⟨fun x hx=> ?_,fun _=>⟨_,_,_,_,hp,hqq,List.nil_suffix⟩⟩
    rw [hp] at hx
    rcases List.mem_append.1 hx with h | h
    ·exact j0 x (ih.inf x h)
    ·obtain rfl:x=(2 ^ i, []):=by simpa using h
     exact ⟨q,by rw [hqq];exact List.mem_append_right _ (List.mem_singleton.2 rfl),List.nil_infix⟩
theorem iO {zs:List Int} (hd:bz zs=true) (hf:dC zs (bg zs)=true) (set:Nat):dC zs set=true:=by
 have h1:=(gI (ps:=comps zs (bg zs)) (comps zs (bg zs)).length (Nat.le_refl _)).1 (by simpa [dC] using hf)
 have hp:=pieces (zs:=zs) set (zs.length + 1) (Nat.le_refl _)
 unfold dC
 rw [decide_eq_true_iff,gI _ (Nat.le_refl _)]
 intro k hk
 obtain ⟨q,hq,hi⟩:=hp.inf _ (fx hk)
 obtain ⟨j,hj,rfl⟩:=List.getElem_of_mem hq
 have hj':j < (comps zs (bg zs)).length:=hj
 have hL:=ga hd hj'
 have h2:=h1 j hj'
 rw [eM hj'] at h2 hL
 exact mX hi hL.1 h2
end Go.Proofs.YtekbhbcgoadciaaGreat
namespace Go.Proofs.YtekbhbcgoadciaaGreat
open Go.RowKit
def qa (zs:List Int) (m s:Int):Int:=if mb zs m s=0 then (if s=(bg zs:Int)∨dz zs s.toNat m.toNat=false then 5 else 0) else mb zs m s
theorem lR (a b:Int) (c:Bool) (h:decide (a=b)=c):df .i64 .eql a b=some (.bool c):=by
 show some (Value.bool (a == b))=_
 rw [←h]
 by_cases e:a=b
 ·rw [e];simp
 ·rw [decide_eq_false e,beq_eq_false_iff_ne.2 e]
set_option maxRecDepth 100000 in
set_option maxHeartbeats 1000000 in
theorem uq (zs:List Int) (L:Nat) (m s:Int) (hL:zs.length=L) (hn:L≤4398046511104):
  FC Tryz.prog 63 [(1003,cf zs)] [o1 (.sl 1003 0 L),vv (I6 m),vv (I6 s)] [] (vv (I6 (qa zs m s))) []:=by
 have hS:=rK zs L m s hL hn
 unfold qa
 refine a5 (nt:=28) Tryz.func63 rfl rfl (by simp) fun w0 ω0=> ?_
 by_cases h0:mb zs m s=0
 ·rw [if_pos h0]
  rw [h0] at hS
  obtain ⟨hd,hf,k,l,rfl,rfl,hk,hl⟩:=ky h0
  have h4:L≤4:=by have:=bE hd;omega
  have hlt:=dk (zs:=zs) (by omega)
  have hA:=gZ zs L hL h4
  have hG:=nH zs L k l hL h4 (by omega) (by omega)
  rw [Int.toNat_natCast,Int.toNat_natCast]
  by_cases hw:l=bg zs
  ·have hbe:=lR (l:Int) (bg zs:Int) true (by rw [hw];simp)
   rw [if_pos (.inl (by rw [hw]))]
   (refine aj ?_;refine ag ?_;apply ae rfl;(exact ai rfl rfl);refine aq ?_;refine an ?_;refine aj ?_;refine ag ?_;apply ae rfl;(exact ah rfl rfl);apply ae rfl;(exact ah rfl rfl);apply ae rfl;(exact ah rfl rfl);apply ae rfl;(first | (apply ar 102;exact au hS (by as_aux_lemma=>kernel_rfl) rfl rfl ⟨rfl,rfl,rfl,trivial⟩ ⟨⟨_,rfl, .inl rfl⟩,trivial⟩ rfl rfl) | (apply ar 57;exact au hA (by as_aux_lemma=>kernel_rfl) rfl rfl ⟨rfl,trivial⟩ ⟨⟨_,rfl, .inl rfl⟩,trivial⟩ rfl rfl) | exact aB rfl rfl rfl hbe);apply ae rfl;(exact ai rfl rfl);refine aq ?_;refine an ?_;refine aj ?_;refine aj ?_;refine ag ?_;apply ae rfl;(exact ah rfl rfl);apply ae rfl;(exact aB rfl rfl rfl rfl);apply ae rfl;(exact ah rfl rfl);apply aw rfl rfl rfl;(exact ah rfl rfl);apply aw rfl rfl rfl;(exact ah rfl rfl);apply aw rfl rfl rfl;(first | (apply ar 102;exact au hS (by as_aux_lemma=>kernel_rfl) rfl rfl ⟨rfl,rfl,rfl,trivial⟩ ⟨⟨_,rfl, .inl rfl⟩,trivial⟩ rfl rfl) | (apply ar 57;exact au hA (by as_aux_lemma=>kernel_rfl) rfl rfl ⟨rfl,trivial⟩ ⟨⟨_,rfl, .inl rfl⟩,trivial⟩ rfl rfl) | exact aB rfl rfl rfl hbe);apply aw rfl rfl rfl;(first | (apply ar 102;exact au hS (by as_aux_lemma=>kernel_rfl) rfl rfl ⟨rfl,rfl,rfl,trivial⟩ ⟨⟨_,rfl, .inl rfl⟩,trivial⟩ rfl rfl) | (apply ar 57;exact au hA (by as_aux_lemma=>kernel_rfl) rfl rfl ⟨rfl,trivial⟩ ⟨⟨_,rfl, .inl rfl⟩,trivial⟩ rfl rfl) | exact aB rfl rfl rfl hbe);apply aw rfl rfl rfl;(exact ah rfl rfl);apply aA rfl rfl rfl rfl rfl;apply aA rfl rfl rfl rfl rfl;apply aA rfl rfl rfl rfl rfl;apply aA rfl rfl rfl rfl rfl;apply aA rfl rfl rfl rfl rfl;apply aw rfl rfl rfl;(exact aY rfl rfl rfl);apply ae rfl;(exact aY rfl rfl rfl);refine aq ?_;refine an ?_)
   refine ax rfl (fun _=> ?_) (fun e=>by cases e)
   (refine aj ?_;refine ag ?_;apply ae rfl;(exact ai rfl rfl);refine aq ?_;refine an ?_;refine aK ?_;refine aT ?_)
   exact aW (.inl rfl) rfl (.tmp rfl) trivial trivial
  ·have hbe:=lR (l:Int) (bg zs:Int) false (by rw [decide_eq_false_iff_not];omega)
   (refine aj ?_;refine ag ?_;apply ae rfl;(exact ai rfl rfl);refine aq ?_;refine an ?_;refine aj ?_;refine ag ?_;apply ae rfl;(exact ah rfl rfl);apply ae rfl;(exact ah rfl rfl);apply ae rfl;(exact ah rfl rfl);apply ae rfl;(first | (apply ar 102;exact au hS (by as_aux_lemma=>kernel_rfl) rfl rfl ⟨rfl,rfl,rfl,trivial⟩ ⟨⟨_,rfl, .inl rfl⟩,trivial⟩ rfl rfl) | (apply ar 57;exact au hA (by as_aux_lemma=>kernel_rfl) rfl rfl ⟨rfl,trivial⟩ ⟨⟨_,rfl, .inl rfl⟩,trivial⟩ rfl rfl) | exact aB rfl rfl rfl hbe | (apply ar 58;exact au hG (by as_aux_lemma=>kernel_rfl) rfl rfl ⟨rfl,rfl,rfl,trivial⟩ ⟨⟨_,rfl, .inl rfl⟩,trivial⟩ rfl rfl));apply ae rfl;(exact ai rfl rfl);refine aq ?_;refine an ?_;refine aj ?_;refine aj ?_;refine ag ?_;apply ae rfl;(exact ah rfl rfl);apply ae rfl;(exact aB rfl rfl rfl rfl);apply ae rfl;(exact ah rfl rfl);apply aw rfl rfl rfl;(exact ah rfl rfl);apply aw rfl rfl rfl;(exact ah rfl rfl);apply aw rfl rfl rfl;(first | (apply ar 102;exact au hS (by as_aux_lemma=>kernel_rfl) rfl rfl ⟨rfl,rfl,rfl,trivial⟩ ⟨⟨_,rfl, .inl rfl⟩,trivial⟩ rfl rfl) | (apply ar 57;exact au hA (by as_aux_lemma=>kernel_rfl) rfl rfl ⟨rfl,trivial⟩ ⟨⟨_,rfl, .inl rfl⟩,trivial⟩ rfl rfl) | exact aB rfl rfl rfl hbe | (apply ar 58;exact au hG (by as_aux_lemma=>kernel_rfl) rfl rfl ⟨rfl,rfl,rfl,trivial⟩ ⟨⟨_,rfl, .inl rfl⟩,trivial⟩ rfl rfl));apply aw rfl rfl rfl;(first | (apply ar 102;exact au hS (by as_aux_lemma=>kernel_rfl) rfl rfl ⟨rfl,rfl,rfl,trivial⟩ ⟨⟨_,rfl, .inl rfl⟩,trivial⟩ rfl rfl) | (apply ar 57;exact au hA (by as_aux_lemma=>kernel_rfl) rfl rfl ⟨rfl,trivial⟩ ⟨⟨_,rfl, .inl rfl⟩,trivial⟩ rfl rfl) | exact aB rfl rfl rfl hbe | (apply ar 58;exact au hG (by as_aux_lemma=>kernel_rfl) rfl rfl ⟨rfl,rfl,rfl,trivial⟩ ⟨⟨_,rfl, .inl rfl⟩,trivial⟩ rfl rfl));apply aw rfl rfl rfl;(exact ah rfl rfl);apply aw rfl rfl rfl;(exact ah rfl rfl);apply aw rfl rfl rfl;(exact ah rfl rfl);apply aw rfl rfl rfl;(exact ah rfl rfl);apply aw rfl rfl rfl;(first | (apply ar 102;exact au hS (by as_aux_lemma=>kernel_rfl) rfl rfl ⟨rfl,rfl,rfl,trivial⟩ ⟨⟨_,rfl, .inl rfl⟩,trivial⟩ rfl rfl) | (apply ar 57;exact au hA (by as_aux_lemma=>kernel_rfl) rfl rfl ⟨rfl,trivial⟩ ⟨⟨_,rfl, .inl rfl⟩,trivial⟩ rfl rfl) | exact aB rfl rfl rfl hbe | (apply ar 58;exact au hG (by as_aux_lemma=>kernel_rfl) rfl rfl ⟨rfl,rfl,rfl,trivial⟩ ⟨⟨_,rfl, .inl rfl⟩,trivial⟩ rfl rfl));apply aw rfl rfl rfl;(exact bK rfl rfl);apply aw rfl rfl rfl;(exact a7 rfl rfl rfl);apply ae rfl;(exact aY rfl rfl rfl);refine aq ?_;refine an ?_)
   refine ax rfl (fun h=> ?_) (fun h=> ?_)
   ·have ha:dz zs l k=false:=by simpa using h
    rw [if_pos (.inr ha)]
    (refine aj ?_;refine ag ?_;apply ae rfl;(exact ai rfl rfl);refine aq ?_;refine an ?_;refine aK ?_;refine aT ?_)
    exact aW (.inl rfl) rfl (.tmp rfl) trivial trivial
   ·have ha:dz zs l k=true:=by simpa using h
    rw [if_neg (fun h=>by rcases h with h | h;omega;rw [ha] at h;cases h)]
    (refine aG ?_;refine an ?_;refine aj ?_;refine ag ?_;apply ae rfl;(exact ah rfl rfl);apply ae rfl;(exact ai rfl rfl);refine aq ?_;refine an ?_;refine aK ?_)
    exact aW (.inl rfl) rfl (.tmp rfl) trivial trivial
 ·rw [if_neg h0]
  have hbe:=lR (mb zs m s) 0 false (by rw [decide_eq_false_iff_not];exact h0)
  (refine aj ?_;refine ag ?_;apply ae rfl;(exact ai rfl rfl);refine aq ?_;refine an ?_;refine aj ?_;refine ag ?_;apply ae rfl;(exact ah rfl rfl);apply ae rfl;(exact ah rfl rfl);apply ae rfl;(exact ah rfl rfl);apply ae rfl;(first | (apply ar 102;exact au hS (by as_aux_lemma=>kernel_rfl) rfl rfl ⟨rfl,rfl,rfl,trivial⟩ ⟨⟨_,rfl, .inl rfl⟩,trivial⟩ rfl rfl) | exact aB rfl rfl rfl hbe);apply ae rfl;(exact ai rfl rfl);refine aq ?_;refine an ?_;refine aj ?_;refine aj ?_;refine ag ?_;apply ae rfl;(exact ah rfl rfl);apply ae rfl;(first | (apply ar 102;exact au hS (by as_aux_lemma=>kernel_rfl) rfl rfl ⟨rfl,rfl,rfl,trivial⟩ ⟨⟨_,rfl, .inl rfl⟩,trivial⟩ rfl rfl) | exact aB rfl rfl rfl hbe);apply ae rfl;(exact ah rfl rfl);apply aA rfl rfl rfl rfl rfl;apply aA rfl rfl rfl rfl rfl;apply aA rfl rfl rfl rfl rfl;apply aA rfl rfl rfl rfl rfl;apply aA rfl rfl rfl rfl rfl)
  (apply cZ rfl rfl rfl rfl rfl)
  (apply cZ rfl rfl rfl rfl rfl)
  (apply cZ rfl rfl rfl rfl rfl)
  (apply cZ rfl rfl rfl rfl rfl)
  (apply cZ rfl rfl rfl rfl rfl)
  (apply aA rfl rfl rfl rfl rfl;apply ae rfl;(exact a7 rfl rfl rfl);refine aq ?_;refine an ?_)
  refine ax rfl (fun e=>by cases e) (fun _=> ?_)
  (refine aG ?_;refine an ?_;refine aj ?_;refine ag ?_;apply ae rfl;(exact ah rfl rfl);apply ae rfl;(exact ai rfl rfl);refine aq ?_;refine an ?_;refine aK ?_)
  exact aW (.inl rfl) rfl (.tmp rfl) trivial trivial
theorem pQ {zs:List Int} {m s:Int} (h:qa zs m s=0):bz zs=true∧dC zs (bg zs)=true∧∃k l:Nat,m=k∧s=l∧k≤bg zs∧l≤bg zs:=by
 unfold qa at h
 by_cases h0:mb zs m s=0
 ·exact ky h0
 ·rw [if_neg h0] at h;exact absurd h h0
def fv (zs:List Int) (mask:Nat):Nat:=(kM zs mask).toNat
theorem eX {zs:List Int} (hd:bz zs=true) (mask:Nat):kM zs mask=(fv zs mask:Int)∧0 < fv zs mask∧fv zs mask≤33554432:=by
 have:=kt (lA (mask:=mask) hd) (nZ (mask:=mask) hd) (Nat.le_refl _)
 unfold fv kM
 omega
def jo (zs:List Int) (k l:Nat):Nat:=fv zs l / fv zs (kH l k)
def oR (zs:List Int) (m s:Int):Int:=if qa zs m s=0 then (jo zs m.toNat s.toNat:Int) else 0
set_option maxRecDepth 100000 in
theorem rC (zs:List Int) (L k l:Nat) (hL:zs.length=L) (hd:bz zs=true) (hf:dC zs (bg zs)=true) (hk:k < 1000) (hl:l < 1000):
  FC Tryz.prog 59 [(1003,cf zs)] [o1 (.sl 1003 0 L),vv (I6 k),vv (I6 l)] [] (vv (I6 (jo zs k l:Nat))) []:=by
 have hnl:=rL l k
 have hO:=fk zs L l hL hd hl (iO hd hf l)
 have hP:=fk zs L (kH l k) hL hd (by omega) (iO hd hf _)
 obtain ⟨e1,p1,q1⟩:=eX hd l
 obtain ⟨e2,p2,q2⟩:=eX hd (kH l k)
 rw [e1] at hO
 rw [e2] at hP
 have hk6:k < 1000000:=by omega
 have hl6:l < 1000000:=by omega
 have hq:fv zs l < 1000000000000:=by omega
 unfold jo
 refine a5 (nt:=28) Tryz.func59 rfl rfl (by simp) fun w0 ω0=> ?_
 (refine aj ?_;refine ag ?_;apply ae rfl;(exact ai rfl rfl);refine aq ?_;refine an ?_;refine aj ?_;refine ag ?_;apply ae rfl;(exact ah rfl rfl);apply ae rfl;(exact ah rfl rfl);apply ae rfl;(first | exact fL rfl rfl rfl hl6 hk6 | (apply ar 56;exact au hO (by as_aux_lemma=>kernel_rfl) rfl rfl ⟨rfl,rfl,trivial⟩ ⟨⟨_,rfl, .inl rfl⟩,trivial⟩ rfl rfl) | (apply ar 56;exact au hP (by as_aux_lemma=>kernel_rfl) rfl rfl ⟨rfl,rfl,trivial⟩ ⟨⟨_,rfl, .inl rfl⟩,trivial⟩ rfl rfl) | exact bR rfl rfl rfl p2 hq);apply ae rfl;(exact ah rfl rfl);apply ae rfl;(exact bL rfl rfl rfl);apply ae rfl;(exact bL rfl rfl rfl);apply ae rfl;(exact ai rfl rfl);apply ae rfl;(exact ai rfl rfl);refine aq ?_;refine an ?_;refine aj ?_;refine ag ?_;apply ae rfl;(exact ah rfl rfl);apply ae rfl;(exact ah rfl rfl);apply ae rfl;(exact ah rfl rfl);apply ae rfl;(first | exact fL rfl rfl rfl hl6 hk6 | (apply ar 56;exact au hO (by as_aux_lemma=>kernel_rfl) rfl rfl ⟨rfl,rfl,trivial⟩ ⟨⟨_,rfl, .inl rfl⟩,trivial⟩ rfl rfl) | (apply ar 56;exact au hP (by as_aux_lemma=>kernel_rfl) rfl rfl ⟨rfl,rfl,trivial⟩ ⟨⟨_,rfl, .inl rfl⟩,trivial⟩ rfl rfl) | exact bR rfl rfl rfl p2 hq);apply ae rfl;(first | exact fL rfl rfl rfl hl6 hk6 | (apply ar 56;exact au hO (by as_aux_lemma=>kernel_rfl) rfl rfl ⟨rfl,rfl,trivial⟩ ⟨⟨_,rfl, .inl rfl⟩,trivial⟩ rfl rfl) | (apply ar 56;exact au hP (by as_aux_lemma=>kernel_rfl) rfl rfl ⟨rfl,rfl,trivial⟩ ⟨⟨_,rfl, .inl rfl⟩,trivial⟩ rfl rfl) | exact bR rfl rfl rfl p2 hq);apply ae rfl;(exact ah rfl rfl);apply ae rfl;(exact bL rfl rfl rfl);apply ae rfl;(exact bL rfl rfl rfl);apply ae rfl;(exact ai rfl rfl);apply ae rfl;(exact ai rfl rfl);refine aq ?_;refine an ?_;refine aj ?_;refine ag ?_;apply ae rfl;(exact ah rfl rfl);apply ae rfl;(exact ah rfl rfl);apply ae rfl;(first | exact fL rfl rfl rfl hl6 hk6 | (apply ar 56;exact au hO (by as_aux_lemma=>kernel_rfl) rfl rfl ⟨rfl,rfl,trivial⟩ ⟨⟨_,rfl, .inl rfl⟩,trivial⟩ rfl rfl) | (apply ar 56;exact au hP (by as_aux_lemma=>kernel_rfl) rfl rfl ⟨rfl,rfl,trivial⟩ ⟨⟨_,rfl, .inl rfl⟩,trivial⟩ rfl rfl) | exact bR rfl rfl rfl p2 hq);apply ae rfl;(exact ai rfl rfl);refine aq ?_;refine an ?_;refine aK ?_)
 exact aW (.inl rfl) rfl (.tmp rfl) trivial trivial
set_option maxRecDepth 100000 in
theorem yq (zs:List Int) (m s:Int) (hn:zs.length≤4398046511104):
  FC Tryz.prog 17 [(1003,cf zs)] [o1 (.sl 1003 0 zs.length),vv (I6 m),vv (I6 s)] [] (.tup [.one (.val (I6 (oR zs m s))), .one (.val (I6 (qa zs m s)))]) []:=by
 have hS:=uq zs zs.length m s rfl hn
 unfold oR
 refine a5 (nt:=20) Tryz.func17 rfl rfl (by simp) fun w0 ω0=> ?_
 (refine aj ?_;refine ag ?_;apply ae rfl;(exact ai rfl rfl);apply ae rfl;(exact ai rfl rfl);refine aq ?_;refine an ?_;refine aj ?_;refine aj ?_;refine ag ?_;apply ae rfl;(exact ah rfl rfl);apply ae rfl;(exact ah rfl rfl);apply ae rfl;(exact ah rfl rfl);apply ae rfl;(apply ar 63;exact au hS (by as_aux_lemma=>kernel_rfl) rfl rfl ⟨rfl,rfl,rfl,trivial⟩ ⟨⟨_,rfl, .inl rfl⟩,trivial⟩ rfl rfl);apply ae rfl;(exact ai rfl rfl);refine aq ?_;refine an ?_;refine aj ?_;refine ag ?_;apply ae rfl;(exact ah rfl rfl);apply ae rfl;(exact aB rfl rfl rfl rfl);refine aq ?_;refine an ?_)
 refine ax rfl (fun h=> ?_) (fun h=> ?_)
 ·have h0:qa zs m s≠0:=by simpa using h
  rw [if_neg h0]
  (refine aj ?_;refine ag ?_;apply ae rfl;(exact ah rfl rfl);apply ae rfl;(exact ai rfl rfl);apply ae rfl;(exact ai rfl rfl);refine aq ?_;refine an ?_;refine aK ?_;refine aT ?_)
  exact cg (.inl rfl) rfl (.tmp rfl) (.tmp rfl) trivial trivial
 have h0:qa zs m s=0:=by simpa using h
 rw [if_pos h0,h0]
 obtain ⟨hd,hf,k,l,rfl,rfl,hk,hl⟩:=pQ h0
 have hlt:=dk (bE hd)
 have hF:=rC zs zs.length k l rfl hd hf (by omega) (by omega)
 rw [Int.toNat_natCast,Int.toNat_natCast]
 (refine aG ?_;refine an ?_;refine aj ?_;refine ag ?_;apply ae rfl;(exact ah rfl rfl);apply ae rfl;(exact ah rfl rfl);apply ae rfl;(exact ah rfl rfl);apply ae rfl;(apply ar 59;exact au hF (by as_aux_lemma=>kernel_rfl) rfl rfl ⟨rfl,rfl,rfl,trivial⟩ ⟨⟨_,rfl, .inl rfl⟩,trivial⟩ rfl rfl);apply ae rfl;(exact ai rfl rfl);apply ae rfl;(exact ai rfl rfl);refine aq ?_;refine an ?_;refine aK ?_)
 exact cg (.inl rfl) rfl (.tmp rfl) (.tmp rfl) trivial trivial
theorem qp {E:Nat} {lo hi:Nat} {v:Value} {zs:List Int} (m s:Int) (w:World) (h:dZ E w lo hi v zs):
  Calls Tryz.prog 17 #[v, .int .i64 m, .int .i64 s] w fun e w'=>e= .returned (.tuple #[.int .i64 (oR zs m s), .int .i64 (qa zs m s)])∧Below w.heap.size w w':=fJ (j9 m s (fun k=>yq zs m s k) h)
end Go.Proofs.YtekbhbcgoadciaaGreat
namespace Go.Proofs.YtekbhbcgoadciaaGreat
open Go.RowKit
theorem lK {α:Type} (p q r:α→Bool) (hpq:∀x,p x=true→q x=false) (hr:∀x,r x=(p x || q x)):∀l:List α,(l.filter p ++ l.filter q).Perm (l.filter r)
 | []=>List.Perm.refl _
 | x :: l=>by
  have ih:=lK p q r hpq hr l
  cases hp:p x with
  | true=>
   have hq:=hpq x hp
   rw [List.filter_cons_of_pos hp,List.filter_cons_of_neg (by simp [hq]),List.filter_cons_of_pos (by rw [hr,hp];rfl)]
   exact ih.cons x
  | false=>
   rw [List.filter_cons_of_neg (by simp [hp])]
   cases hq:q x with
   | true=>
    rw [List.filter_cons_of_pos hq,List.filter_cons_of_pos (by rw [hr,hq];simp)]
    exact (List.perm_middle).trans (ih.cons x)
   | false=>
    rw [List.filter_cons_of_neg (by simp [hq]),List.filter_cons_of_neg (by rw [hr,hp,hq];simp)]
    exact ih
theorem rz {α:Type} (f:α→Nat) (l:List α):∀m,((List.range m).flatMap fun k=>l.filter fun x=>f x == k).Perm (l.filter fun x=>decide (f x < m))
 | 0=>by simp
 | m + 1=>by
  rw [List.range_succ,List.flatMap_append]
  refine ((rz f l m).append_right _).trans ?_
  simp only [List.flatMap_cons,List.flatMap_nil,List.append_nil]
  refine lK _ _ _ (fun x hx=> ?_) (fun x=> ?_) l
  ·have:f x < m:=by simpa using hx
   rw [beq_eq_false_iff_ne];omega
  ·by_cases h1:f x < m
   ·simp [h1];omega
   ·by_cases h2:f x=m
    ·simp [h2]
    ·have:¬f x < m + 1:=by omega
     simp [h1,h2,this]
def oi (zs:List Int) (r:Nat):List Nat:=(List.range (bg zs + 1)).filter fun s=>dz zs s r
def iS (zs:List Int) (r:Nat):List Int:=(oi zs r).map fun s:Nat=>(s:Int)
def fy (zs:List Int) (r k s:Nat):List Nat:=(List.range s).filter fun s=>cC s == k && dz zs s r
def fM (zs:List Int) (r k:Nat):List Nat:=(List.range k).flatMap fun k=>fy zs r k (bg zs + 1)
def bC (zs:List Int) (r:Nat):List Int:=(fM zs r (zs.length + 2)).map fun s:Nat=>(s:Int)
theorem yI {L:Nat} (h4:L≤4) {s:Nat} (hs:s < 2 ^ (L + 1)):cC s≤L + 1:=by
 rcases (by omega:L=0∨L=1∨L=2∨L=3∨L=4) with rfl | rfl | rfl | rfl | rfl<;>(simp at hs;unfold cC;omega)
theorem jV (zs:List Int):bg zs + 1=2 ^ (zs.length + 1):=by
 have:=Nat.pow_pos (n:=zs.length + 1) (show 0 < 2 by decide);unfold bg;omega
theorem iw {L:Nat} (h4:L≤4):2 ^ (L + 1)≤32:=by
 have:2 ^ (L + 1)≤2 ^ 5:=Nat.pow_le_pow_right (by decide) (by omega)
 omega
theorem nS (zs:List Int) (r k:Nat):fy zs r k (bg zs + 1)=(oi zs r).filter fun s=>cC s == k:=by
 unfold fy oi;rw [List.filter_filter]
theorem nM {zs:List Int} {r s:Nat} (h:s∈oi zs r):s < 2 ^ (zs.length + 1):=by
 unfold oi at h
 have h1:=(List.mem_filter.1 h).1
 rw [List.mem_range,jV] at h1;exact h1
theorem sI {zs:List Int} (h4:zs.length≤4) (r:Nat):(fM zs r (zs.length + 2)).Perm (oi zs r):=by
 unfold fM
 simp only [nS]
 refine (rz cC (oi zs r) (zs.length + 2)).trans ?_
 rw [List.filter_eq_self.2 fun s hs=> ?_]
 have:=yI h4 (nM hs)
 exact decide_eq_true (by omega)
def lh (x:Int):Nat:=cC x.toNat * 64 + x.toNat
theorem uS {zs:List Int} (h4:zs.length≤4) (r:Nat):(bC zs r).Pairwise fun x y=>lh x≤lh y:=by
 unfold bC fM
 have hmem:∀k,∀s∈fy zs r k (bg zs + 1),cC s=k∧s < 64:=fun k s hs=>by
  rw [nS] at hs
  have h1:=List.mem_filter.1 hs
  have h2:=nM h1.1
  have h3:=iw h4
  exact ⟨by simpa using h1.2,by omega⟩
 rw [List.pairwise_map,List.pairwise_flatMap]
 refine ⟨fun k _=> ?_, ?_⟩
 ·have h1:(fy zs r k (bg zs + 1)).Pairwise (· < ·):=List.Pairwise.filter _ List.pairwise_lt_range
  refine List.Pairwise.imp_of_mem (fun {x y} hx hy hxy=> ?_) h1
  have e1:=hmem k x hx
  have e2:=hmem k y hy
  unfold lh;simp only [Int.toNat_natCast];omega
 ·refine List.Pairwise.imp (fun {k l} hkl x hx y hy=> ?_) (List.pairwise_lt_range (n:=zs.length + 2))
  have e1:=hmem k x hx
  have e2:=hmem l y hy
  unfold lh;simp only [Int.toNat_natCast];omega
theorem oZ {zs:List Int} (h4:zs.length≤4) (r:Nat):(iS zs r).length≤32:=by
 unfold iS oi
 rw [List.length_map]
 refine Nat.le_trans (List.length_filter_le _ _) ?_
 rw [List.length_range,jV];exact iw h4
theorem gV {zs:List Int} (h4:zs.length≤4) (r:Nat):(bC zs r).Perm (iS zs r):=(sI h4 r).map _
theorem ew {zs:List Int} (h4:zs.length≤4) (r:Nat):(bC zs r).length≤32:=by
 rw [(gV h4 r).length_eq];exact oZ h4 r
theorem ka {zs:List Int} (h4:zs.length≤4) (r:Nat):nq (iS zs r):=fun z hz=>by
 unfold iS at hz
 obtain ⟨s,hs,rfl⟩:=List.mem_map.1 hz
 have h1:=nM hs
 have h2:=iw h4
 omega
theorem wM {zs:List Int} (h4:zs.length≤4) (r:Nat):nI lh eE (iS zs r) 0 (iS zs r).length:=fun i j _ hij hj=>by
 have h1:(iS zs r).Pairwise (· < ·):=by
  unfold iS oi
  rw [List.pairwise_map]
  refine List.Pairwise.imp (fun {a b} h=>by omega) (List.Pairwise.filter _ List.pairwise_lt_range)
 have h2:=List.pairwise_iff_getElem.1 h1 i j (by omega) hj hij
 rw [←ct,←ct] at h2
 obtain ⟨x,hx,hx2⟩:=(ka h4 r).at_ i
 obtain ⟨y,hy,hy2⟩:=(ka h4 r).at_ j
 rw [hx,hy] at h2 ⊢
 unfold eE nF lh
 simp only [Int.toNat_natCast,decide_eq_true_iff]
 omega
theorem key_inj {zs:List Int} (h:nq zs):∀x y,x∈zs→y∈zs→lh x=lh y→x=y:=fun x y hx hy e=>by
 have h1:=h x hx
 have h2:=h y hy
 unfold lh at e
 omega
theorem sG {zs z:List Int} (h4:zs.length≤4) (r:Nat) (hk:Kept (iS zs r) z 0 (iS zs r).length) (ha:fS lh z 0 (iS zs r).length):z=bC zs r:=
 th (key:=lh) (key_inj (ka h4 r)) hk.perm (by rw [hk.len];exact ha) _ (gV h4 r) (uS h4 r)
theorem mT (zs:List Int) (r s:Nat):(List.range (s + 1)).filter (fun s=>dz zs s r)=(List.range s).filter (fun s=>dz zs s r) ++ (if dz zs s r=true then [s] else []):=by
 rw [List.range_succ,List.filter_append]
 congr 1
 cases h:dz zs s r<;>simp [h]
theorem ji (zs:List Int) (r k s:Nat):fy zs r k (s + 1)=fy zs r k s ++ (if (cC s == k && dz zs s r)=true then [s] else []):=by
 unfold fy
 rw [List.range_succ,List.filter_append]
 congr 1
 cases h:(cC s == k && dz zs s r)<;>simp [h]
theorem jz (zs:List Int) (r k:Nat):fM zs r (k + 1)=fM zs r k ++ fy zs r k (bg zs + 1):=by
 unfold fM
 rw [List.range_succ,List.flatMap_append];simp
theorem wg {s:Nat} (hs:s < 32):cC (s / 2) + s % 2=cC s:=by unfold cC;omega
end Go.Proofs.YtekbhbcgoadciaaGreat
namespace Go.Proofs.YtekbhbcgoadciaaGreat
open Go.RowKit
set_option maxRecDepth 100000 in
theorem oS (x:Nat) (hx:x < 32):FC Tryz.prog 52 [] [vv (I6 x)] [] (vv (I6 (cC x:Nat))) []:=by
 refine a5 (nt:=13) Tryz.func52 rfl rfl (by simp) fun w0 ω0=> ?_
 (refine aj ?_;refine ag ?_;apply ae rfl;(exact ai rfl rfl);refine aq ?_;refine an ?_;refine aj ?_;refine ag ?_;apply ae rfl;(exact ai rfl rfl);refine aq ?_;refine an ?_;refine aj ?_;refine aD ?_)
 refine bx (fun q:Nat×Nat=>St.of [(0,vv (I6 q.1)),(3,vv (I6 q.2))] []) (fun q=>q.1 < 32∧q.2 + cC q.1=cC x) (fun q=>q.1) (x,0) ⟨hx,Nat.zero_add _⟩ (Wk.of ⟨rfl,rfl,trivial⟩ trivial trivial) ?_
 rintro ⟨s,c⟩ ⟨hs,hc⟩
 dsimp only at hs hc ⊢
 (refine aj ?_;refine aj ?_;refine ag ?_;apply ae rfl;(exact ah rfl rfl);apply ae rfl;(exact aB rfl rfl rfl rfl);refine aq ?_;refine an ?_)
 refine bM rfl (fun hlt=> ?_) (fun hlt=> ?_)
 ·have hs0:0 < s:=by omega
  have h2:(0:Nat) < 2:=by decide
  have hsb:s < 1000000000000:=by omega
  have hp:=wg hs
  have hq:=n8 x
  have hw:IntKind.i64.wrap ((c:Int) + ((s % 2:Nat):Int))=((c + s % 2:Nat):Int):=by rw [IntWalk.i64_in _ (by omega)];omega
  (refine aG ?_;refine an ?_;refine aj ?_;refine aD ?_;refine ag ?_;apply ae rfl;(exact ah rfl rfl);apply ae rfl;(exact ah rfl rfl);apply ae rfl;(first | exact fa (b:=2) rfl rfl rfl h2 hsb | exact bR (b:=2) rfl rfl rfl h2 hsb | exact aJ rfl rfl rfl hw);apply ae rfl;(first | exact fa (b:=2) rfl rfl rfl h2 hsb | exact bR (b:=2) rfl rfl rfl h2 hsb | exact aJ rfl rfl rfl hw);apply ae rfl;(exact ai rfl rfl);refine aq ?_;refine aI ?_;refine an ?_;refine ag ?_;apply ae rfl;(exact ah rfl rfl);apply ae rfl;(first | exact fa (b:=2) rfl rfl rfl h2 hsb | exact bR (b:=2) rfl rfl rfl h2 hsb | exact aJ rfl rfl rfl hw);apply ae rfl;(exact ai rfl rfl);refine aq ?_)
  exact aX (s / 2,c + s % 2) ⟨by dsimp only;omega,by dsimp only;omega⟩ (by dsimp only;omega) (Wk.of ⟨rfl,rfl,trivial⟩ trivial trivial)
 ·obtain rfl:s=0:=by omega
  have:c=cC x:=by have:cC 0=0:=rfl;omega
  rw [←this]
  (refine a6 ?_;refine aE ?_;refine aE ?_;refine aP ?_;refine an ?_;refine aj ?_;refine ag ?_;apply ae rfl;(exact ah rfl rfl);apply ae rfl;(exact ai rfl rfl);refine aq ?_;refine an ?_;refine aK ?_)
  exact aW (.inl rfl) rfl (.tmp rfl) trivial trivial
def gp (zs:List Int) (r s:Nat):List Int:=((List.range s).filter fun s=>dz zs s r).map fun s:Nat=>(s:Int)
theorem sy {zs:List Int} {r s:Nat} (h:dz zs s r=true):gp zs r (s + 1)=gp zs r s ++ [(s:Int)]:=by
 unfold gp;rw [mT,if_pos h,List.map_append];rfl
theorem uA {zs:List Int} {r s:Nat} (h:dz zs s r=false):gp zs r (s + 1)=gp zs r s:=by
 unfold gp;rw [mT,if_neg (by rw [h];simp),List.append_nil]
theorem sN (zs:List Int) (r s:Nat):(gp zs r s).length≤s:=by
 unfold gp;rw [List.length_map];exact Nat.le_trans (List.length_filter_le _ _) (by rw [List.length_range];exact Nat.le_refl _)
set_option maxRecDepth 100000 in
set_option maxHeartbeats 2000000 in
theorem pO (zs:List Int) (L r:Nat) (hL:zs.length=L) (h4:L≤4) (hr:r < 1000):
  FC Tryz.prog 60 [(1003,cf zs)] [o1 (.sl 1003 0 L),vv (I6 r)] [(2400,bI (bC zs r))] (o1 (.sl 2400 0 (bC zs r).length)) []:=by
 have hA:=gZ zs L hL h4
 have hlt:=dk (zs:=zs) (by omega)
 have h32:=iw h4
 have hp:=jV zs
 rw [hL] at hp
 have hw:IntKind.i64.wrap ((bg zs:Int) + 1)=((bg zs + 1:Nat):Int):=by rw [IntWalk.i64_in _ (by omega)];omega
 refine a5 (nt:=25) Tryz.func60 rfl rfl (by simp) fun w0 ω0=> ?_
 (refine aj ?_;refine ag ?_;apply ae rfl;(exact ai rfl rfl);refine aq ?_;refine an ?_;refine aj ?_;refine ag ?_;apply ae rfl;(exact ai rfl rfl);refine aq ?_;refine an ?_;refine aj ?_;refine aj ?_;refine ag ?_;apply ae rfl;(exact ah rfl rfl);apply ae rfl;(first | (apply ar 57;exact au hA (by as_aux_lemma=>kernel_rfl) rfl rfl ⟨rfl,trivial⟩ ⟨⟨_,rfl, .inl rfl⟩,trivial⟩ rfl rfl) | exact aJ rfl rfl rfl hw);apply ae rfl;(first | (apply ar 57;exact au hA (by as_aux_lemma=>kernel_rfl) rfl rfl ⟨rfl,trivial⟩ ⟨⟨_,rfl, .inl rfl⟩,trivial⟩ rfl rfl) | exact aJ rfl rfl rfl hw);apply ae rfl;(exact ah rfl rfl);refine aq ?_;refine an ?_;refine aD ?_)
 refine bx (fun s:Nat=>St.of [(0,o1 (.sl 1003 0 L)),(1,vv (I6 r)),(5,o1 (.sl 2400 0 (gp zs r s).length)),(9,vv (I6 (bg zs + 1:Nat))),(10,vv (I6 s))] [(1003,cf zs),(2400,bI (gp zs r s))]) (fun s=>s≤bg zs + 1) (fun s=>bg zs + 1 - s) 0 (Nat.zero_le _) (Wk.trans (js (t:=5) (n:=2400) (k:=1) (E:=2) (d:= .bG (aH [])) rfl rfl) (Wk.of ⟨rfl,rfl,rfl,rfl,rfl,trivial⟩ ⟨rfl,rfl,trivial⟩ trivial)) ?_
 rintro s hs
 (refine aj ?_;refine ag ?_;apply ae rfl;(exact aB rfl rfl rfl rfl);refine aq ?_;refine an ?_;refine aj ?_)
 refine bM rfl (fun hls=> ?_) (fun hls=> ?_)
 ·have hsn:s < 1000:=by omega
  have hG:=nH zs L r s hL h4 hr hsn
  have e8:IntKind.i64.wrap ((s:Int) + 1)=((s + 1:Nat):Int):=by rw [IntWalk.i64_in _ (by omega)];omega
  have hrl:=sN zs r s
  (refine aG ?_;refine an ?_;refine aj ?_;refine aD ?_;refine aj ?_;refine ag ?_;apply ae rfl;(exact ah rfl rfl);apply ae rfl;(exact ai rfl rfl);refine aq ?_;refine an ?_;refine aj ?_;refine ag ?_;apply ae rfl;(exact ah rfl rfl);apply ae rfl;(exact ah rfl rfl);apply ae rfl;(exact ah rfl rfl);apply ae rfl;(apply ar 58;exact au hG (by as_aux_lemma=>kernel_rfl) rfl rfl ⟨rfl,rfl,rfl,trivial⟩ ⟨⟨_,rfl, .inl rfl⟩,trivial⟩ rfl rfl);refine aq ?_;refine an ?_)
  refine ax rfl (fun ha=> ?_) (fun ha=> ?_)
  ·have hy:=sy ha
   have hyl:(gp zs r (s + 1)).length=(gp zs r s).length + 1:=by rw [hy];simp
   (refine ag ?_;apply ae rfl;(exact ah rfl rfl);apply ae rfl;(exact ah rfl rfl);apply ae rfl;(exact cJ (E:=2) rfl (by as_aux_lemma=>kernel_rfl) rfl);apply ae rfl;(exact bp rfl (by as_aux_lemma=>kernel_rfl) rfl rfl rfl (by first | rfl | assumption | (simp;done)) rfl rfl (by omega));apply ae rfl;(exact ai rfl rfl);refine aq ?_;refine aI ?_;refine an ?_;refine ag ?_;apply ae rfl;(exact aJ rfl rfl rfl e8);apply ae rfl;(exact ah rfl rfl);refine aq ?_)
   exact aX (s + 1) (by omega) (by omega) (Wk.of ⟨rfl,rfl,congrArg (fun z=>some (o1 (.sl 2400 0 z))) hyl.symm,rfl,rfl,trivial⟩ ⟨rfl,congrArg (fun z=>some (bI z)) hy.symm,trivial⟩ trivial)
  ·have hy:=uA ha
   (refine aG ?_;refine aI ?_;refine an ?_;refine ag ?_;apply ae rfl;(exact aJ rfl rfl rfl e8);apply ae rfl;(exact ah rfl rfl);refine aq ?_)
   exact aX (s + 1) (by omega) (by omega) (Wk.of ⟨rfl,rfl,congrArg (fun z=>some (o1 (.sl 2400 0 (List.length z)))) hy.symm,rfl,rfl,trivial⟩ ⟨rfl,congrArg (fun z=>some (bI z)) hy.symm,trivial⟩ trivial)
 ·obtain rfl:s=bg zs + 1:=by omega
  have hraw:gp zs r (bg zs + 1)=iS zs r:=rfl
  rw [hraw]
  have hlen:(bC zs r).length=(iS zs r).length:=(gV (by omega) r).length_eq
  have hrl:=oZ (zs:=zs) (by omega) r
  rw [hlen]
  (refine a6 ?_;refine aE ?_;refine aE ?_;refine aP ?_;refine an ?_;refine aj ?_;refine ag ?_;apply ae rfl;(exact ah rfl rfl))
  refine ou rfl (m4 (p:=fun z=>z=bC zs r) (vs:= [gR]) wm rfl (by as_aux_lemma=>kernel_rfl) rfl rfl rfl (by omega) fun ao c w ho=>(lZ lh ao (iS zs r).length c (iS zs r) w 0 ho hrl (ka (by omega) r) (wM (by omega) r)).mono fun e w' ⟨h1,z,hz,ho',hg⟩=>⟨h1,z,sG (by omega) r hz.1 hz.2,ho',hg⟩) fun z hz=> ?_
  subst hz
  (refine aq ?_;refine an ?_;refine aj ?_;refine ag ?_;apply ae rfl;(exact ah rfl rfl);apply ae rfl;(exact ai rfl rfl);refine aq ?_;refine an ?_;refine aK ?_)
  exact aW (.inl rfl) rfl (.tmp rfl) ⟨rfl,trivial⟩ trivial
def dI (zs:List Int) (r k s:Nat):List Int:=(fM zs r k ++ fy zs r k s).map fun s:Nat=>(s:Int)
theorem qi {zs:List Int} {r k s:Nat} (h1:cC s=k) (h:dz zs s r=true):dI zs r k (s + 1)=dI zs r k s ++ [(s:Int)]:=by
 unfold dI;rw [ji,if_pos (by rw [h,h1];simp),←List.append_assoc,List.map_append];rfl
theorem mY {zs:List Int} {r k s:Nat} (h:cC s≠k∨dz zs s r=false):dI zs r k (s + 1)=dI zs r k s:=by
 unfold dI;rw [ji,if_neg (fun e=> ?_),List.append_nil]
 rw [Bool.and_eq_true,beq_iff_eq] at e
 rcases h with h | h
 ·exact h e.1
 ·rw [e.2] at h;cases h
theorem qY (zs:List Int) (r k:Nat):dI zs r k (bg zs + 1)=dI zs r (k + 1) 0:=by
 unfold dI;rw [jz];simp [fy]
theorem qg (zs:List Int) (r:Nat):∀k s,(dI zs r k s).length≤k * (bg zs + 1) + s:=fun k s=>by
 unfold dI
 rw [List.length_map,List.length_append]
 have h1:∀k,(fM zs r k).length≤k * (bg zs + 1):=fun k=>by
  induction k with
  | zero=>simp [fM]
  | succ k ih=>
   rw [jz,List.length_append,Nat.succ_mul]
   have:(fy zs r k (bg zs + 1)).length≤bg zs + 1:=Nat.le_trans (List.length_filter_le _ _) (by rw [List.length_range];exact Nat.le_refl _)
   omega
 have h2:(fy zs r k s).length≤s:=Nat.le_trans (List.length_filter_le _ _) (by rw [List.length_range];exact Nat.le_refl _)
 have:=h1 k
 omega
set_option maxRecDepth 100000 in
set_option maxHeartbeats 2000000 in
theorem uh (zs:List Int) (L r:Nat) (hL:zs.length=L) (h4:L≤4) (hr:r < 1000):
  FC Tryz.prog 106 [(1003,cf zs)] [o1 (.sl 1003 0 L),vv (I6 r)] [(8,bI (bC zs r))] (o1 (.sl 8 0 (bC zs r).length)) []:=by
 have hA:=fF zs L hL h4
 have hR:=gw zs L h4
 have h32:=iw h4
 have hp:=jV zs
 rw [hL] at hp
 refine a5 (nt:=36) Tryz.func106 rfl rfl (by simp) fun w0 ω0=> ?_
 (refine aj ?_;refine ag ?_;apply ae rfl;(exact ai rfl rfl);refine aq ?_;refine an ?_;refine aj ?_;refine ag ?_;apply ae rfl;(exact dr (E:=2) (k:=1) rfl (by as_aux_lemma=>kernel_rfl));apply ae rfl;(exact ai rfl rfl);refine aq ?_;refine an ?_;refine aj ?_;refine aj ?_;refine ag ?_;apply ae rfl;(exact ai rfl rfl);refine aq ?_;refine an ?_;refine aD ?_)
 refine bx (fun k:Nat=>St.of [(0,o1 (.sl 1003 0 L)),(1,vv (I6 r)),(5,o1 (.sl 8 0 (dI zs r k 0).length)),(6,vv (I6 k))] [(1003,cf zs),(8,bI (dI zs r k 0))]) (fun k=>k≤L + 2) (fun k=>L + 2 - k) 0 (Nat.zero_le _) (Wk.of ⟨rfl,rfl,rfl,rfl,trivial⟩ ⟨rfl,rfl,trivial⟩ trivial) ?_
 rintro k hk
 (refine aj ?_;refine aj ?_;refine ag ?_;apply ae rfl;(exact ah rfl rfl);apply ae rfl;(exact ah rfl rfl);apply ae rfl;(apply ar 50;exact au hR (by as_aux_lemma=>kernel_rfl) rfl rfl ⟨rfl,trivial⟩ ⟨⟨_,rfl, .inl rfl⟩,trivial⟩ rfl rfl);apply ae rfl;(exact aB rfl rfl rfl rfl);refine aq ?_;refine an ?_)
 refine bM rfl (fun hlk=> ?_) (fun hlk=> ?_)
 ·have hk1:k≤L + 1:=by omega
  have e9:IntKind.i64.wrap ((k:Int) + 1)=((k + 1:Nat):Int):=by rw [IntWalk.i64_in _ (by omega)];omega
  (refine aG ?_;refine an ?_;refine aj ?_;refine aD ?_;refine aj ?_;refine ag ?_;apply ae rfl;(exact ai rfl rfl);refine aq ?_;refine an ?_;refine aD ?_)
  refine bx (fun s:Nat=>St.of [(0,o1 (.sl 1003 0 L)),(1,vv (I6 r)),(5,o1 (.sl 8 0 (dI zs r k s).length)),(6,vv (I6 k)),(7,vv (I6 s))] [(1003,cf zs),(8,bI (dI zs r k s))]) (fun s=>s≤bg zs + 1) (fun s=>bg zs + 1 - s) 0 (Nat.zero_le _) (Wk.of ⟨rfl,rfl,rfl,rfl,rfl,trivial⟩ ⟨rfl,rfl,trivial⟩ trivial) ?_
  rintro s hs
  (refine aj ?_;refine aj ?_;refine ag ?_;apply ae rfl;(exact ah rfl rfl);apply ae rfl;(exact ah rfl rfl);apply ae rfl;(apply ar 68;exact au hA (by as_aux_lemma=>kernel_rfl) rfl rfl ⟨rfl,trivial⟩ ⟨⟨_,rfl, .inl rfl⟩,trivial⟩ rfl rfl);apply ae rfl;(exact aB rfl rfl rfl rfl);refine aq ?_;refine an ?_)
  refine bM rfl (fun hls=> ?_) (fun hls=> ?_)
  ·have hsn:s < 32:=by omega
   have hB:=oS s hsn
   have hG:=qt zs L s r hL h4 (by omega) hr
   have e8:IntKind.i64.wrap ((s:Int) + 1)=((s + 1:Nat):Int):=by rw [IntWalk.i64_in _ (by omega)];omega
   have hrl:=qg zs r k s
   have hrl2:(dI zs r k s).length≤1000:=by
    refine Nat.le_trans hrl ?_
    have:k * (bg zs + 1)≤6 * 32:=Nat.mul_le_mul (by omega) (by omega)
    omega
   by_cases hpk:cC s=k
   ·have hbe:=lR (cC s:Int) (k:Int) true (by rw [hpk];simp)
    (refine aG ?_;refine an ?_;refine aj ?_;refine aD ?_;refine aj ?_;refine ag ?_;apply ae rfl;(exact ah rfl rfl);apply ae rfl;(first | (apply ar 52;exact au hB (by as_aux_lemma=>kernel_rfl) rfl rfl ⟨rfl,trivial⟩ trivial rfl rfl) | exact aB rfl rfl rfl hbe | (apply ar 100;exact au hG (by as_aux_lemma=>kernel_rfl) rfl rfl ⟨rfl,rfl,rfl,trivial⟩ ⟨⟨_,rfl, .inl rfl⟩,trivial⟩ rfl rfl));apply ae rfl;(exact ah rfl rfl);apply ae rfl;(first | (apply ar 52;exact au hB (by as_aux_lemma=>kernel_rfl) rfl rfl ⟨rfl,trivial⟩ trivial rfl rfl) | exact aB rfl rfl rfl hbe | (apply ar 100;exact au hG (by as_aux_lemma=>kernel_rfl) rfl rfl ⟨rfl,rfl,rfl,trivial⟩ ⟨⟨_,rfl, .inl rfl⟩,trivial⟩ rfl rfl));apply ae rfl;(exact ah rfl rfl);apply aw rfl rfl rfl;(exact ah rfl rfl);apply aw rfl rfl rfl;(exact ah rfl rfl);apply aw rfl rfl rfl;(exact ah rfl rfl);apply aw rfl rfl rfl;(first | (apply ar 52;exact au hB (by as_aux_lemma=>kernel_rfl) rfl rfl ⟨rfl,trivial⟩ trivial rfl rfl) | exact aB rfl rfl rfl hbe | (apply ar 100;exact au hG (by as_aux_lemma=>kernel_rfl) rfl rfl ⟨rfl,rfl,rfl,trivial⟩ ⟨⟨_,rfl, .inl rfl⟩,trivial⟩ rfl rfl));apply ae rfl;(exact aY rfl rfl rfl);refine aq ?_;refine an ?_)
    refine ax rfl (fun ha=> ?_) (fun ha=> ?_)
    ·have hy:=qi (k:=k) hpk ha
     have hyl:(dI zs r k (s + 1)).length=(dI zs r k s).length + 1:=by rw [hy];simp
     (refine ag ?_;apply ae rfl;(exact ah rfl rfl);apply ae rfl;(exact ah rfl rfl);apply ae rfl;(exact cJ (E:=2) rfl (by as_aux_lemma=>kernel_rfl) rfl);apply ae rfl;(exact bp rfl (by as_aux_lemma=>kernel_rfl) rfl rfl rfl (by first | rfl | assumption | (simp;done)) rfl rfl (by omega));apply ae rfl;(exact ai rfl rfl);refine aq ?_;refine aI ?_;refine an ?_;refine ag ?_;apply ae rfl;(exact ah rfl rfl);apply ae rfl;(exact aJ rfl rfl rfl e8);apply ae rfl;(exact ai rfl rfl);refine aq ?_)
     exact aX (s + 1) (by omega) (by omega) (Wk.of ⟨rfl,rfl,congrArg (fun z=>some (o1 (.sl 8 0 z))) hyl.symm,rfl,rfl,trivial⟩ ⟨rfl,congrArg (fun z=>some (bI z)) hy.symm,trivial⟩ trivial)
    ·have hy:=mY (k:=k) (.inr ha)
     (refine aG ?_;refine aI ?_;refine an ?_;refine ag ?_;apply ae rfl;(exact ah rfl rfl);apply ae rfl;(exact aJ rfl rfl rfl e8);apply ae rfl;(exact ai rfl rfl);refine aq ?_)
     exact aX (s + 1) (by omega) (by omega) (Wk.of ⟨rfl,rfl,congrArg (fun z=>some (o1 (.sl 8 0 (List.length z)))) hy.symm,rfl,rfl,trivial⟩ ⟨rfl,congrArg (fun z=>some (bI z)) hy.symm,trivial⟩ trivial)
   ·have hbe:=lR (cC s:Int) (k:Int) false (by rw [decide_eq_false_iff_not];omega)
    (refine aG ?_;refine an ?_;refine aj ?_;refine aD ?_;refine aj ?_;refine ag ?_;apply ae rfl;(exact ah rfl rfl);apply ae rfl;(first | (apply ar 52;exact au hB (by as_aux_lemma=>kernel_rfl) rfl rfl ⟨rfl,trivial⟩ trivial rfl rfl) | exact aB rfl rfl rfl hbe);apply ae rfl;(exact ah rfl rfl);apply ae rfl;(first | (apply ar 52;exact au hB (by as_aux_lemma=>kernel_rfl) rfl rfl ⟨rfl,trivial⟩ trivial rfl rfl) | exact aB rfl rfl rfl hbe);apply ae rfl;(exact ah rfl rfl);apply aA rfl rfl rfl rfl rfl;apply aA rfl rfl rfl rfl rfl;apply aA rfl rfl rfl rfl rfl;apply aA rfl rfl rfl rfl rfl;apply ae rfl;(exact a7 rfl rfl rfl);refine aq ?_;refine an ?_)
    refine ax rfl (fun e=>by cases e) (fun _=> ?_)
    have hy:=mY (zs:=zs) (r:=r) (k:=k) (.inl hpk)
    (refine aG ?_;refine aI ?_;refine an ?_;refine ag ?_;apply ae rfl;(exact ah rfl rfl);apply ae rfl;(exact aJ rfl rfl rfl e8);apply ae rfl;(exact ai rfl rfl);refine aq ?_)
    exact aX (s + 1) (by omega) (by omega) (Wk.of ⟨rfl,rfl,congrArg (fun z=>some (o1 (.sl 8 0 (List.length z)))) hy.symm,rfl,rfl,trivial⟩ ⟨rfl,congrArg (fun z=>some (bI z)) hy.symm,trivial⟩ trivial)
  ·obtain rfl:s=bg zs + 1:=by omega
   have hy:=qY zs r k
   (refine a6 ?_;refine aE ?_;refine aE ?_;refine aP ?_;refine aI ?_;refine an ?_;refine ag ?_;apply ae rfl;(exact ah rfl rfl);apply ae rfl;(exact aJ rfl rfl rfl e9);apply ae rfl;(exact ai rfl rfl);refine aq ?_)
   exact aX (k + 1) (by omega) (by omega) (Wk.of ⟨rfl,rfl,congrArg (fun z=>some (o1 (.sl 8 0 (List.length z)))) hy,rfl,trivial⟩ ⟨rfl,congrArg (fun z=>some (bI z)) hy,trivial⟩ trivial)
 ·obtain rfl:k=L + 2:=by omega
  have hy:dI zs r (L + 2) 0=bC zs r:=by unfold dI bC;rw [hL];simp [fy]
  rw [←hy]
  (refine a6 ?_;refine aE ?_;refine aE ?_;refine aP ?_;refine an ?_;refine aj ?_;refine ag ?_;apply ae rfl;(exact ah rfl rfl);apply ae rfl;(exact ai rfl rfl);refine aq ?_;refine an ?_;refine aK ?_)
  exact aW (.inl rfl) rfl (.tmp rfl) ⟨rfl,trivial⟩ trivial
end Go.Proofs.YtekbhbcgoadciaaGreat
namespace Go.Proofs.YtekbhbcgoadciaaGreat
open Go.RowKit
end Go.Proofs.YtekbhbcgoadciaaGreat
namespace Go.Proofs.YtekbhbcgoadciaaGreat
open Go.RowKit
theorem tL (zs:List Int) (m:Int):mb zs m 0=cB zs m:=by
 have h:gm 0 0 (bg zs)=true:=dW.2 ⟨by omega,by omega⟩
 unfold mb
 rw [h];simp
theorem dO {zs:List Int} {m:Int} (h:cB zs m=0):bz zs=true∧dC zs (bg zs)=true∧∃k:Nat,m=k∧k≤bg zs∧dz zs (bg zs) k=true:=by
 obtain ⟨hd,hf,k,_,rfl,_,hk,_⟩:=ky ((tL zs m).trans h)
 have hb:gm (k:Int) 0 (bg zs)=true:=dW.2 ⟨by omega,by omega⟩
 rw [jB hd hb hf] at h
 cases ha:dz zs (bg zs) k with
 | true=>exact ⟨hd,hf,k,rfl,hk,ha⟩
 | false=>rw [ha,if_neg (by simp)] at h;cases h
set_option maxRecDepth 100000 in
theorem ft (zs:List Int) (L:Nat) (m:Int) (hL:zs.length=L) (hn:L≤4398046511104):
  FC Tryz.prog 45 [(1003,cf zs)] [o1 (.sl 1003 0 L),vv (I6 m)] [] (vv (I6 (cB zs m))) []:=by
 have hS:=rK zs L m 0 hL hn
 rw [tL] at hS
 refine a5 (nt:=8) Tryz.func45 rfl rfl (by simp) fun w0 ω0=> ?_
 (refine aj ?_;refine ag ?_;apply ae rfl;(exact ai rfl rfl);refine aq ?_;refine an ?_;refine aj ?_;refine ag ?_;apply ae rfl;(exact ah rfl rfl);apply ae rfl;(exact ah rfl rfl);apply ae rfl;(apply ar 102;exact au hS (by as_aux_lemma=>kernel_rfl) rfl rfl ⟨rfl,rfl,rfl,trivial⟩ ⟨⟨_,rfl, .inl rfl⟩,trivial⟩ rfl rfl);apply ae rfl;(exact ai rfl rfl);refine aq ?_;refine an ?_;refine aK ?_)
 exact aW (.inl rfl) rfl (.tmp rfl) trivial trivial
theorem gU {f:FuncId} {x:Nm} {zs B:List Int} {m c:Int} {R:List Int} (hR:R=if c=0 then B else []) (hB:c=0→B.length≤1000)
  (hy:zs.length≤4398046511104→c=0→FC Tryz.prog f [(1003,cf zs)] [o1 (.sl 1003 0 zs.length),vv (I6 m)] [(x,bI B)] (.tup [.one (.sl x 0 B.length), .one (.val (I6 0))]) [])
  (hno:zs.length≤4398046511104→c≠0→FC Tryz.prog f [(1003,cf zs)] [o1 (.sl 1003 0 zs.length),vv (I6 m)] [] (.tup [.one (.val (.slice none 0 0)), .one (.val (I6 c))]) [])
  {E:Nat} {lo hi:Nat} {v:Value} (w:World) (h:dZ E w lo hi v zs):
  Calls Tryz.prog f #[v, .int .i64 m] w fun e w'=>∃r,e= .returned (.tuple #[r, .int .i64 c])∧dZ 2 w' w.heap.size w'.heap.size r R∧Below w.heap.size w w':=by
 subst hR
 by_cases h0:c=0
 ·have hB:=hB h0
  rw [if_pos h0,h0]
  refine (jt m (fun k1=>hy k1 h0) h).mono ?_
  rintro e w' ⟨v,η,ω,rfl,hd,hm,hb,hn⟩
  obtain ⟨u,u',rfl,h1,h2⟩:=jR hd
  have h2:u'=I6 0:=h2
  subst h2
  exact ⟨u,rfl,zy (x:=x) hm hn (by simp [lk]) h1 (by omega),hb⟩
 ·rw [if_neg h0]
  refine (fJ (jt m (fun k1=>hno k1 h0) h)).mono ?_
  rintro e w' ⟨rfl,hb⟩
  exact ⟨_,rfl,ux,hb⟩
def zh (zs:List Int) (m:Int):List Int:=if cB zs m=0 then bC zs m.toNat else []
set_option maxRecDepth 100000 in
theorem vD (zs:List Int) (m:Int) (hn:zs.length≤4398046511104) (h0:cB zs m=0):
  FC Tryz.prog 14 [(1003,cf zs)] [o1 (.sl 1003 0 zs.length),vv (I6 m)] [(15,bI (bC zs m.toNat))] (.tup [.one (.sl 15 0 (bC zs m.toNat).length), .one (.val (I6 0))]) []:=by
 have hC:=ft zs zs.length m rfl hn
 rw [h0] at hC
 obtain ⟨hd,hf,k,rfl,hk,ha⟩:=dO h0
 have h4:=bE hd
 have hlt:=dk h4
 rw [Int.toNat_natCast]
 have hS:=(pO zs zs.length k rfl h4 (by omega)).nm [(1003,1003),(2400,15)] (by kernel_rfl)
 have hS:FC Tryz.prog 60 [(1003,cf zs)] [o1 (.sl 1003 0 zs.length),vv (I6 k)] [(15,bI (bC zs k))] (o1 (.sl 15 0 (bC zs k).length)) []:=hS
 refine a5 (nt:=16) Tryz.func14 rfl rfl (by simp) fun w0 ω0=> ?_
 (refine aj ?_;refine ag ?_;apply ae rfl;(exact ai rfl rfl);apply ae rfl;(exact ai rfl rfl);refine aq ?_;refine an ?_;refine aj ?_;refine aj ?_;refine ag ?_;apply ae rfl;(exact ah rfl rfl);apply ae rfl;(exact ah rfl rfl);apply ae rfl;(apply ar 45;exact au hC (by as_aux_lemma=>kernel_rfl) rfl rfl ⟨rfl,rfl,trivial⟩ ⟨⟨_,rfl, .inl rfl⟩,trivial⟩ rfl rfl);apply ae rfl;(exact ai rfl rfl);refine aq ?_;refine an ?_;refine aj ?_;refine ag ?_;apply ae rfl;(exact ah rfl rfl);apply ae rfl;(exact aB rfl rfl rfl rfl);refine aq ?_;refine an ?_)
 refine ax rfl (fun e=>by cases e) (fun _=> ?_)
 (refine aG ?_;refine an ?_;refine aj ?_;refine ag ?_;apply ae rfl;(exact ah rfl rfl);apply ae rfl;(exact ah rfl rfl);apply ae rfl;(apply ar 60;exact bl hS (by as_aux_lemma=>kernel_rfl) rfl rfl ⟨rfl,rfl,trivial⟩ ⟨⟨_,rfl, .inl rfl⟩,trivial⟩ rfl rfl rfl);apply ae rfl;(exact ai rfl rfl);apply ae rfl;(exact ai rfl rfl);refine aq ?_;refine an ?_;refine aK ?_)
 exact cg (.inl rfl) rfl (.tmp rfl) (.tmp rfl) ⟨rfl,trivial⟩ trivial
set_option maxRecDepth 100000 in
theorem xJ (zs:List Int) (m:Int) (hn:zs.length≤4398046511104) (h0:cB zs m≠0):
  FC Tryz.prog 14 [(1003,cf zs)] [o1 (.sl 1003 0 zs.length),vv (I6 m)] [] (.tup [.one (.val (.slice none 0 0)), .one (.val (I6 (cB zs m)))]) []:=by
 have hC:=ft zs zs.length m rfl hn
 refine a5 (nt:=16) Tryz.func14 rfl rfl (by simp) fun w0 ω0=> ?_
 (refine aj ?_;refine ag ?_;apply ae rfl;(exact ai rfl rfl);apply ae rfl;(exact ai rfl rfl);refine aq ?_;refine an ?_;refine aj ?_;refine aj ?_;refine ag ?_;apply ae rfl;(exact ah rfl rfl);apply ae rfl;(exact ah rfl rfl);apply ae rfl;(apply ar 45;exact au hC (by as_aux_lemma=>kernel_rfl) rfl rfl ⟨rfl,rfl,trivial⟩ ⟨⟨_,rfl, .inl rfl⟩,trivial⟩ rfl rfl);apply ae rfl;(exact ai rfl rfl);refine aq ?_;refine an ?_;refine aj ?_;refine ag ?_;apply ae rfl;(exact ah rfl rfl);apply ae rfl;(exact aB rfl rfl rfl rfl);refine aq ?_;refine an ?_)
 refine ax rfl (fun _=> ?_) (fun e=>absurd (by simpa using e) h0)
 (refine aj ?_;refine ag ?_;apply ae rfl;(exact ah rfl rfl);apply ae rfl;(exact ai rfl rfl);apply ae rfl;(exact ai rfl rfl);refine aq ?_;refine an ?_;refine aK ?_;refine aT ?_)
 exact cg (.inl rfl) rfl (.tmp rfl) (.tmp rfl) trivial trivial
theorem uo {zs:List Int} {m:Int} (h:cB zs m=0):(bC zs m.toNat).length≤1000:=by
 have:=ew (bE (dO h).1) m.toNat;omega
theorem qU {E:Nat} {lo hi:Nat} {v:Value} {zs:List Int} (m:Int) (w:World) (h:dZ E w lo hi v zs):
  Calls Tryz.prog 14 #[v, .int .i64 m] w fun e w'=>∃r,e= .returned (.tuple #[r, .int .i64 (cB zs m)])∧dZ 2 w' w.heap.size w'.heap.size r (zh zs m)∧Below w.heap.size w w':=
 gU (B:=bC zs m.toNat) rfl uo (vD zs m) (xJ zs m) w h
end Go.Proofs.YtekbhbcgoadciaaGreat
namespace Go.Proofs.YtekbhbcgoadciaaGreat
open Go.RowKit
def dn (zs:List Int) (k l:Nat):Nat:=fv zs (bg zs) / fv zs l / fv zs (iW zs k l)
def sJ (zs:List Int) (m s:Int):Int:=if qa zs m s=0 then (dn zs m.toNat s.toNat:Int) else 0
theorem rS {zs:List Int} (h4:zs.length≤4) (r set:Nat):iW zs r set < 1000:=by
 have h1:=tN zs r set (zs.length + 1)
 have h2:2 ^ (zs.length + 1)≤2 ^ 5:=Nat.pow_le_pow_right (by decide) (by omega)
 unfold iW;omega
set_option maxRecDepth 100000 in
theorem jY (zs:List Int) (L k l:Nat) (hL:zs.length=L) (hd:bz zs=true) (hf:dC zs (bg zs)=true) (hk:k < 1000) (hl:l < 1000):
  FC Tryz.prog 48 [(1003,cf zs)] [o1 (.sl 1003 0 L),vv (I6 k),vv (I6 l)] [] (vv (I6 (dn zs k l:Nat))) []:=by
 have h4:L≤4:=by have:=bE hd;omega
 have hlt:=dk (zs:=zs) (by omega)
 have hfl:=rS (zs:=zs) (by omega) k l
 have hN:=gZ zs L hL h4
 have hA:=fk zs L (bg zs) hL hd (by omega) hf
 have hO:=fk zs L l hL hd hl (iO hd hf l)
 have hX:=vL zs L k l hL h4 hk hl
 have hP:=fk zs L (iW zs k l) hL hd hfl (iO hd hf _)
 obtain ⟨e1,p1,q1⟩:=eX hd (bg zs)
 obtain ⟨e2,p2,q2⟩:=eX hd l
 obtain ⟨e3,p3,q3⟩:=eX hd (iW zs k l)
 rw [e1] at hA
 rw [e2] at hO
 rw [e3] at hP
 have hq1:fv zs (bg zs) < 1000000000000:=by omega
 have hq2:fv zs (bg zs) / fv zs l < 1000000000000:=Nat.lt_of_le_of_lt (Nat.div_le_self _ _) hq1
 unfold dn
 refine a5 (nt:=40) Tryz.func48 rfl rfl (by simp) fun w0 ω0=> ?_
 (refine aj ?_;refine ag ?_;apply ae rfl;(exact ai rfl rfl);refine aq ?_;refine an ?_;refine aj ?_;refine ag ?_;apply ae rfl;(exact ah rfl rfl);apply ae rfl;(exact ah rfl rfl);apply ae rfl;(first | (apply ar 57;exact au hN (by as_aux_lemma=>kernel_rfl) rfl rfl ⟨rfl,trivial⟩ ⟨⟨_,rfl, .inl rfl⟩,trivial⟩ rfl rfl) | (apply ar 103;exact au hX (by as_aux_lemma=>kernel_rfl) rfl rfl ⟨rfl,rfl,rfl,trivial⟩ ⟨⟨_,rfl, .inl rfl⟩,trivial⟩ rfl rfl) | (apply ar 56;exact au hA (by as_aux_lemma=>kernel_rfl) rfl rfl ⟨rfl,rfl,trivial⟩ ⟨⟨_,rfl, .inl rfl⟩,trivial⟩ rfl rfl) | (apply ar 56;exact au hO (by as_aux_lemma=>kernel_rfl) rfl rfl ⟨rfl,rfl,trivial⟩ ⟨⟨_,rfl, .inl rfl⟩,trivial⟩ rfl rfl) | (apply ar 56;exact au hP (by as_aux_lemma=>kernel_rfl) rfl rfl ⟨rfl,rfl,trivial⟩ ⟨⟨_,rfl, .inl rfl⟩,trivial⟩ rfl rfl) | exact bR rfl rfl rfl p2 hq1 | exact bR rfl rfl rfl p3 hq2);apply ae rfl;(first | (apply ar 57;exact au hN (by as_aux_lemma=>kernel_rfl) rfl rfl ⟨rfl,trivial⟩ ⟨⟨_,rfl, .inl rfl⟩,trivial⟩ rfl rfl) | (apply ar 103;exact au hX (by as_aux_lemma=>kernel_rfl) rfl rfl ⟨rfl,rfl,rfl,trivial⟩ ⟨⟨_,rfl, .inl rfl⟩,trivial⟩ rfl rfl) | (apply ar 56;exact au hA (by as_aux_lemma=>kernel_rfl) rfl rfl ⟨rfl,rfl,trivial⟩ ⟨⟨_,rfl, .inl rfl⟩,trivial⟩ rfl rfl) | (apply ar 56;exact au hO (by as_aux_lemma=>kernel_rfl) rfl rfl ⟨rfl,rfl,trivial⟩ ⟨⟨_,rfl, .inl rfl⟩,trivial⟩ rfl rfl) | (apply ar 56;exact au hP (by as_aux_lemma=>kernel_rfl) rfl rfl ⟨rfl,rfl,trivial⟩ ⟨⟨_,rfl, .inl rfl⟩,trivial⟩ rfl rfl) | exact bR rfl rfl rfl p2 hq1 | exact bR rfl rfl rfl p3 hq2);apply ae rfl;(exact ah rfl rfl);apply ae rfl;(exact bL rfl rfl rfl);apply ae rfl;(exact bL rfl rfl rfl);apply ae rfl;(exact ai rfl rfl);apply ae rfl;(exact ai rfl rfl);refine aq ?_;refine an ?_;refine aj ?_;refine ag ?_;apply ae rfl;(exact ah rfl rfl);apply ae rfl;(exact ah rfl rfl);apply ae rfl;(first | (apply ar 57;exact au hN (by as_aux_lemma=>kernel_rfl) rfl rfl ⟨rfl,trivial⟩ ⟨⟨_,rfl, .inl rfl⟩,trivial⟩ rfl rfl) | (apply ar 103;exact au hX (by as_aux_lemma=>kernel_rfl) rfl rfl ⟨rfl,rfl,rfl,trivial⟩ ⟨⟨_,rfl, .inl rfl⟩,trivial⟩ rfl rfl) | (apply ar 56;exact au hA (by as_aux_lemma=>kernel_rfl) rfl rfl ⟨rfl,rfl,trivial⟩ ⟨⟨_,rfl, .inl rfl⟩,trivial⟩ rfl rfl) | (apply ar 56;exact au hO (by as_aux_lemma=>kernel_rfl) rfl rfl ⟨rfl,rfl,trivial⟩ ⟨⟨_,rfl, .inl rfl⟩,trivial⟩ rfl rfl) | (apply ar 56;exact au hP (by as_aux_lemma=>kernel_rfl) rfl rfl ⟨rfl,rfl,trivial⟩ ⟨⟨_,rfl, .inl rfl⟩,trivial⟩ rfl rfl) | exact bR rfl rfl rfl p2 hq1 | exact bR rfl rfl rfl p3 hq2);apply ae rfl;(exact ah rfl rfl);apply ae rfl;(exact bL rfl rfl rfl);apply ae rfl;(exact bL rfl rfl rfl);apply ae rfl;(exact ai rfl rfl);apply ae rfl;(exact ai rfl rfl);refine aq ?_;refine an ?_;refine aj ?_;refine ag ?_;apply ae rfl;(exact ah rfl rfl);apply ae rfl;(exact ah rfl rfl);apply ae rfl;(exact ah rfl rfl);apply ae rfl;(exact ah rfl rfl);apply ae rfl;(first | (apply ar 57;exact au hN (by as_aux_lemma=>kernel_rfl) rfl rfl ⟨rfl,trivial⟩ ⟨⟨_,rfl, .inl rfl⟩,trivial⟩ rfl rfl) | (apply ar 103;exact au hX (by as_aux_lemma=>kernel_rfl) rfl rfl ⟨rfl,rfl,rfl,trivial⟩ ⟨⟨_,rfl, .inl rfl⟩,trivial⟩ rfl rfl) | (apply ar 56;exact au hA (by as_aux_lemma=>kernel_rfl) rfl rfl ⟨rfl,rfl,trivial⟩ ⟨⟨_,rfl, .inl rfl⟩,trivial⟩ rfl rfl) | (apply ar 56;exact au hO (by as_aux_lemma=>kernel_rfl) rfl rfl ⟨rfl,rfl,trivial⟩ ⟨⟨_,rfl, .inl rfl⟩,trivial⟩ rfl rfl) | (apply ar 56;exact au hP (by as_aux_lemma=>kernel_rfl) rfl rfl ⟨rfl,rfl,trivial⟩ ⟨⟨_,rfl, .inl rfl⟩,trivial⟩ rfl rfl) | exact bR rfl rfl rfl p2 hq1 | exact bR rfl rfl rfl p3 hq2);apply ae rfl;(first | (apply ar 57;exact au hN (by as_aux_lemma=>kernel_rfl) rfl rfl ⟨rfl,trivial⟩ ⟨⟨_,rfl, .inl rfl⟩,trivial⟩ rfl rfl) | (apply ar 103;exact au hX (by as_aux_lemma=>kernel_rfl) rfl rfl ⟨rfl,rfl,rfl,trivial⟩ ⟨⟨_,rfl, .inl rfl⟩,trivial⟩ rfl rfl) | (apply ar 56;exact au hA (by as_aux_lemma=>kernel_rfl) rfl rfl ⟨rfl,rfl,trivial⟩ ⟨⟨_,rfl, .inl rfl⟩,trivial⟩ rfl rfl) | (apply ar 56;exact au hO (by as_aux_lemma=>kernel_rfl) rfl rfl ⟨rfl,rfl,trivial⟩ ⟨⟨_,rfl, .inl rfl⟩,trivial⟩ rfl rfl) | (apply ar 56;exact au hP (by as_aux_lemma=>kernel_rfl) rfl rfl ⟨rfl,rfl,trivial⟩ ⟨⟨_,rfl, .inl rfl⟩,trivial⟩ rfl rfl) | exact bR rfl rfl rfl p2 hq1 | exact bR rfl rfl rfl p3 hq2);apply ae rfl;(exact ah rfl rfl);apply ae rfl;(exact bL rfl rfl rfl);apply ae rfl;(exact bL rfl rfl rfl);apply ae rfl;(exact ai rfl rfl);apply ae rfl;(exact ai rfl rfl);refine aq ?_;refine an ?_;refine aj ?_;refine ag ?_;apply ae rfl;(exact ah rfl rfl);apply ae rfl;(exact ah rfl rfl);apply ae rfl;(first | (apply ar 57;exact au hN (by as_aux_lemma=>kernel_rfl) rfl rfl ⟨rfl,trivial⟩ ⟨⟨_,rfl, .inl rfl⟩,trivial⟩ rfl rfl) | (apply ar 103;exact au hX (by as_aux_lemma=>kernel_rfl) rfl rfl ⟨rfl,rfl,rfl,trivial⟩ ⟨⟨_,rfl, .inl rfl⟩,trivial⟩ rfl rfl) | (apply ar 56;exact au hA (by as_aux_lemma=>kernel_rfl) rfl rfl ⟨rfl,rfl,trivial⟩ ⟨⟨_,rfl, .inl rfl⟩,trivial⟩ rfl rfl) | (apply ar 56;exact au hO (by as_aux_lemma=>kernel_rfl) rfl rfl ⟨rfl,rfl,trivial⟩ ⟨⟨_,rfl, .inl rfl⟩,trivial⟩ rfl rfl) | (apply ar 56;exact au hP (by as_aux_lemma=>kernel_rfl) rfl rfl ⟨rfl,rfl,trivial⟩ ⟨⟨_,rfl, .inl rfl⟩,trivial⟩ rfl rfl) | exact bR rfl rfl rfl p2 hq1 | exact bR rfl rfl rfl p3 hq2);apply ae rfl;(exact ah rfl rfl);apply ae rfl;(first | (apply ar 57;exact au hN (by as_aux_lemma=>kernel_rfl) rfl rfl ⟨rfl,trivial⟩ ⟨⟨_,rfl, .inl rfl⟩,trivial⟩ rfl rfl) | (apply ar 103;exact au hX (by as_aux_lemma=>kernel_rfl) rfl rfl ⟨rfl,rfl,rfl,trivial⟩ ⟨⟨_,rfl, .inl rfl⟩,trivial⟩ rfl rfl) | (apply ar 56;exact au hA (by as_aux_lemma=>kernel_rfl) rfl rfl ⟨rfl,rfl,trivial⟩ ⟨⟨_,rfl, .inl rfl⟩,trivial⟩ rfl rfl) | (apply ar 56;exact au hO (by as_aux_lemma=>kernel_rfl) rfl rfl ⟨rfl,rfl,trivial⟩ ⟨⟨_,rfl, .inl rfl⟩,trivial⟩ rfl rfl) | (apply ar 56;exact au hP (by as_aux_lemma=>kernel_rfl) rfl rfl ⟨rfl,rfl,trivial⟩ ⟨⟨_,rfl, .inl rfl⟩,trivial⟩ rfl rfl) | exact bR rfl rfl rfl p2 hq1 | exact bR rfl rfl rfl p3 hq2);apply ae rfl;(exact ai rfl rfl);refine aq ?_;refine an ?_;refine aK ?_)
 exact aW (.inl rfl) rfl (.tmp rfl) trivial trivial
set_option maxRecDepth 100000 in
theorem vH (zs:List Int) (L k l:Nat) (hL:zs.length=L) (hd:bz zs=true) (hf:dC zs (bg zs)=true) (hk:k < 1000) (hl:l < 1000):
  FC Tryz.prog 53 [(1003,cf zs)] [o1 (.sl 1003 0 L),vv (I6 k),vv (I6 l)] [] (vv (I6 (dn zs k l:Nat))) []:=by
 have h4:L≤4:=by have:=bE hd;omega
 have hlt:=dk (zs:=zs) (by omega)
 have hfl:=rS (zs:=zs) (by omega) k l
 have hW:=fF zs L hL h4
 have hA:=lD zs L (bg zs) hL hd (by omega) hf
 have hO:=lD zs L l hL hd hl (iO hd hf l)
 have hX:=wB zs L k l hL h4 hk hl
 have hP:=lD zs L (iW zs k l) hL hd hfl (iO hd hf _)
 obtain ⟨e1,p1,q1⟩:=eX hd (bg zs)
 obtain ⟨e2,p2,q2⟩:=eX hd l
 obtain ⟨e3,p3,q3⟩:=eX hd (iW zs k l)
 rw [e1] at hA
 rw [e2] at hO
 rw [e3] at hP
 have hq1:fv zs (bg zs) < 1000000000000:=by omega
 have hq2:fv zs (bg zs) / fv zs l < 1000000000000:=Nat.lt_of_le_of_lt (Nat.div_le_self _ _) hq1
 unfold dn
 refine a5 (nt:=22) Tryz.func53 rfl rfl (by simp) fun w0 ω0=> ?_
 (refine aj ?_;refine ag ?_;apply ae rfl;(exact ai rfl rfl);refine aq ?_;refine an ?_;refine aj ?_)
 apply dK 15 [] [[], [], [1], [0,1,2], [], [], [0,1,2,3,4,5], [0,1,2,3,4,5,6], [], [], [], [], [0,1,2,3,4,5,6,9,10,11], [0,1,2,3,4,5,6,8,9,10,11,12], [0,1,2,3,4,5,6,7,8,9,10,11,12,13], [0,1,2,3,4,5,6,7,8,9,10,11,12,13,14]] [7,8,9,10,11,12,13,14,15,16,17,18,19,20,21] [] (by kernel_rfl) (by kernel_rfl)
 ·(apply aF rfl;(intro S1 hS;exact ah rfl (hS.op rfl)))
  (apply aF rfl;(intro S1 hS;exact ah rfl (hS.op rfl)))
  (apply aF rfl;(intro S1 hS;exact au hW (by as_aux_lemma=>kernel_rfl) rfl (ez hS rfl) ⟨rfl,trivial⟩ (dJ hS ⟨⟨_,rfl, .inl rfl⟩,trivial⟩) rfl rfl))
  (apply aF rfl;(intro S1 hS;exact au hA (by as_aux_lemma=>kernel_rfl) rfl (ez hS rfl) ⟨rfl,rfl,trivial⟩ (dJ hS ⟨⟨_,rfl, .inl rfl⟩,trivial⟩) rfl rfl))
  (apply aF rfl;(intro S1 hS;exact ah rfl (hS.op rfl)))
  (apply aF rfl;(intro S1 hS;exact ah rfl (hS.op rfl)))
  (apply aF rfl;(intro S1 hS;exact au hO (by as_aux_lemma=>kernel_rfl) rfl (ez hS rfl) ⟨rfl,rfl,trivial⟩ (dJ hS ⟨⟨_,rfl, .inl rfl⟩,trivial⟩) rfl rfl))
  (apply aF rfl;(intro S1 hS;exact bR rfl (hS.op rfl) (hS.op rfl) p2 hq1))
  (apply aF rfl;(intro S1 hS;exact ah rfl (hS.op rfl)))
  (apply aF rfl;(intro S1 hS;exact ah rfl (hS.op rfl)))
  (apply aF rfl;(intro S1 hS;exact ah rfl (hS.op rfl)))
  (apply aF rfl;(intro S1 hS;exact ah rfl (hS.op rfl)))
  (apply aF rfl;(intro S1 hS;exact au hX (by as_aux_lemma=>kernel_rfl) rfl (ez hS rfl) ⟨rfl,rfl,rfl,trivial⟩ (dJ hS ⟨⟨_,rfl, .inl rfl⟩,trivial⟩) rfl rfl))
  (apply aF rfl;(intro S1 hS;exact au hP (by as_aux_lemma=>kernel_rfl) rfl (ez hS rfl) ⟨rfl,rfl,trivial⟩ (dJ hS ⟨⟨_,rfl, .inl rfl⟩,trivial⟩) rfl rfl))
  (apply aF rfl;(intro S1 hS;exact bR rfl (hS.op rfl) (hS.op rfl) p3 hq2))
  exact eR.nil
 ·rfl
 refine cK (St.of [(6,vv (I6 (fv zs (bg zs) / fv zs l / fv zs (iW zs k l):Nat)))] []) ?_ ?_
 ·((apply aZ 15 rfl (by as_aux_lemma=>kernel_rfl) rfl rfl;(exact ai rfl rfl));(refine bF (by as_aux_lemma=>kernel_rfl) ?_;exact aU (Wk.of ⟨rfl,trivial⟩ trivial trivial)))
 (refine an ?_;refine aK ?_)
 exact aW (.inl rfl) rfl (.tmp rfl) trivial trivial
set_option maxRecDepth 100000 in
theorem xV (zs:List Int) (m s:Int) (hn:zs.length≤4398046511104):
  FC Tryz.prog 16 [(1003,cf zs)] [o1 (.sl 1003 0 zs.length),vv (I6 m),vv (I6 s)] [] (.tup [.one (.val (I6 (sJ zs m s))), .one (.val (I6 (qa zs m s)))]) []:=by
 have hS:=uq zs zs.length m s rfl hn
 unfold sJ
 refine a5 (nt:=20) Tryz.func16 rfl rfl (by simp) fun w0 ω0=> ?_
 (refine aj ?_;refine ag ?_;apply ae rfl;(exact ai rfl rfl);apply ae rfl;(exact ai rfl rfl);refine aq ?_;refine an ?_;refine aj ?_;refine aj ?_;refine ag ?_;apply ae rfl;(exact ah rfl rfl);apply ae rfl;(exact ah rfl rfl);apply ae rfl;(exact ah rfl rfl);apply ae rfl;(apply ar 63;exact au hS (by as_aux_lemma=>kernel_rfl) rfl rfl ⟨rfl,rfl,rfl,trivial⟩ ⟨⟨_,rfl, .inl rfl⟩,trivial⟩ rfl rfl);apply ae rfl;(exact ai rfl rfl);refine aq ?_;refine an ?_;refine aj ?_;refine ag ?_;apply ae rfl;(exact ah rfl rfl);apply ae rfl;(exact aB rfl rfl rfl rfl);refine aq ?_;refine an ?_)
 refine ax rfl (fun h=> ?_) (fun h=> ?_)
 ·have h0:qa zs m s≠0:=by simpa using h
  rw [if_neg h0]
  (refine aj ?_;refine ag ?_;apply ae rfl;(exact ah rfl rfl);apply ae rfl;(exact ai rfl rfl);apply ae rfl;(exact ai rfl rfl);refine aq ?_;refine an ?_;refine aK ?_;refine aT ?_)
  exact cg (.inl rfl) rfl (.tmp rfl) (.tmp rfl) trivial trivial
 have h0:qa zs m s=0:=by simpa using h
 rw [if_pos h0,h0]
 obtain ⟨hd,hf,k,l,rfl,rfl,hk,hl⟩:=pQ h0
 have hlt:=dk (bE hd)
 have hF:=jY zs zs.length k l rfl hd hf (by omega) (by omega)
 rw [Int.toNat_natCast,Int.toNat_natCast]
 (refine aG ?_;refine an ?_;refine aj ?_;refine ag ?_;apply ae rfl;(exact ah rfl rfl);apply ae rfl;(exact ah rfl rfl);apply ae rfl;(exact ah rfl rfl);apply ae rfl;(apply ar 48;exact au hF (by as_aux_lemma=>kernel_rfl) rfl rfl ⟨rfl,rfl,rfl,trivial⟩ ⟨⟨_,rfl, .inl rfl⟩,trivial⟩ rfl rfl);apply ae rfl;(exact ai rfl rfl);apply ae rfl;(exact ai rfl rfl);refine aq ?_;refine an ?_;refine aK ?_)
 exact cg (.inl rfl) rfl (.tmp rfl) (.tmp rfl) trivial trivial
theorem qL {E:Nat} {lo hi:Nat} {v:Value} {zs:List Int} (m s:Int) (w:World) (h:dZ E w lo hi v zs):
  Calls Tryz.prog 16 #[v, .int .i64 m, .int .i64 s] w fun e w'=>e= .returned (.tuple #[.int .i64 (sJ zs m s), .int .i64 (qa zs m s)])∧Below w.heap.size w w':=fJ (j9 m s (fun k=>xV zs m s k) h)
end Go.Proofs.YtekbhbcgoadciaaGreat
namespace Go.Proofs.YtekbhbcgoadciaaGreat
open Go.RowKit
theorem lE (x:Nat) (hx:x < 32):FC Tryz.prog 47 [] [vv (.int .u64 x)] [] (vv (I6 (cC x:Nat))) []:=
 du fun w η ω us hm ⟨hl,ha⟩=>by
  obtain ⟨u0,g0,d0⟩:=ha 0 _ rfl
  have d0:u0= .int .u64 x:=d0
  subst d0
  rw [mn hl g0]
  exact (lN x hx w).mono fun e w' ⟨h1,h2⟩=>⟨h1,by rw [h2];exact Below.refl _ _⟩
def gF (zs:List Int) (r i:Nat):Nat:=(aC (bC zs r) i).toNat
theorem pC {zs:List Int} (h4:zs.length≤4) (r:Nat):nq (bC zs r):=(ka h4 r).perm (gV h4 r)
theorem om {zs:List Int} (h4:zs.length≤4) (r i:Nat):aC (bC zs r) i=(gF zs r i:Int):=by
 obtain ⟨k,hk,_⟩:=(pC h4 r).at_ i
 unfold gF;omega
theorem n7 {zs:List Int} (h4:zs.length≤4) (r i:Nat):gF zs r i < 32:=by
 obtain ⟨k,hk,_⟩:=(pC h4 r).at_ i
 unfold gF;omega
theorem yc {L:Nat} (h4:L≤4) {s:Nat} (hs:s < 2 ^ (L + 1) - 1):cC s≤L:=by
 have h0:∀s,s < 1→cC s≤0:=by decide
 have h1:∀s,s < 3→cC s≤1:=by decide
 have h2:∀s,s < 7→cC s≤2:=by decide
 have h3:∀s,s < 15→cC s≤3:=by decide
 have h4':∀s,s < 31→cC s≤4:=by decide
 rcases (by omega:L=0∨L=1∨L=2∨L=3∨L=4) with rfl | rfl | rfl | rfl | rfl
 ·exact h0 s hs
 ·exact h1 s hs
 ·exact h2 s hs
 ·exact h3 s hs
 ·exact h4' s hs
theorem x4 {L:Nat} (h4:L≤4):cC (2 ^ (L + 1) - 1)=L + 1:=by
 rcases (by omega:L=0∨L=1∨L=2∨L=3∨L=4) with rfl | rfl | rfl | rfl | rfl<;>rfl
theorem tA {zs:List Int} (h4:zs.length≤4) {r:Nat} (ha:dz zs (bg zs) r=true):fy zs r (zs.length + 1) (bg zs + 1)= [bg zs]:=by
 have h1:cC (bg zs)=zs.length + 1:=x4 h4
 rw [ji,if_pos (by rw [h1,ha];simp)]
 have:fy zs r (zs.length + 1) (bg zs)= []:=by
  unfold fy
  rw [List.filter_eq_nil_iff]
  intro s hs
  have h2:=yc h4 (s:=s) (by have:=List.mem_range.1 hs;unfold bg at this;exact this)
  simp
  intro h3
  omega
 rw [this];rfl
theorem lV {zs:List Int} (h4:zs.length≤4) {r:Nat} (ha:dz zs (bg zs) r=true):fM zs r (zs.length + 2)=fM zs r (zs.length + 1) ++ [bg zs]:=by
 rw [jz,tA h4 ha]
theorem jL {zs:List Int} (h4:zs.length≤4) {r:Nat} (ha:dz zs (bg zs) r=true):0 < (bC zs r).length:=by
 unfold bC;rw [lV h4 ha];simp
theorem qk {zs:List Int} (h4:zs.length≤4) {r i:Nat} (ha:dz zs (bg zs) r=true) (hi:i + 1 < (bC zs r).length):cC (gF zs r i)≤zs.length:=by
 unfold gF bC
 unfold bC at hi
 rw [lV h4 ha] at hi ⊢
 have hlt:i < (fM zs r (zs.length + 1)).length:=by simpa using hi
 rw [ct (by simp;omega),List.getElem_map,List.getElem_append_left hlt]
 have hm:=List.getElem_mem hlt
 generalize (fM zs r (zs.length + 1))[i]=s at hm
 unfold fM at hm
 obtain ⟨k,hk,hs⟩:=List.mem_flatMap.1 hm
 rw [nS] at hs
 have h1:=(List.mem_filter.1 hs).2
 have h2:=List.mem_range.1 hk
 have h3:cC s=k:=by simpa using h1
 rw [Int.toNat_natCast];omega
theorem j6 {zs:List Int} (hd:bz zs=true) (k l:Nat):dn zs k l≤33554432:=by
 have h1:=(eX hd (bg zs)).2.2
 unfold dn
 exact Nat.le_trans (Nat.div_le_self _ _) (Nat.le_trans (Nat.div_le_self _ _) h1)
def iD (zs:List Int) (r:Nat):Nat→List Int
 | 0=>List.replicate (zs.length + 1) 0
 | i + 1=>(iD zs r i).set (cC (gF zs r i)) (aC (iD zs r i) (cC (gF zs r i)) + (dn zs r (gF zs r i):Nat))
def jx (zs:List Int) (r:Nat):List Int:=iD zs r ((bC zs r).length - 1)
theorem gJ (zs:List Int) (r:Nat):∀i,(iD zs r i).length=zs.length + 1
 | 0=>by simp [iD]
 | i + 1=>by rw [iD,List.length_set];exact gJ zs r i
theorem nx (n j:Nat):aC (List.replicate n (0:Int)) j=0:=by
 by_cases h:j < n
 ·rw [ct (by simpa using h)];simp
 ·simp [aC,h]
theorem qX {zs:List Int} (hd:bz zs=true) (r:Nat):∀i j,0≤aC (iD zs r i) j∧aC (iD zs r i) j≤(i:Int) * 33554432
 | 0,j=>by rw [iD,nx];omega
 | i + 1,j=>by
  have ih:=qX hd r i
  have hc:=j6 hd r (gF zs r i)
  rw [iD]
  by_cases e:j=cC (gF zs r i)
  ·subst e
   by_cases hl:cC (gF zs r i) < (iD zs r i).length
   ·rw [dN hl];have:=ih (cC (gF zs r i));omega
   ·rw [List.set_eq_of_length_le (by omega)];have:=ih (cC (gF zs r i));omega
  ·rw [di (fun h=>e h.symm)];have:=ih j;omega
set_option maxRecDepth 100000 in
theorem km (zs:List Int) (L r K:Nat) (hL:zs.length=L) (h4:L≤4) (hr:r < 1000) (hK:(bC zs r).length - 1=K) (hp:0 < (bC zs r).length):
  FC Tryz.prog 46 [(1003,cf zs)] [o1 (.sl 1003 0 L),vv (I6 r)] [(8,bI (bC zs r))] (o1 (.sl 8 0 K)) []:=by
 have hS:=(pO zs L r hL h4 hr).nm [(1003,1003),(2400,8)] (by kernel_rfl)
 have hS:FC Tryz.prog 60 [(1003,cf zs)] [o1 (.sl 1003 0 L),vv (I6 r)] [(8,bI (bC zs r))] (o1 (.sl 8 0 (bC zs r).length)) []:=hS
 have hl:=ew (zs:=zs) (by omega) r
 have e1:IntKind.i64.wrap (((bC zs r).length:Int) - 1)=(K:Int):=by rw [IntWalk.i64_in _ (by omega)];omega
 refine a5 (nt:=14) Tryz.func46 rfl rfl (by simp) fun w0 ω0=> ?_
 (refine aj ?_;refine ag ?_;apply ae rfl;(exact ai rfl rfl);refine aq ?_;refine an ?_;refine aj ?_;refine ag ?_;apply ae rfl;(exact ah rfl rfl);apply ae rfl;(exact ah rfl rfl);apply ae rfl;(first | (apply ar 60;exact bl hS (by as_aux_lemma=>kernel_rfl) rfl rfl ⟨rfl,rfl,trivial⟩ ⟨⟨_,rfl, .inl rfl⟩,trivial⟩ rfl rfl rfl) | exact bf rfl rfl rfl e1 | exact b9 (l:=0) (m:=K) (h:=K) (Nat.zero_add _) rfl rfl rfl rfl (by as_aux_lemma=>kernel_rfl) cQ (c6 rfl rfl) (by omega) (by rw [show (bI (bC zs r)).d.len=(aH (bC zs r)).length from rfl,aO];exact Nat.le_refl _));apply ae rfl;(exact ai rfl rfl);refine aq ?_;refine an ?_;refine aj ?_;refine ag ?_;apply ae rfl;(exact ah rfl rfl);apply ae rfl;(exact ah rfl rfl);apply ae rfl;(exact br rfl rfl rfl (by as_aux_lemma=>kernel_rfl));apply ae rfl;(first | (apply ar 60;exact bl hS (by as_aux_lemma=>kernel_rfl) rfl rfl ⟨rfl,rfl,trivial⟩ ⟨⟨_,rfl, .inl rfl⟩,trivial⟩ rfl rfl rfl) | exact bf rfl rfl rfl e1 | exact b9 (l:=0) (m:=K) (h:=K) (Nat.zero_add _) rfl rfl rfl rfl (by as_aux_lemma=>kernel_rfl) cQ (c6 rfl rfl) (by omega) (by rw [show (bI (bC zs r)).d.len=(aH (bC zs r)).length from rfl,aO];exact Nat.le_refl _));apply ae rfl;(first | (apply ar 60;exact bl hS (by as_aux_lemma=>kernel_rfl) rfl rfl ⟨rfl,rfl,trivial⟩ ⟨⟨_,rfl, .inl rfl⟩,trivial⟩ rfl rfl rfl) | exact bf rfl rfl rfl e1 | exact b9 (l:=0) (m:=K) (h:=K) (Nat.zero_add _) rfl rfl rfl rfl (by as_aux_lemma=>kernel_rfl) cQ (c6 rfl rfl) (by omega) (by rw [show (bI (bC zs r)).d.len=(aH (bC zs r)).length from rfl,aO];exact Nat.le_refl _));apply ae rfl;(exact ai rfl rfl);refine aq ?_;refine an ?_;refine aK ?_)
 exact aW (.inl rfl) rfl (.tmp rfl) ⟨rfl,trivial⟩ trivial
set_option maxRecDepth 100000 in
theorem sM (zs:List Int) (L r K:Nat) (hL:zs.length=L) (h4:L≤4) (hr:r < 1000) (hK:(bC zs r).length - 1=K) (hp:0 < (bC zs r).length):
  FC Tryz.prog 51 [(1003,cf zs)] [o1 (.sl 1003 0 L),vv (I6 r)] [(8,bI (bC zs r))] (o1 (.sl 8 0 K)) []:=by
 have hS:=uh zs L r hL h4 hr
 have hl:=ew (zs:=zs) (by omega) r
 have e1:IntKind.i64.wrap (((bC zs r).length:Int) - 1)=(K:Int):=by rw [IntWalk.i64_in _ (by omega)];omega
 refine a5 (nt:=14) Tryz.func51 rfl rfl (by simp) fun w0 ω0=> ?_
 (refine aj ?_;refine ag ?_;apply ae rfl;(exact ai rfl rfl);refine aq ?_;refine an ?_;refine aj ?_;refine ag ?_;apply ae rfl;(exact ah rfl rfl);apply ae rfl;(exact ah rfl rfl);apply ae rfl;(first | (apply ar 106;exact bl hS (by as_aux_lemma=>kernel_rfl) rfl rfl ⟨rfl,rfl,trivial⟩ ⟨⟨_,rfl, .inl rfl⟩,trivial⟩ rfl rfl rfl) | exact bf rfl rfl rfl e1 | exact b9 (l:=0) (m:=K) (h:=K) (Nat.zero_add _) rfl rfl rfl rfl (by as_aux_lemma=>kernel_rfl) cQ (c6 rfl rfl) (by omega) (by rw [show (bI (bC zs r)).d.len=(aH (bC zs r)).length from rfl,aO];exact Nat.le_refl _));apply ae rfl;(exact ai rfl rfl);refine aq ?_;refine an ?_;refine aj ?_;refine ag ?_;apply ae rfl;(exact ah rfl rfl);apply ae rfl;(exact ah rfl rfl);apply ae rfl;(exact br rfl rfl rfl (by as_aux_lemma=>kernel_rfl));apply ae rfl;(first | (apply ar 106;exact bl hS (by as_aux_lemma=>kernel_rfl) rfl rfl ⟨rfl,rfl,trivial⟩ ⟨⟨_,rfl, .inl rfl⟩,trivial⟩ rfl rfl rfl) | exact bf rfl rfl rfl e1 | exact b9 (l:=0) (m:=K) (h:=K) (Nat.zero_add _) rfl rfl rfl rfl (by as_aux_lemma=>kernel_rfl) cQ (c6 rfl rfl) (by omega) (by rw [show (bI (bC zs r)).d.len=(aH (bC zs r)).length from rfl,aO];exact Nat.le_refl _));apply ae rfl;(first | (apply ar 106;exact bl hS (by as_aux_lemma=>kernel_rfl) rfl rfl ⟨rfl,rfl,trivial⟩ ⟨⟨_,rfl, .inl rfl⟩,trivial⟩ rfl rfl rfl) | exact bf rfl rfl rfl e1 | exact b9 (l:=0) (m:=K) (h:=K) (Nat.zero_add _) rfl rfl rfl rfl (by as_aux_lemma=>kernel_rfl) cQ (c6 rfl rfl) (by omega) (by rw [show (bI (bC zs r)).d.len=(aH (bC zs r)).length from rfl,aO];exact Nat.le_refl _));apply ae rfl;(exact ai rfl rfl);refine aq ?_;refine an ?_;refine aK ?_)
 exact aW (.inl rfl) rfl (.tmp rfl) ⟨rfl,trivial⟩ trivial
set_option maxRecDepth 100000 in
set_option maxHeartbeats 2000000 in
theorem vf (zs:List Int) (m:Int) (hn:zs.length≤4398046511104) (h0:cB zs m=0):
  FC Tryz.prog 8 [(1003,cf zs)] [o1 (.sl 1003 0 zs.length),vv (I6 m)] [(19,bI (jx zs m.toNat))] (.tup [.one (.sl 19 0 (jx zs m.toNat).length), .one (.val (I6 0))]) []:=by
 have hC:=ft zs zs.length m rfl hn
 rw [h0] at hC
 obtain ⟨hd,hf,k,rfl,hk,ha⟩:=dO h0
 have h4:=bE hd
 have hlt:=dk h4
 have hk2:k < 1000:=by omega
 rw [Int.toNat_natCast]
 have hsl:=ew h4 k
 obtain ⟨K,hK⟩:∃K,(bC zs k).length - 1=K:=⟨_,rfl⟩
 have hK1:=jL h4 ha
 have hil:K≤(aH (bC zs k)).length:=by rw [aO];omega
 have hS:=(km zs zs.length k K rfl h4 hk2 hK (by omega)).nm [(1003,1003),(8,22)] (by kernel_rfl)
 have hS:FC Tryz.prog 46 [(1003,cf zs)] [o1 (.sl 1003 0 zs.length),vv (I6 k)] [(22,bI (bC zs k))] (o1 (.sl 22 0 K)) []:=hS
 have e1:IntKind.i64.wrap ((zs.length:Int) + 1)=((zs.length + 1:Nat):Int):=by rw [IntWalk.i64_in _ (by omega)];omega
 unfold jx
 rw [hK,gJ]
 refine a5 (nt:=42) Tryz.func8 rfl rfl (by simp) fun w0 ω0=> ?_
 (refine aj ?_;refine ag ?_;apply ae rfl;(exact ai rfl rfl);apply ae rfl;(exact ai rfl rfl);refine aq ?_;refine an ?_;refine aj ?_;refine aj ?_;refine ag ?_;apply ae rfl;(exact ah rfl rfl);apply ae rfl;(exact ah rfl rfl);apply ae rfl;((apply ar 45;exact au hC (by as_aux_lemma=>kernel_rfl) rfl rfl ⟨rfl,rfl,trivial⟩ ⟨⟨_,rfl, .inl rfl⟩,trivial⟩ rfl rfl));apply ae rfl;(exact ai rfl rfl);refine aq ?_;refine an ?_;refine aj ?_;refine ag ?_;apply ae rfl;(exact ah rfl rfl);apply ae rfl;(exact aB rfl rfl rfl rfl);refine aq ?_;refine an ?_)
 refine ax rfl (fun e=>by cases e) (fun _=> ?_)
 (refine aG ?_;refine an ?_;refine aj ?_;refine ag ?_;apply ae rfl;(exact ah rfl rfl);apply ae rfl;(exact br rfl rfl rfl (by as_aux_lemma=>kernel_rfl));apply ae rfl;(first | exact aJ rfl rfl rfl e1 | (apply ar 46;exact bl hS (by as_aux_lemma=>kernel_rfl) rfl rfl ⟨rfl,rfl,trivial⟩ ⟨⟨_,rfl, .inl rfl⟩,trivial⟩ rfl rfl rfl));apply ae rfl;(exact kZ (E:=2) rfl (by as_aux_lemma=>kernel_rfl) (by as_aux_lemma=>kernel_rfl) rfl rfl rfl rfl (by omega));apply ae rfl;(exact ai rfl rfl);refine aq ?_;refine an ?_;refine aj ?_;refine aj ?_;refine ag ?_;apply ae rfl;(exact ah rfl rfl);apply ae rfl;(exact ah rfl rfl);apply ae rfl;(first | exact aJ rfl rfl rfl e1 | (apply ar 46;exact bl hS (by as_aux_lemma=>kernel_rfl) rfl rfl ⟨rfl,rfl,trivial⟩ ⟨⟨_,rfl, .inl rfl⟩,trivial⟩ rfl rfl rfl));apply ae rfl;(exact br rfl rfl rfl (by as_aux_lemma=>kernel_rfl));apply ae rfl;(exact ah rfl rfl);refine aq ?_;refine an ?_;refine aD ?_)
 refine bx (fun j:Nat=>St.of [(0,o1 (.sl 1003 0 zs.length)),(1,vv (I6 k)),(7,o1 (.sl 19 0 (zs.length + 1))),(22,o1 (.sl 22 0 K)),(23,vv (I6 K)),(24,vv (I6 j))] [(1003,cf zs),(19,bI (iD zs k j)),(22,bI (bC zs k))]) (fun j=>j≤K) (fun j=>K - j) 0 (Nat.zero_le _) (Wk.of ⟨rfl,rfl,rfl,rfl,rfl,rfl,trivial⟩ ⟨rfl,rfl,rfl,trivial⟩ trivial) ?_
 rintro j hj
 (refine aj ?_;refine ag ?_;apply ae rfl;(exact aB rfl rfl rfl rfl);refine aq ?_;refine an ?_;refine aj ?_)
 refine bM rfl (fun hlj=> ?_) (fun hlj=> ?_)
 ·have hjK:j < K:=by omega
  have hat:=om h4 k j
  have h32:=n7 h4 k j
  have hpc:=qk h4 ha (i:=j) (by omega)
  have hcl:=gJ zs k j
  have hcb:=qX hd k j
  obtain ⟨kk,hkk⟩:∃kk,gF zs k j=kk:=⟨_,rfl⟩
  have hst:iD zs k (j + 1)=(iD zs k j).set (cC kk) (aC (iD zs k j) (cC kk) + (dn zs k kk:Nat)):=by rw [←hkk];rfl
  rw [hkk] at hat h32 hpc
  have hgk:(aH (bC zs k))[j]? =some (I6 (kk:Int)):=by rw [aR (by omega),hat]
  have hF:=jY zs zs.length k kk rfl hd hf hk2 (by omega)
  have hcn:=j6 hd k kk
  have hb1:=(hcb (cC kk)).1
  have hb2:=(hcb (cC kk)).2
  have hcur:(aH (iD zs k j))[cC kk]? =some (I6 (aC (iD zs k j) (cC kk))):=aR (by omega)
  have hpl:cC kk < zs.length + 1:=by omega
  have hpil:zs.length + 1≤(aH (iD zs k j)).length:=by rw [aO];omega
  have e5:IntKind.i64.wrap (aC (iD zs k j) (cC kk) + ((dn zs k kk:Nat):Int))=aC (iD zs k j) (cC kk) + ((dn zs k kk:Nat):Int):=IntWalk.i64_in _ (by omega)
  have e8:IntKind.i64.wrap ((j:Int) + 1)=((j + 1:Nat):Int):=by rw [IntWalk.i64_in _ (by omega)];omega
  have hO:=lE kk h32
  have hcu:IntKind.u64.wrap (kk:Int)=(kk:Int):=by rw [IntKind.wrap_u64];omega
  (refine aG ?_;refine an ?_;refine aj ?_;refine aD ?_;refine aj ?_;refine ag ?_;apply ae rfl;(first | exact aS (j:=j) rfl rfl rfl rfl rfl (by as_aux_lemma=>kernel_rfl) rfl hjK hil | exact aV rfl (by as_aux_lemma=>kernel_rfl) rfl rfl rfl hgk);apply ae rfl;(first | exact aS (j:=j) rfl rfl rfl rfl rfl (by as_aux_lemma=>kernel_rfl) rfl hjK hil | exact aV rfl (by as_aux_lemma=>kernel_rfl) rfl rfl rfl hgk);apply ae rfl;(exact ai rfl rfl);refine aq ?_;refine an ?_)
  apply dK 11 [] [[], [], [1], [1,2], [0,1,2,3], [0,1,2,3,4], [], [], [], [1,2,3,6,7,8], [0,1,2,3,4,5,6,7,8,9], [0,1,2,3,4,5,6,7,8,9,10], [0,1,2,3,4,5,6,7,8,9,10,11]] [28,29,30,31,32,33,34,35,36,37,38] [] (by kernel_rfl) (by kernel_rfl)
  ·(apply aF rfl;(intro S1 hS;exact ah rfl (hS.op rfl)))
   (apply aF rfl;(intro S1 hS;exact ah rfl (hS.op rfl)))
   (apply aF rfl;(intro S1 hS;exact aN (k2:= .u64) rfl (hS.op rfl) (by as_aux_lemma=>kernel_rfl) (by as_aux_lemma=>kernel_rfl) hcu))
   (apply aF rfl;(intro S1 hS;apply ar 47;exact au hO (by as_aux_lemma=>kernel_rfl) rfl (ez hS rfl) ⟨rfl,trivial⟩ trivial rfl rfl))
   (apply aF rfl;(intro S1 hS;exact aS (j:=cC kk) rfl (hS.op rfl) (hS.op rfl) (hS.ch _ _ rfl) rfl (by as_aux_lemma=>kernel_rfl) rfl hpl hpil))
   (apply aF rfl;(intro S1 hS;exact aV rfl (by as_aux_lemma=>kernel_rfl) (hS.op rfl) (hS.ch _ _ rfl) rfl hcur))
   (apply aF rfl;(intro S1 hS;exact ah rfl (hS.op rfl)))
   (apply aF rfl;(intro S1 hS;exact ah rfl (hS.op rfl)))
   (apply aF rfl;(intro S1 hS;exact ah rfl (hS.op rfl)))
   (apply aF rfl;(intro S1 hS;apply ar 48;exact au hF (by as_aux_lemma=>kernel_rfl) rfl (ez hS rfl) ⟨rfl,rfl,rfl,trivial⟩ (dJ hS ⟨⟨_,rfl, .inl rfl⟩,trivial⟩) rfl rfl))
   (apply aF rfl;(intro S1 hS;exact aJ rfl (hS.op rfl) (hS.op rfl) e5))
   exact eR.nil
  ·rfl
  refine cK (St.of [(0,o1 (.sl 1003 0 zs.length)),(1,vv (I6 k)),(7,o1 (.sl 19 0 (zs.length + 1))),(22,o1 (.sl 22 0 K)),(23,vv (I6 K)),(24,vv (I6 j))] [(1003,cf zs),(19,bI ((iD zs k j).set (cC kk) (aC (iD zs k j) (cC kk) + ((dn zs k kk:Nat):Int)))),(22,bI (bC zs k))]) ?_ ?_
  ·((apply aZ 11 rfl (by as_aux_lemma=>kernel_rfl) rfl rfl;(first | exact aS (j:=cC kk) rfl rfl rfl rfl rfl (by as_aux_lemma=>kernel_rfl) rfl hpl hpil | exact eL rfl rfl rfl rfl rfl (by omega) (by as_aux_lemma=>kernel_rfl)));(apply aZ 12 rfl (by as_aux_lemma=>kernel_rfl) rfl rfl;(first | exact aS (j:=cC kk) rfl rfl rfl rfl rfl (by as_aux_lemma=>kernel_rfl) rfl hpl hpil | exact eL rfl rfl rfl rfl rfl (by omega) (by as_aux_lemma=>kernel_rfl)));(refine bF (by as_aux_lemma=>kernel_rfl) ?_;exact aU (Wk.of ⟨rfl,rfl,rfl,rfl,rfl,rfl,trivial⟩ ⟨rfl,rfl,rfl,trivial⟩ trivial)))
  (refine aI ?_;refine an ?_;refine ag ?_;apply ae rfl;(exact aJ rfl rfl rfl e8);apply ae rfl;(exact ah rfl rfl);refine aq ?_)
  exact aX (j + 1) (by omega) (by omega) (Wk.of ⟨rfl,rfl,rfl,rfl,rfl,rfl,trivial⟩ ⟨rfl,congrArg (fun z=>some (bI z)) hst.symm,rfl,trivial⟩ trivial)
 ·obtain rfl:j=K:=by omega
  (refine a6 ?_;refine aE ?_;refine aE ?_;refine aP ?_;refine an ?_;refine aj ?_;refine ag ?_;apply ae rfl;(exact ah rfl rfl);apply ae rfl;(exact ai rfl rfl);apply ae rfl;(exact ai rfl rfl);refine aq ?_;refine an ?_;refine aK ?_)
  exact cg (.inl rfl) rfl (.tmp rfl) (.tmp rfl) ⟨rfl,trivial⟩ trivial
set_option maxRecDepth 100000 in
set_option maxHeartbeats 2000000 in
theorem xc (zs:List Int) (m:Int) (hn:zs.length≤4398046511104) (h0:cB zs m=0):
  FC Tryz.prog 9 [(1003,cf zs)] [o1 (.sl 1003 0 zs.length),vv (I6 m)] [(19,bI (jx zs m.toNat))] (.tup [.one (.sl 19 0 (jx zs m.toNat).length), .one (.val (I6 0))]) []:=by
 have hC:=l7 zs zs.length m rfl hn
 rw [h0] at hC
 obtain ⟨hd,hf,k,rfl,hk,ha⟩:=dO h0
 have h4:=bE hd
 have hlt:=dk h4
 have hk2:k < 1000:=by omega
 rw [Int.toNat_natCast]
 have hsl:=ew h4 k
 obtain ⟨K,hK⟩:∃K,(bC zs k).length - 1=K:=⟨_,rfl⟩
 have hK1:=jL h4 ha
 have hil:K≤(aH (bC zs k)).length:=by rw [aO];omega
 have hKs:=(sM zs zs.length k K rfl h4 hk2 hK (by omega)).nm [(1003,1003),(8,22)] (by kernel_rfl)
 have hKs:FC Tryz.prog 51 [(1003,cf zs)] [o1 (.sl 1003 0 zs.length),vv (I6 k)] [(22,bI (bC zs k))] (o1 (.sl 22 0 K)) []:=hKs
 have hRk:=gw zs zs.length h4
 unfold jx
 rw [hK,gJ]
 refine a5 (nt:=50) Tryz.func9 rfl rfl (by simp) fun w0 ω0=> ?_
 (refine aj ?_;refine ag ?_;apply ae rfl;(exact ai rfl rfl);apply ae rfl;(exact ai rfl rfl);refine aq ?_;refine an ?_;refine aj ?_;refine aj ?_;refine ag ?_;apply ae rfl;(exact ah rfl rfl);apply ae rfl;(exact ah rfl rfl);apply ae rfl;((apply ar 49;exact au hC (by as_aux_lemma=>kernel_rfl) rfl rfl ⟨rfl,rfl,trivial⟩ ⟨⟨_,rfl, .inl rfl⟩,trivial⟩ rfl rfl));apply ae rfl;(exact ai rfl rfl);refine aq ?_;refine an ?_;refine aj ?_;refine ag ?_;apply ae rfl;(exact ah rfl rfl);apply ae rfl;(exact aB rfl rfl rfl rfl);refine aq ?_;refine an ?_)
 refine ax rfl (fun e=>by cases e) (fun _=> ?_)
 (refine aG ?_;refine an ?_;refine aj ?_)
 apply dK 8 [] [[], [0], [0,1], [], [], [0,1,3,4], [0,1,2,3,4,5], [0,1,2,3,4,5,6]] [17,18,19,20,21,22,7,8] [19,22] (by kernel_rfl) (by kernel_rfl)
 ·(apply aF rfl;(intro S1 hS;exact ah rfl (hS.op rfl)))
  (apply aF rfl;(intro S1 hS;apply ar 50;exact au hRk (by as_aux_lemma=>kernel_rfl) rfl (ez hS rfl) ⟨rfl,trivial⟩ (dJ hS ⟨⟨_,rfl, .inl rfl⟩,trivial⟩) rfl rfl))
  (apply gE rfl;(intro S1 hS;exact kZ (E:=2) rfl (by as_aux_lemma=>kernel_rfl) (by as_aux_lemma=>kernel_rfl) (hS.op rfl) (hS.op rfl) rfl rfl (by omega)))
  (apply aF rfl;(intro S1 hS;exact ah rfl (hS.op rfl)))
  (apply aF rfl;(intro S1 hS;exact ah rfl (hS.op rfl)))
  (apply gE rfl;(intro S1 hS;apply ar 51;exact bl hKs (by as_aux_lemma=>kernel_rfl) rfl (ez hS rfl) ⟨rfl,rfl,trivial⟩ (dJ hS ⟨⟨_,rfl, .inl rfl⟩,trivial⟩) rfl rfl rfl))
  (apply aF rfl;(intro S1 hS;exact ai rfl (hS.op rfl)))
  (apply aF rfl;(intro S1 hS;exact ai rfl (hS.op rfl)))
  exact eR.nil
 ·rfl
 ((refine bF (by as_aux_lemma=>kernel_rfl) ?_;skip))
 (refine an ?_;refine aj ?_;refine aj ?_;refine ag ?_;apply ae rfl;(exact ai rfl rfl);refine aq ?_;refine an ?_;refine aD ?_)
 refine bx (fun j:Nat=>St.of [(0,o1 (.sl 1003 0 zs.length)),(1,vv (I6 k)),(7,o1 (.sl 19 0 (zs.length + 1))),(8,o1 (.sl 22 0 K)),(9,vv (I6 j))] [(1003,cf zs),(19,bI (iD zs k j)),(22,bI (bC zs k))]) (fun j=>j≤K) (fun j=>K - j) 0 (Nat.zero_le _) (Wk.of ⟨rfl,rfl,rfl,rfl,rfl,trivial⟩ ⟨rfl,rfl,rfl,trivial⟩ trivial) ?_
 rintro j hj
 (refine aj ?_;refine aj ?_;refine ag ?_;apply ae rfl;(exact ah rfl rfl);apply ae rfl;(exact ah rfl rfl);apply ae rfl;(exact br rfl rfl rfl (by as_aux_lemma=>kernel_rfl));apply ae rfl;(exact aB rfl rfl rfl rfl);refine aq ?_;refine an ?_)
 refine bM rfl (fun hlj=> ?_) (fun hlj=> ?_)
 ·have hjK:j < K:=by omega
  have hat:=om h4 k j
  have h32:=n7 h4 k j
  have hpc:=qk h4 ha (i:=j) (by omega)
  have hcl:=gJ zs k j
  have hcb:=qX hd k j
  obtain ⟨kk,hkk⟩:∃kk,gF zs k j=kk:=⟨_,rfl⟩
  have hst:iD zs k (j + 1)=(iD zs k j).set (cC kk) (aC (iD zs k j) (cC kk) + (dn zs k kk:Nat)):=by rw [←hkk];rfl
  rw [hkk] at hat h32 hpc
  have hgk:(aH (bC zs k))[j]? =some (I6 (kk:Int)):=by rw [aR (by omega),hat]
  have hF:=vH zs zs.length k kk rfl hd hf hk2 (by omega)
  have hcn:=j6 hd k kk
  have hb1:=(hcb (cC kk)).1
  have hb2:=(hcb (cC kk)).2
  have hcur:(aH (iD zs k j))[cC kk]? =some (I6 (aC (iD zs k j) (cC kk))):=aR (by omega)
  have hpl:cC kk < zs.length + 1:=by omega
  have hpil:zs.length + 1≤(aH (iD zs k j)).length:=by rw [aO];omega
  have e5:IntKind.i64.wrap (aC (iD zs k j) (cC kk) + ((dn zs k kk:Nat):Int))=aC (iD zs k j) (cC kk) + ((dn zs k kk:Nat):Int):=IntWalk.i64_in _ (by omega)
  have e8:IntKind.i64.wrap ((j:Int) + 1)=((j + 1:Nat):Int):=by rw [IntWalk.i64_in _ (by omega)];omega
  have hO:=oS kk h32
  (refine aG ?_;refine an ?_;refine aj ?_;refine aD ?_;refine aj ?_;refine ag ?_;apply ae rfl;(exact ah rfl rfl);apply ae rfl;(exact ah rfl rfl);apply ae rfl;(first | exact aS (j:=j) rfl rfl rfl rfl rfl (by as_aux_lemma=>kernel_rfl) rfl hjK hil | exact aV rfl (by as_aux_lemma=>kernel_rfl) rfl rfl rfl hgk | (apply ar 52;exact au hO (by as_aux_lemma=>kernel_rfl) rfl rfl ⟨rfl,trivial⟩ trivial rfl rfl));apply ae rfl;(first | exact aS (j:=j) rfl rfl rfl rfl rfl (by as_aux_lemma=>kernel_rfl) rfl hjK hil | exact aV rfl (by as_aux_lemma=>kernel_rfl) rfl rfl rfl hgk | (apply ar 52;exact au hO (by as_aux_lemma=>kernel_rfl) rfl rfl ⟨rfl,trivial⟩ trivial rfl rfl));apply ae rfl;(first | exact aS (j:=j) rfl rfl rfl rfl rfl (by as_aux_lemma=>kernel_rfl) rfl hjK hil | exact aV rfl (by as_aux_lemma=>kernel_rfl) rfl rfl rfl hgk | (apply ar 52;exact au hO (by as_aux_lemma=>kernel_rfl) rfl rfl ⟨rfl,trivial⟩ trivial rfl rfl));apply ae rfl;(exact ai rfl rfl);refine aq ?_;refine an ?_)
  apply dK 14 [] [[], [], [], [], [2,3], [2,3,4], [], [], [], [], [8,9], [8,9,10], [6,7,8,9,10,11], [2,3,4,5,6,7,8,9,10,11,12], [0,1,2,3,4,5,6,7,8,9,10,11,12,13], [0,1,2,3,4,5,6,7,8,9,10,11,12,13,14]] [34,35,36,37,38,39,40,41,42,43,44,45,46,47] [] (by kernel_rfl) (by kernel_rfl)
  ·(apply aF rfl;(intro S1 hS;exact ah rfl (hS.op rfl)))
   (apply aF rfl;(intro S1 hS;exact ah rfl (hS.op rfl)))
   (apply aF rfl;(intro S1 hS;exact ah rfl (hS.op rfl)))
   (apply aF rfl;(intro S1 hS;exact ah rfl (hS.op rfl)))
   (apply aF rfl;(intro S1 hS;exact aS (j:=cC kk) rfl (hS.op rfl) (hS.op rfl) (hS.ch _ _ rfl) rfl (by as_aux_lemma=>kernel_rfl) rfl hpl hpil))
   (apply aF rfl;(intro S1 hS;exact aV rfl (by as_aux_lemma=>kernel_rfl) (hS.op rfl) (hS.ch _ _ rfl) rfl hcur))
   (apply aF rfl;(intro S1 hS;exact ah rfl (hS.op rfl)))
   (apply aF rfl;(intro S1 hS;exact ah rfl (hS.op rfl)))
   (apply aF rfl;(intro S1 hS;exact ah rfl (hS.op rfl)))
   (apply aF rfl;(intro S1 hS;exact ah rfl (hS.op rfl)))
   (apply aF rfl;(intro S1 hS;exact aS (j:=j) rfl (hS.op rfl) (hS.op rfl) (hS.ch _ _ rfl) rfl (by as_aux_lemma=>kernel_rfl) rfl hjK hil))
   (apply aF rfl;(intro S1 hS;exact aV rfl (by as_aux_lemma=>kernel_rfl) (hS.op rfl) (hS.ch _ _ rfl) rfl hgk))
   (apply aF rfl;(intro S1 hS;apply ar 53;exact au hF (by as_aux_lemma=>kernel_rfl) rfl (ez hS rfl) ⟨rfl,rfl,rfl,trivial⟩ (dJ hS ⟨⟨_,rfl, .inl rfl⟩,trivial⟩) rfl rfl))
   (apply aF rfl;(intro S1 hS;exact aJ rfl (hS.op rfl) (hS.op rfl) e5))
   exact eR.nil
  ·rfl
  refine cK (St.of [(0,o1 (.sl 1003 0 zs.length)),(1,vv (I6 k)),(7,o1 (.sl 19 0 (zs.length + 1))),(8,o1 (.sl 22 0 K)),(9,vv (I6 j))] [(1003,cf zs),(19,bI ((iD zs k j).set (cC kk) (aC (iD zs k j) (cC kk) + ((dn zs k kk:Nat):Int)))),(22,bI (bC zs k))]) ?_ ?_
  ·((apply aZ 14 rfl (by as_aux_lemma=>kernel_rfl) rfl rfl;(first | exact aS (j:=cC kk) rfl rfl rfl rfl rfl (by as_aux_lemma=>kernel_rfl) rfl hpl hpil | exact eL rfl rfl rfl rfl rfl (by omega) (by as_aux_lemma=>kernel_rfl)));(apply aZ 15 rfl (by as_aux_lemma=>kernel_rfl) rfl rfl;(first | exact aS (j:=cC kk) rfl rfl rfl rfl rfl (by as_aux_lemma=>kernel_rfl) rfl hpl hpil | exact eL rfl rfl rfl rfl rfl (by omega) (by as_aux_lemma=>kernel_rfl)));(refine bF (by as_aux_lemma=>kernel_rfl) ?_;exact aU (Wk.of ⟨rfl,rfl,rfl,rfl,rfl,trivial⟩ ⟨rfl,rfl,rfl,trivial⟩ trivial)))
  (refine aI ?_;refine an ?_;refine ag ?_;apply ae rfl;(exact ah rfl rfl);apply ae rfl;(exact aJ rfl rfl rfl e8);apply ae rfl;(exact ai rfl rfl);refine aq ?_)
  exact aX (j + 1) (by omega) (by omega) (Wk.of ⟨rfl,rfl,rfl,rfl,rfl,trivial⟩ ⟨rfl,congrArg (fun z=>some (bI z)) hst.symm,rfl,trivial⟩ trivial)
 ·obtain rfl:j=K:=by omega
  (refine a6 ?_;refine aE ?_;refine aE ?_;refine aP ?_;refine an ?_;refine aj ?_;refine ag ?_;apply ae rfl;(exact ah rfl rfl);apply ae rfl;(exact ai rfl rfl);apply ae rfl;(exact ai rfl rfl);refine aq ?_;refine an ?_;refine aK ?_)
  exact cg (.inl rfl) rfl (.tmp rfl) (.tmp rfl) ⟨rfl,trivial⟩ trivial
set_option maxRecDepth 100000 in
theorem xH (zs:List Int) (m:Int) (hn:zs.length≤4398046511104) (h0:cB zs m≠0):
  FC Tryz.prog 8 [(1003,cf zs)] [o1 (.sl 1003 0 zs.length),vv (I6 m)] [] (.tup [.one (.val (.slice none 0 0)), .one (.val (I6 (cB zs m)))]) []:=by
 have hC:=ft zs zs.length m rfl hn
 refine a5 (nt:=42) Tryz.func8 rfl rfl (by simp) fun w0 ω0=> ?_
 (refine aj ?_;refine ag ?_;apply ae rfl;(exact ai rfl rfl);apply ae rfl;(exact ai rfl rfl);refine aq ?_;refine an ?_;refine aj ?_;refine aj ?_;refine ag ?_;apply ae rfl;(exact ah rfl rfl);apply ae rfl;(exact ah rfl rfl);apply ae rfl;((apply ar 45;exact au hC (by as_aux_lemma=>kernel_rfl) rfl rfl ⟨rfl,rfl,trivial⟩ ⟨⟨_,rfl, .inl rfl⟩,trivial⟩ rfl rfl));apply ae rfl;(exact ai rfl rfl);refine aq ?_;refine an ?_;refine aj ?_;refine ag ?_;apply ae rfl;(exact ah rfl rfl);apply ae rfl;(exact aB rfl rfl rfl rfl);refine aq ?_;refine an ?_)
 refine ax rfl (fun _=> ?_) (fun e=>absurd (by simpa using e) h0)
 (refine aj ?_;refine ag ?_;apply ae rfl;(exact ah rfl rfl);apply ae rfl;(exact ai rfl rfl);apply ae rfl;(exact ai rfl rfl);refine aq ?_;refine an ?_;refine aK ?_;refine aT ?_)
 exact cg (.inl rfl) rfl (.tmp rfl) (.tmp rfl) trivial trivial
set_option maxRecDepth 100000 in
theorem xD (zs:List Int) (m:Int) (hn:zs.length≤4398046511104) (h0:cB zs m≠0):
  FC Tryz.prog 9 [(1003,cf zs)] [o1 (.sl 1003 0 zs.length),vv (I6 m)] [] (.tup [.one (.val (.slice none 0 0)), .one (.val (I6 (cB zs m)))]) []:=by
 have hC:=l7 zs zs.length m rfl hn
 refine a5 (nt:=50) Tryz.func9 rfl rfl (by simp) fun w0 ω0=> ?_
 (refine aj ?_;refine ag ?_;apply ae rfl;(exact ai rfl rfl);apply ae rfl;(exact ai rfl rfl);refine aq ?_;refine an ?_;refine aj ?_;refine aj ?_;refine ag ?_;apply ae rfl;(exact ah rfl rfl);apply ae rfl;(exact ah rfl rfl);apply ae rfl;((apply ar 49;exact au hC (by as_aux_lemma=>kernel_rfl) rfl rfl ⟨rfl,rfl,trivial⟩ ⟨⟨_,rfl, .inl rfl⟩,trivial⟩ rfl rfl));apply ae rfl;(exact ai rfl rfl);refine aq ?_;refine an ?_;refine aj ?_;refine ag ?_;apply ae rfl;(exact ah rfl rfl);apply ae rfl;(exact aB rfl rfl rfl rfl);refine aq ?_;refine an ?_)
 refine ax rfl (fun _=> ?_) (fun e=>absurd (by simpa using e) h0)
 (refine aj ?_;refine ag ?_;apply ae rfl;(exact ah rfl rfl);apply ae rfl;(exact ai rfl rfl);apply ae rfl;(exact ai rfl rfl);refine aq ?_;refine an ?_;refine aK ?_;refine aT ?_)
 exact cg (.inl rfl) rfl (.tmp rfl) (.tmp rfl) trivial trivial
def yz (zs:List Int) (m:Int):List Int:=if cB zs m=0 then jx zs m.toNat else []
theorem oT {zs:List Int} {m:Int} (h:cB zs m=0):(jx zs m.toNat).length≤1000:=by
 have:=bE (dO h).1;unfold jx;rw [gJ];omega
theorem qW {E:Nat} {lo hi:Nat} {v:Value} {zs:List Int} (m:Int) (w:World) (h:dZ E w lo hi v zs):
  Calls Tryz.prog 9 #[v, .int .i64 m] w fun e w'=>∃r,e= .returned (.tuple #[r, .int .i64 (cB zs m)])∧dZ 2 w' w.heap.size w'.heap.size r (yz zs m)∧Below w.heap.size w w':=
 gU (B:=jx zs m.toNat) rfl oT (xc zs m) (xD zs m) w h
theorem qf {E:Nat} {lo hi:Nat} {v:Value} {zs:List Int} (m:Int) (w:World) (h:dZ E w lo hi v zs):
  Calls Tryz.prog 8 #[v, .int .i64 m] w fun e w'=>∃r,e= .returned (.tuple #[r, .int .i64 (cB zs m)])∧dZ 2 w' w.heap.size w'.heap.size r (yz zs m)∧Below w.heap.size w w':=
 gU (B:=jx zs m.toNat) rfl oT (vf zs m) (xH zs m) w h
end Go.Proofs.YtekbhbcgoadciaaGreat
namespace Go.Proofs.YtekbhbcgoadciaaGreat
def oB (l:List Nat):Nat:=l.foldr (· * ·) 1
theorem ru (a b:List Nat):oB (a ++ b)=oB a * oB b:=by
 induction a with
 | nil=>simp [oB]
 | cons x a ih=>simp only [oB,List.cons_append,List.foldr_cons] at *;rw [ih,Nat.mul_assoc]
theorem u4 {a b:List Nat} (h:a.Perm b):oB a=oB b:=by
 induction h with
 | nil=>rfl
 | cons x _ ih=>simp only [oB,List.foldr_cons] at *;rw [ih]
 | swap x y l=>simp only [oB,List.foldr_cons];exact Nat.mul_left_comm y x _
 | trans _ _ h1 h2=>exact h1.trans h2
def dD (labs:List Int):Nat:=oB ((cO labs).map Int.toNat)
def dP (ps:cT):Nat:=oB (ps.map fun p=>dD p.2)
theorem iE (a:cT) (p:Nat×List Int):dP (a ++ [p])=dP a * dD p.2:=by
 unfold dP;rw [List.map_append,ru];simp [oB]
def tl (c:List Int):Bool:=decide (2 * dD c.dropLast≤dD c∧0 < dD c.dropLast) && (List.range 4).all fun k=>decide (dD (c.dropLast.drop k ++ [c.getLast?.getD 0]) * dD c.dropLast≤dD (c.dropLast.drop k) * dD c)
theorem tI:∀c∈([[3,5], [5,3], [3,3,5], [5,3,3], [3,4,3], [3,3], [3,3,3], [3,3,3,3], [4,3], [4,3,3], [4,3,3,3], [3,4], [3,3,4], [3,3,3,4]]:List (List Int)),tl c=true:=by decide
theorem yl {l:Int} (hF:iB [l]) (hL:gY [l]):4≤dD [l]:=by
 have h1:=hL.2 l (by simp)
 have h0:l≠0:=fun e=>by subst e;exact hF rfl
 have:cO [l]= [2,l]:=by
  unfold cO
  rw [if_neg (by simp),if_pos (by simp [aC];omega)];simp [aC]
 unfold dD;rw [this];simp [oB];omega
theorem oI {b:List Int} {l:Int} (hF:iB (b ++ [l])) (hL:gY (b ++ [l])):2 * dD b≤dD (b ++ [l])∧0 < dD b∧∀a,a <:+ b→dD (a ++ [l]) * dD b≤dD a * dD (b ++ [l]):=by
 rcases mZ hF hL.1 with h1 | h1
 ·have hb:b= []:=by cases b with
   | nil=>rfl
   | cons x b=>simp at h1
  subst hb
  have h2:dD []=2:=rfl
  have h4:=yl hF hL
  refine ⟨by rw [h2];exact h4,by rw [h2];decide,fun a ha=> ?_⟩
  have:a= []:=by simpa using ha
  subst this
  exact Nat.le_of_eq (Nat.mul_comm _ _)
 ·have h2:=tI _ h1
  unfold tl at h2
  rw [List.dropLast_concat,List.getLast?_concat,Bool.and_eq_true,decide_eq_true_iff,List.all_eq_true] at h2
  refine ⟨h2.1.1,h2.1.2,fun a ha=> ?_⟩
  have hk:b.length - a.length < 4:=by have:=hL.1;rw [List.length_append] at this;simp at this;omega
  have h3:=h2.2 (b.length - a.length) (List.mem_range.2 hk)
  rw [←List.suffix_iff_eq_drop.1 ha] at h3
  simpa using h3
theorem uk {zs:List Int} {set i:Nat} (hb:dM set i=true) (hi:i≤zs.length):
  (jn zs set i=true∧∃qs q,eA zs set i=qs ++ [q]∧eA zs set (i + 1)=qs ++ [(q.1 ||| 2 ^ i,q.2 ++ [aC zs (i - 1)])])∨(jn zs set i=false∧eA zs set (i + 1)=eA zs set i ++ [(2 ^ i, [])]):=by
 have hok:=jf zs set i (by omega)
 rw [eh];unfold fN;rw [if_pos hb]
 cases hj:jn zs set i with
 | true=>
  left
  refine ⟨rfl, ?_⟩
  have hs:=fZ hj
  have hne:=hok.ne hs.1 hs.2.1
  rcases gX (eA zs set i) with e | ⟨qs',q,e⟩
  ·rw [e] at hne;exact absurd hne (by simp)
  ·refine ⟨qs',q,e, ?_⟩
   rw [if_pos rfl,e];unfold jP;rw [jN,iP]
 | false=>right;exact ⟨rfl,by rw [if_neg (by simp)]⟩
def uu (ps:cT):Prop:=∀p∈ps,iB p.2∧gY p.2
theorem qP {a b:List Int} (hi:a <:+:b) (h:gY b):gY a:=⟨Nat.le_trans hi.length_le h.1,fun z hz=>h.2 z (hi.subset hz)⟩
theorem sd {zs:List Int} {i:Nat} (hi:i≤zs.length) (h:uu (eA zs (bg zs) (i + 1))):uu (eA zs (bg zs) i):=fun p hp=>by
 have j0:∃q∈eA zs (bg zs) (i + 1),p.2 <:+:q.2:=by
  rcases uk (zs:=zs) (set:=bg zs) (jT hi) hi with ⟨_,qs',q0,e1,e2⟩ | ⟨_,e2⟩
  ·rw [e2];rw [e1] at hp
   rcases List.mem_append.1 hp with h | h
   ·exact ⟨p,List.mem_append_left _ h,List.infix_refl _⟩
   ·obtain rfl:p=q0:=by simpa using h
    exact ⟨_,List.mem_append_right _ (List.mem_singleton.2 rfl),(List.prefix_append _ _).isInfix⟩
  ·rw [e2];exact ⟨p,List.mem_append_left _ hp,List.infix_refl _⟩
 obtain ⟨q,hq,hi2⟩:=j0
 have h1:=h q hq
 exact ⟨mX hi2 h1.2.1 h1.1,qP hi2 h1.2⟩
theorem pY {zs:List Int} (hd:bz zs=true) (hf:dC zs (bg zs)=true):∀k,k≤zs.length + 1→uu (eA zs (bg zs) (zs.length + 1 - k))
 | 0,_=>fun p hp=>by
  have h1:=(gI (ps:=comps zs (bg zs)) (comps zs (bg zs)).length (Nat.le_refl _)).1 (by simpa [dC] using hf)
  obtain ⟨j,hj,rfl⟩:=List.getElem_of_mem hp
  have hj':j < (comps zs (bg zs)).length:=hj
  have h2:=h1 j hj'
  have hL:=ga hd hj'
  rw [eM hj'] at h2 hL
  exact ⟨h2,hL⟩
 | k + 1,hk=>by
  have ih:=pY hd hf k (by omega)
  rw [show zs.length + 1 - k=(zs.length + 1 - (k + 1)) + 1 by omega] at ih
  exact sd (by omega) ih
theorem mono {zs:List Int} (hd:bz zs=true) (hf:dC zs (bg zs)=true) (set:Nat):∀i,i≤zs.length + 1→dP (eA zs set i)≤dP (eA zs (bg zs) i)
 | 0,_=>Nat.le_refl _
 | i + 1,hi=>by
  have ih:=mono hd hf set i (by omega)
  have hG:=pY hd hf (zs.length + 1 - (i + 1)) (by omega)
  rw [show zs.length + 1 - (zs.length + 1 - (i + 1))=i + 1 by omega] at hG
  have hb:=jT (zs:=zs) (i:=i) (by omega)
  have hQ:=uk (zs:=zs) (set:=bg zs) (i:=i) hb (by omega)
  have up:dP (eA zs (bg zs) i) * 2≤dP (eA zs (bg zs) (i + 1)):=by
   rcases hQ with ⟨_,qs,q,e1,e2⟩ | ⟨_,e2⟩
   ·have hq:=hG _ (by rw [e2];exact List.mem_append_right _ (List.mem_singleton.2 rfl))
    have h1:=(oI hq.1 hq.2).1
    rw [e1,e2,iE,iE,Nat.mul_assoc]
    exact Nat.mul_le_mul_left _ (by rw [Nat.mul_comm];exact h1)
   ·rw [e2,iE];exact Nat.le_refl _
  cases hs:dM set i with
  | false=>
   rw [lr hs]
   omega
  | true=>
   rcases uk (zs:=zs) hs (by omega) with ⟨hj,ps,p,e1,e2⟩ | ⟨_,e2⟩
   ·have hsp:=fZ hj
    have hP:=pieces (zs:=zs) set i (by omega)
    obtain ⟨ps',p',qs',q',f1,f2,hsf⟩:=hP.suf (by rw [decide_eq_true hsp.1,hsp.2.1];rfl)
    have hja:jn zs (bg zs) i=true:=by
     unfold jn;rw [decide_eq_true hsp.1,jT (zs:=zs) (i:=i - 1) (by omega)]
     simpa using hsp.2.2
    rcases hQ with ⟨_,qs,q,g1,g2⟩ | ⟨hn,_⟩
    ·obtain ⟨rfl,h1⟩:=List.append_inj' (e1.symm.trans f1) rfl
     obtain rfl:p=p':=by simpa using h1
     obtain ⟨rfl,h2⟩:=List.append_inj' (g1.symm.trans f2) rfl
     obtain rfl:q=q':=by simpa using h2
     have hq:=hG _ (by rw [g2];exact List.mem_append_right _ (List.mem_singleton.2 rfl))
     obtain ⟨_,h0,h3⟩:=oI hq.1 hq.2
     have h3:=h3 p.2 hsf
     rw [e1,g1,iE,iE] at ih
     rw [e2,g2,iE,iE]
     refine Nat.le_of_mul_le_mul_right ?_ h0
     calc dP ps * dD (p.2 ++ [aC zs (i - 1)]) * dD q.2=dP ps * (dD (p.2 ++ [aC zs (i - 1)]) * dD q.2):=Nat.mul_assoc _ _ _
      _≤dP ps * (dD p.2 * dD (q.2 ++ [aC zs (i - 1)])):=Nat.mul_le_mul_left _ h3
      _=dP ps * dD p.2 * dD (q.2 ++ [aC zs (i - 1)]):=(Nat.mul_assoc _ _ _).symm
      _≤dP qs * dD q.2 * dD (q.2 ++ [aC zs (i - 1)]):=Nat.mul_le_mul_right _ ih
      _=dP qs * dD (q.2 ++ [aC zs (i - 1)]) * dD q.2:=Nat.mul_right_comm _ _ _
    ·rw [hja] at hn;cases hn
   ·rw [e2,iE]
    have:dD ([]:List Int)=2:=rfl
    rw [this]
    omega
theorem m7:∀(A:List Int) (c:Nat),(∀z∈A,0≤z)→A.foldl (· * ·) (c:Int)=((c * oB (A.map Int.toNat):Nat):Int)
 | [],c,_=>by simp [oB]
 | x :: A,c,h=>by
  obtain ⟨k,hk⟩:=Int.eq_ofNat_of_zero_le (h x (by simp))
  rw [List.foldl_cons,hk,show (c:Int) * (k:Int)=((c * k:Nat):Int) by simp,m7 A (c * k) fun z hz=>h z (List.mem_cons_of_mem _ hz)]
  simp only [List.map_cons,Int.toNat_natCast,oB,List.foldr_cons]
  rw [Nat.mul_assoc]
theorem kS {zs:List Int} (hd:bz zs=true) (set:Nat):fv zs set=dP (comps zs set):=by
 have hA:∀z∈gA zs set,0≤z:=fun z hz=>by have:=lA hd z hz;omega
 have h1:=m7 (gA zs set) 1 hA
 have h2:kM zs set=((oB ((gA zs set).map Int.toNat):Nat):Int):=by
  unfold kM ed
  rw [List.take_length,show (1:Int)=((1:Nat):Int) from rfl,h1,Nat.one_mul]
 unfold fv
 rw [h2,Int.toNat_natCast]
 unfold gA bS
 rw [u4 ((List.mergeSort_perm _ _).map Int.toNat)]
 unfold eB dP
 rw [List.take_length]
 generalize comps zs set=ps
 induction ps with
 | nil=>rfl
 | cons p ps ih=>
  simp only [List.map_cons,List.flatten_cons,List.map_append,ru] at *
  rw [ih];simp [oB,dD]
theorem sA {zs:List Int} (hd:bz zs=true) (hf:dC zs (bg zs)=true) (set:Nat):fv zs set≤fv zs (bg zs):=by
 rw [kS hd,kS hd]
 exact mono hd hf set (zs.length + 1) (Nat.le_refl _)
theorem mo (zs:List Int):∀i,eA zs 0 i= []
 | 0=>rfl
 | i + 1=>by rw [lr (show dM 0 i=false by rw [gn];simp),mo zs i]
theorem sq {zs:List Int} (hd:bz zs=true):fv zs 0=1:=by
 rw [kS hd];unfold comps;rw [mo];rfl
end Go.Proofs.YtekbhbcgoadciaaGreat
namespace Go.Proofs.YtekbhbcgoadciaaGreat
open Go.RowKit
def mK (E:Nat) (w:World) (lo hi:Nat) (v:Value) (zs:List Int):Prop:=
 (zs= []∧∃ao c,v= .slice ao 0 c)∨
 ∃g n c x,v= .slice (some ⟨g,1,none⟩) n c∧Own w 0 E (some ⟨g,0,none⟩) (n + 1) (c + 1) ((x :: zs).map (Value.int .i64))∧lo≤g∧g < hi
theorem mK.rd {E:Nat} {w:World} {lo hi:Nat} {v:Value} {zs:List Int} (h:mK E w lo hi v zs):s8 w v zs:=by
 rcases h with ⟨rfl,ao,c,rfl⟩ | ⟨g,n,c,x,rfl,ho,_⟩
 ·exact ⟨ao,0,c,rfl,rfl,by omega,fun h0=>absurd h0 (by omega)⟩
 ·have hi:=ho.ints
  have hl:zs.length=n:=by have:=hi.1;simpa using this
  refine ⟨_,n,c,rfl,hl,by have:=hi.2.1;omega,fun h0=> ?_⟩
  obtain ⟨b,off,e,hc⟩:=hi.2.2 (by omega)
  injection e with e;injection e with e1 e2
  subst e1 e2
  refine ⟨g,1,rfl,fun j hj=> ?_⟩
  have:=hc (j + 1) (by omega)
  rw [Nat.zero_add] at this
  rw [Nat.add_comm 1 j];exact this
theorem mK.below {E:Nat} {w w':World} {lo hi:Nat} {v:Value} {zs:List Int} (h:mK E w lo hi v zs) (hb:Below w.heap.size w w'):mK E w' lo hi v zs:=by
 rcases h with h | ⟨g,n,c,x,rfl,ho,h1⟩
 ·exact .inl h
 ·exact .inr ⟨g,n,c,x,rfl,ho.below hb,h1⟩
theorem mK.only {E:Nat} {w w':World} {lo hi:Nat} {v:Value} {zs:List Int} (h:mK E w lo hi v zs) {l k:Nat} (hq:dQ l k w w') (hd:hi≤l∨k≤lo):mK E w' lo hi v zs:=by
 rcases h with h | ⟨g,n,c,x,rfl,ho,h1⟩
 ·exact .inl h
 ·exact .inr ⟨g,n,c,x,rfl,ho.only hq (lo':=lo) (hi':=hi) (fun g' hg=>by injection hg with hg;subst hg;exact h1) hd,h1⟩
theorem zz {η:Env} {ω:bJ} {w':World} {lo:Nat} {outs:List (Nm×Ch)} {y E:Nat} {x:Int} {zs:List Int} {v:Value} (hm:Mem η ω w' (fun x=>lk x outs)) (hlo:∀b,b < lo→ω b=none) (hx:lk y outs=some ⟨true,E,1, .bG (aH (x :: zs))⟩) (hv:cu η (.sl y 1 zs.length) v) (hn:zs.length + 1≤4398046511104):mK E w' lo w'.heap.size v zs:=by
 obtain ⟨h,h1,h2,h3⟩:=hm.1 y _ hx
 have h2:h.k=1:=h2
 obtain ⟨ao,rfl,_,h4⟩:=hv.2 h h1
 have h3:cW ω w' (y,none) h E (aH (x :: zs)).length (bU η ω w' true y (.bG (aH (x :: zs)))):=h3
 obtain ⟨k1,k2⟩:=cW.own (lo:=0) (xs:=aH (x :: zs)) h2 h3 (fun b hb=>absurd hb (by omega)) (by rw [aO];simpa using hn) rfl fun j u hj ⟨b,o,e1,e2⟩=>by
  obtain ⟨b',o',u',f1,f2,f3⟩:=iz.get (own:=true) h3 hj
  rw [e1] at f1;injection f1 with f1;injection f1 with f1 f1';subst f1 f1'
  rw [e2] at f2
  obtain rfl:=Option.some.inj f2
  exact f3
 rw [aO,List.length_cons] at k1
 obtain ⟨g,hg,_,hgl,hcap,_,_⟩:=k1.form (by omega)
 by_cases h0:1 < h.c
 ·have h4:=h4 (by omega) h0
  rw [hg,h2] at h4
  subst h4
  refine .inr ⟨g,zs.length,h.c - 1,x,rfl, ?_, ?_,hgl⟩
  ·rw [show h.c - 1 + 1=h.c by omega,←hg];exact k1
  ·have:=(k2 g (by rw [hg];rfl)).2
   rcases Nat.lt_or_ge g lo with h5 | h5
   ·rw [hlo g h5] at this;cases this
   ·exact h5
 ·have:zs.length=0:=by omega
  have:zs= []:=List.length_eq_zero_iff.1 this
  subst this
  exact .inl ⟨rfl,ao,_,rfl⟩
end Go.Proofs.YtekbhbcgoadciaaGreat
namespace Go.Proofs.YtekbhbcgoadciaaGreat
open Go.RowKit
section
variable {P:Program} {nt:Nat} {S:St} {t:Nat} {ty:TypeId} {ps:String} {af:Array Edge} {gd:Option (Nat×Bool)} {x y:Operand}
theorem uB {xt yt:TypeId} {a b:Nat} (ht:Nat.blt t nt=true) (hx:S.op x=some (vv (I6 (a:Int)))) (hy:S.op y=some (vv (I6 (b:Int)))) (hb:0 < b) (ha:a < 9000000000000000000):
  bN P nt ⟨some t, .binOp .quo xt x y yt,ty,ps,af,gd⟩ S (S.put t (vv (I6 ((a / b:Nat):Int)))):=
 bN.pure rfl ht fun _ _ η _ s w hs=>by
  refine ⟨I6 ((a / b:Nat):Int), ?_,rfl⟩
  have hle:=Nat.div_le_self a b
  have e:Op.intDiv .quo .i64 (a:Int) (b:Int)=pure (I6 ((a / b:Nat):Int)):=by
   have h1:(a:Int).tdiv (b:Int)=((a / b:Nat):Int):=rfl
   have h2:∀q:Nat,q≤a→IntKind.i64.wrap (q:Int)=(q:Int):=fun q hq=>IntWalk.i64_in _ (by omega)
   have h3:¬(b:Int)=0:=by omega
   unfold Op.intDiv
   rw [if_neg h3]
   show pure (Value.int .i64 (IntKind.i64.wrap ((a:Int).tdiv (b:Int))))=_
   rw [h1,h2 _ hle]
  simp [execOp,hs.fg hx,hs.fg hy,eqGuard,binOp,e]
end
theorem rJ {zs:List Int} (hd:bz zs=true) (k l:Nat):jo zs k l≤33554432:=by
 have h1:=(eX hd l).2.2
 unfold jo
 exact Nat.le_trans (Nat.div_le_self _ _) h1
theorem uY {zs:List Int} (hd:bz zs=true) (hf:dC zs (bg zs)=true) (k:Nat):0 < dn zs k 0:=by
 have h1:=sA hd hf (iW zs k 0)
 have h2:=(eX hd (iW zs k 0)).2.1
 unfold dn
 rw [sq hd,Nat.div_one]
 exact Nat.div_pos h1 h2
def jH (zs:List Int) (r:Nat):Nat→List Int
 | 0=>List.replicate (zs.length + 1) 0
 | i + 1=>(jH zs r i).set (cC (gF zs r i)) (aC (jH zs r i) (cC (gF zs r i)) + (dn zs r (gF zs r i) * jo zs r (gF zs r i):Nat))
theorem iK (zs:List Int) (r:Nat):∀i,(jH zs r i).length=zs.length + 1
 | 0=>by simp [jH]
 | i + 1=>by rw [jH,List.length_set];exact iK zs r i
theorem rU {zs:List Int} (hd:bz zs=true) (r k:Nat):dn zs r k * jo zs r k≤1125899906842624:=by
 have:=Nat.mul_le_mul (j6 hd r k) (rJ hd r k)
 omega
theorem qu {zs:List Int} (hd:bz zs=true) (r:Nat):∀i j,0≤aC (jH zs r i) j∧aC (jH zs r i) j≤(i:Int) * 1125899906842624
 | 0,j=>by rw [jH,nx];omega
 | i + 1,j=>by
  have ih:=qu hd r i
  have hc:=rU hd r (gF zs r i)
  rw [jH]
  by_cases e:j=cC (gF zs r i)
  ·subst e
   by_cases hl:cC (gF zs r i) < (jH zs r i).length
   ·rw [dN hl];have:=ih (cC (gF zs r i));omega
   ·rw [List.set_eq_of_length_le (by omega)];have:=ih (cC (gF zs r i));omega
  ·rw [di (fun h=>e h.symm)];have:=ih j;omega
def mM (A:List Int) (q:Nat):Nat→List Int
 | 0=>A
 | j + 1=>(mM A q j).set j (((aC A j).toNat / q:Nat):Int)
theorem iN (A:List Int) (q:Nat):∀j,(mM A q j).length=A.length
 | 0=>rfl
 | j + 1=>by rw [mM,List.length_set];exact iN A q j
theorem rE (A:List Int) (q:Nat):∀j k,j≤k→aC (mM A q j) k=aC A k
 | 0,_,_=>rfl
 | j + 1,k,h=>by rw [mM,di (by omega)];exact rE A q j k (by omega)
theorem pI (x:Int) (A:List Int) (q:Nat):∀j,∃y,mM (x :: A) q (j + 1)=y :: mM A q j
 | 0=>⟨_,rfl⟩
 | j + 1=>by
  obtain ⟨y,h⟩:=pI x A q j
  exact ⟨y,by rw [mM,h];rfl⟩
def oz (zs:List Int) (r:Nat):List Int:=jH zs r ((bC zs r).length - 1)
def mQ (zs:List Int) (r:Nat):List Int:=mM (oz zs r).tail (dn zs r 0) zs.length
theorem nE (zs:List Int) (r:Nat):(mQ zs r).length=zs.length:=by unfold mQ oz;rw [iN,List.length_tail,iK];omega
theorem wS (zs:List Int) (r i:Nat):jH zs r i=aC (jH zs r i) 0 :: (jH zs r i).tail:=by
 have:=iK zs r i
 cases h:jH zs r i with
 | nil=>rw [h] at this;simp at this
 | cons x l=>rfl
theorem ym (zs:List Int) (r:Nat):∃y,mM (oz zs r) (dn zs r 0) (zs.length + 1)=y :: mQ zs r:=by
 have h:=wS zs r ((bC zs r).length - 1)
 obtain ⟨y,hy⟩:=pI (aC (oz zs r) 0) (oz zs r).tail (dn zs r 0) zs.length
 exact ⟨y,by unfold mQ;rw [←hy];exact congrArg (fun z=>mM z _ _) h⟩
set_option maxRecDepth 100000 in
set_option maxHeartbeats 4000000 in
theorem vC (zs:List Int) (m:Int) (hn:zs.length≤4398046511104) (h0:cB zs m=0):
  ∃y,FC Tryz.prog 13 [(1003,cf zs)] [o1 (.sl 1003 0 zs.length),vv (I6 m)] [(20,bI (y :: mQ zs m.toNat))] (.tup [.one (.sl 20 1 zs.length), .one (.val (I6 0))]) []:=by
 have hC:=ft zs zs.length m rfl hn
 rw [h0] at hC
 obtain ⟨hd,hf,k,rfl,hk,ha⟩:=dO h0
 have h4:=bE hd
 have hlt:=dk h4
 have hk2:k < 1000:=by omega
 rw [Int.toNat_natCast]
 have hsl:=ew h4 k
 obtain ⟨K,hK⟩:∃K,(bC zs k).length - 1=K:=⟨_,rfl⟩
 have hK1:=jL h4 ha
 have hil:K≤(aH (bC zs k)).length:=by rw [aO];omega
 have hS:=(km zs zs.length k K rfl h4 hk2 hK (by omega)).nm [(1003,1003),(8,23)] (by kernel_rfl)
 have hS:FC Tryz.prog 46 [(1003,cf zs)] [o1 (.sl 1003 0 zs.length),vv (I6 k)] [(23,bI (bC zs k))] (o1 (.sl 23 0 K)) []:=hS
 have e1:IntKind.i64.wrap ((zs.length:Int) + 1)=((zs.length + 1:Nat):Int):=by rw [IntWalk.i64_in _ (by omega)];omega
 have hQ:=jY zs zs.length k 0 rfl hd hf hk2 (by omega)
 have hq0:=uY hd hf k
 obtain ⟨y,hy⟩:=ym zs k
 refine ⟨y, ?_⟩
 rw [←hy]
 refine a5 (nt:=64) Tryz.func13 rfl rfl (by simp) fun w0 ω0=> ?_
 (refine aj ?_;refine ag ?_;apply ae rfl;(exact ai rfl rfl);apply ae rfl;(exact ai rfl rfl);refine aq ?_;refine an ?_;refine aj ?_;refine aj ?_;refine ag ?_;apply ae rfl;(exact ah rfl rfl);apply ae rfl;(exact ah rfl rfl);apply ae rfl;((apply ar 45;exact au hC (by as_aux_lemma=>kernel_rfl) rfl rfl ⟨rfl,rfl,trivial⟩ ⟨⟨_,rfl, .inl rfl⟩,trivial⟩ rfl rfl));apply ae rfl;(exact ai rfl rfl);refine aq ?_;refine an ?_;refine aj ?_;refine ag ?_;apply ae rfl;(exact ah rfl rfl);apply ae rfl;(exact aB rfl rfl rfl rfl);refine aq ?_;refine an ?_)
 refine ax rfl (fun e=>by cases e) (fun _=> ?_)
 (refine aG ?_;refine an ?_;refine aj ?_;refine ag ?_;apply ae rfl;(exact ah rfl rfl);apply ae rfl;(exact br rfl rfl rfl (by as_aux_lemma=>kernel_rfl));apply ae rfl;(first | exact aJ rfl rfl rfl e1 | (apply ar 46;exact bl hS (by as_aux_lemma=>kernel_rfl) rfl rfl ⟨rfl,rfl,trivial⟩ ⟨⟨_,rfl, .inl rfl⟩,trivial⟩ rfl rfl rfl));apply ae rfl;(exact kZ (E:=2) rfl (by as_aux_lemma=>kernel_rfl) (by as_aux_lemma=>kernel_rfl) rfl rfl rfl rfl (by omega));apply ae rfl;(exact ai rfl rfl);refine aq ?_;refine an ?_;refine aj ?_;refine aj ?_;refine ag ?_;apply ae rfl;(exact ah rfl rfl);apply ae rfl;(exact ah rfl rfl);apply ae rfl;(first | exact aJ rfl rfl rfl e1 | (apply ar 46;exact bl hS (by as_aux_lemma=>kernel_rfl) rfl rfl ⟨rfl,rfl,trivial⟩ ⟨⟨_,rfl, .inl rfl⟩,trivial⟩ rfl rfl rfl));apply ae rfl;(exact br rfl rfl rfl (by as_aux_lemma=>kernel_rfl));apply ae rfl;(exact ah rfl rfl);refine aq ?_;refine an ?_;refine aD ?_)
 refine bx (fun j:Nat=>St.of [(0,o1 (.sl 1003 0 zs.length)),(1,vv (I6 k)),(7,o1 (.sl 20 0 (zs.length + 1))),(23,o1 (.sl 23 0 K)),(24,vv (I6 K)),(25,vv (I6 j))] [(1003,cf zs),(20,bI (jH zs k j)),(23,bI (bC zs k))]) (fun j=>j≤K) (fun j=>K - j) 0 (Nat.zero_le _) (Wk.of ⟨rfl,rfl,rfl,rfl,rfl,rfl,trivial⟩ ⟨rfl,rfl,rfl,trivial⟩ trivial) ?_
 rintro j hj
 (refine aj ?_;refine ag ?_;apply ae rfl;(exact aB rfl rfl rfl rfl);refine aq ?_;refine an ?_;refine aj ?_)
 refine bM rfl (fun hlj=> ?_) (fun hlj=> ?_)
 ·have hjK:j < K:=by omega
  have hat:=om h4 k j
  have h32:=n7 h4 k j
  have hpc:=qk h4 ha (i:=j) (by omega)
  have hcl:=iK zs k j
  have hcb:=qu hd k j
  obtain ⟨kk,hkk⟩:∃kk,gF zs k j=kk:=⟨_,rfl⟩
  have hst:jH zs k (j + 1)=(jH zs k j).set (cC kk) (aC (jH zs k j) (cC kk) + (dn zs k kk * jo zs k kk:Nat)):=by rw [←hkk];rfl
  rw [hkk] at hat h32 hpc
  have hgk:(aH (bC zs k))[j]? =some (I6 (kk:Int)):=by rw [aR (by omega),hat]
  have hcn:=j6 hd k kk
  have hvn:=rJ hd k kk
  have hpr:=rU hd k kk
  have hb1:=(hcb (cC kk)).1
  have hb2:=(hcb (cC kk)).2
  have e4:IntKind.i64.wrap (((dn zs k kk:Nat):Int) * ((jo zs k kk:Nat):Int))=((dn zs k kk * jo zs k kk:Nat):Int):=by rw [IntWalk.i64_in _ (by rw [←Int.natCast_mul];omega),Int.natCast_mul]
  have e5:IntKind.i64.wrap (aC (jH zs k j) (cC kk) + ((dn zs k kk * jo zs k kk:Nat):Int))=aC (jH zs k j) (cC kk) + ((dn zs k kk * jo zs k kk:Nat):Int):=IntWalk.i64_in _ (by omega)
  have e8:IntKind.i64.wrap ((j:Int) + 1)=((j + 1:Nat):Int):=by rw [IntWalk.i64_in _ (by omega)];omega
  have hF:=jY zs zs.length k kk rfl hd hf hk2 (by omega)
  have hV:=rC zs zs.length k kk rfl hd hf hk2 (by omega)
  have hcur:(aH (jH zs k j))[cC kk]? =some (I6 (aC (jH zs k j) (cC kk))):=aR (by omega)
  have hpl:cC kk < zs.length + 1:=by omega
  have hpil:zs.length + 1≤(aH (jH zs k j)).length:=by rw [aO];omega
  have hO:=lE kk h32
  have hcu:IntKind.u64.wrap (kk:Int)=(kk:Int):=by rw [IntKind.wrap_u64];omega
  (refine aG ?_;refine an ?_;refine aj ?_;refine aD ?_;refine aj ?_;refine ag ?_;apply ae rfl;(first | exact aS (j:=j) rfl rfl rfl rfl rfl (by as_aux_lemma=>kernel_rfl) rfl hjK hil | exact aV rfl (by as_aux_lemma=>kernel_rfl) rfl rfl rfl hgk);apply ae rfl;(first | exact aS (j:=j) rfl rfl rfl rfl rfl (by as_aux_lemma=>kernel_rfl) rfl hjK hil | exact aV rfl (by as_aux_lemma=>kernel_rfl) rfl rfl rfl hgk);apply ae rfl;(exact ai rfl rfl);refine aq ?_;refine an ?_)
  apply dK 16 [] [[], [], [1], [1,2], [0,1,2,3], [0,1,2,3,4], [], [], [], [1,2,3,6,7,8], [], [], [], [1,2,3,6,7,8,9,10,11,12], [1,2,3,6,7,8,9,10,11,12,13], [0,1,2,3,4,5,6,7,8,9,10,11,12,13,14], [0,1,2,3,4,5,6,7,8,9,10,11,12,13,14,15], [0,1,2,3,4,5,6,7,8,9,10,11,12,13,14,15,16]] [29,30,31,32,33,34,35,36,37,38,39,40,41,42,43,44] [] (by kernel_rfl) (by kernel_rfl)
  ·(apply aF rfl;(intro S1 hS;exact ah rfl (hS.op rfl)))
   (apply aF rfl;(intro S1 hS;exact ah rfl (hS.op rfl)))
   (apply aF rfl;(intro S1 hS;exact aN (k2:= .u64) rfl (hS.op rfl) (by as_aux_lemma=>kernel_rfl) (by as_aux_lemma=>kernel_rfl) hcu))
   (apply aF rfl;(intro S1 hS;apply ar 47;exact au hO (by as_aux_lemma=>kernel_rfl) rfl (ez hS rfl) ⟨rfl,trivial⟩ trivial rfl rfl))
   (apply aF rfl;(intro S1 hS;exact aS (j:=cC kk) rfl (hS.op rfl) (hS.op rfl) (hS.ch _ _ rfl) rfl (by as_aux_lemma=>kernel_rfl) rfl hpl hpil))
   (apply aF rfl;(intro S1 hS;exact aV rfl (by as_aux_lemma=>kernel_rfl) (hS.op rfl) (hS.ch _ _ rfl) rfl hcur))
   (apply aF rfl;(intro S1 hS;exact ah rfl (hS.op rfl)))
   (apply aF rfl;(intro S1 hS;exact ah rfl (hS.op rfl)))
   (apply aF rfl;(intro S1 hS;exact ah rfl (hS.op rfl)))
   (apply aF rfl;(intro S1 hS;apply ar 48;exact au hF (by as_aux_lemma=>kernel_rfl) rfl (ez hS rfl) ⟨rfl,rfl,rfl,trivial⟩ (dJ hS ⟨⟨_,rfl, .inl rfl⟩,trivial⟩) rfl rfl))
   (apply aF rfl;(intro S1 hS;exact ah rfl (hS.op rfl)))
   (apply aF rfl;(intro S1 hS;exact ah rfl (hS.op rfl)))
   (apply aF rfl;(intro S1 hS;exact ah rfl (hS.op rfl)))
   (apply aF rfl;(intro S1 hS;apply ar 59;exact au hV (by as_aux_lemma=>kernel_rfl) rfl (ez hS rfl) ⟨rfl,rfl,rfl,trivial⟩ (dJ hS ⟨⟨_,rfl, .inl rfl⟩,trivial⟩) rfl rfl))
   (apply aF rfl;(intro S1 hS;exact cV rfl (hS.op rfl) (hS.op rfl) e4))
   (apply aF rfl;(intro S1 hS;exact aJ rfl (hS.op rfl) (hS.op rfl) e5))
   exact eR.nil
  ·rfl
  refine cK (St.of [(0,o1 (.sl 1003 0 zs.length)),(1,vv (I6 k)),(7,o1 (.sl 20 0 (zs.length + 1))),(23,o1 (.sl 23 0 K)),(24,vv (I6 K)),(25,vv (I6 j))] [(1003,cf zs),(20,bI ((jH zs k j).set (cC kk) (aC (jH zs k j) (cC kk) + ((dn zs k kk * jo zs k kk:Nat):Int)))),(23,bI (bC zs k))]) ?_ ?_
  ·((apply aZ 16 rfl (by as_aux_lemma=>kernel_rfl) rfl rfl;(first | exact aS (j:=cC kk) rfl rfl rfl rfl rfl (by as_aux_lemma=>kernel_rfl) rfl hpl hpil | exact eL rfl rfl rfl rfl rfl (by omega) (by as_aux_lemma=>kernel_rfl)));(apply aZ 17 rfl (by as_aux_lemma=>kernel_rfl) rfl rfl;(first | exact aS (j:=cC kk) rfl rfl rfl rfl rfl (by as_aux_lemma=>kernel_rfl) rfl hpl hpil | exact eL rfl rfl rfl rfl rfl (by omega) (by as_aux_lemma=>kernel_rfl)));(refine bF (by as_aux_lemma=>kernel_rfl) ?_;exact aU (Wk.of ⟨rfl,rfl,rfl,rfl,rfl,rfl,trivial⟩ ⟨rfl,rfl,rfl,trivial⟩ trivial)))
  (refine aI ?_;refine an ?_;refine ag ?_;apply ae rfl;(exact aJ rfl rfl rfl e8);apply ae rfl;(exact ah rfl rfl);refine aq ?_)
  exact aX (j + 1) (by omega) (by omega) (Wk.of ⟨rfl,rfl,rfl,rfl,rfl,rfl,trivial⟩ ⟨rfl,congrArg (fun z=>some (bI z)) hst.symm,rfl,trivial⟩ trivial)
 ·obtain rfl:j=K:=by omega
  have hfl:jH zs k j=oz zs k:=by unfold oz;rw [hK]
  rw [hfl]
  (refine a6 ?_;refine aE ?_;refine aE ?_;refine aP ?_;refine an ?_;refine aj ?_;refine aj ?_;refine ag ?_;apply ae rfl;(exact ah rfl rfl);apply ae rfl;(exact br rfl rfl rfl (by as_aux_lemma=>kernel_rfl));apply ae rfl;(exact ah rfl rfl);refine aq ?_;refine an ?_;refine aD ?_)
  refine bx (fun j:Nat=>St.of [(0,o1 (.sl 1003 0 zs.length)),(1,vv (I6 k)),(7,o1 (.sl 20 0 (zs.length + 1))),(48,vv (I6 (zs.length + 1:Nat))),(49,vv (I6 j))] [(1003,cf zs),(20,bI (mM (oz zs k) (dn zs k 0) j))]) (fun j=>j≤zs.length + 1) (fun j=>zs.length + 1 - j) 0 (Nat.zero_le _) (Wk.of ⟨rfl,rfl,rfl,rfl,rfl,trivial⟩ ⟨rfl,rfl,trivial⟩ trivial) ?_
  clear hlj hj hil hfl
  rintro j hj
  (refine aj ?_;refine ag ?_;apply ae rfl;(exact aB rfl rfl rfl rfl);refine aq ?_;refine an ?_;refine aj ?_)
  refine bM rfl (fun hlj=> ?_) (fun hlj=> ?_)
  ·have hjl:j < zs.length + 1:=by omega
   have hlen:(oz zs k).length=zs.length + 1:=iK zs k _
   have hbd:=qu hd k ((bC zs k).length - 1) j
   obtain ⟨a,ha'⟩:=Int.eq_ofNat_of_zero_le hbd.1
   have hgx:aC (oz zs k) j=(a:Int):=ha'
   have hbig:a < 9000000000000000000:=by have:=hbd.2;omega
   have hjil:zs.length + 1≤(aH (mM (oz zs k) (dn zs k 0) j)).length:=by rw [aO,iN];omega
   have hgj:(aH (mM (oz zs k) (dn zs k 0) j))[j]? =some (I6 (a:Int)):=by rw [aR (by rw [iN];omega),rE _ _ _ _ (Nat.le_refl _),hgx]
   have hst:mM (oz zs k) (dn zs k 0) (j + 1)=(mM (oz zs k) (dn zs k 0) j).set j ((a / dn zs k 0:Nat):Int):=by rw [mM,hgx,Int.toNat_natCast]
   have hsl2:j < (mM (oz zs k) (dn zs k 0) j).length:=by rw [iN];omega
   have e8:IntKind.i64.wrap ((j:Int) + 1)=((j + 1:Nat):Int):=by rw [IntWalk.i64_in _ (by omega)];omega
   (refine aG ?_;refine an ?_;refine aj ?_;refine aD ?_;refine aj ?_;refine ag ?_;apply ae rfl;(exact ah rfl rfl);apply ae rfl;(exact ai rfl rfl);refine aq ?_;refine an ?_)
   apply dK 8 [] [[], [], [0,1], [0,1,2], [], [], [4,5], [0,1,2,3,4,5,6], [0,1,2,3,4,5,6,7], [0,1,2,3,4,5,6,7,8]] [52,53,54,55,56,57,58,59] [] (by kernel_rfl) (by kernel_rfl)
   ·(apply aF rfl;(intro S1 hS;exact ah rfl (hS.op rfl)))
    (apply aF rfl;(intro S1 hS;exact ah rfl (hS.op rfl)))
    (apply aF rfl;(intro S1 hS;exact aS (j:=j) rfl (hS.op rfl) (hS.op rfl) (hS.ch _ _ rfl) rfl (by as_aux_lemma=>kernel_rfl) rfl hjl hjil))
    (apply aF rfl;(intro S1 hS;exact aV rfl (by as_aux_lemma=>kernel_rfl) (hS.op rfl) (hS.ch _ _ rfl) rfl hgj))
    (apply aF rfl;(intro S1 hS;exact ah rfl (hS.op rfl)))
    (apply aF rfl;(intro S1 hS;exact ah rfl (hS.op rfl)))
    (apply aF rfl;(intro S1 hS;apply ar 48;exact au hQ (by as_aux_lemma=>kernel_rfl) rfl (ez hS rfl) ⟨rfl,rfl,rfl,trivial⟩ (dJ hS ⟨⟨_,rfl, .inl rfl⟩,trivial⟩) rfl rfl))
    (apply aF rfl;(intro S1 hS;exact uB rfl (hS.op rfl) (hS.op rfl) hq0 hbig))
    exact eR.nil
   ·rfl
   refine cK (St.of [(0,o1 (.sl 1003 0 zs.length)),(1,vv (I6 k)),(7,o1 (.sl 20 0 (zs.length + 1))),(48,vv (I6 (zs.length + 1:Nat))),(49,vv (I6 j))] [(1003,cf zs),(20,bI ((mM (oz zs k) (dn zs k 0) j).set j ((a / dn zs k 0:Nat):Int)))]) ?_ ?_
   ·((apply aZ 8 rfl (by as_aux_lemma=>kernel_rfl) rfl rfl;(first | exact aS (j:=j) rfl rfl rfl rfl rfl (by as_aux_lemma=>kernel_rfl) rfl hjl hjil | exact eL rfl rfl rfl rfl rfl hsl2 (by as_aux_lemma=>kernel_rfl)));(apply aZ 9 rfl (by as_aux_lemma=>kernel_rfl) rfl rfl;(first | exact aS (j:=j) rfl rfl rfl rfl rfl (by as_aux_lemma=>kernel_rfl) rfl hjl hjil | exact eL rfl rfl rfl rfl rfl hsl2 (by as_aux_lemma=>kernel_rfl)));(refine bF (by as_aux_lemma=>kernel_rfl) ?_;exact aU (Wk.of ⟨rfl,rfl,rfl,rfl,rfl,trivial⟩ ⟨rfl,rfl,trivial⟩ trivial)))
   (refine aI ?_;refine an ?_;refine ag ?_;apply ae rfl;(exact aJ rfl rfl rfl e8);apply ae rfl;(exact ah rfl rfl);refine aq ?_)
   exact aX (j + 1) (by omega) (by omega) (Wk.of ⟨rfl,rfl,rfl,rfl,rfl,trivial⟩ ⟨rfl,congrArg (fun z=>some (bI z)) hst.symm,trivial⟩ trivial)
  ·obtain rfl:j=zs.length + 1:=by omega
   have hll:zs.length + 1≤(bI (mM (oz zs k) (dn zs k 0) (zs.length + 1))).d.len:=by
    show _≤(aH _).length
    rw [aO,iN]
    exact Nat.le_of_eq (iK zs k _).symm
   (refine a6 ?_;refine aE ?_;refine aE ?_;refine aP ?_;refine an ?_;refine aj ?_;refine ag ?_;apply ae rfl;(exact ah rfl rfl);apply ae rfl;(exact b9 (l:=1) (m:=zs.length) (h:=zs.length + 1) (Nat.add_comm _ _) rfl rfl rfl rfl (by as_aux_lemma=>kernel_rfl) (c6 rfl rfl) cQ (Nat.le_refl _) hll);apply ae rfl;(exact ai rfl rfl);apply ae rfl;(exact ai rfl rfl);refine aq ?_;refine an ?_;refine aK ?_)
   exact cg (.inl rfl) rfl (.tmp rfl) (.tmp rfl) ⟨rfl,trivial⟩ trivial
set_option maxRecDepth 100000 in
theorem xz (zs:List Int) (m:Int) (hn:zs.length≤4398046511104) (h0:cB zs m≠0):
  FC Tryz.prog 13 [(1003,cf zs)] [o1 (.sl 1003 0 zs.length),vv (I6 m)] [] (.tup [.one (.val (.slice none 0 0)), .one (.val (I6 (cB zs m)))]) []:=by
 have hC:=ft zs zs.length m rfl hn
 refine a5 (nt:=64) Tryz.func13 rfl rfl (by simp) fun w0 ω0=> ?_
 (refine aj ?_;refine ag ?_;apply ae rfl;(exact ai rfl rfl);apply ae rfl;(exact ai rfl rfl);refine aq ?_;refine an ?_;refine aj ?_;refine aj ?_;refine ag ?_;apply ae rfl;(exact ah rfl rfl);apply ae rfl;(exact ah rfl rfl);apply ae rfl;((apply ar 45;exact au hC (by as_aux_lemma=>kernel_rfl) rfl rfl ⟨rfl,rfl,trivial⟩ ⟨⟨_,rfl, .inl rfl⟩,trivial⟩ rfl rfl));apply ae rfl;(exact ai rfl rfl);refine aq ?_;refine an ?_;refine aj ?_;refine ag ?_;apply ae rfl;(exact ah rfl rfl);apply ae rfl;(exact aB rfl rfl rfl rfl);refine aq ?_;refine an ?_)
 refine ax rfl (fun _=> ?_) (fun e=>absurd (by simpa using e) h0)
 (refine aj ?_;refine ag ?_;apply ae rfl;(exact ah rfl rfl);apply ae rfl;(exact ai rfl rfl);apply ae rfl;(exact ai rfl rfl);refine aq ?_;refine an ?_;refine aK ?_;refine aT ?_)
 exact cg (.inl rfl) rfl (.tmp rfl) (.tmp rfl) trivial trivial
def y8 (zs:List Int) (m:Int):List Int:=if cB zs m=0 then mQ zs m.toNat else []
theorem uQ {zs:List Int} {m:Int} (h:cB zs m=0):(mQ zs m.toNat).length≤1000:=by
 have:=bE (dO h).1;rw [nE];omega
theorem ri {E:Nat} {lo hi:Nat} {v:Value} {zs:List Int} (m:Int) (w:World) (h:dZ E w lo hi v zs):
  Calls Tryz.prog 13 #[v, .int .i64 m] w fun e w'=>∃r,e= .returned (.tuple #[r, .int .i64 (cB zs m)])∧mK 2 w' w.heap.size w'.heap.size r (y8 zs m)∧Below w.heap.size w w':=by
 unfold y8
 by_cases h0:cB zs m=0
 ·have hB:=uQ h0
  rw [if_pos h0,h0]
  have hn:zs.length≤4398046511104:=vu h.1
  obtain ⟨y,hy⟩:=vC zs m hn h0
  refine (jt m (fun _=>hy) h).mono ?_
  rintro e w' ⟨v,η,ω,rfl,hd,hm,hb,hnn⟩
  obtain ⟨u,u',rfl,h1,h2⟩:=jR hd
  have h2:u'=I6 0:=h2
  subst h2
  exact ⟨u,rfl,zz (y:=20) (x:=y) (E:=2) hm hnn (by simp [lk]) (by rw [nE];exact h1) (by omega),hb⟩
 ·rw [if_neg h0]
  refine (fJ (jt m (fun k1=>xz zs m k1 h0) h)).mono ?_
  rintro e w' ⟨rfl,hb⟩
  exact ⟨_,rfl, .inl ⟨rfl,none,0,rfl⟩,hb⟩
end Go.Proofs.YtekbhbcgoadciaaGreat
