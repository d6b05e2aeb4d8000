/- Cosets that some generators lead to: the program's subgroupOf. guards: -/
import Derived.Test.YtekbhbcgoadciaaGreatPart11
import Derived.Test.YtekbhbcgoadciaaGreatPart8
import Derived.Test.YtekbhbcgoadciaaGreatPart6
import Derived.Test.YtekbhbcgoadciaaGreatPart5
import Derived.Test.YtekbhbcgoadciaaGreatPart7
import Derived.Test.YtekbhbcgoadciaaGreatPart4
import Derived.Deep.AppendLies
import Derived.Test.YtekbhbcgoadciaaGreatProg
import Derived.Test.YtekbhbcgoadciaaGreatPart1
set_option maxRecDepth 100000
set_option maxHeartbeats 6400000
namespace Go.Proofs.YtekbhbcgoadciaaGreat
open Go.RowKit
theorem wV (T:List (List Int)) (ng n mask:Nat) (hng:T.length=ng) (hpos:0 < ng) (hT:dP T n) (hn:0 < n) (hn4:n≤400) (hg5:ng≤5) (hm:mask < 1000):
  FC Tryz.prog 82 [(1005,jg T)] [o1 (.sl 1005 0 ng),vv (I6 mask)] [(14,tX (mem T ng n mask).1)] (o1 (.sl 14 0 n)) []:=by
 have hlen:(bV T).length=ng:=by rw [cZ,hng]
 have hr0:(bn T 0).length=n:=hT.len 0 ae
 have hrow:(bV T)[0]? =some (aL (bn T 0)):=cf ae
 refine bj (nt:=57) Tryz.func82 rfl rfl (by simp) fun w0 ω0=> ?_
 have hbl0:(fT (List.replicate n false)).length=n:=by rw [jw];simp
 rw [←hr0] at hbl0
 have hrp:(List.replicate (bn T 0).length false).length=(bn T 0).length:=by simp
 (refine ak (ah (aa rfl (ai rfl rfl) (ar (an (ak (ah (aa rfl (aj rfl rfl) ?_)))))));apply aa rfl;(first | exact aR (j:=0) rfl rfl rfl rfl rfl ab rfl hpos (Nat.le_of_eq hlen.symm) | exact mQ (E:=4) rfl ab ab rfl rfl rfl rfl ae | exact aR (j:=0) rfl rfl rfl rfl rfl ab rfl ae (Nat.le_of_eq hbl0.symm) | exact mE (bs:=List.replicate (bn T 0).length false) rfl rfl rfl rfl rfl (by rw [hrp];omega) ab);apply aa rfl;exact bF rfl ab rfl rfl rfl aQ c8;apply aa rfl;exact bw rfl rfl rfl ab;apply aa rfl;(first | exact aR (j:=0) rfl rfl rfl rfl rfl ab rfl hpos (Nat.le_of_eq hlen.symm) | exact mQ (E:=4) rfl ab ab rfl rfl rfl rfl ae | exact aR (j:=0) rfl rfl rfl rfl rfl ab rfl ae (Nat.le_of_eq hbl0.symm) | exact mE (bs:=List.replicate (bn T 0).length false) rfl rfl rfl rfl rfl (by rw [hrp];omega) ab);refine aa rfl (ai rfl rfl) (ar (an (ak (ah (aa rfl (aj rfl rfl) ?_)))));apply aa rfl;(first | exact aR (j:=0) rfl rfl rfl rfl rfl ab rfl hpos (Nat.le_of_eq hlen.symm) | exact mQ (E:=4) rfl ab ab rfl rfl rfl rfl ae | exact aR (j:=0) rfl rfl rfl rfl rfl ab rfl ae (Nat.le_of_eq hbl0.symm) | exact mE (bs:=List.replicate (bn T 0).length false) rfl rfl rfl rfl rfl (by rw [hrp];omega) ab);apply aa rfl;(first | exact aR (j:=0) rfl rfl rfl rfl rfl ab rfl hpos (Nat.le_of_eq hlen.symm) | exact mQ (E:=4) rfl ab ab rfl rfl rfl rfl ae | exact aR (j:=0) rfl rfl rfl rfl rfl ab rfl ae (Nat.le_of_eq hbl0.symm) | exact mE (bs:=List.replicate (bn T 0).length false) rfl rfl rfl rfl rfl (by rw [hrp];omega) ab);refine ar (an (ak (ak (ah ?_))));apply aa rfl;(exact bW (E:=2) rfl ab rfl);refine aa rfl (ai rfl rfl) (ar (an (aB ?_))))
 refine bz (fun q:Nat×qR×List Int×Nat=>St.of [(0,o1 (.sl 1005 0 ng)),(1,vv (I6 mask)),(5,o1 (.sl 14 0 n)),(6,o1 (.sl 17 q.2.2.2 (q.2.1.2.length - q.1)))] [(1005,jg T),(14,tX q.2.1.1),(17,bG (q.2.2.1 ++ q.2.1.2.drop q.1))])
  (fun q=>q.1≤q.2.1.2.length∧AA n q.2.1∧gS T mask ng (n + 1 - q.1) q.1 q.2.1=mem T ng n mask∧q.2.2.1.length=q.2.2.2) (fun q=>n + 1 - q.1) (0,mStart n, [],0) ⟨Nat.zero_le _,js hn,rfl,rfl⟩ (Wk.of ⟨rfl,rfl,by rw [←hr0];rfl,rfl,ag⟩ ⟨rfl,by rw [←hr0];rfl,rfl,ag⟩ trivial) ?_
 clear hbl0 hrp
 rintro ⟨i,⟨B,O⟩,pre,o⟩ ⟨hi,hok,hl,hpre⟩
 dsimp only at hi hl hpre ⊢
 have hOn:O.length≤n:=hok.le
 (refine ak (ak (ah (aa rfl (aj rfl rfl) (aa rfl (bw rfl rfl rfl ab) ?_))));refine aa rfl (aG rfl rfl rfl rfl) (ar (an ?_)))
 refine ax rfl (fun h=> ?_) (fun h=> ?_)
 ·have hlt:i < O.length:=by
   have:=of_decide_eq_true h;omega
  have hl':gS T mask ng (n - i) (i + 1) (Gh T mask ng (aC O i).toNat (B,O))=mem T ng n mask:=by
   rw [←hl,show n + 1 - i=(n - i) + 1 by omega];exact (AE (T:=T) (ng:=ng) (s:=(B,O)) hlt).symm
  obtain ⟨c,hc1,hc2,_⟩:=hok.q i hlt
  dsimp only at hc1
  rw [hc1,Int.toNat_natCast] at hl'
  obtain ⟨s0,hs0⟩:∃s0:qR,s0=(B,O):=⟨_,rfl⟩
  have hro:∀m,m≤ng→AA n ((List.range m).foldl (fB T mask c) s0)∧kd s0 ((List.range m).foldl (fB T mask c) s0):=fun m hm=>have:=oL (mask:=mask) hT hng hc2 (s:=s0) (by rw [hs0];exact hok) m hm;⟨this.1,this.2.1⟩
  have hO0:s0.2.length=O.length:=by rw [hs0]
  have hc0:aC s0.2 i=(c:Int):=by rw [hs0];exact hc1
  have hfin:gS T mask ng (n - i) (i + 1) ((List.range ng).foldl (fB T mask c) s0)=mem T ng n mask:=by rw [hs0];exact hl'
  (refine aE (an (ak (aB (ak (ah (aa rfl (aj rfl rfl) (aa rfl (bw rfl rfl rfl ab) ?_)))))));refine aa rfl (aj rfl rfl) (ar (an (aB ?_))))
  refine bz (fun q:Nat×qR×List Int×Nat=>St.of [(0,o1 (.sl 1005 0 ng)),(1,vv (I6 mask)),(5,o1 (.sl 14 0 n)),(6,o1 (.sl 17 q.2.2.2 (q.2.1.2.length - i))),(23,o1 (.sl 1005 0 ng)),(24,vv (I6 ng)),(25,vv (I6 q.1))] [(1005,jg T),(14,tX q.2.1.1),(17,bG (q.2.2.1 ++ q.2.1.2.drop i))])
   (fun q=>q.1≤ng∧(List.range q.1).foldl (fB T mask c) s0=q.2.1∧q.2.2.1.length=q.2.2.2) (fun q=>ng - q.1) (0,(B,O),pre,o) ⟨Nat.zero_le _,hs0,hpre⟩ (Wk.of ⟨rfl,rfl,rfl,rfl,rfl,rfl,rfl,ag⟩ ⟨rfl,rfl,rfl,ag⟩ trivial) ?_
  clear hl hl' hok hs0 hc1 hpre
  generalize O.length=on at *
  rintro ⟨g,⟨B,O⟩,pre,o⟩ ⟨hg,hfo,hpre⟩
  dsimp only at hg hfo hpre ⊢
  obtain ⟨hok,grw⟩:=hro g hg
  rw [hfo] at hok grw
  have hOl:O.length≤n:=hok.le
  have hiO:i < O.length:=Nat.lt_of_lt_of_le ae grw.len
  have hBl:B.length=n:=hok.l
  have hbl:(fT B).length=n:=by rw [jw];exact hBl
  have hci:aC O i=(c:Int):=(grw.pre i ae).trans hc0
  have gl:(o + (O.length - i)) * 1≤(aL (pre ++ O.drop i)).length:=Nat.le_of_eq (E5 hpre ae)
  (refine ak (ah (aa rfl (aG rfl rfl rfl rfl) (ar (an (ak ?_))))))
  refine bK rfl (fun h2=> ?_) (fun h2=> ?_)
  ·have hgn:g < ng:=by omega
   have hd:=nO hT hc2 (g:=g) ae
   have hrl:(bn T g).length=n:=hT.len g ae
   have hrowg:(bV T)[g]? =some (aL (bn T g)):=cf ae
   obtain ⟨d,hdd⟩:∃d,kC T c g=d:=⟨_,rfl⟩
   have hst:(List.range (g + 1)).foldl (fB T mask c) s0=if gp mask g=true∧dU B d=false then (B.set d true,O ++ [(d:Int)]) else (B,O):=by
    rw [List.range_succ,List.foldl_append,hfo,←hdd];rfl
   rw [hdd] at hd
   have hgetd:(aL (bn T g))[c]? =some (I6 (d:Int)):=by rw [bl ae,hd.2]
   have hgb:(fT B)[d]? =some (.bool (dU B d)):=mT ae
   have g1:=Ja hpre hiO hci
   have hoi:0 < O.length - i:=by omega
   have no:∀(hno:¬(gp mask g=true∧dU B d=false)),(List.range (g + 1)).foldl (fB T mask c) s0=(B,O):=fun hno=>by rw [hst,if_neg hno]
   have hmg:mask < 1000000:=by omega
   have hg64:g≤64:=by omega
   (refine aE (an (ak (aB (ak (ah (aa rfl (aj rfl rfl) ?_))))));apply aa rfl;exact aR rfl rfl rfl rfl rfl ab a9 aJ a8;apply aa rfl;exact bF rfl ab rfl rfl rfl aQ c8;refine aa rfl (ai rfl rfl) (aa rfl (ai rfl rfl) (ar (an (ak (ah (aa rfl (aj rfl rfl) (aa rfl (aj rfl rfl) ?_)))))));apply aa rfl;(first | exact dh (k:=1) (j:=0) rfl rfl rfl rfl rfl ab rfl hoi gl ae | exact dZ (g:=g) rfl rfl rfl hg64 | exact eW rfl rfl hmg | exact fR rfl rfl);apply aa rfl;exact bf rfl ab rfl rfl rfl aQ;apply aa rfl;exact bd rfl rfl rfl rfl rfl ab aQ a9 aJ a8;apply aa rfl;exact a5 rfl ab rfl rfl rfl aQ aQ;refine aa rfl (ai rfl rfl) (ar (an (ak (ah (aa rfl (aj rfl rfl) (aa rfl (aj rfl rfl) ?_))))));apply aa rfl;(first | exact dh (k:=1) (j:=0) rfl rfl rfl rfl rfl ab rfl hoi gl ae | exact dZ (g:=g) rfl rfl rfl hg64 | exact eW rfl rfl hmg | exact fR rfl rfl);apply aa rfl;(first | exact dh (k:=1) (j:=0) rfl rfl rfl rfl rfl ab rfl hoi gl ae | exact dZ (g:=g) rfl rfl rfl hg64 | exact eW rfl rfl hmg | exact fR rfl rfl);apply aa rfl;(first | exact dh (k:=1) (j:=0) rfl rfl rfl rfl rfl ab rfl hoi gl ae | exact dZ (g:=g) rfl rfl rfl hg64 | exact eW rfl rfl hmg | exact fR rfl rfl);apply aa rfl;exact aj rfl rfl)
   refine bS 41 rfl (fun hmb=> ?_) (fun hmb=> ?_)
   ·(apply aH rfl rfl rfl;exact aj rfl rfl;apply aH rfl rfl rfl;exact aj rfl rfl;apply aH rfl rfl rfl;(exact aR rfl rfl rfl rfl rfl ab rfl hd.1 (Nat.le_of_eq hbl.symm));apply aH rfl rfl rfl;exact bf rfl ab rfl rfl rfl aQ;apply aH rfl rfl rfl;exact bU rfl rfl;refine aa rfl (bp rfl rfl rfl) (ar (an ?_)))
    refine ax rfl (fun hb=> ?_) (fun hb=> ?_)
    ·have hb:dU B d=false:=by simpa using hb
     have hv:(List.range (g + 1)).foldl (fB T mask c) s0=(B.set d true,O ++ [(d:Int)]):=by rw [hst,if_pos ⟨hmb,hb⟩]
     have hln:(o + (O.length - i)) * 1=(aL (pre ++ O.drop i)).length:=E5 hpre ae
     (refine ak (ah (aa rfl (aj rfl rfl) (aa rfl (aj rfl rfl) ?_)));apply aa rfl;(first | exact aR rfl rfl rfl rfl rfl ab rfl hd.1 (Nat.le_of_eq hbl.symm) | exact mE rfl rfl rfl rfl rfl (by rw [hBl];exact hd.1) ab);apply aa rfl;(first | exact aR rfl rfl rfl rfl rfl ab rfl hd.1 (Nat.le_of_eq hbl.symm) | exact mE rfl rfl rfl rfl rfl (by rw [hBl];exact hd.1) ab);refine ar (an (ah (aa rfl (aj rfl rfl) (aa rfl (aj rfl rfl) ?_))));apply aa rfl;(exact bW (E:=2) rfl ab rfl))
     refine Ae rfl (lx (k:=1) (m:=1) (E:=2) rfl ab rfl rfl rfl hln rfl (eR (k:=1) rfl rfl rfl rfl (Nat.le_refl _)) ae (by intro v hv;simp [aL] at hv;subst hv;rfl) ae) ?_ ?_
     ·(refine aa rfl (ai rfl rfl) (ar (aM (an (ah ?_))));apply aa rfl;exact aP rfl rfl rfl bA;refine aa rfl (aj rfl rfl) (ar ?_))
      exact aW (g + 1,(B.set d true,O ++ [(d:Int)]), [],0) ⟨hgn,hv,rfl⟩ (by show ng - (g + 1) < ng - g;omega) (Wk.of ⟨rfl,rfl,rfl,congrArg (fun x=>some (o1 (.sl 17 0 x))) (by simp;omega),rfl,rfl,rfl,ag⟩ ⟨rfl,rfl,congrArg (fun l=>some (⟨true,2,1, .bR l⟩:Ch)) (GO hpre ae (d:Int)),ag⟩ trivial)
     ·(refine aa rfl (ai rfl rfl) (ar (aM (an (ah ?_))));apply aa rfl;exact aP rfl rfl rfl bA;refine aa rfl (aj rfl rfl) (ar ?_))
      exact aW (g + 1,(B.set d true,O ++ [(d:Int)]),pre,o) ⟨hgn,hv,hpre⟩ (by show ng - (g + 1) < ng - g;omega) (Wk.of ⟨rfl,rfl,rfl,congrArg (fun x=>some (o1 (.sl 17 o x))) (by simp;omega),rfl,rfl,rfl,ag⟩ ⟨rfl,rfl,congrArg (fun l=>some (⟨true,2,1, .bR l⟩:Ch)) (GR ae (d:Int)),ag⟩ trivial)
    ·have hb:dU B d=true:=by simpa using hb
     (refine aE (aM (an (ah ?_)));apply aa rfl;exact aP rfl rfl rfl bA;refine aa rfl (aj rfl rfl) (ar ?_))
     exact aW (g + 1,(B,O),pre,o) ⟨hgn,no (fun h=>by rw [hb] at h;cases h.2),hpre⟩ (by show ng - (g + 1) < ng - g;omega) (Wk.of ⟨rfl,rfl,rfl,rfl,rfl,rfl,rfl,ag⟩ ⟨rfl,rfl,rfl,ag⟩ trivial)
   ·(apply aD rfl rfl rfl rfl rfl;apply aD rfl rfl rfl rfl rfl;apply aD rfl rfl rfl rfl rfl;apply aD rfl rfl rfl rfl rfl;apply aD rfl rfl rfl rfl rfl;refine aa rfl (bD rfl rfl rfl) (ar (an ?_)))
    refine ax rfl (fun e=>by cases e) (fun _=> ?_)
    (refine aE (aM (an (ah ?_)));apply aa rfl;exact aP rfl rfl rfl bA;refine aa rfl (aj rfl rfl) (ar ?_))
    exact aW (g + 1,(B,O),pre,o) ⟨hgn,no (fun h=>by rw [hmb] at h;cases h.1),hpre⟩ (by show ng - (g + 1) < ng - g;omega) (Wk.of ⟨rfl,rfl,rfl,rfl,rfl,rfl,rfl,ag⟩ ⟨rfl,rfl,rfl,ag⟩ trivial)
  ·obtain rfl:g=ng:=by omega
   (refine a7 (aA (aA (aT (aM (an (ah (aa rfl (aj rfl rfl) ?_)))))));apply aa rfl;(exact kT (k:=1) (l:=1) rfl rfl rfl rfl ab ae (eN rfl rfl) dN ae (Nat.le_refl _) gl);refine aa rfl (ai rfl rfl) (ar ?_))
   exact aW (i + 1,(B,O),pre ++ [(c:Int)],o + 1) ⟨hiO,hok,by rw [←hfin,hfo];show gS _ _ _ (n + 1 - (i + 1)) _ _=_;rw [show n + 1 - (i + 1)=n - i by omega],by simp;omega⟩ (by show n + 1 - (i + 1) < n + 1 - i;omega) (Wk.of ⟨rfl,rfl,rfl,congrArg (fun x=>some (o1 (.sl 17 (o + 1) x))) (show O.length - i - 1=O.length - (i + 1) by omega),ag⟩ ⟨rfl,rfl,congrArg (fun l=>some (⟨true,2,1, .bR (aL l)⟩:Ch)) (GL hiO hci),ag⟩ trivial)
 ·have hio:i=O.length:=by
   have:=of_decide_eq_false h;omega
  have hOM:mem T ng n mask=(B,O):=by
   rw [←hl,show n + 1 - i=(n - i) + 1 by omega,gS,if_neg (by show ¬i < O.length;omega)]
  rw [hOM]
  (refine a7 (aA (aA (aT (an (ak (ah (aa rfl (aj rfl rfl) (aa rfl (ai rfl rfl) (ar (an (aS ?_))))))))))))
  exact bu (.inl rfl) rfl (.tmp rfl) ⟨rfl,ag⟩ trivial
end Go.Proofs.YtekbhbcgoadciaaGreat
namespace Go.Proofs.YtekbhbcgoadciaaGreat
open Go.RowKit
def ou (T:List (List Int)) (ng m:Nat) (i:Nat):List Int:=(List.range ng).map fun k:Nat=>kj T [(i:Int),(k:Int)] m
def GZ (T:List (List Int)) (ng m:Nat):List (List Int):=(List.range ng).map (ou T ng m)
def I4 (d:du):List (List Int):=if tl d []=0 then GZ (cU d []) d.1.toNat (fe d []) else []
theorem CY (T:List (List Int)) (ng m i:Nat):(ou T ng m i).length=ng:=by simp [ou]
theorem AF (T:List (List Int)) (ng m:Nat):(GZ T ng m).length=ng:=by simp [GZ]
theorem xA {T:List (List Int)} {ng i k:Nat} (hn:T.length=ng) (hi:i < ng) (hk:k < ng):∀z∈ [(i:Int),(k:Int)],0≤z∧z < T.length:=fun z hz=>by
 simp at hz
 rcases hz with rfl | rfl<;>omega
theorem FC.Cn {f:FuncId} {g:Int} {rels:List (List Int)} {outs:List (Nm×Ch)} {res:AV} (h:FC Tryz.prog f [(1004,dk []),(1003,a6 rels)] [pA g rels.length,o1 (.sl 1004 0 0)] outs res []):FC Tryz.prog f [(1003,a6 rels)] [pA g rels.length,vv (.slice none 0 0)] outs res []:=
 FC.JV (x:=1004) h rfl rfl rfl (fun t av h=>by cases h) Dl
theorem Aj (ng:Nat) (rels:List (List Int)) (h1:Fit rels) (hG:Good ng rels []) (hk:m7 ((ng:Int),rels) []):
  FC Tryz.prog 32 [(1003,a6 rels)] [pA ng rels.length] [(6,cT (GZ (cU ((ng:Int),rels) []) ng (fe ((ng:Int),rels) [])))] (.tup [.one (.sl 6 0 ng), .one (.val (I6 0))]) []:=by
 have hE:=(lj h1 (by simp) hG hk).Cn
 have hs:=gF hk.2.2
 have hng:=hG.hi
 have hO:∀i k,i < ng→k < ng→FC Tryz.prog 81 [(1005,jg (cU ((ng:Int),rels) [])),(32,dk [(i:Int),(k:Int)])] [o1 (.sl 1005 0 ng),o1 (.sl 32 0 2)] [] (vv (I6 (kj (cU ((ng:Int),rels) []) [(i:Int),(k:Int)] (fe ((ng:Int),rels) [])))) []:=fun i k hi hk=>
  (nX _ [(i:Int),(k:Int)] _ ng (dO _ _ _) (hZ hG hs.1) (n5 hG hs.1) (mg hG hs.1) ae ae (xA (dO _ _ _) hi hk) (by simp)).nm [(1005,1005),(1004,32)] (by kernel_rfl)
 refine bj (nt:=43) Tryz.func32 rfl rfl (by simp) fun w0 ω0=> ?_
 generalize fe ((ng:Int),rels) []=N at *
 generalize cU ((ng:Int),rels) []=T at *
 (refine ak (ah (aa rfl (cF rfl rfl rfl rfl) (aa rfl (ai rfl rfl) (aa rfl (ai rfl rfl) (ar (an (ak (ah (aa rfl (aU rfl rfl rfl rfl rfl rfl ab) ?_)))))))));apply aa rfl;(apply au 78;exact bg hE ab rfl rfl ⟨⟨.inl rfl, .inl rfl,ag⟩,rfl,ag⟩ ⟨⟨_,rfl, .inl rfl⟩,ag⟩ rfl rfl rfl);refine aa rfl (aj rfl rfl) (aa rfl (aN rfl rfl rfl) (aa rfl (aN rfl rfl rfl) (aa rfl (ai rfl rfl) (aa rfl (ai rfl rfl) (ar (an (ak (ak (ah (aa rfl (aj rfl rfl) (aa rfl (aG rfl rfl rfl rfl) ?_)))))))))));refine ar (an ?_))
 refine ax rfl (fun e=>by cases e) (fun _=> ?_)
 (refine aE (an (ak (ah (aa rfl (ai rfl rfl) (ar (an (ak (ak (ah ?_)))))))));apply aa rfl;(exact aI (d:=0) rfl rfl rfl ab);apply aa rfl;exact aZ rfl ab rfl rfl rfl rfl;refine aa rfl (aj rfl rfl) (ar (an (aB ?_))))
 refine qY (nq (t:=6) (n:=6) (k:=1) (E:=24) (d:= .rows 2 (bV []) []) rfl rfl) ?_
 refine bz (fun i:Nat=>St.of [(1,o1 (.ptr 1 0)),(4,o1 (.sl 1005 0 ng)),(6,o1 (.sl 6 0 i)),(19,vv (I6 ng)),(20,vv (I6 i))] [(1,⟨true,46,2, .flat [.val (I6 ng), .sl 1003 0 rels.length]⟩),(1005,cT T),(6,cT ((List.range i).map (ou T ng N)))]) (fun i=>i≤ng) (fun i=>ng - i) 0 (Nat.zero_le _) (Wk.of ⟨rfl,rfl,rfl,rfl,rfl,ag⟩ ⟨rfl,rfl,rfl,ag⟩ trivial) ?_
 intro i hi
 (refine ak (ah (aa rfl (aG rfl rfl rfl rfl) (ar (an (ak ?_))))))
 refine bK rfl (fun hlt=> ?_) (fun hlt=> ?_)
 ·have hlt':i < ng:=by omega
  (refine aE (an (ak (aB (ak (ah (aa rfl (aj rfl rfl) (aa rfl (ai rfl rfl) (ar (an (ak (ah ?_)))))))))));refine aa rfl (ai rfl rfl) (ar (an (ak (ak (ah ?_)))));apply aa rfl;(exact aI (d:=0) rfl rfl rfl ab);apply aa rfl;exact aZ rfl ab rfl rfl rfl rfl;refine aa rfl (aj rfl rfl) (ar (an (aB ?_))))
  refine qY (nq (t:=8) (n:=8) (k:=1) (E:=2) (d:= .bR (aL [])) rfl rfl) ?_
  refine bz (fun k:Nat=>St.of [(1,o1 (.ptr 1 0)),(4,o1 (.sl 1005 0 ng)),(6,o1 (.sl 6 0 i)),(7,vv (I6 i)),(8,o1 (.sl 8 0 k)),(19,vv (I6 ng)),(20,vv (I6 i)),(24,vv (I6 ng)),(25,vv (I6 k))] [(1,⟨true,46,2, .flat [.val (I6 ng), .sl 1003 0 rels.length]⟩),(1005,cT T),(6,cT ((List.range i).map (ou T ng N))),(8,bG ((List.range k).map fun k:Nat=>kj T [(i:Int),(k:Int)] N))]) (fun k=>k≤ng) (fun k=>ng - k) 0 (Nat.zero_le _) (Wk.of ⟨rfl,rfl,rfl,rfl,rfl,rfl,rfl,rfl,rfl,ag⟩ ⟨rfl,rfl,rfl,rfl,ag⟩ trivial) ?_
  intro k hk
  (refine ak (ah (aa rfl (aG rfl rfl rfl rfl) (ar (an (ak ?_))))))
  refine bK rfl (fun hlk=> ?_) (fun hlk=> ?_)
  ·have hlk':k < ng:=by omega
   have hOik:=hO i k hlt' hlk'
   have hkl:((List.range k).map fun k:Nat=>kj T [(i:Int),(k:Int)] N).length=k:=by simp
   (refine aE (an (ak (aB (ak (ah (aa rfl (aj rfl rfl) (aa rfl (ai rfl rfl) (ar (an (ah (aa rfl (aj rfl rfl) ?_)))))))))));refine aa rfl (aj rfl rfl) (aa rfl (aj rfl rfl) (aa rfl (aj rfl rfl) ?_));apply aa rfl;(exact cN (E:=2) rfl ab rfl rfl);apply aa rfl;(apply au 81;exact aw hOik ab rfl rfl ⟨rfl,rfl,ag⟩ ⟨⟨_,rfl, .inr rfl⟩,⟨_,rfl, .inr rfl⟩,ag⟩ rfl rfl);apply aa rfl;(exact bW (E:=2) rfl ab rfl);apply aa rfl;(exact bE rfl ab rfl rfl rfl (by first | rfl | assumption | (simp;done)) rfl rfl ae);refine aa rfl (ai rfl rfl) (ar (aM (an (ah ?_))));apply aa rfl;exact aP rfl rfl rfl bA;refine aa rfl (aj rfl rfl) (ar ?_))
   exact aW (k + 1) hlk' ae (Wk.of ⟨rfl,rfl,rfl,rfl,rfl,rfl,rfl,rfl,rfl,ag⟩ ⟨rfl,rfl,rfl,by rw [List.range_succ,List.map_append,List.map_singleton];rfl,ag⟩ trivial)
  ·obtain rfl:k=ng:=by omega
   have hil:((List.range i).map (ou T k N)).length=i:=by simp
   have hrow:(List.range (i + 1)).map (ou T k N)=(List.range i).map (ou T k N) ++ [(List.range k).map fun k:Nat=>kj T [(i:Int),(k:Int)] N]:=by rw [List.range_succ (n:=i),List.map_append];rfl
   have hkl:((List.range k).map fun k:Nat=>kj T [(i:Int),(k:Int)] N).length=k:=by simp
   (refine a7 (aA (aA (aT (an (ah (aa rfl (aj rfl rfl) (aa rfl (aj rfl rfl) ?_)))))));apply aa rfl;(exact lW (E:=24) rfl ab rfl rfl rfl);apply aa rfl;(exact kE rfl ab rfl rfl (by first | rfl | assumption | (simp;done)) rfl rfl rfl (by first | rfl | assumption | (simp;done)) rfl ae);refine aa rfl (ai rfl rfl) (ar (aM (an (ah ?_))));apply aa rfl;exact aP rfl rfl rfl bA;refine aa rfl (aj rfl rfl) (ar ?_))
   exact aW (i + 1) hlt' ae (Wk.of ⟨rfl,rfl,rfl,rfl,rfl,ag⟩ ⟨rfl,rfl,by rw [hrow];rfl,ag⟩ trivial)
 ·obtain rfl:i=ng:=by omega
  (refine a7 (aA (aA (aT (an (ak (ah (aa rfl (aj rfl rfl) (aa rfl (ai rfl rfl) (aa rfl (ai rfl rfl) (ar (an ?_)))))))))));refine aS ?_)
  exact bN (.inl rfl) rfl (.tmp rfl) (.tmp rfl) ⟨rfl,ag⟩ trivial
theorem BD (g:Int) (rels:List (List Int)) (h1:Fit rels) (hk:¬m7 (g,rels) []):
  FC Tryz.prog 32 [(1003,a6 rels)] [pA g rels.length] [] (.tup [.one (.val (.slice none 0 0)), .one (.val (I6 (tl (g,rels) [])))]) []:=by
 have hE:=(mW h1 (by simp) hk).Cn
 have hc:=nI hk
 refine bj (nt:=43) Tryz.func32 rfl rfl (by simp) fun w0 ω0=> ?_
 (refine ak (ah (aa rfl (cF rfl rfl rfl rfl) (aa rfl (ai rfl rfl) (aa rfl (ai rfl rfl) (ar (an (ak (ah (aa rfl (aU rfl rfl rfl rfl rfl rfl ab) ?_)))))))));apply aa rfl;(apply au 78;exact aw hE ab rfl rfl ⟨⟨.inl rfl, .inl rfl,ag⟩,rfl,ag⟩ ⟨⟨_,rfl, .inl rfl⟩,ag⟩ rfl rfl);refine aa rfl (aj rfl rfl) (aa rfl (aN rfl rfl rfl) (aa rfl (aN rfl rfl rfl) (aa rfl (ai rfl rfl) (aa rfl (ai rfl rfl) (ar (an (ak (ak (ah (aa rfl (aj rfl rfl) (aa rfl (aG rfl rfl rfl rfl) ?_)))))))))));refine ar (an ?_))
 refine ax rfl (fun _=> ?_) (fun e=> ?_)
 ·(refine ak (ah (aa rfl (aj rfl rfl) (aa rfl (ai rfl rfl) (aa rfl (ai rfl rfl) (ar (an (aS (aO ?_)))))))))
  exact bN (.inl rfl) rfl (.tmp rfl) (.tmp rfl) trivial trivial
 ·exfalso;simp at e;exact hc e
theorem zO {E1 E:Nat} {lo hi:Nat} {v:Value} {d:du} (w:World) (h:tE E1 E w lo hi v d):
  Calls Tryz.prog 32 #[v] w fun e w'=>∃r,e= .returned (.tuple #[r, .int .i64 (tl d [])])∧qS 2 24 w' w.heap.size w'.heap.size r (I4 d)∧Below w.heap.size w w':=by
 obtain ⟨g,rels⟩:=d
 by_cases hok:m7 (g,rels) []
 ·obtain ⟨ng,rfl,hG⟩:=mi hok.1
  have hc:=vk hok
  have hr:I4 ((ng:Int),rels)=GZ (cU ((ng:Int),rels) []) ng (fe ((ng:Int),rels) []):=by unfold I4;rw [if_pos hc];rfl
  have h5:=hG.hi
  rw [hr,hc]
  refine (s7 (d:=((ng:Int),rels)) (fun k1=>Aj ng rels k1 hG hok) h).mono ?_
  rintro e w' ⟨v,η,ω,rfl,hd,hm,hb,hn⟩
  obtain ⟨u,u',rfl,h1,h2⟩:=oO hd
  have h2:u'=I6 0:=h2
  subst h2
  refine ⟨u,rfl,Kb (x:=6) hm hn rfl (by rw [AF];exact h1) (by rw [AF];omega) (fun zs hz=> ?_),hb⟩
  obtain ⟨j,_,rfl⟩:=List.mem_map.1 hz
  rw [CY];omega
 ·have hc:=nI hok
  have hr:I4 (g,rels)= []:=if_neg hc
  rw [hr]
  refine (fX (s7 (d:=(g,rels)) (fun k1=>BD g rels k1 hok) h)).mono ?_
  rintro e w' ⟨rfl,hb⟩
  exact ⟨_,rfl,Dh,hb⟩
end Go.Proofs.YtekbhbcgoadciaaGreat
namespace Go.Proofs.YtekbhbcgoadciaaGreat
open Go.RowKit
abbrev H3 (R:Int×Int×Int):AV:= .tup [.one (.val (I6 R.1)), .one (.val (I6 R.2.1)), .one (.val (I6 R.2.2))]
theorem Ha {i k m:Nat} (h:i < m):i &&& k < m:=Nat.lt_of_le_of_lt Nat.and_le_left h
end Go.Proofs.YtekbhbcgoadciaaGreat
namespace Go.Proofs.YtekbhbcgoadciaaGreat
open Go.RowKit
theorem zp (ng:Nat) (rels:List (List Int)) (h1:Fit rels) (hG:Good ng rels []) (hk:m7 ((ng:Int),rels) []):
  FC Tryz.prog 34 [(1003,a6 rels)] [pA ng rels.length] [] (H3 (xL (cU ((ng:Int),rels) []) ng (fe ((ng:Int),rels) []))) []:=by
 have hE:=(lj h1 (by simp) hG hk).Cn
 have hs:=gF hk.2.2
 have hng:=hG.hi
 have hpos:=hG.pos
 have h32:2 ^ ng≤32:=Nat.pow_le_pow_right (by decide) hng
 have hT:=hZ hG hs.1
 have hNp:=mg hG hs.1
 have hTl:=dO ng rels []
 have hM:∀k:Nat,k < 2 ^ ng→FC Tryz.prog 82 [(1005,jg (cU ((ng:Int),rels) []))] [o1 (.sl 1005 0 ng),vv (I6 k)] [(14,tX (mem (cU ((ng:Int),rels) []) ng (fe ((ng:Int),rels) []) k).1)] (o1 (.sl 14 0 (fe ((ng:Int),rels) []))) []:=fun k hk=>
  wV _ ng _ k hTl hpos hT hNp hs.2 hng ae
 refine bj (nt:=71) Tryz.func34 rfl rfl (by simp) fun w0 ω0=> ?_
 have hN4:=hs.2
 clear hs
 generalize fe ((ng:Int),rels) []=N at *
 generalize cU ((ng:Int),rels) []=T at *
 have hml:∀m,(mem T ng N m).1.length=N:=fun m=>(Dz hT hTl hNp).l
 have hng64:ng≤5:=hng
 (refine ak (ah (aa rfl (cF rfl rfl rfl rfl) (aa rfl (ai rfl rfl) (aa rfl (ai rfl rfl) (aa rfl (ai rfl rfl) (ar (an (ak (ah (aa rfl (aU rfl rfl rfl rfl rfl rfl ab) ?_))))))))));apply aa rfl;(apply au 78;exact bg hE ab rfl rfl ⟨⟨.inl rfl, .inl rfl,ag⟩,rfl,ag⟩ ⟨⟨_,rfl, .inl rfl⟩,ag⟩ rfl rfl rfl);refine aa rfl (aj rfl rfl) (aa rfl (aN rfl rfl rfl) (aa rfl (aN rfl rfl rfl) (aa rfl (ai rfl rfl) (aa rfl (ai rfl rfl) (ar (an (ak (ak (ah (aa rfl (aj rfl rfl) (aa rfl (aG rfl rfl rfl rfl) ?_)))))))))));refine ar (an ?_))
 refine ax rfl (fun e=>by cases e) (fun _=> ?_)
 (refine aE (an (ak (ah ?_)));apply aa rfl;(exact aI (d:=0) rfl rfl rfl ab);apply aa rfl;exact aZ rfl ab rfl rfl rfl rfl;apply aa rfl;(exact fo (g:=ng) rfl rfl rfl hng64);refine aa rfl (ai rfl rfl) (ar (an (ak (ak (ah (aa rfl (aj rfl rfl) (aa rfl (aj rfl rfl) (ar (an (aB ?_)))))))))))
 refine bz (fun i:Nat=>St.of [(5,o1 (.sl 1005 0 ng)),(7,vv (I6 (2 ^ ng:Nat))),(25,vv (I6 (2 ^ ng:Nat))),(26,vv (I6 i))] [(1005,cT T)]) (fun i=>i≤2 ^ ng∧∀i',i' < i→∀k',i' < k'→k' < 2 ^ ng→fu T ng N i' k'=false) (fun i=>2 ^ ng - i) 0 ⟨Nat.zero_le _,fun i' h=>by omega⟩ (Wk.of ⟨rfl,rfl,rfl,rfl,ag⟩ ⟨rfl,ag⟩ trivial) ?_
 rintro i ⟨hi,hno2⟩
 (refine ak (ah (aa rfl (aG rfl rfl rfl rfl) (ar (an (ak ?_))))))
 refine bK rfl (fun hil=> ?_) (fun hil=> ?_)
 ·have hil':i < 2 ^ ng:=by omega
  (refine aE (an (ak (aB (ak (ah (aa rfl (aj rfl rfl) (aa rfl (ai rfl rfl) (ar (an (ak (ah ?_)))))))))));apply aa rfl;exact aj rfl rfl;apply aa rfl;exact aP rfl rfl rfl bA;refine aa rfl (ai rfl rfl) (ar (an (aB ?_))))
  refine bz (fun k:Nat=>St.of [(5,o1 (.sl 1005 0 ng)),(7,vv (I6 (2 ^ ng:Nat))),(8,vv (I6 i)),(9,vv (I6 k)),(25,vv (I6 (2 ^ ng:Nat))),(26,vv (I6 i))] [(1005,cT T)]) (fun k=>i < k∧k≤2 ^ ng∧∀k',i < k'→k' < k→fu T ng N i k'=false) (fun k=>2 ^ ng - k) (i + 1) ⟨ae,ae,fun k' h h'=>by omega⟩ (Wk.of ⟨rfl,rfl,rfl,rfl,rfl,rfl,ag⟩ ⟨rfl,ag⟩ trivial) ?_
  rintro k ⟨hik,hkl,hno⟩
  (refine ak (ak (ah (aa rfl (aj rfl rfl) (aa rfl (aj rfl rfl) (aa rfl (aG rfl rfl rfl rfl) (ar (an ?_))))))))
  refine bK rfl (fun hkl2=> ?_) (fun hkl2=> ?_)
  ·have hkl':k < 2 ^ ng:=by omega
   have haik:i &&& k < 2 ^ ng:=Ha hil'
   have hi32:i < 1000000:=by omega
   have hk32:k < 1000000:=by omega
   have m1:=(hM i hil').nm [(1005,1005),(14,38)] (by kernel_rfl)
   have m2:=(hM k hkl').nm [(1005,1005),(14,41)] (by kernel_rfl)
   have m3:=(hM (i &&& k) haik).nm [(1005,1005),(14,46)] (by kernel_rfl)
   have m1:FC Tryz.prog 82 [(1005,jg T)] [o1 (.sl 1005 0 ng),vv (I6 i)] [(38,tX (mem T ng N i).1)] (o1 (.sl 38 0 N)) []:=m1
   have m2:FC Tryz.prog 82 [(1005,jg T)] [o1 (.sl 1005 0 ng),vv (I6 k)] [(41,tX (mem T ng N k).1)] (o1 (.sl 41 0 N)) []:=m2
   have m3:FC Tryz.prog 82 [(1005,jg T)] [o1 (.sl 1005 0 ng),vv (I6 (i &&& k:Nat))] [(46,tX (mem T ng N (i &&& k)).1)] (o1 (.sl 46 0 N)) []:=m3
   have li:(fT (mem T ng N i).1).length=N:=by rw [jw];exact hml i
   have lk':(fT (mem T ng N k).1).length=N:=by rw [jw];exact hml k
   have la:(fT (mem T ng N (i &&& k)).1).length=N:=by rw [jw];exact hml _
   have hfs:∀c,c < N→rK T ng N i k c=fQ T ng N i k c:=fun c hc=>Ap hT hTl hNp i k hc
   (refine aE (an (ak (aB (ak (ah (aa rfl (aj rfl rfl) (aa rfl (aj rfl rfl) ?_)))))));apply aa rfl;(first | exact l0 (a:=i) (b:=k) rfl rfl rfl hi32 hk32 | (apply au 82;first | exact bg m1 ab rfl rfl ⟨rfl,rfl,ag⟩ ⟨⟨_,rfl, .inr rfl⟩,ag⟩ rfl rfl rfl | exact bg m2 ab rfl rfl ⟨rfl,rfl,ag⟩ ⟨⟨_,rfl, .inr rfl⟩,ag⟩ rfl rfl rfl | exact bg m3 ab rfl rfl ⟨rfl,rfl,ag⟩ ⟨⟨_,rfl, .inr rfl⟩,ag⟩ rfl rfl rfl));refine aa rfl (aj rfl rfl) (aa rfl (aj rfl rfl) ?_);apply aa rfl;(first | exact l0 (a:=i) (b:=k) rfl rfl rfl hi32 hk32 | (apply au 82;first | exact bg m1 ab rfl rfl ⟨rfl,rfl,ag⟩ ⟨⟨_,rfl, .inr rfl⟩,ag⟩ rfl rfl rfl | exact bg m2 ab rfl rfl ⟨rfl,rfl,ag⟩ ⟨⟨_,rfl, .inr rfl⟩,ag⟩ rfl rfl rfl | exact bg m3 ab rfl rfl ⟨rfl,rfl,ag⟩ ⟨⟨_,rfl, .inr rfl⟩,ag⟩ rfl rfl rfl));refine aa rfl (aj rfl rfl) (aa rfl (aj rfl rfl) (aa rfl (aj rfl rfl) ?_));apply aa rfl;(first | exact l0 (a:=i) (b:=k) rfl rfl rfl hi32 hk32 | (apply au 82;first | exact bg m1 ab rfl rfl ⟨rfl,rfl,ag⟩ ⟨⟨_,rfl, .inr rfl⟩,ag⟩ rfl rfl rfl | exact bg m2 ab rfl rfl ⟨rfl,rfl,ag⟩ ⟨⟨_,rfl, .inr rfl⟩,ag⟩ rfl rfl rfl | exact bg m3 ab rfl rfl ⟨rfl,rfl,ag⟩ ⟨⟨_,rfl, .inr rfl⟩,ag⟩ rfl rfl rfl));apply aa rfl;(first | exact l0 (a:=i) (b:=k) rfl rfl rfl hi32 hk32 | (apply au 82;first | exact bg m1 ab rfl rfl ⟨rfl,rfl,ag⟩ ⟨⟨_,rfl, .inr rfl⟩,ag⟩ rfl rfl rfl | exact bg m2 ab rfl rfl ⟨rfl,rfl,ag⟩ ⟨⟨_,rfl, .inr rfl⟩,ag⟩ rfl rfl rfl | exact bg m3 ab rfl rfl ⟨rfl,rfl,ag⟩ ⟨⟨_,rfl, .inr rfl⟩,ag⟩ rfl rfl rfl));refine aa rfl (ai rfl rfl) (aa rfl (ai rfl rfl) (aa rfl (ai rfl rfl) (ar (an (ak (ah (aa rfl (aj rfl rfl) (aa rfl (bw rfl rfl rfl ab) ?_))))))));refine aa rfl (aj rfl rfl) (ar (an (aB ?_))))
   refine bz (fun c:Nat=>St.of [(5,o1 (.sl 1005 0 ng)),(7,vv (I6 (2 ^ ng:Nat))),(8,vv (I6 i)),(9,vv (I6 k)),(10,o1 (.sl 38 0 N)),(11,o1 (.sl 41 0 N)),(12,o1 (.sl 46 0 N)),(25,vv (I6 (2 ^ ng:Nat))),(26,vv (I6 i)),(48,vv (I6 N)),(49,vv (I6 c))] [(1005,cT T),(38,tX (mem T ng N i).1),(41,tX (mem T ng N k).1),(46,tX (mem T ng N (i &&& k)).1)]) (fun c=>c≤N∧∀c',c' < c→fQ T ng N i k c'=false) (fun c=>N - c) 0 ⟨Nat.zero_le _,fun c' h=>by omega⟩ (Wk.of ⟨rfl,rfl,rfl,rfl,rfl,rfl,rfl,rfl,rfl,rfl,rfl,ag⟩ ⟨rfl,rfl,rfl,rfl,ag⟩ trivial) ?_
   rintro c ⟨hc,hnc⟩
   (refine ak (ah (aa rfl (aG rfl rfl rfl rfl) (ar (an (ak ?_))))))
   refine bK rfl (fun hcl=> ?_) (fun hcl=> ?_)
   ·have hcl':c < N:=by omega
    have bi:(fT (mem T ng N i).1)[c]? =some (.bool (dU (mem T ng N i).1 c)):=mT (by rw [hml];exact hcl')
    have bk:(fT (mem T ng N k).1)[c]? =some (.bool (dU (mem T ng N k).1 c)):=mT (by rw [hml];exact hcl')
    have ba:(fT (mem T ng N (i &&& k)).1)[c]? =some (.bool (dU (mem T ng N (i &&& k)).1 c)):=mT (by rw [hml];exact hcl')
    have hfa:fQ T ng N i k c=(dU (mem T ng N (i &&& k)).1 c != (dU (mem T ng N i).1 c && dU (mem T ng N k).1 c)):=(hfs c hcl').symm
    have skip:∀(hf:fQ T ng N i k c=false),∀c',c' < c + 1→fQ T ng N i k c'=false:=fun hf c' h=>by
     by_cases e:c'=c
     ·subst e;exact hf
     ·exact hnc c' ae
    clear hfs m1 m2 m3 hM
    generalize (mem T ng N (i &&& k)).1=Ma at *
    generalize (mem T ng N i).1=Mi at *
    generalize (mem T ng N k).1=Mk at *
    (refine aE (an (ak (aB (ak (ah (aa rfl (aj rfl rfl) (aa rfl (ai rfl rfl) (ar (an (ak ?_)))))))))))
    cases e1:dU Mi c with
    | true=>
     rw [e1] at bi hfa
     apply jB 15 [] [[], [], [0,1], [0,1,2], [], [], [4,5], [4,5,6], [4,5,6,7], [4,5,6,7,8], [4,5,6,7,8], [4,5,6,7,8,9,10], [4,5,6,7,8,9,10,11], [4,5,6,7,8,9,10,11,12], [0,1,2,3,4,5,6,7,8,9,10,11,12,13]] [52,53,54,55,56,57,58,59,60,61,62,63,64,65,66] [] (by kernel_rfl) (by kernel_rfl)
     ·(apply bT rfl;(intro S1 hS;exact aj rfl (hS.op rfl));apply bT rfl;(intro S1 hS;exact aj rfl (hS.op rfl));(first | (apply bT rfl;(focus (intro S1 hS;first | exact aR (j:=c) rfl (hS.op rfl) (hS.op rfl) (hS.ch _ _ rfl) rfl ab rfl hcl' (Nat.le_of_eq la.symm) | exact aR (j:=c) rfl (hS.op rfl) (hS.op rfl) (hS.ch _ _ rfl) rfl ab rfl hcl' (Nat.le_of_eq li.symm) | exact jM ab rfl (hS.op rfl) (hS.op rfl)))) | (apply cO rfl rfl rfl;(focus (intro S1 hS;exact aR (j:=c) rfl (hS.op rfl) (hS.op rfl) (hS.ch _ _ rfl) rfl ab rfl hcl' (Nat.le_of_eq lk'.symm)))));apply bT rfl;(intro S1 hS;exact bf rfl ab (hS.op rfl) (hS.ch _ _ rfl) rfl aQ);apply bT rfl;(intro S1 hS;exact aj rfl (hS.op rfl));apply bT rfl;(intro S1 hS;exact aj rfl (hS.op rfl));(first | (apply bT rfl;(focus (intro S1 hS;first | exact aR (j:=c) rfl (hS.op rfl) (hS.op rfl) (hS.ch _ _ rfl) rfl ab rfl hcl' (Nat.le_of_eq la.symm) | exact aR (j:=c) rfl (hS.op rfl) (hS.op rfl) (hS.ch _ _ rfl) rfl ab rfl hcl' (Nat.le_of_eq li.symm) | exact jM ab rfl (hS.op rfl) (hS.op rfl)))) | (apply cO rfl rfl rfl;(focus (intro S1 hS;exact aR (j:=c) rfl (hS.op rfl) (hS.op rfl) (hS.ch _ _ rfl) rfl ab rfl hcl' (Nat.le_of_eq lk'.symm)))));apply bT rfl;(intro S1 hS;exact bf rfl ab (hS.op rfl) (hS.ch _ _ rfl) rfl aQ);apply bT rfl;(intro S1 hS;exact aj rfl (hS.op rfl));apply cO rfl rfl rfl;(intro S1 hS;exact aj rfl (hS.op rfl));apply cO rfl rfl rfl;(intro S1 hS;exact aj rfl (hS.op rfl));(first | (apply bT rfl;(focus (intro S1 hS;first | exact aR (j:=c) rfl (hS.op rfl) (hS.op rfl) (hS.ch _ _ rfl) rfl ab rfl hcl' (Nat.le_of_eq la.symm) | exact aR (j:=c) rfl (hS.op rfl) (hS.op rfl) (hS.ch _ _ rfl) rfl ab rfl hcl' (Nat.le_of_eq li.symm) | exact jM ab rfl (hS.op rfl) (hS.op rfl)))) | (apply cO rfl rfl rfl;(focus (intro S1 hS;exact aR (j:=c) rfl (hS.op rfl) (hS.op rfl) (hS.ch _ _ rfl) rfl ab rfl hcl' (Nat.le_of_eq lk'.symm)))));apply cO rfl rfl rfl;(intro S1 hS;exact bf rfl ab (hS.op rfl) (hS.ch _ _ rfl) rfl aQ);apply bT rfl;(intro S1 hS;exact bp rfl (hS.op rfl) (hS.op rfl));(first | (apply bT rfl;(focus (intro S1 hS;first | exact aR (j:=c) rfl (hS.op rfl) (hS.op rfl) (hS.ch _ _ rfl) rfl ab rfl hcl' (Nat.le_of_eq la.symm) | exact aR (j:=c) rfl (hS.op rfl) (hS.op rfl) (hS.ch _ _ rfl) rfl ab rfl hcl' (Nat.le_of_eq li.symm) | exact jM ab rfl (hS.op rfl) (hS.op rfl)))) | (apply cO rfl rfl rfl;(focus (intro S1 hS;exact aR (j:=c) rfl (hS.op rfl) (hS.op rfl) (hS.ch _ _ rfl) rfl ab rfl hcl' (Nat.le_of_eq lk'.symm)))));exact gK.nil)
     ·rfl
     ((refine bh ab ?_;skip))
     (refine an ?_)
     refine ax rfl (fun e3=> ?_) (fun e3=> ?_)
     ·have hy:fQ T ng N i k c=true:=by rw [hfa,Bool.true_and];exact e3
      rw [uj hik hkl' (qJ hcl' hy) hno hno2]
      (refine ak (ah (aa rfl (aj rfl rfl) (aa rfl (aj rfl rfl) (aa rfl (ai rfl rfl) (aa rfl (ai rfl rfl) (aa rfl (ai rfl rfl) (ar (an (aS (bt (aO ?_)))))))))));refine aO (bt (bt (aO (aO (bt (bt (aO (aO (bt (aO ?_)))))))))))
      exact kW (.inl rfl) rfl (.tmp rfl) (.tmp rfl) (.tmp rfl) trivial trivial
     ·(refine aE (aM (an (ah ?_)));apply aa rfl;exact aP rfl rfl rfl bA;refine aa rfl (aj rfl rfl) (ar ?_))
      exact aW (c + 1) ⟨hcl',skip (by rw [hfa,Bool.true_and];exact e3)⟩ ae (Wk.of ⟨rfl,rfl,rfl,rfl,rfl,rfl,rfl,rfl,rfl,rfl,rfl,ag⟩ ⟨rfl,rfl,rfl,rfl,ag⟩ trivial)
    | false=>
     rw [e1] at bi hfa
     apply jB 15 [] [[], [], [0,1], [0,1,2], [], [], [4,5], [4,5,6], [4,5,6,7], [4,5,6,7,8], [4,5,6,7,8], [4,5,6,7,8,9,10], [4,5,6,7,8,9,10,11], [4,5,6,7,8,9,10,11,12], [0,1,2,3,4,5,6,7,8,9,10,11,12,13]] [52,53,54,55,56,57,58,59,60,61,62,63,64,65,66] [] (by kernel_rfl) (by kernel_rfl)
     ·(apply bT rfl;(intro S1 hS;exact aj rfl (hS.op rfl));apply bT rfl;(intro S1 hS;exact aj rfl (hS.op rfl));(first | (apply bT rfl;(focus (intro S1 hS;first | exact aR (j:=c) rfl (hS.op rfl) (hS.op rfl) (hS.ch _ _ rfl) rfl ab rfl hcl' (Nat.le_of_eq la.symm) | exact aR (j:=c) rfl (hS.op rfl) (hS.op rfl) (hS.ch _ _ rfl) rfl ab rfl hcl' (Nat.le_of_eq li.symm) | exact jM ab rfl (hS.op rfl) (hS.op rfl)))));apply bT rfl;(intro S1 hS;exact bf rfl ab (hS.op rfl) (hS.ch _ _ rfl) rfl aQ);apply bT rfl;(intro S1 hS;exact aj rfl (hS.op rfl));apply bT rfl;(intro S1 hS;exact aj rfl (hS.op rfl));(first | (apply bT rfl;(focus (intro S1 hS;first | exact aR (j:=c) rfl (hS.op rfl) (hS.op rfl) (hS.ch _ _ rfl) rfl ab rfl hcl' (Nat.le_of_eq la.symm) | exact aR (j:=c) rfl (hS.op rfl) (hS.op rfl) (hS.ch _ _ rfl) rfl ab rfl hcl' (Nat.le_of_eq li.symm) | exact jM ab rfl (hS.op rfl) (hS.op rfl)))));apply bT rfl;(intro S1 hS;exact bf rfl ab (hS.op rfl) (hS.ch _ _ rfl) rfl aQ);apply bT rfl;(intro S1 hS;exact aj rfl (hS.op rfl));apply eX rfl rfl rfl rfl rfl;apply eX rfl rfl rfl rfl rfl;apply eX rfl rfl rfl rfl rfl;apply eX rfl rfl rfl rfl rfl;apply bT rfl;(intro S1 hS;exact bD rfl (hS.op rfl) (hS.op rfl));(first | (apply bT rfl;(focus (intro S1 hS;first | exact aR (j:=c) rfl (hS.op rfl) (hS.op rfl) (hS.ch _ _ rfl) rfl ab rfl hcl' (Nat.le_of_eq la.symm) | exact aR (j:=c) rfl (hS.op rfl) (hS.op rfl) (hS.ch _ _ rfl) rfl ab rfl hcl' (Nat.le_of_eq li.symm) | exact jM ab rfl (hS.op rfl) (hS.op rfl)))));exact gK.nil)
     ·rfl
     ((refine bh ab ?_;skip))
     (refine an ?_)
     refine ax rfl (fun e3=> ?_) (fun e3=> ?_)
     ·have hy:fQ T ng N i k c=true:=by rw [hfa,Bool.false_and];exact e3
      rw [uj hik hkl' (qJ hcl' hy) hno hno2]
      (refine ak (ah (aa rfl (aj rfl rfl) (aa rfl (aj rfl rfl) (aa rfl (ai rfl rfl) (aa rfl (ai rfl rfl) (aa rfl (ai rfl rfl) (ar (an (aS (bt (aO ?_)))))))))));refine aO (bt (bt (aO (aO (bt (bt (aO (aO (bt (aO ?_)))))))))))
      exact kW (.inl rfl) rfl (.tmp rfl) (.tmp rfl) (.tmp rfl) trivial trivial
     ·(refine aE (aM (an (ah ?_)));apply aa rfl;exact aP rfl rfl rfl bA;refine aa rfl (aj rfl rfl) (ar ?_))
      exact aW (c + 1) ⟨hcl',skip (by rw [hfa,Bool.false_and];exact e3)⟩ ae (Wk.of ⟨rfl,rfl,rfl,rfl,rfl,rfl,rfl,rfl,rfl,rfl,rfl,ag⟩ ⟨rfl,rfl,rfl,rfl,ag⟩ trivial)
   ·obtain rfl:c=N:=by omega
    (refine a7 (aA (aA (aT (aM (an (ah (aa rfl (aj rfl rfl) ?_)))))));apply aa rfl;exact aP rfl rfl rfl bA;refine aa rfl (ai rfl rfl) (ar ?_))
    exact aW (k + 1) ⟨ae,hkl',fun k' h h'=>by
     by_cases e:k'=k
     ·subst e;exact sx hnc
     ·exact hno k' h ae⟩ ae (Wk.of ⟨rfl,rfl,rfl,rfl,rfl,rfl,ag⟩ ⟨rfl,ag⟩ trivial)
  ·obtain rfl:k=2 ^ ng:=by omega
   (refine a7 (aA (aA (aT (aM (an (ah ?_))))));apply aa rfl;exact aP rfl rfl rfl bA;refine aa rfl (aj rfl rfl) (ar ?_))
   exact aW (i + 1) ⟨hil',fun i' h=>by
    by_cases e:i'=i
    ·subst e;exact hno
    ·exact hno2 i' ae⟩ ae (Wk.of ⟨rfl,rfl,rfl,rfl,ag⟩ ⟨rfl,ag⟩ trivial)
 ·obtain rfl:i=2 ^ ng:=by omega
  rw [uS hno2]
  (refine a7 (aA (aA (aT (an (ak (ah (aa rfl (ai rfl rfl) (aa rfl (ai rfl rfl) (aa rfl (ai rfl rfl) (ar (an ?_)))))))))));refine aS ?_)
  exact kW (.inl rfl) rfl (.tmp rfl) (.tmp rfl) (.tmp rfl) trivial trivial
end Go.Proofs.YtekbhbcgoadciaaGreat
namespace Go.Proofs.YtekbhbcgoadciaaGreat
open Go.RowKit
theorem BL (g:Int) (rels:List (List Int)) (h1:Fit rels) (hk:¬m7 (g,rels) []):
  FC Tryz.prog 34 [(1003,a6 rels)] [pA g rels.length] [] (H3 (0,0,tl (g,rels) [])) []:=by
 have hE:=(mW h1 (by simp) hk).Cn
 have hc:=nI hk
 refine bj (nt:=71) Tryz.func34 rfl rfl (by simp) fun w0 ω0=> ?_
 (refine ak (ah (aa rfl (cF rfl rfl rfl rfl) (aa rfl (ai rfl rfl) (aa rfl (ai rfl rfl) (aa rfl (ai rfl rfl) (ar (an (ak (ah (aa rfl (aU rfl rfl rfl rfl rfl rfl ab) ?_))))))))));apply aa rfl;(apply au 78;exact aw hE ab rfl rfl ⟨⟨.inl rfl, .inl rfl,ag⟩,rfl,ag⟩ ⟨⟨_,rfl, .inl rfl⟩,ag⟩ rfl rfl);refine aa rfl (aj rfl rfl) (aa rfl (aN rfl rfl rfl) (aa rfl (aN rfl rfl rfl) (aa rfl (ai rfl rfl) (aa rfl (ai rfl rfl) (ar (an (ak (ak (ah (aa rfl (aj rfl rfl) (aa rfl (aG rfl rfl rfl rfl) ?_)))))))))));refine ar (an ?_))
 refine ax rfl (fun _=> ?_) (fun e=> ?_)
 ·(refine ak (ah (aa rfl (aj rfl rfl) (aa rfl (ai rfl rfl) (aa rfl (ai rfl rfl) (aa rfl (ai rfl rfl) (ar (an (aS (aO ?_))))))))))
  exact kW (.inl rfl) rfl (.tmp rfl) (.tmp rfl) (.tmp rfl) trivial trivial
 ·exfalso;simp at e;exact hc e
def GI (d:du):Int×Int×Int:=if tl d []=0 then xL (cU d []) d.1.toNat (fe d []) else (0,0,tl d [])
theorem Bw (g:Int) (rels:List (List Int)) (h1:Fit rels):FC Tryz.prog 34 [(1003,a6 rels)] [pA g rels.length] [] (H3 (GI (g,rels))) []:=by
 by_cases hk:m7 (g,rels) []
 ·obtain ⟨ng,rfl,hG⟩:=mi hk.1
  have e:GI ((ng:Int),rels)=xL (cU ((ng:Int),rels) []) ng (fe ((ng:Int),rels) []):=if_pos (vk hk)
  rw [e];exact zp ng rels h1 hG hk
 ·have e:GI (g,rels)=(0,0,tl (g,rels) []):=if_neg (nI hk)
  rw [e];exact BL g rels h1 hk
theorem zW {P:Program} {f:FuncId} {args:Array Value} {w:World} {a b c:Value} {outs:List (Nm×Ch)} (h:Calls P f args w fun e w'=>∃v η ω,e= .returned v∧Den η (.tup [.one (.val a), .one (.val b), .one (.val c)]) v∧Mem η ω w' (fun x=>lk x outs)∧Below w.heap.size w w'∧∀b,b < w.heap.size→ω b=none):
  Calls P f args w fun e w'=>e= .returned (.tuple #[a,b,c])∧Below w.heap.size w w':=by
 refine h.mono ?_
 rintro e w' ⟨v,η,ω,rfl,⟨us,rfl,hl,ha⟩,_,hb,_⟩
 obtain ⟨u0,g0,d0⟩:=ha 0 _ rfl
 obtain ⟨u1,g1,d1⟩:=ha 1 _ rfl
 obtain ⟨u2,g2,d2⟩:=ha 2 _ rfl
 have d0:u0=a:=d0
 have d1:u1=b:=d1
 have d2:u2=c:=d2
 subst d0 d1 d2
 refine ⟨?_,hb⟩
 match us,hl with
 | ⟨[p,q,r]⟩,_=>simp at g0 g1 g2;rw [g0,g1,g2]
theorem zP {E1 E:Nat} {lo hi:Nat} {v:Value} {d:du} (w:World) (h:tE E1 E w lo hi v d):
  Calls Tryz.prog 34 #[v] w fun e w'=>e= .returned (.tuple #[.int .i64 (GI d).1, .int .i64 (GI d).2.1, .int .i64 (GI d).2.2])∧Below w.heap.size w w':=zW (s7 (fun k1=>Bw d.1 d.2 k1) h)
end Go.Proofs.YtekbhbcgoadciaaGreat
namespace Go.Proofs.YtekbhbcgoadciaaGreat
open Go.RowKit
section
variable {P:Program} {nt:Nat} {S:St} {t:Nat} {ty:TypeId} {ps:String} {af:Array Edge} {gd:Option (Nat×Bool)}
theorem j5 {T:TypeId} {x0:Operand} {b0:A1} {n0:Nat} (ht:Nat.blt t nt=true) (hx0:S.op x0=some (o1 b0)) (hl0:b0.len=some n0)
  (hb:∀ao n c,P.built T [(0, .slice ao n c)]=some #[.slice ao n c]):
  cu P nt ⟨some t, .build T #[(0,x0)],ty,ps,af,gd⟩ S (S.put t (.s (.agg [b0]))):=
 cu.of _ fun w0 ω0 η ω a w hs=>by
  have d0:c6 η b0 (a.eval x0):=hs.iE hx0
  obtain ⟨ao,c,e0⟩:=d0.len_ hl0
  refine ⟨.agg #[a.eval x0],w, ?_,η,ω,hs.fU (by simpa using ht) (⟨_,rfl,by simp,fun j b hb=> ?_⟩:gj η (.agg [b0]) _)⟩
  ·simp only [execOp]
   have:=run_build w T #[(0, .slice ao n0 c)] _ (hb ao n0 c)
   simp [e0,this]
  ·match j,hb with
   | 0,hb=>simp at hb;subst hb;exact ⟨_,by simp,d0⟩
   | j + 1,hb=>simp at hb
end
end Go.Proofs.YtekbhbcgoadciaaGreat
namespace Go.Proofs.YtekbhbcgoadciaaGreat
open Go.RowKit
def J8 (d:du) (ws:List (List Int)):List (List Int):=(uz (cU d ws) d.1.toNat (fe d ws)).1
theorem vK (ng:Nat) (rels ws:List (List Int)):J8 ((ng:Int),rels) ws=(uz (cU ((ng:Int),rels) ws) ng (fe ((ng:Int),rels) ws)).1:=by unfold J8;rw [Int.toNat_natCast]
theorem D1 {T:List (List Int)} {ng n:Nat} (hT:dP T n) (hng:T.length=ng) (hn:0 < n):u7 n (uz T ng n):=(rQ hT hng _ _ _ (mI hn)).1
end Go.Proofs.YtekbhbcgoadciaaGreat
namespace Go.Proofs.YtekbhbcgoadciaaGreat
open Go.RowKit
abbrev Di (ng:Nat):Ch:=⟨false,94,1, .flat [.sl 1005 0 ng]⟩
def jW (L:List Nat):List Int:=L.map fun l:Nat=>(l:Int)
theorem uP (L:List Nat):(jW L).length=L.length:=by simp [jW]
theorem qf {L:List Nat} {i:Nat} (h:i < L.length):aC (jW L) i=((L[i]:Nat):Int):=by simp [jW,aC,h]
theorem py {L:List Nat} {i:Nat} (h:i < L.length):L.take (i + 1)=L.take i ++ [L[i]]:=by rw [List.take_add_one,List.getElem?_eq_getElem h];rfl
theorem Du (T:List (List Int)) (ng n:Nat) (hng:T.length=ng) (hpos:0 < ng) (hT:dP T n):
  FC Tryz.prog 130 [(1010,Di ng),(1005,jg T)] [o1 (.ptr 1010 0)] [] (vv (I6 n)) []:=by
 have hlen:(bV T).length=ng:=by rw [cZ,hng]
 have hr0:(bn T 0).length=n:=hT.len 0 ae
 have hrow:(bV T)[0]? =some (aL (bn T 0)):=cf ae
 have hSz:=gn 1005 0 n
 rw [←hr0] at hSz ⊢
 refine bj (nt:=10) Tryz.func130 rfl rfl (by simp) fun w0 ω0=> ?_
 (refine ak (ah (aa rfl (ai rfl rfl) (ar (an (ak (ah (aa rfl (aj rfl rfl) (aa rfl (bC rfl rfl rfl) ?_))))))));apply aa rfl;(exact aI (d:=0) rfl rfl rfl ab);apply aa rfl;exact aZ rfl ab rfl rfl rfl rfl;apply aa rfl;(first | exact aR (j:=0) rfl rfl rfl rfl rfl ab rfl hpos (Nat.le_of_eq hlen.symm) | (apply au 62;exact aw hSz ab rfl rfl ⟨rfl,ag⟩ trivial rfl rfl));apply aa rfl;exact bF rfl ab rfl rfl rfl aQ c8;apply aa rfl;(first | exact aR (j:=0) rfl rfl rfl rfl rfl ab rfl hpos (Nat.le_of_eq hlen.symm) | (apply au 62;exact aw hSz ab rfl rfl ⟨rfl,ag⟩ trivial rfl rfl));refine aa rfl (ai rfl rfl) (ar (an (aS ?_))))
 exact bu (.inl rfl) rfl (.tmp rfl) trivial trivial
theorem IS (L:List Nat) (n:Nat) (hn:L.length=n) (hpos:0 < n) (hn4:n≤1000000):
  FC Tryz.prog 80 [(1005,oW (jW L))] [o1 (.sl 1005 0 n)] [] (vv (I6 ((fV L - 1:Nat):Int))) []:=by
 have hl:(jW L).length=n:=by rw [uP];exact hn
 refine bj (nt:=25) Tryz.func80 rfl rfl (by simp) fun w0 ω0=> ?_
 (refine ak (ah (aa rfl (ai rfl rfl) (ar (an (ak (ak (ah (aa rfl (aj rfl rfl) (aa rfl (bw rfl rfl rfl ab) ?_)))))))));refine aa rfl (aG rfl rfl rfl rfl) (ar (an ?_)))
 refine bK rfl (fun h=> ?_) (fun h=> ?_)
 ·omega
 have hg0:(aL (jW L))[0]? =some (I6 ((fV (L.take 1) - 1:Nat):Int)):=by
  rw [bl ae,qf ae,py ae];simp [fV]
 (refine aE (an (ak (ah (aa rfl (aj rfl rfl) ?_))));apply aa rfl;exact aR rfl rfl rfl rfl rfl ab a9 aJ a8;apply aa rfl;exact bf rfl ab rfl rfl rfl aQ;refine aa rfl (ai rfl rfl) (ar (an (ak (ak (ah (aa rfl (ai rfl rfl) (ar (an (aB ?_))))))))))
 refine bz (fun i:Nat=>St.of [(0,o1 (.sl 1005 0 n)),(3,vv (I6 ((fV (L.take i) - 1:Nat):Int))),(4,vv (I6 i))] [(1005,oW (jW L))]) (fun i=>1≤i∧i≤n) (fun i=>n - i) 1 ⟨Nat.le_refl _,hpos⟩ (Wk.of ⟨rfl,rfl,rfl,ag⟩ ⟨rfl,ag⟩ trivial) ?_
 rintro i ⟨hi1,hi2⟩
 (refine ak (ak (ah (aa rfl (aj rfl rfl) (aa rfl (aj rfl rfl) (aa rfl (bw rfl rfl rfl ab) ?_)))));refine aa rfl (aG rfl rfl rfl rfl) (ar (an ?_)))
 refine bK rfl (fun hlt=> ?_) (fun hlt=> ?_)
 ·have hlt':i < L.length:=by omega
  have hgi:(aL (jW L))[i]? =some (I6 ((L[i]:Nat):Int)):=by rw [bl ae,qf hlt']
  have h1:1≤fV (L.take i):=by
   have:=oP (L:=L.take i) (x:=L[0]) (by rw [List.mem_iff_getElem];exact ⟨0,by simp;omega,by simp⟩)
   omega
  have hnx:max (fV (L.take i) - 1) L[i]=fV (L.take (i + 1)) - 1:=by rw [py hlt',BF];omega
  (refine aE (an (ak (aB (ah (aa rfl (aj rfl rfl) (aa rfl (aj rfl rfl) (aa rfl (aj rfl rfl) ?_)))))));apply aa rfl;exact aR rfl rfl rfl rfl rfl ab a9 aJ a8;apply aa rfl;exact bf rfl ab rfl rfl rfl aQ;refine aa rfl (pk rfl rfl rfl) (aa rfl (ai rfl rfl) (ar (aM (an (ah (aa rfl (aj rfl rfl) ?_))))));apply aa rfl;exact aP rfl rfl rfl bA;refine aa rfl (ai rfl rfl) (ar ?_))
  exact aW (i + 1) ⟨ae,ae⟩ ae (Wk.of ⟨rfl,by rw [←hnx];rfl,rfl,ag⟩ ⟨rfl,ag⟩ trivial)
 ·obtain rfl:i=n:=by omega
  rw [show L.take i=L by rw [←hn,List.take_length]]
  (refine a7 (aA (aA (aT (an (ak (ah (aa rfl (aj rfl rfl) (aa rfl (ai rfl rfl) (ar (an (aS ?_))))))))))))
  exact bu (.inl rfl) rfl (.tmp rfl) trivial trivial
theorem Hh (T:List (List Int)) (ng n:Nat) (hng:T.length=ng) (hpos:0 < ng) (hT:dP T n) (hn:0 < n) (hn4:n≤400) (hg5:ng≤5):
  FC Tryz.prog 79 [(1010,Di ng),(1005,jg T)] [o1 (.ptr 1010 0),vv (I6 0)] [(14,bG (g8 (uz T ng n)))] (o1 (.sl 14 0 n)) []:=by
 have hlen:(bV T).length=ng:=by rw [cZ,hng]
 have hFg:=Du T ng n hng hpos hT
 have hR:FC Tryz.prog 118 [(11,⟨false,2,1, .bR (aL [-1])⟩)] [o1 (.sl 11 0 1),vv (I6 n)] [(14,⟨true,2,1, .bR (aL (List.replicate n (-1)))⟩)] (o1 (.sl 14 0 n)) []:=iz 11 14 n (-1) ae hn
 have hrp:(List.replicate n (-1:Int)).length=n:=by simp
 refine bj (nt:=60) Tryz.func79 rfl rfl (by simp) fun w0 ω0=> ?_
 (refine ak (ah (aa rfl (ai rfl rfl) (ar (an (ak (ah ?_))))));apply aa rfl;(exact bW (E:=2) rfl ab rfl);apply aa rfl;exact aj rfl rfl;apply aa rfl;(first | (apply au 130;exact aw hFg ab rfl rfl ⟨rfl,ag⟩ ⟨⟨_,rfl, .inl rfl⟩,⟨_,rfl, .inl rfl⟩,ag⟩ rfl rfl) | (apply au 118;exact bg hR ab rfl rfl ⟨rfl,rfl,ag⟩ ⟨⟨_,rfl, .inr rfl⟩,ag⟩ rfl rfl rfl) | exact aR (j:=0) rfl rfl rfl rfl rfl ab rfl hn (by rw [bc,hrp];exact Nat.le_refl _) | exact dW rfl rfl rfl rfl rfl (by rw [hrp];exact hn) ab);apply aa rfl;(first | (apply au 130;exact aw hFg ab rfl rfl ⟨rfl,ag⟩ ⟨⟨_,rfl, .inl rfl⟩,⟨_,rfl, .inl rfl⟩,ag⟩ rfl rfl) | (apply au 118;exact bg hR ab rfl rfl ⟨rfl,rfl,ag⟩ ⟨⟨_,rfl, .inr rfl⟩,ag⟩ rfl rfl rfl) | exact aR (j:=0) rfl rfl rfl rfl rfl ab rfl hn (by rw [bc,hrp];exact Nat.le_refl _) | exact dW rfl rfl rfl rfl rfl (by rw [hrp];exact hn) ab);refine aa rfl (ai rfl rfl) (ar (an (ak (ah (aa rfl (aj rfl rfl) (aa rfl (aj rfl rfl) ?_))))));apply aa rfl;exact aR rfl rfl rfl rfl rfl ab a9 aJ a8;apply aa rfl;(first | (apply au 130;exact aw hFg ab rfl rfl ⟨rfl,ag⟩ ⟨⟨_,rfl, .inl rfl⟩,⟨_,rfl, .inl rfl⟩,ag⟩ rfl rfl) | (apply au 118;exact bg hR ab rfl rfl ⟨rfl,rfl,ag⟩ ⟨⟨_,rfl, .inr rfl⟩,ag⟩ rfl rfl rfl) | exact aR (j:=0) rfl rfl rfl rfl rfl ab rfl hn (by rw [bc,hrp];exact Nat.le_refl _) | exact dW rfl rfl rfl rfl rfl (by rw [hrp];exact hn) ab);refine ar (an (ak (ak (ah (aa rfl (aj rfl rfl) ?_)))));apply aa rfl;(exact bW (E:=2) rfl ab rfl);refine aa rfl (ai rfl rfl) (ar (an (aB ?_))))
 refine bz (fun q:Nat×k8×List Int×Nat=>St.of [(0,o1 (.ptr 1010 0)),(5,o1 (.sl 14 0 n)),(6,o1 (.sl 19 q.2.2.2 (q.2.1.2.2.length - q.1)))] [(1010,Di ng),(1005,jg T),(14,bG (g8 q.2.1)),(19,bG (q.2.2.1 ++ q.2.1.2.2.drop q.1))])
  (fun q=>q.1≤q.2.1.2.2.length∧u7 n q.2.1∧ie T ng (n + 1 - q.1) q.1 q.2.1=uz T ng n∧q.2.2.1.length=q.2.2.2) (fun q=>n + 1 - q.1) (0,gy n, [],0) ⟨Nat.zero_le _,mI hn,rfl,rfl⟩ (Wk.of ⟨rfl,rfl,rfl,ag⟩ ⟨rfl,rfl,by rw [Az];rfl,rfl,ag⟩ trivial) ?_
 clear hrp
 rintro ⟨i,⟨W,B,O⟩,pre,o⟩ ⟨hi,hok,hl,hpre⟩
 dsimp only at hi hl hpre ⊢
 have hOn:O.length≤n:=hok.le
 (refine ak (ak (ah (aa rfl (aj rfl rfl) (aa rfl (bw rfl rfl rfl ab) ?_))));refine aa rfl (aG rfl rfl rfl rfl) (ar (an ?_)))
 refine ax rfl (fun h=> ?_) (fun h=> ?_)
 ·have hlt:i < O.length:=by
   have:=of_decide_eq_true h;omega
  have hl':ie T ng (n - i) (i + 1) (FF T ng (aC O i).toNat (W,B,O))=uz T ng n:=by
   rw [←hl,show n + 1 - i=(n - i) + 1 by omega];exact (sq (T:=T) (ng:=ng) (s:=(W,B,O)) hlt).symm
  obtain ⟨c,hc1,hc2,hc3⟩:=hok.q i hlt
  dsimp only at hc1 hc3
  rw [hc1,Int.toNat_natCast] at hl'
  have g1:=Ja hpre hlt hc1
  have gl:(o + (O.length - i)) * 1≤(aL (pre ++ O.drop i)).length:=Nat.le_of_eq (E5 hpre hi)
  have hoi:0 < O.length - i:=by omega
  obtain ⟨s0,hs0⟩:∃s0:k8,s0=(W,B,O):=⟨_,rfl⟩
  have hro:∀m,m≤ng→u7 n ((List.range m).foldl (jL T c) s0)∧j8 n s0 ((List.range m).foldl (jL T c) s0):=fun m hm=>n4 hT hng hc2 (by rw [hs0];exact hok) m hm
  have hO0:s0.2.2.length=O.length:=by rw [hs0]
  have hc0:aC s0.2.2 i=(c:Int):=by rw [hs0];exact hc1
  have hcm:dU s0.2.1 c=true:=by rw [hs0];exact hc3
  have hfin:ie T ng (n - i) (i + 1) ((List.range ng).foldl (jL T c) s0)=uz T ng n:=by rw [hs0];exact hl'
  (refine aE (an (ak (aB (ak (ah (aa rfl (aj rfl rfl) ?_))))));apply aa rfl;(exact dh (k:=1) (j:=0) rfl rfl rfl rfl rfl ab rfl hoi gl ae);apply aa rfl;exact bf rfl ab rfl rfl rfl aQ;refine aa rfl (ai rfl rfl) (ar (an (ak (ah (aa rfl (aj rfl rfl) (aa rfl (bC rfl rfl rfl) ?_))))));apply aa rfl;(exact aI (d:=0) rfl rfl rfl ab);apply aa rfl;exact aZ rfl ab rfl rfl rfl rfl;apply aa rfl;exact bw rfl rfl rfl ab;refine aa rfl (aj rfl rfl) (ar (an (aB ?_))))
  refine bz (fun q:Nat×k8×List Int×Nat=>St.of [(0,o1 (.ptr 1010 0)),(5,o1 (.sl 14 0 n)),(6,o1 (.sl 19 q.2.2.2 (q.2.1.2.2.length - i))),(7,vv (I6 c)),(31,o1 (.sl 1005 0 ng)),(32,vv (I6 ng)),(33,vv (I6 q.1))] [(1010,Di ng),(1005,jg T),(14,bG (g8 q.2.1)),(19,bG (q.2.2.1 ++ q.2.1.2.2.drop i))])
   (fun q=>q.1≤ng∧(List.range q.1).foldl (jL T c) s0=q.2.1∧q.2.2.1.length=q.2.2.2) (fun q=>ng - q.1) (0,(W,B,O),pre,o) ⟨Nat.zero_le _,hs0,hpre⟩ (Wk.of ⟨rfl,rfl,rfl,rfl,rfl,rfl,rfl,ag⟩ ⟨rfl,rfl,rfl,rfl,ag⟩ trivial) ?_
  clear hl hl' hok hs0 hc1 g1 gl hpre hc3
  generalize O.length=on at *
  rintro ⟨g,⟨W,B,O⟩,pre,o⟩ ⟨hg,hfo,hpre⟩
  dsimp only at hg hfo hpre ⊢
  obtain ⟨hok,grw⟩:=hro g hg
  rw [hfo] at hok grw
  have hOl:O.length≤n:=hok.le
  have hiO:i < O.length:=Nat.lt_of_lt_of_le ae grw.len
  have hWl:W.length=n:=hok.l1
  have hFl:(g8 (W,B,O)).length=n:=by rw [wK];exact hWl
  have hci:aC O i=(c:Int):=(grw.pre i ae).trans hc0
  have hcm':dU B c=true:=(grw.met c hc2 hcm).1
  (refine ak (ah (aa rfl (aG rfl rfl rfl rfl) (ar (an (ak ?_))))))
  refine bK rfl (fun h2=> ?_) (fun h2=> ?_)
  ·have hgn:g < ng:=by omega
   have hd:=nO hT hc2 (g:=g) ae
   have hrl:(bn T g).length=n:=hT.len g ae
   have hrow:(bV T)[g]? =some (aL (bn T g)):=cf ae
   obtain ⟨d,hdd⟩:∃d,kC T c g=d:=⟨_,rfl⟩
   have hst:(List.range (g + 1)).foldl (jL T c) s0=gA (W,B,O) c g d:=by
    rw [List.range_succ,List.foldl_append,hfo,←hdd];rfl
   rw [hdd] at hd
   have hgetd:(aL (bn T g))[c]? =some (I6 (d:Int)):=by rw [bl ae,hd.2]
   have hWc:(bn W c).length < O.length:=hok.len c
   have hFd:(aL (g8 (W,B,O)))[d]? =some (I6 (aC (g8 (W,B,O)) d)):=bl ae
   have hFdv:aC (g8 (W,B,O)) d=if dU B d=true then ((bn W d).length:Int) else -1:=jQ (by show d < W.length;omega)
   have hFcv:aC (g8 (W,B,O)) c=((bn W c).length:Int):=by
    have:aC (g8 (W,B,O)) c=if dU B c=true then ((bn W c).length:Int) else -1:=jQ (by show c < W.length;omega)
    rw [this,if_pos hcm']
   have hdl:d * 1≤1000000:=by omega
   (refine aE (an (ak (aB (ak (ah ?_)))));apply aa rfl;exact aR rfl rfl rfl rfl rfl ab a9 aJ a8;apply aa rfl;exact bF rfl ab rfl rfl rfl aQ c8;refine aa rfl (ai rfl rfl) (ar (an (ak (ah (aa rfl (aj rfl rfl) (aa rfl (aj rfl rfl) ?_))))));apply aa rfl;exact bd rfl rfl rfl rfl rfl ab aQ a9 aJ a8;apply aa rfl;exact a5 rfl ab rfl rfl rfl aQ aQ;refine aa rfl (ai rfl rfl) (ar (an (ak (ah (aa rfl (aj rfl rfl) (aa rfl (aj rfl rfl) ?_))))));apply aa rfl;exact aR rfl rfl rfl rfl rfl ab a9 aJ a8;apply aa rfl;exact bf rfl ab rfl rfl rfl aQ;refine aa rfl (aG rfl rfl rfl rfl) (ar (an ?_)))
   refine ax rfl (fun hb=> ?_) (fun hb=> ?_)
   ·have hb:dU B d=false:=by
     cases hbb:dU B d with
     | false=>rfl
     | true=>
      have:=of_decide_eq_true hb
      rw [hFdv,if_pos hbb] at this
      omega
    have hv:gA (W,B,O) c g d=(W.set d (bn W c ++ [(g:Int)]),B.set d true,O ++ [(d:Int)]):=if_neg (by rw [hb];simp)
    have hFv:=zE (g:=g) hok hc2 hb hcm'
    rw [hv] at hFv
    have hln:(o + (O.length - i)) * 1=(aL (pre ++ O.drop i)).length:=E5 hpre ae
    have hFc:(aL (g8 (W,B,O)))[c]? =some (I6 (aC (g8 (W,B,O)) c)):=bl ae
    (refine ak (ah (aa rfl (aj rfl rfl) (aa rfl (aj rfl rfl) (aa rfl (aj rfl rfl) (aa rfl (aj rfl rfl) ?_)))));apply aa rfl;exact aR rfl rfl rfl rfl rfl ab a9 aJ a8;apply aa rfl;exact bf rfl ab rfl rfl rfl aQ;apply aa rfl;exact aP rfl rfl rfl bA;apply aa rfl;exact aR rfl rfl rfl rfl rfl ab a9 aJ a8;apply aa rfl;exact dW rfl rfl rfl rfl rfl aJ ab;refine ar (an (ah (aa rfl (aj rfl rfl) (aa rfl (aj rfl rfl) ?_))));apply aa rfl;(exact bW (E:=2) rfl ab rfl))
    refine Ae rfl (lx (k:=1) (m:=1) (E:=2) rfl ab rfl rfl rfl hln rfl (eR (k:=1) rfl rfl rfl rfl (Nat.le_refl _)) ae (by intro v hv;simp [aL] at hv;subst hv;rfl) ae) ?_ ?_
    ·(refine aa rfl (ai rfl rfl) (ar (aM (an (ah ?_))));apply aa rfl;exact aP rfl rfl rfl bA;refine aa rfl (aj rfl rfl) (ar ?_))
     exact aW (g + 1,(W.set d (bn W c ++ [(g:Int)]),B.set d true,O ++ [(d:Int)]), [],0) ⟨hgn,hst.trans hv,rfl⟩ (by show ng - (g + 1) < ng - g;omega) (Wk.of ⟨rfl,rfl,congrArg (fun x=>some (o1 (.sl 19 0 x))) (by simp;omega),rfl,rfl,rfl,rfl,ag⟩ ⟨rfl,rfl,congrArg (fun l=>some (⟨true,2,1, .bR (aL l)⟩:Ch)) hFv.symm,congrArg (fun l=>some (⟨true,2,1, .bR l⟩:Ch)) (GO hpre ae (d:Int)),ag⟩ trivial)
    ·(refine aa rfl (ai rfl rfl) (ar (aM (an (ah ?_))));apply aa rfl;exact aP rfl rfl rfl bA;refine aa rfl (aj rfl rfl) (ar ?_))
     exact aW (g + 1,(W.set d (bn W c ++ [(g:Int)]),B.set d true,O ++ [(d:Int)]),pre,o) ⟨hgn,hst.trans hv,hpre⟩ (by show ng - (g + 1) < ng - g;omega) (Wk.of ⟨rfl,rfl,congrArg (fun x=>some (o1 (.sl 19 o x))) (by simp;omega),rfl,rfl,rfl,rfl,ag⟩ ⟨rfl,rfl,congrArg (fun l=>some (⟨true,2,1, .bR (aL l)⟩:Ch)) hFv.symm,congrArg (fun l=>some (⟨true,2,1, .bR l⟩:Ch)) (GR ae (d:Int)),ag⟩ trivial)
   ·have hb:dU B d=true:=by
     cases hbb:dU B d with
     | true=>rfl
     | false=>
      exfalso
      have:=of_decide_eq_false hb
      rw [hFdv,if_neg (by rw [hbb];simp)] at this
      omega
    have hv:gA (W,B,O) c g d=(W,B,O):=if_pos hb
    (refine aE (aM (an (ah ?_)));apply aa rfl;exact aP rfl rfl rfl bA;refine aa rfl (aj rfl rfl) (ar ?_))
    exact aW (g + 1,(W,B,O),pre,o) ⟨hgn,hst.trans hv,hpre⟩ (by show ng - (g + 1) < ng - g;omega) (Wk.of ⟨rfl,rfl,rfl,rfl,rfl,rfl,rfl,ag⟩ ⟨rfl,rfl,rfl,rfl,ag⟩ trivial)
  ·obtain rfl:g=ng:=by omega
   have gl:(o + (O.length - i)) * 1≤(aL (pre ++ O.drop i)).length:=Nat.le_of_eq (E5 hpre ae)
   (refine a7 (aA (aA (aT (aM (an (ah (aa rfl (aj rfl rfl) ?_)))))));apply aa rfl;(exact kT (k:=1) (l:=1) rfl rfl rfl rfl ab ae (eN rfl rfl) dN ae (Nat.le_refl _) gl);refine aa rfl (ai rfl rfl) (ar ?_))
   exact aW (i + 1,(W,B,O),pre ++ [(c:Int)],o + 1) ⟨hiO,hok,by rw [←hfin,hfo];show ie _ _ (n + 1 - (i + 1)) _ _=_;rw [show n + 1 - (i + 1)=n - i by omega],by simp;omega⟩ (by show n + 1 - (i + 1) < n + 1 - i;omega) (Wk.of ⟨rfl,rfl,congrArg (fun x=>some (o1 (.sl 19 (o + 1) x))) (show O.length - i - 1=O.length - (i + 1) by omega),ag⟩ ⟨rfl,rfl,rfl,congrArg (fun l=>some (⟨true,2,1, .bR (aL l)⟩:Ch)) (GL hiO hci),ag⟩ trivial)
 ·have hio:i=O.length:=by
   have:=of_decide_eq_false h;omega
  have hOM:uz T ng n=(W,B,O):=by
   rw [←hl,show n + 1 - i=(n - i) + 1 by omega,ie,if_neg (by show ¬i < O.length;omega)]
  rw [hOM]
  (refine a7 (aA (aA (aT (an (ak (ah (aa rfl (aj rfl rfl) (aa rfl (ai rfl rfl) (ar (an (aS ?_))))))))))))
  exact bu (.inl rfl) rfl (.tmp rfl) ⟨rfl,ag⟩ trivial
def wU (d:du):List Nat:=(J8 d []).map List.length
def Jq (d:du):List Int:=if tl d []=0 then iY (wU d) (fV (wU d)) else []
theorem F9 (L:List Nat) {n l:Nat} (h:l < n):0≤aC (iY L n) l∧aC (iY L n) l≤L.length:=by
 rw [mz h]
 have:=List.length_filter_le (fun x=>x == l) L
 omega
theorem xe {ng:Nat} {rels:List (List Int)} (hG:Good ng rels []) (hk:m7 ((ng:Int),rels) []):u7 (fe ((ng:Int),rels) []) (uz (cU ((ng:Int),rels) []) ng (fe ((ng:Int),rels) []))∧g8 (uz (cU ((ng:Int),rels) []) ng (fe ((ng:Int),rels) []))=jW (wU ((ng:Int),rels))∧(wU ((ng:Int),rels)).length=fe ((ng:Int),rels) []∧fV (wU ((ng:Int),rels))≤fe ((ng:Int),rels) []:=by
 have hs:=gF hk.2.2
 have hT:=hZ hG hs.1
 have hp:=mg hG hs.1
 have hB:=D1 hT (dO ng rels []) hp
 have ha:=Gw hT (dO ng rels []) hp (tT hG hs.1)
 refine ⟨hB, ?_, ?_, ?_⟩
 ·rw [DU hB ha]
  unfold wU jW
  rw [vK,List.map_map];rfl
 ·unfold wU
  rw [vK,List.length_map];exact hB.l1
 ·refine wj fun x hx=> ?_
  unfold wU at hx
  rw [vK] at hx
  obtain ⟨w,hw,rfl⟩:=List.mem_map.1 hx
  obtain ⟨j,hj,rfl⟩:=List.getElem_of_mem hw
  have h1:=hB.len j
  have h2:=hB.le
  rw [iB hj] at h1
  omega
theorem AB (ng:Nat) (rels:List (List Int)) (h1:Fit rels) (hG:Good ng rels []) (hk:m7 ((ng:Int),rels) []):
  FC Tryz.prog 31 [(1003,a6 rels)] [pA ng rels.length] [(25,bG (iY (wU ((ng:Int),rels)) (fV (wU ((ng:Int),rels)))))] (.tup [.one (.sl 25 0 (fV (wU ((ng:Int),rels)))), .one (.val (I6 0))]) []:=by
 have hE:=(lj h1 (by simp) hG hk).Cn
 have hs:=gF hk.2.2
 have hng:=hG.hi
 obtain ⟨hB,hFar,hLl,hLt⟩:=xe hG hk
 have hpos:=mg hG hs.1
 have hD:FC Tryz.prog 79 [(20,Di ng),(1005,jg (cU ((ng:Int),rels) []))] [o1 (.ptr 20 0),vv (I6 0)] [(21,bG (g8 (uz (cU ((ng:Int),rels) []) ng (fe ((ng:Int),rels) []))))] (o1 (.sl 21 0 (fe ((ng:Int),rels) []))) []:=
  (Hh _ ng _ (dO ng rels []) hG.pos (hZ hG hs.1) hpos hs.2 hng).nm [(1010,20),(1005,1005),(14,21)] (by kernel_rfl)
 rw [hFar] at hD
 have hM:FC Tryz.prog 80 [(21,oW (jW (wU ((ng:Int),rels))))] [o1 (.sl 21 0 (fe ((ng:Int),rels) []))] [] (vv (I6 ((fV (wU ((ng:Int),rels)) - 1:Nat):Int))) []:=
  (IS _ _ hLl hpos ae).nm [(1005,21)] (by kernel_rfl)
 refine bj (nt:=40) Tryz.func31 rfl rfl (by simp) fun w0 ω0=> ?_
 have hN4:=hs.2
 clear hB hs hFar
 generalize wU ((ng:Int),rels)=L at *
 generalize fe ((ng:Int),rels) []=N at *
 generalize cU ((ng:Int),rels) []=T at *
 have hL1:1≤fV L:=by
  have:=oP (L:=L) (x:=L[0]) (List.getElem_mem _)
  omega
 (refine ak (ah (aa rfl (cF rfl rfl rfl rfl) (aa rfl (ai rfl rfl) (aa rfl (ai rfl rfl) (ar (an (ak (ah (aa rfl (aU rfl rfl rfl rfl rfl rfl ab) ?_)))))))));apply aa rfl;(apply au 78;exact bg hE ab rfl rfl ⟨⟨.inl rfl, .inl rfl,ag⟩,rfl,ag⟩ ⟨⟨_,rfl, .inl rfl⟩,ag⟩ rfl rfl rfl);refine aa rfl (aj rfl rfl) (aa rfl (aN rfl rfl rfl) (aa rfl (aN rfl rfl rfl) (aa rfl (ai rfl rfl) (aa rfl (ai rfl rfl) (ar (an (ak (ak (ah (aa rfl (aj rfl rfl) (aa rfl (aG rfl rfl rfl rfl) ?_)))))))))));refine ar (an ?_))
 refine ax rfl (fun e=>by cases e) (fun _=> ?_)
 (refine aE (an (ak (ah (aa rfl (aj rfl rfl) ?_))));apply aa rfl;(first | exact j5 rfl rfl rfl (fun _ _ _=>rfl) | (apply au 79;exact bg hD ab rfl rfl ⟨rfl,rfl,ag⟩ ⟨⟨_,rfl, .inr rfl⟩,⟨_,rfl, .inr rfl⟩,ag⟩ rfl rfl rfl) | (apply au 80;exact aw hM ab rfl rfl ⟨rfl,ag⟩ ⟨⟨_,rfl, .inr rfl⟩,ag⟩ rfl rfl) | exact jr (n:=fV L) (E:=2) rfl ab ab rfl rfl ae ae ae);apply aa rfl;exact cF rfl rfl rfl rfl;apply aa rfl;(first | exact j5 rfl rfl rfl (fun _ _ _=>rfl) | (apply au 79;exact bg hD ab rfl rfl ⟨rfl,rfl,ag⟩ ⟨⟨_,rfl, .inr rfl⟩,⟨_,rfl, .inr rfl⟩,ag⟩ rfl rfl rfl) | (apply au 80;exact aw hM ab rfl rfl ⟨rfl,ag⟩ ⟨⟨_,rfl, .inr rfl⟩,ag⟩ rfl rfl) | exact jr (n:=fV L) (E:=2) rfl ab ab rfl rfl ae ae ae);refine aa rfl (ai rfl rfl) (ar (an (ak (ah (aa rfl (aj rfl rfl) ?_)))));apply aa rfl;(first | exact j5 rfl rfl rfl (fun _ _ _=>rfl) | (apply au 79;exact bg hD ab rfl rfl ⟨rfl,rfl,ag⟩ ⟨⟨_,rfl, .inr rfl⟩,⟨_,rfl, .inr rfl⟩,ag⟩ rfl rfl rfl) | (apply au 80;exact aw hM ab rfl rfl ⟨rfl,ag⟩ ⟨⟨_,rfl, .inr rfl⟩,ag⟩ rfl rfl) | exact jr (n:=fV L) (E:=2) rfl ab ab rfl rfl ae ae ae);apply aa rfl;exact aP rfl rfl rfl bA;apply aa rfl;(first | exact j5 rfl rfl rfl (fun _ _ _=>rfl) | (apply au 79;exact bg hD ab rfl rfl ⟨rfl,rfl,ag⟩ ⟨⟨_,rfl, .inr rfl⟩,⟨_,rfl, .inr rfl⟩,ag⟩ rfl rfl rfl) | (apply au 80;exact aw hM ab rfl rfl ⟨rfl,ag⟩ ⟨⟨_,rfl, .inr rfl⟩,ag⟩ rfl rfl) | exact jr (n:=fV L) (E:=2) rfl ab ab rfl rfl ae ae ae);refine aa rfl (ai rfl rfl) (ar (an (ak (ak (ah (aa rfl (aj rfl rfl) (aa rfl (bw rfl rfl rfl ab) ?_)))))));refine aa rfl (aj rfl rfl) (ar (an (aB ?_))))
 refine bz (fun i:Nat=>St.of [(7,o1 (.sl 25 0 (fV L))),(26,o1 (.sl 21 0 N)),(27,vv (.int .i64 N)),(28,vv (.int .i64 i))] [(21,bG (jW L)),(25,bG (iY (L.take i) (fV L)))]) (fun i=>i≤N) (fun i=>N - i) 0 (Nat.zero_le _) (Wk.of ⟨rfl,rfl,rfl,rfl,ag⟩ ⟨rfl,by rw [show L.take 0= [] by simp,EM];rfl,ag⟩ trivial) ?_
 intro i hi
 (refine ak (ah (aa rfl (aG rfl rfl rfl rfl) (ar (an (ak ?_))))))
 refine bK rfl (fun hlt=> ?_) (fun hlt=> ?_)
 ·have hlt':i < L.length:=by omega
  obtain ⟨l,hl⟩:∃l,L[i]=l:=⟨_,rfl⟩
  have hFl:(jW L).length=N:=by rw [uP];exact hLl
  have hgi:(aL (jW L))[i]? =some (I6 (l:Int)):=by rw [bl ae,qf hlt',hl]
  have hgt:l < fV L:=by rw [←hl];exact oP (List.getElem_mem _)
  have hhl:(iY (L.take i) (fV L)).length=fV L:=pd _ _
  have hh:=F9 (L.take i) hgt
  have hh2:(L.take i).length≤400:=by rw [List.length_take];omega
  have hgl:(aL (iY (L.take i) (fV L)))[l]? =some (I6 (aC (iY (L.take i) (fV L)) l)):=bl ae
  have hsn:=C5 (L:=L.take i) hgt
  rw [←hl,←py hlt',hl] at hsn
  (refine aE (an (ak (aB (ak (ah ?_)))));apply aa rfl;exact aR rfl rfl rfl rfl rfl ab a9 aJ a8;apply aa rfl;exact bf rfl ab rfl rfl rfl aQ;refine aa rfl (ai rfl rfl) (ar (an (ah (aa rfl (aj rfl rfl) (aa rfl (aj rfl rfl) ?_)))));apply aa rfl;exact aR rfl rfl rfl rfl rfl ab a9 aJ a8;apply aa rfl;exact bf rfl ab rfl rfl rfl aQ;apply aa rfl;exact aP rfl rfl rfl bA;apply aa rfl;exact aR rfl rfl rfl rfl rfl ab a9 aJ a8;apply aa rfl;exact dW rfl rfl rfl rfl rfl aJ ab;refine ar (aM (an (ah ?_)));apply aa rfl;exact aP rfl rfl rfl bA;refine aa rfl (aj rfl rfl) (ar ?_))
  exact aW (i + 1) ae ae (Wk.of ⟨rfl,rfl,rfl,rfl,ag⟩ ⟨rfl,by rw [hsn];rfl,ag⟩ trivial)
 ·obtain rfl:i=N:=by omega
  rw [show L.take i=L by rw [←hLl,List.take_length]]
  (refine a7 (aA (aA (aT (an (ak (ah (aa rfl (aj rfl rfl) (aa rfl (ai rfl rfl) (aa rfl (ai rfl rfl) (ar (an ?_)))))))))));refine aS ?_)
  exact bN (.inl rfl) rfl (.tmp rfl) (.tmp rfl) ⟨rfl,ag⟩ trivial
theorem BB (g:Int) (rels:List (List Int)) (h1:Fit rels) (hk:¬m7 (g,rels) []):
  FC Tryz.prog 31 [(1003,a6 rels)] [pA g rels.length] [] (.tup [.one (.val (.slice none 0 0)), .one (.val (I6 (tl (g,rels) [])))]) []:=by
 have hE:=(mW h1 (by simp) hk).Cn
 have hc:=nI hk
 refine bj (nt:=40) Tryz.func31 rfl rfl (by simp) fun w0 ω0=> ?_
 (refine ak (ah (aa rfl (cF rfl rfl rfl rfl) (aa rfl (ai rfl rfl) (aa rfl (ai rfl rfl) (ar (an (ak (ah (aa rfl (aU rfl rfl rfl rfl rfl rfl ab) ?_)))))))));apply aa rfl;(apply au 78;exact aw hE ab rfl rfl ⟨⟨.inl rfl, .inl rfl,ag⟩,rfl,ag⟩ ⟨⟨_,rfl, .inl rfl⟩,ag⟩ rfl rfl);refine aa rfl (aj rfl rfl) (aa rfl (aN rfl rfl rfl) (aa rfl (aN rfl rfl rfl) (aa rfl (ai rfl rfl) (aa rfl (ai rfl rfl) (ar (an (ak (ak (ah (aa rfl (aj rfl rfl) (aa rfl (aG rfl rfl rfl rfl) ?_)))))))))));refine ar (an ?_))
 refine ax rfl (fun _=> ?_) (fun e=> ?_)
 ·(refine ak (ah (aa rfl (aj rfl rfl) (aa rfl (ai rfl rfl) (aa rfl (ai rfl rfl) (ar (an (aS (aO ?_)))))))))
  exact bN (.inl rfl) rfl (.tmp rfl) (.tmp rfl) trivial trivial
 ·exfalso;simp at e;exact hc e
theorem zF {E1 E:Nat} {lo hi:Nat} {v:Value} {d:du} (w:World) (h:tE E1 E w lo hi v d):
  Calls Tryz.prog 31 #[v] w fun e w'=>∃r,e= .returned (.tuple #[r, .int .i64 (tl d [])])∧ff 2 w' w.heap.size w'.heap.size r (Jq d)∧Below w.heap.size w w':=by
 obtain ⟨g,rels⟩:=d
 by_cases hok:m7 (g,rels) []
 ·obtain ⟨ng,rfl,hG⟩:=mi hok.1
  have hc:=vk hok
  have hr:Jq ((ng:Int),rels)=iY (wU ((ng:Int),rels)) (fV (wU ((ng:Int),rels))):=if_pos hc
  obtain ⟨_,_,_,hLt⟩:=xe hG hok
  have hN:=(gF hok.2.2).2
  rw [hr,hc]
  refine (s7 (d:=((ng:Int),rels)) (fun k1=>AB ng rels k1 hG hok) h).mono ?_
  rintro e w' ⟨v,η,ω,rfl,hd,hm,hb,hn⟩
  obtain ⟨u,u',rfl,h1,h2⟩:=oO hd
  have h2:u'=I6 0:=h2
  subst h2
  exact ⟨u,rfl,Kd (x:=25) hm hn rfl (by rw [pd];exact h1) (by rw [pd];omega),hb⟩
 ·have hc:=nI hok
  have hr:Jq (g,rels)= []:=if_neg hc
  rw [hr]
  refine (fX (s7 (d:=(g,rels)) (fun k1=>BB g rels k1 hok) h)).mono ?_
  rintro e w' ⟨rfl,hb⟩
  exact ⟨_,rfl,xy,hb⟩
end Go.Proofs.YtekbhbcgoadciaaGreat
namespace Go.Proofs.YtekbhbcgoadciaaGreat
open Go.RowKit
theorem pg {zs:List Int} {m:Int} (hd:cw zs=false):gR zs m=1:=by unfold gR;rw [hd,if_neg (by simp)]
theorem u5 {zs:List Int} {m:Int} (hd:cw zs=true) (hb:kY m 0 (cB zs)=false):gR zs m=2:=by unfold gR;rw [hd,if_pos rfl,hb,if_neg (by simp)]
theorem sH {zs:List Int} {k:Nat} (hd:cw zs=true) (hb:kY (k:Int) 0 (cB zs)=true):gR zs k=if gO zs k=true then 0 else 5:=by unfold gR;rw [hd,if_pos rfl,hb,if_pos rfl,Int.toNat_natCast]
theorem zC {zs:List Int} {m:Int} (h:gR zs m=0):cw zs=true∧∃k:Nat,m=k∧k < 1000∧gO zs k=true:=by
 cases hd:cw zs with
 | false=>rw [pg hd] at h;cases h
 | true=>
  refine ⟨rfl, ?_⟩
  cases hb:kY m 0 (cB zs) with
  | false=>rw [u5 hd hb] at h;cases h
  | true=>
   have hbb:=fC.1 hb
   have hlt:=fM (zs:=zs) (c7 hd)
   obtain ⟨k,rfl⟩:=Int.eq_ofNat_of_zero_le hbb.1
   refine ⟨k,rfl,ae, ?_⟩
   rw [sH hd hb] at h
   cases hf:gO zs k with
   | true=>rfl
   | false=>rw [hf,if_neg (by simp)] at h;cases h
theorem I0 (zs:List Int) (m:Int) (hn:zs.length≤4398046511104):
  FC Tryz.prog 24 [(1003,dk zs)] [o1 (.sl 1003 0 zs.length),vv (I6 m)] [] (.tup [.one (.val (I6 (DE zs m))), .one (.val (I6 (gR zs m)))]) []:=by
 have hI:=jS zs zs.length rfl hn
 unfold DE
 refine bj (nt:=26) Tryz.func24 rfl rfl (by simp) fun w0 ω0=> ?_
 cases hd:cw zs with
 | false=>
  rw [hd] at hI
  rw [pg hd,if_neg (by decide)]
  (refine ak (ah (aa rfl (ai rfl rfl) (aa rfl (ai rfl rfl) (ar (an (ak (aB (ak (ah (aa rfl (aj rfl rfl) ?_))))))))));apply aa rfl;(apply au 54;exact aw hI ab rfl rfl ⟨rfl,ag⟩ ⟨⟨_,rfl, .inl rfl⟩,ag⟩ rfl rfl);refine aa rfl (bU rfl rfl) (aa rfl (ai rfl rfl) (ar (an ?_))))
  refine ax rfl (fun _=> ?_) (fun e=>by cases e)
  (refine ak (ah (aa rfl (ai rfl rfl) (aa rfl (ai rfl rfl) (ar (an (aS (bt (aO ?_)))))))))
  exact bN (.inl rfl) rfl (.tmp rfl) (.tmp rfl) trivial trivial
 | true=>
  rw [hd] at hI
  have h4:=c7 hd
  have hM:=BW zs zs.length m rfl h4
  cases hb:kY m 0 (cB zs) with
  | false=>
   rw [hb] at hM
   rw [u5 hd hb,if_neg (by decide)]
   (refine ak (ah (aa rfl (ai rfl rfl) (aa rfl (ai rfl rfl) (ar (an (ak (aB (ak (ah (aa rfl (aj rfl rfl) ?_))))))))));apply aa rfl;(apply au 54;exact aw hI ab rfl rfl ⟨rfl,ag⟩ ⟨⟨_,rfl, .inl rfl⟩,ag⟩ rfl rfl);refine aa rfl (bU rfl rfl) (aa rfl (ai rfl rfl) (ar (an ?_))))
   refine ax rfl (fun e=>by cases e) (fun _=> ?_)
   (refine ak (ah (aa rfl (aj rfl rfl) (aa rfl (aj rfl rfl) ?_)));apply aa rfl;(apply au 55;exact aw hM ab rfl rfl ⟨rfl,rfl,ag⟩ ⟨⟨_,rfl, .inl rfl⟩,ag⟩ rfl rfl);refine aa rfl (bU rfl rfl) (aa rfl (ai rfl rfl) (ar (an ?_))))
   refine ax rfl (fun _=> ?_) (fun e=>by cases e)
   (refine ak (ah (aa rfl (ai rfl rfl) (aa rfl (ai rfl rfl) (ar (an (aS (bt (aO ?_)))))))))
   exact bN (.inl rfl) rfl (.tmp rfl) (.tmp rfl) trivial trivial
  | true=>
   rw [hb] at hM
   have hbb:=fC.1 hb
   have hlt:=fM h4
   obtain ⟨k,rfl⟩:=Int.eq_ofNat_of_zero_le hbb.1
   rw [sH hd hb,Int.toNat_natCast]
   cases hf:gO zs k with
   | false=>
    have hO:=Dw zs zs.length k rfl hd ae hf
    rw [if_neg (show ¬(false=true) by simp),if_neg (by decide)]
    (refine ak (ah (aa rfl (ai rfl rfl) (aa rfl (ai rfl rfl) (ar (an (ak (aB (ak (ah (aa rfl (aj rfl rfl) ?_))))))))));apply aa rfl;(apply au 54;exact aw hI ab rfl rfl ⟨rfl,ag⟩ ⟨⟨_,rfl, .inl rfl⟩,ag⟩ rfl rfl);refine aa rfl (bU rfl rfl) (aa rfl (ai rfl rfl) (ar (an ?_))))
    refine ax rfl (fun e=>by cases e) (fun _=> ?_)
    (refine ak (ah (aa rfl (aj rfl rfl) (aa rfl (aj rfl rfl) ?_)));apply aa rfl;(apply au 55;exact aw hM ab rfl rfl ⟨rfl,rfl,ag⟩ ⟨⟨_,rfl, .inl rfl⟩,ag⟩ rfl rfl);refine aa rfl (bU rfl rfl) (aa rfl (ai rfl rfl) (ar (an ?_))))
    refine ax rfl (fun e=>by cases e) (fun _=> ?_)
    (refine aE (aM (an (ak (ah (aa rfl (aj rfl rfl) (aa rfl (aj rfl rfl) ?_))))));apply aa rfl;(apply au 56;exact aw hO ab rfl rfl ⟨rfl,rfl,ag⟩ ⟨⟨_,rfl, .inl rfl⟩,ag⟩ rfl rfl);refine aa rfl (aj rfl rfl) (aa rfl (aN rfl rfl rfl) (aa rfl (aN rfl rfl rfl) (aa rfl (ai rfl rfl) (aa rfl (ai rfl rfl) (ar (an (ak (ak (ah (aa rfl (aj rfl rfl) (aa rfl (bU rfl rfl) ?_)))))))))));refine ar (an ?_))
    refine ax rfl (fun _=> ?_) (fun e=>by cases e)
    (refine ak (ah (aa rfl (ai rfl rfl) (aa rfl (ai rfl rfl) (ar (an (aS (aO ?_))))))))
    exact bN (.inl rfl) rfl (.tmp rfl) (.tmp rfl) trivial trivial
   | true=>
    have hO:=CM zs zs.length k rfl hd ae hf
    rw [if_pos rfl,if_pos rfl]
    (refine ak (ah (aa rfl (ai rfl rfl) (aa rfl (ai rfl rfl) (ar (an (ak (aB (ak (ah (aa rfl (aj rfl rfl) ?_))))))))));apply aa rfl;(apply au 54;exact aw hI ab rfl rfl ⟨rfl,ag⟩ ⟨⟨_,rfl, .inl rfl⟩,ag⟩ rfl rfl);refine aa rfl (bU rfl rfl) (aa rfl (ai rfl rfl) (ar (an ?_))))
    refine ax rfl (fun e=>by cases e) (fun _=> ?_)
    (refine ak (ah (aa rfl (aj rfl rfl) (aa rfl (aj rfl rfl) ?_)));apply aa rfl;(apply au 55;exact aw hM ab rfl rfl ⟨rfl,rfl,ag⟩ ⟨⟨_,rfl, .inl rfl⟩,ag⟩ rfl rfl);refine aa rfl (bU rfl rfl) (aa rfl (ai rfl rfl) (ar (an ?_))))
    refine ax rfl (fun e=>by cases e) (fun _=> ?_)
    (refine aE (aM (an (ak (ah (aa rfl (aj rfl rfl) (aa rfl (aj rfl rfl) ?_))))));apply aa rfl;(apply au 56;exact aw hO ab rfl rfl ⟨rfl,rfl,ag⟩ ⟨⟨_,rfl, .inl rfl⟩,ag⟩ rfl rfl);refine aa rfl (aj rfl rfl) (aa rfl (aN rfl rfl rfl) (aa rfl (aN rfl rfl rfl) (aa rfl (ai rfl rfl) (aa rfl (ai rfl rfl) (ar (an (ak (ak (ah (aa rfl (aj rfl rfl) (aa rfl (bU rfl rfl) ?_)))))))))));refine ar (an ?_))
    refine ax rfl (fun e=>by cases e) (fun _=> ?_)
    (refine aE (an (ak (ah (aa rfl (aj rfl rfl) (aa rfl (ai rfl rfl) (aa rfl (ai rfl rfl) (ar (an (aS ?_))))))))))
    exact bN (.inl rfl) rfl (.tmp rfl) (.tmp rfl) trivial trivial
theorem AD {E:Nat} {lo hi:Nat} {v:Value} {zs:List Int} (m:Int) (w:World) (h:ff E w lo hi v zs):
  Calls Tryz.prog 24 #[v, .int .i64 m] w fun e w'=>e= .returned (.tuple #[.int .i64 (DE zs m), .int .i64 (gR zs m)])∧Below w.heap.size w w':=fX (Ho m (fun k=>I0 zs m k) h)
end Go.Proofs.YtekbhbcgoadciaaGreat
namespace Go.Proofs.YtekbhbcgoadciaaGreat
open Go.RowKit
theorem iw {zs:List Int} (h:eY zs=0):cw zs=true∧gO zs (cB zs)=true:=by
 obtain ⟨hd,k,hk,_,hf⟩:=zC h
 have:cB zs=k:=by omega
 rw [←this] at hf
 exact ⟨hd,hf⟩
theorem xx {zs:List Int} (h:eY zs≠0):(cw zs=false∧eY zs=1)∨(cw zs=true∧gO zs (cB zs)=false∧eY zs=5):=by
 cases hd:cw zs with
 | false=>exact .inl ⟨rfl,pg hd⟩
 | true=>
  refine .inr ⟨rfl, ?_⟩
  have e:=AZ zs hd
  cases hf:gO zs (cB zs) with
  | true=>rw [hf,if_pos rfl] at e;exact absurd e h
  | false=>rw [hf,if_neg (by simp)] at e;exact ⟨rfl,e⟩
def GH (zs:List Int):List Int:=if eY zs=0 then eV zs (cB zs) else []
theorem Gn (zs:List Int) (hn:zs.length≤4398046511104) (h0:eY zs=0):
  FC Tryz.prog 20 [(1003,dk zs)] [o1 (.sl 1003 0 zs.length)] [(14,bG (eV zs (cB zs)))] (.tup [.one (.sl 14 0 (eV zs (cB zs)).length), .one (.val (I6 0))]) []:=by
 obtain ⟨hd,hf⟩:=iw h0
 have hI:=jS zs zs.length rfl hn
 rw [hd] at hI
 have h4:=c7 hd
 have hA:=ly zs zs.length rfl h4
 have hY:=(mN zs zs.length (cB zs) rfl hd (fM h4) hf).nm [(1003,1003),(2200,14)] (by kernel_rfl)
 unfold D9 at hY
 rw [←mm] at hY
 have hY:FC Tryz.prog 65 [(1003,dk zs)] [o1 (.sl 1003 0 zs.length),vv (I6 (cB zs))] [(14,bG (eV zs (cB zs)))] (.tup [.one (.sl 14 0 (eV zs (cB zs)).length), .one (.val (I6 (wv zs (cB zs):Nat))), .one (.val (.bool true))]) []:=hY
 refine bj (nt:=21) Tryz.func20 rfl rfl (by simp) fun w0 ω0=> ?_
 (refine ak (ah (aa rfl (ai rfl rfl) (aa rfl (ai rfl rfl) (ar (an (ak (ak (ah (aa rfl (aj rfl rfl) ?_)))))))));apply aa rfl;(apply au 54;exact aw hI ab rfl rfl ⟨rfl,ag⟩ ⟨⟨_,rfl, .inl rfl⟩,ag⟩ rfl rfl);refine aa rfl (bU rfl rfl) (ar (an ?_)))
 refine ax rfl (fun e=>by cases e) (fun _=> ?_)
 (refine aE (an (ak (ah (aa rfl (aj rfl rfl) (aa rfl (aj rfl rfl) ?_)))));apply aa rfl;(first | (apply au 57;exact aw hA ab rfl rfl ⟨rfl,ag⟩ ⟨⟨_,rfl, .inl rfl⟩,ag⟩ rfl rfl) | (apply au 65;exact bg hY ab rfl rfl ⟨rfl,rfl,ag⟩ ⟨⟨_,rfl, .inl rfl⟩,ag⟩ rfl rfl rfl));apply aa rfl;(first | (apply au 57;exact aw hA ab rfl rfl ⟨rfl,ag⟩ ⟨⟨_,rfl, .inl rfl⟩,ag⟩ rfl rfl) | (apply au 65;exact bg hY ab rfl rfl ⟨rfl,rfl,ag⟩ ⟨⟨_,rfl, .inl rfl⟩,ag⟩ rfl rfl rfl));refine aa rfl (aj rfl rfl) (aa rfl (aN rfl rfl rfl) (aa rfl (aN rfl rfl rfl) (aa rfl (aN rfl rfl rfl) (aa rfl (ai rfl rfl) (aa rfl (ai rfl rfl) (aa rfl (ai rfl rfl) (ar (an (ak (ak (ah ?_)))))))))));refine aa rfl (aj rfl rfl) (aa rfl (bU rfl rfl) (ar (an ?_))))
 refine ax rfl (fun e=>by cases e) (fun _=> ?_)
 (refine aE (an (ak (ah (aa rfl (aj rfl rfl) (aa rfl (ai rfl rfl) (aa rfl (ai rfl rfl) (ar (an (aS ?_))))))))))
 exact bN (.inl rfl) rfl (.tmp rfl) (.tmp rfl) ⟨rfl,ag⟩ trivial
theorem Hm (zs:List Int) (hn:zs.length≤4398046511104) (h0:eY zs≠0):
  FC Tryz.prog 20 [(1003,dk zs)] [o1 (.sl 1003 0 zs.length)] [] (.tup [.one (.val (.slice none 0 0)), .one (.val (I6 (eY zs)))]) []:=by
 have hI:=jS zs zs.length rfl hn
 rcases xx h0 with ⟨hd,e⟩ | ⟨hd,hf,e⟩
 ·rw [hd] at hI
  rw [e]
  refine bj (nt:=21) Tryz.func20 rfl rfl (by simp) fun w0 ω0=> ?_
  (refine ak (ah (aa rfl (ai rfl rfl) (aa rfl (ai rfl rfl) (ar (an (ak (ak (ah (aa rfl (aj rfl rfl) ?_)))))))));apply aa rfl;(apply au 54;exact aw hI ab rfl rfl ⟨rfl,ag⟩ ⟨⟨_,rfl, .inl rfl⟩,ag⟩ rfl rfl);refine aa rfl (bU rfl rfl) (ar (an ?_)))
  refine ax rfl (fun _=> ?_) (fun e=>by cases e)
  (refine ak (ah (aa rfl (ai rfl rfl) (aa rfl (ai rfl rfl) (ar (an (aS (aO ?_))))))))
  exact bN (.inl rfl) rfl (.tmp rfl) (.tmp rfl) trivial trivial
 ·rw [hd] at hI
  have h4:=c7 hd
  have hA:=ly zs zs.length rfl h4
  have hN:=oU zs zs.length (cB zs) rfl hd (fM h4) hf
  rw [e]
  refine bj (nt:=21) Tryz.func20 rfl rfl (by simp) fun w0 ω0=> ?_
  (refine ak (ah (aa rfl (ai rfl rfl) (aa rfl (ai rfl rfl) (ar (an (ak (ak (ah (aa rfl (aj rfl rfl) ?_)))))))));apply aa rfl;(apply au 54;exact aw hI ab rfl rfl ⟨rfl,ag⟩ ⟨⟨_,rfl, .inl rfl⟩,ag⟩ rfl rfl);refine aa rfl (bU rfl rfl) (ar (an ?_)))
  refine ax rfl (fun e=>by cases e) (fun _=> ?_)
  (refine aE (an (ak (ah (aa rfl (aj rfl rfl) (aa rfl (aj rfl rfl) ?_)))));apply aa rfl;(first | (apply au 57;exact aw hA ab rfl rfl ⟨rfl,ag⟩ ⟨⟨_,rfl, .inl rfl⟩,ag⟩ rfl rfl) | (apply au 65;exact aw hN ab rfl rfl ⟨rfl,rfl,ag⟩ ⟨⟨_,rfl, .inl rfl⟩,ag⟩ rfl rfl));apply aa rfl;(first | (apply au 57;exact aw hA ab rfl rfl ⟨rfl,ag⟩ ⟨⟨_,rfl, .inl rfl⟩,ag⟩ rfl rfl) | (apply au 65;exact aw hN ab rfl rfl ⟨rfl,rfl,ag⟩ ⟨⟨_,rfl, .inl rfl⟩,ag⟩ rfl rfl));refine aa rfl (aj rfl rfl) (aa rfl (aN rfl rfl rfl) (aa rfl (aN rfl rfl rfl) (aa rfl (aN rfl rfl rfl) (aa rfl (ai rfl rfl) (aa rfl (ai rfl rfl) (aa rfl (ai rfl rfl) (ar (an (ak (ak (ah ?_)))))))))));refine aa rfl (aj rfl rfl) (aa rfl (bU rfl rfl) (ar (an ?_))))
  refine ax rfl (fun _=> ?_) (fun e=>by cases e)
  (refine ak (ah (aa rfl (ai rfl rfl) (aa rfl (ai rfl rfl) (ar (an (aS (aO ?_))))))))
  exact bN (.inl rfl) rfl (.tmp rfl) (.tmp rfl) trivial trivial
theorem Fo (zs:List Int) (hn:zs.length≤4398046511104) (h0:eY zs=0):
  FC Tryz.prog 21 [(1003,dk zs)] [o1 (.sl 1003 0 zs.length)] [(13,bG (eV zs (cB zs)))] (.tup [.one (.sl 13 0 (eV zs (cB zs)).length), .one (.val (I6 0))]) []:=by
 obtain ⟨hd,hf⟩:=iw h0
 have hF:=AG zs zs.length rfl hn
 rw [h0] at hF
 have h4:=c7 hd
 have hW:=mD zs zs.length rfl h4
 have hA:=(Fp zs zs.length (cB zs) rfl hd (fM h4) hf).nm [(1003,1003),(2300,13)] (by kernel_rfl)
 rw [←mm] at hA
 have hA:FC Tryz.prog 67 [(1003,dk zs)] [o1 (.sl 1003 0 zs.length),vv (I6 (cB zs))] [(13,bG (eV zs (cB zs)))] (o1 (.sl 13 0 (eV zs (cB zs)).length)) []:=hA
 refine bj (nt:=14) Tryz.func21 rfl rfl (by simp) fun w0 ω0=> ?_
 (refine ak (ah (aa rfl (ai rfl rfl) (aa rfl (ai rfl rfl) (ar (an (ak (ak (ah (aa rfl (aj rfl rfl) ?_)))))))));apply aa rfl;(apply au 66;exact aw hF ab rfl rfl ⟨rfl,ag⟩ ⟨⟨_,rfl, .inl rfl⟩,ag⟩ rfl rfl);refine aa rfl (ai rfl rfl) (ar (an (ak (ah (aa rfl (aj rfl rfl) (aa rfl (aG rfl rfl rfl rfl) (ar (an ?_)))))))))
 refine ax rfl (fun e=>by simp at e) (fun _=> ?_)
 (refine aE (an (ak (ah (aa rfl (aj rfl rfl) (aa rfl (aj rfl rfl) ?_)))));apply aa rfl;(first | (apply au 68;exact aw hW ab rfl rfl ⟨rfl,ag⟩ ⟨⟨_,rfl, .inl rfl⟩,ag⟩ rfl rfl) | (apply au 67;exact bg hA ab rfl rfl ⟨rfl,rfl,ag⟩ ⟨⟨_,rfl, .inl rfl⟩,ag⟩ rfl rfl rfl));apply aa rfl;(first | (apply au 68;exact aw hW ab rfl rfl ⟨rfl,ag⟩ ⟨⟨_,rfl, .inl rfl⟩,ag⟩ rfl rfl) | (apply au 67;exact bg hA ab rfl rfl ⟨rfl,rfl,ag⟩ ⟨⟨_,rfl, .inl rfl⟩,ag⟩ rfl rfl rfl));refine aa rfl (ai rfl rfl) (aa rfl (ai rfl rfl) (ar (an (aS ?_)))))
 exact bN (.inl rfl) rfl (.tmp rfl) (.tmp rfl) ⟨rfl,ag⟩ trivial
theorem Ii (zs:List Int) (hn:zs.length≤4398046511104) (h0:eY zs≠0):
  FC Tryz.prog 21 [(1003,dk zs)] [o1 (.sl 1003 0 zs.length)] [] (.tup [.one (.val (.slice none 0 0)), .one (.val (I6 (eY zs)))]) []:=by
 have hF:=AG zs zs.length rfl hn
 refine bj (nt:=14) Tryz.func21 rfl rfl (by simp) fun w0 ω0=> ?_
 (refine ak (ah (aa rfl (ai rfl rfl) (aa rfl (ai rfl rfl) (ar (an (ak (ak (ah (aa rfl (aj rfl rfl) ?_)))))))));apply aa rfl;(apply au 66;exact aw hF ab rfl rfl ⟨rfl,ag⟩ ⟨⟨_,rfl, .inl rfl⟩,ag⟩ rfl rfl);refine aa rfl (ai rfl rfl) (ar (an (ak (ah (aa rfl (aj rfl rfl) (aa rfl (aG rfl rfl rfl rfl) (ar (an ?_)))))))))
 refine ax rfl (fun _=> ?_) (fun e=>absurd (by simpa using e) h0)
 (refine ak (ah (aa rfl (aj rfl rfl) (aa rfl (ai rfl rfl) (aa rfl (ai rfl rfl) (ar (an (aS (aO ?_)))))))))
 exact bN (.inl rfl) rfl (.tmp rfl) (.tmp rfl) trivial trivial
theorem mB {f:FuncId} {x:Nm} {zs B:List Int} {R:List Int} (hR:R=if eY zs=0 then B else []) (hB:eY zs=0→B.length≤1000)
  (hy:zs.length≤4398046511104→eY zs=0→FC Tryz.prog f [(1003,dk zs)] [o1 (.sl 1003 0 zs.length)] [(x,bG B)] (.tup [.one (.sl x 0 B.length), .one (.val (I6 0))]) [])
  (hno:zs.length≤4398046511104→eY zs≠0→FC Tryz.prog f [(1003,dk zs)] [o1 (.sl 1003 0 zs.length)] [] (.tup [.one (.val (.slice none 0 0)), .one (.val (I6 (eY zs)))]) [])
  {E:Nat} {lo hi:Nat} {v:Value} (w:World) (h:ff E w lo hi v zs):
  Calls Tryz.prog f #[v] w fun e w'=>∃r,e= .returned (.tuple #[r, .int .i64 (eY zs)])∧ff 2 w' w.heap.size w'.heap.size r R∧Below w.heap.size w w':=by
 subst hR
 by_cases h0:eY zs=0
 ·have hB:=hB h0
  rw [if_pos h0,h0]
  refine (xB (fun k1=>hy k1 h0) h).mono ?_
  rintro e w' ⟨v,η,ω,rfl,hd,hm,hb,hn⟩
  obtain ⟨u,u',rfl,h1,h2⟩:=oO hd
  have h2:u'=I6 0:=h2
  subst h2
  exact ⟨u,rfl,Kd (x:=x) hm hn (by simp [lk]) h1 ae,hb⟩
 ·rw [if_neg h0]
  refine (fX (xB (fun k1=>hno k1 h0) h)).mono ?_
  rintro e w' ⟨rfl,hb⟩
  exact ⟨_,rfl,xy,hb⟩
theorem zd {E:Nat} {lo hi:Nat} {v:Value} {zs:List Int} (w:World) (h:ff E w lo hi v zs):
  Calls Tryz.prog 21 #[v] w fun e w'=>∃r,e= .returned (.tuple #[r, .int .i64 (eY zs)])∧ff 2 w' w.heap.size w'.heap.size r (GH zs)∧Below w.heap.size w w':=
 mB (B:=eV zs (cB zs)) rfl (fun h=>by have:=mR (mask:=cB zs) (iw h).1;omega) (Fo zs) (Ii zs) w h
theorem zc {E:Nat} {lo hi:Nat} {v:Value} {zs:List Int} (w:World) (h:ff E w lo hi v zs):
  Calls Tryz.prog 20 #[v] w fun e w'=>∃r,e= .returned (.tuple #[r, .int .i64 (eY zs)])∧ff 2 w' w.heap.size w'.heap.size r (GH zs)∧Below w.heap.size w w':=
 mB (B:=eV zs (cB zs)) rfl (fun h=>by have:=mR (mask:=cB zs) (iw h).1;omega) (Gn zs) (Hm zs) w h
end Go.Proofs.YtekbhbcgoadciaaGreat
namespace Go.Proofs.YtekbhbcgoadciaaGreat
open Go.RowKit
def IK (nx:List Int) (x:Nat) (n:Int):List Int:=nx.set x (IntKind.i64.wrap (aC nx x + n))
def C8 (nx:List Int) (i:Nat) (n:Int) (j:Nat):List Int:=(List.range j).foldl (fun m q=>IK m (i + q) n) nx
theorem yx (nx:List Int) (i:Nat) (n:Int) (j:Nat):C8 nx i n (j + 1)=IK (C8 nx i n j) (i + j) n:=by unfold C8;rw [List.range_succ,List.foldl_append];rfl
theorem we (nx:List Int) (i:Nat) (n:Int):∀j,(C8 nx i n j).length=nx.length
 | 0=>rfl
 | j + 1=>by rw [yx,IK,List.length_set,we nx i n j]
def nu (out:List Int) (d:Nat) (i:Nat):List Int:=(List.range i).foldl (fun m q=>C8 m q (aC out q) d) (List.replicate (out.length + d - 1) 0)
theorem uV (out:List Int) (d:Nat):nu out d 0=List.replicate (out.length + d - 1) 0:=rfl
theorem uW (out:List Int) (d i:Nat):nu out d (i + 1)=C8 (nu out d i) i (aC out i) d:=by unfold nu;rw [List.range_succ,List.foldl_append];rfl
theorem ox (out:List Int) (d:Nat):∀i,(nu out d i).length=out.length + d - 1
 | 0=>by rw [uV,List.length_replicate]
 | i + 1=>by rw [uW,we,ox out d i]
def oi (A:List Int) (k:Nat):List Int:=(A.take k).foldl (fun out d=>nu out d.toNat out.length) [1]
theorem pS (A:List Int):oi A 0= [1]:=by unfold oi;rw [List.take_zero];rfl
theorem uy {A:List Int} {k:Nat} (h:k < A.length):oi A (k + 1)=nu (oi A k) (aC A k).toNat (oi A k).length:=by
 unfold oi
 rw [List.take_add_one,List.getElem?_eq_getElem h,List.foldl_append,cX h];rfl
theorem rU {A:List Int} (hA:∀z∈A,2≤z∧z≤32):∀k,k≤A.length→1≤(oi A k).length∧(oi A k).length≤1 + 31 * k
 | 0,_=>by rw [pS];simp
 | k + 1,h=>by
  have ih:=rU hA k ae
  have hz:=hA _ (eH (zs:=A) (k:=k) ae)
  rw [uy ae,ox]
  omega
def ot (zs:List Int):List Int:=oi (eV zs (cB zs)) (eV zs (cB zs)).length
def y5 (zs:List Int):List Int:=if eY zs=0 then ot zs else []
theorem ya {zs:List Int} (hd:cw zs=true):(ot zs).length≤200:=by
 have h1:=(rU (oB (mask:=cB zs) hd) _ (Nat.le_refl _)).2
 have h2:=mR (mask:=cB zs) hd
 unfold ot;omega
theorem CN (zs:List Int):(y5 zs).length≤200:=by
 unfold y5
 split
 ·rename_i h;exact ya (iw h).1
 ·simp
end Go.Proofs.YtekbhbcgoadciaaGreat
namespace Go.Proofs.YtekbhbcgoadciaaGreat
open Go.RowKit
end Go.Proofs.YtekbhbcgoadciaaGreat
namespace Go.Proofs.YtekbhbcgoadciaaGreat
open Go.RowKit
theorem FD (zs:List Int) (hn:zs.length≤4398046511104) (h0:eY zs=0):
  FC Tryz.prog 25 [(1003,dk zs)] [o1 (.sl 1003 0 zs.length)] [(2400,bG (ot zs))] (.tup [.one (.sl 2400 0 (ot zs).length), .one (.val (I6 0))]) []:=by
 obtain ⟨hd,hf⟩:=iw h0
 have hI:=jS zs zs.length rfl hn
 rw [hd] at hI
 have h4:=c7 hd
 have hN:=ly zs zs.length rfl h4
 have hA:=(mN zs zs.length (cB zs) rfl hd (fM h4) hf).nm [(1003,1003),(2200,21)] (by kernel_rfl)
 unfold D9 at hA
 rw [←mm] at hA
 have hA:FC Tryz.prog 65 [(1003,dk zs)] [o1 (.sl 1003 0 zs.length),vv (I6 (cB zs))] [(21,bG (eV zs (cB zs)))] (.tup [.one (.sl 21 0 (eV zs (cB zs)).length), .one (.val (I6 (wv zs (cB zs):Nat))), .one (.val (.bool true))]) []:=hA
 have hin:=oB (mask:=cB zs) hd
 have hle:=mR (mask:=cB zs) hd
 unfold ot
 generalize eV zs (cB zs)=B at *
 have hil:B.length≤(aL B).length:=by rw [bc];exact Nat.le_refl _
 refine bj (nt:=65) Tryz.func25 rfl rfl (by simp) fun w0 ω0=> ?_
 (refine ak (ah (aa rfl (ai rfl rfl) (aa rfl (ai rfl rfl) (ar (an (ak (ak (ah (aa rfl (aj rfl rfl) ?_)))))))));apply aa rfl;(apply au 54;exact aw hI ab rfl rfl ⟨rfl,ag⟩ ⟨⟨_,rfl, .inl rfl⟩,ag⟩ rfl rfl);refine aa rfl (bU rfl rfl) (ar (an ?_)))
 refine ax rfl (fun e=>by cases e) (fun _=> ?_)
 (refine aE (an (ak (ah (aa rfl (aj rfl rfl) (aa rfl (aj rfl rfl) ?_)))));apply aa rfl;(first | (apply au 57;exact aw hN ab rfl rfl ⟨rfl,ag⟩ ⟨⟨_,rfl, .inl rfl⟩,ag⟩ rfl rfl) | (apply au 65;exact bg hA ab rfl rfl ⟨rfl,rfl,ag⟩ ⟨⟨_,rfl, .inl rfl⟩,ag⟩ rfl rfl rfl));apply aa rfl;(first | (apply au 57;exact aw hN ab rfl rfl ⟨rfl,ag⟩ ⟨⟨_,rfl, .inl rfl⟩,ag⟩ rfl rfl) | (apply au 65;exact bg hA ab rfl rfl ⟨rfl,rfl,ag⟩ ⟨⟨_,rfl, .inl rfl⟩,ag⟩ rfl rfl rfl));refine aa rfl (aj rfl rfl) (aa rfl (aN rfl rfl rfl) (aa rfl (aN rfl rfl rfl) (aa rfl (aN rfl rfl rfl) (aa rfl (ai rfl rfl) (aa rfl (ai rfl rfl) (aa rfl (ai rfl rfl) (ar (an (ak (ak (ah ?_)))))))))));refine aa rfl (aj rfl rfl) (aa rfl (bU rfl rfl) (ar (an ?_))))
 refine ax rfl (fun e=>by cases e) (fun _=> ?_)
 (refine aE (an (ak (ah ?_)));apply aa rfl;(exact bW (E:=2) rfl ab rfl);refine aa rfl (ai rfl rfl) (ar (an (ak (ak (ah (aa rfl (aj rfl rfl) (aa rfl (bw rfl rfl rfl ab) ?_)))))));refine aa rfl (aj rfl rfl) (ar (an (aB ?_))))
 refine bz (fun k:Nat=>St.of [(7,o1 (.sl 2400 0 (oi B k).length)),(28,o1 (.sl 21 0 B.length)),(29,vv (I6 B.length)),(30,vv (I6 k))] [(21,bG B),(2400,bG (oi B k))]) (fun k=>k≤B.length) (fun k=>B.length - k) 0 (Nat.zero_le _) (Wk.trans (nr (x:=27) (y:=2400) (s:=7) (m:=1) rfl rfl) (Wk.of ⟨congrArg (fun z:List Int=>some (o1 (.sl 2400 0 z.length))) (pS B).symm,rfl,rfl,rfl,ag⟩ ⟨rfl,congrArg (fun z=>some (bG z)) (pS B).symm,ag⟩ trivial)) ?_
 rintro k hk
 (refine ak (ah (aa rfl (aG rfl rfl rfl rfl) (ar (an (ak ?_))))))
 refine bK rfl (fun hlt=> ?_) (fun hlt=> ?_)
 ·have hkm:k < B.length:=by omega
  have hz:=hin _ (eH (zs:=B) (k:=k) hkm)
  have hpl:=rU hin k hk
  have hps:=uy hkm
  obtain ⟨D,hD⟩:∃D:Nat,aC B k=(D:Int):=⟨(aC B k).toNat,ae⟩
  have hD2:2≤D∧D≤32:=by omega
  have hg:(aL B)[k]? =some (I6 (D:Int)):=by rw [bl hkm,hD]
  rw [hD,Int.toNat_natCast] at hps
  generalize hO:oi B k=out at *
  have hol:out.length≤(aL out).length:=by rw [bc];exact Nat.le_refl _
  obtain ⟨M,hM⟩:∃M,out.length + D - 1=M:=⟨_,rfl⟩
  have hMb:M≤300:=by omega
  have hwa:IntKind.i64.wrap ((out.length:Int) + (D:Int))=(((out.length + D:Nat)):Int):=by rw [IntWalk.i64_in _ ae];omega
  have hws:IntKind.i64.wrap (((out.length + D:Nat):Int) - 1)=(M:Int):=by rw [IntWalk.i64_in _ ae];omega
  have hSz:=rE 2400 out.length
  (refine aE (an (ak (aB (ak (ah ?_)))));apply aa rfl;(first | exact aR (j:=k) rfl rfl rfl rfl rfl ab rfl hkm hil | exact bf rfl ab rfl rfl rfl hg | (apply au 62;exact aw hSz ab rfl rfl ⟨rfl,ag⟩ trivial rfl rfl) | exact aP rfl rfl rfl hwa | exact cg rfl rfl rfl hws);apply aa rfl;(first | exact aR (j:=k) rfl rfl rfl rfl rfl ab rfl hkm hil | exact bf rfl ab rfl rfl rfl hg | (apply au 62;exact aw hSz ab rfl rfl ⟨rfl,ag⟩ trivial rfl rfl) | exact aP rfl rfl rfl hwa | exact cg rfl rfl rfl hws);refine aa rfl (ai rfl rfl) (ar (an (ak (ah (aa rfl (aj rfl rfl) ?_)))));apply aa rfl;(first | exact aR (j:=k) rfl rfl rfl rfl rfl ab rfl hkm hil | exact bf rfl ab rfl rfl rfl hg | (apply au 62;exact aw hSz ab rfl rfl ⟨rfl,ag⟩ trivial rfl rfl) | exact aP rfl rfl rfl hwa | exact cg rfl rfl rfl hws);apply aa rfl;exact aj rfl rfl;apply aa rfl;(first | exact aR (j:=k) rfl rfl rfl rfl rfl ab rfl hkm hil | exact bf rfl ab rfl rfl rfl hg | (apply au 62;exact aw hSz ab rfl rfl ⟨rfl,ag⟩ trivial rfl rfl) | exact aP rfl rfl rfl hwa | exact cg rfl rfl rfl hws);apply aa rfl;(first | exact aR (j:=k) rfl rfl rfl rfl rfl ab rfl hkm hil | exact bf rfl ab rfl rfl rfl hg | (apply au 62;exact aw hSz ab rfl rfl ⟨rfl,ag⟩ trivial rfl rfl) | exact aP rfl rfl rfl hwa | exact cg rfl rfl rfl hws);apply aa rfl;(exact jr (E:=2) rfl ab ab rfl rfl rfl rfl ae);refine aa rfl (ai rfl rfl) (ar (an (ak (ak (ah (aa rfl (aj rfl rfl) (aa rfl (bw rfl rfl rfl ab) ?_)))))));refine aa rfl (aj rfl rfl) (ar (an (aB ?_))))
  refine bz (fun i:Nat=>St.of [(9,vv (I6 D)),(10,o1 (.sl 39 0 M)),(28,o1 (.sl 21 0 B.length)),(29,vv (I6 B.length)),(30,vv (I6 k)),(40,o1 (.sl 2400 0 out.length)),(41,vv (I6 out.length)),(42,vv (I6 i))] [(21,bG B),(2400,bG out),(39,bG (nu out D i))]) (fun i=>i≤out.length) (fun i=>out.length - i) 0 (Nat.zero_le _) (Wk.of ⟨rfl,rfl,rfl,rfl,rfl,rfl,rfl,rfl,ag⟩ ⟨rfl,rfl,congrArg (fun z=>some (bG z)) (show List.replicate M 0=nu out D 0 by rw [uV,hM]),ag⟩ trivial) ?_
  rintro i hi
  (refine ak (ah (aa rfl (aG rfl rfl rfl rfl) (ar (an (ak ?_))))))
  refine bK rfl (fun hlt=> ?_) (fun hlt=> ?_)
  ·have hio:i < out.length:=by omega
   have hgo:(aL out)[i]? =some (I6 (aC out i)):=bl hio
   (refine aE (an (ak (aB (ak (ah (aa rfl (aj rfl rfl) ?_))))));apply aa rfl;(exact aR (j:=i) rfl rfl rfl rfl rfl ab rfl hio hol);apply aa rfl;exact bf rfl ab rfl rfl rfl aQ;refine aa rfl (ai rfl rfl) (aa rfl (ai rfl rfl) (ar (an (ak (ah (aa rfl (aj rfl rfl) (aa rfl (aj rfl rfl) (ar (an (aB ?_)))))))))))
   refine bz (fun j:Nat=>St.of [(9,vv (I6 D)),(10,o1 (.sl 39 0 M)),(11,vv (I6 i)),(12,vv (I6 (aC out i))),(28,o1 (.sl 21 0 B.length)),(29,vv (I6 B.length)),(30,vv (I6 k)),(40,o1 (.sl 2400 0 out.length)),(41,vv (I6 out.length)),(42,vv (I6 i)),(47,vv (I6 D)),(48,vv (I6 j))] [(21,bG B),(2400,bG out),(39,bG (C8 (nu out D i) i (aC out i) j))]) (fun j=>j≤D) (fun j=>D - j) 0 (Nat.zero_le _) (Wk.of ⟨rfl,rfl,rfl,rfl,rfl,rfl,rfl,rfl,rfl,rfl,rfl,rfl,ag⟩ ⟨rfl,rfl,rfl,ag⟩ trivial) ?_
   rintro j hj
   (refine ak (ah (aa rfl (aG rfl rfl rfl rfl) (ar (an (ak ?_))))))
   refine bK rfl (fun hlt=> ?_) (fun hlt=> ?_)
   ·have hjD:j < D:=by omega
    have hlen:(C8 (nu out D i) i (aC out i) j).length=M:=by rw [we,ox,hM]
    have hijM:i + j < M:=by omega
    have hijl:i + j < (C8 (nu out D i) i (aC out i) j).length:=by omega
    have hnl:M≤(aL (C8 (nu out D i) i (aC out i) j)).length:=by rw [bc,hlen];exact Nat.le_refl _
    have hgn:(aL (C8 (nu out D i) i (aC out i) j))[i + j]? =some (I6 (aC (C8 (nu out D i) i (aC out i) j) (i + j))):=bl hijl
    have hw1:IntKind.i64.wrap ((i:Int) + (j:Int))=((i + j:Nat):Int):=by rw [IntWalk.i64_in _ ae];omega
    (refine aE (an (ak (aB (ak (ah (aa rfl (aj rfl rfl) (aa rfl (ai rfl rfl) (ar (an (ah (aa rfl (aj rfl rfl) ?_)))))))))));refine aa rfl (aj rfl rfl) (aa rfl (aj rfl rfl) ?_);apply aa rfl;(first | exact aP rfl rfl rfl hw1 | exact aR (j:=i + j) rfl rfl rfl rfl rfl ab rfl hijM hnl | exact bf rfl ab rfl rfl rfl hgn | exact dW rfl rfl rfl rfl rfl hijl ab | exact aP rfl rfl rfl (IntWalk.i64_in _ ae) | exact aP rfl rfl rfl rfl);apply aa rfl;(first | exact aP rfl rfl rfl hw1 | exact aR (j:=i + j) rfl rfl rfl rfl rfl ab rfl hijM hnl | exact bf rfl ab rfl rfl rfl hgn | exact dW rfl rfl rfl rfl rfl hijl ab | exact aP rfl rfl rfl (IntWalk.i64_in _ ae) | exact aP rfl rfl rfl rfl);apply aa rfl;(first | exact aP rfl rfl rfl hw1 | exact aR (j:=i + j) rfl rfl rfl rfl rfl ab rfl hijM hnl | exact bf rfl ab rfl rfl rfl hgn | exact dW rfl rfl rfl rfl rfl hijl ab | exact aP rfl rfl rfl (IntWalk.i64_in _ ae) | exact aP rfl rfl rfl rfl);apply aa rfl;exact aj rfl rfl;apply aa rfl;(first | exact aP rfl rfl rfl hw1 | exact aR (j:=i + j) rfl rfl rfl rfl rfl ab rfl hijM hnl | exact bf rfl ab rfl rfl rfl hgn | exact dW rfl rfl rfl rfl rfl hijl ab | exact aP rfl rfl rfl (IntWalk.i64_in _ ae) | exact aP rfl rfl rfl rfl);apply aa rfl;(first | exact aP rfl rfl rfl hw1 | exact aR (j:=i + j) rfl rfl rfl rfl rfl ab rfl hijM hnl | exact bf rfl ab rfl rfl rfl hgn | exact dW rfl rfl rfl rfl rfl hijl ab | exact aP rfl rfl rfl (IntWalk.i64_in _ ae) | exact aP rfl rfl rfl rfl);apply aa rfl;(first | exact aP rfl rfl rfl hw1 | exact aR (j:=i + j) rfl rfl rfl rfl rfl ab rfl hijM hnl | exact bf rfl ab rfl rfl rfl hgn | exact dW rfl rfl rfl rfl rfl hijl ab | exact aP rfl rfl rfl (IntWalk.i64_in _ ae) | exact aP rfl rfl rfl rfl);refine ar (aM (an (ah ?_)));apply aa rfl;(first | exact aP rfl rfl rfl hw1 | exact aR (j:=i + j) rfl rfl rfl rfl rfl ab rfl hijM hnl | exact bf rfl ab rfl rfl rfl hgn | exact dW rfl rfl rfl rfl rfl hijl ab | exact aP rfl rfl rfl (IntWalk.i64_in _ ae) | exact aP rfl rfl rfl rfl);refine aa rfl (aj rfl rfl) (ar ?_))
    exact aW (j + 1) ae ae (Wk.of ⟨rfl,rfl,rfl,rfl,rfl,rfl,rfl,rfl,rfl,rfl,rfl,rfl,ag⟩ ⟨rfl,rfl,congrArg (fun z=>some (bG z)) (yx _ _ _ _).symm,ag⟩ trivial)
   ·obtain rfl:j=D:=by omega
    (refine a7 (aA (aA (aT (aM (an (ah ?_))))));apply aa rfl;exact aP rfl rfl rfl bA;refine aa rfl (aj rfl rfl) (ar ?_))
    exact aW (i + 1) ae ae (Wk.of ⟨rfl,rfl,rfl,rfl,rfl,rfl,rfl,rfl,ag⟩ ⟨rfl,rfl,congrArg (fun z=>some (bG z)) (uW _ _ _).symm,ag⟩ trivial)
  ·obtain rfl:i=out.length:=by omega
   (refine a7 (aA (aA (aT (an (ah (aa rfl (aj rfl rfl) (aa rfl (ai rfl rfl) (ar (aM (an (ah ?_)))))))))));apply aa rfl;exact aP rfl rfl rfl bA;refine aa rfl (aj rfl rfl) (ar ?_))
   exact aW (k + 1) ae ae (Wk.trans (nr (x:=39) (y:=2400) (s:=7) rfl rfl) (Wk.of ⟨congrArg (fun z:Nat=>some (o1 (.sl 2400 0 z))) (show M=(oi B (k + 1)).length by rw [hps,ox,hM]),rfl,rfl,rfl,ag⟩ ⟨rfl,congrArg (fun z=>some (bG z)) hps.symm,ag⟩ trivial))
 ·obtain rfl:k=B.length:=by omega
  (refine a7 (aA (aA (aT (an (ak (ah (aa rfl (aj rfl rfl) (aa rfl (ai rfl rfl) (aa rfl (ai rfl rfl) (ar (an ?_)))))))))));refine aS ?_)
  exact bN (.inl rfl) rfl (.tmp rfl) (.tmp rfl) ⟨rfl,ag⟩ trivial
theorem Ir (zs:List Int) (hn:zs.length≤4398046511104) (h0:eY zs≠0):
  FC Tryz.prog 25 [(1003,dk zs)] [o1 (.sl 1003 0 zs.length)] [] (.tup [.one (.val (.slice none 0 0)), .one (.val (I6 (eY zs)))]) []:=by
 have hI:=jS zs zs.length rfl hn
 rcases xx h0 with ⟨hd,e⟩ | ⟨hd,hf,e⟩
 ·rw [hd] at hI
  rw [e]
  refine bj (nt:=65) Tryz.func25 rfl rfl (by simp) fun w0 ω0=> ?_
  (refine ak (ah (aa rfl (ai rfl rfl) (aa rfl (ai rfl rfl) (ar (an (ak (ak (ah (aa rfl (aj rfl rfl) ?_)))))))));apply aa rfl;(apply au 54;exact aw hI ab rfl rfl ⟨rfl,ag⟩ ⟨⟨_,rfl, .inl rfl⟩,ag⟩ rfl rfl);refine aa rfl (bU rfl rfl) (ar (an ?_)))
  refine ax rfl (fun _=> ?_) (fun e=>by cases e)
  (refine ak (ah (aa rfl (ai rfl rfl) (aa rfl (ai rfl rfl) (ar (an (aS (aO ?_))))))))
  exact bN (.inl rfl) rfl (.tmp rfl) (.tmp rfl) trivial trivial
 ·rw [hd] at hI
  have h4:=c7 hd
  have hA:=ly zs zs.length rfl h4
  have hN:=oU zs zs.length (cB zs) rfl hd (fM h4) hf
  rw [e]
  refine bj (nt:=65) Tryz.func25 rfl rfl (by simp) fun w0 ω0=> ?_
  (refine ak (ah (aa rfl (ai rfl rfl) (aa rfl (ai rfl rfl) (ar (an (ak (ak (ah (aa rfl (aj rfl rfl) ?_)))))))));apply aa rfl;(apply au 54;exact aw hI ab rfl rfl ⟨rfl,ag⟩ ⟨⟨_,rfl, .inl rfl⟩,ag⟩ rfl rfl);refine aa rfl (bU rfl rfl) (ar (an ?_)))
  refine ax rfl (fun e=>by cases e) (fun _=> ?_)
  (refine aE (an (ak (ah (aa rfl (aj rfl rfl) (aa rfl (aj rfl rfl) ?_)))));apply aa rfl;(first | (apply au 57;exact aw hA ab rfl rfl ⟨rfl,ag⟩ ⟨⟨_,rfl, .inl rfl⟩,ag⟩ rfl rfl) | (apply au 65;exact aw hN ab rfl rfl ⟨rfl,rfl,ag⟩ ⟨⟨_,rfl, .inl rfl⟩,ag⟩ rfl rfl));apply aa rfl;(first | (apply au 57;exact aw hA ab rfl rfl ⟨rfl,ag⟩ ⟨⟨_,rfl, .inl rfl⟩,ag⟩ rfl rfl) | (apply au 65;exact aw hN ab rfl rfl ⟨rfl,rfl,ag⟩ ⟨⟨_,rfl, .inl rfl⟩,ag⟩ rfl rfl));refine aa rfl (aj rfl rfl) (aa rfl (aN rfl rfl rfl) (aa rfl (aN rfl rfl rfl) (aa rfl (aN rfl rfl rfl) (aa rfl (ai rfl rfl) (aa rfl (ai rfl rfl) (aa rfl (ai rfl rfl) (ar (an (ak (ak (ah ?_)))))))))));refine aa rfl (aj rfl rfl) (aa rfl (bU rfl rfl) (ar (an ?_))))
  refine ax rfl (fun _=> ?_) (fun e=>by cases e)
  (refine ak (ah (aa rfl (ai rfl rfl) (aa rfl (ai rfl rfl) (ar (an (aS (aO ?_))))))))
  exact bN (.inl rfl) rfl (.tmp rfl) (.tmp rfl) trivial trivial
end Go.Proofs.YtekbhbcgoadciaaGreat
namespace Go.Proofs.YtekbhbcgoadciaaGreat
open Go.RowKit
theorem Ai {E:Nat} {lo hi:Nat} {v:Value} {zs:List Int} (w:World) (h:ff E w lo hi v zs):
  Calls Tryz.prog 25 #[v] w fun e w'=>∃r,e= .returned (.tuple #[r, .int .i64 (eY zs)])∧ff 2 w' w.heap.size w'.heap.size r (y5 zs)∧Below w.heap.size w w':=
 mB (B:=ot zs) rfl (fun h=>by have:=ya (iw h).1;omega) (FD zs) (Ir zs) w h
end Go.Proofs.YtekbhbcgoadciaaGreat
namespace Go.Proofs.YtekbhbcgoadciaaGreat
open Go.RowKit
theorem IE (zs:List Int) (hn:zs.length≤4398046511104):
  FC Tryz.prog 26 [(1003,dk zs)] [o1 (.sl 1003 0 zs.length)] [] (.tup [.one (.val (I6 (oh zs))), .one (.val (I6 (eY zs)))]) []:=by
 have hI:=jS zs zs.length rfl hn
 refine bj (nt:=21) Tryz.func26 rfl rfl (by simp) fun w0 ω0=> ?_
 cases hd:cw zs with
 | false=>
  rw [hd] at hI
  have e:eY zs=1:=by unfold eY gR;rw [hd,if_neg (by simp)]
  unfold oh
  rw [e,if_neg (by decide)]
  (refine ak (ah (aa rfl (ai rfl rfl) (aa rfl (ai rfl rfl) (ar (an (ak (ak (ah (aa rfl (aj rfl rfl) ?_)))))))));apply aa rfl;(apply au 54;exact aw hI ab rfl rfl ⟨rfl,ag⟩ ⟨⟨_,rfl, .inl rfl⟩,ag⟩ rfl rfl);refine aa rfl (bU rfl rfl) (ar (an ?_)))
  refine ax rfl (fun _=> ?_) (fun e=>by cases e)
  (refine ak (ah (aa rfl (ai rfl rfl) (aa rfl (ai rfl rfl) (ar (an (aS (aO ?_))))))))
  exact bN (.inl rfl) rfl (.tmp rfl) (.tmp rfl) trivial trivial
 | true=>
  rw [hd] at hI
  have h4:=c7 hd
  have hA:=ly zs zs.length rfl h4
  unfold oh
  rw [AZ zs hd]
  cases hf:gO zs (cB zs) with
  | false=>
   have hN:=oU zs zs.length (cB zs) rfl hd (fM h4) hf
   rw [if_neg (show ¬(false=true) by simp),if_neg (by decide)]
   (refine ak (ah (aa rfl (ai rfl rfl) (aa rfl (ai rfl rfl) (ar (an (ak (ak (ah (aa rfl (aj rfl rfl) ?_)))))))));apply aa rfl;(apply au 54;exact aw hI ab rfl rfl ⟨rfl,ag⟩ ⟨⟨_,rfl, .inl rfl⟩,ag⟩ rfl rfl);refine aa rfl (bU rfl rfl) (ar (an ?_)))
   refine ax rfl (fun e=>by cases e) (fun _=> ?_)
   (refine aE (an (ak (ah (aa rfl (aj rfl rfl) (aa rfl (aj rfl rfl) ?_)))));apply aa rfl;(first | (apply au 57;exact aw hA ab rfl rfl ⟨rfl,ag⟩ ⟨⟨_,rfl, .inl rfl⟩,ag⟩ rfl rfl) | (apply au 65;exact aw hN ab rfl rfl ⟨rfl,rfl,ag⟩ ⟨⟨_,rfl, .inl rfl⟩,ag⟩ rfl rfl));apply aa rfl;(first | (apply au 57;exact aw hA ab rfl rfl ⟨rfl,ag⟩ ⟨⟨_,rfl, .inl rfl⟩,ag⟩ rfl rfl) | (apply au 65;exact aw hN ab rfl rfl ⟨rfl,rfl,ag⟩ ⟨⟨_,rfl, .inl rfl⟩,ag⟩ rfl rfl));refine aa rfl (aj rfl rfl) (aa rfl (aN rfl rfl rfl) (aa rfl (aN rfl rfl rfl) (aa rfl (aN rfl rfl rfl) (aa rfl (ai rfl rfl) (aa rfl (ai rfl rfl) (aa rfl (ai rfl rfl) (ar (an (ak (ak (ah ?_)))))))))));refine aa rfl (aj rfl rfl) (aa rfl (bU rfl rfl) (ar (an ?_))))
   refine ax rfl (fun _=> ?_) (fun e=>by cases e)
   (refine ak (ah (aa rfl (ai rfl rfl) (aa rfl (ai rfl rfl) (ar (an (aS (aO ?_))))))))
   exact bN (.inl rfl) rfl (.tmp rfl) (.tmp rfl) trivial trivial
  | true=>
   have hY:=(mN zs zs.length (cB zs) rfl hd (fM h4) hf).nm [(1003,1003),(2200,14)] (by kernel_rfl)
   have hY:FC Tryz.prog 65 [(1003,dk zs)] [o1 (.sl 1003 0 zs.length),vv (I6 (cB zs))] [(14,bG (eV zs (cB zs)))] (.tup [.one (.sl 14 0 (fO (comps zs (cB zs)) (comps zs (cB zs)).length).length), .one (.val (I6 (wv zs (cB zs):Nat))), .one (.val (.bool true))]) []:=hY
   rw [if_pos rfl,if_pos rfl]
   (refine ak (ah (aa rfl (ai rfl rfl) (aa rfl (ai rfl rfl) (ar (an (ak (ak (ah (aa rfl (aj rfl rfl) ?_)))))))));apply aa rfl;(apply au 54;exact aw hI ab rfl rfl ⟨rfl,ag⟩ ⟨⟨_,rfl, .inl rfl⟩,ag⟩ rfl rfl);refine aa rfl (bU rfl rfl) (ar (an ?_)))
   refine ax rfl (fun e=>by cases e) (fun _=> ?_)
   (refine aE (an (ak (ah (aa rfl (aj rfl rfl) (aa rfl (aj rfl rfl) ?_)))));apply aa rfl;(first | (apply au 57;exact aw hA ab rfl rfl ⟨rfl,ag⟩ ⟨⟨_,rfl, .inl rfl⟩,ag⟩ rfl rfl) | (apply au 65;exact bg hY ab rfl rfl ⟨rfl,rfl,ag⟩ ⟨⟨_,rfl, .inl rfl⟩,ag⟩ rfl rfl rfl));apply aa rfl;(first | (apply au 57;exact aw hA ab rfl rfl ⟨rfl,ag⟩ ⟨⟨_,rfl, .inl rfl⟩,ag⟩ rfl rfl) | (apply au 65;exact bg hY ab rfl rfl ⟨rfl,rfl,ag⟩ ⟨⟨_,rfl, .inl rfl⟩,ag⟩ rfl rfl rfl));refine aa rfl (aj rfl rfl) (aa rfl (aN rfl rfl rfl) (aa rfl (aN rfl rfl rfl) (aa rfl (aN rfl rfl rfl) (aa rfl (ai rfl rfl) (aa rfl (ai rfl rfl) (aa rfl (ai rfl rfl) (ar (an (ak (ak (ah ?_)))))))))));refine aa rfl (aj rfl rfl) (aa rfl (bU rfl rfl) (ar (an ?_))))
   refine ax rfl (fun e=>by cases e) (fun _=> ?_)
   (refine aE (an (ak (ah (aa rfl (aj rfl rfl) (aa rfl (ai rfl rfl) (aa rfl (ai rfl rfl) (ar (an (aS ?_))))))))))
   exact bN (.inl rfl) rfl (.tmp rfl) (.tmp rfl) trivial trivial
theorem zB {E:Nat} {lo hi:Nat} {v:Value} {zs:List Int} (w:World) (h:ff E w lo hi v zs):
  Calls Tryz.prog 26 #[v] w fun e w'=>e= .returned (.tuple #[.int .i64 (oh zs), .int .i64 (eY zs)])∧Below w.heap.size w w':=fX (xB (fun k=>IE zs k) h)
end Go.Proofs.YtekbhbcgoadciaaGreat
namespace Go.Proofs.YtekbhbcgoadciaaGreat
open Go.RowKit
structure sD (w wr:World) (N:Nat) (ao:Option Addr) (m c:Nat) (us:List Value) (ds:List (List Int)):Prop where
 res:iX wr w.heap.size 46 #[.int .i64 0, .slice none 0 0]
 box:iX wr (w.heap.size + 1) 46 #[.int .i64 N, .slice ao m c]
 row:mx (y6 2) wr (w.heap.size + 2) wr.heap.size 24 ao m c us ds
 size:w.heap.size + 2≤wr.heap.size
 below:Below w.heap.size w wr
 few:m≤1000
theorem sD.push {w wr w2 w3 w4:World} {N m c' n1 c1 c2:Nat} {ao' a1 ao2:Option Addr} {us:List Value} {ds:List (List Int)} {zs:List Int} (st:sD w wr N ao' m c' us ds) (hm:m + 1≤1000)
  (b2:Below wr.heap.size wr w2) (o1:Own w2 wr.heap.size 2 a1 n1 c1 (zs.map (Value.int .i64))) (b3:Below w2.heap.size w2 w3) (o4:Own w4 (w.heap.size + 2) 24 ao2 (m + 1) c2 (us ++ [.slice a1 n1 c1]))
  (g4:w3.grownBy w4 (bk ao')) (hat:bk ao2=bk ao'∨bk ao2=some w3.heap.size):
  sD w (w4.setCell ⟨w.heap.size + 1,1,none⟩ (.slice ao2 (m + 1) c2)) N ao2 (m + 1) c2 (us ++ [.slice a1 n1 c1]) (ds ++ [zs]):=by
 have hR:=C0 st.row st.size b2 o1 b3 o4 g4 hat
 have hsz:=st.size
 have s2:=b2.size
 have s3:=b3.size
 have s4:=g4.size
 have B4:Below (w.heap.size + 2) wr w4:=((b2.trans (b3.mono s2)).mono hsz).grown g4 ae (fun g hg=>(st.row.own.lt g hg).1)
 have hh:(w4.setCell ⟨w.heap.size + 1,1,none⟩ (.slice ao2 (m + 1) c2)).heap.size=w4.heap.size:=by simp [World.setCell]
 refine ⟨(st.res.below B4 ae).Kk (by simp) _, ?_, ?_,by rw [hh];omega,(st.below.trans (B4.mono ae)).setCell (by simp) _,hm⟩
 ·have:=(st.box.below B4 ae).tH 1 (.slice ao2 (m + 1) c2)
  simpa using this
 ·rw [hh]
  exact hR.same (ik _) fun g h1 _ _=>Below.heap_setCell _ _ _ _ (by simp;omega)
theorem sD.done {w wr:World} {N m c':Nat} {ao':Option Addr} {us:List Value} {ds:List (List Int)} (st:sD w wr N ao' m c' us ds):
  iX ((wr.setCell ⟨w.heap.size,0,none⟩ (.int .i64 N)).setCell ⟨w.heap.size,1,none⟩ (.slice ao' m c')) w.heap.size 46 #[.int .i64 N, .slice ao' m c']∧
  mx (y6 2) ((wr.setCell ⟨w.heap.size,0,none⟩ (.int .i64 N)).setCell ⟨w.heap.size,1,none⟩ (.slice ao' m c')) (w.heap.size + 2) ((wr.setCell ⟨w.heap.size,0,none⟩ (.int .i64 N)).setCell ⟨w.heap.size,1,none⟩ (.slice ao' m c')).heap.size 24 ao' m c' us ds∧
  Below w.heap.size w ((wr.setCell ⟨w.heap.size,0,none⟩ (.int .i64 N)).setCell ⟨w.heap.size,1,none⟩ (.slice ao' m c')):=by
 have hh:((wr.setCell ⟨w.heap.size,0,none⟩ (.int .i64 N)).setCell ⟨w.heap.size,1,none⟩ (.slice ao' m c')).heap.size=wr.heap.size:=by simp [World.setCell]
 refine ⟨?_, ?_,(st.below.setCell (by simp) _).setCell (by simp) _⟩
 ·have:=(st.res.tH 0 (.int .i64 N)).tH 1 (.slice ao' m c')
  simpa using this
 ·rw [hh]
  exact st.row.same (ik _) fun g h1 _ _=>by rw [Below.heap_setCell _ _ _ _ (by simp;omega),Below.heap_setCell _ _ _ _ (by simp;omega)]
theorem nH {zs:List Int} {k j:Nat} (h:k < j):gY zs k (j + 1 - (k + 1))=gY zs k (j - (k + 1)) ++ ig zs k j:=by
 rw [show j + 1 - (k + 1)=(j - (k + 1)) + 1 by omega,gY,show k + 1 + (j - (k + 1))=j by omega]
end Go.Proofs.YtekbhbcgoadciaaGreat
namespace Go.Proofs.YtekbhbcgoadciaaGreat
open Go.RowKit
theorem EP (ao:Option Addr) (n c:Nat) (w:World):Calls Tryz.prog 62 #[.slice ao n c] w fun e w'=>e= .returned (.int .i64 n)∧w'=w:=by
 go_enter Tryz.func62,Tryz.ntmps62
 go_wp2
 go_ret
 exact ⟨rfl,rfl⟩
end Go.Proofs.YtekbhbcgoadciaaGreat
