/- The program's coset enumeration: enumerated. guards: -/
import Derived.Test.YtekbhbcgoadciaaGreatPart6
import Derived.Test.YtekbhbcgoadciaaGreatPart1
import Derived.Test.YtekbhbcgoadciaaGreatPart3
import Derived.Test.YtekbhbcgoadciaaGreatPart2
import Derived.Test.YtekbhbcgoadciaaGreatPart5
import Derived.Test.YtekbhbcgoadciaaGreatPart4
set_option maxRecDepth 100000
set_option maxHeartbeats 6400000
namespace Go.Proofs.YtekbhbcgoadciaaGreat
open Go.RowKit
abbrev cE (m n:Nat) (b:Bool):Ch:=⟨true,124,3, .flat [.sl 25 0 m, .sl 26 0 n, .val (.bool b)]⟩
abbrev pE (ng R:Nat):Ch:=⟨true,46,2, .flat [.val (I6 ng), .sl 1003 0 R]⟩
theorem yO {z:Int} (h0:0≤z) (h:z≤1000000000):(Lit.int .i64 z).wf=true:=by
 simp [Lit.wf,IntKind.min,IntKind.max,IntKind.signed,IntKind.bits];omega
theorem nc (ng:Nat) (rels words:List (List Int)) (R m:Nat) (hR:rels.length=R) (hm:words.length=m) (hr:∀w∈rels,bB ng w) (hw:∀w∈words,bB ng w) (hng0:0 < ng) (hng:ng≤1000) (hrl:∀w∈rels,w.length≤1000000000) (hwl:∀w∈words,w.length≤1000000000) (hR2:R≤1000000000) (hm2:m≤1000000000) (X:dR) (hX:CO ng rels words=X):
  FC Tryz.prog 76 [(1002,a6 words),(1003,a6 rels)] [.s (.agg [.val (I6 ng), .sl 1003 0 R]),o1 (.sl 1002 0 m)] (if X.2.2=true then [] else [(131,cT (cj ng X.1 X.2.1))])
   (if X.2.2=true then .tup [.one (.val (.slice none 0 0)), .one (.val (.bool false))] else .tup [.one (.sl 131 0 ng), .one (.val (.bool true))]) []:=by
 have hRp:FC Tryz.prog 118 [(21,⟨false,2,1, .bR (aL [-1])⟩)] [o1 (.sl 21 0 1),vv (I6 ng)] [(24,⟨true,2,1, .bR (aL (List.replicate ng (-1)))⟩)] (o1 (.sl 24 0 ng)) []:=iz 21 24 ng (-1) ae hng0
 have hrep:(aL (List.replicate ng (-1))).length=ng:=by rw [bc];simp
 refine bj (nt:=179) Tryz.func76 rfl rfl (by simp) fun w0 ω0=> ?_
 (refine ak (ah (aa rfl (cF rfl rfl rfl rfl) (aa rfl (ai rfl rfl) (aa rfl (ai rfl rfl) (ar (an (ak (ah ?_))))))));apply aa rfl;(exact bW (E:=2) rfl ab rfl);apply aa rfl;(exact aI (d:=0) rfl rfl rfl ab);apply aa rfl;exact aZ rfl ab rfl rfl rfl rfl;apply aa rfl;(first | (apply au 118;exact bg hRp ab rfl rfl ⟨rfl,rfl,ag⟩ ⟨⟨_,rfl, .inr rfl⟩,ag⟩ rfl rfl rfl) | exact pL (t:=25) (E:=24) (F:=2) rfl ab rfl rfl hrep rfl | exact mr (T:=124) (vs:= [.bool false]) rfl rfl rfl rfl rfl (by as_aux_lemma=>(intros;kernel_rfl)));apply aa rfl;(first | (apply au 118;exact bg hRp ab rfl rfl ⟨rfl,rfl,ag⟩ ⟨⟨_,rfl, .inr rfl⟩,ag⟩ rfl rfl rfl) | exact pL (t:=25) (E:=24) (F:=2) rfl ab rfl rfl hrep rfl | exact mr (T:=124) (vs:= [.bool false]) rfl rfl rfl rfl rfl (by as_aux_lemma=>(intros;kernel_rfl)));apply aa rfl;(exact bW (E:=2) rfl ab rfl);apply aa rfl;(first | (apply au 118;exact bg hRp ab rfl rfl ⟨rfl,rfl,ag⟩ ⟨⟨_,rfl, .inr rfl⟩,ag⟩ rfl rfl rfl) | exact pL (t:=25) (E:=24) (F:=2) rfl ab rfl rfl hrep rfl | exact mr (T:=124) (vs:= [.bool false]) rfl rfl rfl rfl rfl (by as_aux_lemma=>(intros;kernel_rfl)));refine aa rfl (cF rfl rfl rfl rfl) (aa rfl (ai rfl rfl) (ar (an (ak (ak (ah (aa rfl (aj rfl rfl) (aa rfl (bw rfl rfl rfl ab) ?_))))))));refine aa rfl (aj rfl rfl) (ar (an (aB ?_))))
 refine bz (fun j:Nat×dR=>St.of [(2,o1 (.ptr 2 0)),(6,o1 (.ptr 28 0)),(29,o1 (.sl 1002 0 m)),(30,vv (I6 m)),(31,vv (I6 j.1))] [(28,cE j.2.2.1.length j.2.2.1.length j.2.2.2),(25,cT j.2.1),(26,bG j.2.2.1),(1002,a6 words),(1003,a6 rels),(2,pE ng R)])
  (fun j=>j.1≤m∧(words.take j.1).foldl (lD ng) (dG ng)=j.2∧y4 ng 1 j.2) (fun j=>m - j.1) (0,dG ng) ⟨Nat.zero_le _,rfl,zR ng⟩ (Wk.of ⟨rfl,rfl,rfl,rfl,rfl,ag⟩ ⟨rfl,rfl,rfl,rfl,rfl,rfl,ag⟩ trivial) ?_
 rintro ⟨j,M,N,b⟩ ⟨hj,hfo,hok⟩
 dsimp only at hj hfo ⊢
 (refine ak (ah (aa rfl (aG rfl rfl rfl rfl) (ar (an (ak ?_))))))
 refine bK rfl (fun hlt=> ?_) (fun hlt=> ?_)
 ·have hjw:j < words.length:=by omega
  obtain ⟨W,hW⟩:∃W,bn words j=W:=⟨_,rfl⟩
  have hWm:W∈words:=by rw [←hW];exact gb hjw
  obtain ⟨C,hC⟩:∃C,gX ng M N b 0 (W.map Int.toNat)=C:=⟨_,rfl⟩
  have hN0:0 < N.length:=hok.ok.lo
  have hcl:FC Tryz.prog 124 [(28,cE N.length N.length b),(25,cT M),(26,bG N),(1002,a6 words)] [o1 (.ptr 28 0),o1 (.esl 1002 j 0 W.length),vv (I6 (0:Nat))] [(28,cE C.2.1.length C.2.1.length C.2.2),(25,cT C.1),(26,bG C.2.1)] (.tup []) [(0,o1 (.ptr 28 0))]:=
   (qw ng N.length M N b 0 words j W.length W rfl hok.ok.wf hok.full hN0 hok.ok.hi hng hjw hW rfl (hwl W hWm) (hw W hWm) C hC).nm [(1010,28),(1000,25),(1001,26),(1002,1002)] (by kernel_rfl)
  have hfo':(words.take (j + 1)).foldl (lD ng) (dG ng)=C:=by
   rw [jq hjw,List.foldl_append,hfo,hW];exact hC
  have hok':y4 ng 1 C:=by rw [←hC];exact C3 (w:=W) hok ae (hw W hWm)
  have hrow:(bV words)[j]? =some (aL W):=by rw [←hW];exact cf hjw
  (refine aE (an (ak (aB (ak (ah ?_)))));apply aa rfl;exact aR rfl rfl rfl rfl rfl ab a9 aJ a8;apply aa rfl;exact bF rfl ab rfl rfl rfl aQ c8;refine aa rfl (ai rfl rfl) (ar (an (ah (aa rfl (aj rfl rfl) (aa rfl (aj rfl rfl) ?_)))));apply aa rfl;(apply au 124;exact dc [(0,28)] hcl ab rfl rfl ⟨rfl,rfl,rfl,ag⟩ ⟨⟨_,rfl, .inl rfl⟩,⟨_,rfl, .inl rfl⟩,⟨_,rfl, .inl rfl⟩,⟨_,rfl, .inl rfl⟩,ag⟩ ⟨rfl,rfl,rfl,ag⟩ rfl rfl);refine ar (aM (an (ah ?_)));apply aa rfl;exact aP rfl rfl rfl bA;refine aa rfl (aj rfl rfl) (ar ?_))
  exact aW (j + 1,C) ⟨by show j + 1≤m;omega,hfo',hok'⟩ (by show m - (j + 1) < m - j;omega) (Wk.of ⟨rfl,rfl,rfl,rfl,rfl,ag⟩ ⟨rfl,rfl,rfl,rfl,rfl,rfl,ag⟩ trivial)
 ·obtain rfl:j=m:=by omega
  have hX0:outer ng rels 2001 0 (M,N,b)=X:=by rw [←hfo,←hm,List.take_length];exact hX
  clear hfo hlt hj
  (refine a7 (aA (aA (aT (an (ak (ak (ah (aa rfl (ai rfl rfl) (ar (an (aB ?_))))))))))))
  refine bz (fun c:Nat×dR=>St.of [(2,o1 (.ptr 2 0)),(6,o1 (.ptr 28 0)),(9,vv (I6 c.1))] [(28,cE c.2.2.1.length c.2.2.1.length c.2.2.2),(25,cT c.2.1),(26,bG c.2.2.1),(1002,a6 words),(1003,a6 rels),(2,pE ng R)])
   (fun c=>outer ng rels (2001 - c.1) c.1 c.2=X∧c.1≤c.2.2.1.length∧y4 ng 1 c.2) (fun c=>2001 - c.1) (0,(M,N,b)) ⟨hX0,Nat.zero_le _,hok⟩ (Wk.of ⟨rfl,rfl,rfl,ag⟩ ⟨rfl,rfl,rfl,rfl,rfl,rfl,ag⟩ trivial) ?_
  clear hX0 hok
  clear M N b
  rintro ⟨c,M,N,b⟩ ⟨hout,hcl,hok⟩
  dsimp only at hout hcl ⊢
  have hNl:N.length≤2000:=hok.ok.hi
  have hMN:M.length=N.length:=hok.ok.wf.len
  have hS:=sP 25 N.length
  repeat refine ak ?_
  refine cW (St.of [(2,o1 (.ptr 2 0)),(6,o1 (.ptr 28 0)),(9,vv (I6 c)),(52,vv (.bool (decide ((c:Int) < N.length) && !b)))] [(28,cE N.length N.length b),(25,cT M),(26,bG N),(1002,a6 words),(1003,a6 rels),(2,pE ng R)]) ?_ ?_
  ·(refine ah (aa rfl (aj rfl rfl) (aa rfl (aj rfl rfl) (aa rfl (bC rfl rfl rfl) ?_)));apply aa rfl;(exact aI (d:=0) rfl rfl rfl ab);apply aa rfl;exact aZ rfl ab rfl rfl rfl rfl;apply aa rfl;(apply au 125;exact aw hS ab rfl rfl ⟨rfl,ag⟩ trivial rfl rfl);refine aa rfl (aG rfl rfl rfl rfl) (aa rfl (aj rfl rfl) ?_))
   refine bS 46 rfl (fun h=> ?_) (fun h=> ?_)
   ·(apply aH rfl rfl rfl;exact aj rfl rfl;apply aH rfl rfl rfl;exact bC rfl rfl rfl;apply aH rfl rfl rfl;(exact aI (d:=2) rfl rfl rfl ab);apply aH rfl rfl rfl;exact aZ rfl ab rfl rfl rfl rfl;apply aH rfl rfl rfl;exact bU rfl rfl;refine aa rfl (bp rfl rfl rfl) (ar ?_))
    exact aV (Wk.of ⟨rfl,rfl,rfl,by rw [h];rfl,ag⟩ ⟨rfl,rfl,rfl,rfl,rfl,rfl,ag⟩ trivial)
   ·(apply aD rfl rfl rfl rfl rfl;apply aD rfl rfl rfl rfl rfl;apply aD rfl rfl rfl rfl rfl;apply aD rfl rfl rfl rfl rfl;apply aD rfl rfl rfl rfl rfl;refine aa rfl (bD rfl rfl rfl) (ar ?_))
    exact aV (Wk.of ⟨rfl,rfl,rfl,by rw [h];rfl,ag⟩ ⟨rfl,rfl,rfl,rfl,rfl,rfl,ag⟩ trivial)
  (refine an ?_)
  refine ax rfl (fun hc=> ?_) (fun hc=> ?_)
  ·obtain ⟨hlt,rfl⟩:c < N.length∧b=false:=by
    simp at hc;exact ⟨ae,hc.2⟩
   obtain ⟨s0,hs0⟩:∃s0:dR,s0=(M,N,false):=⟨_,rfl⟩
   have hok0:y4 ng N.length s0:=by subst hs0;exact ⟨⟨hok.ok.wf,Nat.le_refl _,hok.ok.hi⟩,fun e=>by cases e⟩
   have houts:outer ng rels (2000 - c) (c + 1) (eo ng rels c s0)=X:=by
    rw [←hout,show 2001 - c=(2000 - c) + 1 by omega,outer,if_pos ⟨hlt,rfl⟩,hs0]
   (refine aE (an (ak (aB (ak (ak (ah ?_))))));apply aa rfl;(exact aI (d:=1) rfl rfl rfl ab);apply aa rfl;exact aZ rfl ab rfl rfl rfl rfl;apply aa rfl;exact bw rfl rfl rfl ab;refine aa rfl (aj rfl rfl) (ar (an (aB ?_))))
   refine bz (fun j:Nat×dR=>St.of [(2,o1 (.ptr 2 0)),(6,o1 (.ptr 28 0)),(9,vv (I6 c)),(56,o1 (.sl 1003 0 R)),(57,vv (I6 R)),(58,vv (I6 j.1))] [(28,cE j.2.2.1.length j.2.2.1.length j.2.2.2),(25,cT j.2.1),(26,bG j.2.2.1),(1002,a6 words),(1003,a6 rels),(2,pE ng R)])
    (fun j=>j.1≤R∧(rels.take j.1).foldl (c9 ng c) s0=j.2∧y4 ng N.length j.2) (fun j=>R - j.1) (0,s0) ⟨Nat.zero_le _,rfl,hok0⟩ (Wk.of (by rw [hs0];exact ⟨rfl,rfl,rfl,rfl,rfl,rfl,ag⟩) (by rw [hs0];exact ⟨rfl,rfl,rfl,rfl,rfl,rfl,ag⟩) trivial) ?_
   generalize hn0:N.length=n0 at *
   have hn02:n0≤2000:=hNl
   clear hout hok hc hs0 hS hMN
   clear hn0
   rintro ⟨j,M,N,b⟩ ⟨hj,hfo,hok⟩
   dsimp only at hj hfo ⊢
   have hNl:N.length≤2000:=hok.ok.hi
   have hNn:n0≤N.length:=hok.ok.lo
   have hcN:c < N.length:=by omega
   (refine ak (ah (aa rfl (aG rfl rfl rfl rfl) (ar (an (ak ?_))))))
   refine bK rfl (fun hjr=> ?_) (fun hjr=> ?_)
   ·have hjw:j < rels.length:=by omega
    obtain ⟨W,hW⟩:∃W,bn rels j=W:=⟨_,rfl⟩
    have hWm:W∈rels:=by rw [←hW];exact gb hjw
    have hrow:(bV rels)[j]? =some (aL W):=by rw [←hW];exact cf hjw
    have hfo':(rels.take (j + 1)).foldl (c9 ng c) s0=c9 ng c (M,N,b) W:=by rw [jq hjw,List.foldl_append,hfo,hW];rfl
    have hok':=Al hok hlt (hr W hWm)
    (refine aE (an (ak (aB (ak (ah ?_)))));apply aa rfl;exact aR rfl rfl rfl rfl rfl ab a9 aJ a8;apply aa rfl;exact bF rfl ab rfl rfl rfl aQ c8;refine aa rfl (ai rfl rfl) (ar (an (ak (ah (aa rfl (aj rfl rfl) (aa rfl (bC rfl rfl rfl) ?_))))));apply aa rfl;(exact aI (d:=1) rfl rfl rfl ab);apply aa rfl;exact aZ rfl ab rfl rfl rfl rfl;apply aa rfl;exact aj rfl rfl;apply aa rfl;exact aR rfl rfl rfl rfl rfl ab a9 aJ a8;apply aa rfl;exact bf rfl ab rfl rfl rfl aQ;refine aa rfl (aj rfl rfl) (aa rfl (aG rfl rfl rfl rfl) (aa rfl (aj rfl rfl) ?_)))
    refine bS 71 rfl (fun h=> ?_) (fun h=> ?_)
    ·have hlv:aC N c=(c:Int):=by simpa using h
     (apply aH rfl rfl rfl;exact aj rfl rfl;apply aH rfl rfl rfl;exact bC rfl rfl rfl;apply aH rfl rfl rfl;(exact aI (d:=2) rfl rfl rfl ab);apply aH rfl rfl rfl;exact aZ rfl ab rfl rfl rfl rfl;apply aH rfl rfl rfl;exact bU rfl rfl;refine aa rfl (bp rfl rfl rfl) (ar (an ?_)))
     refine ax rfl (fun hb=> ?_) (fun hb=> ?_)
     ·obtain rfl:b=false:=by simpa using hb
      obtain ⟨C,hC⟩:∃C,gX ng M N false c (W.map Int.toNat)=C:=⟨_,rfl⟩
      have hliv:fb (M,N,false) c=true:=by show (decide (aC N c=(c:Int)) && !false)=true;simp [hlv]
      have hst:c9 ng c (M,N,false) W=C:=by unfold c9;rw [if_pos hliv];rw [←hC];unfold gX;rw [if_neg (by simp)]
      rw [hst] at hfo' hok'
      have hcl:FC Tryz.prog 124 [(28,cE N.length N.length false),(25,cT M),(26,bG N),(1003,a6 rels)] [o1 (.ptr 28 0),o1 (.esl 1003 j 0 W.length),vv (I6 c)] [(28,cE C.2.1.length C.2.1.length C.2.2),(25,cT C.1),(26,bG C.2.1)] (.tup []) [(0,o1 (.ptr 28 0))]:=
       (qw ng N.length M N false c rels j W.length W rfl hok.ok.wf (fun e=>by cases e) hcN hok.ok.hi hng hjw hW rfl (hrl W hWm) (hr W hWm) C hC).nm [(1010,28),(1000,25),(1001,26),(1002,1003)] (by kernel_rfl)
      (refine ah (aa rfl (aj rfl rfl) (aa rfl (aj rfl rfl) (aa rfl (aj rfl rfl) ?_)));apply aa rfl;(apply au 124;exact dc [(0,28)] hcl ab rfl rfl ⟨rfl,rfl,rfl,ag⟩ ⟨⟨_,rfl, .inl rfl⟩,⟨_,rfl, .inl rfl⟩,⟨_,rfl, .inl rfl⟩,⟨_,rfl, .inl rfl⟩,ag⟩ ⟨rfl,rfl,rfl,ag⟩ rfl rfl);refine ar (aM (an (ah ?_)));apply aa rfl;exact aP rfl rfl rfl bA;refine aa rfl (aj rfl rfl) (ar ?_))
      exact aW (j + 1,C) ⟨by show j + 1≤R;omega,hfo',hok'⟩ (by show R - (j + 1) < R - j;omega) (Wk.of ⟨rfl,rfl,rfl,rfl,rfl,rfl,ag⟩ ⟨rfl,rfl,rfl,rfl,rfl,rfl,ag⟩ trivial)
     ·obtain rfl:b=true:=by simpa using hb
      have hst:c9 ng c (M,N,true) W=(M,N,true):=iH (by unfold fb;simp) W
      rw [hst] at hfo' hok'
      (refine aE (aM (an (ah ?_)));apply aa rfl;exact aP rfl rfl rfl bA;refine aa rfl (aj rfl rfl) (ar ?_))
      exact aW (j + 1,(M,N,true)) ⟨by show j + 1≤R;omega,hfo',hok'⟩ (by show R - (j + 1) < R - j;omega) (Wk.of ⟨rfl,rfl,rfl,rfl,rfl,rfl,ag⟩ ⟨rfl,rfl,rfl,rfl,rfl,rfl,ag⟩ trivial)
    ·have hlv:¬aC N c=(c:Int):=by simpa using h
     have hst:c9 ng c (M,N,b) W=(M,N,b):=iH (by unfold fb;simp [hlv]) W
     rw [hst] at hfo' hok'
     (apply aD rfl rfl rfl rfl rfl;apply aD rfl rfl rfl rfl rfl;apply aD rfl rfl rfl rfl rfl;apply aD rfl rfl rfl rfl rfl;apply aD rfl rfl rfl rfl rfl;refine aa rfl (bD rfl rfl rfl) (ar (an ?_)))
     refine ax rfl (fun e=>by cases e) (fun _=> ?_)
     (refine aE (aM (an (ah ?_)));apply aa rfl;exact aP rfl rfl rfl bA;refine aa rfl (aj rfl rfl) (ar ?_))
     exact aW (j + 1,(M,N,b)) ⟨by show j + 1≤R;omega,hfo',hok'⟩ (by show R - (j + 1) < R - j;omega) (Wk.of ⟨rfl,rfl,rfl,rfl,rfl,rfl,ag⟩ ⟨rfl,rfl,rfl,rfl,rfl,rfl,ag⟩ trivial)
   ·obtain rfl:j=R:=by omega
    have hfull:rels.foldl (c9 ng c) s0=(M,N,b):=by rw [←hfo,←hR,List.take_length]
    obtain ⟨s1,hs1⟩:∃s1:dR,s1=(M,N,b):=⟨_,rfl⟩
    have hok1:y4 ng n0 s1:=by rw [hs1];exact hok
    have hcos:(List.range ng).foldl (dm ng c) s1=eo ng rels c s0:=by unfold eo;rw [hfull,hs1]
    (refine a7 (aA (aA (aT (an (ak (ah ?_))))));apply aa rfl;(exact aI (d:=0) rfl rfl rfl ab);apply aa rfl;exact aZ rfl ab rfl rfl rfl rfl;refine aa rfl (aj rfl rfl) (ar (an (aB ?_))))
    refine bz (fun g:Nat×dR=>St.of [(2,o1 (.ptr 2 0)),(6,o1 (.ptr 28 0)),(9,vv (I6 c)),(84,vv (I6 ng)),(85,vv (I6 g.1))] [(28,cE g.2.2.1.length g.2.2.1.length g.2.2.2),(25,cT g.2.1),(26,bG g.2.2.1),(1002,a6 words),(1003,a6 rels),(2,pE ng j)])
     (fun g=>g.1≤ng∧(List.range g.1).foldl (dm ng c) s1=g.2∧y4 ng n0 g.2) (fun g=>ng - g.1) (0,s1) ⟨Nat.zero_le _,rfl,hok1⟩ (Wk.of (by rw [hs1];exact ⟨rfl,rfl,rfl,rfl,rfl,ag⟩) (by rw [hs1];exact ⟨rfl,rfl,rfl,rfl,rfl,rfl,ag⟩) trivial) ?_
    clear hok hs1 hfull hfo hcN hNl hNn
    rintro ⟨g,M,N,b⟩ ⟨hg,hfo,hok⟩
    dsimp only at hg hfo ⊢
    have hNl:N.length≤2000:=hok.ok.hi
    have hNn:n0≤N.length:=hok.ok.lo
    have hcN:c < N.length:=by omega
    have hMN:M.length=N.length:=hok.ok.wf.len
    have hrc:(bn M c).length=ng:=(show WF ng M N from hok.ok.wf).row c ae
    (refine ak (ah (aa rfl (aG rfl rfl rfl rfl) (ar (an (ak ?_))))))
    refine bK rfl (fun hgl=> ?_) (fun hgl=> ?_)
    ·have hgn:g < ng:=by omega
     have hfo':(List.range (g + 1)).foldl (dm ng c) s1=dm ng c (M,N,b) g:=by rw [List.range_succ,List.foldl_append,hfo];rfl
     have hok':=Cy (g:=g) hok hlt hgn
     (refine aE (an (ak (aB (ak (ah (aa rfl (aj rfl rfl) (aa rfl (ai rfl rfl) (ar (an (ak (ah ?_)))))))))));refine aa rfl (aj rfl rfl) (aa rfl (bC rfl rfl rfl) ?_);apply aa rfl;(exact aI (d:=1) rfl rfl rfl ab);apply aa rfl;exact aZ rfl ab rfl rfl rfl rfl;apply aa rfl;exact aj rfl rfl;apply aa rfl;exact aR rfl rfl rfl rfl rfl ab a9 aJ a8;apply aa rfl;exact bf rfl ab rfl rfl rfl aQ;refine aa rfl (aj rfl rfl) (aa rfl (aG rfl rfl rfl rfl) (aa rfl (aj rfl rfl) ?_)))
     refine bS 97 rfl (fun h=> ?_) (fun h=> ?_)
     ·have hlv:aC N c=(c:Int):=by simpa using h
      (apply aH rfl rfl rfl;exact aj rfl rfl;apply aH rfl rfl rfl;exact bC rfl rfl rfl;apply aH rfl rfl rfl;(exact aI (d:=2) rfl rfl rfl ab);apply aH rfl rfl rfl;exact aZ rfl ab rfl rfl rfl rfl;apply aH rfl rfl rfl;exact bU rfl rfl;refine aa rfl (bp rfl rfl rfl) (aa rfl (aj rfl rfl) ?_))
      refine bS 104 rfl (fun hb=> ?_) (fun hb=> ?_)
      ·obtain rfl:b=false:=by simpa using hb
       have hliv:fb (M,N,false) c=true:=by show (decide (aC N c=(c:Int)) && !false)=true;simp [hlv]
       have hst:dm ng c (M,N,false) g=((ck ng M N c g).1,(ck ng M N c g).2.1,(ck ng M N c g).2.2.1):=by unfold dm;rw [if_pos hliv]
       rw [hst] at hfo' hok'
       (apply aH rfl rfl rfl;exact aj rfl rfl;apply aH rfl rfl rfl;exact bC rfl rfl rfl;apply aH rfl rfl rfl;(exact aI (d:=0) rfl rfl rfl ab);apply aH rfl rfl rfl;exact aZ rfl ab rfl rfl rfl rfl;apply aH rfl rfl rfl;exact aj rfl rfl;apply aH rfl rfl rfl;exact aR rfl rfl rfl rfl rfl ab a9 aJ a8;apply aH rfl rfl rfl;exact bF rfl ab rfl rfl rfl aQ c8;apply aH rfl rfl rfl;exact aj rfl rfl;apply aH rfl rfl rfl;exact bd rfl rfl rfl rfl rfl ab aQ a9 aJ a8;apply aH rfl rfl rfl;exact a5 rfl ab rfl rfl rfl aQ aQ;apply aH rfl rfl rfl;exact aG rfl rfl rfl rfl;refine aa rfl (bp rfl rfl rfl) (ar (an ?_)))
       refine bK rfl (fun he=> ?_) (fun he=> ?_)
       ·have he:bZ M c g < 0:=he
        by_cases hfull:N.length=2000
        ·have hnx:ck ng M N c g=(M,N,true,0):=by unfold ck;rw [if_neg ae,if_pos hfull]
         rw [hnx] at hfo' hok'
         have hD:FC Tryz.prog 126 [(28,cE N.length N.length false),(25,cT M),(26,bG N)] [o1 (.ptr 28 0),vv (I6 c),vv (I6 g)] [(28,cE N.length N.length true),(25,cT M),(26,bG N)] (vv (I6 c)) [(0,o1 (.ptr 28 0))]:=(oS M N N.length N.length c g false hMN ae).nm [(1010,28),(1000,25),(1001,26)] (by kernel_rfl)
         (refine ah (aa rfl (aj rfl rfl) (aa rfl (aj rfl rfl) (aa rfl (aj rfl rfl) ?_)));apply aa rfl;(apply au 126;exact dc [(0,28)] hD ab rfl rfl ⟨rfl,rfl,rfl,ag⟩ ⟨⟨_,rfl, .inl rfl⟩,⟨_,rfl, .inl rfl⟩,⟨_,rfl, .inl rfl⟩,ag⟩ ⟨rfl,rfl,rfl,ag⟩ rfl rfl);refine ar (aM (an (ah ?_)));apply aa rfl;exact aP rfl rfl rfl bA;refine aa rfl (aj rfl rfl) (ar ?_))
         exact aW (g + 1,(M,N,true)) ⟨hgn,hfo',hok'⟩ (by show ng - (g + 1) < ng - g;omega) (Wk.of ⟨rfl,rfl,rfl,rfl,rfl,ag⟩ ⟨rfl,rfl,rfl,rfl,rfl,rfl,ag⟩ trivial)
        ·have hnx:ck ng M N c g=(nD ng M N.length c g,N ++ [(N.length:Int)],false,N.length):=by unfold ck;rw [if_neg ae,if_neg hfull]
         rw [hnx] at hfo' hok'
         have hsn:(N ++ [(N.length:Int)]).length=N.length + 1:=by simp
         have hD:FC Tryz.prog 126 [(28,cE N.length N.length false),(25,cT M),(26,bG N)] [o1 (.ptr 28 0),vv (I6 c),vv (I6 g)] [(28,cE (N.length + 1) (N.length + 1) false),(25,cT (nD ng M N.length c g)),(26,bG (N ++ [(N.length:Int)]))] (vv (I6 N.length)) [(0,o1 (.ptr 28 0))]:=
          (sO ng M N N.length N.length c g false hMN rfl ae hok.ok.wf hcN hgn hng).nm [(1010,28),(1000,25),(1001,26)] (by kernel_rfl)
         (refine ah (aa rfl (aj rfl rfl) (aa rfl (aj rfl rfl) (aa rfl (aj rfl rfl) ?_)));apply aa rfl;(apply au 126;exact dc [(0,28)] hD ab rfl rfl ⟨rfl,rfl,rfl,ag⟩ ⟨⟨_,rfl, .inl rfl⟩,⟨_,rfl, .inl rfl⟩,⟨_,rfl, .inl rfl⟩,ag⟩ ⟨rfl,rfl,rfl,ag⟩ rfl rfl);refine ar (aM (an (ah ?_)));apply aa rfl;exact aP rfl rfl rfl bA;refine aa rfl (aj rfl rfl) (ar ?_))
         exact aW (g + 1,(nD ng M N.length c g,N ++ [(N.length:Int)],false)) ⟨hgn,hfo',hok'⟩ (by show ng - (g + 1) < ng - g;omega) (Wk.of ⟨rfl,rfl,rfl,rfl,rfl,ag⟩ ⟨by dsimp only;rw [hsn];rfl,rfl,rfl,rfl,rfl,rfl,ag⟩ trivial)
       ·have he:¬bZ M c g < 0:=he
        have hnx:ck ng M N c g=(M,N,false,root N (bZ M c g).toNat):=by unfold ck;rw [if_pos ae]
        rw [hnx] at hfo' hok'
        (refine aE (aM (an (ah ?_)));apply aa rfl;exact aP rfl rfl rfl bA;refine aa rfl (aj rfl rfl) (ar ?_))
        exact aW (g + 1,(M,N,false)) ⟨hgn,hfo',hok'⟩ (by show ng - (g + 1) < ng - g;omega) (Wk.of ⟨rfl,rfl,rfl,rfl,rfl,ag⟩ ⟨rfl,rfl,rfl,rfl,rfl,rfl,ag⟩ trivial)
      ·obtain rfl:b=true:=by simpa using hb
       have hst:dm ng c (M,N,true) g=(M,N,true):=jU (by unfold fb;simp) g
       rw [hst] at hfo' hok'
       (apply aD rfl rfl rfl rfl rfl;apply aD rfl rfl rfl rfl rfl;apply aD rfl rfl rfl rfl rfl;apply aD rfl rfl rfl rfl rfl;apply aD rfl rfl rfl rfl rfl;apply aD rfl rfl rfl rfl rfl;apply aD rfl rfl rfl rfl rfl;apply aD rfl rfl rfl rfl rfl;apply aD rfl rfl rfl rfl rfl;apply aD rfl rfl rfl rfl rfl;apply aD rfl rfl rfl rfl rfl;refine aa rfl (bD rfl rfl rfl) (ar (an ?_)))
       refine ax rfl (fun e=>by cases e) (fun _=> ?_)
       (refine aE (aM (an (ah ?_)));apply aa rfl;exact aP rfl rfl rfl bA;refine aa rfl (aj rfl rfl) (ar ?_))
       exact aW (g + 1,(M,N,true)) ⟨hgn,hfo',hok'⟩ (by show ng - (g + 1) < ng - g;omega) (Wk.of ⟨rfl,rfl,rfl,rfl,rfl,ag⟩ ⟨rfl,rfl,rfl,rfl,rfl,rfl,ag⟩ trivial)
     ·have hlv:¬aC N c=(c:Int):=by simpa using h
      have hst:dm ng c (M,N,b) g=(M,N,b):=jU (by unfold fb;simp [hlv]) g
      rw [hst] at hfo' hok'
      (apply aD rfl rfl rfl rfl rfl;apply aD rfl rfl rfl rfl rfl;apply aD rfl rfl rfl rfl rfl;apply aD rfl rfl rfl rfl rfl;apply aD rfl rfl rfl rfl rfl;refine aa rfl (bD rfl rfl rfl) (aa rfl (aj rfl rfl) ?_);apply aD rfl rfl rfl rfl rfl;apply aD rfl rfl rfl rfl rfl;apply aD rfl rfl rfl rfl rfl;apply aD rfl rfl rfl rfl rfl;apply aD rfl rfl rfl rfl rfl;apply aD rfl rfl rfl rfl rfl;apply aD rfl rfl rfl rfl rfl;apply aD rfl rfl rfl rfl rfl;apply aD rfl rfl rfl rfl rfl;apply aD rfl rfl rfl rfl rfl;apply aD rfl rfl rfl rfl rfl;refine aa rfl (bD rfl rfl rfl) (ar (an ?_)))
      refine ax rfl (fun e=>by cases e) (fun _=> ?_)
      (refine aE (aM (an (ah ?_)));apply aa rfl;exact aP rfl rfl rfl bA;refine aa rfl (aj rfl rfl) (ar ?_))
      exact aW (g + 1,(M,N,b)) ⟨hgn,hfo',hok'⟩ (by show ng - (g + 1) < ng - g;omega) (Wk.of ⟨rfl,rfl,rfl,rfl,rfl,ag⟩ ⟨rfl,rfl,rfl,rfl,rfl,rfl,ag⟩ trivial)
    ·obtain rfl:g=ng:=by omega
     have hfg:eo g rels c s0=(M,N,b):=by rw [←hcos,←hfo]
     (refine a7 (aA (aA (aT (aM (an (ah (aa rfl (aj rfl rfl) ?_)))))));apply aa rfl;exact aP rfl rfl rfl bA;refine aa rfl (ai rfl rfl) (ar ?_))
     exact aW (c + 1,(M,N,b)) ⟨by show outer g rels (2001 - (c + 1)) (c + 1) (M,N,b)=X;rw [show 2001 - (c + 1)=2000 - c by omega,←hfg];exact houts,by show c + 1≤N.length;omega,⟨hok.ok.le ae,hok.full⟩⟩ (by show 2001 - (c + 1) < 2001 - c;omega) (Wk.of ⟨rfl,rfl,rfl,ag⟩ ⟨rfl,rfl,rfl,rfl,rfl,rfl,ag⟩ trivial)
  ·have hXs:(M,N,b)=X:=by
    rw [←hout]
    cases hk:2001 - c with
    | zero=>omega
    | succ f=>
     rw [outer,if_neg]
     rintro ⟨h1,h2⟩
     have h1:c < N.length:=h1
     have h2:b=false:=h2
     rw [decide_eq_true (show (c:Int) < N.length by omega),h2] at hc
     cases hc
   clear hout hc hS hcl
   (refine a7 (aA (aA (aT (an (ak (ak (ah (aa rfl (aj rfl rfl) (aa rfl (bC rfl rfl rfl) ?_)))))))));apply aa rfl;(exact aI (d:=2) rfl rfl rfl ab);apply aa rfl;exact aZ rfl ab rfl rfl rfl rfl;refine ar (an ?_))
   refine ax rfl (fun hb=> ?_) (fun hb=> ?_)
   ·subst hb
    subst hXs
    (refine ak (ah (aa rfl (ai rfl rfl) (aa rfl (ai rfl rfl) (ar (an (aS (aO ?_))))))))
    exact bN (.inl rfl) rfl (.tmp rfl) (.tmp rfl) trivial trivial
   ·subst hb
    have hsame:cm ng rels words=X:=by
     rcases pF ng rels words with h | ⟨_,h⟩
     ·exact h.trans hX
     ·rw [hX,←hXs] at h;cases h
    have hF:=gg hr hw (show (cm ng rels words).2.2=false by rw [hsame,←hXs])
    rw [hsame] at hF
    subst hXs
    clear hsame
    dsimp only at hF
    have hn0:=hF.pos
    have hts:=fg hF
    clear hX
    (refine aE (an (ak (ah ?_)));apply aa rfl;(exact bW (E:=2) rfl ab rfl);refine aa rfl (ai rfl rfl) (ar (an (ak (ah ?_)))))
    refine run_makeMap (k:=2) (e:=2) rfl rfl rfl Tryz.underlying2 ab fun b wB ωB hMB=> ?_
    refine so rfl (.inr rfl) rfl Tryz.underlying2 Tryz.underlying2 ab hMB rfl rfl rfl (by decide) (by decide) ae fun wB ωB hMB=> ?_
    (refine aa rfl (aj rfl rfl) (aa rfl (ai rfl rfl) (ar (an (ak (ah ?_)))));apply aa rfl;(exact aI (d:=0) rfl rfl rfl ab);apply aa rfl;exact aZ rfl ab rfl rfl rfl rfl;apply aa rfl;(exact CQ (E:=24) (F:=2) rfl ab ab ab rfl rfl rfl rfl ae);refine aa rfl (ai rfl rfl) (ar (an (ak (ak (ah (aa rfl (ai rfl rfl) (ar (an (aB ?_))))))))))
    have hf0:=D7 hn0
    have htz:=CJ (ng:=ng) (im:=M) (less:=N) (s:=dE N.length)
    refine ti (fun q:Nat×je=>St.of [(2,o1 (.ptr 2 0)),(6,o1 (.ptr 28 0)),(13,o1 (.sl 126 0 q.2.1.length)),(14,vv (.map (some b))),(15,o1 (.sl 131 0 ng)),(16,vv (I6 q.1))] [(28,cE N.length N.length false),(25,cT M),(26,bG N),(2,pE ng R),(126,bG q.2.1),(131,cT (gN ng M N q.2 q.1 0))])
     (fun q wB ωB=>q.1≤q.2.1.length∧pn N.length N q.2∧jc ng M N q.2 q.1 0∧da ng M N (N.length + 1 - q.1) q.1 q.2=bO ng M N∧MB Tryz.prog 2 2 w0 ω0.own b (fN q.2.2) q.2.1.length wB ωB) (fun q=>N.length + 1 - q.1) (0,dE N.length) ⟨Nat.zero_le _,hts,jc.zero,rfl,by rw [←hf0];exact hMB⟩ (Wk.of ⟨rfl,rfl,rfl,rfl,rfl,rfl,ag⟩ ⟨rfl,rfl,rfl,rfl,rfl,by dsimp only;rw [htz];rfl,ag⟩ trivial) ?_
    clear hMB hf0 htz
    clear wB ωB
    rintro ⟨i,O,T⟩ wB ωB ⟨hi,htok,hseen,hnum,hMB⟩
    dsimp only at hi hnum hMB ⊢
    have hOl:O.length≤N.length:=htok.le
    (refine ak (ak (ah (aa rfl (aj rfl rfl) (aa rfl (aj rfl rfl) (aa rfl (bw rfl rfl rfl ab) ?_)))));refine aa rfl (aG rfl rfl rfl rfl) (ar (an ?_)))
    refine bK rfl (fun hlt=> ?_) (fun hlt=> ?_)
    ·have hlt':i < O.length:=by omega
     have hnum':da ng M N (N.length - i) (i + 1) (iS ng M N i (O,T))=bO ng M N:=by
      rw [←hnum,show N.length + 1 - i=(N.length - i) + 1 by omega]
      exact (oT hlt').symm
     obtain ⟨s0,hs0⟩:∃s0:je,s0=(O,T):=⟨_,rfl⟩
     obtain ⟨d,hd1,hd2,hd3, -⟩:=htok.live i hlt'
     dsimp only at hd1
     have hrow:∀n,n≤ng→pn N.length N ((List.range n).foldl (cY M N i) s0)∧eS s0 ((List.range n).foldl (cY M N i) s0):=fun n hn=>
      have:=eG hF (i:=i) (s:=s0) (by rw [hs0];exact htok) (by rw [hs0];exact hlt') n hn
      ⟨this.1,this.2.1⟩
     have hfin:da ng M N (N.length - i) (i + 1) ((List.range ng).foldl (cY M N i) s0)=bO ng M N:=by rw [hs0];exact hnum'
     have hO0:s0.1.length=O.length:=by rw [hs0]
     have hd0:aC s0.1 i=(d:Int):=by rw [hs0];exact hd1
     (refine aE (an (ak (aB (ak (ah ?_)))));apply aa rfl;(exact aI (d:=0) rfl rfl rfl ab);apply aa rfl;exact aZ rfl ab rfl rfl rfl rfl;refine aa rfl (aj rfl rfl) (ar (an (aB ?_))))
     refine ti (fun q:Nat×je=>St.of [(2,o1 (.ptr 2 0)),(6,o1 (.ptr 28 0)),(13,o1 (.sl 126 0 q.2.1.length)),(14,vv (.map (some b))),(15,o1 (.sl 131 0 ng)),(16,vv (I6 i)),(139,vv (I6 ng)),(140,vv (I6 q.1))] [(28,cE N.length N.length false),(25,cT M),(26,bG N),(2,pE ng R),(126,bG q.2.1),(131,cT (gN ng M N q.2 i q.1))])
      (fun q wB ωB=>q.1≤ng∧(List.range q.1).foldl (cY M N i) s0=q.2∧jc ng M N q.2 i q.1∧MB Tryz.prog 2 2 w0 ω0.own b (fN q.2.2) q.2.1.length wB ωB) (fun q=>ng - q.1) (0,(O,T)) ⟨Nat.zero_le _,hs0,hseen,hMB⟩ (Wk.of ⟨rfl,rfl,rfl,rfl,rfl,rfl,rfl,rfl,ag⟩ ⟨rfl,rfl,rfl,rfl,rfl,rfl,ag⟩ trivial) ?_
     clear hnum hnum' htok hs0 hd1 hMB hseen
     generalize O.length=on at *
     clear wB ωB
     rintro ⟨g,O,T⟩ wB ωB ⟨hg,hfo,hseen,hMB⟩
     dsimp only at hg hfo hMB ⊢
     obtain ⟨tok,grw⟩:=hrow g hg
     rw [hfo] at tok grw
     have hiO:i < O.length:=Nat.lt_of_lt_of_le ae grw.len
     have hOl':O.length≤N.length:=tok.le
     have hTl:T.length=N.length:=tok.len
     have hdO:aC O i=(d:Int):=(grw.pre i ae).trans hd0
     have hget:(aL O)[i]? =some (I6 (d:Int)):=by rw [bl hiO,hdO]
     (refine ak (ah (aa rfl (aG rfl rfl rfl rfl) (ar (an (ak ?_))))))
     refine bK rfl (fun h2=> ?_) (fun h2=> ?_)
     ·have hgn:g < ng:=by omega
      obtain ⟨e,he1,he2,_⟩:=hF.image hd2 hd3 hgn
      have hI:FC Tryz.prog 127 [(28,⟨false,124,3, .flat [.sl 25 0 N.length, .sl 26 0 N.length, .val (.bool false)]⟩),(25,jg M),(26,oW N)] [o1 (.ptr 28 0),vv (I6 d),vv (I6 g)] [] (vv (I6 e)) []:=by
       have:=(mL M N N.length N.length d g false hMN rfl hF.wf.down ae (by rw [hF.wf.row d ae];exact hgn) (hF.wf.bZ d g ae hgn)).nm [(1010,28),(1000,25),(1001,26)] (by kernel_rfl)
       rw [he1] at this
       exact this
      have hSz:=rE 126 O.length
      obtain ⟨V,hV⟩:∃V:je,visit (O,T) e=V:=⟨_,rfl⟩
      have hst:(List.range (g + 1)).foldl (cY M N i) s0=V:=by
       rw [List.range_succ,List.foldl_append,hfo,←hV]
       show visit (O,T) (image M N (aC O i).toNat g).toNat=_
       rw [hdO,Int.toNat_natCast,he1,Int.toNat_natCast]
      have hseen':jc ng M N V i (g + 1):=by rw [←hV];exact hseen.visit tok hiO hdO he1 he2
      have hgr:gN ng M N (O,T) i g=gN ng M N V i g:=by rw [←hV];exact CV (fI _ _) hseen
      have htc:iN M N V g i=aC V.2 e:=by rw [←hV];exact ry hiO hdO he1
      have hset:=DZ (im:=M) (less:=N) (s:=V) (i:=i) hgn
      rw [htc] at hset
      have hfs:=F2 (M:=T) (e:=e) ae
      have hwe:(Lit.int .i64 (e:Int)).wf=true:=yO ae ae
      (refine aE (an (ak (aB (ak (ah (aa rfl (aj rfl rfl) (aa rfl (ai rfl rfl) (ar (an (ak (ah ?_)))))))))));refine aa rfl (aj rfl rfl) (aa rfl (aj rfl rfl) (aa rfl (aj rfl rfl) ?_));apply aa rfl;exact aR rfl rfl rfl rfl rfl ab a9 aJ a8;apply aa rfl;exact bf rfl ab rfl rfl rfl aQ;apply aa rfl;exact aj rfl rfl;apply aa rfl;(apply au 127;exact aw hI ab rfl rfl ⟨rfl,rfl,rfl,ag⟩ ⟨⟨_,rfl, .inr rfl⟩,⟨_,rfl, .inr rfl⟩,⟨_,rfl, .inr rfl⟩,ag⟩ rfl rfl);refine aa rfl (ai rfl rfl) (ar (an (ak (ah (aa rfl (aj rfl rfl) (aa rfl (aj rfl rfl) ?_)))))))
      refine zm (t:=153) rfl rfl rfl rfl Tryz.underlying2 Tryz.underlying2 ab ab hMB rfl rfl hwe ?_
      (refine aa rfl (aj rfl rfl) (aa rfl (aN rfl rfl rfl) (aa rfl (aN rfl rfl rfl) (aa rfl (ai rfl rfl) (aa rfl (ai rfl rfl) (ar (an (ak (ak (ah (aa rfl (aj rfl rfl) (aa rfl (bU rfl rfl) ?_)))))))))));refine ar (an ?_))
      refine zJ (St.of [(2,o1 (.ptr 2 0)),(6,o1 (.ptr 28 0)),(13,o1 (.sl 126 0 V.1.length)),(14,vv (.map (some b))),(15,o1 (.sl 131 0 ng)),(16,vv (I6 i)),(17,vv (I6 g)),(19,vv (I6 (aC V.2 e))),(139,vv (I6 ng)),(140,vv (I6 g))] [(28,cE N.length N.length false),(25,cT M),(26,bG N),(2,pE ng R),(126,bG V.1),(131,cT (gN ng M N V i g))])
       (fun wB ωB=>MB Tryz.prog 2 2 w0 ω0.own b (fN V.2) V.1.length wB ωB) rfl (fun hc=> ?_) (fun hc=> ?_) ?_
      ·have hneg:aC T e < 0:=by
        rw [hfs.1] at hc;simp at hc;omega
       obtain rfl:V=(O ++ [(e:Int)],T.set e (O.length:Int)):=by rw [←hV];exact if_pos hneg
       have hnum0:aC (T.set e (O.length:Int)) e=(O.length:Int):=by rw [cK,if_pos ⟨rfl,ae⟩]
       have hfset:=D6 (M:=T) (e:=e) (v:=(O.length:Int)) ae ae
       (refine ak (ah (aa rfl (aj rfl rfl) ?_));apply aa rfl;(apply au 62;exact aw hSz ab rfl rfl ⟨rfl,ag⟩ trivial rfl rfl);refine aa rfl (ai rfl rfl) (ar (an (ak (ah (aa rfl (aj rfl rfl) (aa rfl (aj rfl rfl) (aa rfl (aj rfl rfl) ?_))))))))
       refine so rfl (.inl rfl) rfl Tryz.underlying2 Tryz.underlying2 ab hMB rfl rfl rfl hwe (yO ae ae) ae fun wB ωB hMB=> ?_
       (refine ar (an (ah (aa rfl (aj rfl rfl) (aa rfl (aj rfl rfl) ?_))));apply aa rfl;(exact bW (E:=2) rfl ab rfl);apply aa rfl;(exact bE rfl ab rfl rfl rfl (by first | rfl | assumption | (simp;done)) rfl rfl ae);refine aa rfl (ai rfl rfl) (ar ?_))
       exact uG (by dsimp only;rw [←hfset,List.length_append];exact hMB) (Wk.of ⟨rfl,rfl,by simp;rfl,rfl,rfl,rfl,rfl,by rw [hnum0];rfl,rfl,rfl,ag⟩ ⟨rfl,rfl,rfl,rfl,rfl,by rw [←hgr];rfl,ag⟩ trivial)
      ·have hneg:0≤aC T e:=by
        rw [hfs.1] at hc;simpa using hc
       obtain rfl:V=(O,T):=by rw [←hV];exact if_neg (by show ¬aC T e < 0;omega)
       (refine aE ?_)
       exact uG hMB (Wk.of ⟨rfl,rfl,rfl,rfl,rfl,rfl,rfl,by rw [←hfs.2 hneg];rfl,rfl,rfl,ag⟩ ⟨rfl,rfl,rfl,rfl,rfl,rfl,ag⟩ trivial)
      clear hMB
      clear wB ωB
      intro wB ωB hMB
      have hrw0:bn (gN ng M N V i g) g=(List.range i).map (iN M N V g):=DV hgn
      have htl:(gN ng M N V i g).length=ng:=DK
      obtain ⟨row,hrow1⟩:∃row,(List.range i).map (iN M N V g)=row:=⟨_,rfl⟩
      have hrl1:row.length=i:=by rw [←hrow1];simp
      rw [hrow1] at hrw0 hset
      have hset2:(bV (gN ng M N V i g)).set g (aL (row ++ [aC V.2 e]))=bV (gN ng M N V i (g + 1)):=by rw [pz,hset]
      have hrg:(bV (gN ng M N V i g))[g]? =some (aL row):=by rw [cf ae,hrw0]
      (refine an (ah (aa rfl (aj rfl rfl) (aa rfl (aj rfl rfl) (aa rfl (aj rfl rfl) (aa rfl (aj rfl rfl) ?_)))));apply aa rfl;exact aR rfl rfl rfl rfl rfl ab a9 aJ a8;apply aa rfl;exact bF rfl ab rfl rfl rfl aQ c8;apply aa rfl;exact aj rfl rfl;apply aa rfl;(exact bW (E:=2) rfl ab rfl))
      refine Aw (bX (n:=131) (z:=172) (s:=172) rfl rfl hrg (bc row) rfl) ?_
      (apply aa rfl;(exact bE rfl ab rfl rfl rfl (by first | rfl | assumption | (simp;done)) rfl rfl ae);apply aa rfl;exact aR rfl rfl rfl rfl rfl ab a9 aJ a8;apply aa rfl;(exact bI (n:=131) (z:=172) (i:=g) rfl rfl (by simp) rfl rfl (by rw [bc];simp) rfl (by rw [cZ];omega) ab);refine ar (aM (an (ah ?_)));apply aa rfl;exact aP rfl rfl rfl bA;refine aa rfl (aj rfl rfl) (ar ?_))
      exact rR (g + 1,V) ⟨hgn,hst,hseen',hMB⟩ (by show ng - (g + 1) < ng - g;omega) (Wk.of ⟨rfl,rfl,rfl,rfl,rfl,rfl,rfl,rfl,ag⟩ ⟨rfl,rfl,rfl,rfl,rfl,congrArg (fun l=>some (⟨true,24,1, .rows 2 l []⟩:Ch)) hset2,ag⟩ trivial)
     ·obtain rfl:g=ng:=by omega
      (refine a7 (aA (aA (aT (aM (an (ah (aa rfl (aj rfl rfl) ?_)))))));apply aa rfl;exact aP rfl rfl rfl bA;refine aa rfl (ai rfl rfl) (ar ?_))
      exact rR (i + 1,(O,T)) ⟨hiO,tok,hseen.next,by rw [←hfin,hfo];show da _ _ _ (N.length + 1 - (i + 1)) _ _=_;rw [show N.length + 1 - (i + 1)=N.length - i by omega],hMB⟩ (by show N.length + 1 - (i + 1) < N.length + 1 - i;omega) (Wk.of ⟨rfl,rfl,rfl,rfl,rfl,rfl,ag⟩ ⟨rfl,rfl,rfl,rfl,rfl,by dsimp only;rw [←BI];rfl,ag⟩ trivial)
    ·have hio:i=O.length:=by omega
     have hOM:bO ng M N=(O,T):=by
      rw [←hnum,show N.length + 1 - i=(N.length - i) + 1 by omega,da,if_neg (by show ¬i < O.length;omega)]
     have htd:=BN hOM
     subst hio
     rw [htd]
     (refine a7 (aA (aA (aT (an (ak (ah (aa rfl (aj rfl rfl) (aa rfl (ai rfl rfl) (aa rfl (ai rfl rfl) (ar (an ?_)))))))))));refine aS ?_)
     refine EL hMB.fr ?_
     exact bN (.inl rfl) rfl (.tmp rfl) (.tmp rfl) ⟨rfl,ag⟩ trivial
end Go.Proofs.YtekbhbcgoadciaaGreat
namespace Go.Proofs.YtekbhbcgoadciaaGreat
open Go.RowKit
def di (hi:Int) (zs:List Int):Bool:=decide (zs.length≤64) && zs.all (fun z=>kY z 0 hi)
def fl (d:du):Bool:=kY d.1 1 5 && decide (d.2.length≤24) && d.2.all (fun zs=>di (d.1 - 1) zs && decide (1≤zs.length))
theorem jA (g:Int) (ao:Option Addr) (n c:Nat) (zs:List Int) (w:World) (h:dC w ao n zs) (hg0:0≤g) (hg1:g≤1000):
  Calls Tryz.prog 174 #[.int .i64 g, .slice ao n c] w fun e w'=>e= .returned (.bool (di (g - 1) zs))∧w'=w:=by
 have hn:=h.2.1
 have hl:=h.1
 have HL:=Lib.hid hl
 clear hl
 go_enter Tryz.func174,Tryz.ntmps174
 go_wp2
 go_loop [5] (fun i=>∃k:Nat,k≤n∧i= .int .i64 k∧(zs.take k).all (fun z=>kY z 0 (g - 1))=true) (fun i=>n - (intOf i).toNat)
 case atStart=>exact ⟨0,Nat.zero_le _,rfl,by simp⟩
 case round=>
  obtain ⟨k,hk,rfl,hpre⟩:=hrel
  have HP:=Lib.hid hpre
  clear hpre
  by_cases hlt:k < n
  ·obtain ⟨b,off,rfl,hc⟩:=h.at_ hlt
   have HH:=Lib.hid h
   clear h
   cases hp:kY (aC zs k) 0 (g - 1) with
   | true=>
    have HX:=Lib.hid hp
    clear hp
    go_wp2_with (go_at_call 105;refine (gx _ _ _ _).mono ?_;rintro e w' ⟨rfl,rfl⟩;rw [HX.out])
    go_round
    case rel=>exact ⟨k + 1,ae,by go_num,by rw [kB (by rw [HL.out];exact hlt),HP.out,HX.out];rfl⟩
    case measure=>simp [intOf];omega
   | false=>
    have HX:=Lib.hid hp
    clear hp
    go_wp2_with (go_at_call 105;refine (gx _ _ _ _).mono ?_;rintro e w' ⟨rfl,rfl⟩;rw [HX.out])
    go_ret
    exact ⟨cx (by unfold di;rw [og (by rw [HL.out];exact hlt) HX.out];simp),rfl⟩
  ·obtain rfl:k=n:=by omega
   go_wp2
   go_ret
   exact ⟨cx (by have:=HP.out;rw [List.take_of_length_le (Nat.le_of_eq HL.out)] at this;unfold di;rw [this,HL.out];simp;omega),rfl⟩
theorem tD {zss:List (List Int)} {p:List Int→Bool} {k:Nat} (h:k < zss.length):(zss.take (k + 1)).all p=((zss.take k).all p && p (bn zss k)):=by
 rw [jq h,List.all_append];simp
theorem tV {zss:List (List Int)} {p:List Int→Bool} {k:Nat} (h:k < zss.length):(zss.take (k + 1)).any p=((zss.take k).any p || p (bn zss k)):=by
 rw [jq h,List.any_append];simp
theorem lR {zss:List (List Int)} {p:List Int→Bool} {k:Nat} (h:k < zss.length) (hp:p (bn zss k)=false):zss.all p=false:=by
 rw [List.all_eq_false];exact ⟨_,gb h,by simp [hp]⟩
def gu (g:Int) (least:Nat) (zss:List (List Int)):Bool:=decide (zss.length≤24) && zss.all (fun zs=>di (g - 1) zs && decide (least≤zs.length))
theorem iZ (g:Int) (least:Nat) (ao:Option Addr) (n c:Nat) (zss:List (List Int)) (w:World) (h:kn w ao n zss) (hg0:0≤g) (hg1:g≤1000):
  Calls Tryz.prog 153 #[.int .i64 g, .slice ao n c, .int .i64 (least:Int)] w fun e w'=>e= .returned (.bool (gu g least zss))∧w'=w:=by
 have hn:=h.2.1
 have hl:=h.1
 have HL:=Lib.hid hl
 clear hl
 go_enter Tryz.func153,Tryz.ntmps153
 go_wp2
 go_loop [7] (fun i=>∃k:Nat,k≤n∧i= .int .i64 k∧(zss.take k).all (fun zs=>di (g - 1) zs && decide (least≤zs.length))=true) (fun i=>n - (intOf i).toNat)
 case atStart=>exact ⟨0,Nat.zero_le _,rfl,by simp⟩
 case round=>
  obtain ⟨k,hk,rfl,hpre⟩:=hrel
  have HP:=Lib.hid hpre
  clear hpre
  by_cases hlt:k < n
  ·obtain ⟨b,off,a1,n1,c1,rfl,hc,hin⟩:=h.at_ hlt
   have hn1:=hin.2.1
   have HN:=Lib.hid hin.1
   have HH:=Lib.hid h
   clear h
   cases hp:di (g - 1) (bn zss k) with
   | true=>
    have HX:=Lib.hid hp
    clear hp
    by_cases hz:least≤n1
    ·have hd:decide ((n1:Int) < least)=false:=by simp;omega
     go_wp2_with (go_at_call 174;refine (jA g a1 n1 c1 _ _ hin hg0 hg1).mono ?_;rintro e w' ⟨rfl,rfl⟩;rw [HX.out])
     go_round
     case rel=>exact ⟨k + 1,ae,by go_num,by rw [tD (by rw [HL.out];exact hlt),HP.out,HX.out,HN.out];simp [hz]⟩
     case measure=>simp [intOf];omega
    ·have hd:decide ((n1:Int) < least)=true:=by simp;omega
     go_wp2_with (go_at_call 174;refine (jA g a1 n1 c1 _ _ hin hg0 hg1).mono ?_;rintro e w' ⟨rfl,rfl⟩;rw [HX.out])
     go_ret
     exact ⟨cx (by unfold gu;rw [lR (k:=k) (by rw [HL.out];exact hlt) (by rw [HX.out,HN.out];simp;omega)];simp),rfl⟩
   | false=>
    have HX:=Lib.hid hp
    clear hp
    go_wp2_with (go_at_call 174;refine (jA g a1 n1 c1 _ _ hin hg0 hg1).mono ?_;rintro e w' ⟨rfl,rfl⟩;rw [HX.out])
    go_ret
    exact ⟨cx (by unfold gu;rw [lR (k:=k) (by rw [HL.out];exact hlt) (by rw [HX.out];rfl)];simp),rfl⟩
  ·obtain rfl:k=n:=by omega
   go_wp2
   go_ret
   exact ⟨cx (by have:=HP.out;rw [List.take_of_length_le (Nat.le_of_eq HL.out)] at this;unfold gu;rw [this,HL.out];simp;omega),rfl⟩
theorem nL {d:du} (h:kY d.1 1 5=false):fl d=false:=by unfold fl;rw [h];rfl
theorem pT {d:du} (h:kY d.1 1 5=true):fl d=gu d.1 1 d.2:=by unfold fl gu;rw [h];simp
theorem oX {v:Value} {d:du} (w:World) (h:JN w v d):
  Calls Tryz.prog 152 #[v] w fun e w'=>e= .returned (.bool (fl d))∧Below w.heap.size w w':=by
 obtain ⟨ao,n,c,rfl,hi⟩:=h
 have hb:=below_alloc1 w (.cells #[.int .i64 d.1, .slice ao n c] 46)
 cases hg:kY d.1 1 5 with
 | true=>
  have HX:=Lib.hid hg
  have hg':=fC.1 hg
  clear hg
  go_enter Tryz.func152,Tryz.ntmps152
  go_wp2_with (go_at_call 105;refine (gx _ _ _ _).mono ?_;rintro e w' ⟨rfl,rfl⟩;rw [HX.out])
  refine (iZ d.1 1 ao n c d.2 _ (hi.below hb) ae ae).mono ?_
  rintro e w1 ⟨rfl,rfl⟩
  go_wp2
  go_ret
  exact ⟨cx (pT HX.out).symm,hb⟩
 | false=>
  have HX:=Lib.hid hg
  clear hg
  go_enter Tryz.func152,Tryz.ntmps152
  go_wp2_with (go_at_call 105;refine (gx _ _ _ _).mono ?_;rintro e w' ⟨rfl,rfl⟩;rw [HX.out])
  go_ret
  exact ⟨cx (nL HX.out).symm,hb⟩
end Go.Proofs.YtekbhbcgoadciaaGreat
namespace Go.Proofs.YtekbhbcgoadciaaGreat
open Go.RowKit
theorem qT (z lo hi:Int) (b1 b2:Nat) (w:World) (h1:w.cell? ⟨b1,0,none⟩=some (.int .i64 lo)) (h2:w.cell? ⟨b2,0,none⟩=some (.int .i64 hi)):
  Calls Tryz.prog 173 #[.int .i64 z, .pointer (some ⟨b1,0,none⟩), .pointer (some ⟨b2,0,none⟩)] w fun e w'=>e= .returned (.bool (!kY z lo hi))∧w'=w:=by
 go_enter Tryz.func173,Tryz.ntmps173
 go_wp2_with (go_at_call 61;refine (ir _ _ _ _).mono ?_;rintro e w' ⟨rfl,rfl⟩)
 go_ret
 exact ⟨rfl,rfl⟩
theorem tL (ao:Option Addr) (n c:Nat) (zs:List Int) (lo hi:Int) (w:World) (h:dC w ao n zs):
  Calls Tryz.prog 148 #[.slice ao n c, .int .i64 lo, .int .i64 hi] w fun e w'=>e= .returned (.bool (zs.all (fun z=>kY z lo hi)))∧Below w.heap.size w w':=by
 have hmf:∀(fn:Fn) (first cap:Array Value) (w:World),(Instr.makeFunc fn first cap).run Tryz.prog w= .ok (.func fn first cap) w:=fun _ _ _ _=>rfl
 have hany:zs.any (fun z=> !kY z lo hi)= !(zs.all (fun z=>kY z lo hi)):=by rw [List.any_eq_not_all_not];simp
 have HA:=Lib.hid hany
 clear hany
 have hb:=below_alloc2 w (.cells #[.int .i64 lo] 2) (.cells #[.int .i64 hi] 2)
 have k1:iX ((w.alloc (.cells #[.int .i64 lo] 2)).alloc (.cells #[.int .i64 hi] 2)) w.heap.size 2 #[.int .i64 lo]:=(jK rfl).alloc _
 have k2:iX ((w.alloc (.cells #[.int .i64 lo] 2)).alloc (.cells #[.int .i64 hi] 2)) (w.heap.size + 1) 2 #[.int .i64 hi]:=jK (by simp)
 go_enter Tryz.func148,Tryz.ntmps148
 go_wp2_with fail
 refine (kV 173 #[.pointer (some ⟨w.heap.size,0,none⟩), .pointer (some ⟨w.heap.size + 1,0,none⟩)] (fun z=> !kY z lo hi) ao n c zs _ (h.below hb) (fun _ _=>by rfl)
  (fun j hj w' hb'=>(qT _ lo hi w.heap.size (w.heap.size + 1) w' ((k1.mh hb').cell 0) ((k2.mh hb').cell 0)).mono ?_)).mono ?_
 ·rintro e w1 ⟨rfl,rfl⟩;exact ⟨rfl,Below.refl _ _⟩
 rintro e w1 ⟨rfl,hb1⟩
 go_wp2
 go_ret
 exact ⟨cx (by rw [HA.out];simp),hb.trans (hb1.mono hb.size)⟩
theorem ni (g:Int) (ao:Option Addr) (n c:Nat) (zs:List Int) (w:World) (h:dC w ao n zs) (hg0:0≤g) (hg1:g≤1000):
  Calls Tryz.prog 123 #[.slice ao n c, .int .i64 g] w fun e w'=>e= .returned (.bool (di (g - 1) zs))∧Below w.heap.size w w':=by
 have HL:=Lib.hid h.1
 have hn:=h.2.1
 by_cases hs:n≤64
 ·have h1:decide ((n:Int)≤64)=true:=by simp;omega
  go_enter Tryz.func123,Tryz.ntmps123
  go_wp2_with fail
  refine (tL ao n c zs _ _ _ h).mono ?_
  rintro e w1 ⟨rfl,hb1⟩
  go_wp2
  go_ret
  exact ⟨cx (by unfold di;rw [HL.out];simp [hs]),hb1⟩
 ·have h1:decide ((n:Int)≤64)=false:=by simp;omega
  go_enter Tryz.func123,Tryz.ntmps123
  go_wp2
  go_ret
  exact ⟨cx (by unfold di;rw [HL.out];simp;intro;omega),Below.refl _ _⟩
def sf (p:List Int→Bool) (zss:List (List Int)):Int:=match zss.findIdx? p with | some i=>i | none=> -1
theorem rZ {p:List Int→Bool} {zss:List (List Int)} (h:zss.any p=false):sf p zss= -1:=by
 have:zss.findIdx? p=none:=by rw [List.findIdx?_eq_none_iff];intro x hx;have:=(List.any_eq_false.1 h) x hx;simpa using this
 simp [sf,this]
theorem zS {p:List Int→Bool} {zss:List (List Int)} {k:Nat} (hk:k < zss.length) (hn:(zss.take k).any p=false) (hp:p (bn zss k)=true):sf p zss=k:=by
 have:zss.findIdx? p=some k:=by
  rw [List.findIdx?_eq_some_iff_getElem]
  refine ⟨hk,by rw [←iB hk];exact hp,fun j hj=> ?_⟩
  have hx:zss[j]'ae∈zss.take k:=by rw [List.mem_take_iff_getElem];exact ⟨j,ae,rfl⟩
  have:=(List.any_eq_false.1 hn) _ hx
  simpa using this
 simp [sf,this]
theorem Cg (p:List Int→Bool) (zss:List (List Int)):decide (0≤sf p zss)=zss.any p:=by
 cases h:zss.any p with
 | false=>rw [rZ h];rfl
 | true=>
  rw [decide_eq_true_iff]
  unfold sf
  cases h2:zss.findIdx? p with
  | some i=>exact Int.natCast_nonneg i
  | none=>
   rw [List.findIdx?_eq_none_iff] at h2
   obtain ⟨x,hx,hp⟩:=List.any_eq_true.1 h
   have:=h2 x hx
   simp [hp] at this
theorem tc (fn:Nat) (cap:Array Value) (p:List Int→Bool) (ao:Option Addr) (n c:Nat) (zss:List (List Int)) (w:World) (h:kn w ao n zss)
  (hcf:∀(args:Array Value) (w:World),(callFunc fn args).run Tryz.prog w= .ok (.enter fn args) w)
  (hf:∀j,j < n→∀w' a' n' c',Below w.heap.size w w'→dC w' a' n' (bn zss j)→Calls Tryz.prog fn (#[.slice a' n' c'] ++ cap) w' fun e w''=>e= .returned (.bool (p (bn zss j)))∧Below w'.heap.size w' w''):
  Calls Tryz.prog 147 #[.slice ao n c, .func (.func fn) #[] cap] w fun e w'=>e= .returned (.int .i64 (sf p zss))∧Below w.heap.size w w':=by
 have hn:=h.2.1
 have HF:=Lib.hid hf
 clear hf
 have HL:=Lib.hid h.1
 go_enter Tryz.func147,Tryz.ntmps147
 go_wp2
 go_loopw [8] (fun i wr=>∃k:Nat,k≤n∧i= .int .i64 k∧(zss.take k).any p=false∧Below w.heap.size w wr) (fun i _=>n - (intOf i).toNat)
 case atStart=>exact ⟨0,Nat.zero_le _,rfl,by simp,Below.refl _ _⟩
 case round=>
  obtain ⟨k,hk,rfl,hpre,hb⟩:=hrel
  have HP:=Lib.hid hpre
  clear hpre
  by_cases hlt:k < n
  ·obtain ⟨b,off,a1,n1,c1,rfl,hc,hin⟩:=(h.below hb).at_ hlt
   have HI:=Lib.hid hin
   clear h hin
   cases hp:p (bn zss k) with
   | true=>
    have HX:=Lib.hid hp
    clear hp
    go_wp2_with fail
    refine (HF.out k hlt _ a1 n1 c1 hb HI.out).mono ?_
    rintro e w1 ⟨rfl,hb1⟩
    rw [HX.out]
    go_wp2
    go_ret
    exact ⟨mS (zS (by rw [HL.out];exact hlt) HP.out HX.out).symm,hb.trans (hb1.mono hb.size)⟩
   | false=>
    have HX:=Lib.hid hp
    clear hp
    go_wp2_with fail
    refine (HF.out k hlt _ a1 n1 c1 hb HI.out).mono ?_
    rintro e w1 ⟨rfl,hb1⟩
    rw [HX.out]
    go_wp2
    go_roundw
    case rel=>exact ⟨k + 1,ae,by go_num,by rw [tV (by rw [HL.out];exact hlt),HP.out,HX.out];rfl,hb.trans (hb1.mono hb.size)⟩
    case measure=>simp [intOf];omega
  ·obtain rfl:k=n:=by omega
   go_wp2
   go_ret
   exact ⟨mS (rZ (by have:=HP.out;rwa [List.take_of_length_le (Nat.le_of_eq HL.out)] at this)).symm,hb⟩
theorem oC (fn:Nat) (cap:Array Value) (p:List Int→Bool) (ao:Option Addr) (n c:Nat) (zss:List (List Int)) (w:World) (h:kn w ao n zss)
  (hcf:∀(args:Array Value) (w:World),(callFunc fn args).run Tryz.prog w= .ok (.enter fn args) w)
  (hf:∀j,j < n→∀w' a' n' c',Below w.heap.size w w'→dC w' a' n' (bn zss j)→Calls Tryz.prog fn (#[.slice a' n' c'] ++ cap) w' fun e w''=>e= .returned (.bool (p (bn zss j)))∧Below w'.heap.size w' w''):
  Calls Tryz.prog 121 #[.slice ao n c, .func (.func fn) #[] cap] w fun e w'=>e= .returned (.bool (zss.any p))∧Below w.heap.size w w':=by
 have HF:=Lib.hid hf
 clear hf
 go_enter Tryz.func121,Tryz.ntmps121
 go_wp2_with fail
 refine (tc fn cap p ao n c zss w h hcf HF.out).mono ?_
 rintro e w1 ⟨rfl,hb1⟩
 go_wp2
 go_ret
 exact ⟨cx (Cg p zss),hb1⟩
def pB (g:Int) (zs:List Int):Bool:= !(di (g - 1) zs && decide (1≤zs.length))
theorem wg (g:Int) (b:Nat) (ao:Option Addr) (n c:Nat) (zs:List Int) (w:World) (h:dC w ao n zs) (hg0:0≤g) (hg1:g≤1000) (hc:w.cell? ⟨b,0,none⟩=some (.int .i64 g)):
  Calls Tryz.prog 122 #[.slice ao n c, .pointer (some ⟨b,0,none⟩)] w fun e w'=>e= .returned (.bool (pB g zs))∧Below w.heap.size w w':=by
 have HL:=Lib.hid h.1
 have hn:=h.2.1
 by_cases h0:n=0
 ·have e0:((n:Int) == 0)=true:=by simp;omega
  have H0:=Lib.hid h0
  clear h0
  go_enter Tryz.func122,Tryz.ntmps122
  go_wp2
  go_ret
  exact ⟨cx (by unfold pB;rw [HL.out,H0.out];simp),Below.refl _ _⟩
 ·have e0:((n:Int) == 0)=false:=by simp;omega
  have hz:decide (1≤n)=true:=by simp;omega
  have HZ:=Lib.hid hz
  clear hz
  go_enter Tryz.func122,Tryz.ntmps122
  go_wp2_with fail
  refine (ni g ao n c zs _ h hg0 hg1).mono ?_
  rintro e w1 ⟨rfl,hb1⟩
  go_wp2
  go_ret
  exact ⟨cx (by unfold pB;rw [HL.out,HZ.out];simp),hb1⟩
theorem nN {v:Value} {d:du} (w:World) (h:JN w v d):
  Calls Tryz.prog 75 #[v] w fun e w'=>e= .returned (.bool (fl d))∧Below w.heap.size w w':=by
 obtain ⟨ao,n,c,rfl,hi⟩:=h
 have hmf:∀(fn:Fn) (first cap:Array Value) (w:World),(Instr.makeFunc fn first cap).run Tryz.prog w= .ok (.func fn first cap) w:=fun _ _ _ _=>rfl
 have hn:=hi.2.1
 have HL:=Lib.hid hi.1
 have hb:=below_alloc1 w (.cells #[.int .i64 d.1, .slice ao n c] 46)
 have kb:iX (w.alloc (.cells #[.int .i64 d.1, .slice ao n c] 46)) w.heap.size 46 #[.int .i64 d.1, .slice ao n c]:=jK rfl
 cases hg:kY d.1 1 5 with
 | true=>
  have HX:=Lib.hid hg
  have hg':=fC.1 hg
  have hany:d.2.any (pB d.1)= !(d.2.all (fun zs=>di (d.1 - 1) zs && decide (1≤zs.length))):=by
   rw [List.any_eq_not_all_not];congr 2;funext zs;unfold pB;exact Bool.not_not _
  have HA:=Lib.hid hany
  clear hg hany
  by_cases hs:n≤24
  ·have h1:decide ((n:Int)≤24)=true:=by simp;omega
   go_enter Tryz.func75,Tryz.ntmps75
   go_wp2_with (go_at_call 61;refine (ir _ _ _ _).mono ?_;rintro e w' ⟨rfl,rfl⟩;rw [HX.out])
   refine (oC 122 #[.pointer (some ⟨w.heap.size,0,none⟩)] (pB d.1) ao n c d.2 _ (hi.below hb) (fun _ _=>by rfl)
    (fun j hj w' a' n' c' hb' hin=>wg d.1 w.heap.size a' n' c' _ w' hin ae ae ((kb.mh hb').cell 0))).mono ?_
   rintro e w1 ⟨rfl,hb1⟩
   go_wp2
   go_ret
   exact ⟨cx (by rw [HA.out,pT HX.out];unfold gu;rw [HL.out];simp [hs]),hb.trans (hb1.mono hb.size)⟩
  ·have h1:decide ((n:Int)≤24)=false:=by simp;omega
   go_enter Tryz.func75,Tryz.ntmps75
   go_wp2_with (go_at_call 61;refine (ir _ _ _ _).mono ?_;rintro e w' ⟨rfl,rfl⟩;rw [HX.out])
   go_ret
   exact ⟨cx (by rw [pT HX.out];unfold gu;rw [HL.out];simp;intro;omega),hb⟩
 | false=>
  have HX:=Lib.hid hg
  clear hg
  go_enter Tryz.func75,Tryz.ntmps75
  go_wp2_with (go_at_call 61;refine (ir _ _ _ _).mono ?_;rintro e w' ⟨rfl,rfl⟩;rw [HX.out])
  go_ret
  exact ⟨cx (nL HX.out).symm,hb⟩
end Go.Proofs.YtekbhbcgoadciaaGreat
namespace Go.Proofs.YtekbhbcgoadciaaGreat
open Go.RowKit
theorem xn (ao:Option Addr) (n c:Nat) (qs:List (List Int)) (bo:Option Addr) (n' c':Nat) (ws:List Int) (x m:Nat) (w:World) (h:kn w ao n qs) (h':dC w bo n' ws) (hx:x < m) (hq:dP qs m) (hw:∀z∈ws,0≤z∧z < qs.length):
  Calls Tryz.prog 131 #[.slice ao n c, .slice bo n' c', .int .i64 x] w fun e w'=>e= .returned (.int .i64 (dr qs x ws))∧w=w':=by
 have HL:=Lib.hid h'.1
 have HN:=Lib.hid h.1
 have hn':=h'.2.1
 have HQ:=Lib.hid hq
 have HW:=Lib.hid hw
 clear hq hw
 go_enter Tryz.func131,Tryz.ntmps131
 go_wp2
 go_loop [11,2] (fun i v=>∃(k:Nat),k≤n'∧i= .int .i64 k∧v= .int .i64 (dr qs x (ws.take k))) (fun i _=>n' - (intOf i).toNat)
 case atStart=>exact ⟨0,Nat.zero_le _,rfl,rfl⟩
 case round=>
  obtain ⟨k,hk,rfl,rfl⟩:=hrel
  by_cases hlt:k < n'
  ·have h1:=HW.out (aC ws k) (eH (by rw [HL.out];exact hlt))
   obtain ⟨g,hg⟩:=Int.eq_ofNat_of_zero_le h1.1
   rw [hg] at h1
   have hgn:g < n:=by have:=HN.out;omega
   have h2:=HQ.out.lead (c:=(x:Int)) ae (w:=ws.take k) (fun z hz=>HW.out z (List.mem_of_mem_take hz))
   obtain ⟨y,hy⟩:=Int.eq_ofNat_of_zero_le h2.1
   rw [hy] at h2
   have hym:y < m:=by omega
   have hlen:=HQ.out.len g (by rw [HN.out];exact hgn)
   obtain ⟨b,off,rfl,hc⟩:=h'.at_ hlt
   obtain ⟨b2,off2,a3,n3,c3,rfl,hc2,h3⟩:=h.at_ hgn
   obtain rfl:m=n3:=by rw [←hlen];exact h3.1
   obtain ⟨b4,off4,rfl,hc4⟩:=h3.at_ hym
   rw [hg] at hc
   have HV:Hid (dr qs x (ws.take (k + 1))=aC (bn qs g) y):=Lib.hid (by rw [iq (by rw [HL.out];exact hlt),jI,hg,hy];rfl)
   rw [hy]
   clear h1 h2 hg hy h3 hlen h h'
   go_wp2
   go_roundw
   case rel=>exact ⟨k + 1,ae,by go_num,by rw [HV.out]⟩
   case measure=>simp [intOf];omega
  ·obtain rfl:k=n':=by omega
   rw [List.take_of_length_le (Nat.le_of_eq HL.out)]
   go_wp2
   go_ret
   exact ⟨rfl,rfl⟩
theorem qC {d:du} (h:fl d=true):1≤d.1∧d.1≤5:=by
 cases hg:kY d.1 1 5 with
 | false=>rw [nL hg] at h;cases h
 | true=>exact fC.1 hg
end Go.Proofs.YtekbhbcgoadciaaGreat
namespace Go.Proofs.YtekbhbcgoadciaaGreat
open Go.RowKit
def fD (d:du) (ws:List (List Int)):Bool:=fl d && gu d.1 0 ws
def nh (d:du) (ws:List (List Int)):Int:=if fD d ws=true then 0 else 1
theorem vr {v:Value} {d:du} (ao:Option Addr) (n c:Nat) (ws:List (List Int)) (w:World) (h:JN w v d) (h':kn w ao n ws):
  Calls Tryz.prog 128 #[v, .slice ao n c] w fun e w'=>e= .returned (.int .i64 (nh d ws))∧Below w.heap.size w w':=by
 obtain ⟨ro,rn,rc,rfl,hr⟩:=h
 have hb:=below_alloc1 w (.cells #[.int .i64 d.1, .slice ro rn rc] 46)
 have kb:iX (w.alloc (.cells #[.int .i64 d.1, .slice ro rn rc] 46)) w.heap.size 46 #[.int .i64 d.1, .slice ro rn rc]:=jK rfl
 have hp0:JN (w.alloc (.cells #[.int .i64 d.1, .slice ro rn rc] 46)) (.agg #[.int .i64 d.1, .slice ro rn rc]) d:=⟨ro,rn,rc,rfl,hr.below hb⟩
 cases hp:fl d with
 | false=>
  have HP:=Lib.hid hp
  have hC:nh d ws=1:=by unfold nh fD;rw [hp];rfl
  rw [hC]
  clear hp hC
  go_enter Tryz.func128,Tryz.ntmps128
  go_wp2_with fail
  refine (oX _ hp0).mono ?_
  rintro e w1 ⟨rfl,b1⟩
  rw [HP.out]
  go_wp2_with fail
  go_ret
  exact ⟨rfl,jZ b1 hb⟩
 | true=>
  have hg:=qC hp
  have HP:=Lib.hid hp
  clear hp
  go_enter Tryz.func128,Tryz.ntmps128
  go_wp2_with fail
  refine (oX _ hp0).mono ?_
  rintro e w1 ⟨rfl,b1⟩
  rw [HP.out]
  have B1:=jZ b1 hb
  have y0:w1.cell? ⟨w.heap.size,0,none⟩=some (.int .i64 d.1):=(kb.mh b1).cell 0
  have h1:=h'.below B1
  clear hp0 kb hb b1 hr h'
  cases hw:gu d.1 0 ws with
  | false=>
   have HW:=Lib.hid hw
   have hC:nh d ws=1:=by unfold nh fD;rw [hw];simp
   have HC:=Lib.hid hC
   clear hw hC
   go_wp2_with (go_at_call 153;refine (iZ d.1 0 ao n c ws _ h1 ae ae).mono ?_;rintro e w' ⟨rfl,rfl⟩;rw [HW.out])
   go_ret
   exact ⟨mS HC.out.symm,B1⟩
  | true=>
   have HW:=Lib.hid hw
   have hC:nh d ws=0:=by unfold nh fD;rw [hw,HP.out];rfl
   have HC:=Lib.hid hC
   clear hw hC
   go_wp2_with (go_at_call 153;refine (iZ d.1 0 ao n c ws _ h1 ae ae).mono ?_;rintro e w' ⟨rfl,rfl⟩;rw [HW.out])
   go_ret
   exact ⟨mS HC.out.symm,B1⟩
end Go.Proofs.YtekbhbcgoadciaaGreat
namespace Go.Proofs.YtekbhbcgoadciaaGreat
open Go.RowKit
theorem Ke {η:Env} {ω:bY} {w:World} {x:Nat} {own:Bool} {E F:Nat} {ins:List (Nm×Ch)} {g:Int} {zss:List (List Int)} {v:Value} (hm:Mem η ω w (fun x=>lk x ins)) (hx:lk x ins=some ⟨own,E,1, .rows F (bV zss) []⟩) (hv:gj η (.agg [.val (I6 g), .sl x 0 zss.length]) v) (hn:zss.length≤17592186044416) (hr:∀zs∈zss,zs.length≤17592186044416):JN w v (g,zss):=by
 obtain ⟨us,rfl,hl,ha⟩:=hv
 obtain ⟨u0,g0,d0⟩:=ha 0 _ rfl
 obtain ⟨u1,g1,d1⟩:=ha 1 _ rfl
 have d0:u0=I6 g:=d0
 subst d0
 obtain ⟨ao,c,rfl,hi⟩:=IM hm hx d1 hn hr
 refine ⟨ao,zss.length,c, ?_,hi⟩
 match us,hl with
 | ⟨[p,q]⟩,_=>simp at g0 g1;rw [g0,g1]
abbrev pA (g:Int) (R:Nat):AV:= .s (.agg [.val (I6 g), .sl 1003 0 R])
def Fit (zss:List (List Int)):Prop:=zss.length≤4398046511104∧∀zs∈zss,zs.length≤4398046511104
theorem DB {us:List Value} {u0 u1:Value} (hl:us.length=2) (g0:us[0]? =some u0) (g1:us[1]? =some u1):us= [u0,u1]:=by
 match us,hl with
 | [p,q],_=>simp at g0 g1;rw [g0,g1]
theorem Il {us:List Value} {u0:Value} (hl:us.length=1) (g0:us[0]? =some u0):us= [u0]:=by
 match us,hl with
 | [p],_=>simp at g0;rw [g0]
theorem E0 {E1 E:Nat} {w:World} {lo hi:Nat} {v:Value} {zss:List (List Int)} (h:qS E1 E w lo hi v zss):Fit zss:=by
 obtain ⟨ao,n,c,us,rfl,ho⟩:=h
 refine ⟨by have:=ho.own.2;have:=ho.len;omega,fun zs hz=> ?_⟩
 obtain ⟨j,hj,rfl⟩:=List.getElem_of_mem hz
 obtain ⟨u,d,hu,hd,⟨a',n',c',rfl,h1⟩,_⟩:=ho.get (j:=j) (by have:=ho.len;omega)
 rw [List.getElem?_eq_getElem hj] at hd
 have:=h1.len
 have h2:=h1.2
 rw [Option.some.inj hd]
 simp at this;omega
theorem Ki {E1 E:Nat} {w:World} {lo hi:Nat} {v:Value} {d:du} (h:tE E1 E w lo hi v d):∃u,v= .agg #[I6 d.1,u]∧qS E1 E w lo hi u d.2:=by
 obtain ⟨ao,n,c,us,rfl,ho⟩:=h
 exact ⟨_,rfl,_,_,_,us,rfl,ho⟩
theorem GG {η:Env} {a:AV} {u:Value} (h:Den η a u):nB η [a] [u]:=⟨rfl,fun j av hj=>by
 match j,hj with
 | 0,hj=>simp at hj;subst hj;exact ⟨u,rfl,h⟩⟩
theorem GP {η:Env} {a b:AV} {u v:Value} (h:Den η a u) (h':Den η b v):nB η [a,b] [u,v]:=⟨rfl,fun j av hj=>by
 match j,hj with
 | 0,hj=>simp at hj;subst hj;exact ⟨u,rfl,h⟩
 | 1,hj=>simp at hj;subst hj;exact ⟨v,rfl,h'⟩⟩
theorem Jx {η:Env} {g:Int} {R:Nat} {u:Value} (h:c6 η (.sl 1003 0 R) u):Den η (pA g R) (.agg #[I6 g,u]):=⟨_,rfl,rfl,fun j b hb=>by
 match j,hb with
 | 0,hb=>simp at hb;subst hb;exact ⟨_,by simp,rfl⟩
 | 1,hb=>simp at hb;subst hb;exact ⟨_,by simp,h⟩⟩
theorem oO {η:Env} {a b:A2} {v:Value} (h:Den η (.tup [a,b]) v):∃u u',v= .tuple #[u,u']∧gj η a u∧gj η b u':=by
 obtain ⟨us,rfl,hl,ha⟩:=h
 obtain ⟨u0,g0,d0⟩:=ha 0 _ rfl
 obtain ⟨u1,g1,d1⟩:=ha 1 _ rfl
 refine ⟨u0,u1, ?_,d0,d1⟩
 match us,hl with
 | ⟨[p,q]⟩,_=>simp at g0 g1;rw [g0,g1]
theorem s7 {f:FuncId} {outs:List (Nm×Ch)} {res:AV} {d:du} (hf:Fit d.2→FC Tryz.prog f [(1003,a6 d.2)] [pA d.1 d.2.length] outs res []) {E1 E:Nat} {w:World} {lo hi:Nat} {v:Value} (h:tE E1 E w lo hi v d):
  Calls Tryz.prog f #[v] w fun e w'=>∃v η ω,e= .returned v∧Den η res v∧Mem η ω w' (fun x=>lk x outs)∧Below w.heap.size w w'∧∀b,b < w.heap.size→ω b=none:=by
 obtain ⟨u,rfl,hs⟩:=Ki h
 obtain ⟨hd,r,rfl,hv⟩:=Jf 1003 24 2 hs
 exact (hf (E0 hs)).call (l:= [(1003,(a6 d.2,hd,r))]) (us:= [_]) (fun p hp=>by simp at hp;subst hp;exact hv) rfl (GG (Jx (s8 (q:=(a6 d.2,hd,r)) rfl)))
theorem fX {P:Program} {f:FuncId} {args:Array Value} {w:World} {a b:Value} {outs:List (Nm×Ch)} (h:Calls P f args w fun e w'=>∃v η ω,e= .returned v∧Den η (.tup [.one (.val a), .one (.val b)]) v∧Mem η ω w' (fun x=>lk x outs)∧Below w.heap.size w w'∧∀b,b < w.heap.size→ω b=none):
  Calls P f args w fun e w'=>e= .returned (.tuple #[a,b])∧Below w.heap.size w w':=by
 refine h.mono ?_
 rintro e w' ⟨v,η,ω,rfl,hd,_,hb,_⟩
 obtain ⟨u,u',rfl,h1,h2⟩:=oO hd
 have h1:u=a:=h1
 have h2:u'=b:=h2
 subst h1 h2
 exact ⟨rfl,hb⟩
theorem JJ {E:Nat} {w:World} {v:Value} {zs:List Int} (h:y6 E w v zs):zs.length≤4398046511104:=by
 obtain ⟨ao,n,c,rfl,ho⟩:=h
 have:=ho.len;have:=ho.2
 simp at *;omega
theorem xB {f:FuncId} {outs:List (Nm×Ch)} {res:AV} {zs:List Int} (hf:zs.length≤4398046511104→FC Tryz.prog f [(1003,dk zs)] [o1 (.sl 1003 0 zs.length)] outs res []) {E:Nat} {w:World} {lo hi:Nat} {v:Value} (h:ff E w lo hi v zs):
  Calls Tryz.prog f #[v] w fun e w'=>∃v η ω,e= .returned v∧Den η res v∧Mem η ω w' (fun x=>lk x outs)∧Below w.heap.size w w'∧∀b,b < w.heap.size→ω b=none:=by
 obtain ⟨hd,r,rfl,hv⟩:=JZ 1003 2 h.1
 exact (hf (JJ h.1)).call (l:= [(1003,(dk zs,hd,r))]) (us:= [_]) (fun p hp=>by simp at hp;subst hp;exact hv) rfl (GG (s8 (q:=(dk zs,hd,r)) rfl))
theorem Ho {f:FuncId} {outs:List (Nm×Ch)} {res:AV} {zs:List Int} (m:Int) (hf:zs.length≤4398046511104→FC Tryz.prog f [(1003,dk zs)] [o1 (.sl 1003 0 zs.length),vv (I6 m)] outs res []) {E:Nat} {w:World} {lo hi:Nat} {v:Value} (h:ff E w lo hi v zs):
  Calls Tryz.prog f #[v, .int .i64 m] w fun e w'=>∃v η ω,e= .returned v∧Den η res v∧Mem η ω w' (fun x=>lk x outs)∧Below w.heap.size w w'∧∀b,b < w.heap.size→ω b=none:=by
 obtain ⟨hd,r,rfl,hv⟩:=JZ 1003 2 h.1
 exact (hf (JJ h.1)).call (l:= [(1003,(dk zs,hd,r))]) (us:= [_,_]) (fun p hp=>by simp at hp;subst hp;exact hv) rfl (GP (s8 (q:=(dk zs,hd,r)) rfl) rfl)
end Go.Proofs.YtekbhbcgoadciaaGreat
namespace Go.Proofs.YtekbhbcgoadciaaGreat
open Go.RowKit
section
variable {P:Program} {η:Env} {ω:bY} {w:World}
theorem Env.EB {x:Nm} {hd:Hd} {r:Nat→Hd} {av:AV} (h:av.has x=false):av.mono η (η.new x hd r):=fun y hy=>Env.new_ne η hd r y fun e=>by rw [e,h] at hy;cases hy
theorem FC.JV {f:FuncId} {ins outs:List (Nm×Ch)} {a0 res:AV} {back:List (Nat×AV)} {x:Nm} {E:TypeId} {d:eQ} (h:FC P f ((x,⟨false,E,1,d⟩) :: ins) [a0,o1 (.sl x 0 0)] outs res back) (hd:d.len=0) (hx:lk x ins=none) (h0:a0.has x=false) (hb:∀t av,lk t back=some av→t≠1)
  (hq:∀y c,lk y ins=some c→∀l,c.d≠ .flat l):FC P f ins [a0,vv (.slice none 0 0)] outs res back:=by
 intro w η ω us hm hdl
 obtain ⟨hl,ha⟩:=hdl
 obtain ⟨u0,g0,d0⟩:=ha 0 _ rfl
 obtain ⟨u1,g1,d1⟩:=ha 1 _ rfl
 have d1:u1= .slice none 0 0:=d1
 subst d1
 refine h w (η.new x ⟨none,0,1⟩ fun _=>⟨none,0,1⟩) ω us ⟨fun y c hy=> ?_,fun y hy=> ?_⟩ ⟨hl,fun j av hj=> ?_⟩
 ·by_cases e:y=x
  ·subst e
   simp [lk] at hy
   subst hy
   refine ⟨⟨none,0,1⟩,by simp [Env.new],rfl, ?_⟩
   show F0 ω w _ d.len _
   rw [hd]
   exact ⟨Nat.zero_le _,fun j hj=>absurd hj ae⟩
  ·have hy:lk y ins=some c:=by simpa [lk,dy e] using hy
   obtain ⟨h',k1,k2⟩:=hm.1 y c hy
   exact ⟨h',by simp [Env.new,e,k1],k2.same (Same.refl ω w fun _=>True) trivial (fun _=>trivial) (fun i=>by simp [Env.new,e]) fun l hl=>absurd hl (hq y c hy l)⟩
 ·have e:y≠x:=fun e=>by subst e;simp [lk] at hy
  have hy:lk y ins=none:=by simpa [lk,dy e] using hy
  simp [Env.new,e,hm.2 y hy]
 ·match j,hj with
  | 0,hj=>simp at hj;subst hj;exact ⟨u0,g0,d0.mono (Env.EB h0)⟩
  | 1,hj=>
   simp at hj;subst hj
   refine ⟨_,g1,⟨_,_,rfl⟩,fun hd' he=> ?_⟩
   simp [Env.new] at he;subst he
   exact ⟨_,rfl,fun _=>rfl,fun h0=>absurd h0 ae⟩
end
theorem yF (g:Int) (rels ws:List (List Int)) (h1:Fit rels) (h2:Fit ws):
  FC Tryz.prog 128 [(1002,a6 ws),(1003,a6 rels)] [pA g rels.length,o1 (.sl 1002 0 ws.length)] [] (vv (I6 (nh (g,rels) ws))) []:=
 dS fun w η ω us hm ⟨hl,ha⟩=>by
  obtain ⟨u0,g0,d0⟩:=ha 0 _ rfl
  obtain ⟨u1,g1,d1⟩:=ha 1 _ rfl
  have hp:=Ke (x:=1003) (zss:=rels) hm rfl d0 (by have:=h1.1;omega) fun zs hz=>by have:=h1.2 zs hz;omega
  obtain ⟨ao,c,rfl,hi⟩:=IM (x:=1002) (zss:=ws) hm rfl d1 (by have:=h2.1;omega) fun zs hz=>by have:=h2.2 zs hz;omega
  rw [DB hl g0 g1]
  exact vr ao _ c ws w hp hi
theorem qi (g:Int) (rels:List (List Int)) (h1:Fit rels):FC Tryz.prog 75 [(1003,a6 rels)] [pA g rels.length] [] (vv (.bool (fl (g,rels)))) []:=
 dS fun w η ω us hm ⟨hl,ha⟩=>by
  obtain ⟨u0,g0,d0⟩:=ha 0 _ rfl
  have hp:=Ke (x:=1003) (zss:=rels) hm rfl d0 (by have:=h1.1;omega) fun zs hz=>by have:=h1.2 zs hz;omega
  rw [Il hl g0]
  exact nN w hp
structure Good (ng:Nat) (rels ws:List (List Int)):Prop where
 pos:0 < ng
 hi:ng≤5
 r:rels.length≤24
 w:ws.length≤24
 rl:∀w∈rels,bB ng w
 wl:∀w∈ws,bB ng w
 rn:∀w∈rels,w.length≤1000000000
 wn:∀w∈ws,w.length≤1000000000
theorem kx {g:Int} {ng:Nat} (hg:g=ng) {z:List Int} (h:di (g - 1) z=true):bB ng z∧z.length≤64:=by
 unfold di at h
 rw [Bool.and_eq_true,List.all_eq_true] at h
 exact ⟨fun x hx=>by have:=fC.1 (h.2 x hx);omega,of_decide_eq_true h.1⟩
theorem rf {g:Int} {rels ws:List (List Int)} (h:fD (g,rels) ws=true):∃ng:Nat,g=(ng:Int)∧Good ng rels ws:=by
 unfold fD at h
 rw [Bool.and_eq_true] at h
 obtain ⟨h1,h2⟩:=h
 have hg:=qC h1
 have hge:g=((g.toNat:Nat):Int):=(Int.toNat_of_nonneg (by dsimp only at hg;omega)).symm
 unfold fl at h1
 rw [Bool.and_eq_true,Bool.and_eq_true,List.all_eq_true] at h1
 unfold gu at h2
 rw [Bool.and_eq_true,List.all_eq_true] at h2
 have hr:∀w∈rels,bB g.toNat w∧w.length≤64:=fun w hw=>by
  have:=h1.2 w hw
  rw [Bool.and_eq_true] at this
  exact kx hge this.1
 have hw:∀w∈ws,bB g.toNat w∧w.length≤64:=fun w hw=>by
  have:=h2.2 w hw
  rw [Bool.and_eq_true] at this
  exact kx hge this.1
 dsimp only at hg
 exact ⟨g.toNat,hge,ae,ae,of_decide_eq_true h1.1.2,of_decide_eq_true h2.1,fun w h=>(hr w h).1,fun w h=>(hw w h).1,fun w h=>by have:=(hr w h).2;omega,fun w h=>by have:=(hw w h).2;omega⟩
def mZ (d:du) (ws:List (List Int)):dR:=cm d.1.toNat d.2 ws
def fe (d:du) (ws:List (List Int)):Nat:=(bO d.1.toNat (mZ d ws).1 (mZ d ws).2.1).1.length
def cU (d:du) (ws:List (List Int)):List (List Int):=cj d.1.toNat (mZ d ws).1 (mZ d ws).2.1
def qO (d:du) (ws:List (List Int)):Int:=if fD d ws=true then (if (mZ d ws).2.2=true then 0 else (fe d ws:Int)) else 0
def nU (d:du) (ws:List (List Int)):Int:=if fD d ws=true then (if (mZ d ws).2.2=true then 3 else 0) else 1
theorem ga (ng:Nat) (im:List (List Int)) (less:List Int):(cj ng im less).length=ng:=by simp [cj]
theorem ko {ng g:Nat} (im:List (List Int)) (less:List Int) (h:g < ng):(bn (cj ng im less) g).length=(bO ng im less).1.length:=by
 simp [cj,bn,h]
theorem EJ {d:du} {ws:List (List Int)} (h:fD d ws=true):nh d ws=0:=if_pos h
theorem EY {d:du} {ws:List (List Int)} (h:¬fD d ws=true):nh d ws=1:=if_neg h
theorem wh {ng:Nat} {rels ws:List (List Int)} (h:Good ng rels ws) (hf:(cm ng rels ws).2.2=true):
  FC Tryz.prog 129 [(1002,a6 ws),(1003,a6 rels)] [pA ng rels.length,o1 (.sl 1002 0 ws.length)] [] (.tup [.one (.val (.slice none 0 0)), .one (.val (.bool false))]) []:=
 qN ng rels ws _ _ rfl rfl h.rl h.wl (by have:=h.hi;omega) h.rn h.wn (by have:=h.r;omega) (by have:=h.w;omega) hf
theorem tz {ng:Nat} {rels ws:List (List Int)} (h:Good ng rels ws) (hf:(cm ng rels ws).2.2=false):
  FC Tryz.prog 129 [(1002,a6 ws),(1003,a6 rels)] [pA ng rels.length,o1 (.sl 1002 0 ws.length)] [(69,cT (cj ng (cm ng rels ws).1 (cm ng rels ws).2.1))] (.tup [.one (.sl 69 0 ng), .one (.val (.bool true))]) []:=
 tP ng rels ws _ _ rfl rfl h.rl h.wl (by have:=h.hi;omega) h.rn h.wn (by have:=h.r;omega) (by have:=h.w;omega) hf
theorem od {ng:Nat} {rels ws:List (List Int)} (h:Good ng rels ws) (hf:(cm ng rels ws).2.2=true):
  FC Tryz.prog 76 [(1002,a6 ws),(1003,a6 rels)] [pA ng rels.length,o1 (.sl 1002 0 ws.length)] [] (.tup [.one (.val (.slice none 0 0)), .one (.val (.bool false))]) []:=by
 have:=nc ng rels ws _ _ rfl rfl h.rl h.wl h.pos (by have:=h.hi;omega) h.rn h.wn (by have:=h.r;omega) (by have:=h.w;omega) _ rfl
 have hf':(CO ng rels ws).2.2=true:=by
  rcases pF ng rels ws with e | e
  ·rw [←e];exact hf
  ·exact e.2
 rwa [if_pos hf',if_pos hf'] at this
theorem kA {ng:Nat} {rels ws:List (List Int)} (h:Good ng rels ws) (hf:(cm ng rels ws).2.2=false):
  FC Tryz.prog 76 [(1002,a6 ws),(1003,a6 rels)] [pA ng rels.length,o1 (.sl 1002 0 ws.length)] [(131,cT (cj ng (cm ng rels ws).1 (cm ng rels ws).2.1))] (.tup [.one (.sl 131 0 ng), .one (.val (.bool true))]) []:=by
 have:=nc ng rels ws _ _ rfl rfl h.rl h.wl h.pos (by have:=h.hi;omega) h.rn h.wn (by have:=h.r;omega) (by have:=h.w;omega) _ rfl
 have he:cm ng rels ws=CO ng rels ws:=by
  rcases pF ng rels ws with e | e
  ·exact e
  ·rw [hf] at e;exact absurd e.1 (by simp)
 rw [←he,if_neg (by rw [hf];simp),if_neg (by rw [hf];simp)] at this
 exact this
theorem wu (g:Int) (rels ws:List (List Int)) (h1:Fit rels) (h2:Fit ws):
  FC Tryz.prog 77 [(1002,a6 ws),(1003,a6 rels)] [pA g rels.length,o1 (.sl 1002 0 ws.length)] [] (.tup [.one (.val (I6 (qO (g,rels) ws))), .one (.val (I6 (nU (g,rels) ws)))]) []:=by
 have hC:=yF g rels ws h1 h2
 refine bj (nt:=27) Tryz.func77 rfl rfl (by simp) fun w0 ω0=> ?_
 by_cases hok:fD (g,rels) ws=true
 ·obtain ⟨ng,rfl,hG⟩:=rf hok
  rw [EJ hok] at hC
  unfold qO nU
  rw [if_pos hok,if_pos hok]
  (refine ak (ah (aa rfl (cF rfl rfl rfl rfl) (aa rfl (ai rfl rfl) (aa rfl (ai rfl rfl) (ar (an (ak (ak (ah (aa rfl (aU rfl rfl rfl rfl rfl rfl ab) ?_))))))))));apply aa rfl;exact aj rfl rfl;apply aa rfl;(apply au 128;exact aw hC ab rfl rfl ⟨⟨.inl rfl, .inl rfl,ag⟩,rfl,ag⟩ ⟨⟨_,rfl, .inl rfl⟩,⟨_,rfl, .inl rfl⟩,ag⟩ rfl rfl);refine aa rfl (ai rfl rfl) (ar (an (ak (ah (aa rfl (aj rfl rfl) (aa rfl (aG rfl rfl rfl rfl) (ar (an ?_)))))))))
  refine ax rfl (fun e=>by cases e) (fun _=> ?_)
  show fJ _ _ _ _ _ _ _
  have hX:mZ ((ng:Int),rels) ws=cm ng rels ws:=by unfold mZ;rw [Int.toNat_natCast]
  rw [hX]
  cases hf:(cm ng rels ws).2.2 with
  | true=>
   have hT:=wh hG hf
   rw [if_pos rfl,if_pos rfl]
   (refine aE (an (ak (ah (aa rfl (aU rfl rfl rfl rfl rfl rfl ab) ?_))));apply aa rfl;exact aj rfl rfl;apply aa rfl;(apply au 129;exact aw hT ab rfl rfl ⟨⟨.inl rfl, .inl rfl,ag⟩,rfl,ag⟩ ⟨⟨_,rfl, .inl rfl⟩,⟨_,rfl, .inl rfl⟩,ag⟩ rfl rfl);refine aa rfl (aj rfl rfl) (aa rfl (aN rfl rfl rfl) (aa rfl (aN rfl rfl rfl) (aa rfl (ai rfl rfl) (aa rfl (ai rfl rfl) (ar (an (ak (ak (ah (aa rfl (aj rfl rfl) (aa rfl (bU rfl rfl) ?_)))))))))));refine ar (an ?_))
   refine ax rfl (fun _=> ?_) (fun e=>by cases e)
   (refine ak (ah (aa rfl (ai rfl rfl) (aa rfl (ai rfl rfl) (ar (an (aS (aO ?_))))))))
   exact bN (.inl rfl) rfl (.tmp rfl) (.tmp rfl) trivial trivial
  | false=>
   have hT:=tz hG hf
   have hN:fe ((ng:Int),rels) ws=(bn (cj ng (cm ng rels ws).1 (cm ng rels ws).2.1) 0).length:=by
    unfold fe;rw [hX,Int.toNat_natCast,ko _ _ hG.pos]
   rw [if_neg (by simp),if_neg (by simp),hN]
   have hrow:(bV (cj ng (cm ng rels ws).1 (cm ng rels ws).2.1))[0]? =some (aL (bn (cj ng (cm ng rels ws).1 (cm ng rels ws).2.1) 0)):=cf (by rw [ga];exact hG.pos)
   have hlen:(bV (cj ng (cm ng rels ws).1 (cm ng rels ws).2.1)).length=ng:=by rw [cZ,ga]
   have hpos:=hG.pos
   generalize cj ng (cm ng rels ws).1 (cm ng rels ws).2.1=T at *
   (refine aE (an (ak (ah (aa rfl (aU rfl rfl rfl rfl rfl rfl ab) ?_))));apply aa rfl;exact aj rfl rfl;apply aa rfl;(first | (apply au 129;exact bg hT ab rfl rfl ⟨⟨.inl rfl, .inl rfl,ag⟩,rfl,ag⟩ ⟨⟨_,rfl, .inl rfl⟩,⟨_,rfl, .inl rfl⟩,ag⟩ rfl rfl rfl) | exact aR (j:=0) rfl rfl rfl rfl rfl ab rfl hpos (Nat.le_of_eq hlen.symm));refine aa rfl (aj rfl rfl) (aa rfl (aN rfl rfl rfl) (aa rfl (aN rfl rfl rfl) (aa rfl (ai rfl rfl) (aa rfl (ai rfl rfl) (ar (an (ak (ak (ah (aa rfl (aj rfl rfl) (aa rfl (bU rfl rfl) ?_)))))))))));refine ar (an ?_))
   refine ax rfl (fun e=>by cases e) (fun _=> ?_)
   (refine aE (an (ak (ah (aa rfl (aj rfl rfl) ?_))));apply aa rfl;(exact aR (j:=0) rfl rfl rfl rfl rfl ab rfl hpos (Nat.le_of_eq hlen.symm));apply aa rfl;exact bF rfl ab rfl rfl rfl aQ c8;apply aa rfl;exact bw rfl rfl rfl ab;refine aa rfl (ai rfl rfl) (aa rfl (ai rfl rfl) (ar (an (aS ?_)))))
   exact bN (.inl rfl) rfl (.tmp rfl) (.tmp rfl) trivial trivial
 ·rw [EY hok] at hC
  unfold qO nU
  rw [if_neg hok,if_neg hok]
  (refine ak (ah (aa rfl (cF rfl rfl rfl rfl) (aa rfl (ai rfl rfl) (aa rfl (ai rfl rfl) (ar (an (ak (ak (ah (aa rfl (aU rfl rfl rfl rfl rfl rfl ab) ?_))))))))));apply aa rfl;exact aj rfl rfl;apply aa rfl;(apply au 128;exact aw hC ab rfl rfl ⟨⟨.inl rfl, .inl rfl,ag⟩,rfl,ag⟩ ⟨⟨_,rfl, .inl rfl⟩,⟨_,rfl, .inl rfl⟩,ag⟩ rfl rfl);refine aa rfl (ai rfl rfl) (ar (an (ak (ah (aa rfl (aj rfl rfl) (aa rfl (aG rfl rfl rfl rfl) (ar (an ?_)))))))))
  refine ax rfl (fun _=> ?_) (fun e=>by cases e)
  (refine ak (ah (aa rfl (aj rfl rfl) (aa rfl (ai rfl rfl) (aa rfl (ai rfl rfl) (ar (an (aS (aO ?_)))))))))
  exact bN (.inl rfl) rfl (.tmp rfl) (.tmp rfl) trivial trivial
end Go.Proofs.YtekbhbcgoadciaaGreat
namespace Go.Proofs.YtekbhbcgoadciaaGreat
open Go.RowKit
theorem F5:Fit []:=⟨by simp,fun zs h=>by simp at h⟩
theorem IW {α:Type} {x y:Nat} {c d:α} (h:lk y [(x,c)]=some d):d=c:=by
 simp only [lk] at h
 cases hb:Nat.beq y x with
 | true=>rw [hb] at h;simpa using h.symm
 | false=>rw [hb] at h;simp at h
theorem Dl {rels:List (List Int)} :∀y c,lk y [(1003,a6 rels)]=some c→∀l,c.d≠ .flat l:=fun y c h l e=>by
 rw [IW h] at e;cases e
theorem FC.Eu {f:FuncId} {g:Int} {rels:List (List Int)} {outs:List (Nm×Ch)} {res:AV} (h:FC Tryz.prog f [(1002,a6 []),(1003,a6 rels)] [pA g rels.length,o1 (.sl 1002 0 0)] outs res []):FC Tryz.prog f [(1003,a6 rels)] [pA g rels.length,vv (.slice none 0 0)] outs res []:=
 FC.JV (x:=1002) h rfl rfl rfl (fun t av h=>by cases h) Dl
theorem vM (g:Int) (rels:List (List Int)) (h1:Fit rels):
  FC Tryz.prog 30 [(1003,a6 rels)] [pA g rels.length] [] (.tup [.one (.val (I6 (qO (g,rels) []))), .one (.val (I6 (nU (g,rels) [])))]) []:=by
 have hI:=(wu g rels [] h1 F5).Eu
 refine bj (nt:=8) Tryz.func30 rfl rfl (by simp) fun w0 ω0=> ?_
 (refine ak (ah (aa rfl (cF rfl rfl rfl rfl) (aa rfl (ai rfl rfl) (aa rfl (ai rfl rfl) (ar (an (ak (ah (aa rfl (aU rfl rfl rfl rfl rfl rfl ab) ?_)))))))));apply aa rfl;(apply au 77;exact aw hI ab rfl rfl ⟨⟨.inl rfl, .inl rfl,ag⟩,rfl,ag⟩ ⟨⟨_,rfl, .inl rfl⟩,ag⟩ rfl rfl);refine aa rfl (aN rfl rfl rfl) (aa rfl (aN rfl rfl rfl) (aa rfl (ai rfl rfl) (aa rfl (ai rfl rfl) (ar (an (aS ?_)))))))
 exact bN (.inl rfl) rfl (.tmp rfl) (.tmp rfl) trivial trivial
theorem nK {g:Int} {rels:List (List Int)} :fD (g,rels) []=fl (g,rels):=by unfold fD gu;simp
theorem wC (g:Int) (rels:List (List Int)) (h1:Fit rels):
  FC Tryz.prog 29 [(1003,a6 rels)] [pA g rels.length] [] (.tup [.one (.val (I6 (qO (g,rels) []))), .one (.val (I6 (nU (g,rels) [])))]) []:=by
 have hC:=qi g rels h1
 refine bj (nt:=20) Tryz.func29 rfl rfl (by simp) fun w0 ω0=> ?_
 by_cases hok:fD (g,rels) []=true
 ·obtain ⟨ng,rfl,hG⟩:=rf hok
  rw [←nK,hok] at hC
  unfold qO nU
  rw [if_pos hok,if_pos hok]
  (refine ak (ah (aa rfl (cF rfl rfl rfl rfl) (aa rfl (ai rfl rfl) (aa rfl (ai rfl rfl) (ar (an (ak (ak (ah (aa rfl (aU rfl rfl rfl rfl rfl rfl ab) ?_))))))))));apply aa rfl;(apply au 75;exact aw hC ab rfl rfl ⟨⟨.inl rfl, .inl rfl,ag⟩,ag⟩ ⟨⟨_,rfl, .inl rfl⟩,ag⟩ rfl rfl);refine aa rfl (bU rfl rfl) (ar (an ?_)))
  refine ax rfl (fun e=>by cases e) (fun _=> ?_)
  have hX:mZ ((ng:Int),rels) []=cm ng rels []:=by unfold mZ;rw [Int.toNat_natCast]
  rw [hX]
  cases hf:(cm ng rels []).2.2 with
  | true=>
   have hT:=(od hG hf).Eu
   rw [if_pos rfl,if_pos rfl]
   (refine aE (an (ak (ah (aa rfl (aU rfl rfl rfl rfl rfl rfl ab) ?_))));apply aa rfl;(apply au 76;exact aw hT ab rfl rfl ⟨⟨.inl rfl, .inl rfl,ag⟩,rfl,ag⟩ ⟨⟨_,rfl, .inl rfl⟩,ag⟩ rfl rfl);refine aa rfl (aj rfl rfl) (aa rfl (aN rfl rfl rfl) (aa rfl (aN rfl rfl rfl) (aa rfl (ai rfl rfl) (aa rfl (ai rfl rfl) (ar (an (ak (ak (ah (aa rfl (aj rfl rfl) (aa rfl (bU rfl rfl) ?_)))))))))));refine ar (an ?_))
   refine ax rfl (fun _=> ?_) (fun e=>by cases e)
   (refine ak (ah (aa rfl (ai rfl rfl) (aa rfl (ai rfl rfl) (ar (an (aS (aO ?_))))))))
   exact bN (.inl rfl) rfl (.tmp rfl) (.tmp rfl) trivial trivial
  | false=>
   have hT:=(kA hG hf).Eu
   have hN:fe ((ng:Int),rels) []=(bn (cj ng (cm ng rels []).1 (cm ng rels []).2.1) 0).length:=by
    unfold fe;rw [hX,Int.toNat_natCast,ko _ _ hG.pos]
   rw [if_neg (by simp),if_neg (by simp),hN]
   have hrow:(bV (cj ng (cm ng rels []).1 (cm ng rels []).2.1))[0]? =some (aL (bn (cj ng (cm ng rels []).1 (cm ng rels []).2.1) 0)):=cf (by rw [ga];exact hG.pos)
   have hlen:(bV (cj ng (cm ng rels []).1 (cm ng rels []).2.1)).length=ng:=by rw [cZ,ga]
   have hpos:=hG.pos
   generalize cj ng (cm ng rels []).1 (cm ng rels []).2.1=T at *
   have hS:=gn 131 0 (bn T 0).length
   (refine aE (an (ak (ah (aa rfl (aU rfl rfl rfl rfl rfl rfl ab) ?_))));apply aa rfl;(apply au 76;exact bg hT ab rfl rfl ⟨⟨.inl rfl, .inl rfl,ag⟩,rfl,ag⟩ ⟨⟨_,rfl, .inl rfl⟩,ag⟩ rfl rfl rfl);refine aa rfl (aj rfl rfl) (aa rfl (aN rfl rfl rfl) (aa rfl (aN rfl rfl rfl) (aa rfl (ai rfl rfl) (aa rfl (ai rfl rfl) (ar (an (ak (ak (ah (aa rfl (aj rfl rfl) (aa rfl (bU rfl rfl) ?_)))))))))));refine ar (an ?_))
   refine ax rfl (fun e=>by cases e) (fun _=> ?_)
   (refine aE (an (ak (ah (aa rfl (aj rfl rfl) ?_))));apply aa rfl;(first | exact aR (j:=0) rfl rfl rfl rfl rfl ab rfl hpos (Nat.le_of_eq hlen.symm) | (apply au 62;exact aw hS ab rfl rfl ⟨rfl,ag⟩ trivial rfl rfl));apply aa rfl;exact bF rfl ab rfl rfl rfl aQ c8;apply aa rfl;(first | exact aR (j:=0) rfl rfl rfl rfl rfl ab rfl hpos (Nat.le_of_eq hlen.symm) | (apply au 62;exact aw hS ab rfl rfl ⟨rfl,ag⟩ trivial rfl rfl));refine aa rfl (ai rfl rfl) (aa rfl (ai rfl rfl) (ar (an (aS ?_)))))
   exact bN (.inl rfl) rfl (.tmp rfl) (.tmp rfl) trivial trivial
 ·have hp:fl (g,rels)=false:=by rw [nK] at hok;simpa using hok
  rw [hp] at hC
  unfold qO nU
  rw [if_neg hok,if_neg hok]
  (refine ak (ah (aa rfl (cF rfl rfl rfl rfl) (aa rfl (ai rfl rfl) (aa rfl (ai rfl rfl) (ar (an (ak (ak (ah (aa rfl (aU rfl rfl rfl rfl rfl rfl ab) ?_))))))))));apply aa rfl;(apply au 75;exact aw hC ab rfl rfl ⟨⟨.inl rfl, .inl rfl,ag⟩,ag⟩ ⟨⟨_,rfl, .inl rfl⟩,ag⟩ rfl rfl);refine aa rfl (bU rfl rfl) (ar (an ?_)))
  refine ax rfl (fun _=> ?_) (fun e=>by cases e)
  (refine ak (ah (aa rfl (ai rfl rfl) (aa rfl (ai rfl rfl) (ar (an (aS (aO ?_))))))))
  exact bN (.inl rfl) rfl (.tmp rfl) (.tmp rfl) trivial trivial
theorem tI {E1 E:Nat} {lo hi:Nat} {v:Value} {d:du} (w:World) (h:tE E1 E w lo hi v d):
  Calls Tryz.prog 30 #[v] w fun e w'=>e= .returned (.tuple #[.int .i64 (qO d []), .int .i64 (nU d [])])∧Below w.heap.size w w':=fX (s7 (fun k1=>vM d.1 d.2 k1) h)
theorem tW {E1 E:Nat} {lo hi:Nat} {v:Value} {d:du} (w:World) (h:tE E1 E w lo hi v d):
  Calls Tryz.prog 29 #[v] w fun e w'=>e= .returned (.tuple #[.int .i64 (qO d []), .int .i64 (nU d [])])∧Below w.heap.size w w':=fX (s7 (fun k1=>wC d.1 d.2 k1) h)
end Go.Proofs.YtekbhbcgoadciaaGreat
namespace Go.Proofs.YtekbhbcgoadciaaGreat
open Go.RowKit
def hH (d:du) (ws:List (List Int)):Bool:= !(mZ d ws).2.2 && decide (fe d ws≤400)
theorem lS (ng:Nat) (rels ws:List (List Int)):mZ ((ng:Int),rels) ws=cm ng rels ws:=by unfold mZ;rw [Int.toNat_natCast]
theorem ma (ng:Nat) (rels ws:List (List Int)):fe ((ng:Int),rels) ws=(bO ng (cm ng rels ws).1 (cm ng rels ws).2.1).1.length:=by unfold fe;rw [lS,Int.toNat_natCast]
theorem gC (ng:Nat) (rels ws:List (List Int)):cU ((ng:Int),rels) ws=cj ng (cm ng rels ws).1 (cm ng rels ws).2.1:=by unfold cU;rw [lS,Int.toNat_natCast]
theorem nJ {ng:Nat} {rels ws:List (List Int)} {g:Nat} (h:g < ng):(bn (cU ((ng:Int),rels) ws) g).length=fe ((ng:Int),rels) ws:=by rw [gC,ma,ko _ _ h]
theorem dO (ng:Nat) (rels ws:List (List Int)):(cU ((ng:Int),rels) ws).length=ng:=by rw [gC,ga]
theorem tO {ng:Nat} {rels ws:List (List Int)} (hG:Good ng rels ws) (hs:hH ((ng:Int),rels) ws=true):
  FC Tryz.prog 91 [(1002,a6 ws),(1003,a6 rels)] [pA ng rels.length,o1 (.sl 1002 0 ws.length)] [(1005,cT (cU ((ng:Int),rels) ws))] (.tup [.one (.sl 1005 0 ng), .one (.val (I6 0))]) []:=by
 have hs2:(cm ng rels ws).2.2=false∧fe ((ng:Int),rels) ws≤400:=by unfold hH at hs;rw [lS] at hs;simpa using hs
 have hT:FC Tryz.prog 76 [(1002,a6 ws),(1003,a6 rels)] [pA ng rels.length,o1 (.sl 1002 0 ws.length)] [(1005,cT (cU ((ng:Int),rels) ws))] (.tup [.one (.sl 1005 0 ng), .one (.val (.bool true))]) []:=by
  rw [gC]
  exact (kA hG hs2.1).nm [(131,1005),(1002,1002),(1003,1003)] (by kernel_rfl)
 have hlen:(bV (cU ((ng:Int),rels) ws)).length=ng:=by rw [cZ,dO]
 have hpos:=hG.pos
 have hr0:(bn (cU ((ng:Int),rels) ws) 0).length≤400:=by rw [nJ hpos];exact hs2.2
 have hrow:(bV (cU ((ng:Int),rels) ws))[0]? =some (aL (bn (cU ((ng:Int),rels) ws) 0)):=cf (by rw [←cZ,hlen];exact hpos)
 generalize cU ((ng:Int),rels) ws=T at *
 refine bj (nt:=24) Tryz.func91 rfl rfl (by simp) fun w0 ω0=> ?_
 (refine ak (ah (aa rfl (cF rfl rfl rfl rfl) (aa rfl (ai rfl rfl) (aa rfl (ai rfl rfl) (ar (an (ak (ah (aa rfl (aU rfl rfl rfl rfl rfl rfl ab) ?_)))))))));apply aa rfl;exact aj rfl rfl;apply aa rfl;(first | (apply au 76;exact bg hT ab rfl rfl ⟨⟨.inl rfl, .inl rfl,ag⟩,rfl,ag⟩ ⟨⟨_,rfl, .inl rfl⟩,⟨_,rfl, .inl rfl⟩,ag⟩ rfl rfl rfl) | exact aR (j:=0) rfl rfl rfl rfl rfl ab rfl hpos (Nat.le_of_eq hlen.symm));refine aa rfl (aj rfl rfl) (aa rfl (aN rfl rfl rfl) (aa rfl (aN rfl rfl rfl) (aa rfl (ai rfl rfl) (aa rfl (ai rfl rfl) (ar (an (ak (ak (ah (aa rfl (aj rfl rfl) (aa rfl (bU rfl rfl) ?_)))))))))));apply aa rfl;exact aj rfl rfl;apply aH rfl rfl rfl;exact aj rfl rfl;apply aH rfl rfl rfl;(first | (apply au 76;exact bg hT ab rfl rfl ⟨⟨.inl rfl, .inl rfl,ag⟩,rfl,ag⟩ ⟨⟨_,rfl, .inl rfl⟩,⟨_,rfl, .inl rfl⟩,ag⟩ rfl rfl rfl) | exact aR (j:=0) rfl rfl rfl rfl rfl ab rfl hpos (Nat.le_of_eq hlen.symm));apply aH rfl rfl rfl;exact bF rfl ab rfl rfl rfl aQ c8;apply aH rfl rfl rfl;exact bw rfl rfl rfl ab;apply aH rfl rfl rfl;exact aG rfl rfl rfl rfl;refine aa rfl (bD rfl rfl rfl) (ar (an ?_)))
 refine ax rfl (fun e=> ?_) (fun _=> ?_)
 ·exfalso;simp at e;omega
 ·(refine aE (an (ak (ah (aa rfl (aj rfl rfl) (aa rfl (ai rfl rfl) (aa rfl (ai rfl rfl) (ar (an (aS ?_))))))))))
  exact bN (.inl rfl) rfl (.tmp rfl) (.tmp rfl) ⟨rfl,ag⟩ trivial
theorem vQ {ng:Nat} {rels ws:List (List Int)} (hG:Good ng rels ws) (hs:¬hH ((ng:Int),rels) ws=true):
  FC Tryz.prog 91 [(1002,a6 ws),(1003,a6 rels)] [pA ng rels.length,o1 (.sl 1002 0 ws.length)] [] (.tup [.one (.val (.slice none 0 0)), .one (.val (I6 3))]) []:=by
 unfold hH at hs;rw [lS] at hs
 refine bj (nt:=24) Tryz.func91 rfl rfl (by simp) fun w0 ω0=> ?_
 cases hf:(cm ng rels ws).2.2 with
 | true=>
  have hT:=od hG hf
  (refine ak (ah (aa rfl (cF rfl rfl rfl rfl) (aa rfl (ai rfl rfl) (aa rfl (ai rfl rfl) (ar (an (ak (ah (aa rfl (aU rfl rfl rfl rfl rfl rfl ab) ?_)))))))));apply aa rfl;exact aj rfl rfl;apply aa rfl;(apply au 76;exact aw hT ab rfl rfl ⟨⟨.inl rfl, .inl rfl,ag⟩,rfl,ag⟩ ⟨⟨_,rfl, .inl rfl⟩,⟨_,rfl, .inl rfl⟩,ag⟩ rfl rfl);refine aa rfl (aj rfl rfl) (aa rfl (aN rfl rfl rfl) (aa rfl (aN rfl rfl rfl) (aa rfl (ai rfl rfl) (aa rfl (ai rfl rfl) (ar (an (ak (ak (ah (aa rfl (aj rfl rfl) (aa rfl (bU rfl rfl) ?_)))))))))));apply aa rfl;exact aj rfl rfl;apply aD rfl rfl rfl rfl rfl;apply aD rfl rfl rfl rfl rfl;apply aD rfl rfl rfl rfl rfl;apply aD rfl rfl rfl rfl rfl;apply aD rfl rfl rfl rfl rfl;refine aa rfl (bp rfl rfl rfl) (ar (an ?_)))
  refine ax rfl (fun _=> ?_) (fun e=>by cases e)
  (refine ak (ah (aa rfl (ai rfl rfl) (aa rfl (ai rfl rfl) (ar (an (aS (aO ?_))))))))
  exact bN (.inl rfl) rfl (.tmp rfl) (.tmp rfl) trivial trivial
 | false=>
  have hn:400 < fe ((ng:Int),rels) ws:=by rw [hf] at hs;simpa using hs
  have hT:FC Tryz.prog 76 [(1002,a6 ws),(1003,a6 rels)] [pA ng rels.length,o1 (.sl 1002 0 ws.length)] [(1005,cT (cU ((ng:Int),rels) ws))] (.tup [.one (.sl 1005 0 ng), .one (.val (.bool true))]) []:=by
   rw [gC]
   exact (kA hG hf).nm [(131,1005),(1002,1002),(1003,1003)] (by kernel_rfl)
  have hlen:(bV (cU ((ng:Int),rels) ws)).length=ng:=by rw [cZ,dO]
  have hpos:=hG.pos
  have hr0:400 < (bn (cU ((ng:Int),rels) ws) 0).length:=by rw [nJ hpos];exact hn
  have hrow:(bV (cU ((ng:Int),rels) ws))[0]? =some (aL (bn (cU ((ng:Int),rels) ws) 0)):=cf (by rw [←cZ,hlen];exact hpos)
  clear hs hn
  generalize cU ((ng:Int),rels) ws=T at *
  (refine ak (ah (aa rfl (cF rfl rfl rfl rfl) (aa rfl (ai rfl rfl) (aa rfl (ai rfl rfl) (ar (an (ak (ah (aa rfl (aU rfl rfl rfl rfl rfl rfl ab) ?_)))))))));apply aa rfl;exact aj rfl rfl;apply aa rfl;(first | (apply au 76;exact bg hT ab rfl rfl ⟨⟨.inl rfl, .inl rfl,ag⟩,rfl,ag⟩ ⟨⟨_,rfl, .inl rfl⟩,⟨_,rfl, .inl rfl⟩,ag⟩ rfl rfl rfl) | exact aR (j:=0) rfl rfl rfl rfl rfl ab rfl hpos (Nat.le_of_eq hlen.symm));refine aa rfl (aj rfl rfl) (aa rfl (aN rfl rfl rfl) (aa rfl (aN rfl rfl rfl) (aa rfl (ai rfl rfl) (aa rfl (ai rfl rfl) (ar (an (ak (ak (ah (aa rfl (aj rfl rfl) (aa rfl (bU rfl rfl) ?_)))))))))));apply aa rfl;exact aj rfl rfl;apply aH rfl rfl rfl;exact aj rfl rfl;apply aH rfl rfl rfl;(first | (apply au 76;exact bg hT ab rfl rfl ⟨⟨.inl rfl, .inl rfl,ag⟩,rfl,ag⟩ ⟨⟨_,rfl, .inl rfl⟩,⟨_,rfl, .inl rfl⟩,ag⟩ rfl rfl rfl) | exact aR (j:=0) rfl rfl rfl rfl rfl ab rfl hpos (Nat.le_of_eq hlen.symm));apply aH rfl rfl rfl;exact bF rfl ab rfl rfl rfl aQ c8;apply aH rfl rfl rfl;exact bw rfl rfl rfl ab;apply aH rfl rfl rfl;exact aG rfl rfl rfl rfl;refine aa rfl (bD rfl rfl rfl) (ar (an ?_)))
  refine ax rfl (fun _=> ?_) (fun e=> ?_)
  ·(refine ak (ah (aa rfl (ai rfl rfl) (aa rfl (ai rfl rfl) (ar (an (aS (aO ?_))))))))
   exact bN (.inl rfl) rfl (.tmp rfl) (.tmp rfl) trivial trivial
  ·exfalso;simp at e;omega
end Go.Proofs.YtekbhbcgoadciaaGreat
namespace Go.Proofs.YtekbhbcgoadciaaGreat
open Go.RowKit
theorem hZ {ng:Nat} {rels ws:List (List Int)} (h:Good ng rels ws) (hf:(cm ng rels ws).2.2=false):dP (cU ((ng:Int),rels) ws) (fe ((ng:Int),rels) ws):=by
 refine ⟨fun k hk=>nJ (by rw [dO] at hk;exact hk),fun k hk x hx=> ?_⟩
 rw [dO] at hk
 have hF:=gg h.rl h.wl hf
 rw [gC]
 rw [ma] at hx ⊢
 have:=lq hF hx hk
 have he:aC (bn (cj ng (cm ng rels ws).1 (cm ng rels ws).2.1) k) x=iN (cm ng rels ws).1 (cm ng rels ws).2.1 (bO ng (cm ng rels ws).1 (cm ng rels ws).2.1) k x:=by
  simp [cj,bn,aC,hk,hx,iN]
 rw [he]
 exact this
theorem gF {ng:Nat} {rels ws:List (List Int)} (hs:hH ((ng:Int),rels) ws=true):(cm ng rels ws).2.2=false∧fe ((ng:Int),rels) ws≤400:=by
 unfold hH at hs;rw [lS] at hs;simpa using hs
theorem lE {ng:Nat} {im:List (List Int)} {less:List Int} (hF:Full ng im less):∀(f i:Nat) (s:je),pn less.length less s→eS s (da ng im less f i s)
 | 0,_,s,_=>eS.refl s
 | f + 1,i,s,h=>by
  unfold da
  split
  ·rename_i hlt
   obtain ⟨h1,h2,_⟩:=eG hF h hlt ng (Nat.le_refl _)
   exact eS.trans h2 (lE hF f (i + 1) _ h1)
  ·exact eS.refl s
theorem tJ {ng:Nat} {im:List (List Int)} {less:List Int} (hF:Full ng im less):eS (dE less.length) (bO ng im less):=lE hF _ _ _ (fg hF)
theorem mg {ng:Nat} {rels ws:List (List Int)} (h:Good ng rels ws) (hf:(cm ng rels ws).2.2=false):0 < fe ((ng:Int),rels) ws:=by
 rw [ma]
 have hF:=gg h.rl h.wl hf
 obtain ⟨hk,_⟩:=gL hF
 have hF0:=hF.pos
 rcases Nat.eq_zero_or_pos (bO ng (cm ng rels ws).1 (cm ng rels ws).2.1).1.length with h0 | h0
 ·exfalso
  have g1:eS (dE (cm ng rels ws).2.1.length) (bO ng (cm ng rels ws).1 (cm ng rels ws).2.1):=tJ hF
  have:=g1.len
  simp [dE] at this
  omega
 ·exact h0
section
variable {η:Env} {ω:bY} {w:World} {ins:List (Nm×Ch)}
end
theorem Ed {us:List Value} {u0 u1 u2:Value} (hl:us.length=3) (g0:us[0]? =some u0) (g1:us[1]? =some u1) (g2:us[2]? =some u2):us= [u0,u1,u2]:=by
 match us,hl with
 | [p,q,r],_=>simp at g0 g1 g2;rw [g0,g1,g2]
theorem yZ (T:List (List Int)) (W:List Int) (x m n:Nat) (hn:T.length=n) (hT:dP T m) (hx:x < m) (hm4:m≤1000000) (hn4:n≤1000000) (hW:∀z∈W,0≤z∧z < T.length) (hWl:W.length≤1000000000):
  FC Tryz.prog 131 [(1005,jg T),(1004,dk W)] [o1 (.sl 1005 0 n),o1 (.sl 1004 0 W.length),vv (I6 x)] [] (vv (I6 (dr T x W))) []:=
 dS fun w η ω us hm ⟨hl,ha⟩=>by
  subst hn
  obtain ⟨u0,g0,d0⟩:=ha 0 _ rfl
  obtain ⟨u1,g1,d1⟩:=ha 1 _ rfl
  obtain ⟨u2,g2,d2⟩:=ha 2 _ rfl
  have d2:u2=I6 x:=d2
  subst d2
  obtain ⟨ao,c,rfl,hi⟩:=IM (x:=1005) (zss:=T) hm rfl d0 ae fun zs hz=>by
   obtain ⟨j,hj,rfl⟩:=List.getElem_of_mem hz
   rw [←iB hj,hT.len j hj];omega
  obtain ⟨ao',c',rfl,hi'⟩:=Fg (x:=1004) (zs:=W) hm rfl d1 ae
  rw [Ed hl g0 g1 g2]
  refine (xn ao _ c T ao' _ c' W x m w hi hi' hx hT hW).mono ?_
  rintro e w' ⟨rfl,rfl⟩
  exact ⟨rfl,Below.refl _ _⟩
theorem qm (g:Int) (W:List Int) (hg0:0≤g) (hg1:g≤1000) (hW:W.length≤4398046511104):FC Tryz.prog 123 [(1004,dk W)] [o1 (.sl 1004 0 W.length),vv (I6 g)] [] (vv (.bool (di (g - 1) W))) []:=
 dS fun w η ω us hm ⟨hl,ha⟩=>by
  obtain ⟨u0,g0,d0⟩:=ha 0 _ rfl
  obtain ⟨u1,g1,d1⟩:=ha 1 _ rfl
  have d1:u1=I6 g:=d1
  subst d1
  obtain ⟨ao',c',rfl,hi'⟩:=Fg (x:=1004) (zs:=W) hm rfl d0 ae
  rw [DB hl g0 g1]
  refine (ni g ao' _ c' W w hi' hg0 hg1).mono ?_
  first | (rintro e w' ⟨rfl,rfl⟩;exact ⟨rfl,Below.refl _ _⟩) | (rintro e w' ⟨rfl,hb⟩;exact ⟨rfl,hb⟩)
def m7 (d:du) (W:List Int):Prop:=fl d=true∧di (d.1 - 1) W=true∧hH d []=true
def tl (d:du) (W:List Int):Int:=if fl d=true then (if di (d.1 - 1) W=true then (if hH d []=true then 0 else 3) else 2) else 1
theorem mi {g:Int} {rels:List (List Int)} (h:fl (g,rels)=true):∃ng:Nat,g=(ng:Int)∧Good ng rels []:=rf (by rw [nK];exact h)
theorem lj {ng:Nat} {rels:List (List Int)} {W:List Int} (h1:Fit rels) (h2:W.length≤4398046511104) (hG:Good ng rels []) (hk:m7 ((ng:Int),rels) W):
  FC Tryz.prog 78 [(1004,dk W),(1003,a6 rels)] [pA ng rels.length,o1 (.sl 1004 0 W.length)] [(1005,cT (cU ((ng:Int),rels) []))] (.tup [.one (.sl 1005 0 ng), .one (.val (I6 0))]) []:=by
 obtain ⟨k1,k2,k3⟩:=hk
 have hI:=qi ng rels h1
 rw [k1] at hI
 have hW:=qm ng W ae (by have:=hG.hi;omega) h2
 rw [k2] at hW
 have hS:=(tO hG k3).Eu
 refine bj (nt:=20) Tryz.func78 rfl rfl (by simp) fun w0 ω0=> ?_
 (refine ak (ah (aa rfl (cF rfl rfl rfl rfl) (aa rfl (ai rfl rfl) (aa rfl (ai rfl rfl) (ar (an (ak (aB (ak (ah (aa rfl (aU rfl rfl rfl rfl rfl rfl ab) ?_)))))))))));apply aa rfl;(apply au 75;exact aw hI ab rfl rfl ⟨⟨.inl rfl, .inl rfl,ag⟩,ag⟩ ⟨⟨_,rfl, .inl rfl⟩,ag⟩ rfl rfl);refine aa rfl (bU rfl rfl) (aa rfl (ai rfl rfl) (ar (an ?_))))
 refine ax rfl (fun e=>by cases e) (fun _=> ?_)
 (refine ak (ah (aa rfl (aj rfl rfl) ?_));apply aa rfl;(exact aI (d:=0) rfl rfl rfl ab);apply aa rfl;exact aZ rfl ab rfl rfl rfl rfl;apply aa rfl;(apply au 123;exact aw hW ab rfl rfl ⟨rfl,rfl,ag⟩ ⟨⟨_,rfl, .inl rfl⟩,ag⟩ rfl rfl);refine aa rfl (bU rfl rfl) (aa rfl (ai rfl rfl) (ar (an ?_))))
 refine ax rfl (fun e=>by cases e) (fun _=> ?_)
 (refine aE (aM (an (ak (ah (aa rfl (aU rfl rfl rfl rfl rfl rfl ab) ?_)))));apply aa rfl;(apply au 91;exact bg hS ab rfl rfl ⟨⟨.inl rfl, .inl rfl,ag⟩,rfl,ag⟩ ⟨⟨_,rfl, .inl rfl⟩,ag⟩ rfl rfl rfl);refine aa rfl (aN rfl rfl rfl) (aa rfl (aN rfl rfl rfl) (aa rfl (ai rfl rfl) (aa rfl (ai rfl rfl) (ar (an (aS ?_)))))))
 exact bN (.inl rfl) rfl (.tmp rfl) (.tmp rfl) ⟨rfl,ag⟩ trivial
theorem mW {g:Int} {rels:List (List Int)} {W:List Int} (h1:Fit rels) (h2:W.length≤4398046511104) (hk:¬m7 (g,rels) W):
  FC Tryz.prog 78 [(1004,dk W),(1003,a6 rels)] [pA g rels.length,o1 (.sl 1004 0 W.length)] [] (.tup [.one (.val (.slice none 0 0)), .one (.val (I6 (tl (g,rels) W)))]) []:=by
 have hI:=qi g rels h1
 refine bj (nt:=20) Tryz.func78 rfl rfl (by simp) fun w0 ω0=> ?_
 unfold tl
 by_cases k1:fl (g,rels)=true
 ·obtain ⟨ng,rfl,hG⟩:=mi k1
  rw [k1] at hI
  rw [if_pos k1]
  have hW:=qm ng W ae (by have:=hG.hi;omega) h2
  (refine ak (ah (aa rfl (cF rfl rfl rfl rfl) (aa rfl (ai rfl rfl) (aa rfl (ai rfl rfl) (ar (an (ak (aB (ak (ah (aa rfl (aU rfl rfl rfl rfl rfl rfl ab) ?_)))))))))));apply aa rfl;(apply au 75;exact aw hI ab rfl rfl ⟨⟨.inl rfl, .inl rfl,ag⟩,ag⟩ ⟨⟨_,rfl, .inl rfl⟩,ag⟩ rfl rfl);refine aa rfl (bU rfl rfl) (aa rfl (ai rfl rfl) (ar (an ?_))))
  refine ax rfl (fun e=>by cases e) (fun _=> ?_)
  by_cases k2:di ((ng:Int) - 1) W=true
  ·rw [k2] at hW
   have k3:¬hH ((ng:Int),rels) []=true:=fun h=>hk ⟨k1,k2,h⟩
   rw [if_pos k2,if_neg k3]
   have hS:=(vQ hG k3).Eu
   (refine ak (ah (aa rfl (aj rfl rfl) ?_));apply aa rfl;(exact aI (d:=0) rfl rfl rfl ab);apply aa rfl;exact aZ rfl ab rfl rfl rfl rfl;apply aa rfl;(apply au 123;exact aw hW ab rfl rfl ⟨rfl,rfl,ag⟩ ⟨⟨_,rfl, .inl rfl⟩,ag⟩ rfl rfl);refine aa rfl (bU rfl rfl) (aa rfl (ai rfl rfl) (ar (an ?_))))
   refine ax rfl (fun e=>by cases e) (fun _=> ?_)
   (refine aE (aM (an (ak (ah (aa rfl (aU rfl rfl rfl rfl rfl rfl ab) ?_)))));apply aa rfl;(apply au 91;exact aw hS ab rfl rfl ⟨⟨.inl rfl, .inl rfl,ag⟩,rfl,ag⟩ ⟨⟨_,rfl, .inl rfl⟩,ag⟩ rfl rfl);refine aa rfl (aN rfl rfl rfl) (aa rfl (aN rfl rfl rfl) (aa rfl (ai rfl rfl) (aa rfl (ai rfl rfl) (ar (an (aS ?_)))))))
   exact bN (.inl rfl) rfl (.tmp rfl) (.tmp rfl) trivial trivial
  ·rw [if_neg k2]
   have k2':di ((ng:Int) - 1) W=false:=by simpa using k2
   rw [k2'] at hW
   (refine ak (ah (aa rfl (aj rfl rfl) ?_));apply aa rfl;(exact aI (d:=0) rfl rfl rfl ab);apply aa rfl;exact aZ rfl ab rfl rfl rfl rfl;apply aa rfl;(apply au 123;exact aw hW ab rfl rfl ⟨rfl,rfl,ag⟩ ⟨⟨_,rfl, .inl rfl⟩,ag⟩ rfl rfl);refine aa rfl (bU rfl rfl) (aa rfl (ai rfl rfl) (ar (an ?_))))
   refine ax rfl (fun _=> ?_) (fun e=>by cases e)
   (refine ak (ah (aa rfl (ai rfl rfl) (aa rfl (ai rfl rfl) (ar (an (aS (bt (aO ?_)))))))))
   exact bN (.inl rfl) rfl (.tmp rfl) (.tmp rfl) trivial trivial
 ·have k1':fl (g,rels)=false:=by simpa using k1
  rw [k1'] at hI
  rw [if_neg k1]
  (refine ak (ah (aa rfl (cF rfl rfl rfl rfl) (aa rfl (ai rfl rfl) (aa rfl (ai rfl rfl) (ar (an (ak (aB (ak (ah (aa rfl (aU rfl rfl rfl rfl rfl rfl ab) ?_)))))))))));apply aa rfl;(apply au 75;exact aw hI ab rfl rfl ⟨⟨.inl rfl, .inl rfl,ag⟩,ag⟩ ⟨⟨_,rfl, .inl rfl⟩,ag⟩ rfl rfl);refine aa rfl (bU rfl rfl) (aa rfl (ai rfl rfl) (ar (an ?_))))
  refine ax rfl (fun _=> ?_) (fun e=>by cases e)
  (refine ak (ah (aa rfl (ai rfl rfl) (aa rfl (ai rfl rfl) (ar (an (aS (bt (aO ?_)))))))))
  exact bN (.inl rfl) rfl (.tmp rfl) (.tmp rfl) trivial trivial
theorem vk {d:du} {W:List Int} (h:m7 d W):tl d W=0:=by unfold tl;rw [if_pos h.1,if_pos h.2.1,if_pos h.2.2]
theorem nI {d:du} {W:List Int} (h:¬m7 d W):tl d W≠0:=by
 unfold tl
 split
 ·split
  ·split
   ·exact fun _=>h ⟨by assumption,by assumption,by assumption⟩
   ·decide
  ·decide
 ·decide
theorem FA {ng:Nat} {rels:List (List Int)} {W:List Int} (hk:m7 ((ng:Int),rels) W):(∀z∈W,0≤z∧z < (cU ((ng:Int),rels) []).length)∧W.length≤1000000000:=by
 have:=kx (ng:=ng) rfl hk.2.1
 refine ⟨fun z hz=> ?_,ae⟩
 rw [dO];exact this.1 z hz
theorem ID {E:Nat} {w:World} {lo hi:Nat} {v:Value} {zs:List Int} (h:ff E w lo hi v zs):zs.length≤4398046511104:=by
 obtain ⟨⟨ao,n,c,rfl,ho⟩,_⟩:=h
 have h1:=ho.len
 rw [List.length_map] at h1
 have h2:=ho.2
 omega
theorem I1 {f:FuncId} {outs:List (Nm×Ch)} {res:AV} {d:du} {W:List Int} (hf:Fit d.2→W.length≤4398046511104→FC Tryz.prog f [(1004,dk W),(1003,a6 d.2)] [pA d.1 d.2.length,o1 (.sl 1004 0 W.length)] outs res []) {E1 E E':Nat} {w:World} {lo hi lo' hi':Nat} {v v':Value} (h:tE E1 E w lo hi v d) (h':ff E' w lo' hi' v' W):
  Calls Tryz.prog f #[v,v'] w fun e w'=>∃v η ω,e= .returned v∧Den η res v∧Mem η ω w' (fun x=>lk x outs)∧Below w.heap.size w w'∧∀b,b < w.heap.size→ω b=none:=by
 obtain ⟨u,rfl,hs⟩:=Ki h
 obtain ⟨hd,r,rfl,hv⟩:=Jf 1003 24 2 hs
 obtain ⟨hd',r',rfl,hv'⟩:=JZ 1004 2 h'.1
 exact (hf (E0 hs) (ID h')).call (l:= [(1004,(dk W,hd',r')),(1003,(a6 d.2,hd,r))]) (us:= [_,_]) (fun p hp=>by simp at hp;rcases hp with rfl | rfl;exact hv';exact hv) rfl
  (GP (Jx (s8 (q:=(a6 d.2,hd,r)) rfl)) (s8 (q:=(dk W,hd',r')) rfl))
end Go.Proofs.YtekbhbcgoadciaaGreat
namespace Go.Proofs.YtekbhbcgoadciaaGreat
open Go.RowKit
end Go.Proofs.YtekbhbcgoadciaaGreat
namespace Go.Proofs.YtekbhbcgoadciaaGreat
abbrev k8:=List (List Int)×List Bool×List Int
def gA (s:k8) (c g d:Nat):k8:=if dU s.2.1 d=true then s else (s.1.set d (bn s.1 c ++ [(g:Int)]),s.2.1.set d true,s.2.2 ++ [(d:Int)])
def jL (T:List (List Int)) (c:Nat) (s:k8) (g:Nat):k8:=gA s c g (kC T c g)
def FF (T:List (List Int)) (ng c:Nat) (s:k8):k8:=(List.range ng).foldl (jL T c) s
def ie (T:List (List Int)) (ng:Nat):Nat→Nat→k8→k8
 | 0,_,s=>s
 | f + 1,i,s=>if i < s.2.2.length then ie T ng f (i + 1) (FF T ng (aC s.2.2 i).toNat s) else s
def gy (n:Nat):k8:=(List.replicate n [],(List.replicate n false).set 0 true, [0])
def uz (T:List (List Int)) (ng n:Nat):k8:=ie T ng (n + 1) 0 (gy n)
structure u7 (n:Nat) (s:k8):Prop where
 l1:s.1.length=n
 l2:s.2.1.length=n
 q:∀k,k < s.2.2.length→∃d:Nat,aC s.2.2 k=(d:Int)∧d < n∧dU s.2.1 d=true
 wG:rv s.2.1=s.2.2.length
 cov:∀d,d < n→dU s.2.1 d=true→∃k,k < s.2.2.length∧aC s.2.2 k=(d:Int)
 emp:∀d,d < n→dU s.2.1 d=false→bn s.1 d= []
 len:∀d,(bn s.1 d).length < s.2.2.length
theorem u7.le {n:Nat} {s:k8} (h:u7 n s):s.2.2.length≤n:=by
 have:=AS s.2.1;rw [h.wG,h.l2] at this;exact this
structure j8 (n:Nat) (s s':k8):Prop where
 len:s.2.2.length≤s'.2.2.length
 pre:∀k,k < s.2.2.length→aC s'.2.2 k=aC s.2.2 k
 met:∀d,d < n→dU s.2.1 d=true→dU s'.2.1 d=true∧bn s'.1 d=bn s.1 d
theorem j8.refl (n:Nat) (s:k8):j8 n s s:=⟨Nat.le_refl _,fun _ _=>rfl,fun _ _ h=>⟨h,rfl⟩⟩
theorem j8.trans {n:Nat} {a b c:k8} (h:j8 n a b) (k:j8 n b c):j8 n a c:=
 ⟨Nat.le_trans h.len k.len,fun i hi=>(k.pre i (Nat.lt_of_lt_of_le hi h.len)).trans (h.pre i hi),fun d hd hm=>
  have h1:=h.met d hd hm
  have h2:=k.met d hd h1.1
  ⟨h2.1,h2.2.trans h1.2⟩⟩
theorem C4 {n c g d:Nat} {s:k8} (h:u7 n s) (hd:d < n):u7 n (gA s c g d):=by
 unfold gA
 split
 ·exact h
 ·rename_i hm
  have hm:dU s.2.1 d=false:=by simpa using hm
  refine ⟨by rw [List.length_set];exact h.l1,by rw [List.length_set];exact h.l2,fun k hk=> ?_, ?_,fun e he hb=> ?_,fun e he hb=> ?_,fun e=> ?_⟩
  ·dsimp only at hk ⊢
   by_cases e:k < s.2.2.length
   ·obtain ⟨d',h1,h2,h3⟩:=h.q k e
    refine ⟨d',by rw [cC e];exact h1,h2, ?_⟩
    rw [dw];split
    ·rfl
    ·exact h3
   ·obtain rfl:k=s.2.2.length:=by simp at hk;omega
    exact ⟨d,dv,hd,by rw [dw,if_pos ⟨rfl,by rw [h.l2];exact hd⟩]⟩
  ·dsimp only;rw [lQ _ _ (by rw [h.l2];exact hd) hm,h.wG];simp
  ·dsimp only at hb ⊢
   by_cases e2:d=e
   ·subst e2;exact ⟨s.2.2.length,by simp,dv⟩
   ·rw [dw,if_neg (fun h=>e2 h.1)] at hb
    obtain ⟨k,h1,h2⟩:=h.cov e he hb
    exact ⟨k,by rw [List.length_append];omega,by rw [cC h1];exact h2⟩
  ·dsimp only at hb ⊢
   rw [dw] at hb
   split at hb
   ·cases hb
   ·rename_i hne
    rw [fA,if_neg (fun h'=>hne ⟨h'.1,by rw [h.l2];exact hd⟩)]
    exact h.emp e he hb
  ·dsimp only
   rw [fA,List.length_append]
   have h1:=h.len c
   have h2:=h.len e
   split
   ·simp;omega
   ·simp;omega
theorem qB {n c g d:Nat} {s:k8} (h:u7 n s):j8 n s (gA s c g d):=by
 unfold gA
 split
 ·exact j8.refl n s
 ·rename_i hm
  refine ⟨by simp,fun k hk=>cC hk,fun e he hb=> ?_⟩
  have hne:d≠e:=fun e'=>by subst e';exact hm hb
  dsimp only
  rw [dw,if_neg (fun h=>hne h.1),fA,if_neg (fun h=>hne h.1)]
  exact ⟨hb,rfl⟩
section
variable {T:List (List Int)} {ng n:Nat}
theorem n4 (hT:dP T n) (hng:T.length=ng) {c:Nat} (hc:c < n) {s:k8} (h:u7 n s):∀m,m≤ng→u7 n ((List.range m).foldl (jL T c) s)∧j8 n s ((List.range m).foldl (jL T c) s)
 | 0,_=>⟨h,j8.refl n s⟩
 | m + 1,hm=>by
  obtain ⟨h1,h2⟩:=n4 hT hng hc h m ae
  rw [List.range_succ,List.foldl_append]
  exact ⟨C4 h1 (nO hT hc ae).1,h2.trans (qB h1)⟩
theorem rQ (hT:dP T n) (hng:T.length=ng):∀(f i:Nat) (s:k8),u7 n s→u7 n (ie T ng f i s)∧j8 n s (ie T ng f i s)
 | 0,_,s,h=>⟨h,j8.refl n s⟩
 | f + 1,i,s,h=>by
  unfold ie
  split
  ·rename_i hi
   obtain ⟨d,h1,h2,_⟩:=h.q i hi
   obtain ⟨k1,k2⟩:=n4 hT hng (c:=(aC s.2.2 i).toNat) ae h ng (Nat.le_refl _)
   obtain ⟨m1,m2⟩:=rQ hT hng f (i + 1) _ k1
   exact ⟨m1,k2.trans m2⟩
  ·exact ⟨h,j8.refl n s⟩
theorem sq {f i:Nat} {s:k8} (h:i < s.2.2.length):ie T ng (f + 1) i s=ie T ng f (i + 1) (FF T ng (aC s.2.2 i).toNat s):=by rw [ie,if_pos h]
theorem mI (hn:0 < n):u7 n (gy n):=by
 refine ⟨by simp [gy],by simp [gy],fun k hk=> ?_, ?_,fun d hd hb=> ?_,fun d hd _=> ?_,fun d=> ?_⟩
 ·obtain rfl:k=0:=by simp [gy] at hk;omega
  exact ⟨0,rfl,hn,by show dU ((List.replicate n false).set 0 true) 0=true;rw [dw,if_pos ⟨rfl,by simpa using hn⟩]⟩
 ·show rv ((List.replicate n false).set 0 true)=1
  rw [lQ _ _ (by simpa using hn) (by unfold dU;cases n<;>rfl)]
  simp [rv]
 ·have hb:dU ((List.replicate n false).set 0 true) d=true:=hb
  rw [dw] at hb
  split at hb
  ·rename_i e;exact ⟨0,by simp [gy],by rw [←e.1];rfl⟩
  ·simp [dU,hd] at hb
 ·show bn (List.replicate n []) d= []
  simp [bn,hd]
 ·show (bn (List.replicate n ([]:List Int)) d).length < 1
  by_cases h:d < n
  ·simp [bn,h]
  ·simp [bn,h]
end
end Go.Proofs.YtekbhbcgoadciaaGreat
namespace Go.Proofs.YtekbhbcgoadciaaGreat
def lexB:List Int→List Int→Bool
 | x :: a,y :: b=>if x=y then lexB a b else decide (x < y)
 | _,_=>false
def nT (u v:List Int):Bool:=if u.length=v.length then lexB u v else decide (u.length < v.length)
theorem AQ:∀ {u v w:List Int},lexB u v=true→lexB v w=true→lexB u w=true
 | [],_,_,h,_=>by simp [lexB] at h
 | _ :: _, [],_,h,_=>by simp [lexB] at h
 | _ :: _,_ :: _, [],_,h=>by simp [lexB] at h
 | x :: a,y :: b,z :: c,h,k=>by
  unfold lexB at h k ⊢
  split at h
  ·rename_i e
   subst e
   split at k
   ·rename_i e2;subst e2;rw [if_pos rfl];exact AQ h k
   ·rename_i e2;rw [if_neg e2];exact k
  ·rename_i e
   have h:=of_decide_eq_true h
   split at k
   ·rename_i e2;subst e2;rw [if_neg e];exact decide_eq_true h
   ·have k:=of_decide_eq_true k
    rw [if_neg ae];exact decide_eq_true ae
theorem yH:∀ {u v:List Int} (a b:List Int),lexB u v=true→lexB (u ++ a) (v ++ b)=true
 | [],_,_,_,h=>by simp [lexB] at h
 | _ :: _, [],_,_,h=>by simp [lexB] at h
 | x :: u,y :: v,a,b,h=>by
  rw [List.cons_append,List.cons_append]
  unfold lexB at h ⊢
  split at h
  ·rename_i e;rw [if_pos e];exact yH a b h
  ·rename_i e;rw [if_neg e];exact h
theorem tY {g h:Int} (hgh:g < h):∀u:List Int,lexB (u ++ [g]) (u ++ [h])=true
 | []=>by simp only [List.nil_append,lexB];rw [if_neg ae];exact decide_eq_true hgh
 | x :: u=>by rw [List.cons_append,List.cons_append];unfold lexB;rw [if_pos rfl];exact tY hgh u
theorem Gg {u v w:List Int} (h:nT u v=true) (k:nT v w=true):nT u w=true:=by
 unfold nT at h k ⊢
 split at h
 ·rename_i e
  rw [e]
  split at k
  ·rename_i e2;rw [if_pos e2];exact AQ h k
  ·rename_i e2;rw [if_neg e2];exact k
 ·have h:=of_decide_eq_true h
  split at k
  ·rename_i e2;rw [if_neg ae];exact decide_eq_true ae
  ·have k:=of_decide_eq_true k
   rw [if_neg ae];exact decide_eq_true ae
theorem yp {u v:List Int} (g h:Int) (k:nT u v=true):nT (u ++ [g]) (v ++ [h])=true:=by
 unfold nT at k ⊢
 rw [List.length_append,List.length_append]
 split at k
 ·rename_i e;rw [if_pos (by simp [e])];exact yH _ _ k
 ·rename_i e;have k:=of_decide_eq_true k;rw [if_neg (by simp;omega)];exact decide_eq_true (by simp;omega)
theorem Bt {g h:Int} (hgh:g < h) (u:List Int):nT (u ++ [g]) (u ++ [h])=true:=by
 unfold nT;rw [if_pos (by simp)];exact tY hgh u
theorem EC (u:List Int) (g:Int):nT [] (u ++ [g])=true:=by
 unfold nT;rw [if_neg (by simp)];simp
def Ff (u v:List Int):Prop:=u=v∨nT u v=true
theorem Ff.tr {u v w:List Int} (h:Ff u v) (k:Ff v w):Ff u w:=by
 rcases h with rfl | h
 ·exact k
 ·rcases k with rfl | k
  ·exact .inr h
  ·exact .inr (Gg h k)
theorem Ff.app {u v:List Int} (h:Ff u v) (g:Int):Ff (u ++ [g]) (v ++ [g]):=by
 rcases h with rfl | h
 ·exact .inl rfl
 ·exact .inr (yp g g h)
structure zA (T:List (List Int)) (ng n:Nat) (s:k8) (c i m:Nat):Prop where
 q:s.2.2.length=c
 qk:∀k,k < c→aC s.2.2 k=(k:Int)
 met:∀d,d < n→(dU s.2.1 d=true↔d < c)
 l1:s.1.length=n
 l2:s.2.1.length=n
 cn:c≤n
 c1:1≤c
 zero:bn s.1 0= []
 src:∀d,1≤d→d < c→∃p h:Nat,bn s.1 d=bn s.1 p ++ [(h:Int)]∧p < d∧h < ng∧(p < i∨(p=i∧h < m))∧kC T p h=d
 mono:∀d e,d < e→e < c→nT (bn s.1 d) (bn s.1 e)=true
 edge:∀a h:Nat,h < ng→(a < i∨(a=i∧h < m))→kC T a h < c∧Ff (bn s.1 (kC T a h)) (bn s.1 a ++ [(h:Int)])
theorem zA.step {T:List (List Int)} {ng n c i m:Nat} {s:k8} (hs:zA T ng n s c i m) (hi:i < c) (hm:m < ng) (ht:kC T i m < n) (hc:kC T i m≤c):
  zA T ng n (jL T i s m) (if kC T i m=c then c + 1 else c) i (m + 1):=by
 unfold jL gA
 generalize hte:kC T i m=t at *
 have key:∀d,d < c→nT (bn s.1 d) (bn s.1 i ++ [(m:Int)])=true:=fun d hd=>by
  rcases Nat.eq_zero_or_pos d with rfl | h0
  ·rw [hs.zero];exact EC _ _
  ·obtain ⟨p,h,e,h1,h2,h3,h4⟩:=hs.src d h0 hd
   rw [e]
   rcases h3 with h3 | ⟨rfl,h3⟩
   ·exact yp _ _ (hs.mono p i h3 hi)
   ·exact Bt ae _
 by_cases e:t=c
 ·subst e
  have hb:dU s.2.1 t=false:=by
   cases hb:dU s.2.1 t with
   | false=>rfl
   | true=>have:=(hs.met t ht).1 hb;omega
  rw [hb,if_neg (by decide),if_pos rfl]
  have g1:∀d,d < t→bn (s.1.set t (bn s.1 i ++ [(m:Int)])) d=bn s.1 d:=fun d hd=>by rw [fA,if_neg ae]
  have g2:bn (s.1.set t (bn s.1 i ++ [(m:Int)])) t=bn s.1 i ++ [(m:Int)]:=by rw [fA,if_pos ⟨rfl,by rw [hs.l1];exact ht⟩]
  refine { q:=by dsimp only;rw [List.length_append,hs.q];rfl,qk:=fun k hk=> ?_,met:=fun d hd=> ?_,l1:=by dsimp only;rw [List.length_set];exact hs.l1,l2:=by dsimp only;rw [List.length_set];exact hs.l2,cn:=by omega,c1:=by omega,zero:=by dsimp only;rw [g1 0 (by have:=hs.c1;omega)];exact hs.zero,src:=fun d h1 h2=> ?_,mono:=fun d f h1 h2=> ?_,edge:=fun a h h1 h2=> ?_ }
  ·dsimp only
   by_cases ek:k < t
   ·rw [cC (by rw [hs.q];exact ek)];exact hs.qk k ek
   ·obtain rfl:k=t:=by omega
    have h9:aC (s.2.2 ++ [(k:Int)]) s.2.2.length=(k:Int):=dv
    rwa [hs.q] at h9
  ·dsimp only
   rw [dw,hs.l2]
   by_cases ed:t=d
   ·subst ed;rw [if_pos ⟨rfl,hd⟩];simp
   ·rw [if_neg (fun h=>ed h.1),hs.met d hd];omega
  ·dsimp only
   by_cases ed:d < t
   ·obtain ⟨p,h,e1,e2,e3,e4,e5⟩:=hs.src d h1 ed
    exact ⟨p,h,by rw [g1 d ed,g1 p ae];exact e1,e2,e3,ae,e5⟩
   ·obtain rfl:d=t:=by omega
    exact ⟨i,m,by rw [g2,g1 i hi],hi,hm, .inr ⟨rfl,ae⟩,hte⟩
  ·dsimp only
   rw [g1 d ae]
   by_cases ef:f < t
   ·rw [g1 f ef];exact hs.mono d f h1 ef
   ·obtain rfl:f=t:=by omega
    rw [g2];exact key d h1
  ·dsimp only
   by_cases ea:a=i∧h=m
   ·obtain ⟨rfl,rfl⟩:=ea
    rw [hte,g2,g1 a hi]
    exact ⟨ae, .inl rfl⟩
   ·obtain ⟨k1,k2⟩:=hs.edge a h h1 ae
    rw [g1 _ k1,g1 a ae]
    exact ⟨ae,k2⟩
 ·have hlt:t < c:=by omega
  rw [(hs.met t ht).2 hlt,if_pos rfl,if_neg e]
  refine { hs with src:=fun d h1 h2=> ?_,edge:=fun a h h1 h2=> ?_ }
  ·obtain ⟨p,h,e1,e2,e3,e4,e5⟩:=hs.src d h1 h2
   exact ⟨p,h,e1,e2,e3,ae,e5⟩
  ·by_cases ea:a=i∧h=m
   ·obtain ⟨rfl,rfl⟩:=ea
    rw [hte]
    exact ⟨hlt, .inr (key t hlt)⟩
   ·exact hs.edge a h h1 ae
theorem zA.row {T:List (List Int)} {ng n c i:Nat} {s:k8} (hs:zA T ng n s c i ng):zA T ng n s c (i + 1) 0:=
 {hs with
  src:=fun d h1 h2=>by
   obtain ⟨p,h,e1,e2,e3,e4,e5⟩:=hs.src d h1 h2
   exact ⟨p,h,e1,e2,e3,ae,e5⟩
  edge:=fun a h h1 h2=>hs.edge a h h1 ae }
section
variable {ng:Nat} {im:List (List Int)} {less:List Int}
theorem pC (i:Nat):∀(l:List Nat) (s:je),eS s (l.foldl (cY im less i) s)
 | [],s=>eS.refl s
 | g :: r,s=>(fI s _).trans (pC i r _)
theorem E6 (i m:Nat) (hm:m < ng) (s:je):eS (cY im less i ((List.range m).foldl (cY im less i) s) m) (iS ng im less i s):=by
 unfold iS
 have e:List.range ng=List.range m ++ m :: ((List.range (ng - (m + 1))).map (fun x=>m + 1 + x)):=by
  have h1:List.range ng=List.range ((m + 1) + (ng - (m + 1))):=by congr 1;omega
  rw [h1,List.range_add,List.range_succ]
  simp
 rw [e,List.foldl_append,List.foldl_cons]
 exact pC i _ _
theorem EN (hF:Full ng im less) {i m:Nat} {s:je} (h:pn less.length less s) (hi:i < s.1.length) (hm:m < ng) (hg:eS (cY im less i s m) (bO ng im less)):
  kC (cj ng im less) i m≤s.1.length∧(cY im less i s m).1.length=if kC (cj ng im less) i m=s.1.length then s.1.length + 1 else s.1.length:=by
 have hvg:=fI s (image im less (aC s.1 i).toNat m).toNat
 have hin:i < eU ng im less:=Nat.lt_of_lt_of_le hi (hvg.trans hg).len
 unfold kC
 rw [fx hin hm]
 unfold jN
 rw [(hvg.trans hg).pre i hi]
 obtain ⟨d,h1,h2,h3,_⟩:=h.live i hi
 obtain ⟨e,e1,e2,e3⟩:=hF.image h2 h3 hm
 unfold cY at hg ⊢
 rw [h1,Int.toNat_natCast,e1,Int.toNat_natCast] at hg ⊢
 unfold visit at hg ⊢
 split at hg
 ·rename_i hn
  have hv:aC (bO ng im less).2 e=(s.1.length:Int):=by
   rw [hg.num e (by dsimp only;rw [cK,if_pos ⟨rfl,by rw [h.len];exact e2⟩];omega)]
   dsimp only
   rw [cK,if_pos ⟨rfl,by rw [h.len];exact e2⟩]
  rw [if_pos hn,hv,Int.toNat_natCast]
  simp
 ·rename_i hn
  rw [if_neg hn,hg.num e ae]
  have:=h.num e e2 ae
  exact ⟨ae,by rw [if_neg ae]⟩
theorem uB (hF:Full ng im less) {i:Nat} {s:je} {b:k8} (h:pn less.length less s) (hi:i < s.1.length) (hg:eS (iS ng im less i s) (bO ng im less))
  (hb:zA (cj ng im less) ng (eU ng im less) b s.1.length i 0):∀m,m≤ng→zA (cj ng im less) ng (eU ng im less) ((List.range m).foldl (jL (cj ng im less) i) b) ((List.range m).foldl (cY im less i) s).1.length i m
 | 0,_=>hb
 | m + 1,hm=>by
  have ih:=uB hF h hi hg hb m ae
  obtain ⟨h1,h2,_⟩:=eG hF h hi m ae
  have hgr:=(E6 (im:=im) (less:=less) i m (by omega:m < ng) s).trans hg
  rw [List.range_succ,List.foldl_append,List.foldl_append]
  generalize (List.range m).foldl (cY im less i) s=sm at *
  generalize (List.range m).foldl (jL (cj ng im less) i) b=bm at *
  have him:i < sm.1.length:=Nat.lt_of_lt_of_le hi h2.len
  obtain ⟨k1,k2⟩:=EN hF h1 him ae hgr
  show zA _ _ _ (jL (cj ng im less) i bm m) (cY im less i sm m).1.length i (m + 1)
  rw [k2]
  have hin:i < eU ng im less:=Nat.lt_of_lt_of_le him (by have:=((fI sm (image im less (aC sm.1 i).toNat m).toNat).trans hgr).len;exact this)
  refine ih.step him ae ?_ k1
  unfold kC
  rw [fx hin ae]
  have:=ix hF hin (show m < ng by omega)
  omega
theorem Je (hF:Full ng im less):∀(f' f i:Nat) (s:je) (b:k8),pn less.length less s→da ng im less f i s=bO ng im less→less.length + 1≤f + i→i≤s.1.length→eU ng im less + 1≤f' + i→
  zA (cj ng im less) ng (eU ng im less) b s.1.length i 0→zA (cj ng im less) ng (eU ng im less) (ie (cj ng im less) ng f' i b) (eU ng im less) (eU ng im less) 0:=by
 intro f'
 induction f' with
 | zero=>
  intro f i s b h he hf hi hf' hb
  exfalso
  have:=hb.cn
  omega
 | succ f' ih=>
  intro f i s b h he hf hi hf' hb
  by_cases hlt:i < s.1.length
  ·have hle:=h.le
   obtain ⟨f1,rfl⟩:∃f1,f=f1 + 1:=⟨f - 1,ae⟩
   unfold da at he
   rw [if_pos hlt] at he
   obtain ⟨h1,_,_⟩:=eG hF h hlt ng (Nat.le_refl _)
   have hg:eS (iS ng im less i s) (bO ng im less):=by rw [←he];exact lE hF f1 (i + 1) _ h1
   have hr:=(uB hF h hlt hg hb ng (Nat.le_refl _)).row
   rw [sq (by rw [hb.q];exact hlt),hb.qk i hlt,Int.toNat_natCast]
   exact ih f1 (i + 1) _ _ h1 he ae (by have:=(pC (im:=im) (less:=less) i (List.range ng) s).len;omega) ae hr
  ·have hii:i=s.1.length:=by omega
   have hs:s=bO ng im less:=by
    cases f with
    | zero=>exact he
    | succ f=>unfold da at he;rw [if_neg hlt] at he;exact he
   have hn:i=eU ng im less:=by rw [hii,hs];rfl
   unfold ie
   rw [if_neg (by rw [hb.q];exact hlt)]
   rw [←hii] at hb
   rw [←hn]
   rw [←hn] at hb
   exact hb
theorem DW (hn:0 < eU ng im less):zA (cj ng im less) ng (eU ng im less) (gy (eU ng im less)) 1 0 0 where
 q:=rfl
 qk:=fun k hk=>by
   obtain rfl:k=0:=by omega
   rfl
 met:=fun d hd=>by
  show dU ((List.replicate (eU ng im less) false).set 0 true) d=true↔d < 1
  rw [dw]
  by_cases e:0=d
  ·subst e;rw [if_pos ⟨rfl,by simpa using hn⟩];simp
  ·rw [if_neg (fun h=>e h.1)]
   simp [dU,hd];omega
 l1:=by simp [gy]
 l2:=by simp [gy]
 cn:=hn
 c1:=Nat.le_refl _
 zero:=by simp [gy,bn,hn]
 src:=fun d h1 h2=>by omega
 mono:=fun d e h1 h2=>by omega
 edge:=fun a h h1 h2=>by omega
theorem H7 (hF:Full ng im less):zA (cj ng im less) ng (eU ng im less) (uz (cj ng im less) ng (eU ng im less)) (eU ng im less) (eU ng im less) 0:=by
 have hz:=kI (ng:=ng) (im:=im) (less:=less)
 exact Je hF _ _ 0 _ _ (fg hF) rfl ae (Nat.zero_le _) ae (DW hz.1)
end
end Go.Proofs.YtekbhbcgoadciaaGreat
namespace Go.Proofs.YtekbhbcgoadciaaGreat
section
variable {ng:Nat} {im:List (List Int)} {less:List Int}
theorem FK (hF:Full ng im less) {b:k8} (hb:zA (cj ng im less) ng (eU ng im less) b (eU ng im less) (eU ng im less) 0):∀d,d < eU ng im less→bB ng (bn b.1 d)∧dr (cj ng im less) (0:Nat) (bn b.1 d)=(d:Int):=by
 intro d
 induction d using Nat.strongRecOn with
 | _ d ih=>
  intro hd
  rcases Nat.eq_zero_or_pos d with rfl | h0
  ·rw [hb.zero]
   exact ⟨fun z hz=>by simp at hz,rfl⟩
  ·obtain ⟨p,h,e,h1,h2,_,h4⟩:=hb.src d h0 hd
   obtain ⟨k1,k2⟩:=ih p h1 ae
   rw [e]
   refine ⟨fun z hz=> ?_, ?_⟩
   ·rcases List.mem_append.1 hz with hz | hz
    ·exact k1 z hz
    ·simp at hz;omega
   ·rw [jI,k2,Int.toNat_natCast,Int.toNat_natCast]
    have hw:=(pP hF).within h (by rw [qV];exact h2) p ae
    unfold kC at h4
    omega
theorem yr (hF:Full ng im less) {b:k8} (hb:zA (cj ng im less) ng (eU ng im less) b (eU ng im less) (eU ng im less) 0):∀(k:Nat) (w:List Int),w.length=k→bB ng w→Ff (bn b.1 (dr (cj ng im less) (0:Nat) w).toNat) w
 | 0,w,hk,_=>by
  obtain rfl:w= []:=List.eq_nil_of_length_eq_zero hk
  show Ff (bn b.1 0) []
  rw [hb.zero];exact .inl rfl
 | k + 1,w,hk,hw=>by
  obtain ⟨v,g,rfl⟩:∃v g,w=v ++ [g]:=⟨w.dropLast,w.getLast (by intro e;subst e;simp at hk),(List.dropLast_concat_getLast _).symm⟩
  have hv:bB ng v:=fun z hz=>hw z (by simp [hz])
  have hg:=hw g (by simp)
  have ih:=yr hF hb k v (by simpa using hk) hv
  have hT:=pP hF
  have hz:=kI (ng:=ng) (im:=im) (less:=less)
  obtain ⟨a,a1,a2⟩:=xZ hT (w:=v) (by rw [qV];exact hv) hz.1
  rw [a1,Int.toNat_natCast] at ih
  rw [jI,a1,Int.toNat_natCast]
  obtain ⟨_,e2⟩:=hb.edge a g.toNat ae (.inl a2)
  have e3:((g.toNat:Nat):Int)=g:=by omega
  rw [e3] at e2
  have:=ih.app g
  unfold kC at e2
  exact e2.tr this
end
end Go.Proofs.YtekbhbcgoadciaaGreat
namespace Go.Proofs.YtekbhbcgoadciaaGreat
def gp (mask g:Nat):Bool:=mask / 2 ^ g % 2 == 1
theorem yQ (a b g:Nat):gp (a &&& b) g=(gp a g && gp b g):=by
 have h:∀m:Nat,gp m g=m.testBit g:=fun m=>by
  unfold gp;rw [Nat.testBit_eq_decide_div_mod_eq];rfl
 rw [h,h,h,Nat.testBit_and]
abbrev qR:=List Bool×List Int
def fB (T:List (List Int)) (mask c:Nat) (s:qR) (g:Nat):qR:=if gp mask g=true∧dU s.1 (kC T c g)=false then (s.1.set (kC T c g) true,s.2 ++ [(kC T c g:Int)]) else s
def Gh (T:List (List Int)) (mask ng c:Nat) (s:qR):qR:=(List.range ng).foldl (fB T mask c) s
def gS (T:List (List Int)) (mask ng:Nat):Nat→Nat→qR→qR
 | 0,_,s=>s
 | f + 1,i,s=>if i < s.2.length then gS T mask ng f (i + 1) (Gh T mask ng (aC s.2 i).toNat s) else s
def mStart (n:Nat):qR:=((List.replicate n false).set 0 true, [0])
def mem (T:List (List Int)) (ng n mask:Nat):qR:=gS T mask ng (n + 1) 0 (mStart n)
structure AA (n:Nat) (s:qR):Prop where
 l:s.1.length=n
 q:∀k,k < s.2.length→∃d:Nat,aC s.2 k=(d:Int)∧d < n∧dU s.1 d=true
 wG:rv s.1=s.2.length
 cov:∀d,d < n→dU s.1 d=true→∃k,k < s.2.length∧aC s.2 k=(d:Int)
theorem AA.le {n:Nat} {s:qR} (h:AA n s):s.2.length≤n:=by
 have:=AS s.1;rw [h.wG,h.l] at this;exact this
structure kd (s s':qR):Prop where
 len:s.2.length≤s'.2.length
 pre:∀k,k < s.2.length→aC s'.2 k=aC s.2 k
 met:∀d,dU s.1 d=true→dU s'.1 d=true
theorem kd.refl (s:qR):kd s s:=⟨Nat.le_refl _,fun _ _=>rfl,fun _ h=>h⟩
theorem kd.trans {a b c:qR} (h:kd a b) (k:kd b c):kd a c:=
 ⟨Nat.le_trans h.len k.len,fun i hi=>(k.pre i (Nat.lt_of_lt_of_le hi h.len)).trans (h.pre i hi),fun d hd=>k.met d (h.met d hd)⟩
section
variable {T:List (List Int)} {ng n mask:Nat}
theorem sJ (s:qR) (c g:Nat):kd s (fB T mask c s g):=by
 unfold fB
 split
 ·refine ⟨by simp,fun k hk=>cC hk,fun d hd=> ?_⟩
  dsimp only
  rw [dw]
  split
  ·rfl
  ·exact hd
 ·exact kd.refl s
theorem EE {s:qR} {c g:Nat} (h:AA n s) (hd:kC T c g < n):AA n (fB T mask c s g):=by
 unfold fB
 generalize kC T c g=d at *
 split
 ·rename_i hm
  have hm:=hm.2
  refine ⟨by rw [List.length_set];exact h.l,fun k hk=> ?_, ?_,fun e he hb=> ?_⟩
  ·dsimp only at hk ⊢
   by_cases e:k < s.2.length
   ·obtain ⟨d',h1,h2,h3⟩:=h.q k e
    refine ⟨d',by rw [cC e];exact h1,h2, ?_⟩
    rw [dw];split
    ·rfl
    ·exact h3
   ·obtain rfl:k=s.2.length:=by simp at hk;omega
    exact ⟨d,dv,hd,by rw [dw,if_pos ⟨rfl,by rw [h.l];exact hd⟩]⟩
  ·dsimp only;rw [lQ _ _ (by rw [h.l];exact hd) hm,h.wG];simp
  ·dsimp only at hb ⊢
   by_cases e2:d=e
   ·subst e2;exact ⟨s.2.length,by simp,dv⟩
   ·rw [dw,if_neg (fun h=>e2 h.1)] at hb
    obtain ⟨k,h1,h2⟩:=h.cov e he hb
    exact ⟨k,by rw [List.length_append];omega,by rw [cC h1];exact h2⟩
 ·exact h
theorem Cc {s:qR} {c g:Nat} (h:AA n s) (hd:kC T c g < n) (hb:gp mask g=true):dU (fB T mask c s g).1 (kC T c g)=true:=by
 unfold fB
 cases hm:dU s.1 (kC T c g) with
 | false=>rw [if_pos ⟨hb,rfl⟩];dsimp only;rw [dw,if_pos ⟨rfl,by rw [h.l];exact hd⟩]
 | true=>rw [if_neg (fun h=>by cases h.2)];exact hm
theorem oL (hT:dP T n) (hng:T.length=ng) {c:Nat} (hc:c < n) {s:qR} (h:AA n s):∀m,m≤ng→AA n ((List.range m).foldl (fB T mask c) s)∧kd s ((List.range m).foldl (fB T mask c) s)∧∀g,g < m→gp mask g=true→dU ((List.range m).foldl (fB T mask c) s).1 (kC T c g)=true
 | 0,_=>⟨h,kd.refl s,fun g hg=>by omega⟩
 | m + 1,hm=>by
  obtain ⟨h1,h2,h3⟩:=oL hT hng hc h m ae
  rw [List.range_succ,List.foldl_append]
  generalize (List.range m).foldl (fB T mask c) s=t at *
  have hd:=(nO hT hc (g:=m) ae).1
  refine ⟨EE h1 hd,h2.trans (sJ t c m),fun g hg hb=> ?_⟩
  show dU (fB T mask c t m).1 (kC T c g)=true
  by_cases e:g=m
  ·subst e;exact Cc h1 hd hb
  ·exact (sJ t c m).met _ (h3 g ae hb)
def GN (T:List (List Int)) (mask ng i:Nat) (s:qR):Prop:=∀k,k < i→∀g,g < ng→gp mask g=true→dU s.1 (kC T (aC s.2 k).toNat g)=true
theorem AE {f i:Nat} {s:qR} (h:i < s.2.length):gS T mask ng (f + 1) i s=gS T mask ng f (i + 1) (Gh T mask ng (aC s.2 i).toNat s):=by rw [gS,if_pos h]
theorem sA (hT:dP T n) (hng:T.length=ng):∀(f i:Nat) (s:qR),AA n s→AA n (gS T mask ng f i s)∧kd s (gS T mask ng f i s)
 | 0,_,s,h=>⟨h,kd.refl s⟩
 | f + 1,i,s,h=>by
  unfold gS
  split
  ·rename_i hi
   obtain ⟨d,h1,h2,_⟩:=h.q i hi
   obtain ⟨k1,k2,_⟩:=oL (mask:=mask) hT hng (c:=(aC s.2 i).toNat) ae h ng (Nat.le_refl _)
   obtain ⟨m1,m2⟩:=sA hT hng f (i + 1) _ k1
   exact ⟨m1,k2.trans m2⟩
  ·exact ⟨h,kd.refl s⟩
theorem rz (hT:dP T n) (hng:T.length=ng):∀(f i:Nat) (s:qR),AA n s→GN T mask ng i s→i≤s.2.length→n + 1≤f + i→GN T mask ng (gS T mask ng f i s).2.length (gS T mask ng f i s)
 | 0,i,s,h,hs,hi,hf=>by have:=h.le;omega
 | f + 1,i,s,h,hs,hi,hf=>by
  unfold gS
  split
  ·rename_i hlt
   obtain ⟨d,h1,h2,_⟩:=h.q i hlt
   obtain ⟨k1,k2,k3⟩:=oL (mask:=mask) hT hng (c:=(aC s.2 i).toNat) ae h ng (Nat.le_refl _)
   refine rz hT hng f (i + 1) _ k1 (fun k hk g hg hb=> ?_) (Nat.le_trans hlt k2.len) ae
   have e:aC (Gh T mask ng (aC s.2 i).toNat s).2 k=aC s.2 k:=k2.pre k ae
   rw [e]
   by_cases e2:k=i
   ·subst e2;exact k3 g hg hb
   ·exact k2.met _ (hs k ae g hg hb)
  ·obtain rfl:i=s.2.length:=by omega
   exact hs
theorem js (hn:0 < n):AA n (mStart n):=by
 refine ⟨by simp [mStart],fun k hk=> ?_, ?_,fun d hd hb=> ?_⟩
 ·obtain rfl:k=0:=by simp [mStart] at hk;omega
  exact ⟨0,rfl,hn,by show dU ((List.replicate n false).set 0 true) 0=true;rw [dw,if_pos ⟨rfl,by simpa using hn⟩]⟩
 ·show rv ((List.replicate n false).set 0 true)=1
  rw [lQ _ _ (by simpa using hn) (by unfold dU;cases n<;>rfl)]
  simp [rv]
 ·have hb:dU ((List.replicate n false).set 0 true) d=true:=hb
  rw [dw] at hb
  split at hb
  ·rename_i e;exact ⟨0,by simp [mStart],by rw [←e.1];rfl⟩
  ·simp [dU,hd] at hb
theorem Dz (hT:dP T n) (hng:T.length=ng) (hn:0 < n):AA n (mem T ng n mask):=(sA hT hng _ _ _ (js hn)).1
theorem rH (hT:dP T n) (hng:T.length=ng) {p:Nat→Prop} (hp:∀c,c < n→p c→∀g,g < ng→gp mask g=true→p (kC T c g)):∀(f i:Nat) (s:qR),AA n s→(∀d,d < n→dU s.1 d=true→p d)→∀d,d < n→dU (gS T mask ng f i s).1 d=true→p d
 | 0,_,s,_,hs=>hs
 | f + 1,i,s,h,hs=>by
  unfold gS
  split
  ·rename_i hlt
   obtain ⟨c,h1,h2,h3⟩:=h.q i hlt
   have hpc:=hs c h2 h3
   rw [h1,Int.toNat_natCast]
   obtain ⟨k1,_,_⟩:=oL (mask:=mask) hT hng h2 h ng (Nat.le_refl _)
   refine rH hT hng hp f (i + 1) _ k1 ?_
   have key:∀m,m≤ng→∀d,d < n→dU ((List.range m).foldl (fB T mask c) s).1 d=true→p d:=by
    intro m
    induction m with
    | zero=>intro _;exact hs
    | succ m ih=>
     intro hm d hd hb
     rw [List.range_succ,List.foldl_append] at hb
     have hb:dU (fB T mask c ((List.range m).foldl (fB T mask c) s) m).1 d=true:=hb
     unfold fB at hb
     split at hb
     ·rename_i hc
      dsimp only at hb
      rw [dw] at hb
      split at hb
      ·rename_i e;rw [←e.1];exact hp c h2 hpc m ae hc.1
      ·exact ih ae d hd hb
     ·exact ih ae d hd hb
   exact key ng (Nat.le_refl _)
  ·exact hs
theorem r7 (hT:dP T n) (hng:T.length=ng) (hn:0 < n) {c g:Nat} (hc:c < n) (hm:dU (mem T ng n mask).1 c=true) (hg:g < ng) (hb:gp mask g=true):dU (mem T ng n mask).1 (kC T c g)=true:=by
 have hs:=rz (mask:=mask) hT hng (n + 1) 0 _ (js hn) (fun k hk=>by omega) (Nat.zero_le _) ae
 obtain ⟨k,k1,k2⟩:=(Dz (mask:=mask) hT hng hn).cov c hc hm
 have:=hs k k1 g hg hb
 have e:aC (gS T mask ng (n + 1) 0 (mStart n)).2 k=(c:Int):=k2
 rw [e,Int.toNat_natCast] at this
 exact this
theorem wO (hT:dP T n) (hng:T.length=ng) (hn:0 < n):dU (mem T ng n mask).1 0=true:=
 (sA hT hng _ _ _ (js hn)).2.met 0 (by show dU ((List.replicate n false).set 0 true) 0=true;rw [dw,if_pos ⟨rfl,by simpa using hn⟩])
theorem yy (hT:dP T n) (hng:T.length=ng) (hn:0 < n) {mask':Nat} (hmm:∀g,g < ng→gp mask g=true→gp mask' g=true) {d:Nat} (hd:d < n) (hm:dU (mem T ng n mask).1 d=true):dU (mem T ng n mask').1 d=true:=
 rH (p:=fun d=>dU (mem T ng n mask').1 d=true) hT hng (fun c hc hpc g hg hb=>r7 hT hng hn hc hpc hg (hmm g hg hb)) (n + 1) 0 (mStart n) (js hn) (fun e he hb=>by
  have hb:dU ((List.replicate n false).set 0 true) e=true:=hb
  rw [dw] at hb
  split at hb
  ·rename_i h;rw [←h.1];exact wO hT hng hn
  ·simp [dU,he] at hb) d hd hm
end
def fQ (T:List (List Int)) (ng n i k c:Nat):Bool:=dU (mem T ng n i).1 c && dU (mem T ng n k).1 c && !dU (mem T ng n (i &&& k)).1 c
def rK (T:List (List Int)) (ng n i k c:Nat):Bool:=dU (mem T ng n (i &&& k)).1 c != (dU (mem T ng n i).1 c && dU (mem T ng n k).1 c)
theorem Ap {T:List (List Int)} {ng n:Nat} (hT:dP T n) (hng:T.length=ng) (hn:0 < n) (i k:Nat) {c:Nat} (hc:c < n):rK T ng n i k c=fQ T ng n i k c:=by
 have h1:=yy hT hng hn (mask:=i &&& k) (mask':=i) (fun g _ hb=>by rw [yQ] at hb;simp at hb;exact hb.1) hc
 have h2:=yy hT hng hn (mask:=i &&& k) (mask':=k) (fun g _ hb=>by rw [yQ] at hb;simp at hb;exact hb.2) hc
 unfold fQ rK
 revert h1 h2
 cases dU (mem T ng n (i &&& k)).1 c<;>cases dU (mem T ng n i).1 c<;>cases dU (mem T ng n k).1 c<;>simp
def fu (T:List (List Int)) (ng n i k:Nat):Bool:=(List.range n).any (fQ T ng n i k)
theorem sx {T:List (List Int)} {ng n i k:Nat} (h:∀c,c < n→fQ T ng n i k c=false):fu T ng n i k=false:=by
 unfold fu
 rw [List.any_eq_false]
 intro c hc
 rw [h c (List.mem_range.1 hc)];simp
theorem qJ {T:List (List Int)} {ng n i k c:Nat} (hc:c < n) (h:fQ T ng n i k c=true):fu T ng n i k=true:=by
 unfold fu
 rw [List.any_eq_true]
 exact ⟨c,List.mem_range.2 hc,h⟩
def mM (T:List (List Int)) (ng n i:Nat):Option Nat:=(List.range (2 ^ ng)).find? fun k=>decide (i < k) && fu T ng n i k
def me (T:List (List Int)) (ng n:Nat):Option Nat:=(List.range (2 ^ ng)).find? fun i=>(mM T ng n i).isSome
def xL (T:List (List Int)) (ng n:Nat):Int×Int×Int:=match me T ng n with
 | some i=>((i:Int),(((mM T ng n i).getD 0:Nat):Int),0)
 | none=>(0,0,4)
theorem wo {T:List (List Int)} {ng n i k:Nat} (hik:i < k) (hk:k < 2 ^ ng) (h:fu T ng n i k=true) (hno:∀k',i < k'→k' < k→fu T ng n i k'=false):mM T ng n i=some k:=by
 unfold mM
 rw [List.find?_range_eq_some]
 refine ⟨by simp [hik,h],List.mem_range.2 hk,fun j hj=> ?_⟩
 by_cases e:i < j
 ·simp [hno j e hj]
 ·simp [e]
theorem oY {T:List (List Int)} {ng n i:Nat} (hno:∀k,i < k→k < 2 ^ ng→fu T ng n i k=false):mM T ng n i=none:=by
 unfold mM
 rw [List.find?_eq_none]
 intro k hk
 by_cases e:i < k
 ·simp [hno k e (List.mem_range.1 hk)]
 ·simp [e]
theorem uj {T:List (List Int)} {ng n i k:Nat} (hik:i < k) (hk:k < 2 ^ ng) (h:fu T ng n i k=true) (hno:∀k',i < k'→k' < k→fu T ng n i k'=false) (hno2:∀i',i' < i→∀k',i' < k'→k' < 2 ^ ng→fu T ng n i' k'=false):xL T ng n=((i:Int),(k:Int),0):=by
 have h1:=wo hik hk h hno
 have h2:me T ng n=some i:=by
  unfold me
  rw [List.find?_range_eq_some]
  exact ⟨by rw [h1];rfl,List.mem_range.2 ae,fun j hj=>by rw [oY (hno2 j hj)];rfl⟩
 unfold xL
 rw [h2]
 dsimp only
 rw [h1];rfl
theorem uS {T:List (List Int)} {ng n:Nat} (hno:∀i,i < 2 ^ ng→∀k,i < k→k < 2 ^ ng→fu T ng n i k=false):xL T ng n=(0,0,4):=by
 have h2:me T ng n=none:=by
  unfold me
  rw [List.find?_eq_none]
  intro i hi
  rw [oY (hno i (List.mem_range.1 hi))];simp
 unfold xL
 rw [h2]
end Go.Proofs.YtekbhbcgoadciaaGreat
