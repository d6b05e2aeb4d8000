/- The degrees of a component, the program's: isEither, degreesOf, isAffine. guards: -/
import Derived.Test.YtekbhbcgoadciaaPart5
import Derived.Test.YtekbhbcgoadciaaPart4
namespace Go.Proofs.Ytekbhbcgoadciaa
open Go.RowKit
abbrev cA (mv:Int) (i m:Nat):AV:= .s (.agg [.val (I6 mv), .esl 1000 i 0 m])
abbrev dS (cs:List jG):Ch:=⟨false,80,2, .mix cs⟩
set_option maxRecDepth 100000 in
set_option maxHeartbeats 1000000 in
theorem cO (cs:List jG) (mv:Int) (i m n:Nat) (labs list:List Int) (hi:cs[i]? =some (.r 2 1 m (aJ labs))) (hm:labs.length=m) (hn:list.length=n) (hm4:m≤1000000) (hn4:n≤1000000):
  FC Try.prog 73 [(1000,dS cs),(1001,de list)] [cA mv i m,o1 (.sl 1001 0 n)] [] (vv (.bool (bA labs list))) []:=by
 have hC:=xg 1001 7 n list hn hn4
 have hE:=iW cs i m n 80 2 labs list hi hm hn hm4 hn4
 have hE2:=(iW cs i m n 80 2 labs list.reverse hi hm (by simpa using hn) hm4 hn4).nm [(1000,1000),(1001,7)] (by kernel_rfl)
 have hE2:FC Try.prog 74 [(1000,dS cs),(7,de list.reverse)] [o1 (.esl 1000 i 0 m),o1 (.sl 7 0 n)] [] (vv (.bool (labs == list.reverse))) []:=hE2
 have hRv:∀ao c (w:World),Own w 0 2 ao n c (aJ list)→Calls Try.prog 84 #[.slice ao n c] w fun e w'=>e= .returned (.tuple #[])∧Own w' 0 2 ao n c (aJ list.reverse)∧w.grownBy w' (bk ao):=fun ao c w h=>tJ ao n c list w 0 h
 have hrl:list.reverse.length=n:=by simpa using hn
 refine bc (nt:=20) Try.func73 rfl rfl (by simp) fun w0 ω0=> ?_
 (refine ah ?_;refine ab ?_;apply aa rfl;(exact cS rfl rfl rfl rfl);apply aa rfl;(exact ag rfl rfl);refine aj ?_;refine ai ?_;refine ah ?_;refine ab ?_;apply aa rfl;(exact ae rfl rfl);apply aa rfl;(first | (apply ak 83;exact bz hC (by as_aux_lemma=>kernel_rfl) rfl rfl ⟨rfl,trivial⟩ ⟨⟨_,rfl, .inl rfl⟩,trivial⟩ rfl rfl rfl) | (apply ak 84;exact lY (zs:=list) rfl (by as_aux_lemma=>kernel_rfl) rfl rfl hn hrl (by omega) hRv) | (apply ak 74;exact aq hE (by as_aux_lemma=>kernel_rfl) rfl rfl ⟨rfl,rfl,trivial⟩ ⟨⟨_,rfl, .inl rfl⟩,⟨_,rfl, .inl rfl⟩,trivial⟩ rfl rfl));apply aa rfl;(exact ag rfl rfl);refine aj ?_;refine ai ?_;refine ah ?_;refine ab ?_;apply aa rfl;(exact ae rfl rfl);apply aa rfl;(first | (apply ak 83;exact bz hC (by as_aux_lemma=>kernel_rfl) rfl rfl ⟨rfl,trivial⟩ ⟨⟨_,rfl, .inl rfl⟩,trivial⟩ rfl rfl rfl) | (apply ak 84;exact lY (zs:=list) rfl (by as_aux_lemma=>kernel_rfl) rfl rfl hn hrl (by omega) hRv) | (apply ak 74;exact aq hE (by as_aux_lemma=>kernel_rfl) rfl rfl ⟨rfl,rfl,trivial⟩ ⟨⟨_,rfl, .inl rfl⟩,⟨_,rfl, .inl rfl⟩,trivial⟩ rfl rfl));refine aj ?_;refine ai ?_;refine ah ?_;refine ab ?_;apply aa rfl;(exact aE (d:=1) rfl rfl rfl (by as_aux_lemma=>kernel_rfl));apply aa rfl;(exact aQ rfl (by as_aux_lemma=>kernel_rfl) rfl rfl rfl rfl);apply aa rfl;(exact ae rfl rfl);apply aa rfl;(first | (apply ak 83;exact bz hC (by as_aux_lemma=>kernel_rfl) rfl rfl ⟨rfl,trivial⟩ ⟨⟨_,rfl, .inl rfl⟩,trivial⟩ rfl rfl rfl) | (apply ak 84;exact lY (zs:=list) rfl (by as_aux_lemma=>kernel_rfl) rfl rfl hn hrl (by omega) hRv) | (apply ak 74;exact aq hE (by as_aux_lemma=>kernel_rfl) rfl rfl ⟨rfl,rfl,trivial⟩ ⟨⟨_,rfl, .inl rfl⟩,⟨_,rfl, .inl rfl⟩,trivial⟩ rfl rfl));apply aa rfl;(exact ae rfl rfl))
 refine bH 14 rfl (fun h1=> ?_) (fun h1=> ?_)
 ·have hv:bA labs list=true:=by unfold bA;rw [h1];rfl
  rw [hv]
  (apply aG rfl rfl rfl rfl rfl;apply aG rfl rfl rfl rfl rfl;apply aG rfl rfl rfl rfl rfl;apply aG rfl rfl rfl rfl rfl;apply aa rfl;(exact bf rfl rfl rfl);apply aa rfl;(exact ag rfl rfl);refine aj ?_;refine ai ?_;refine aW ?_)
  exact bd (.inl rfl) rfl (.tmp rfl) trivial trivial
 ·have hv:bA labs list=(labs == list.reverse):=by unfold bA;rw [h1];rfl
  rw [hv]
  (apply aH rfl rfl rfl;(exact aE (d:=1) rfl rfl rfl (by as_aux_lemma=>kernel_rfl));apply aH rfl rfl rfl;(exact aQ rfl (by as_aux_lemma=>kernel_rfl) rfl rfl rfl rfl);apply aH rfl rfl rfl;(exact ae rfl rfl);apply aH rfl rfl rfl;(apply ak 74;exact aq hE2 (by as_aux_lemma=>kernel_rfl) rfl rfl ⟨rfl,rfl,trivial⟩ ⟨⟨_,rfl, .inl rfl⟩,⟨_,rfl, .inr rfl⟩,trivial⟩ rfl rfl);apply aa rfl;(exact br rfl rfl rfl);apply aa rfl;(exact ag rfl rfl);refine aj ?_;refine ai ?_;refine aW ?_)
  exact bd (.inl rfl) rfl (.tmp rfl) trivial trivial
set_option maxRecDepth 100000 in
set_option maxHeartbeats 2000000 in
theorem AR (cs:List jG) (mv:Int) (i m:Nat) (labs:List Int) (hi:cs[i]? =some (.r 2 1 m (aJ labs))) (hm:labs.length=m) (hm4:m≤4) (h0:m=0):
  FC Try.prog 53 [(1000,dS cs)] [cA mv i m] [(15,bw [2])] (o1 (.sl 15 0 1)) []:=by
 have hSz:=fG 1000 i m
 refine bc (nt:=75) Try.func53 rfl rfl (by simp) fun w0 ω0=> ?_
 have hw1:IntKind.i64.wrap ((m:Int) + 1)=(m:Int) + 1:=IntWalk.i64_in _ (by omega)
 (refine ah ?_;refine ab ?_;apply aa rfl;(exact cS rfl rfl rfl rfl);apply aa rfl;(exact ag rfl rfl);refine aj ?_;refine ai ?_;refine ah ?_;refine ab ?_;apply aa rfl;(exact aE (d:=1) rfl rfl rfl (by as_aux_lemma=>kernel_rfl));apply aa rfl;(exact aQ rfl (by as_aux_lemma=>kernel_rfl) rfl rfl rfl rfl);apply aa rfl;(first | (apply ak 22;exact aq hSz (by as_aux_lemma=>kernel_rfl) rfl rfl ⟨rfl,trivial⟩ trivial rfl rfl) | exact aR rfl rfl rfl hw1);apply aa rfl;(first | (apply ak 22;exact aq hSz (by as_aux_lemma=>kernel_rfl) rfl rfl ⟨rfl,trivial⟩ trivial rfl rfl) | exact aR rfl rfl rfl hw1);apply aa rfl;(exact ag rfl rfl);refine aj ?_;refine ai ?_;refine ah ?_;refine aB ?_;refine ah ?_;refine ab ?_;apply aa rfl;(exact ae rfl rfl);apply aa rfl;(exact aD rfl rfl rfl rfl);apply aa rfl;(exact ag rfl rfl);refine aj ?_;refine ai ?_)
 refine au rfl (fun _=> ?_) (fun e=> ?_)
 ·(refine ah ?_;refine ab ?_;apply aa rfl;(exact bM (E:=2) rfl (by as_aux_lemma=>kernel_rfl) rfl);apply aa rfl;(exact ag rfl rfl);refine aj ?_;refine ai ?_;refine aW ?_;refine bj ?_;refine aT ?_)
  exact bd (.inl rfl) rfl (.tmp rfl) ⟨rfl,trivial⟩ trivial
 ·exfalso;simp at e;omega
set_option maxRecDepth 100000 in
set_option maxHeartbeats 2000000 in
theorem Aj (cs:List jG) (mv:Int) (i m:Nat) (labs:List Int) (hi:cs[i]? =some (.r 2 1 m (aJ labs))) (hm:labs.length=m) (hm4:m≤4) (h0:m=1) (hp:0 < aC labs 0):
  FC Try.prog 53 [(1000,dS cs)] [cA mv i m] [(30,bw [2,aC labs 0])] (o1 (.sl 30 0 2)) []:=by
 have hSz:=fG 1000 i m
 refine bc (nt:=75) Try.func53 rfl rfl (by simp) fun w0 ω0=> ?_
 have hgl:(aJ labs)[0]? =some (I6 (aC labs 0)):=al (by omega)
 have hw1:IntKind.i64.wrap ((m:Int) + 1)=(m:Int) + 1:=IntWalk.i64_in _ (by omega)
 (refine ah ?_;refine ab ?_;apply aa rfl;(exact cS rfl rfl rfl rfl);apply aa rfl;(exact ag rfl rfl);refine aj ?_;refine ai ?_;refine ah ?_;refine ab ?_;apply aa rfl;(exact aE (d:=1) rfl rfl rfl (by as_aux_lemma=>kernel_rfl));apply aa rfl;(exact aQ rfl (by as_aux_lemma=>kernel_rfl) rfl rfl rfl rfl);apply aa rfl;(first | (apply ak 22;exact aq hSz (by as_aux_lemma=>kernel_rfl) rfl rfl ⟨rfl,trivial⟩ trivial rfl rfl) | exact aR rfl rfl rfl hw1);apply aa rfl;(first | (apply ak 22;exact aq hSz (by as_aux_lemma=>kernel_rfl) rfl rfl ⟨rfl,trivial⟩ trivial rfl rfl) | exact aR rfl rfl rfl hw1);apply aa rfl;(exact ag rfl rfl);refine aj ?_;refine ai ?_;refine ah ?_;refine aB ?_;refine ah ?_;refine ab ?_;apply aa rfl;(exact ae rfl rfl);apply aa rfl;(exact aD rfl rfl rfl rfl);apply aa rfl;(exact ag rfl rfl);refine aj ?_;refine ai ?_)
 refine au rfl (fun e=> ?_) (fun _=> ?_)
 ·exfalso;simp at e;omega
 (refine ah ?_;refine ab ?_;apply aa rfl;(exact ae rfl rfl);apply aa rfl;(exact aD rfl rfl rfl rfl);apply aa rfl;(exact ae rfl rfl))
 refine bH 19 rfl (fun _=> ?_) (fun e=> ?_)
 ·(apply aH rfl rfl rfl;(exact aE (d:=1) rfl rfl rfl (by as_aux_lemma=>kernel_rfl));apply aH rfl rfl rfl;(exact aQ rfl (by as_aux_lemma=>kernel_rfl) rfl rfl rfl rfl);apply aH rfl rfl rfl;(first | exact da (j:=0) rfl rfl rfl rfl rfl (by as_aux_lemma=>kernel_rfl) hi (by omega) rfl (by omega) (Nat.le_refl _) | exact bX rfl (by as_aux_lemma=>kernel_rfl) rfl rfl rfl hi hgl);apply aH rfl rfl rfl;(first | exact da (j:=0) rfl rfl rfl rfl rfl (by as_aux_lemma=>kernel_rfl) hi (by omega) rfl (by omega) (Nat.le_refl _) | exact bX rfl (by as_aux_lemma=>kernel_rfl) rfl rfl rfl hi hgl);apply aH rfl rfl rfl;(exact aD rfl rfl rfl rfl);apply aa rfl;(exact bf rfl rfl rfl);apply aa rfl;(exact ag rfl rfl);refine aj ?_;refine ai ?_)
  refine au rfl (fun _=> ?_) (fun e=> ?_)
  ·(refine ah ?_;refine ab ?_;apply aa rfl;(exact aE (d:=1) rfl rfl rfl (by as_aux_lemma=>kernel_rfl));apply aa rfl;(exact aQ rfl (by as_aux_lemma=>kernel_rfl) rfl rfl rfl rfl);apply aa rfl;(first | exact da (j:=0) rfl rfl rfl rfl rfl (by as_aux_lemma=>kernel_rfl) hi (by omega) rfl (by omega) (Nat.le_refl _) | exact bX rfl (by as_aux_lemma=>kernel_rfl) rfl rfl rfl hi hgl);apply aa rfl;(first | exact da (j:=0) rfl rfl rfl rfl rfl (by as_aux_lemma=>kernel_rfl) hi (by omega) rfl (by omega) (Nat.le_refl _) | exact bX rfl (by as_aux_lemma=>kernel_rfl) rfl rfl rfl hi hgl);apply aa rfl;(exact cr (E:=2) rfl (by as_aux_lemma=>kernel_rfl) rfl rfl);apply aa rfl;(exact ag rfl rfl);refine aj ?_;refine ai ?_;refine aW ?_;refine bj ?_;refine aT ?_)
   exact bd (.inl rfl) rfl (.tmp rfl) ⟨rfl,trivial⟩ trivial
  ·exfalso;simp at e;omega
 ·exfalso;simp at e;omega
set_option maxRecDepth 100000 in
set_option maxHeartbeats 2000000 in
theorem AN (cs:List jG) (mv:Int) (i m:Nat) (labs:List Int) (hi:cs[i]? =some (.r 2 1 m (aJ labs))) (hm:labs.length=m) (hm4:m≤4) (h0:0 < m) (hq:¬(m=1∧0 < aC labs 0)) (e1:bA labs [3,5]=true):
  FC Try.prog 53 [(1000,dS cs)] [cA mv i m] [(35,bw [2,6,10])] (o1 (.sl 35 0 3)) []:=by
 have hSz:=fG 1000 i m
 have hE1:=(cO cs mv i m 2 labs [3,5] hi hm rfl (by omega) (by omega)).nm [(1000,1000),(1001,33)] (by kernel_rfl)
 have hE1:FC Try.prog 73 [(1000,dS cs),(33,de [3,5])] [cA mv i m,o1 (.sl 33 0 2)] [] (vv (.bool (bA labs [3,5]))) []:=hE1
 rw [e1] at hE1
 refine bc (nt:=75) Try.func53 rfl rfl (by simp) fun w0 ω0=> ?_
 have hw1:IntKind.i64.wrap ((m:Int) + 1)=(m:Int) + 1:=IntWalk.i64_in _ (by omega)
 (refine ah ?_;refine ab ?_;apply aa rfl;(exact cS rfl rfl rfl rfl);apply aa rfl;(exact ag rfl rfl);refine aj ?_;refine ai ?_;refine ah ?_;refine ab ?_;apply aa rfl;(exact aE (d:=1) rfl rfl rfl (by as_aux_lemma=>kernel_rfl));apply aa rfl;(exact aQ rfl (by as_aux_lemma=>kernel_rfl) rfl rfl rfl rfl);apply aa rfl;(first | (apply ak 22;exact aq hSz (by as_aux_lemma=>kernel_rfl) rfl rfl ⟨rfl,trivial⟩ trivial rfl rfl) | exact aR rfl rfl rfl hw1);apply aa rfl;(first | (apply ak 22;exact aq hSz (by as_aux_lemma=>kernel_rfl) rfl rfl ⟨rfl,trivial⟩ trivial rfl rfl) | exact aR rfl rfl rfl hw1);apply aa rfl;(exact ag rfl rfl);refine aj ?_;refine ai ?_;refine ah ?_;refine aB ?_;refine ah ?_;refine ab ?_;apply aa rfl;(exact ae rfl rfl);apply aa rfl;(exact aD rfl rfl rfl rfl);apply aa rfl;(exact ag rfl rfl);refine aj ?_;refine ai ?_)
 refine au rfl (fun e=> ?_) (fun _=> ?_)
 ·exfalso;simp at e;omega
 (repeat (first | refine ah ?_ | refine ai ?_ | refine aI ?_ | refine aB ?_ | refine aK ?_ | refine a5 ?_ | refine aM ?_ | refine bZ rfl ?_ | refine ax ?_))
 refine cg (St.of [(1,o1 (.ptr 1 0)),(3,vv (I6 ((m:Int) + 1))),(16,vv (.bool false))] [(1000,dS cs),(1,⟨true,80,2, .flat [.val (I6 mv), .esl 1000 i 0 m]⟩)]) ?_ ?_
 ·refine ab ?_
  (apply aa rfl;(exact ae rfl rfl);apply aa rfl;(exact aD rfl rfl rfl rfl);apply aa rfl;(exact ae rfl rfl))
  refine bH 19 rfl (fun e1=> ?_) (fun e1=> ?_)
  ·have e1:m=1:=by simp at e1;omega
   have hg2:¬aC labs 0 > 0:=fun h=>hq ⟨e1,h⟩
   have hgl:(aJ labs)[0]? =some (I6 (aC labs 0)):=al (by omega)
   have hbf:dB .i64 .gtr (aC labs 0) 0=some (.bool false):=by simp [dB];omega
   (apply aH rfl rfl rfl;(exact aE (d:=1) rfl rfl rfl (by as_aux_lemma=>kernel_rfl));apply aH rfl rfl rfl;(exact aQ rfl (by as_aux_lemma=>kernel_rfl) rfl rfl rfl rfl);apply aH rfl rfl rfl;(first | exact aD rfl rfl rfl hbf | exact da (j:=0) rfl rfl rfl rfl rfl (by as_aux_lemma=>kernel_rfl) hi (by omega) rfl (by omega) (Nat.le_refl _) | exact bX rfl (by as_aux_lemma=>kernel_rfl) rfl rfl rfl hi hgl);apply aH rfl rfl rfl;(first | exact aD rfl rfl rfl hbf | exact da (j:=0) rfl rfl rfl rfl rfl (by as_aux_lemma=>kernel_rfl) hi (by omega) rfl (by omega) (Nat.le_refl _) | exact bX rfl (by as_aux_lemma=>kernel_rfl) rfl rfl rfl hi hgl);apply aH rfl rfl rfl;(first | exact aD rfl rfl rfl hbf | exact da (j:=0) rfl rfl rfl rfl rfl (by as_aux_lemma=>kernel_rfl) hi (by omega) rfl (by omega) (Nat.le_refl _) | exact bX rfl (by as_aux_lemma=>kernel_rfl) rfl rfl rfl hi hgl);apply aa rfl;(exact bf rfl rfl rfl);apply aa rfl;(exact ag rfl rfl);refine aj ?_)
   exact aL (Wk.of ⟨rfl,rfl,rfl,trivial⟩ ⟨rfl,rfl,trivial⟩ trivial)
  ·(apply aG rfl rfl rfl rfl rfl;apply aG rfl rfl rfl rfl rfl;apply aG rfl rfl rfl rfl rfl;apply aG rfl rfl rfl rfl rfl;apply aG rfl rfl rfl rfl rfl;apply aa rfl;(exact br rfl rfl rfl);apply aa rfl;(exact ag rfl rfl);refine aj ?_)
   exact aL (Wk.of ⟨rfl,rfl,rfl,trivial⟩ ⟨rfl,rfl,trivial⟩ trivial)
 (refine ai ?_)
 refine au rfl (fun e=>by cases e) (fun _=> ?_)
 (refine ah ?_;refine ab ?_;apply aa rfl;(exact a3 rfl rfl rfl rfl rfl rfl (by as_aux_lemma=>kernel_rfl));apply aa rfl;(exact cr (E:=2) rfl (by as_aux_lemma=>kernel_rfl) rfl rfl);apply aa rfl;(first | (apply ak 73;exact aq hE1 (by as_aux_lemma=>kernel_rfl) rfl rfl ⟨⟨.inl rfl, .inl rfl,trivial⟩,rfl,trivial⟩ ⟨⟨_,rfl, .inl rfl⟩,⟨_,rfl, .inr rfl⟩,trivial⟩ rfl rfl) | exact aO (E:=2) rfl (by as_aux_lemma=>kernel_rfl) rfl rfl rfl | exact aP (E:=2) rfl (by as_aux_lemma=>kernel_rfl) rfl rfl rfl rfl);apply aa rfl;(exact ag rfl rfl);refine aj ?_;refine ai ?_)
 refine au rfl (fun _=> ?_) (fun e=>by cases e)
 (refine ah ?_;refine ab ?_;apply aa rfl;(first | exact aO (E:=2) rfl (by as_aux_lemma=>kernel_rfl) rfl rfl rfl | exact aP (E:=2) rfl (by as_aux_lemma=>kernel_rfl) rfl rfl rfl rfl);apply aa rfl;(exact ag rfl rfl);refine aj ?_;refine ai ?_;refine aW ?_;refine bj ?_;refine aT ?_)
 exact bd (.inl rfl) rfl (.tmp rfl) ⟨rfl,trivial⟩ trivial
set_option maxRecDepth 100000 in
set_option maxHeartbeats 2000000 in
theorem Aa (cs:List jG) (mv:Int) (i m:Nat) (labs:List Int) (hi:cs[i]? =some (.r 2 1 m (aJ labs))) (hm:labs.length=m) (hm4:m≤4) (h0:0 < m) (hq:¬(m=1∧0 < aC labs 0)) (e1:bA labs [3,5]=false) (e2:bA labs [3,3,5]=true):
  FC Try.prog 53 [(1000,dS cs)] [cA mv i m] [(40,bw [2,12,20,30])] (o1 (.sl 40 0 4)) []:=by
 have hSz:=fG 1000 i m
 have hE1:=(cO cs mv i m 2 labs [3,5] hi hm rfl (by omega) (by omega)).nm [(1000,1000),(1001,33)] (by kernel_rfl)
 have hE1:FC Try.prog 73 [(1000,dS cs),(33,de [3,5])] [cA mv i m,o1 (.sl 33 0 2)] [] (vv (.bool (bA labs [3,5]))) []:=hE1
 rw [e1] at hE1
 have hE2:=(cO cs mv i m 3 labs [3,3,5] hi hm rfl (by omega) (by omega)).nm [(1000,1000),(1001,38)] (by kernel_rfl)
 have hE2:FC Try.prog 73 [(1000,dS cs),(38,de [3,3,5])] [cA mv i m,o1 (.sl 38 0 3)] [] (vv (.bool (bA labs [3,3,5]))) []:=hE2
 rw [e2] at hE2
 refine bc (nt:=75) Try.func53 rfl rfl (by simp) fun w0 ω0=> ?_
 have hw1:IntKind.i64.wrap ((m:Int) + 1)=(m:Int) + 1:=IntWalk.i64_in _ (by omega)
 (refine ah ?_;refine ab ?_;apply aa rfl;(exact cS rfl rfl rfl rfl);apply aa rfl;(exact ag rfl rfl);refine aj ?_;refine ai ?_;refine ah ?_;refine ab ?_;apply aa rfl;(exact aE (d:=1) rfl rfl rfl (by as_aux_lemma=>kernel_rfl));apply aa rfl;(exact aQ rfl (by as_aux_lemma=>kernel_rfl) rfl rfl rfl rfl);apply aa rfl;(first | (apply ak 22;exact aq hSz (by as_aux_lemma=>kernel_rfl) rfl rfl ⟨rfl,trivial⟩ trivial rfl rfl) | exact aR rfl rfl rfl hw1);apply aa rfl;(first | (apply ak 22;exact aq hSz (by as_aux_lemma=>kernel_rfl) rfl rfl ⟨rfl,trivial⟩ trivial rfl rfl) | exact aR rfl rfl rfl hw1);apply aa rfl;(exact ag rfl rfl);refine aj ?_;refine ai ?_;refine ah ?_;refine aB ?_;refine ah ?_;refine ab ?_;apply aa rfl;(exact ae rfl rfl);apply aa rfl;(exact aD rfl rfl rfl rfl);apply aa rfl;(exact ag rfl rfl);refine aj ?_;refine ai ?_)
 refine au rfl (fun e=> ?_) (fun _=> ?_)
 ·exfalso;simp at e;omega
 (repeat (first | refine ah ?_ | refine ai ?_ | refine aI ?_ | refine aB ?_ | refine aK ?_ | refine a5 ?_ | refine aM ?_ | refine bZ rfl ?_ | refine ax ?_))
 refine cg (St.of [(1,o1 (.ptr 1 0)),(3,vv (I6 ((m:Int) + 1))),(16,vv (.bool false))] [(1000,dS cs),(1,⟨true,80,2, .flat [.val (I6 mv), .esl 1000 i 0 m]⟩)]) ?_ ?_
 ·refine ab ?_
  (apply aa rfl;(exact ae rfl rfl);apply aa rfl;(exact aD rfl rfl rfl rfl);apply aa rfl;(exact ae rfl rfl))
  refine bH 19 rfl (fun e1=> ?_) (fun e1=> ?_)
  ·have e1:m=1:=by simp at e1;omega
   have hg2:¬aC labs 0 > 0:=fun h=>hq ⟨e1,h⟩
   have hgl:(aJ labs)[0]? =some (I6 (aC labs 0)):=al (by omega)
   have hbf:dB .i64 .gtr (aC labs 0) 0=some (.bool false):=by simp [dB];omega
   (apply aH rfl rfl rfl;(exact aE (d:=1) rfl rfl rfl (by as_aux_lemma=>kernel_rfl));apply aH rfl rfl rfl;(exact aQ rfl (by as_aux_lemma=>kernel_rfl) rfl rfl rfl rfl);apply aH rfl rfl rfl;(first | exact aD rfl rfl rfl hbf | exact da (j:=0) rfl rfl rfl rfl rfl (by as_aux_lemma=>kernel_rfl) hi (by omega) rfl (by omega) (Nat.le_refl _) | exact bX rfl (by as_aux_lemma=>kernel_rfl) rfl rfl rfl hi hgl);apply aH rfl rfl rfl;(first | exact aD rfl rfl rfl hbf | exact da (j:=0) rfl rfl rfl rfl rfl (by as_aux_lemma=>kernel_rfl) hi (by omega) rfl (by omega) (Nat.le_refl _) | exact bX rfl (by as_aux_lemma=>kernel_rfl) rfl rfl rfl hi hgl);apply aH rfl rfl rfl;(first | exact aD rfl rfl rfl hbf | exact da (j:=0) rfl rfl rfl rfl rfl (by as_aux_lemma=>kernel_rfl) hi (by omega) rfl (by omega) (Nat.le_refl _) | exact bX rfl (by as_aux_lemma=>kernel_rfl) rfl rfl rfl hi hgl);apply aa rfl;(exact bf rfl rfl rfl);apply aa rfl;(exact ag rfl rfl);refine aj ?_)
   exact aL (Wk.of ⟨rfl,rfl,rfl,trivial⟩ ⟨rfl,rfl,trivial⟩ trivial)
  ·(apply aG rfl rfl rfl rfl rfl;apply aG rfl rfl rfl rfl rfl;apply aG rfl rfl rfl rfl rfl;apply aG rfl rfl rfl rfl rfl;apply aG rfl rfl rfl rfl rfl;apply aa rfl;(exact br rfl rfl rfl);apply aa rfl;(exact ag rfl rfl);refine aj ?_)
   exact aL (Wk.of ⟨rfl,rfl,rfl,trivial⟩ ⟨rfl,rfl,trivial⟩ trivial)
 (refine ai ?_)
 refine au rfl (fun e=>by cases e) (fun _=> ?_)
 (refine ah ?_;refine ab ?_;apply aa rfl;(exact a3 rfl rfl rfl rfl rfl rfl (by as_aux_lemma=>kernel_rfl));apply aa rfl;(exact cr (E:=2) rfl (by as_aux_lemma=>kernel_rfl) rfl rfl);apply aa rfl;(first | (apply ak 73;exact aq hE1 (by as_aux_lemma=>kernel_rfl) rfl rfl ⟨⟨.inl rfl, .inl rfl,trivial⟩,rfl,trivial⟩ ⟨⟨_,rfl, .inl rfl⟩,⟨_,rfl, .inr rfl⟩,trivial⟩ rfl rfl) | exact aO (E:=2) rfl (by as_aux_lemma=>kernel_rfl) rfl rfl rfl | exact aP (E:=2) rfl (by as_aux_lemma=>kernel_rfl) rfl rfl rfl rfl);apply aa rfl;(exact ag rfl rfl);refine aj ?_;refine ai ?_)
 refine au rfl (fun e=>by cases e) (fun _=> ?_)
 (refine ah ?_;refine ab ?_;apply aa rfl;(exact a3 rfl rfl rfl rfl rfl rfl (by as_aux_lemma=>kernel_rfl));apply aa rfl;(first | (apply ak 73;exact aq hE2 (by as_aux_lemma=>kernel_rfl) rfl rfl ⟨⟨.inl rfl, .inl rfl,trivial⟩,rfl,trivial⟩ ⟨⟨_,rfl, .inl rfl⟩,⟨_,rfl, .inr rfl⟩,trivial⟩ rfl rfl) | exact aO (E:=2) rfl (by as_aux_lemma=>kernel_rfl) rfl rfl rfl | exact aP (E:=2) rfl (by as_aux_lemma=>kernel_rfl) rfl rfl rfl rfl);apply aa rfl;(first | (apply ak 73;exact aq hE2 (by as_aux_lemma=>kernel_rfl) rfl rfl ⟨⟨.inl rfl, .inl rfl,trivial⟩,rfl,trivial⟩ ⟨⟨_,rfl, .inl rfl⟩,⟨_,rfl, .inr rfl⟩,trivial⟩ rfl rfl) | exact aO (E:=2) rfl (by as_aux_lemma=>kernel_rfl) rfl rfl rfl | exact aP (E:=2) rfl (by as_aux_lemma=>kernel_rfl) rfl rfl rfl rfl);apply aa rfl;(exact ag rfl rfl);refine aj ?_;refine ai ?_)
 refine au rfl (fun _=> ?_) (fun e=>by cases e)
 (refine ah ?_;refine ab ?_;apply aa rfl;(first | exact aO (E:=2) rfl (by as_aux_lemma=>kernel_rfl) rfl rfl rfl | exact aP (E:=2) rfl (by as_aux_lemma=>kernel_rfl) rfl rfl rfl rfl);apply aa rfl;(exact ag rfl rfl);refine aj ?_;refine ai ?_;refine aW ?_;refine bj ?_;refine aT ?_)
 exact bd (.inl rfl) rfl (.tmp rfl) ⟨rfl,trivial⟩ trivial
set_option maxRecDepth 100000 in
set_option maxHeartbeats 2000000 in
theorem A7 (cs:List jG) (mv:Int) (i m:Nat) (labs:List Int) (hi:cs[i]? =some (.r 2 1 m (aJ labs))) (hm:labs.length=m) (hm4:m≤4) (h0:0 < m) (hq:¬(m=1∧0 < aC labs 0)) (e1:bA labs [3,5]=false) (e2:bA labs [3,3,5]=false) (e3:bA labs [3,4,3]=true):
  FC Try.prog 53 [(1000,dS cs)] [cA mv i m] [(45,bw [2,6,8,12])] (o1 (.sl 45 0 4)) []:=by
 have hSz:=fG 1000 i m
 have hE1:=(cO cs mv i m 2 labs [3,5] hi hm rfl (by omega) (by omega)).nm [(1000,1000),(1001,33)] (by kernel_rfl)
 have hE1:FC Try.prog 73 [(1000,dS cs),(33,de [3,5])] [cA mv i m,o1 (.sl 33 0 2)] [] (vv (.bool (bA labs [3,5]))) []:=hE1
 rw [e1] at hE1
 have hE2:=(cO cs mv i m 3 labs [3,3,5] hi hm rfl (by omega) (by omega)).nm [(1000,1000),(1001,38)] (by kernel_rfl)
 have hE2:FC Try.prog 73 [(1000,dS cs),(38,de [3,3,5])] [cA mv i m,o1 (.sl 38 0 3)] [] (vv (.bool (bA labs [3,3,5]))) []:=hE2
 rw [e2] at hE2
 have hE3:=(cO cs mv i m 3 labs [3,4,3] hi hm rfl (by omega) (by omega)).nm [(1000,1000),(1001,43)] (by kernel_rfl)
 have hE3:FC Try.prog 73 [(1000,dS cs),(43,de [3,4,3])] [cA mv i m,o1 (.sl 43 0 3)] [] (vv (.bool (bA labs [3,4,3]))) []:=hE3
 rw [e3] at hE3
 refine bc (nt:=75) Try.func53 rfl rfl (by simp) fun w0 ω0=> ?_
 have hw1:IntKind.i64.wrap ((m:Int) + 1)=(m:Int) + 1:=IntWalk.i64_in _ (by omega)
 (refine ah ?_;refine ab ?_;apply aa rfl;(exact cS rfl rfl rfl rfl);apply aa rfl;(exact ag rfl rfl);refine aj ?_;refine ai ?_;refine ah ?_;refine ab ?_;apply aa rfl;(exact aE (d:=1) rfl rfl rfl (by as_aux_lemma=>kernel_rfl));apply aa rfl;(exact aQ rfl (by as_aux_lemma=>kernel_rfl) rfl rfl rfl rfl);apply aa rfl;(first | (apply ak 22;exact aq hSz (by as_aux_lemma=>kernel_rfl) rfl rfl ⟨rfl,trivial⟩ trivial rfl rfl) | exact aR rfl rfl rfl hw1);apply aa rfl;(first | (apply ak 22;exact aq hSz (by as_aux_lemma=>kernel_rfl) rfl rfl ⟨rfl,trivial⟩ trivial rfl rfl) | exact aR rfl rfl rfl hw1);apply aa rfl;(exact ag rfl rfl);refine aj ?_;refine ai ?_;refine ah ?_;refine aB ?_;refine ah ?_;refine ab ?_;apply aa rfl;(exact ae rfl rfl);apply aa rfl;(exact aD rfl rfl rfl rfl);apply aa rfl;(exact ag rfl rfl);refine aj ?_;refine ai ?_)
 refine au rfl (fun e=> ?_) (fun _=> ?_)
 ·exfalso;simp at e;omega
 (repeat (first | refine ah ?_ | refine ai ?_ | refine aI ?_ | refine aB ?_ | refine aK ?_ | refine a5 ?_ | refine aM ?_ | refine bZ rfl ?_ | refine ax ?_))
 refine cg (St.of [(1,o1 (.ptr 1 0)),(3,vv (I6 ((m:Int) + 1))),(16,vv (.bool false))] [(1000,dS cs),(1,⟨true,80,2, .flat [.val (I6 mv), .esl 1000 i 0 m]⟩)]) ?_ ?_
 ·refine ab ?_
  (apply aa rfl;(exact ae rfl rfl);apply aa rfl;(exact aD rfl rfl rfl rfl);apply aa rfl;(exact ae rfl rfl))
  refine bH 19 rfl (fun e1=> ?_) (fun e1=> ?_)
  ·have e1:m=1:=by simp at e1;omega
   have hg2:¬aC labs 0 > 0:=fun h=>hq ⟨e1,h⟩
   have hgl:(aJ labs)[0]? =some (I6 (aC labs 0)):=al (by omega)
   have hbf:dB .i64 .gtr (aC labs 0) 0=some (.bool false):=by simp [dB];omega
   (apply aH rfl rfl rfl;(exact aE (d:=1) rfl rfl rfl (by as_aux_lemma=>kernel_rfl));apply aH rfl rfl rfl;(exact aQ rfl (by as_aux_lemma=>kernel_rfl) rfl rfl rfl rfl);apply aH rfl rfl rfl;(first | exact aD rfl rfl rfl hbf | exact da (j:=0) rfl rfl rfl rfl rfl (by as_aux_lemma=>kernel_rfl) hi (by omega) rfl (by omega) (Nat.le_refl _) | exact bX rfl (by as_aux_lemma=>kernel_rfl) rfl rfl rfl hi hgl);apply aH rfl rfl rfl;(first | exact aD rfl rfl rfl hbf | exact da (j:=0) rfl rfl rfl rfl rfl (by as_aux_lemma=>kernel_rfl) hi (by omega) rfl (by omega) (Nat.le_refl _) | exact bX rfl (by as_aux_lemma=>kernel_rfl) rfl rfl rfl hi hgl);apply aH rfl rfl rfl;(first | exact aD rfl rfl rfl hbf | exact da (j:=0) rfl rfl rfl rfl rfl (by as_aux_lemma=>kernel_rfl) hi (by omega) rfl (by omega) (Nat.le_refl _) | exact bX rfl (by as_aux_lemma=>kernel_rfl) rfl rfl rfl hi hgl);apply aa rfl;(exact bf rfl rfl rfl);apply aa rfl;(exact ag rfl rfl);refine aj ?_)
   exact aL (Wk.of ⟨rfl,rfl,rfl,trivial⟩ ⟨rfl,rfl,trivial⟩ trivial)
  ·(apply aG rfl rfl rfl rfl rfl;apply aG rfl rfl rfl rfl rfl;apply aG rfl rfl rfl rfl rfl;apply aG rfl rfl rfl rfl rfl;apply aG rfl rfl rfl rfl rfl;apply aa rfl;(exact br rfl rfl rfl);apply aa rfl;(exact ag rfl rfl);refine aj ?_)
   exact aL (Wk.of ⟨rfl,rfl,rfl,trivial⟩ ⟨rfl,rfl,trivial⟩ trivial)
 (refine ai ?_)
 refine au rfl (fun e=>by cases e) (fun _=> ?_)
 (refine ah ?_;refine ab ?_;apply aa rfl;(exact a3 rfl rfl rfl rfl rfl rfl (by as_aux_lemma=>kernel_rfl));apply aa rfl;(exact cr (E:=2) rfl (by as_aux_lemma=>kernel_rfl) rfl rfl);apply aa rfl;(first | (apply ak 73;exact aq hE1 (by as_aux_lemma=>kernel_rfl) rfl rfl ⟨⟨.inl rfl, .inl rfl,trivial⟩,rfl,trivial⟩ ⟨⟨_,rfl, .inl rfl⟩,⟨_,rfl, .inr rfl⟩,trivial⟩ rfl rfl) | exact aO (E:=2) rfl (by as_aux_lemma=>kernel_rfl) rfl rfl rfl | exact aP (E:=2) rfl (by as_aux_lemma=>kernel_rfl) rfl rfl rfl rfl);apply aa rfl;(exact ag rfl rfl);refine aj ?_;refine ai ?_)
 refine au rfl (fun e=>by cases e) (fun _=> ?_)
 (refine ah ?_;refine ab ?_;apply aa rfl;(exact a3 rfl rfl rfl rfl rfl rfl (by as_aux_lemma=>kernel_rfl));apply aa rfl;(first | (apply ak 73;exact aq hE2 (by as_aux_lemma=>kernel_rfl) rfl rfl ⟨⟨.inl rfl, .inl rfl,trivial⟩,rfl,trivial⟩ ⟨⟨_,rfl, .inl rfl⟩,⟨_,rfl, .inr rfl⟩,trivial⟩ rfl rfl) | exact aO (E:=2) rfl (by as_aux_lemma=>kernel_rfl) rfl rfl rfl | exact aP (E:=2) rfl (by as_aux_lemma=>kernel_rfl) rfl rfl rfl rfl);apply aa rfl;(first | (apply ak 73;exact aq hE2 (by as_aux_lemma=>kernel_rfl) rfl rfl ⟨⟨.inl rfl, .inl rfl,trivial⟩,rfl,trivial⟩ ⟨⟨_,rfl, .inl rfl⟩,⟨_,rfl, .inr rfl⟩,trivial⟩ rfl rfl) | exact aO (E:=2) rfl (by as_aux_lemma=>kernel_rfl) rfl rfl rfl | exact aP (E:=2) rfl (by as_aux_lemma=>kernel_rfl) rfl rfl rfl rfl);apply aa rfl;(exact ag rfl rfl);refine aj ?_;refine ai ?_)
 refine au rfl (fun e=>by cases e) (fun _=> ?_)
 (refine ah ?_;refine ab ?_;apply aa rfl;(exact a3 rfl rfl rfl rfl rfl rfl (by as_aux_lemma=>kernel_rfl));apply aa rfl;(first | (apply ak 73;exact aq hE3 (by as_aux_lemma=>kernel_rfl) rfl rfl ⟨⟨.inl rfl, .inl rfl,trivial⟩,rfl,trivial⟩ ⟨⟨_,rfl, .inl rfl⟩,⟨_,rfl, .inr rfl⟩,trivial⟩ rfl rfl) | exact aO (E:=2) rfl (by as_aux_lemma=>kernel_rfl) rfl rfl rfl | exact aP (E:=2) rfl (by as_aux_lemma=>kernel_rfl) rfl rfl rfl rfl);apply aa rfl;(first | (apply ak 73;exact aq hE3 (by as_aux_lemma=>kernel_rfl) rfl rfl ⟨⟨.inl rfl, .inl rfl,trivial⟩,rfl,trivial⟩ ⟨⟨_,rfl, .inl rfl⟩,⟨_,rfl, .inr rfl⟩,trivial⟩ rfl rfl) | exact aO (E:=2) rfl (by as_aux_lemma=>kernel_rfl) rfl rfl rfl | exact aP (E:=2) rfl (by as_aux_lemma=>kernel_rfl) rfl rfl rfl rfl);apply aa rfl;(exact ag rfl rfl);refine aj ?_;refine ai ?_)
 refine au rfl (fun _=> ?_) (fun e=>by cases e)
 (refine ah ?_;refine ab ?_;apply aa rfl;(first | exact aO (E:=2) rfl (by as_aux_lemma=>kernel_rfl) rfl rfl rfl | exact aP (E:=2) rfl (by as_aux_lemma=>kernel_rfl) rfl rfl rfl rfl);apply aa rfl;(exact ag rfl rfl);refine aj ?_;refine ai ?_;refine aW ?_;refine bj ?_;refine aT ?_)
 exact bd (.inl rfl) rfl (.tmp rfl) ⟨rfl,trivial⟩ trivial
set_option maxRecDepth 100000 in
set_option maxHeartbeats 2000000 in
theorem Ai (cs:List jG) (mv:Int) (i m:Nat) (labs:List Int) (hi:cs[i]? =some (.r 2 1 m (aJ labs))) (hm:labs.length=m) (hm4:m≤4) (h0:0 < m) (hq:¬(m=1∧0 < aC labs 0)) (e1:bA labs [3,5]=false) (e2:bA labs [3,3,5]=false) (e3:bA labs [3,4,3]=false) (e4:labs=List.replicate m 3):
  FC Try.prog 53 [(1000,dS cs)] [cA mv i m] [(2100,bw (eZ (m + 1) 1))] (o1 (.sl 2100 0 (m + 1))) []:=by
 have hSz:=fG 1000 i m
 have hE1:=(cO cs mv i m 2 labs [3,5] hi hm rfl (by omega) (by omega)).nm [(1000,1000),(1001,33)] (by kernel_rfl)
 have hE1:FC Try.prog 73 [(1000,dS cs),(33,de [3,5])] [cA mv i m,o1 (.sl 33 0 2)] [] (vv (.bool (bA labs [3,5]))) []:=hE1
 rw [e1] at hE1
 have hE2:=(cO cs mv i m 3 labs [3,3,5] hi hm rfl (by omega) (by omega)).nm [(1000,1000),(1001,38)] (by kernel_rfl)
 have hE2:FC Try.prog 73 [(1000,dS cs),(38,de [3,3,5])] [cA mv i m,o1 (.sl 38 0 3)] [] (vv (.bool (bA labs [3,3,5]))) []:=hE2
 rw [e2] at hE2
 have hE3:=(cO cs mv i m 3 labs [3,4,3] hi hm rfl (by omega) (by omega)).nm [(1000,1000),(1001,43)] (by kernel_rfl)
 have hE3:FC Try.prog 73 [(1000,dS cs),(43,de [3,4,3])] [cA mv i m,o1 (.sl 43 0 3)] [] (vv (.bool (bA labs [3,4,3]))) []:=hE3
 rw [e3] at hE3
 refine bc (nt:=75) Try.func53 rfl rfl (by simp) fun w0 ω0=> ?_
 have hR:FC Try.prog 37 [(46,⟨false,2,1, .bG (aJ [3])⟩)] [o1 (.sl 46 0 1),vv (I6 m)] [(50,⟨true,2,1, .bG (aJ (List.replicate m 3))⟩)] (o1 (.sl 50 0 m)) []:=gX 46 50 m 3 (by omega) h0
 have hrl:(List.replicate m (3:Int)).length=m:=by simp
 have hQ:=(iW cs i m m 80 2 labs (List.replicate m 3) hi hm hrl (by omega) (by omega)).nm [(1000,1000),(1001,50)] (by kernel_rfl)
 have hQ:FC Try.prog 74 [(1000,dS cs),(50,de (List.replicate m 3))] [o1 (.esl 1000 i 0 m),o1 (.sl 50 0 m)] [] (vv (.bool (labs == List.replicate m 3))) []:=hQ
 have hF:=(cO cs mv i m m labs ((List.replicate m 3).set 0 4) hi hm (by simp) (by omega) (by omega)).nm [(1000,1000),(1001,50)] (by kernel_rfl)
 have hF:FC Try.prog 73 [(1000,dS cs),(50,de ((List.replicate m 3).set 0 4))] [cA mv i m,o1 (.sl 50 0 m)] [] (vv (.bool (bA labs ((List.replicate m 3).set 0 4)))) []:=hF
 have e4':(labs == List.replicate m 3)=true:=by simpa using e4
 rw [e4'] at hQ
 have hw1:IntKind.i64.wrap ((m:Int) + 1)=(m:Int) + 1:=IntWalk.i64_in _ (by omega)
 (refine ah ?_;refine ab ?_;apply aa rfl;(exact cS rfl rfl rfl rfl);apply aa rfl;(exact ag rfl rfl);refine aj ?_;refine ai ?_;refine ah ?_;refine ab ?_;apply aa rfl;(exact aE (d:=1) rfl rfl rfl (by as_aux_lemma=>kernel_rfl));apply aa rfl;(exact aQ rfl (by as_aux_lemma=>kernel_rfl) rfl rfl rfl rfl);apply aa rfl;(first | (apply ak 22;exact aq hSz (by as_aux_lemma=>kernel_rfl) rfl rfl ⟨rfl,trivial⟩ trivial rfl rfl) | exact aR rfl rfl rfl hw1);apply aa rfl;(first | (apply ak 22;exact aq hSz (by as_aux_lemma=>kernel_rfl) rfl rfl ⟨rfl,trivial⟩ trivial rfl rfl) | exact aR rfl rfl rfl hw1);apply aa rfl;(exact ag rfl rfl);refine aj ?_;refine ai ?_;refine ah ?_;refine aB ?_;refine ah ?_;refine ab ?_;apply aa rfl;(exact ae rfl rfl);apply aa rfl;(exact aD rfl rfl rfl rfl);apply aa rfl;(exact ag rfl rfl);refine aj ?_;refine ai ?_)
 refine au rfl (fun e=> ?_) (fun _=> ?_)
 ·exfalso;simp at e;omega
 (repeat (first | refine ah ?_ | refine ai ?_ | refine aI ?_ | refine aB ?_ | refine aK ?_ | refine a5 ?_ | refine aM ?_ | refine bZ rfl ?_ | refine ax ?_))
 refine cg (St.of [(1,o1 (.ptr 1 0)),(3,vv (I6 ((m:Int) + 1))),(16,vv (.bool false))] [(1000,dS cs),(1,⟨true,80,2, .flat [.val (I6 mv), .esl 1000 i 0 m]⟩)]) ?_ ?_
 ·refine ab ?_
  (apply aa rfl;(exact ae rfl rfl);apply aa rfl;(exact aD rfl rfl rfl rfl);apply aa rfl;(exact ae rfl rfl))
  refine bH 19 rfl (fun e1=> ?_) (fun e1=> ?_)
  ·have e1:m=1:=by simp at e1;omega
   have hg2:¬aC labs 0 > 0:=fun h=>hq ⟨e1,h⟩
   have hgl:(aJ labs)[0]? =some (I6 (aC labs 0)):=al (by omega)
   have hbf:dB .i64 .gtr (aC labs 0) 0=some (.bool false):=by simp [dB];omega
   (apply aH rfl rfl rfl;(exact aE (d:=1) rfl rfl rfl (by as_aux_lemma=>kernel_rfl));apply aH rfl rfl rfl;(exact aQ rfl (by as_aux_lemma=>kernel_rfl) rfl rfl rfl rfl);apply aH rfl rfl rfl;(first | exact aD rfl rfl rfl hbf | exact da (j:=0) rfl rfl rfl rfl rfl (by as_aux_lemma=>kernel_rfl) hi (by omega) rfl (by omega) (Nat.le_refl _) | exact bX rfl (by as_aux_lemma=>kernel_rfl) rfl rfl rfl hi hgl);apply aH rfl rfl rfl;(first | exact aD rfl rfl rfl hbf | exact da (j:=0) rfl rfl rfl rfl rfl (by as_aux_lemma=>kernel_rfl) hi (by omega) rfl (by omega) (Nat.le_refl _) | exact bX rfl (by as_aux_lemma=>kernel_rfl) rfl rfl rfl hi hgl);apply aH rfl rfl rfl;(first | exact aD rfl rfl rfl hbf | exact da (j:=0) rfl rfl rfl rfl rfl (by as_aux_lemma=>kernel_rfl) hi (by omega) rfl (by omega) (Nat.le_refl _) | exact bX rfl (by as_aux_lemma=>kernel_rfl) rfl rfl rfl hi hgl);apply aa rfl;(exact bf rfl rfl rfl);apply aa rfl;(exact ag rfl rfl);refine aj ?_)
   exact aL (Wk.of ⟨rfl,rfl,rfl,trivial⟩ ⟨rfl,rfl,trivial⟩ trivial)
  ·(apply aG rfl rfl rfl rfl rfl;apply aG rfl rfl rfl rfl rfl;apply aG rfl rfl rfl rfl rfl;apply aG rfl rfl rfl rfl rfl;apply aG rfl rfl rfl rfl rfl;apply aa rfl;(exact br rfl rfl rfl);apply aa rfl;(exact ag rfl rfl);refine aj ?_)
   exact aL (Wk.of ⟨rfl,rfl,rfl,trivial⟩ ⟨rfl,rfl,trivial⟩ trivial)
 (refine ai ?_)
 refine au rfl (fun e=>by cases e) (fun _=> ?_)
 (refine ah ?_;refine ab ?_;apply aa rfl;(exact a3 rfl rfl rfl rfl rfl rfl (by as_aux_lemma=>kernel_rfl));apply aa rfl;(exact cr (E:=2) rfl (by as_aux_lemma=>kernel_rfl) rfl rfl);apply aa rfl;(first | (apply ak 73;exact aq hE1 (by as_aux_lemma=>kernel_rfl) rfl rfl ⟨⟨.inl rfl, .inl rfl,trivial⟩,rfl,trivial⟩ ⟨⟨_,rfl, .inl rfl⟩,⟨_,rfl, .inr rfl⟩,trivial⟩ rfl rfl) | exact aO (E:=2) rfl (by as_aux_lemma=>kernel_rfl) rfl rfl rfl | exact aP (E:=2) rfl (by as_aux_lemma=>kernel_rfl) rfl rfl rfl rfl);apply aa rfl;(exact ag rfl rfl);refine aj ?_;refine ai ?_)
 refine au rfl (fun e=>by cases e) (fun _=> ?_)
 (refine ah ?_;refine ab ?_;apply aa rfl;(exact a3 rfl rfl rfl rfl rfl rfl (by as_aux_lemma=>kernel_rfl));apply aa rfl;(first | (apply ak 73;exact aq hE2 (by as_aux_lemma=>kernel_rfl) rfl rfl ⟨⟨.inl rfl, .inl rfl,trivial⟩,rfl,trivial⟩ ⟨⟨_,rfl, .inl rfl⟩,⟨_,rfl, .inr rfl⟩,trivial⟩ rfl rfl) | exact aO (E:=2) rfl (by as_aux_lemma=>kernel_rfl) rfl rfl rfl | exact aP (E:=2) rfl (by as_aux_lemma=>kernel_rfl) rfl rfl rfl rfl);apply aa rfl;(first | (apply ak 73;exact aq hE2 (by as_aux_lemma=>kernel_rfl) rfl rfl ⟨⟨.inl rfl, .inl rfl,trivial⟩,rfl,trivial⟩ ⟨⟨_,rfl, .inl rfl⟩,⟨_,rfl, .inr rfl⟩,trivial⟩ rfl rfl) | exact aO (E:=2) rfl (by as_aux_lemma=>kernel_rfl) rfl rfl rfl | exact aP (E:=2) rfl (by as_aux_lemma=>kernel_rfl) rfl rfl rfl rfl);apply aa rfl;(exact ag rfl rfl);refine aj ?_;refine ai ?_)
 refine au rfl (fun e=>by cases e) (fun _=> ?_)
 (refine ah ?_;refine ab ?_;apply aa rfl;(exact a3 rfl rfl rfl rfl rfl rfl (by as_aux_lemma=>kernel_rfl));apply aa rfl;(first | (apply ak 73;exact aq hE3 (by as_aux_lemma=>kernel_rfl) rfl rfl ⟨⟨.inl rfl, .inl rfl,trivial⟩,rfl,trivial⟩ ⟨⟨_,rfl, .inl rfl⟩,⟨_,rfl, .inr rfl⟩,trivial⟩ rfl rfl) | exact aO (E:=2) rfl (by as_aux_lemma=>kernel_rfl) rfl rfl rfl | exact aP (E:=2) rfl (by as_aux_lemma=>kernel_rfl) rfl rfl rfl rfl);apply aa rfl;(first | (apply ak 73;exact aq hE3 (by as_aux_lemma=>kernel_rfl) rfl rfl ⟨⟨.inl rfl, .inl rfl,trivial⟩,rfl,trivial⟩ ⟨⟨_,rfl, .inl rfl⟩,⟨_,rfl, .inr rfl⟩,trivial⟩ rfl rfl) | exact aO (E:=2) rfl (by as_aux_lemma=>kernel_rfl) rfl rfl rfl | exact aP (E:=2) rfl (by as_aux_lemma=>kernel_rfl) rfl rfl rfl rfl);apply aa rfl;(exact ag rfl rfl);refine aj ?_;refine ai ?_)
 refine au rfl (fun e=>by cases e) (fun _=> ?_)
 (refine aI ?_;refine aK ?_;refine ai ?_;refine ah ?_;refine ab ?_;apply aa rfl;(exact bM (E:=2) rfl (by as_aux_lemma=>kernel_rfl) rfl);apply aa rfl;(exact aE (d:=1) rfl rfl rfl (by as_aux_lemma=>kernel_rfl));apply aa rfl;(exact aQ rfl (by as_aux_lemma=>kernel_rfl) rfl rfl rfl rfl);apply aa rfl;(exact a8 rfl rfl rfl (by as_aux_lemma=>kernel_rfl));apply aa rfl;(first | (apply ak 37;exact bz hR (by as_aux_lemma=>kernel_rfl) rfl rfl ⟨rfl,rfl,trivial⟩ ⟨⟨_,rfl, .inr rfl⟩,trivial⟩ rfl rfl rfl) | (apply ak 74;exact aq hQ (by as_aux_lemma=>kernel_rfl) rfl rfl ⟨rfl,rfl,trivial⟩ ⟨⟨_,rfl, .inl rfl⟩,⟨_,rfl, .inr rfl⟩,trivial⟩ rfl rfl));apply aa rfl;(exact ag rfl rfl);refine aj ?_;refine ai ?_;refine ah ?_;refine ab ?_;apply aa rfl;(exact ag rfl rfl);refine aj ?_;refine ai ?_;refine ah ?_;refine ah ?_;refine ab ?_;apply aa rfl;(exact aE (d:=1) rfl rfl rfl (by as_aux_lemma=>kernel_rfl));apply aa rfl;(exact aQ rfl (by as_aux_lemma=>kernel_rfl) rfl rfl rfl rfl);apply aa rfl;(exact ae rfl rfl);apply aa rfl;(first | (apply ak 37;exact bz hR (by as_aux_lemma=>kernel_rfl) rfl rfl ⟨rfl,rfl,trivial⟩ ⟨⟨_,rfl, .inr rfl⟩,trivial⟩ rfl rfl rfl) | (apply ak 74;exact aq hQ (by as_aux_lemma=>kernel_rfl) rfl rfl ⟨rfl,rfl,trivial⟩ ⟨⟨_,rfl, .inl rfl⟩,⟨_,rfl, .inr rfl⟩,trivial⟩ rfl rfl));refine aj ?_;refine ai ?_)
 refine au rfl (fun _=> ?_) (fun e=>by cases e)
 (refine ab ?_;apply aa rfl;(exact ag rfl rfl);refine aj ?_;refine ai ?_;refine ah ?_;refine ah ?_;refine ab ?_;apply aa rfl;(exact ae rfl rfl);apply aa rfl;(exact aD rfl rfl rfl rfl);refine aj ?_;refine ai ?_)
 refine au rfl (fun e=>by cases e) (fun _=> ?_)
 (refine aI ?_;refine ai ?_;refine ah ?_;refine ab ?_;apply aa rfl;(exact ag rfl rfl);refine aj ?_;refine ai ?_;refine ah ?_;refine ah ?_;refine ab ?_;apply aa rfl;(exact ae rfl rfl);apply aa rfl;(exact ae rfl rfl);refine aj ?_;refine ai ?_;refine aB ?_)
 have hlp:∀k:Nat,k≤5→IntKind.i64.wrap ((1:Int) * (k:Int))=(1:Int) * k∧IntKind.i64.wrap (2 + (1:Int) * (k:Int))=2 + (1:Int) * k:=fun k hk=>⟨IntWalk.i64_in _ (by omega),IntWalk.i64_in _ (by omega)⟩
 refine bl (fun k:Nat=>St.of [(5,vv (I6 1)),(6,o1 (.sl 2100 0 k)),(62,vv (I6 ((m:Int) + 1))),(63,vv (I6 k))] [(2100,bw (eZ k 1))]) (fun k=>k≤m + 1) (fun k=>m + 1 - k) 0 (Nat.zero_le _) (Wk.trans (pj (t:=6) (n:=2100) (k:=1) (E:=2) (d:= .bG (aJ (eZ 0 1))) rfl rfl) (Wk.of ⟨rfl,rfl,rfl,rfl,trivial⟩ ⟨rfl,trivial⟩ trivial)) ?_
 rintro k hk
 have hlk:=hlp k (by omega)
 (refine ah ?_;refine ab ?_;apply aa rfl;(exact aD rfl rfl rfl rfl);refine aj ?_;refine ai ?_;refine ah ?_)
 refine bF rfl (fun hlt=> ?_) (fun hlt=> ?_)
 ·(refine aI ?_;refine ai ?_;refine ah ?_;refine aB ?_;refine ah ?_;refine ab ?_;apply aa rfl;(exact ae rfl rfl);apply aa rfl;(exact ag rfl rfl);refine aj ?_;refine ai ?_;refine ab ?_;apply aa rfl;(exact ae rfl rfl);apply aa rfl;(exact ae rfl rfl);apply aa rfl;(exact ae rfl rfl);apply aa rfl;(first | exact c9 rfl rfl rfl hlk.1 | exact aR rfl rfl rfl hlk.2 | exact bg rfl (by as_aux_lemma=>kernel_rfl) rfl rfl rfl (cL _ _) rfl rfl (by omega));apply aa rfl;(first | exact c9 rfl rfl rfl hlk.1 | exact aR rfl rfl rfl hlk.2 | exact bg rfl (by as_aux_lemma=>kernel_rfl) rfl rfl rfl (cL _ _) rfl rfl (by omega));apply aa rfl;(exact bM (E:=2) rfl (by as_aux_lemma=>kernel_rfl) rfl);apply aa rfl;(first | exact c9 rfl rfl rfl hlk.1 | exact aR rfl rfl rfl hlk.2 | exact bg rfl (by as_aux_lemma=>kernel_rfl) rfl rfl rfl (cL _ _) rfl rfl (by omega));apply aa rfl;(exact ag rfl rfl);refine aj ?_;refine aK ?_;refine ai ?_;refine ab ?_;apply aa rfl;(exact aR rfl rfl rfl (by first | exact IntWalk.i64_in _ (by omega) | rfl));apply aa rfl;(exact ae rfl rfl);refine aj ?_)
  exact aX (k + 1) (by omega) (by omega) (Wk.of ⟨rfl,rfl,rfl,rfl,trivial⟩ ⟨by rw [gQ];rfl,trivial⟩ trivial)
 ·obtain rfl:k=m + 1:=by omega
  (refine a5 ?_;refine ax ?_;refine ax ?_;refine aM ?_;refine ai ?_;refine ah ?_;refine ab ?_;apply aa rfl;(exact ae rfl rfl);apply aa rfl;(exact ag rfl rfl);refine aj ?_;refine ai ?_;refine aW ?_)
  exact bd (.inl rfl) rfl (.tmp rfl) ⟨rfl,trivial⟩ trivial
set_option maxRecDepth 100000 in
set_option maxHeartbeats 2000000 in
theorem AX (cs:List jG) (mv:Int) (i m:Nat) (labs:List Int) (hi:cs[i]? =some (.r 2 1 m (aJ labs))) (hm:labs.length=m) (hm4:m≤4) (h0:0 < m) (hq:¬(m=1∧0 < aC labs 0)) (e1:bA labs [3,5]=false) (e2:bA labs [3,3,5]=false) (e3:bA labs [3,4,3]=false) (e4:labs≠List.replicate m 3) (e5:bA labs ((List.replicate m (3:Int)).set 0 4)=true):
  FC Try.prog 53 [(1000,dS cs)] [cA mv i m] [(2100,bw (eZ (m + 1) 2))] (o1 (.sl 2100 0 (m + 1))) []:=by
 have hSz:=fG 1000 i m
 have hE1:=(cO cs mv i m 2 labs [3,5] hi hm rfl (by omega) (by omega)).nm [(1000,1000),(1001,33)] (by kernel_rfl)
 have hE1:FC Try.prog 73 [(1000,dS cs),(33,de [3,5])] [cA mv i m,o1 (.sl 33 0 2)] [] (vv (.bool (bA labs [3,5]))) []:=hE1
 rw [e1] at hE1
 have hE2:=(cO cs mv i m 3 labs [3,3,5] hi hm rfl (by omega) (by omega)).nm [(1000,1000),(1001,38)] (by kernel_rfl)
 have hE2:FC Try.prog 73 [(1000,dS cs),(38,de [3,3,5])] [cA mv i m,o1 (.sl 38 0 3)] [] (vv (.bool (bA labs [3,3,5]))) []:=hE2
 rw [e2] at hE2
 have hE3:=(cO cs mv i m 3 labs [3,4,3] hi hm rfl (by omega) (by omega)).nm [(1000,1000),(1001,43)] (by kernel_rfl)
 have hE3:FC Try.prog 73 [(1000,dS cs),(43,de [3,4,3])] [cA mv i m,o1 (.sl 43 0 3)] [] (vv (.bool (bA labs [3,4,3]))) []:=hE3
 rw [e3] at hE3
 refine bc (nt:=75) Try.func53 rfl rfl (by simp) fun w0 ω0=> ?_
 have hR:FC Try.prog 37 [(46,⟨false,2,1, .bG (aJ [3])⟩)] [o1 (.sl 46 0 1),vv (I6 m)] [(50,⟨true,2,1, .bG (aJ (List.replicate m 3))⟩)] (o1 (.sl 50 0 m)) []:=gX 46 50 m 3 (by omega) h0
 have hrl:(List.replicate m (3:Int)).length=m:=by simp
 have hQ:=(iW cs i m m 80 2 labs (List.replicate m 3) hi hm hrl (by omega) (by omega)).nm [(1000,1000),(1001,50)] (by kernel_rfl)
 have hQ:FC Try.prog 74 [(1000,dS cs),(50,de (List.replicate m 3))] [o1 (.esl 1000 i 0 m),o1 (.sl 50 0 m)] [] (vv (.bool (labs == List.replicate m 3))) []:=hQ
 have hF:=(cO cs mv i m m labs ((List.replicate m 3).set 0 4) hi hm (by simp) (by omega) (by omega)).nm [(1000,1000),(1001,50)] (by kernel_rfl)
 have hF:FC Try.prog 73 [(1000,dS cs),(50,de ((List.replicate m 3).set 0 4))] [cA mv i m,o1 (.sl 50 0 m)] [] (vv (.bool (bA labs ((List.replicate m 3).set 0 4)))) []:=hF
 have e4':(labs == List.replicate m 3)=false:=by simpa using e4
 rw [e4'] at hQ
 rw [e5] at hF
 have hw1:IntKind.i64.wrap ((m:Int) + 1)=(m:Int) + 1:=IntWalk.i64_in _ (by omega)
 (refine ah ?_;refine ab ?_;apply aa rfl;(exact cS rfl rfl rfl rfl);apply aa rfl;(exact ag rfl rfl);refine aj ?_;refine ai ?_;refine ah ?_;refine ab ?_;apply aa rfl;(exact aE (d:=1) rfl rfl rfl (by as_aux_lemma=>kernel_rfl));apply aa rfl;(exact aQ rfl (by as_aux_lemma=>kernel_rfl) rfl rfl rfl rfl);apply aa rfl;(first | (apply ak 22;exact aq hSz (by as_aux_lemma=>kernel_rfl) rfl rfl ⟨rfl,trivial⟩ trivial rfl rfl) | exact aR rfl rfl rfl hw1);apply aa rfl;(first | (apply ak 22;exact aq hSz (by as_aux_lemma=>kernel_rfl) rfl rfl ⟨rfl,trivial⟩ trivial rfl rfl) | exact aR rfl rfl rfl hw1);apply aa rfl;(exact ag rfl rfl);refine aj ?_;refine ai ?_;refine ah ?_;refine aB ?_;refine ah ?_;refine ab ?_;apply aa rfl;(exact ae rfl rfl);apply aa rfl;(exact aD rfl rfl rfl rfl);apply aa rfl;(exact ag rfl rfl);refine aj ?_;refine ai ?_)
 refine au rfl (fun e=> ?_) (fun _=> ?_)
 ·exfalso;simp at e;omega
 (repeat (first | refine ah ?_ | refine ai ?_ | refine aI ?_ | refine aB ?_ | refine aK ?_ | refine a5 ?_ | refine aM ?_ | refine bZ rfl ?_ | refine ax ?_))
 refine cg (St.of [(1,o1 (.ptr 1 0)),(3,vv (I6 ((m:Int) + 1))),(16,vv (.bool false))] [(1000,dS cs),(1,⟨true,80,2, .flat [.val (I6 mv), .esl 1000 i 0 m]⟩)]) ?_ ?_
 ·refine ab ?_
  (apply aa rfl;(exact ae rfl rfl);apply aa rfl;(exact aD rfl rfl rfl rfl);apply aa rfl;(exact ae rfl rfl))
  refine bH 19 rfl (fun e1=> ?_) (fun e1=> ?_)
  ·have e1:m=1:=by simp at e1;omega
   have hg2:¬aC labs 0 > 0:=fun h=>hq ⟨e1,h⟩
   have hgl:(aJ labs)[0]? =some (I6 (aC labs 0)):=al (by omega)
   have hbf:dB .i64 .gtr (aC labs 0) 0=some (.bool false):=by simp [dB];omega
   (apply aH rfl rfl rfl;(exact aE (d:=1) rfl rfl rfl (by as_aux_lemma=>kernel_rfl));apply aH rfl rfl rfl;(exact aQ rfl (by as_aux_lemma=>kernel_rfl) rfl rfl rfl rfl);apply aH rfl rfl rfl;(first | exact aD rfl rfl rfl hbf | exact da (j:=0) rfl rfl rfl rfl rfl (by as_aux_lemma=>kernel_rfl) hi (by omega) rfl (by omega) (Nat.le_refl _) | exact bX rfl (by as_aux_lemma=>kernel_rfl) rfl rfl rfl hi hgl);apply aH rfl rfl rfl;(first | exact aD rfl rfl rfl hbf | exact da (j:=0) rfl rfl rfl rfl rfl (by as_aux_lemma=>kernel_rfl) hi (by omega) rfl (by omega) (Nat.le_refl _) | exact bX rfl (by as_aux_lemma=>kernel_rfl) rfl rfl rfl hi hgl);apply aH rfl rfl rfl;(first | exact aD rfl rfl rfl hbf | exact da (j:=0) rfl rfl rfl rfl rfl (by as_aux_lemma=>kernel_rfl) hi (by omega) rfl (by omega) (Nat.le_refl _) | exact bX rfl (by as_aux_lemma=>kernel_rfl) rfl rfl rfl hi hgl);apply aa rfl;(exact bf rfl rfl rfl);apply aa rfl;(exact ag rfl rfl);refine aj ?_)
   exact aL (Wk.of ⟨rfl,rfl,rfl,trivial⟩ ⟨rfl,rfl,trivial⟩ trivial)
  ·(apply aG rfl rfl rfl rfl rfl;apply aG rfl rfl rfl rfl rfl;apply aG rfl rfl rfl rfl rfl;apply aG rfl rfl rfl rfl rfl;apply aG rfl rfl rfl rfl rfl;apply aa rfl;(exact br rfl rfl rfl);apply aa rfl;(exact ag rfl rfl);refine aj ?_)
   exact aL (Wk.of ⟨rfl,rfl,rfl,trivial⟩ ⟨rfl,rfl,trivial⟩ trivial)
 (refine ai ?_)
 refine au rfl (fun e=>by cases e) (fun _=> ?_)
 (refine ah ?_;refine ab ?_;apply aa rfl;(exact a3 rfl rfl rfl rfl rfl rfl (by as_aux_lemma=>kernel_rfl));apply aa rfl;(exact cr (E:=2) rfl (by as_aux_lemma=>kernel_rfl) rfl rfl);apply aa rfl;(first | (apply ak 73;exact aq hE1 (by as_aux_lemma=>kernel_rfl) rfl rfl ⟨⟨.inl rfl, .inl rfl,trivial⟩,rfl,trivial⟩ ⟨⟨_,rfl, .inl rfl⟩,⟨_,rfl, .inr rfl⟩,trivial⟩ rfl rfl) | exact aO (E:=2) rfl (by as_aux_lemma=>kernel_rfl) rfl rfl rfl | exact aP (E:=2) rfl (by as_aux_lemma=>kernel_rfl) rfl rfl rfl rfl);apply aa rfl;(exact ag rfl rfl);refine aj ?_;refine ai ?_)
 refine au rfl (fun e=>by cases e) (fun _=> ?_)
 (refine ah ?_;refine ab ?_;apply aa rfl;(exact a3 rfl rfl rfl rfl rfl rfl (by as_aux_lemma=>kernel_rfl));apply aa rfl;(first | (apply ak 73;exact aq hE2 (by as_aux_lemma=>kernel_rfl) rfl rfl ⟨⟨.inl rfl, .inl rfl,trivial⟩,rfl,trivial⟩ ⟨⟨_,rfl, .inl rfl⟩,⟨_,rfl, .inr rfl⟩,trivial⟩ rfl rfl) | exact aO (E:=2) rfl (by as_aux_lemma=>kernel_rfl) rfl rfl rfl | exact aP (E:=2) rfl (by as_aux_lemma=>kernel_rfl) rfl rfl rfl rfl);apply aa rfl;(first | (apply ak 73;exact aq hE2 (by as_aux_lemma=>kernel_rfl) rfl rfl ⟨⟨.inl rfl, .inl rfl,trivial⟩,rfl,trivial⟩ ⟨⟨_,rfl, .inl rfl⟩,⟨_,rfl, .inr rfl⟩,trivial⟩ rfl rfl) | exact aO (E:=2) rfl (by as_aux_lemma=>kernel_rfl) rfl rfl rfl | exact aP (E:=2) rfl (by as_aux_lemma=>kernel_rfl) rfl rfl rfl rfl);apply aa rfl;(exact ag rfl rfl);refine aj ?_;refine ai ?_)
 refine au rfl (fun e=>by cases e) (fun _=> ?_)
 (refine ah ?_;refine ab ?_;apply aa rfl;(exact a3 rfl rfl rfl rfl rfl rfl (by as_aux_lemma=>kernel_rfl));apply aa rfl;(first | (apply ak 73;exact aq hE3 (by as_aux_lemma=>kernel_rfl) rfl rfl ⟨⟨.inl rfl, .inl rfl,trivial⟩,rfl,trivial⟩ ⟨⟨_,rfl, .inl rfl⟩,⟨_,rfl, .inr rfl⟩,trivial⟩ rfl rfl) | exact aO (E:=2) rfl (by as_aux_lemma=>kernel_rfl) rfl rfl rfl | exact aP (E:=2) rfl (by as_aux_lemma=>kernel_rfl) rfl rfl rfl rfl);apply aa rfl;(first | (apply ak 73;exact aq hE3 (by as_aux_lemma=>kernel_rfl) rfl rfl ⟨⟨.inl rfl, .inl rfl,trivial⟩,rfl,trivial⟩ ⟨⟨_,rfl, .inl rfl⟩,⟨_,rfl, .inr rfl⟩,trivial⟩ rfl rfl) | exact aO (E:=2) rfl (by as_aux_lemma=>kernel_rfl) rfl rfl rfl | exact aP (E:=2) rfl (by as_aux_lemma=>kernel_rfl) rfl rfl rfl rfl);apply aa rfl;(exact ag rfl rfl);refine aj ?_;refine ai ?_)
 refine au rfl (fun e=>by cases e) (fun _=> ?_)
 (refine aI ?_;refine aK ?_;refine ai ?_;refine ah ?_;refine ab ?_;apply aa rfl;(exact bM (E:=2) rfl (by as_aux_lemma=>kernel_rfl) rfl);apply aa rfl;(exact aE (d:=1) rfl rfl rfl (by as_aux_lemma=>kernel_rfl));apply aa rfl;(exact aQ rfl (by as_aux_lemma=>kernel_rfl) rfl rfl rfl rfl);apply aa rfl;(exact a8 rfl rfl rfl (by as_aux_lemma=>kernel_rfl));apply aa rfl;(first | (apply ak 37;exact bz hR (by as_aux_lemma=>kernel_rfl) rfl rfl ⟨rfl,rfl,trivial⟩ ⟨⟨_,rfl, .inr rfl⟩,trivial⟩ rfl rfl rfl) | (apply ak 74;exact aq hQ (by as_aux_lemma=>kernel_rfl) rfl rfl ⟨rfl,rfl,trivial⟩ ⟨⟨_,rfl, .inl rfl⟩,⟨_,rfl, .inr rfl⟩,trivial⟩ rfl rfl));apply aa rfl;(exact ag rfl rfl);refine aj ?_;refine ai ?_;refine ah ?_;refine ab ?_;apply aa rfl;(exact ag rfl rfl);refine aj ?_;refine ai ?_;refine ah ?_;refine ah ?_;refine ab ?_;apply aa rfl;(exact aE (d:=1) rfl rfl rfl (by as_aux_lemma=>kernel_rfl));apply aa rfl;(exact aQ rfl (by as_aux_lemma=>kernel_rfl) rfl rfl rfl rfl);apply aa rfl;(exact ae rfl rfl);apply aa rfl;(first | (apply ak 37;exact bz hR (by as_aux_lemma=>kernel_rfl) rfl rfl ⟨rfl,rfl,trivial⟩ ⟨⟨_,rfl, .inr rfl⟩,trivial⟩ rfl rfl rfl) | (apply ak 74;exact aq hQ (by as_aux_lemma=>kernel_rfl) rfl rfl ⟨rfl,rfl,trivial⟩ ⟨⟨_,rfl, .inl rfl⟩,⟨_,rfl, .inr rfl⟩,trivial⟩ rfl rfl));refine aj ?_;refine ai ?_)
 refine au rfl (fun e=>by cases e) (fun _=> ?_)
 (refine ah ?_;refine ab ?_;apply aa rfl;(exact ae rfl rfl);apply aa rfl;(exact aU rfl rfl rfl rfl rfl (by as_aux_lemma=>kernel_rfl) (by first | rfl | exact (Int.toNat_of_nonneg (by omega)).symm) (by first | assumption | omega | (simp;omega)) (by first | exact Nat.le_refl _ | exact Nat.le_of_eq (an _).symm | exact Nat.le_of_eq (aw _).symm | (refine Nat.le_trans ?_ (Nat.le_of_eq (an _).symm);(first | omega | (simp;done) | (simp;omega))) | (refine Nat.le_trans ?_ (Nat.le_of_eq (aw _).symm);(first | omega | (simp;done) | (simp;omega)))));apply aa rfl;(first | exact aU (j:=0) rfl rfl rfl rfl rfl (by as_aux_lemma=>kernel_rfl) rfl h0 (by rw [an,hrl];exact Nat.le_refl _) | exact iM rfl rfl rfl rfl rfl (by rw [hrl];exact h0) (by as_aux_lemma=>kernel_rfl) | (apply ak 73;exact aq hF (by as_aux_lemma=>kernel_rfl) rfl rfl ⟨⟨.inl rfl, .inl rfl,trivial⟩,rfl,trivial⟩ ⟨⟨_,rfl, .inl rfl⟩,⟨_,rfl, .inr rfl⟩,trivial⟩ rfl rfl));refine aj ?_;refine ai ?_;refine ah ?_;refine ab ?_;apply aa rfl;(exact a3 rfl rfl rfl rfl rfl rfl (by as_aux_lemma=>kernel_rfl));apply aa rfl;(exact ae rfl rfl);apply aa rfl;(first | exact aU (j:=0) rfl rfl rfl rfl rfl (by as_aux_lemma=>kernel_rfl) rfl h0 (by rw [an,hrl];exact Nat.le_refl _) | exact iM rfl rfl rfl rfl rfl (by rw [hrl];exact h0) (by as_aux_lemma=>kernel_rfl) | (apply ak 73;exact aq hF (by as_aux_lemma=>kernel_rfl) rfl rfl ⟨⟨.inl rfl, .inl rfl,trivial⟩,rfl,trivial⟩ ⟨⟨_,rfl, .inl rfl⟩,⟨_,rfl, .inr rfl⟩,trivial⟩ rfl rfl));refine aj ?_;refine ai ?_)
 refine au rfl (fun _=> ?_) (fun e=>by cases e)
 (refine ab ?_;apply aa rfl;(exact ag rfl rfl);refine aj ?_;refine ai ?_;refine ah ?_;refine ah ?_;refine ab ?_;apply aa rfl;(exact ae rfl rfl);apply aa rfl;(exact aD rfl rfl rfl rfl);refine aj ?_;refine ai ?_)
 refine au rfl (fun e=>by cases e) (fun _=> ?_)
 (refine aI ?_;refine ai ?_;refine ah ?_;refine ab ?_;apply aa rfl;(exact ag rfl rfl);refine aj ?_;refine ai ?_;refine ah ?_;refine ah ?_;refine ab ?_;apply aa rfl;(exact ae rfl rfl);apply aa rfl;(exact ae rfl rfl);refine aj ?_;refine ai ?_;refine aB ?_)
 have hlp:∀k:Nat,k≤5→IntKind.i64.wrap ((2:Int) * (k:Int))=(2:Int) * k∧IntKind.i64.wrap (2 + (2:Int) * (k:Int))=2 + (2:Int) * k:=fun k hk=>⟨IntWalk.i64_in _ (by omega),IntWalk.i64_in _ (by omega)⟩
 refine bl (fun k:Nat=>St.of [(5,vv (I6 2)),(6,o1 (.sl 2100 0 k)),(62,vv (I6 ((m:Int) + 1))),(63,vv (I6 k))] [(2100,bw (eZ k 2))]) (fun k=>k≤m + 1) (fun k=>m + 1 - k) 0 (Nat.zero_le _) (Wk.trans (pj (t:=6) (n:=2100) (k:=1) (E:=2) (d:= .bG (aJ (eZ 0 2))) rfl rfl) (Wk.of ⟨rfl,rfl,rfl,rfl,trivial⟩ ⟨rfl,trivial⟩ trivial)) ?_
 rintro k hk
 have hlk:=hlp k (by omega)
 (refine ah ?_;refine ab ?_;apply aa rfl;(exact aD rfl rfl rfl rfl);refine aj ?_;refine ai ?_;refine ah ?_)
 refine bF rfl (fun hlt=> ?_) (fun hlt=> ?_)
 ·(refine aI ?_;refine ai ?_;refine ah ?_;refine aB ?_;refine ah ?_;refine ab ?_;apply aa rfl;(exact ae rfl rfl);apply aa rfl;(exact ag rfl rfl);refine aj ?_;refine ai ?_;refine ab ?_;apply aa rfl;(exact ae rfl rfl);apply aa rfl;(exact ae rfl rfl);apply aa rfl;(exact ae rfl rfl);apply aa rfl;(first | exact c9 rfl rfl rfl hlk.1 | exact aR rfl rfl rfl hlk.2 | exact bg rfl (by as_aux_lemma=>kernel_rfl) rfl rfl rfl (cL _ _) rfl rfl (by omega));apply aa rfl;(first | exact c9 rfl rfl rfl hlk.1 | exact aR rfl rfl rfl hlk.2 | exact bg rfl (by as_aux_lemma=>kernel_rfl) rfl rfl rfl (cL _ _) rfl rfl (by omega));apply aa rfl;(exact bM (E:=2) rfl (by as_aux_lemma=>kernel_rfl) rfl);apply aa rfl;(first | exact c9 rfl rfl rfl hlk.1 | exact aR rfl rfl rfl hlk.2 | exact bg rfl (by as_aux_lemma=>kernel_rfl) rfl rfl rfl (cL _ _) rfl rfl (by omega));apply aa rfl;(exact ag rfl rfl);refine aj ?_;refine aK ?_;refine ai ?_;refine ab ?_;apply aa rfl;(exact aR rfl rfl rfl (by first | exact IntWalk.i64_in _ (by omega) | rfl));apply aa rfl;(exact ae rfl rfl);refine aj ?_)
  exact aX (k + 1) (by omega) (by omega) (Wk.of ⟨rfl,rfl,rfl,rfl,trivial⟩ ⟨by rw [gQ];rfl,trivial⟩ trivial)
 ·obtain rfl:k=m + 1:=by omega
  (refine a5 ?_;refine ax ?_;refine ax ?_;refine aM ?_;refine ai ?_;refine ah ?_;refine ab ?_;apply aa rfl;(exact ae rfl rfl);apply aa rfl;(exact ag rfl rfl);refine aj ?_;refine ai ?_;refine aW ?_)
  exact bd (.inl rfl) rfl (.tmp rfl) ⟨rfl,trivial⟩ trivial
set_option maxRecDepth 100000 in
set_option maxHeartbeats 2000000 in
theorem At (cs:List jG) (mv:Int) (i m:Nat) (labs:List Int) (hi:cs[i]? =some (.r 2 1 m (aJ labs))) (hm:labs.length=m) (hm4:m≤4) (h0:0 < m) (hq:¬(m=1∧0 < aC labs 0)) (e1:bA labs [3,5]=false) (e2:bA labs [3,3,5]=false) (e3:bA labs [3,4,3]=false) (e4:labs≠List.replicate m 3) (e5:bA labs ((List.replicate m (3:Int)).set 0 4)=false):
  FC Try.prog 53 [(1000,dS cs)] [cA mv i m] [] (vv (.slice none 0 0)) []:=by
 have hSz:=fG 1000 i m
 have hE1:=(cO cs mv i m 2 labs [3,5] hi hm rfl (by omega) (by omega)).nm [(1000,1000),(1001,33)] (by kernel_rfl)
 have hE1:FC Try.prog 73 [(1000,dS cs),(33,de [3,5])] [cA mv i m,o1 (.sl 33 0 2)] [] (vv (.bool (bA labs [3,5]))) []:=hE1
 rw [e1] at hE1
 have hE2:=(cO cs mv i m 3 labs [3,3,5] hi hm rfl (by omega) (by omega)).nm [(1000,1000),(1001,38)] (by kernel_rfl)
 have hE2:FC Try.prog 73 [(1000,dS cs),(38,de [3,3,5])] [cA mv i m,o1 (.sl 38 0 3)] [] (vv (.bool (bA labs [3,3,5]))) []:=hE2
 rw [e2] at hE2
 have hE3:=(cO cs mv i m 3 labs [3,4,3] hi hm rfl (by omega) (by omega)).nm [(1000,1000),(1001,43)] (by kernel_rfl)
 have hE3:FC Try.prog 73 [(1000,dS cs),(43,de [3,4,3])] [cA mv i m,o1 (.sl 43 0 3)] [] (vv (.bool (bA labs [3,4,3]))) []:=hE3
 rw [e3] at hE3
 refine bc (nt:=75) Try.func53 rfl rfl (by simp) fun w0 ω0=> ?_
 have hR:FC Try.prog 37 [(46,⟨false,2,1, .bG (aJ [3])⟩)] [o1 (.sl 46 0 1),vv (I6 m)] [(50,⟨true,2,1, .bG (aJ (List.replicate m 3))⟩)] (o1 (.sl 50 0 m)) []:=gX 46 50 m 3 (by omega) h0
 have hrl:(List.replicate m (3:Int)).length=m:=by simp
 have hQ:=(iW cs i m m 80 2 labs (List.replicate m 3) hi hm hrl (by omega) (by omega)).nm [(1000,1000),(1001,50)] (by kernel_rfl)
 have hQ:FC Try.prog 74 [(1000,dS cs),(50,de (List.replicate m 3))] [o1 (.esl 1000 i 0 m),o1 (.sl 50 0 m)] [] (vv (.bool (labs == List.replicate m 3))) []:=hQ
 have hF:=(cO cs mv i m m labs ((List.replicate m 3).set 0 4) hi hm (by simp) (by omega) (by omega)).nm [(1000,1000),(1001,50)] (by kernel_rfl)
 have hF:FC Try.prog 73 [(1000,dS cs),(50,de ((List.replicate m 3).set 0 4))] [cA mv i m,o1 (.sl 50 0 m)] [] (vv (.bool (bA labs ((List.replicate m 3).set 0 4)))) []:=hF
 have e4':(labs == List.replicate m 3)=false:=by simpa using e4
 rw [e4'] at hQ
 rw [e5] at hF
 have hw1:IntKind.i64.wrap ((m:Int) + 1)=(m:Int) + 1:=IntWalk.i64_in _ (by omega)
 (refine ah ?_;refine ab ?_;apply aa rfl;(exact cS rfl rfl rfl rfl);apply aa rfl;(exact ag rfl rfl);refine aj ?_;refine ai ?_;refine ah ?_;refine ab ?_;apply aa rfl;(exact aE (d:=1) rfl rfl rfl (by as_aux_lemma=>kernel_rfl));apply aa rfl;(exact aQ rfl (by as_aux_lemma=>kernel_rfl) rfl rfl rfl rfl);apply aa rfl;(first | (apply ak 22;exact aq hSz (by as_aux_lemma=>kernel_rfl) rfl rfl ⟨rfl,trivial⟩ trivial rfl rfl) | exact aR rfl rfl rfl hw1);apply aa rfl;(first | (apply ak 22;exact aq hSz (by as_aux_lemma=>kernel_rfl) rfl rfl ⟨rfl,trivial⟩ trivial rfl rfl) | exact aR rfl rfl rfl hw1);apply aa rfl;(exact ag rfl rfl);refine aj ?_;refine ai ?_;refine ah ?_;refine aB ?_;refine ah ?_;refine ab ?_;apply aa rfl;(exact ae rfl rfl);apply aa rfl;(exact aD rfl rfl rfl rfl);apply aa rfl;(exact ag rfl rfl);refine aj ?_;refine ai ?_)
 refine au rfl (fun e=> ?_) (fun _=> ?_)
 ·exfalso;simp at e;omega
 (repeat (first | refine ah ?_ | refine ai ?_ | refine aI ?_ | refine aB ?_ | refine aK ?_ | refine a5 ?_ | refine aM ?_ | refine bZ rfl ?_ | refine ax ?_))
 refine cg (St.of [(1,o1 (.ptr 1 0)),(3,vv (I6 ((m:Int) + 1))),(16,vv (.bool false))] [(1000,dS cs),(1,⟨true,80,2, .flat [.val (I6 mv), .esl 1000 i 0 m]⟩)]) ?_ ?_
 ·refine ab ?_
  (apply aa rfl;(exact ae rfl rfl);apply aa rfl;(exact aD rfl rfl rfl rfl);apply aa rfl;(exact ae rfl rfl))
  refine bH 19 rfl (fun e1=> ?_) (fun e1=> ?_)
  ·have e1:m=1:=by simp at e1;omega
   have hg2:¬aC labs 0 > 0:=fun h=>hq ⟨e1,h⟩
   have hgl:(aJ labs)[0]? =some (I6 (aC labs 0)):=al (by omega)
   have hbf:dB .i64 .gtr (aC labs 0) 0=some (.bool false):=by simp [dB];omega
   (apply aH rfl rfl rfl;(exact aE (d:=1) rfl rfl rfl (by as_aux_lemma=>kernel_rfl));apply aH rfl rfl rfl;(exact aQ rfl (by as_aux_lemma=>kernel_rfl) rfl rfl rfl rfl);apply aH rfl rfl rfl;(first | exact aD rfl rfl rfl hbf | exact da (j:=0) rfl rfl rfl rfl rfl (by as_aux_lemma=>kernel_rfl) hi (by omega) rfl (by omega) (Nat.le_refl _) | exact bX rfl (by as_aux_lemma=>kernel_rfl) rfl rfl rfl hi hgl);apply aH rfl rfl rfl;(first | exact aD rfl rfl rfl hbf | exact da (j:=0) rfl rfl rfl rfl rfl (by as_aux_lemma=>kernel_rfl) hi (by omega) rfl (by omega) (Nat.le_refl _) | exact bX rfl (by as_aux_lemma=>kernel_rfl) rfl rfl rfl hi hgl);apply aH rfl rfl rfl;(first | exact aD rfl rfl rfl hbf | exact da (j:=0) rfl rfl rfl rfl rfl (by as_aux_lemma=>kernel_rfl) hi (by omega) rfl (by omega) (Nat.le_refl _) | exact bX rfl (by as_aux_lemma=>kernel_rfl) rfl rfl rfl hi hgl);apply aa rfl;(exact bf rfl rfl rfl);apply aa rfl;(exact ag rfl rfl);refine aj ?_)
   exact aL (Wk.of ⟨rfl,rfl,rfl,trivial⟩ ⟨rfl,rfl,trivial⟩ trivial)
  ·(apply aG rfl rfl rfl rfl rfl;apply aG rfl rfl rfl rfl rfl;apply aG rfl rfl rfl rfl rfl;apply aG rfl rfl rfl rfl rfl;apply aG rfl rfl rfl rfl rfl;apply aa rfl;(exact br rfl rfl rfl);apply aa rfl;(exact ag rfl rfl);refine aj ?_)
   exact aL (Wk.of ⟨rfl,rfl,rfl,trivial⟩ ⟨rfl,rfl,trivial⟩ trivial)
 (refine ai ?_)
 refine au rfl (fun e=>by cases e) (fun _=> ?_)
 (refine ah ?_;refine ab ?_;apply aa rfl;(exact a3 rfl rfl rfl rfl rfl rfl (by as_aux_lemma=>kernel_rfl));apply aa rfl;(exact cr (E:=2) rfl (by as_aux_lemma=>kernel_rfl) rfl rfl);apply aa rfl;(first | (apply ak 73;exact aq hE1 (by as_aux_lemma=>kernel_rfl) rfl rfl ⟨⟨.inl rfl, .inl rfl,trivial⟩,rfl,trivial⟩ ⟨⟨_,rfl, .inl rfl⟩,⟨_,rfl, .inr rfl⟩,trivial⟩ rfl rfl) | exact aO (E:=2) rfl (by as_aux_lemma=>kernel_rfl) rfl rfl rfl | exact aP (E:=2) rfl (by as_aux_lemma=>kernel_rfl) rfl rfl rfl rfl);apply aa rfl;(exact ag rfl rfl);refine aj ?_;refine ai ?_)
 refine au rfl (fun e=>by cases e) (fun _=> ?_)
 (refine ah ?_;refine ab ?_;apply aa rfl;(exact a3 rfl rfl rfl rfl rfl rfl (by as_aux_lemma=>kernel_rfl));apply aa rfl;(first | (apply ak 73;exact aq hE2 (by as_aux_lemma=>kernel_rfl) rfl rfl ⟨⟨.inl rfl, .inl rfl,trivial⟩,rfl,trivial⟩ ⟨⟨_,rfl, .inl rfl⟩,⟨_,rfl, .inr rfl⟩,trivial⟩ rfl rfl) | exact aO (E:=2) rfl (by as_aux_lemma=>kernel_rfl) rfl rfl rfl | exact aP (E:=2) rfl (by as_aux_lemma=>kernel_rfl) rfl rfl rfl rfl);apply aa rfl;(first | (apply ak 73;exact aq hE2 (by as_aux_lemma=>kernel_rfl) rfl rfl ⟨⟨.inl rfl, .inl rfl,trivial⟩,rfl,trivial⟩ ⟨⟨_,rfl, .inl rfl⟩,⟨_,rfl, .inr rfl⟩,trivial⟩ rfl rfl) | exact aO (E:=2) rfl (by as_aux_lemma=>kernel_rfl) rfl rfl rfl | exact aP (E:=2) rfl (by as_aux_lemma=>kernel_rfl) rfl rfl rfl rfl);apply aa rfl;(exact ag rfl rfl);refine aj ?_;refine ai ?_)
 refine au rfl (fun e=>by cases e) (fun _=> ?_)
 (refine ah ?_;refine ab ?_;apply aa rfl;(exact a3 rfl rfl rfl rfl rfl rfl (by as_aux_lemma=>kernel_rfl));apply aa rfl;(first | (apply ak 73;exact aq hE3 (by as_aux_lemma=>kernel_rfl) rfl rfl ⟨⟨.inl rfl, .inl rfl,trivial⟩,rfl,trivial⟩ ⟨⟨_,rfl, .inl rfl⟩,⟨_,rfl, .inr rfl⟩,trivial⟩ rfl rfl) | exact aO (E:=2) rfl (by as_aux_lemma=>kernel_rfl) rfl rfl rfl | exact aP (E:=2) rfl (by as_aux_lemma=>kernel_rfl) rfl rfl rfl rfl);apply aa rfl;(first | (apply ak 73;exact aq hE3 (by as_aux_lemma=>kernel_rfl) rfl rfl ⟨⟨.inl rfl, .inl rfl,trivial⟩,rfl,trivial⟩ ⟨⟨_,rfl, .inl rfl⟩,⟨_,rfl, .inr rfl⟩,trivial⟩ rfl rfl) | exact aO (E:=2) rfl (by as_aux_lemma=>kernel_rfl) rfl rfl rfl | exact aP (E:=2) rfl (by as_aux_lemma=>kernel_rfl) rfl rfl rfl rfl);apply aa rfl;(exact ag rfl rfl);refine aj ?_;refine ai ?_)
 refine au rfl (fun e=>by cases e) (fun _=> ?_)
 (refine aI ?_;refine aK ?_;refine ai ?_;refine ah ?_;refine ab ?_;apply aa rfl;(exact bM (E:=2) rfl (by as_aux_lemma=>kernel_rfl) rfl);apply aa rfl;(exact aE (d:=1) rfl rfl rfl (by as_aux_lemma=>kernel_rfl));apply aa rfl;(exact aQ rfl (by as_aux_lemma=>kernel_rfl) rfl rfl rfl rfl);apply aa rfl;(exact a8 rfl rfl rfl (by as_aux_lemma=>kernel_rfl));apply aa rfl;(first | (apply ak 37;exact bz hR (by as_aux_lemma=>kernel_rfl) rfl rfl ⟨rfl,rfl,trivial⟩ ⟨⟨_,rfl, .inr rfl⟩,trivial⟩ rfl rfl rfl) | (apply ak 74;exact aq hQ (by as_aux_lemma=>kernel_rfl) rfl rfl ⟨rfl,rfl,trivial⟩ ⟨⟨_,rfl, .inl rfl⟩,⟨_,rfl, .inr rfl⟩,trivial⟩ rfl rfl));apply aa rfl;(exact ag rfl rfl);refine aj ?_;refine ai ?_;refine ah ?_;refine ab ?_;apply aa rfl;(exact ag rfl rfl);refine aj ?_;refine ai ?_;refine ah ?_;refine ah ?_;refine ab ?_;apply aa rfl;(exact aE (d:=1) rfl rfl rfl (by as_aux_lemma=>kernel_rfl));apply aa rfl;(exact aQ rfl (by as_aux_lemma=>kernel_rfl) rfl rfl rfl rfl);apply aa rfl;(exact ae rfl rfl);apply aa rfl;(first | (apply ak 37;exact bz hR (by as_aux_lemma=>kernel_rfl) rfl rfl ⟨rfl,rfl,trivial⟩ ⟨⟨_,rfl, .inr rfl⟩,trivial⟩ rfl rfl rfl) | (apply ak 74;exact aq hQ (by as_aux_lemma=>kernel_rfl) rfl rfl ⟨rfl,rfl,trivial⟩ ⟨⟨_,rfl, .inl rfl⟩,⟨_,rfl, .inr rfl⟩,trivial⟩ rfl rfl));refine aj ?_;refine ai ?_)
 refine au rfl (fun e=>by cases e) (fun _=> ?_)
 (refine ah ?_;refine ab ?_;apply aa rfl;(exact ae rfl rfl);apply aa rfl;(exact aU rfl rfl rfl rfl rfl (by as_aux_lemma=>kernel_rfl) (by first | rfl | exact (Int.toNat_of_nonneg (by omega)).symm) (by first | assumption | omega | (simp;omega)) (by first | exact Nat.le_refl _ | exact Nat.le_of_eq (an _).symm | exact Nat.le_of_eq (aw _).symm | (refine Nat.le_trans ?_ (Nat.le_of_eq (an _).symm);(first | omega | (simp;done) | (simp;omega))) | (refine Nat.le_trans ?_ (Nat.le_of_eq (aw _).symm);(first | omega | (simp;done) | (simp;omega)))));apply aa rfl;(first | exact aU (j:=0) rfl rfl rfl rfl rfl (by as_aux_lemma=>kernel_rfl) rfl h0 (by rw [an,hrl];exact Nat.le_refl _) | exact iM rfl rfl rfl rfl rfl (by rw [hrl];exact h0) (by as_aux_lemma=>kernel_rfl) | (apply ak 73;exact aq hF (by as_aux_lemma=>kernel_rfl) rfl rfl ⟨⟨.inl rfl, .inl rfl,trivial⟩,rfl,trivial⟩ ⟨⟨_,rfl, .inl rfl⟩,⟨_,rfl, .inr rfl⟩,trivial⟩ rfl rfl));refine aj ?_;refine ai ?_;refine ah ?_;refine ab ?_;apply aa rfl;(exact a3 rfl rfl rfl rfl rfl rfl (by as_aux_lemma=>kernel_rfl));apply aa rfl;(exact ae rfl rfl);apply aa rfl;(first | exact aU (j:=0) rfl rfl rfl rfl rfl (by as_aux_lemma=>kernel_rfl) rfl h0 (by rw [an,hrl];exact Nat.le_refl _) | exact iM rfl rfl rfl rfl rfl (by rw [hrl];exact h0) (by as_aux_lemma=>kernel_rfl) | (apply ak 73;exact aq hF (by as_aux_lemma=>kernel_rfl) rfl rfl ⟨⟨.inl rfl, .inl rfl,trivial⟩,rfl,trivial⟩ ⟨⟨_,rfl, .inl rfl⟩,⟨_,rfl, .inr rfl⟩,trivial⟩ rfl rfl));refine aj ?_;refine ai ?_)
 refine au rfl (fun e=>by cases e) (fun _=> ?_)
 (refine aI ?_;refine ai ?_;refine ah ?_;refine ah ?_;refine ab ?_;apply aa rfl;(exact ae rfl rfl);apply aa rfl;(exact aD rfl rfl rfl rfl);refine aj ?_;refine ai ?_)
 refine au rfl (fun _=> ?_) (fun e=>by cases e)
 (refine ah ?_;refine ab ?_;apply aa rfl;(exact ag rfl rfl);refine aj ?_;refine ai ?_;refine aW ?_;refine aT ?_)
 exact bd (.inl rfl) rfl (.tmp rfl) trivial trivial
theorem vI (cs:List jG) (mv:Int) (i m:Nat) (labs:List Int) (hi:cs[i]? =some (.r 2 1 m (aJ labs))) (hm:labs.length=m) (hm4:m≤4):
  (cX labs= []∧FC Try.prog 53 [(1000,dS cs)] [cA mv i m] [] (vv (.slice none 0 0)) [])∨((cX labs).length=m + 1∧FC Try.prog 53 [(1000,dS cs)] [cA mv i m] [(2100,bw (cX labs))] (o1 (.sl 2100 0 (m + 1))) []):=by
 unfold cX
 rw [hm]
 by_cases h0:m=0
 ·rw [if_pos h0]
  subst h0
  exact .inr ⟨rfl,(AR cs mv i 0 labs hi hm hm4 rfl).nm [(1000,1000),(15,2100)] (by kernel_rfl)⟩
 rw [if_neg h0]
 by_cases hq:m=1∧0 < aC labs 0
 ·rw [if_pos hq]
  obtain ⟨rfl,hp⟩:=hq
  exact .inr ⟨rfl,(Aj cs mv i 1 labs hi hm hm4 rfl hp).nm [(1000,1000),(30,2100)] (by kernel_rfl)⟩
 rw [if_neg hq]
 have h0':0 < m:=by omega
 cases e1:bA labs [3,5] with
 | true=>
  obtain rfl:m=2:=by rcases eU.1 e1 with rfl | rfl<;>exact hm.symm
  exact .inr ⟨rfl,(AN cs mv i 2 labs hi hm hm4 h0' hq e1).nm [(1000,1000),(35,2100)] (by kernel_rfl)⟩
 | false=>
 cases e2:bA labs [3,3,5] with
 | true=>
  obtain rfl:m=3:=by rcases eU.1 e2 with rfl | rfl<;>exact hm.symm
  exact .inr ⟨rfl,(Aa cs mv i 3 labs hi hm hm4 h0' hq e1 e2).nm [(1000,1000),(40,2100)] (by kernel_rfl)⟩
 | false=>
 cases e3:bA labs [3,4,3] with
 | true=>
  obtain rfl:m=3:=by rcases eU.1 e3 with rfl | rfl<;>exact hm.symm
  exact .inr ⟨rfl,(A7 cs mv i 3 labs hi hm hm4 h0' hq e1 e2 e3).nm [(1000,1000),(45,2100)] (by kernel_rfl)⟩
 | false=>
 by_cases e4:labs=List.replicate m 3
 ·rw [if_pos e4]
  exact .inr ⟨cL _ _,Ai cs mv i m labs hi hm hm4 h0' hq e1 e2 e3 e4⟩
 rw [if_neg e4]
 cases e5:bA labs ((List.replicate m (3:Int)).set 0 4) with
 | true=>exact .inr ⟨cL _ _,AX cs mv i m labs hi hm hm4 h0' hq e1 e2 e3 e4 e5⟩
 | false=>exact .inl ⟨rfl,At cs mv i m labs hi hm hm4 h0' hq e1 e2 e3 e4 e5⟩
end Go.Proofs.Ytekbhbcgoadciaa
namespace Go.Proofs.Ytekbhbcgoadciaa
open Go.RowKit
theorem sO {ps:dP} {j:Nat} (hj:j < ps.length) (x:Nm):∀(i:Nat) (b:A1), [A1.val (I6 ((db ps j).1:Int)),A1.esl x (j * 2 + 1) 0 (db ps j).2.length][i]? =some b→(dQ.mix (fM ps)).at_ x (j * 2 + i)=some b:=by
 intro i b hb
 have hg:=kf hj
 match i,hb with
 | 0,hb=>simp at hb;subst hb;simp only [dQ.at_,Nat.add_zero];rw [hg.1]
 | 1,hb=>simp at hb;subst hb;simp only [dQ.at_];rw [hg.2]
end Go.Proofs.Ytekbhbcgoadciaa
namespace Go.Proofs.Ytekbhbcgoadciaa
open Go.RowKit
set_option maxHeartbeats 800000 in
theorem pZ (ao:Option Addr) (n c:Nat) (zs:List Int) (w:World) (base:Nat) (h:Own w base 2 ao n c (zs.map (Value.int .i64))) (hn:n≤5):
  Calls Try.prog 85 #[.slice ao n c, .int .i64 0, .int .i64 n] w fun e w'=>e= .returned (.tuple #[])∧Own w' base 2 ao n c ((bV zs).map (Value.int .i64))∧w.grownBy w' (bk ao):=by
 have hl:zs.length=n:=by have:=h.len;simpa using this
 have HL:=Lib.hid hl
 clear hl
 go_enter Try.func85,Try.ntmps85
 go_wp2
 go_loopw [6] (fun i wr=>∃(k:Nat) (cur:List Int),1≤k∧(k≤n∨k=1)∧i= .int .i64 k∧cur.length=n∧cur.Perm zs∧(∀x y,x < y→y < k→aC cur x≤aC cur y)∧Own wr base 2 ao n c (cur.map (Value.int .i64))∧w.grownBy wr (bk ao)) (fun i _=>n + 1 - (intOf i).toNat)
 case atStart=>exact ⟨1,zs,Nat.le_refl _, .inr rfl,rfl,HL.out,List.Perm.refl _,fun x y h1 h2=>by omega,h,World.grownBy.refl _ _⟩
 case round=>
  obtain ⟨k,cur,hk1,hk,rfl,hcl,hcp,hca,ho,hg⟩:=hrel
  have HC:=Lib.hid hcl
  have HP:=Lib.hid hcp
  have HA:=Lib.hid hca
  have HO:=Lib.hid ho
  have HG:=Lib.hid hg
  clear hcl hcp hca ho hg
  by_cases hlt:k < n
  ·go_wp2_with fail
   go_loopw [7] (fun i wr=>∃(j:Nat) (cur:List Int),j≤k∧i= .int .i64 j∧cur.length=n∧cur.Perm zs∧Dm cur k j∧Own wr base 2 ao n c (cur.map (Value.int .i64))∧w.grownBy wr (bk ao)) (fun i _=>(intOf i).toNat)
   case atStart=>exact ⟨k,cur,Nat.le_refl _,rfl,HC.out,HP.out,fun x y h1 h2 h3=>HA.out x y h1 (by omega),HO.out,HG.out⟩
   case round=>
    clear HC HP HA HO HG
    obtain ⟨j,cur,hj,rfl,hcl,hcp,hca,ho,hg⟩:=hrel
    have HC:=Lib.hid hcl
    have HP:=Lib.hid hcp
    have HA:=Lib.hid hca
    have HO:=Lib.hid ho
    have HG:=Lib.hid hg
    clear hcl hcp hca ho hg
    by_cases hj0:0 < j
    ·obtain ⟨i,hij⟩:∃i,j=i + 1:=⟨j - 1,by omega⟩
     obtain ⟨g,rfl, -,hgl, -, -, -⟩:=HO.out.form (by omega)
     have hjn:j < n:=by omega
     have hin:i < n:=by omega
     have hc1:=iV HO.out hjn
     have hc2:=iV HO.out hin
     have hS:∀w',Below wr.heap.size wr w'→(w'.cell? ⟨g,j,none⟩=some (.int .i64 (aC cur j))∧w'.cell? ⟨g,i,none⟩=some (.int .i64 (aC cur i))):=fun w' hb=>⟨(hb.cell (p:=⟨g,j,none⟩) (World.block_lt_of_cell? wr _ hc1)).trans hc1,(hb.cell (p:=⟨g,i,none⟩) (World.block_lt_of_cell? wr _ hc2)).trans hc2⟩
     have HS:=Lib.hid hS
     clear hS
     have e1:((j:Int) - 1)=(i:Int):=by omega
     have e2:IntKind.i64.wrap (i:Int)=(i:Int):=IntWalk.i64_in _ (by omega)
     have HIJ:=Lib.hid hij
     clear hij
     by_cases hlt2:aC cur j < aC cur i
     ·have HLT:=Lib.hid hlt2
      clear hlt2 hc1 hc2
      go_wp2_with fail
      (refine hJ (by kernel_rfl) (by kernel_rfl) ?_;(repeat (first | go_big_quiet_skip | (go_big_quiet_want;first | (go_big_quiet_op;go_big_quiet_on) | (apply mn;(· (intro _ hw;have f1:=(HS.out _ hw).1;have f0:=(HS.out _ hw).2;go_simp;exact rfl));go_simp;go_big_quiet_on) | (apply lh;(· (intro _ _;go_simp;exact ⟨rfl,rfl⟩));(· (intro _ hw;go_at_call 91;refine (tF _ _ _).mono ?_;rintro e w2 ⟨rfl,rfl⟩;rw [decide_eq_true HLT.out];exact ⟨rfl,hw⟩));go_simp;go_big_quiet_on))));refine wpQuiet_nil ?_;intro wq bq)
      have b3:=bq
      clear bq
      have ho:=HO.out.below b3
      have hg3:=fa HG.out (iy b3 (bk (some ⟨g,0,none⟩)))
      have HG3:=Lib.hid hg3
      have hc1:=iV ho hjn
      have hc2:=iV ho hin
      have hf1:=ho.1.frozenAt j
      have hf2:=ho.1.frozenAt i
      have ho1:Own wq.drew base 2 (some ⟨g,0,none⟩) n c (cur.map (Value.int .i64)):=ho
      obtain ⟨s1,t1⟩:=ho1.stored j (.int .i64 (aC cur i))
      obtain ⟨s2,t2⟩:=s1.stored i (.int .i64 (aC cur j))
      have S2:=Lib.hid s2
      have T1:=Lib.hid t1
      have T2:=Lib.hid t2
      clear s1 t1 s2 t2 ho1 ho hg3 b3
      go_wp2_with fail
      go_region
      go_wp2
      go_roundw
      case rel=>
       have hcl:=HC.out
       obtain rfl:=HIJ.out
       refine ⟨i,(cur.set (i + 1) (aC cur i)).set i (aC cur (i + 1)),by omega,by go_num,by simp [HC.out],(swap_perm cur i (by omega)).trans HP.out,yl (by omega) (by omega) HA.out HLT.out, ?_, ?_⟩
       ·rw [List.map_set,List.map_set];exact S2.out
       ·exact fa HG3.out (fa (⟨rfl,rfl,rfl,Nat.le_refl _,fun _ _ _=>rfl⟩:wq.grownBy wq.drew _) (fa T1.out T2.out))
      case measure=>have:=HIJ.out;simp [intOf];omega
     ·have HLT:=Lib.hid hlt2
      have hd:decide (aC cur j < aC cur i)=false:=decide_eq_false hlt2
      have HD:=Lib.hid hd
      clear hlt2 hc1 hc2 hd
      go_wp2_with fail
      (refine hJ (by kernel_rfl) (by kernel_rfl) ?_;(repeat (first | go_big_quiet_skip | (go_big_quiet_want;first | (go_big_quiet_op;go_big_quiet_on) | (apply mn;(· (intro _ hw;have f1:=(HS.out _ hw).1;have f0:=(HS.out _ hw).2;go_simp;exact rfl));go_simp;go_big_quiet_on) | (apply lh;(· (intro _ _;go_simp;exact ⟨rfl,rfl⟩));(· (intro _ hw;go_at_call 91;refine (tF _ _ _).mono ?_;rintro e w2 ⟨rfl,rfl⟩;rw [HD.out];exact ⟨rfl,hw⟩));go_simp;go_big_quiet_on))));refine wpQuiet_nil ?_;intro wq bq)
      go_wp2_with fail
      go_roundw
      case rel=>
       have hs:=tv HA.out (.inr (by have h1:=HIJ.out;have h2:=HLT.out;rw [show j - 1=i by omega];omega))
       exact ⟨k + 1,cur,by omega,by omega,by go_num,HC.out,HP.out,fun x y h1 h2=>hs x y h1 (by omega),HO.out.below bq,fa HG.out (iy bq _)⟩
      case measure=>simp [intOf];omega
    ·obtain rfl:j=0:=by omega
     go_wp2_with fail
     (refine hJ (by kernel_rfl) (by kernel_rfl) ?_;(repeat (first | go_big_quiet_skip | (go_big_quiet_want;first | (go_big_quiet_op;go_big_quiet_on) | (apply mn;(· (intro _ hw;skip;go_simp;exact rfl));go_simp;go_big_quiet_on) | (apply lh;(· (intro _ _;go_simp;exact ⟨rfl,rfl⟩));(· (intro _ hw;fail));go_simp;go_big_quiet_on))));refine wpQuiet_nil ?_;intro wq bq)
     go_wp2_with fail
     go_roundw
     case rel=>
      have hs:=tv HA.out (.inl rfl)
      exact ⟨k + 1,cur,by omega,by omega,by go_num,HC.out,HP.out,fun x y h1 h2=>hs x y h1 (by omega),HO.out.below bq,fa HG.out (iy bq _)⟩
     case measure=>simp [intOf];omega
  ·go_wp2
   go_end0
   have hs:cur=bV zs:=oQ HP.out (rD fun x y h1 h2=>HA.out x y h1 (by have:=HC.out;omega))
   exact ⟨rfl,by rw [←hs];exact HO.out,HG.out⟩
end Go.Proofs.Ytekbhbcgoadciaa
namespace Go.Proofs.Ytekbhbcgoadciaa
open Go.RowKit
set_option maxHeartbeats 800000 in
theorem AB (ao:Option Addr) (n c:Nat) (r:Int) (zs:List Int) (w:World) (base:Nat) (h:Own w base 2 ao n c (zs.map (Value.int .i64))) (hn:n≤5):
  Calls Try.prog 75 #[.slice ao n c, .int .i64 0, .int .i64 n, .int .i64 r] w fun e w'=>e= .returned (.tuple #[])∧Own w' base 2 ao n c ((bV zs).map (Value.int .i64))∧w.grownBy w' (bk ao):=by
 have h12:(n:Int)≤12:=by omega
 go_enter Try.func75,Try.ntmps75
 go_wp2_with fail
 go_loopw [1,2] (fun x y wr=>x= .int .i64 0∧y= .int .i64 n∧wr=w) (fun _ _ _=>0)
 case atStart=>exact ⟨rfl,rfl,rfl⟩
 case round=>
  obtain ⟨rfl,rfl,rfl⟩:=hrel
  go_wp2_with fail
  refine (pZ ao n c zs _ base h hn).mono ?_
  rintro e w1 ⟨rfl,ho,hg⟩
  go_wp2
  refine bodyPost_ret (results_none rfl _ _ _) rfl ?_
  exact ⟨rfl,ho,hg⟩
set_option maxHeartbeats 800000 in
theorem yE (ao:Option Addr) (n c:Nat) (zs:List Int) (w:World) (base:Nat) (h:Own w base 2 ao n c (zs.map (Value.int .i64))) (hn:n≤5):
  Calls Try.prog 56 #[.slice ao n c] w fun e w'=>e= .returned (.tuple #[])∧Own w' base 2 ao n c ((bV zs).map (Value.int .i64))∧w.grownBy w' (bk ao):=by
 have hw:IntKind.u64.wrap (n:Int)=(n:Int):=by simp [IntKind.wrap,IntKind.bits,IntKind.signed];omega
 go_enter Try.func56,Try.ntmps56
 go_wp2_with fail
 refine (AO n hn _).mono ?_
 rintro e w1 ⟨⟨r,rfl⟩,rfl⟩
 go_wp2_with fail
 refine (AB ao n c r zs _ base h hn).mono ?_
 rintro e w1 ⟨rfl,ho,hg⟩
 go_wp2
 go_end0
 exact ⟨rfl,ho,hg⟩
end Go.Proofs.Ytekbhbcgoadciaa
namespace Go.Proofs.Ytekbhbcgoadciaa
open Go.RowKit
section
variable {P:Program} {nt:Nat} {S:St} {t:Nat} {ty:TypeId} {ps:String} {af:Array Edge} {gd:Option (Nat×Bool)} {x y:Operand}
theorem b5 {T E n len m:Nat} {c:Ch} {zs ys:List Int} {b:A1} (ht:Nat.blt t nt=true) (hT:mY P T E 1=true) (hx:S.op x=some (o1 (.sl n 0 len))) (hc:S.ch n=some c) (hce:c=⟨true,E,1, .bG (aJ zs)⟩) (hl:zs.length=len)
  (hy:S.op y=some (o1 b)) (hr:Reads S b m 1 (aJ ys)) (hm:0 < m) (hb:len + m≤2199023255552):
  bQ P nt ⟨some t, .call { callee:= .builtin .append,args:= #[x,y],argTypes:= #[T,T] },ty,ps,af,gd⟩ S ((S.new n ⟨true,E,1, .bG (aJ (zs ++ ys))⟩).put t (o1 (.sl n 0 (len + m)))):=by
 have:=oM (P:=P) (nt:=nt) (ty:=ty) (ps:=ps) (af:=af) (gd:=gd) (vs:=aJ zs) (news:=aJ ys) (m:=m) (k:=1) ht hT rfl hx hc hce rfl (by rw [an];omega) hy hr hm (by intro v hv;simp [aJ] at hv;obtain ⟨a,_,rfl⟩:=hv;rfl) hb
 rw [Nat.zero_mul,List.drop_zero,show aJ zs ++ aJ ys=aJ (zs ++ ys) by simp [aJ]] at this
 exact this
end
abbrev Bx (zs:List Int) (mask:Nat):AV:= .tup [.one (.sl 2200 0 (eT (comps zs mask) (comps zs mask).length).length), .one (.val (I6 (CC zs mask:Nat))), .one (.val (.bool true))]
set_option maxRecDepth 100000 in
set_option maxHeartbeats 2000000 in
theorem xZ (zs:List Int) (L mask:Nat) (hL:zs.length=L) (hd:cf zs=true) (hmk:mask < 1000) (hf:iv zs mask=true):
  FC Try.prog 31 [(1003,de zs)] [o1 (.sl 1003 0 L),vv (I6 mask)] [(2200,bw (km zs mask))] (Bx zs mask) []:=by
 have h4:L≤4:=by have:=dz hd;omega
 have hC:=(tO zs L mask hL h4 hmk).nm [(1003,1003),(2000,15)] (by kernel_rfl)
 have hC:FC Try.prog 52 [(1003,de zs)] [o1 (.sl 1003 0 L),vv (I6 mask)] [(15,rK (comps zs mask))] (o1 (.sl 15 0 (comps zs mask).length)) []:=hC
 have hlab:∀k,k < (comps zs mask).length→mh (db (comps zs mask) k).2:=fun k hk=>kJ hd hk
 have hcs:fW (comps zs mask)≤5:=by have:=(jh zs mask).sum;omega
 have hnp:(comps zs mask).length≤5:=by have:=iu (comps zs mask);omega
 have hfa:=(nE (ps:=comps zs mask) (comps zs mask).length (Nat.le_refl _)).1 (by simpa [iv] using hf)
 have hcl:∀j,j≤(comps zs mask).length→(eT (comps zs mask) j).length≤5:=fun j hj=>Nat.le_trans (j9 hlab j hj) (Nat.le_trans (kH _ _) hcs)
 have hml:=fun j hj h5=>vC hlab (j:=j) hj h5
 unfold km Bx CC
 refine bc (nt:=42) Try.func31 rfl rfl (by simp) fun w0 ω0=> ?_
 generalize comps zs mask=ps at *
 generalize hN:ps.length=N at *
 have hmx:=nM ps
 rw [hN] at hmx
 (refine ah ?_;refine ab ?_;apply aa rfl;(exact ag rfl rfl);apply aa rfl;(exact ag rfl rfl);apply aa rfl;(exact ag rfl rfl);refine aj ?_;refine ai ?_;refine ah ?_;refine ab ?_;apply aa rfl;(exact ag rfl rfl);refine aj ?_;refine ai ?_;refine ah ?_;refine ab ?_;apply aa rfl;(exact ag rfl rfl);refine aj ?_;refine ai ?_;refine ah ?_;refine ah ?_;refine ab ?_;apply aa rfl;(exact ae rfl rfl);apply aa rfl;(exact ae rfl rfl);apply aa rfl;(apply ak 52;exact bz hC (by as_aux_lemma=>kernel_rfl) rfl rfl ⟨rfl,rfl,trivial⟩ ⟨⟨_,rfl, .inl rfl⟩,trivial⟩ rfl rfl rfl);apply aa rfl;(exact a8 rfl rfl rfl (by as_aux_lemma=>kernel_rfl));apply aa rfl;(exact ae rfl rfl);refine aj ?_;refine ai ?_;refine aB ?_)
 refine bl (fun j:Nat=>St.of [(7,o1 (.sl 2200 0 (eT ps j).length)),(8,vv (I6 (ju ps j:Nat))),(15,o1 (.sl 15 0 N)),(16,vv (I6 N)),(17,vv (I6 j))] [(15,rK ps),(2200,bw (eT ps j))]) (fun j=>j≤N) (fun j=>N - j) 0 (Nat.zero_le _) (Wk.trans (pj (t:=7) (n:=2200) (k:=1) (E:=2) (d:= .bG (aJ [])) rfl rfl) (Wk.of ⟨rfl,rfl,rfl,rfl,rfl,trivial⟩ ⟨rfl,rfl,trivial⟩ trivial)) ?_
 rintro j hj
 (refine ah ?_;refine ab ?_;apply aa rfl;(exact aD rfl rfl rfl rfl);refine aj ?_;refine ai ?_;refine ah ?_)
 refine bF rfl (fun hlt=> ?_) (fun hlt=> ?_)
 ·have hjN:j < N:=by omega
  have hjp:j < ps.length:=by omega
  have hL:=hlab j hjN
  have hne:=hfa j hjN
  have hagg:=sO hjp 15
  have hcel:=(kf hjp).2
  have hix:N * 2≤(fM ps).length:=Nat.le_of_eq hmx.symm
  have hcat:=jk hjp
  have hmul:=mE hjp
  have hc5:=hcl (j + 1) (by omega)
  have hm1:=hml j hj (by omega)
  have hm2:=hml (j + 1) (by omega) (by omega)
  generalize (db ps j).2=labs at *
  have hm4:=hL.1
  rcases vI (fM ps) ((db ps j).1:Int) (j * 2 + 1) labs.length labs hcel rfl hm4 with ⟨hnil,hD⟩ | ⟨hsome,hD⟩
  ·exact absurd (by rw [hnil];rfl) hne
  have hD:=hD.nm [(1000,15),(2100,22)] (by kernel_rfl)
  have hD:FC Try.prog 53 [(15,dS (fM ps))] [.s (.agg [.val (I6 ((db ps j).1:Int)), .esl 15 (j * 2 + 1) 0 labs.length])] [(22,bw (cX labs))] (o1 (.sl 22 0 (labs.length + 1))) []:=hD
  have hMx:=(vL (cX labs) (labs.length + 1) hsome (by omega) (by omega) (fun i hi=>sw hL i (by omega))).nm [(1005,22)] (by kernel_rfl)
  have htop:=sF hL hne
  rw [hsome] at htop
  have hMx:FC Try.prog 54 [(22,pG (cX labs))] [o1 (.sl 22 0 (labs.length + 1))] [] (vv (I6 (aC (cX labs) (labs.length + 1 - 1)))) []:=hMx
  rw [htop] at hMx
  have htp:=sr hL hne
  have htl:=rh hL
  have hG:=yI (ju ps j) (kM labs) (by omega) (by omega)
  have hgp:=tp (m:=ju ps j) htp
  rw [←vW] at hmul
  have hw:IntKind.i64.wrap (((ju ps j:Nat):Int) * ((kM labs / Nat.gcd (ju ps j) (kM labs):Nat):Int))=((ju ps (j + 1):Nat):Int):=by
   rw [←Int.natCast_mul,←hmul];exact IntWalk.i64_in _ (by omega)
  have hd0:0 < (aJ (cX labs)).length:=by rw [an];omega
  have hdl:(aJ (cX labs)).length=labs.length + 1:=by rw [an];exact hsome
  have hcl1:(eT ps j).length + (labs.length + 1)=(eT ps (j + 1)).length:=by rw [hcat,List.length_append,hsome]
  have hcb:(eT ps j).length + (labs.length + 1)≤2199023255552:=by omega
  have ht1:kM labs < 1000000000000:=by omega
  (refine aI ?_;refine ai ?_;refine ah ?_;refine aB ?_;refine ah ?_;refine ab ?_;apply aa rfl;(first | exact eA (k:=2) (j:=j) rfl rfl rfl rfl rfl (by as_aux_lemma=>kernel_rfl) rfl hjN hix (by omega) rfl | exact cR (k:=2) rfl rfl rfl rfl rfl (by as_aux_lemma=>kernel_rfl) hagg | (apply ak 53;exact bz hD (by as_aux_lemma=>kernel_rfl) rfl rfl ⟨⟨.inl rfl, .inl rfl,trivial⟩,trivial⟩ ⟨⟨_,rfl, .inr rfl⟩,trivial⟩ rfl rfl rfl) | exact fq (b:=false) rfl (by as_aux_lemma=>kernel_rfl) rfl rfl hd0 (.inl ⟨rfl,rfl⟩));apply aa rfl;(first | exact eA (k:=2) (j:=j) rfl rfl rfl rfl rfl (by as_aux_lemma=>kernel_rfl) rfl hjN hix (by omega) rfl | exact cR (k:=2) rfl rfl rfl rfl rfl (by as_aux_lemma=>kernel_rfl) hagg | (apply ak 53;exact bz hD (by as_aux_lemma=>kernel_rfl) rfl rfl ⟨⟨.inl rfl, .inl rfl,trivial⟩,trivial⟩ ⟨⟨_,rfl, .inr rfl⟩,trivial⟩ rfl rfl rfl) | exact fq (b:=false) rfl (by as_aux_lemma=>kernel_rfl) rfl rfl hd0 (.inl ⟨rfl,rfl⟩));apply aa rfl;(exact b7 [I6 0, .slice none 0 0] rfl (by as_aux_lemma=>kernel_rfl));apply aa rfl;(exact a6 rfl rfl rfl rfl rfl rfl rfl rfl (by as_aux_lemma=>kernel_rfl) rfl);refine aj ?_;refine ai ?_;refine ah ?_;refine ab ?_;apply aa rfl;(exact a3 rfl rfl rfl rfl rfl rfl (by as_aux_lemma=>kernel_rfl));apply aa rfl;(first | exact eA (k:=2) (j:=j) rfl rfl rfl rfl rfl (by as_aux_lemma=>kernel_rfl) rfl hjN hix (by omega) rfl | exact cR (k:=2) rfl rfl rfl rfl rfl (by as_aux_lemma=>kernel_rfl) hagg | (apply ak 53;exact bz hD (by as_aux_lemma=>kernel_rfl) rfl rfl ⟨⟨.inl rfl, .inl rfl,trivial⟩,trivial⟩ ⟨⟨_,rfl, .inr rfl⟩,trivial⟩ rfl rfl rfl) | exact fq (b:=false) rfl (by as_aux_lemma=>kernel_rfl) rfl rfl hd0 (.inl ⟨rfl,rfl⟩));apply aa rfl;(exact ag rfl rfl);refine aj ?_;refine ai ?_;refine ah ?_;refine ah ?_;refine ab ?_;apply aa rfl;(exact ae rfl rfl);apply aa rfl;(first | exact eA (k:=2) (j:=j) rfl rfl rfl rfl rfl (by as_aux_lemma=>kernel_rfl) rfl hjN hix (by omega) rfl | exact cR (k:=2) rfl rfl rfl rfl rfl (by as_aux_lemma=>kernel_rfl) hagg | (apply ak 53;exact bz hD (by as_aux_lemma=>kernel_rfl) rfl rfl ⟨⟨.inl rfl, .inl rfl,trivial⟩,trivial⟩ ⟨⟨_,rfl, .inr rfl⟩,trivial⟩ rfl rfl rfl) | exact fq (b:=false) rfl (by as_aux_lemma=>kernel_rfl) rfl rfl hd0 (.inl ⟨rfl,rfl⟩));refine aj ?_;refine ai ?_)
  refine au rfl (fun e=>by cases e) (fun _=> ?_)
  (refine aI ?_;refine ai ?_;refine ah ?_;refine ab ?_;apply aa rfl;(exact ae rfl rfl);apply aa rfl;(exact ae rfl rfl);apply aa rfl;(first | exact b5 (E:=2) rfl (by as_aux_lemma=>kernel_rfl) rfl rfl rfl rfl rfl (cj rfl rfl rfl hdl) (by omega) hcb | (apply ak 54;exact aq hMx (by as_aux_lemma=>kernel_rfl) rfl rfl ⟨rfl,trivial⟩ ⟨⟨_,rfl, .inr rfl⟩,trivial⟩ rfl rfl) | (apply ak 55;exact aq hG (by as_aux_lemma=>kernel_rfl) rfl rfl ⟨rfl,rfl,trivial⟩ trivial rfl rfl) | exact eS rfl rfl rfl hgp ht1 | exact c9 rfl rfl rfl hw);apply aa rfl;(exact ag rfl rfl);refine aj ?_;refine ai ?_;refine ah ?_;refine ab ?_;apply aa rfl;(exact ae rfl rfl);apply aa rfl;(first | exact b5 (E:=2) rfl (by as_aux_lemma=>kernel_rfl) rfl rfl rfl rfl rfl (cj rfl rfl rfl hdl) (by omega) hcb | (apply ak 54;exact aq hMx (by as_aux_lemma=>kernel_rfl) rfl rfl ⟨rfl,trivial⟩ ⟨⟨_,rfl, .inr rfl⟩,trivial⟩ rfl rfl) | (apply ak 55;exact aq hG (by as_aux_lemma=>kernel_rfl) rfl rfl ⟨rfl,rfl,trivial⟩ trivial rfl rfl) | exact eS rfl rfl rfl hgp ht1 | exact c9 rfl rfl rfl hw);apply aa rfl;(exact ag rfl rfl);refine aj ?_;refine ai ?_;refine ab ?_;apply aa rfl;(exact ae rfl rfl);apply aa rfl;(exact ae rfl rfl);apply aa rfl;(exact ae rfl rfl);apply aa rfl;(exact ae rfl rfl);apply aa rfl;(first | exact b5 (E:=2) rfl (by as_aux_lemma=>kernel_rfl) rfl rfl rfl rfl rfl (cj rfl rfl rfl hdl) (by omega) hcb | (apply ak 54;exact aq hMx (by as_aux_lemma=>kernel_rfl) rfl rfl ⟨rfl,trivial⟩ ⟨⟨_,rfl, .inr rfl⟩,trivial⟩ rfl rfl) | (apply ak 55;exact aq hG (by as_aux_lemma=>kernel_rfl) rfl rfl ⟨rfl,rfl,trivial⟩ trivial rfl rfl) | exact eS rfl rfl rfl hgp ht1 | exact c9 rfl rfl rfl hw);apply aa rfl;(first | exact b5 (E:=2) rfl (by as_aux_lemma=>kernel_rfl) rfl rfl rfl rfl rfl (cj rfl rfl rfl hdl) (by omega) hcb | (apply ak 54;exact aq hMx (by as_aux_lemma=>kernel_rfl) rfl rfl ⟨rfl,trivial⟩ ⟨⟨_,rfl, .inr rfl⟩,trivial⟩ rfl rfl) | (apply ak 55;exact aq hG (by as_aux_lemma=>kernel_rfl) rfl rfl ⟨rfl,rfl,trivial⟩ trivial rfl rfl) | exact eS rfl rfl rfl hgp ht1 | exact c9 rfl rfl rfl hw);apply aa rfl;(first | exact b5 (E:=2) rfl (by as_aux_lemma=>kernel_rfl) rfl rfl rfl rfl rfl (cj rfl rfl rfl hdl) (by omega) hcb | (apply ak 54;exact aq hMx (by as_aux_lemma=>kernel_rfl) rfl rfl ⟨rfl,trivial⟩ ⟨⟨_,rfl, .inr rfl⟩,trivial⟩ rfl rfl) | (apply ak 55;exact aq hG (by as_aux_lemma=>kernel_rfl) rfl rfl ⟨rfl,rfl,trivial⟩ trivial rfl rfl) | exact eS rfl rfl rfl hgp ht1 | exact c9 rfl rfl rfl hw);apply aa rfl;(exact ag rfl rfl);refine aj ?_;refine aK ?_;refine ai ?_;refine ab ?_;apply aa rfl;(exact aR rfl rfl rfl (by first | exact IntWalk.i64_in _ (by omega) | rfl));apply aa rfl;(exact ae rfl rfl);refine aj ?_)
  exact aX (j + 1) (by omega) (by omega) (Wk.of ⟨congrArg (fun z:Nat=>some (o1 (.sl 2200 0 z))) hcl1,rfl,rfl,rfl,rfl,trivial⟩ ⟨rfl,congrArg (fun z=>some (bw z)) hcat.symm,trivial⟩ trivial)
 ·obtain rfl:j=N:=by omega
  have hc5:=hcl j (Nat.le_refl _)
  (refine a5 ?_;refine ax ?_;refine ax ?_;refine aM ?_;refine ai ?_;refine ah ?_;refine ab ?_;apply aa rfl;(exact ae rfl rfl);apply aa rfl;(apply ak 56;exact lY (zs:=eT ps j) (zs':=bV (eT ps j)) rfl (by as_aux_lemma=>kernel_rfl) rfl rfl rfl (mI _) (by omega) (fun ao c w hO=>yE ao _ c _ w 0 hO hc5));refine aj ?_;refine ai ?_;refine ah ?_;refine ab ?_;apply aa rfl;(exact ae rfl rfl);apply aa rfl;(exact ae rfl rfl);apply aa rfl;(exact ag rfl rfl);apply aa rfl;(exact ag rfl rfl);apply aa rfl;(exact ag rfl rfl);refine aj ?_;refine ai ?_;refine aW ?_)
  exact s7 (.inl rfl) rfl (.tmp rfl) (.tmp rfl) (.tmp rfl) ⟨rfl,trivial⟩ trivial
abbrev Dp:AV:= .tup [.one (.val (.slice none 0 0)), .one (.val (I6 0)), .one (.val (.bool false))]
set_option maxRecDepth 100000 in
set_option maxHeartbeats 2000000 in
theorem y5 (zs:List Int) (L mask:Nat) (hL:zs.length=L) (hd:cf zs=true) (hmk:mask < 1000) (hf:iv zs mask=false):
  FC Try.prog 31 [(1003,de zs)] [o1 (.sl 1003 0 L),vv (I6 mask)] [] Dp []:=by
 have h4:L≤4:=by have:=dz hd;omega
 have hC:=(tO zs L mask hL h4 hmk).nm [(1003,1003),(2000,15)] (by kernel_rfl)
 have hC:FC Try.prog 52 [(1003,de zs)] [o1 (.sl 1003 0 L),vv (I6 mask)] [(15,rK (comps zs mask))] (o1 (.sl 15 0 (comps zs mask).length)) []:=hC
 have hlab:∀k,k < (comps zs mask).length→mh (db (comps zs mask) k).2:=fun k hk=>kJ hd hk
 have hcs:fW (comps zs mask)≤5:=by have:=(jh zs mask).sum;omega
 have hnp:(comps zs mask).length≤5:=by have:=iu (comps zs mask);omega
 have hfa:=nE (ps:=comps zs mask) (comps zs mask).length (Nat.le_refl _)
 have hfn:eQ (comps zs mask) (comps zs mask).length≠0:=by simpa [iv] using hf
 have hcl:∀j,j≤(comps zs mask).length→(eT (comps zs mask) j).length≤5:=fun j hj=>Nat.le_trans (j9 hlab j hj) (Nat.le_trans (kH _ _) hcs)
 have hml:=fun j hj h5=>vC hlab (j:=j) hj h5
 refine bc (nt:=42) Try.func31 rfl rfl (by simp) fun w0 ω0=> ?_
 generalize comps zs mask=ps at *
 generalize hN:ps.length=N at *
 have hmx:=nM ps
 rw [hN] at hmx
 (refine ah ?_;refine ab ?_;apply aa rfl;(exact ag rfl rfl);apply aa rfl;(exact ag rfl rfl);apply aa rfl;(exact ag rfl rfl);refine aj ?_;refine ai ?_;refine ah ?_;refine ab ?_;apply aa rfl;(exact ag rfl rfl);refine aj ?_;refine ai ?_;refine ah ?_;refine ab ?_;apply aa rfl;(exact ag rfl rfl);refine aj ?_;refine ai ?_;refine ah ?_;refine ah ?_;refine ab ?_;apply aa rfl;(exact ae rfl rfl);apply aa rfl;(exact ae rfl rfl);apply aa rfl;(apply ak 52;exact bz hC (by as_aux_lemma=>kernel_rfl) rfl rfl ⟨rfl,rfl,trivial⟩ ⟨⟨_,rfl, .inl rfl⟩,trivial⟩ rfl rfl rfl);apply aa rfl;(exact a8 rfl rfl rfl (by as_aux_lemma=>kernel_rfl));apply aa rfl;(exact ae rfl rfl);refine aj ?_;refine ai ?_;refine aB ?_)
 refine bl (fun j:Nat=>St.of [(7,o1 (.sl 2200 0 (eT ps j).length)),(8,vv (I6 (ju ps j:Nat))),(15,o1 (.sl 15 0 N)),(16,vv (I6 N)),(17,vv (I6 j))] [(15,rK ps),(2200,bw (eT ps j))]) (fun j=>j≤N∧∀k,k < j→(cX (db ps k).2).length≠0) (fun j=>N - j) 0 ⟨Nat.zero_le _,fun k hk=>absurd hk (by omega)⟩ (Wk.trans (pj (t:=7) (n:=2200) (k:=1) (E:=2) (d:= .bG (aJ [])) rfl rfl) (Wk.of ⟨rfl,rfl,rfl,rfl,rfl,trivial⟩ ⟨rfl,rfl,trivial⟩ trivial)) ?_
 rintro j ⟨hj,hal⟩
 (refine ah ?_;refine ab ?_;apply aa rfl;(exact aD rfl rfl rfl rfl);refine aj ?_;refine ai ?_;refine ah ?_)
 refine bF rfl (fun hlt=> ?_) (fun hlt=> ?_)
 ·have hjN:j < N:=by omega
  have hjp:j < ps.length:=by omega
  have hL:=hlab j hjN
  have hagg:=sO hjp 15
  have hcel:=(kf hjp).2
  have hix:N * 2≤(fM ps).length:=Nat.le_of_eq hmx.symm
  have hcat:=jk hjp
  have hmul:=mE hjp
  have hc5:=hcl (j + 1) (by omega)
  have hm1:=hml j hj (by omega)
  have hm2:=hml (j + 1) (by omega) (by omega)
  have hal':(cX (db ps j).2).length≠0→∀k,k < j + 1→(cX (db ps k).2).length≠0:=fun h1 k hk=>by
   by_cases e:k=j
   ·rw [e];exact h1
   ·exact hal k (by omega)
  obtain ⟨labs,hlb⟩:∃labs,(db ps j).2=labs:=⟨_,rfl⟩
  rw [hlb] at hL hagg hcel hcat hmul hal'
  have hm4:=hL.1
  rcases vI (fM ps) ((db ps j).1:Int) (j * 2 + 1) labs.length labs hcel rfl hm4 with ⟨hnil,hD⟩ | ⟨hsome,hD⟩
  ·have hD:=hD.nm [(1000,15)] (by kernel_rfl)
   have hD:FC Try.prog 53 [(15,dS (fM ps))] [.s (.agg [.val (I6 ((db ps j).1:Int)), .esl 15 (j * 2 + 1) 0 labs.length])] [] (vv (.slice none 0 0)) []:=hD
   (refine aI ?_;refine ai ?_;refine ah ?_;refine aB ?_;refine ah ?_;refine ab ?_;apply aa rfl;(first | exact eA (k:=2) (j:=j) rfl rfl rfl rfl rfl (by as_aux_lemma=>kernel_rfl) rfl hjN hix (by omega) rfl | exact cR (k:=2) rfl rfl rfl rfl rfl (by as_aux_lemma=>kernel_rfl) hagg | (apply ak 53;exact aq hD (by as_aux_lemma=>kernel_rfl) rfl rfl ⟨⟨.inl rfl, .inl rfl,trivial⟩,trivial⟩ ⟨⟨_,rfl, .inr rfl⟩,trivial⟩ rfl rfl) | exact jB (b:=true) rfl (by as_aux_lemma=>kernel_rfl) rfl (.inl ⟨rfl,rfl⟩));apply aa rfl;(first | exact eA (k:=2) (j:=j) rfl rfl rfl rfl rfl (by as_aux_lemma=>kernel_rfl) rfl hjN hix (by omega) rfl | exact cR (k:=2) rfl rfl rfl rfl rfl (by as_aux_lemma=>kernel_rfl) hagg | (apply ak 53;exact aq hD (by as_aux_lemma=>kernel_rfl) rfl rfl ⟨⟨.inl rfl, .inl rfl,trivial⟩,trivial⟩ ⟨⟨_,rfl, .inr rfl⟩,trivial⟩ rfl rfl) | exact jB (b:=true) rfl (by as_aux_lemma=>kernel_rfl) rfl (.inl ⟨rfl,rfl⟩));apply aa rfl;(exact b7 [I6 0, .slice none 0 0] rfl (by as_aux_lemma=>kernel_rfl));apply aa rfl;(exact a6 rfl rfl rfl rfl rfl rfl rfl rfl (by as_aux_lemma=>kernel_rfl) rfl);refine aj ?_;refine ai ?_;refine ah ?_;refine ab ?_;apply aa rfl;(exact a3 rfl rfl rfl rfl rfl rfl (by as_aux_lemma=>kernel_rfl));apply aa rfl;(first | exact eA (k:=2) (j:=j) rfl rfl rfl rfl rfl (by as_aux_lemma=>kernel_rfl) rfl hjN hix (by omega) rfl | exact cR (k:=2) rfl rfl rfl rfl rfl (by as_aux_lemma=>kernel_rfl) hagg | (apply ak 53;exact aq hD (by as_aux_lemma=>kernel_rfl) rfl rfl ⟨⟨.inl rfl, .inl rfl,trivial⟩,trivial⟩ ⟨⟨_,rfl, .inr rfl⟩,trivial⟩ rfl rfl) | exact jB (b:=true) rfl (by as_aux_lemma=>kernel_rfl) rfl (.inl ⟨rfl,rfl⟩));apply aa rfl;(exact ag rfl rfl);refine aj ?_;refine ai ?_;refine ah ?_;refine ah ?_;refine ab ?_;apply aa rfl;(exact ae rfl rfl);apply aa rfl;(first | exact eA (k:=2) (j:=j) rfl rfl rfl rfl rfl (by as_aux_lemma=>kernel_rfl) rfl hjN hix (by omega) rfl | exact cR (k:=2) rfl rfl rfl rfl rfl (by as_aux_lemma=>kernel_rfl) hagg | (apply ak 53;exact aq hD (by as_aux_lemma=>kernel_rfl) rfl rfl ⟨⟨.inl rfl, .inl rfl,trivial⟩,trivial⟩ ⟨⟨_,rfl, .inr rfl⟩,trivial⟩ rfl rfl) | exact jB (b:=true) rfl (by as_aux_lemma=>kernel_rfl) rfl (.inl ⟨rfl,rfl⟩));refine aj ?_;refine ai ?_)
   refine au rfl (fun _=> ?_) (fun e=>by cases e)
   (refine ah ?_;refine ab ?_;apply aa rfl;(exact ag rfl rfl);apply aa rfl;(exact ag rfl rfl);apply aa rfl;(exact ag rfl rfl);refine aj ?_;refine ai ?_;refine aW ?_;refine aT ?_;refine bj ?_;refine aT ?_;refine aT ?_;refine bj ?_;refine aT ?_)
   exact s7 (.inl rfl) rfl (.tmp rfl) (.tmp rfl) (.tmp rfl) trivial trivial
  have hne:(cX labs).length≠0:=by omega
  have hD:=hD.nm [(1000,15),(2100,22)] (by kernel_rfl)
  have hD:FC Try.prog 53 [(15,dS (fM ps))] [.s (.agg [.val (I6 ((db ps j).1:Int)), .esl 15 (j * 2 + 1) 0 labs.length])] [(22,bw (cX labs))] (o1 (.sl 22 0 (labs.length + 1))) []:=hD
  have hMx:=(vL (cX labs) (labs.length + 1) hsome (by omega) (by omega) (fun i hi=>sw hL i (by omega))).nm [(1005,22)] (by kernel_rfl)
  have htop:=sF hL hne
  rw [hsome] at htop
  have hMx:FC Try.prog 54 [(22,pG (cX labs))] [o1 (.sl 22 0 (labs.length + 1))] [] (vv (I6 (aC (cX labs) (labs.length + 1 - 1)))) []:=hMx
  rw [htop] at hMx
  have htp:=sr hL hne
  have htl:=rh hL
  have hG:=yI (ju ps j) (kM labs) (by omega) (by omega)
  have hgp:=tp (m:=ju ps j) htp
  rw [←vW] at hmul
  have hw:IntKind.i64.wrap (((ju ps j:Nat):Int) * ((kM labs / Nat.gcd (ju ps j) (kM labs):Nat):Int))=((ju ps (j + 1):Nat):Int):=by
   rw [←Int.natCast_mul,←hmul];exact IntWalk.i64_in _ (by omega)
  have hd0:0 < (aJ (cX labs)).length:=by rw [an];omega
  have hdl:(aJ (cX labs)).length=labs.length + 1:=by rw [an];exact hsome
  have hcl1:(eT ps j).length + (labs.length + 1)=(eT ps (j + 1)).length:=by rw [hcat,List.length_append,hsome]
  have hcb:(eT ps j).length + (labs.length + 1)≤2199023255552:=by omega
  have ht1:kM labs < 1000000000000:=by omega
  (refine aI ?_;refine ai ?_;refine ah ?_;refine aB ?_;refine ah ?_;refine ab ?_;apply aa rfl;(first | exact eA (k:=2) (j:=j) rfl rfl rfl rfl rfl (by as_aux_lemma=>kernel_rfl) rfl hjN hix (by omega) rfl | exact cR (k:=2) rfl rfl rfl rfl rfl (by as_aux_lemma=>kernel_rfl) hagg | (apply ak 53;exact bz hD (by as_aux_lemma=>kernel_rfl) rfl rfl ⟨⟨.inl rfl, .inl rfl,trivial⟩,trivial⟩ ⟨⟨_,rfl, .inr rfl⟩,trivial⟩ rfl rfl rfl) | exact fq (b:=false) rfl (by as_aux_lemma=>kernel_rfl) rfl rfl hd0 (.inl ⟨rfl,rfl⟩));apply aa rfl;(first | exact eA (k:=2) (j:=j) rfl rfl rfl rfl rfl (by as_aux_lemma=>kernel_rfl) rfl hjN hix (by omega) rfl | exact cR (k:=2) rfl rfl rfl rfl rfl (by as_aux_lemma=>kernel_rfl) hagg | (apply ak 53;exact bz hD (by as_aux_lemma=>kernel_rfl) rfl rfl ⟨⟨.inl rfl, .inl rfl,trivial⟩,trivial⟩ ⟨⟨_,rfl, .inr rfl⟩,trivial⟩ rfl rfl rfl) | exact fq (b:=false) rfl (by as_aux_lemma=>kernel_rfl) rfl rfl hd0 (.inl ⟨rfl,rfl⟩));apply aa rfl;(exact b7 [I6 0, .slice none 0 0] rfl (by as_aux_lemma=>kernel_rfl));apply aa rfl;(exact a6 rfl rfl rfl rfl rfl rfl rfl rfl (by as_aux_lemma=>kernel_rfl) rfl);refine aj ?_;refine ai ?_;refine ah ?_;refine ab ?_;apply aa rfl;(exact a3 rfl rfl rfl rfl rfl rfl (by as_aux_lemma=>kernel_rfl));apply aa rfl;(first | exact eA (k:=2) (j:=j) rfl rfl rfl rfl rfl (by as_aux_lemma=>kernel_rfl) rfl hjN hix (by omega) rfl | exact cR (k:=2) rfl rfl rfl rfl rfl (by as_aux_lemma=>kernel_rfl) hagg | (apply ak 53;exact bz hD (by as_aux_lemma=>kernel_rfl) rfl rfl ⟨⟨.inl rfl, .inl rfl,trivial⟩,trivial⟩ ⟨⟨_,rfl, .inr rfl⟩,trivial⟩ rfl rfl rfl) | exact fq (b:=false) rfl (by as_aux_lemma=>kernel_rfl) rfl rfl hd0 (.inl ⟨rfl,rfl⟩));apply aa rfl;(exact ag rfl rfl);refine aj ?_;refine ai ?_;refine ah ?_;refine ah ?_;refine ab ?_;apply aa rfl;(exact ae rfl rfl);apply aa rfl;(first | exact eA (k:=2) (j:=j) rfl rfl rfl rfl rfl (by as_aux_lemma=>kernel_rfl) rfl hjN hix (by omega) rfl | exact cR (k:=2) rfl rfl rfl rfl rfl (by as_aux_lemma=>kernel_rfl) hagg | (apply ak 53;exact bz hD (by as_aux_lemma=>kernel_rfl) rfl rfl ⟨⟨.inl rfl, .inl rfl,trivial⟩,trivial⟩ ⟨⟨_,rfl, .inr rfl⟩,trivial⟩ rfl rfl rfl) | exact fq (b:=false) rfl (by as_aux_lemma=>kernel_rfl) rfl rfl hd0 (.inl ⟨rfl,rfl⟩));refine aj ?_;refine ai ?_)
  refine au rfl (fun e=>by cases e) (fun _=> ?_)
  (refine aI ?_;refine ai ?_;refine ah ?_;refine ab ?_;apply aa rfl;(exact ae rfl rfl);apply aa rfl;(exact ae rfl rfl);apply aa rfl;(first | exact b5 (E:=2) rfl (by as_aux_lemma=>kernel_rfl) rfl rfl rfl rfl rfl (cj rfl rfl rfl hdl) (by omega) hcb | (apply ak 54;exact aq hMx (by as_aux_lemma=>kernel_rfl) rfl rfl ⟨rfl,trivial⟩ ⟨⟨_,rfl, .inr rfl⟩,trivial⟩ rfl rfl) | (apply ak 55;exact aq hG (by as_aux_lemma=>kernel_rfl) rfl rfl ⟨rfl,rfl,trivial⟩ trivial rfl rfl) | exact eS rfl rfl rfl hgp ht1 | exact c9 rfl rfl rfl hw);apply aa rfl;(exact ag rfl rfl);refine aj ?_;refine ai ?_;refine ah ?_;refine ab ?_;apply aa rfl;(exact ae rfl rfl);apply aa rfl;(first | exact b5 (E:=2) rfl (by as_aux_lemma=>kernel_rfl) rfl rfl rfl rfl rfl (cj rfl rfl rfl hdl) (by omega) hcb | (apply ak 54;exact aq hMx (by as_aux_lemma=>kernel_rfl) rfl rfl ⟨rfl,trivial⟩ ⟨⟨_,rfl, .inr rfl⟩,trivial⟩ rfl rfl) | (apply ak 55;exact aq hG (by as_aux_lemma=>kernel_rfl) rfl rfl ⟨rfl,rfl,trivial⟩ trivial rfl rfl) | exact eS rfl rfl rfl hgp ht1 | exact c9 rfl rfl rfl hw);apply aa rfl;(exact ag rfl rfl);refine aj ?_;refine ai ?_;refine ab ?_;apply aa rfl;(exact ae rfl rfl);apply aa rfl;(exact ae rfl rfl);apply aa rfl;(exact ae rfl rfl);apply aa rfl;(exact ae rfl rfl);apply aa rfl;(first | exact b5 (E:=2) rfl (by as_aux_lemma=>kernel_rfl) rfl rfl rfl rfl rfl (cj rfl rfl rfl hdl) (by omega) hcb | (apply ak 54;exact aq hMx (by as_aux_lemma=>kernel_rfl) rfl rfl ⟨rfl,trivial⟩ ⟨⟨_,rfl, .inr rfl⟩,trivial⟩ rfl rfl) | (apply ak 55;exact aq hG (by as_aux_lemma=>kernel_rfl) rfl rfl ⟨rfl,rfl,trivial⟩ trivial rfl rfl) | exact eS rfl rfl rfl hgp ht1 | exact c9 rfl rfl rfl hw);apply aa rfl;(first | exact b5 (E:=2) rfl (by as_aux_lemma=>kernel_rfl) rfl rfl rfl rfl rfl (cj rfl rfl rfl hdl) (by omega) hcb | (apply ak 54;exact aq hMx (by as_aux_lemma=>kernel_rfl) rfl rfl ⟨rfl,trivial⟩ ⟨⟨_,rfl, .inr rfl⟩,trivial⟩ rfl rfl) | (apply ak 55;exact aq hG (by as_aux_lemma=>kernel_rfl) rfl rfl ⟨rfl,rfl,trivial⟩ trivial rfl rfl) | exact eS rfl rfl rfl hgp ht1 | exact c9 rfl rfl rfl hw);apply aa rfl;(first | exact b5 (E:=2) rfl (by as_aux_lemma=>kernel_rfl) rfl rfl rfl rfl rfl (cj rfl rfl rfl hdl) (by omega) hcb | (apply ak 54;exact aq hMx (by as_aux_lemma=>kernel_rfl) rfl rfl ⟨rfl,trivial⟩ ⟨⟨_,rfl, .inr rfl⟩,trivial⟩ rfl rfl) | (apply ak 55;exact aq hG (by as_aux_lemma=>kernel_rfl) rfl rfl ⟨rfl,rfl,trivial⟩ trivial rfl rfl) | exact eS rfl rfl rfl hgp ht1 | exact c9 rfl rfl rfl hw);apply aa rfl;(exact ag rfl rfl);refine aj ?_;refine aK ?_;refine ai ?_;refine ab ?_;apply aa rfl;(exact aR rfl rfl rfl (by first | exact IntWalk.i64_in _ (by omega) | rfl));apply aa rfl;(exact ae rfl rfl);refine aj ?_)
  exact aX (j + 1) ⟨by omega,hal' hne⟩ (by omega) (Wk.of ⟨congrArg (fun z:Nat=>some (o1 (.sl 2200 0 z))) hcl1,rfl,rfl,rfl,rfl,trivial⟩ ⟨rfl,congrArg (fun z=>some (bw z)) hcat.symm,trivial⟩ trivial)
 ·obtain rfl:j=N:=by omega
  exact absurd (hfa.2 hal) hfn
end Go.Proofs.Ytekbhbcgoadciaa
