/- A memory of names: mixed vectors: structs with slices in them, and rows of structs. No program in sight. -/
import Derived.Test.YtekbhbcgoadciaaPart4
import Derived.Test.YtekbhbcgoadciaaPart2
import Derived.Test.YtekbhbcgoadciaaProg
import Derived.RegionTactic
import Derived.Test.YtekbhbcgoadciaaPart1
import Derived.BigQuiet
namespace Go.Proofs.Ytekbhbcgoadciaa
open Go.RowKit
section
variable {P:Program} {nt:Nat} {S S1 S2:St} {w0 w:World} {ω0:kd} {ω:bE} {η:Env} {a:Act} {Q:Exit→Act→World→Prop} {ops:Array Oper} {rest:List Oper}
variable {t:Nat} {ty:TypeId} {ps:String} {af:Array Edge} {gd:Option (Nat×Bool)} {x y:Operand} {av:AV} {o:Oper}
theorem mH {T:TypeId} {n:Nm} {i:Nat} {c:Ch} {cs:List jG} {v:Value} (ht:Nat.blt t nt=true) (hT:mC P T=true) (hx:S.op x=some (o1 (.ptr n i))) (hc:S.ch n=some c) (hd:c.d= .mix cs) (hv:cs[i]? =some (.v v)):
  bQ P nt ⟨some t, .load T x,ty,ps,af,gd⟩ S (S.put t (vv v)):=ko ht hT hx hc (by rw [hd];simp only [dQ.at_,hv])
theorem jN {T:TypeId} {n:Nm} {i F k m:Nat} {c:Ch} {cs:List jG} {vs:List Value} (ht:Nat.blt t nt=true) (hT:mC P T=true) (hx:S.op x=some (o1 (.ptr n i))) (hc:S.ch n=some c) (hd:c.d= .mix cs) (hv:cs[i]? =some (.r F k m vs)):
  bQ P nt ⟨some t, .load T x,ty,ps,af,gd⟩ S (S.put t (o1 (.esl n i 0 m))):=ko ht hT hx hc (by rw [hd];simp only [dQ.at_,hv])
theorem cR {T:TypeId} {n:Nm} {i k:Nat} {c:Ch} {l:List A1} (ht:Nat.blt t nt=true) (hx:S.op x=some (o1 (.ptr n i))) (hc:S.ch n=some c) (hl:l.length=k) (hk0:Nat.blt 0 k=true) (hT:rA P T k=true)
  (ha:∀(j:Nat) (b:A1),l[j]? =some b→c.d.at_ n (i + j)=some b):bQ P nt ⟨some t, .load T x,ty,ps,af,gd⟩ S (S.put t (.s (.agg l))):=
 bQ.pure rfl ht fun _ _ η ω a w hs=>by
  obtain ⟨h,e1,e2,e3⟩:=hs.chunk hc
  have hp:cq η (.ptr n i) (a.eval x):=hs.gk hx
  obtain ⟨b,o,g1,g2⟩:=hp.2 h e1
  have key:∀j (hj:j < k),∃u,w.cell? ⟨b,o + i + j,none⟩=some u∧∀b1,l[j]? =some b1→cq η b1 u:=fun j hj=>by
   have hlj:l[j]? =some l[j]:=List.getElem?_eq_getElem (by omega)
   obtain ⟨b',o',u,f1,f2,f3⟩:=e3.get (j:=i + j) (dQ.y7 (ha j _ hlj))
   rw [g1] at f1;injection f1 with f1;injection f1 with f1 f1';subst f1 f1'
   exact ⟨u,by rw [Nat.add_assoc];exact f2,fun b1 hb1=>vm f3 (ha j b1 hb1)⟩
  refine ⟨.agg ((List.range k).map fun j=>(w.cell? ⟨b,o + i + j,none⟩).getD undef).toArray, ?_,⟨_,rfl,by simp;omega,fun j b1 hb1=> ?_⟩⟩
  ·have:=m0 (P:=P) (w:=w) hT (b:=b) (o:=o + i) (us:=(List.range k).map fun j=>(w.cell? ⟨b,o + i + j,none⟩).getD undef) (by simp) fun j u hu=>by
    rw [List.getElem?_map,Option.map_eq_some_iff] at hu
    obtain ⟨j',hj',rfl⟩:=hu
    have hjk:j < k:=by have:=(List.getElem?_eq_some_iff.1 hj').1;simpa using this
    rw [List.getElem?_range hjk] at hj'
    obtain rfl:=Option.some.inj hj'
    obtain ⟨u,hu,_⟩:=key j hjk
    rw [hu];rfl
   simp [execOp,g2,Instr.loadAt,Instr.sureAddr,this]
  ·have hjk:j < k:=by rw [←hl];exact (List.getElem?_eq_some_iff.1 hb1).1
   obtain ⟨u,hu,hdu⟩:=key j hjk
   exact ⟨u,by simp [hjk,hu],hdu b1 hb1⟩
theorem uN {T:TypeId} {n:Nm} {i:Nat} {c:Ch} {cs:List jG} {v v0:Value} (hx:S.op x=some (o1 (.ptr n i))) (hy:S.op y=some (vv v)) (hc:S.ch n=some c) (hown:c.own=true) (hd:c.d= .mix cs) (hi:cs[i]? =some (.v v0)) (hT:gV P T 1=true) (h1:v.oneCell'=true):
  bQ P nt ⟨none, .store T x y,ty,ps,af,gd⟩ S (S.set n { c with d:= .mix (cs.set i (.v v)) }):=
 have hil:i < cs.length:=(List.getElem?_eq_some_iff.1 hi).1
 bQ.unit rfl fun w0 ω0 η ω a w hs=>by
  have hb:a.eval y=v:=hs.fL hy
  obtain ⟨w',k1,k2⟩:=hs.uT (P:=P) (T:=T) (v:=v) (d':= .mix (cs.set i (.v v))) (hs.gk hx) hc hown (by rw [hd];exact hil) hT h1 (by rw [hd];simp [dQ.len])
   (fun w' j u hj hk=>by rw [hd] at hk;exact ⟨hk.1,fun c hc'=>by rw [List.getElem?_set_ne (fun e=>hj e.symm)] at hc';exact hk.2 c hc'⟩)
   (fun w'=>⟨h1,fun c hc'=>by rw [List.getElem?_set_self hil] at hc';obtain rfl:=Option.some.inj hc';exact rfl⟩)
  exact ⟨w',by simp [execOp,hb,k1],_,_,k2⟩
def oE:jG→Value→Prop
 | .v y,u=>u=y
 | .r _ _ m vs,u=>m=0∧vs= []∧u= .slice none 0 0
 | .any,_=>True
def C6:jG→Nat
 | .r _ k _ _=>k
 | _=>1
theorem oE.ok {own:Bool} {n:Nm} {j:Nat} {c:jG} {u:Value} (hr:η.r n j=⟨none,0,C6 c⟩) (h:oE c u):jd η ω w true n j c u:=by
 cases c with
 | v y=>exact h
 | any=>trivial
 | r F k m vs=>
  obtain ⟨rfl,rfl,rfl⟩:=h
  refine ⟨by simp,by rw [hr],by rw [hr];rfl, ?_⟩
  rw [hr]
  exact .inl ⟨rfl,rfl,rfl⟩
theorem gM {T E k n len m:Nat} {cs cn:List jG} {news:List Value} {b:A1} (ht:Nat.blt t nt=true) (hT:mY P T E k=true) (hk0:Nat.blt 0 k=true) (hx:S.op x=some (o1 (.sl n 0 len))) (hc:S.ch n=some ⟨true,E,k, .mix cs⟩) (hl:cs.length=len * k)
  (hy:S.op y=some (o1 b)) (hr:Reads S b m k news) (hm:0 < m) (h1:∀v∈news,v.oneCell'=true) (hcn:cn.length=news.length) (hcel:∀(j:Nat) c u,cn[j]? =some c→news[j]? =some u→oE c u) (hb:len + m≤2199023255552):
  bQ P nt ⟨some t, .call { callee:= .builtin .append,args:= #[x,y],argTypes:= #[T,T] },ty,ps,af,gd⟩ S ((S.new n ⟨true,E,k, .mix (cs ++ cn)⟩).put t (o1 (.sl n 0 (len + m)))):=
 bQ.of _ fun w0 ω0 η ω a w hs=>by
  have hk0':0 < k:=by simpa using hk0
  obtain ⟨hd,e1,e2,e3⟩:=hs.chunk hc
  have e3:dh ω w (n,none) hd E cs.length (bW η ω w true n (.mix cs)):=e3
  have hu:cq η (.sl n 0 len) (a.eval x):=hs.gk hx
  obtain ⟨ad,cp,r1,r2⟩:=hr.go hs (hs.gk hy)
  have hnl:=hr.len
  have hn0:0 < news.length:=by rw [hnl];exact Nat.mul_pos hm hk0'
  obtain ⟨bb,o,r3,_⟩:=r2 0 _ (List.getElem?_eq_getElem hn0)
  subst r3
  obtain ⟨h',w',k1,k2⟩:=iI (P:=P) (ty:=ty) (c:=cp) hT hk0' e2 e3 (hu.2 hd e1) rfl (by rw [Nat.zero_add];exact hl.symm) hm hnl (a:=⟨bb,o,none⟩) (fun j v hj=>by
   obtain ⟨b2,o2,h2,h3⟩:=r2 j v hj
   simp only [Option.some.injEq,Addr.mk.injEq,and_true] at h2
   obtain ⟨rfl,rfl⟩:=h2
   rw [Addr.add_lit];exact h3) h1 hb
  refine ⟨.slice h'.ao (len + m) h'.c,w',by simp [execOp,resolve,invoke,builtin,r1,k1], ?_⟩
  have hlen:(cs ++ cn).length=len * k + news.length:=by rw [List.length_append,hl,hcn]
  let r':Nat→Hd:=fun j=>if j < cs.length then η.r n j else ⟨none,0,C6 (cn.getD (j - cs.length) .any)⟩
  have hS:(S.rm n).ch n=none:=by simp [eH]
  have:=hs.renew (n:=n) (c:=⟨true,E,k, .mix (cs ++ cn)⟩) (hd:=h') (r:=r') (jx hS k2) ⟨k2.k_,by
   obtain ⟨b',o',cs',v1,v2,v3,v4,v5,v6,v7,v8⟩:=k2.vec
   refine .inr ⟨b',o',cs',v1,v2,v3,by rw [k2.k_];exact v4,by rw [k2.k_];show (cs ++ cn).length≤_;rw [hlen];exact v5,v6,fun j hj=> ?_⟩
   have hj:j < (cs ++ cn).length:=hj
   rw [hlen] at hj
   by_cases hlt:j < len * k
   ·obtain ⟨u,q1,q2⟩:=v7 j hlt
    rw [Nat.zero_mul,Nat.zero_add] at q2
    refine ⟨u,q1,q2.1,fun c hc=> ?_⟩
    rw [List.getElem?_append_left (by omega)] at hc
    have hv:∀(F:TypeId) (vs:List Value),dh ω w (n,some j) (η.r n j) F vs.length (fun i u=>vs[i]? =some u)→dh (bE.new ω w.heap.size (n,none)) w' (n,some j) (η.r n j) F vs.length (fun i u=>vs[i]? =some u):=fun F vs f3=>
     dh.same (fun b hb ho=>⟨k2.other b hb (by rw [ho];simp),by simp [bE.new,Nat.ne_of_lt hb,ho]⟩) (fun _ _ h=>h) f3
    exact jd.move (own:=true) (own':=true) (by simp [Env.new,r',hl,hlt]) (fun F k m vs _ f3=>hv F vs f3) (q2.2 c hc)
   ·have hj2:j - len * k < news.length:=by omega
    have hnj:news[j - len * k]? =some news[j - len * k]:=List.getElem?_eq_getElem hj2
    refine ⟨news[j - len * k], ?_,h1 _ (List.getElem_mem hj2),fun c hc=> ?_⟩
    ·have:=v8 (j - len * k) _ hnj
     rw [show o' + len * k + (j - len * k)=o' + j by omega] at this;exact this
    ·rw [List.getElem?_append_right (by omega),hl] at hc
     refine oE.ok (own:=true) ?_ (hcel _ _ _ hc hnj)
     simp only [Env.new,if_true,r',hl,if_neg hlt,List.getD,hc,Option.getD_some]⟩
  exact ⟨_,_,this.eY (by simpa using ht) kD⟩
theorem gN {n i z k kk m:Nat} {E F s:Nat} {cs:List jG} {vs:List Value} (hc:S.ch n=some ⟨true,E,kk, .mix cs⟩) (hs0:S.sl s=some (o1 (.esl n i 0 m))) (hi:cs[i]? =some (.r F k m vs)) (hzn:Nat.beq z n=false):
  Wk S ((((S.mJ n).set n ⟨true,E,kk, .mix (cs.set i .any)⟩).new z ⟨true,F,k, .bG vs⟩).put s (o1 (.sl z 0 m))):=by
 have hne:z≠n:=fun e=>by rw [e] at hzn;simp at hzn
 refine ⟨fun w0 ω0 nt a w ⟨η,ω,h⟩=> ?_⟩
 obtain ⟨u,hu,hdu⟩:=h.slots s _ hs0
 have hdu:cq η (.esl n i 0 m) u:=hdu
 obtain ⟨hd,e1,e2,e3⟩:=h.chunk hc
 have e3:dh ω w (n,none) hd E cs.length (bW η ω w true n (.mix cs)):=e3
 obtain ⟨ao,rfl,q1,_⟩:=hdu.2 hd e1
 have hil:i < cs.length:=(List.getElem?_eq_some_iff.1 hi).1
 obtain ⟨b0,o0,u0,_,_,g3⟩:=j6.get (own:=true) e3 hil
 obtain ⟨r0,r1,r2,r3⟩:=g3.2 _ hi
 have r3:dh ω w (n,some i) (η.r n i) F vs.length fun j u=>vs[j]? =some u:=r3
 let ω':bE:=fun b=>if ω b=some (n,some i) then some (z,none) else ω b
 have calm:Calm (S.rm n) ω w ω' w:=⟨rfl,rfl,rfl,Nat.le_refl _,fun b _ hl=>⟨rfl,by
  have h1:ω b≠some (n,some i):=by
   rcases hl with h0 | ⟨y,j,c,h0,h1⟩
   ·rw [h0];simp
   ·rw [h0];intro e;simp at e;rw [e.1,eH,if_pos rfl] at h1;cases h1
  exact if_neg h1⟩⟩
 have key:dC { η with r:=fun y j=>if y=n then η.r n j else η.r y j } ω' w n hd ⟨true,E,kk, .mix (cs.set i .any)⟩:=by
  refine ⟨e2, ?_⟩
  rcases e3 with h0 | ⟨b,o,xs0,f1,f2,f3,f4,f5,f6,f7⟩
  ·exact .inl (by simpa [dQ.len] using h0)
  ·refine .inr ⟨b,o,xs0,f1,(if_neg (by rw [f2];simp)).trans f2,f3,f4,by simpa [dQ.len] using f5,f6,fun j hj=> ?_⟩
   have hj:j < cs.length:=by simpa [dQ.len] using hj
   obtain ⟨u',hu',hk⟩:=f7 j hj
   refine ⟨u',hu',hk.1,fun c hc'=> ?_⟩
   by_cases e:j=i
   ·subst e;rw [List.getElem?_set_self hil] at hc';obtain rfl:=Option.some.inj hc';trivial
   ·rw [List.getElem?_set_ne (fun e'=>e e'.symm)] at hc'
    have hv:∀(F:TypeId) (vs:List Value),dh ω w (n,some j) (η.r n j) F vs.length (fun i u=>vs[i]? =some u)→dh ω' w (n,some j) (η.r n j) F vs.length (fun i u=>vs[i]? =some u):=fun F vs f3=>
     dh.same (fun b2 _ ho=>⟨rfl,by show (if ω b2=some (n,some i) then some (z,none) else ω b2)=_;rw [if_neg (by rw [ho];simpa using e)];exact ho⟩) (fun _ _ h=>h) f3
    exact jd.move (own:=true) (own':=true) (if_pos rfl) (fun F k m vs _ f3=>hv F vs f3) (hk.2 c hc')
 have h1:=h.rewrite (n:=n) (r:=η.r n) e1 calm key
 have h2:=h1.lay (x:=z) (c:=⟨true,F,k, .bG vs⟩) (hd:=η.r n i) (r:=fun _=>⟨none,0,1⟩) (Calm.refl _ _ _) ⟨r2,by
  show dh ω' w (z,none) (η.r n i) F vs.length _
  rcases r3 with h0 | ⟨b,o,xs0,f1,f2,f3,f4,f5,f6,f7⟩
  ·exact .inl h0
  ·exact .inr ⟨b,o,xs0,f1,if_pos f2,f3,f4,f5,f6,f7⟩⟩
 refine ⟨_,ω', { h2 with slots:=fun t' av ht'=> ?_ }⟩
 rw [gy] at ht'
 by_cases e:t'=s
 ·subst e
  rw [if_pos rfl] at ht'
  obtain rfl:=Option.some.inj ht'
  refine ⟨_,hu,⟨_,_,rfl⟩,fun hd' he=> ?_⟩
  simp [Env.new] at he
  subst he
  exact ⟨_,rfl,fun _=>q1 rfl,fun h0=>absurd h0 (by omega)⟩
 ·rw [if_neg e] at ht'
  exact h2.slots t' av ht'
theorem fv {T E F n i z k kk m:Nat} {cs:List jG} {vs:List Value} (hx:S.op x=some (o1 (.ptr n i))) (hc:S.ch n=some ⟨true,E,kk, .mix cs⟩) (hy:S.op y=some (o1 (.sl z 0 m))) (hz:S.ch z=some ⟨true,F,k, .bG vs⟩)
  (hm:vs.length=m * k) (hzn:Nat.beq z n=false) (hi:i < cs.length) (hT:gV P T 1=true):bQ P nt ⟨none, .store T x y,ty,ps,af,gd⟩ S (((S.rm z).mJ n).set n ⟨true,E,kk, .mix (cs.set i (.r F k m vs))⟩):=
 bQ.unit rfl fun w0 ω0 η ω a w hs=>by
  have hne:z≠n:=fun e=>by rw [e] at hzn;simp at hzn
  have hp:cq η (.ptr n i) (a.eval x):=hs.gk hx
  have hv:cq η (.sl z 0 m) (a.eval y):=hs.gk hy
  obtain ⟨h,e1,e2,e3⟩:=hs.chunk hc
  obtain ⟨hz',z1,z2,z3⟩:=hs.chunk hz
  have z2:hz'.k=k:=z2
  have z3:dh ω w (z,none) hz' F vs.length (bW η ω w true z (.bG vs)):=z3
  obtain ⟨az,hav,q1,_⟩:=hv.2 hz' z1
  obtain ⟨b,o,g1,g2⟩:=hp.2 h e1
  have e3:dh ω w (n,none) h E cs.length (bW η ω w true n (.mix cs)):=e3
  rcases e3 with ⟨_,_,h0⟩ | ⟨b',o',xs0,f1,f2,f3,f4,f5,f6,f7⟩
  ·omega
  rw [g1] at f1;injection f1 with f1;injection f1 with f1 f1';subst f1 f1'
  obtain ⟨u,hu,_⟩:=f7 i hi
  have hcell:w.cell? ⟨b,o + i,none⟩=some u:=by rw [cell_of_row w b (o + i) xs0 E (0,0) f3];exact hu
  have hsz:o + i < xs0.size:=by
   rcases Nat.lt_or_ge (o + i) xs0.size with hlt | hge
   ·exact hlt
   ·rw [Array.getElem?_eq_none hge] at hu;cases hu
  have hS:((S.rm z).rm n).ch n=none:=by simp [eH]
  have hSz:((S.rm z).rm n).ch z=none:=by simp [eH,hne]
  have hsame:=gL (w:=w) f2 ⟨b,o + i,none⟩ rfl (.slice az m (hz'.c - 0))
  have calm:Calm ((S.rm z).rm n) ω w (bE.iB ω z n i) (w.setCell ⟨b,o + i,none⟩ (.slice az m (hz'.c - 0))):=⟨rfl,rfl,rfl,hsame.1,fun b2 hb2 hl=>by
   have h1:ω b2≠some (n,none)∧ω b2≠some (z,none):=by
    rcases hl with h0 | ⟨y,j,c,h0,h1⟩
    ·rw [h0];simp
    ·rw [h0]
     refine ⟨fun e=> ?_,fun e=> ?_⟩
     ·simp at e;rw [e.1,hS] at h1;cases h1
     ·simp at e;rw [e.1,hSz] at h1;cases h1
   exact ⟨(hsame.2 b2 hb2 h1.1).1,if_neg h1.2⟩⟩
  have key:dC { η.drop z with r:=fun y j=>if y=n then (if j=i then hz' else η.r n j) else η.r y j } (bE.iB ω z n i) (w.setCell ⟨b,o + i,none⟩ (.slice az m (hz'.c - 0))) n h ⟨true,E,kk, .mix (cs.set i (.r F k m vs))⟩:=by
   refine ⟨e2, ?_⟩
   have hbz:ω b≠some (z,none):=by rw [f2];simp;exact fun e=>hne e.symm
   refine .inr ⟨b,o,_,g1,(if_neg hbz).trans f2,heap_set f3 _,by simpa using f4,by show (cs.set i _).length≤_;rw [List.length_set];exact f5,f6,fun j hj=> ?_⟩
   have hj:j < cs.length:=by simpa [dQ.len] using hj
   by_cases e:j=i
   ·subst e
    refine ⟨.slice az m (hz'.c - 0),by simp [hsz],rfl,fun c hc'=> ?_⟩
    rw [List.getElem?_set_self hi] at hc'
    obtain rfl:=Option.some.inj hc'
    unfold jd
    simp only [if_true]
    refine ⟨hm,by rw [q1 rfl];rfl,z2,dh.iB z3 fun b2 hb2 ho=>⟨(hsame.2 b2 hb2 (by rw [ho];simp;exact fun e=>absurd e hne)).1,if_pos ho⟩⟩
   ·obtain ⟨u',hu',hk⟩:=f7 j hj
    refine ⟨u',by rw [Array.getElem?_setIfInBounds_ne (by omega)];exact hu',hk.1,fun c hc'=> ?_⟩
    rw [List.getElem?_set_ne (fun e'=>e e'.symm)] at hc'
    have hv:∀(F:TypeId) (vs:List Value),dh ω w (n,some j) (η.r n j) F vs.length (fun i u=>vs[i]? =some u)→dh (bE.iB ω z n i) (w.setCell ⟨b,o + i,none⟩ (.slice az m (hz'.c - 0))) (n,some j) (η.r n j) F vs.length (fun i u=>vs[i]? =some u):=fun F vs r3=>
     dh.same (fun b2 hb2 ho=>⟨(hsame.2 b2 hb2 (by rw [ho];simp)).1,by unfold bE.iB;rw [if_neg (by rw [ho];simp)];exact ho⟩) (fun _ _ h=>h) r3
    exact jd.move (own:=true) (own':=true) (by simp only [if_true,if_neg e]) (fun F k m vs _ f3=>hv F vs f3) (hk.2 c hc')
  have hfin:=(hs.drop z).rewrite (n:=n) (r:=fun j=>if j=i then hz' else η.r n j) (hd:=h) (by show (if n=z then none else η.h n)=some h;rw [if_neg (fun e=>hne e.symm)];exact e1) calm key
  have hst:=jM (P:=P) hT hcell (kG f3) (v:= .slice az m (hz'.c - 0)) rfl
  simp only [Nat.sub_zero] at hst hfin
  refine ⟨_,by simp [execOp,hav,g2,hst],_,_,hfin⟩
theorem da {T:TypeId} {n:Nm} {i0 len j k m:Nat} {c:Ch} {F:TypeId} {cs:List jG} {vs:List Value} {ki:IntKind} {i:Int} (ht:Nat.blt t nt=true) (hx:S.op x=some (o1 (.esl n i0 0 len))) (hy:S.op y=some (vv (.int ki i))) (hc:S.ch n=some c) (hd:c.d= .mix cs) (hT:jQ P T k=true)
  (hi0:cs[i0]? =some (.r F k m vs)) (hk0:0 < k) (hi:i=(j:Int)) (hj:j < len) (hl:len≤m):bQ P nt ⟨some t, .indexAddr T x y,ty,ps,af,gd⟩ S (S.put t (o1 (.eptr n i0 (j * k)))):=
 bQ.pure rfl ht fun _ _ η ω a w hs=>by
  obtain ⟨hd',h1,h2,h3⟩:=hs.chunk hc
  have hd1:cq η (.esl n i0 0 len) (a.eval x):=hs.gk hx
  obtain ⟨ao,e1,e2,e3⟩:=hd1.2 hd' h1
  rw [hd] at h3
  obtain ⟨_,_,_,_,_,k3⟩:=h3.get (j:=i0) (List.getElem?_eq_some_iff.1 hi0).1
  obtain ⟨q0,_,q2,q3⟩:=k3.2 _ hi0
  have hm0:0 < vs.length:=by rw [q0];exact Nat.mul_pos (by omega) hk0
  obtain ⟨b',o',u,f1,f2,f3⟩:=q3.get hm0
  have hao:ao=some ⟨b',o',none⟩:=by rw [e2 rfl,f1]
  subst hao
  refine ⟨.pointer (some ⟨b',o' + j * k,none⟩),by simp only [execOp,e1,hs.fL hy];simp [iP hT hj hi],⟨_,rfl⟩,fun hd' he=> ?_⟩
  rw [h1] at he;obtain rfl:=Option.some.inj he
  exact ⟨b',o',f1,rfl⟩
theorem bX {T:TypeId} {n:Nm} {i j k m:Nat} {c:Ch} {F:TypeId} {cs:List jG} {vs:List Value} {v:Value} (ht:Nat.blt t nt=true) (hT:mC P T=true) (hx:S.op x=some (o1 (.eptr n i j))) (hc:S.ch n=some c)
  (hd:c.d= .mix cs) (hi:cs[i]? =some (.r F k m vs)) (hj:vs[j]? =some v):bQ P nt ⟨some t, .load T x,ty,ps,af,gd⟩ S (S.put t (vv v)):=
 bQ.pure rfl ht fun _ _ η ω a w hs=>by
  obtain ⟨hq,h1,_,h3⟩:=hs.chunk hc
  have hd1:cq η (.eptr n i j) (a.eval x):=hs.gk hx
  obtain ⟨bb,o,e1,e2⟩:=hd1.2 hq h1
  rw [hd] at h3
  obtain ⟨_,_,_,_,_,f3⟩:=h3.get (j:=i) (List.getElem?_eq_some_iff.1 hi).1
  obtain ⟨_,_,_,g3⟩:=f3.2 _ hi
  obtain ⟨b'',o'',u',k1,k2,k3⟩:=g3.get (j:=j) (List.getElem?_eq_some_iff.1 hj).1
  rw [e1] at k1;injection k1 with k1;injection k1 with k1 k1';subst k1 k1'
  rw [hj] at k3
  obtain rfl:=Option.some.inj k3
  exact ⟨v,by simp [execOp,e2,mS hT k2],rfl⟩
theorem eA {T:TypeId} {n:Nm} {len j k K:Nat} {c:Ch} {ki:IntKind} {i:Int} (ht:Nat.blt t nt=true) (hx:S.op x=some (o1 (.sl n 0 len))) (hy:S.op y=some (vv (.int ki i))) (hc:S.ch n=some c) (hk:c.k=k) (hT:jQ P T k=true)
  (hi:i=(j:Int)) (hj:j < len) (hl:len * k≤c.d.len) (hk0:0 < k) (hK:j * k=K):bQ P nt ⟨some t, .indexAddr T x y,ty,ps,af,gd⟩ S (S.put t (o1 (.ptr n K))):=by
 have:=dt (P:=P) (nt:=nt) (t:=t) (ty:=ty) (ps:=ps) (af:=af) (gd:=gd) ht hx hy hc hk hT hi hj (by rw [Nat.zero_add];exact hl) hk0
 rwa [Nat.zero_add,hK] at this
theorem iH {T:TypeId} {x0:Operand} {v0:Value} {vs:List Value} (ht:Nat.blt t nt=true) (hx0:S.op x0=some (vv v0)) (hb:P.built T [(0,v0)]=some vs.toArray):
  bQ P nt ⟨some t, .build T #[(0,x0)],ty,ps,af,gd⟩ S (S.put t (.s (.agg (vs.map .val)))):=
 bQ.of _ fun w0 ω0 η ω a w hs=>by
  refine ⟨.agg vs.toArray,w, ?_,η,ω,hs.eY (by simpa using ht) (⟨_,rfl,by simp,fun j b hb=> ?_⟩:fi η (.agg (vs.map .val)) _)⟩
  ·simp only [execOp]
   simp [hs.fL hx0,run_build w T #[(0,v0)] _ hb]
  ·rw [List.getElem?_map,Option.map_eq_some_iff] at hb
   obtain ⟨v,hv,rfl⟩:=hb
   exact ⟨v,by simpa using hv,rfl⟩
theorem kE {T E:Nat} {x0:Operand} {v0 v1:Value} (ht:Nat.blt t nt=true) (hT:mY P T E 2=true) (hx:S.op x0=some (.s (.agg [.val v0, .val v1]))):
  bQ P nt ⟨some t, .buildSlice T 1 #[(0,x0)],ty,ps,af,gd⟩ S ((S.new t ⟨true,E,2, .bG [v0,v1]⟩).put t (o1 (.sl t 0 1))):=
 bQ.of _ fun w0 ω0 η ω a w hs=>by
  obtain ⟨i,z,k1,k2,k3,k4,k5,k6⟩:=dA hT
  obtain ⟨us,hu,hul,hua⟩:fi η (.agg [.val v0, .val v1]) (a.eval x0):=hs.gk hx
  obtain ⟨u0,g0,d0⟩:=hua 0 _ rfl
  obtain ⟨u1,g1,d1⟩:=hua 1 _ rfl
  have d0:u0=v0:=d0
  have d1:u1=v1:=d1
  subst d0 d1
  obtain rfl:us= #[u0,u1]:=by
   have:us.size=2:=hul
   match us with
   | ⟨[p,q]⟩=>simp at g0 g1;rw [g0,g1]
  refine ⟨.slice (some ⟨w.heap.size,0,none⟩) 1 1,w.alloc (.cells #[u0,u1] E), ?_, ?_⟩
  ·have hc:(Value.agg #[u0,u1]).cells= #[u0,u1]:=rfl
   simp [execOp,Instr.buildSlice,run_underlying k1,sizeOf,typeInfo,k2,k3,zeroValue,k5,Instr.fill,newRow,hu,hc,vb]
  ·have hal:=hs.alloc (x:=t) (c:=⟨true,E,2, .bG [u0,u1]⟩) (cs:= #[u0,u1]) (r:=fun _=>⟨none,0,1⟩) (n:=1) rfl (by simp) (by simp [dQ.len]) (by simp [maxLen]) fun j hj=>by
    have hj:j < 2:=hj
    match j,hj with
    | 0,_=>exact ⟨_,by simp,rfl⟩
    | 1,_=>exact ⟨_,by simp,rfl⟩
   exact ⟨_,_,hal.eY (by simpa using ht) dE⟩
theorem CD (f:Nat→Value):Array.map f (Array.range 3)= #[f 0,f 1,f 2]:=by apply Array.ext';simp [Array.toList_range,List.range_succ]
theorem Ck (f:Nat→Value):Array.map f (Array.range 4)= #[f 0,f 1,f 2,f 3]:=by apply Array.ext';simp [Array.toList_range,List.range_succ]
theorem aO {T E:Nat} {x0 x1 x2:Operand} {z0 z1 z2:Int} (ht:Nat.blt t nt=true) (hT:mY P T E 1=true) (hx0:S.op x0=some (vv (I6 z0))) (hx1:S.op x1=some (vv (I6 z1))) (hx2:S.op x2=some (vv (I6 z2))):
  bQ P nt ⟨some t, .buildSlice T 3 #[(0,x0),(1,x1),(2,x2)],ty,ps,af,gd⟩ S ((S.new t ⟨true,E,1, .bG (aJ [z0,z1,z2])⟩).put t (o1 (.sl t 0 3))):=
 bQ.of _ fun w0 ω0 η ω a w hs=>by
  obtain ⟨i,z,k1,k2,k3,k4,k5,k6⟩:=dA hT
  have h0:=hs.fL hx0
  have h1:=hs.fL hx1
  have h2:=hs.fL hx2
  refine ⟨.slice (some ⟨w.heap.size,0,none⟩) 3 3,w.alloc (.cells #[I6 z0,I6 z1,I6 z2] E), ?_, ?_⟩
  ·simp [execOp,Instr.buildSlice,run_underlying k1,sizeOf,typeInfo,k2,k3,zeroValue,k5,Instr.fill,newRow,h0,h1,h2,Value.cells,CD]
  ·have hal:=hs.alloc (x:=t) (c:=⟨true,E,1, .bG (aJ [z0,z1,z2])⟩) (cs:= #[I6 z0,I6 z1,I6 z2]) (r:=fun _=>⟨none,0,1⟩) (n:=3) rfl (by simp) (by simp [dQ.len,aJ]) (by simp [maxLen]) fun j hj=>by
    match j,hj with
    | 0,_=>exact ⟨I6 z0,by simp,rfl⟩
    | 1,_=>exact ⟨I6 z1,by simp,rfl⟩
    | 2,_=>exact ⟨I6 z2,by simp,rfl⟩
    | j + 3,hj=>exact absurd hj (by simp [dQ.len,aJ])
   exact ⟨_,_,hal.eY (by simpa using ht) dE⟩
theorem aP {T E:Nat} {x0 x1 x2 x3:Operand} {z0 z1 z2 z3:Int} (ht:Nat.blt t nt=true) (hT:mY P T E 1=true) (hx0:S.op x0=some (vv (I6 z0))) (hx1:S.op x1=some (vv (I6 z1))) (hx2:S.op x2=some (vv (I6 z2))) (hx3:S.op x3=some (vv (I6 z3))):
  bQ P nt ⟨some t, .buildSlice T 4 #[(0,x0),(1,x1),(2,x2),(3,x3)],ty,ps,af,gd⟩ S ((S.new t ⟨true,E,1, .bG (aJ [z0,z1,z2,z3])⟩).put t (o1 (.sl t 0 4))):=
 bQ.of _ fun w0 ω0 η ω a w hs=>by
  obtain ⟨i,z,k1,k2,k3,k4,k5,k6⟩:=dA hT
  have h0:=hs.fL hx0
  have h1:=hs.fL hx1
  have h2:=hs.fL hx2
  have h3:=hs.fL hx3
  refine ⟨.slice (some ⟨w.heap.size,0,none⟩) 4 4,w.alloc (.cells #[I6 z0,I6 z1,I6 z2,I6 z3] E), ?_, ?_⟩
  ·simp [execOp,Instr.buildSlice,run_underlying k1,sizeOf,typeInfo,k2,k3,zeroValue,k5,Instr.fill,newRow,h0,h1,h2,h3,Value.cells,Ck]
  ·have hal:=hs.alloc (x:=t) (c:=⟨true,E,1, .bG (aJ [z0,z1,z2,z3])⟩) (cs:= #[I6 z0,I6 z1,I6 z2,I6 z3]) (r:=fun _=>⟨none,0,1⟩) (n:=4) rfl (by simp) (by simp [dQ.len,aJ]) (by simp [maxLen]) fun j hj=>by
    match j,hj with
    | 0,_=>exact ⟨I6 z0,by simp,rfl⟩
    | 1,_=>exact ⟨I6 z1,by simp,rfl⟩
    | 2,_=>exact ⟨I6 z2,by simp,rfl⟩
    | 3,_=>exact ⟨I6 z3,by simp,rfl⟩
    | j + 4,hj=>exact absurd hj (by simp [dQ.len,aJ])
   exact ⟨_,_,hal.eY (by simpa using ht) dE⟩
end
end Go.Proofs.Ytekbhbcgoadciaa
namespace Go.Proofs.Ytekbhbcgoadciaa
open Go.RowKit
section
variable {P:Program} {nt:Nat} {w0 w:World} {ω0:kd} {S S1:St} {Q:Exit→Act→World→Prop} {a:Act}
inductive DF (P:Program) (nt:Nat) (ops:Array Oper) (o:Oper) (S1:St) (A:Add):Prop where
 | run (hg:o.guard=none) (h:bQ P nt o S1 (S1.add A))
 | yes {j d:Nat} {want:Bool} (hg:o.guard=some (j,want)) (hj:(ops[j]?).bind (·.dst)=some d) (hb:S1.sl d=some (vv (.bool want))) (h:bQ P nt o S1 (S1.add A))
 | no {j d:Nat} {want:Bool} (hg:o.guard=some (j,want)) (hj:(ops[j]?).bind (·.dst)=some d) (hb:S1.sl d=some (vv (.bool (!want)))) (ht:o.dst=some A.t) (hn:Nat.blt A.t nt=true) (ha:A.av=vv undef) (hx:A.news=none)
inductive fP (P:Program) (nt:Nat) (ops0:Array Oper) (S:St) (cls:List (List Nat)) (sk:List Nat):List Oper→List Add→List Add→Prop where
 | nil {done:List Add} :fP P nt ops0 S cls sk [] done done
 | skip {o:Oper} {rest:List Oper} {done all:List Add} (A:Add) (hs:bp sk done.length=true) (k:fP P nt ops0 S cls sk rest (A :: done) all):fP P nt ops0 S cls sk (o :: rest) done all
 | cons {o:Oper} {rest:List Oper} {done all:List Add} (A:Add)
   (h:∀S1,(S.fu (bp (cls.getD done.length [])) done).le S1→DF P nt ops0 o S1 A) (k:fP P nt ops0 S cls sk rest (A :: done) all):fP P nt ops0 S cls sk (o :: rest) done all
theorem fP.spec {ops0:Array Oper} {cls:List (List Nat)} {sk:List Nat} {ops:List Oper} {done all:List Add} (h:fP P nt ops0 S cls sk ops done all):(∃r,all.reverse=done.reverse ++ r∧r.length=ops.length)∧∀(i:Nat) (o:Oper),ops[i]? =some o→bp sk (done.length + i)=false→
  ∃A,all.reverse[done.length + i]? =some A∧∀S1,(S.fu (bp (cls.getD (done.length + i) [])) (all.reverse.take (done.length + i)).reverse).le S1→DF P nt ops0 o S1 A:=by
 induction h with
 | nil=>exact ⟨⟨[],by simp⟩,fun i o h=>by simp at h⟩
 | @skip o rest done all A hs k ih=>
  obtain ⟨⟨r,hr,hl⟩,h2⟩:=ih
  refine ⟨⟨A :: r,by rw [hr];simp,by simp [hl]⟩,fun i o' hi hsk=> ?_⟩
  cases i with
  | zero=>rw [Nat.add_zero,hs] at hsk;cases hsk
  | succ i=>
   have e:(A :: done).length + i=done.length + (i + 1):=by simp;omega
   rw [←e] at hsk ⊢
   exact h2 i o' (by simpa using hi) hsk
 | @cons o rest done all A h k ih=>
  obtain ⟨⟨r,hr,hl⟩,h2⟩:=ih
  refine ⟨⟨A :: r,by rw [hr];simp,by simp [hl]⟩,fun i o' hi hsk=> ?_⟩
  cases i with
  | zero=>
   simp at hi;subst hi
   refine ⟨A,by rw [hr];simp,fun S1 hS=>h S1 ?_⟩
   have:(all.reverse.take (done.length + 0)).reverse=done:=by rw [hr];simp
   rw [this] at hS
   exact hS
  | succ i=>
   have e:(A :: done).length + i=done.length + (i + 1):=by simp;omega
   rw [←e] at hsk ⊢
   exact h2 i o' (by simpa using hi) hsk
theorem uK {l:List Oper} {nA:Nat} {sk:List Nat} {cls:List (List Nat)} {ds nms:List Nat} {adds done:List Add} (hcl:yh l.toArray nA sk cls) (hdr:fP P nt l.toArray (S.clear ds nms) cls sk (l.take nA) [] done) (hdn:done.reverse=adds) (ok:jV adds cls ds nms)
  (hk:Rest P w0 ω0 nt l.toArray Q (l.length - missing sk #[] nA) (dT nA sk l.length) ((S.clear ds nms).part (fun j=> !bp sk j) adds)):
  ∀(d:Nat) (L:Array Bool) (a:Act) (w:World),missing sk L nA=d→L.size=l.length→(∀j,L.getD j false=true→j < nA∧bp sk j=false)→(∀i,L.getD i false=true→∀j∈cls.getD i [],L.getD j false=true)→
   Sat w0 ω0 nt ((S.clear ds nms).part (fun j=>L.getD j false) adds) a w→wpAny P .any l.toArray Q (l.length - missing sk #[] nA + d) L a w:=by
 have hsz:nA≤l.length:=by have:=hcl.size;simpa using this
 obtain ⟨⟨r,hr,hrl⟩,hob⟩:=hdr.spec
 rw [hdn] at hr hob
 have hal:adds.length=nA:=by rw [hr];simp [hrl];omega
 have hfull:∀(L:Array Bool) (i:Nat),i∈Region.ready .any l.toArray L→(∀i,L.getD i false=true→∀j∈cls.getD i [],L.getD j false=true)→(∃o,l.toArray[i]? =some o∧L.getD i true=false)∧∀j∈cls.getD i [],L.getD j false=true:=by
  intro L i hi hclosed
  obtain ⟨h0,o,ho,he⟩:=mem_ready.1 hi
  refine ⟨⟨o,ho,h0⟩,fun j hj=> ?_⟩
  obtain ⟨e,hem,hb,hje⟩:=hcl.dep i o ho j hj
  have h1:=he e hem hb
  rcases hje with rfl | hje
  ·exact h1
  ·exact hclosed e.on h1 j hje
 intro d
 induction d with
 | zero=>
  intro L a w hm hs hsub hclosed hsat
  have hall:=dr hm
  have hL:L=dT nA sk l.length:=by
   apply Array.ext
   ·simp [hs,dT]
   ·intro j h1 h2
    have h3:L[j]? =some L[j]:=Array.getElem?_eq_getElem h1
    have h4:=j0 (nA:=nA) (sk:=sk) (n:=l.length) (j:=j) (by omega)
    rw [Array.getElem?_eq_getElem h2] at h4
    rw [Option.some.inj h4]
    cases hb:L[j] with
    | true=>
     have:=hsub j (by simp [h1,hb])
     simp [this.1,this.2]
    | false=>
     by_cases hj:j < nA
     ·cases hsk:bp sk j with
      | true=>simp
      | false=>
       have:=hall j hj hsk
       simp [h1,hb] at this
     ·simp [hj]
  refine hk.go a w ((St.le.wk (lZ (ℓ1:=fun j=> !bp sk j) (ℓ2:=fun j=>L.getD j false) ok (fun _ _ h=>h) fun j A hj hsk=> ?_) fun _ _ h=>h).go _ _ _ a w hsat) |> fun h=>by rw [←hL] at h;exact h
  have hjl:j < adds.length:=(List.getElem?_eq_some_iff.1 hj).1
  exact hall j (by omega) (by simpa using hsk)
 | succ d ih=>
  intro L a w hm hs hsub hclosed hsat
  refine ⟨fun hnil=> ?_,fun i hi=> ?_⟩
  ·exfalso
   obtain ⟨j,hj,hjs',hjf,hlo⟩:=fe (k:=nA) (by omega:missing sk L nA≠0)
   have hjl:j < l.length:=by omega
   have hjs:j < L.size:=by omega
   have:j∈Region.ready .any l.toArray L:=by
    refine mem_ready.2 ⟨?_,l[j],by simp [hjl],fun e he hb=> ?_⟩
    ·simp [hjs] at hjf ⊢
     exact hjf
    ·have h5:=hcl.less j l[j] (by simp [hjl]) hj hjs' e he hb
     exact hlo e.on h5.1 h5.2
   rw [hnil] at this;cases this
  ·obtain ⟨⟨o,ho,hi0⟩,hdep⟩:=hfull L i hi hclosed
   have hil:i < l.length:=by have:=(Array.getElem?_eq_some_iff.1 ho).1;simpa using this
   have his:i < L.size:=by omega
   have hif:L.getD i false=false:=by simp [his] at hi0 ⊢;exact hi0
   have hnl:¬(nA≤i∨bp sk i=true):=fun h=>by
    have:=dI (sk:=sk) (L:=L) (k:=nA) fun j hj hsk=>hdep j (hcl.late i o ho h j hj hsk)
    omega
   have hiA:i < nA:=by
    rcases Nat.lt_or_ge i nA with h | h
    ·exact h
    ·exact absurd (.inl h) hnl
   have hisk:bp sk i=false:=by
    cases hsk:bp sk i with
    | false=>rfl
    | true=>exact absurd (.inr hsk) hnl
   have hot:(l.take nA)[i]? =some o:=by rw [List.getElem?_take,if_pos hiA];simpa using ho
   obtain ⟨A,hA,hstp⟩:=hob i o hot (by simpa using hisk)
   simp only [List.length_nil,Nat.zero_add] at hA hstp
   have hle:((S.clear ds nms).fu (bp (cls.getD i [])) (adds.take i).reverse).le ((S.clear ds nms).part (fun j=>L.getD j false) adds):=fH ok (fun j B hj=>by
     rw [List.reverse_reverse] at hj
     rw [List.getElem?_take] at hj;split at hj
     ·exact hj
     ·cases hj) fun j B _ hj=>hdep j (bU.1 hj)
   have cont:∀a' w',Sat w0 ω0 nt (((S.clear ds nms).part (fun j=>L.getD j false) adds).add A) a' w'→wpAny P .any l.toArray Q (l.length - missing sk #[] nA + d) (L.setIfInBounds i true) a' w':=fun a' w' hsat'=>by
    have hsat2:=(qY ok hA hif fun j hj hm'=>by have:=hclosed j hj i hm';rw [hif] at this;cases this).go _ _ _ a' w' hsat'
    have hnew:∀j,(L.setIfInBounds i true).getD j false=(Nat.beq j i || L.getD j false):=fun j=>by
     by_cases e:j=i
     ·subst e;simp [his]
     ·rw [getD_set_ne false (fun e'=>e e'.symm),cZ e,Bool.false_or]
    refine ih (L.setIfInBounds i true) a' w' ?_ (by simp [hs]) (fun j hj=> ?_) (fun j hj k hk'=> ?_) ?_
    ·have:=gm his hif hisk nA hiA;omega
    ·rw [hnew] at hj
     by_cases e:j=i
     ·rw [e];exact ⟨hiA,hisk⟩
     ·rw [cZ e,Bool.false_or] at hj;exact hsub j hj
    ·rw [hnew] at hj ⊢
     by_cases e:j=i
     ·subst e;rw [hdep k hk'];simp
     ·rw [cZ e,Bool.false_or] at hj;rw [hclosed j hj k hk'];simp
    ·have:(fun j=>(L.setIfInBounds i true).getD j false)=fun j=>(Nat.beq j i || L.getD j false):=funext hnew
     rw [this];exact hsat2
   have hy:∀ {j dd:Nat} {b:Bool},(l.toArray[j]?).bind (·.dst)=some dd→((S.clear ds nms).part (fun j=>L.getD j false) adds).sl dd=some (vv (.bool b))→yielded l.toArray a.tmps j=some b:=fun {j dd b} hj hb=>by
    obtain ⟨η,ω,hs⟩:=hsat
    obtain ⟨u,k1,k2⟩:=hs.slots dd _ hb
    have k2:u= .bool b:=k2
    subst k2
    unfold yielded
    cases hoj:l.toArray[j]? with
    | none=>rw [hoj] at hj;cases hj
    | some oj=>
     rw [hoj] at hj
     simp only [Option.bind_some] at hj
     simp [hj,k1]
   unfold wpOp
   simp only [ho]
   cases hstp _ hle with
   | run hg h=>
    rw [if_pos (by simp [Region.wanted,hg])]
    exact .inl (Oper.wp_mono (fun a' w' hsat'=>cont a' w' hsat') (h.go w0 ω0 a w Q hsat))
   | yes hg hj hb h=>
    rw [if_pos (by simp [Region.wanted,hg,hy hj hb])]
    exact .inl (Oper.wp_mono (fun a' w' hsat'=>cont a' w' hsat') (h.go w0 ω0 a w Q hsat))
   | @no j dd want hg hj hb ht hn ha hx=>
    rw [if_neg (by simp [Region.wanted,hg,hy hj hb])]
    refine cont _ _ ?_
    obtain ⟨η,ω,hs⟩:=hsat
    refine ⟨η,ω, ?_⟩
    have e:((S.clear ds nms).part (fun j=>L.getD j false) adds).add A=((S.clear ds nms).part (fun j=>L.getD j false) adds).put A.t (vv undef):=by unfold St.add;rw [hx,ha];rfl
    rw [e,ht]
    exact hs.eY (by simpa using hn) rfl
theorem ly {id:Nat} {l:List Oper} (nA:Nat) (sk:List Nat) (cls:List (List Nat)) (ds nms:List Nat) {done:List Add} (hm:P.follows .mixedOrders=true) (hcl:Ab l.toArray nA sk cls=true) (hdr:fP P nt l.toArray (S.clear ds nms) cls sk (l.take nA) [] done) (ok:qK done.reverse cls ds nms=true)
  (hk:Rest P w0 ω0 nt l.toArray Q (l.length - missing sk #[] nA) (dT nA sk l.length) ((S.clear ds nms).fu (fun j=> !bp sk j) done)):eC P w0 ω0 nt S (.region id l.toArray true) Q:=by
 have hc:=qg hcl
 have hsz:nA≤l.length:=by have:=hc.size;simpa using this
 have hk':Rest P w0 ω0 nt l.toArray Q (l.length - missing sk #[] nA) (dT nA sk l.length) ((S.clear ds nms).part (fun j=> !bp sk j) done.reverse):=
  ⟨fun a w hs=>hk.go a w ((St.le.wk (fH (ef ok) (fun _ _ h=>h) fun _ _ _ h=>h) fun _ _ h=>h).go _ _ _ a w hs)⟩
 have hle:∀k,missing sk #[] k≤k:=fun k=>by
  induction k with
  | zero=>exact Nat.le_refl _
  | succ k ih=>simp only [missing];split<;>omega
 refine ⟨fun a w hs=>wp_region_any hm ?_⟩
 have hfin:=uK hc hdr rfl (ef ok) hk' (missing sk #[] nA) (Array.replicate l.length false) a { w with drawn:=w.drawn + 1 } ?_ (by simp) (fun j hj=> ?_) (fun i hi=> ?_) ?_
 ·have:=hle nA
  rw [show l.length - missing sk #[] nA + missing sk #[] nA=l.length by omega] at hfin
  simpa using hfin
 ·have:∀k,k≤l.length→missing sk (Array.replicate l.length false) k=missing sk #[] k:=fun k=>by
   induction k with
   | zero=>intro _;rfl
   | succ k ih=>
    intro hk
    simp only [missing]
    rw [ih (by omega)]
    have:(Array.replicate l.length false).getD k false=false:=by simp [show k < l.length by omega]
    rw [this];rfl
  exact this nA hsz
 ·exfalso
  by_cases h:j < l.length
  ·simp [h] at hj
  ·simp [h] at hj
 ·exfalso
  by_cases h:i < l.length
  ·simp [h] at hi
  ·simp [h] at hi
 ·have h1:=(lJ S ds nms).go _ _ _ a _ (l6 hs)
  have hf:∀j,(Array.replicate l.length false).getD j false=false:=fun j=>by
   by_cases h:j < l.length<;>simp [h]
  refine (Wk.less (S:=S.clear ds nms) (S':=(S.clear ds nms).part (fun j=>(Array.replicate l.length false).getD j false) done.reverse) (fun t av h=> ?_) (fun x c h=> ?_) fun _ _ h=>h).go _ _ _ a _ h1
  ·have h:(match sh (fun j=>(Array.replicate l.length false).getD j false) 0 done.reverse t with | some av=>some av | none=>(S.clear ds nms).sl t)=some av:=h
   split at h
   ·rename_i av' h2
    obtain ⟨j,A,_,h3,_⟩:=fc h2
    rw [hf] at h3;cases h3
   ·exact h
  ·have h:(match sg (fun j=>(Array.replicate l.length false).getD j false) 0 done.reverse x with | some c=>some c | none=>(S.clear ds nms).ch x)=some c:=h
   split at h
   ·rename_i av' h2
    obtain ⟨j,A,_,h3,_⟩:=eW h2
    rw [hf] at h3;cases h3
   ·exact h
end
section
variable {P:Program} {nt:Nat} {S:St} {cls:List (List Nat)} {sk:List Nat} {o:Oper} {rest:List Oper} {done all:List Add} {ops0:Array Oper} {t:Nat} {ty:TypeId} {ps:String} {af:Array Edge} {gd:Option (Nat×Bool)} {x y:Operand}
theorem cN {t:Nat} {av:AV} (hg:o.guard=none) (h:∀S1,(S.fu (bp (cls.getD done.length [])) done).le S1→bQ P nt o S1 (S1.put t av)) (k:fP P nt ops0 S cls sk rest (⟨t,av,none⟩ :: done) all):fP P nt ops0 S cls sk (o :: rest) done all:= .cons ⟨t,av,none⟩ (fun S1 hS=> .run hg (h S1 hS)) k
theorem cP {t j d:Nat} {want:Bool} {av:AV} (hg:o.guard=some (j,want)) (hj:(ops0[j]?).bind (·.dst)=some d) (hb:(S.fu (bp (cls.getD done.length [])) done).sl d=some (vv (.bool want))) (h:∀S1,(S.fu (bp (cls.getD done.length [])) done).le S1→bQ P nt o S1 (S1.put t av)) (k:fP P nt ops0 S cls sk rest (⟨t,av,none⟩ :: done) all):fP P nt ops0 S cls sk (o :: rest) done all:= .cons ⟨t,av,none⟩ (fun S1 hS=> .yes hg hj (hS.sl _ _ hb) (h S1 hS)) k
theorem fE {t j d:Nat} {want:Bool} (hg:o.guard=some (j,want)) (hj:(ops0[j]?).bind (·.dst)=some d) (hb:(S.fu (bp (cls.getD done.length [])) done).sl d=some (vv (.bool (!want)))) (ht:o.dst=some t) (hn:Nat.blt t nt=true) (k:fP P nt ops0 S cls sk rest (⟨t,vv undef,none⟩ :: done) all):fP P nt ops0 S cls sk (o :: rest) done all:= .cons ⟨t,vv undef,none⟩ (fun S1 hS=> .no hg hj (hS.sl _ _ hb) ht hn rfl rfl) k
end
end Go.Proofs.Ytekbhbcgoadciaa
namespace Go.Proofs.Ytekbhbcgoadciaa
open Go.RowKit
abbrev xY (im:List (List Int)):Ch:=⟨false,24,1, .rows 2 (bK im) []⟩
abbrev pG (less:List Int):Ch:=⟨false,2,1, .bG (aJ less)⟩
abbrev cz (im:List (List Int)):Ch:=⟨true,24,1, .rows 2 (bK im) []⟩
abbrev bw (less:List Int):Ch:=⟨true,2,1, .bG (aJ less)⟩
theorem Bd {z:Int} (h:0≤z):vv (I6 z)=vv (I6 ((z.toNat:Nat):Int)):=by rw [Int.toNat_of_nonneg h]
abbrev aV (wss:List (List Int)):Ch:=⟨false,24,1, .rows 2 (bK wss) []⟩
abbrev de (W:List Int):Ch:=⟨false,2,1, .bG (aJ W)⟩
section
variable {P:Program} {nt:Nat} {S:St} {t:Nat} {ty:TypeId} {ps:String} {af:Array Edge} {gd:Option (Nat×Bool)} {x y:Operand}
end
end Go.Proofs.Ytekbhbcgoadciaa
namespace Go.Proofs.Ytekbhbcgoadciaa
open Go.RowKit
section
variable {η:Env} {ω:bE} {w:World} {ins:List (Nm×Ch)}
theorem Bc {x i:Nat} {own:Bool} {E F:Nat} {zss:List (List Int)} {v:Value} (hm:Mem η ω w (fun x=>lk x ins)) (hx:lk x ins=some ⟨own,E,1, .rows F (bK zss) []⟩) (hi:i < zss.length) (hv:cq η (.esl x i 0 (bu zss i).length) v) (hn:(bu zss i).length≤17592186044416):
  ∃ao c,v= .slice ao (bu zss i).length c∧cY w ao (bu zss i).length (bu zss i):=by
 obtain ⟨h,h1,h2,h3⟩:=hm.1 x _ hx
 obtain ⟨ao,rfl,h4,_⟩:=hv.2 h h1
 have h3:j6 own ω w (x,none) h E (bK zss).length (bW η ω w own x (.rows F (bK zss) [])):=h3
 obtain ⟨b',o',u',g1,g2,g3,g4⟩:=h3.get (j:=i) (by rw [aw];exact hi)
 obtain ⟨k1,k2,k3⟩:=g4 (by simp) (aJ (bu zss i)) (ar hi)
 rw [h4 rfl]
 refine ⟨_,_,rfl,rfl,hn,fun h0=> ?_⟩
 obtain ⟨b2,o2,u2,m1,_,_⟩:=k3.get (j:=0) (by rw [an];exact h0)
 refine ⟨b2,o2,m1,fun j hj=> ?_⟩
 obtain ⟨b3,o3,u3,n1,n2,n3⟩:=k3.get (j:=j) (by rw [an];exact hj)
 rw [m1] at n1;injection n1 with n1;injection n1 with n1 n1';subst n1 n1'
 rw [al hj] at n3
 rw [n2,←n3]
theorem BI {x i m:Nat} {own:Bool} {E kk F:Nat} {cs:List jG} {zs:List Int} {v:Value} (hm:Mem η ω w (fun x=>lk x ins)) (hx:lk x ins=some ⟨own,E,kk, .mix cs⟩) (hi:cs[i]? =some (.r F 1 m (aJ zs))) (hv:cq η (.esl x i 0 m) v) (hn:zs.length≤17592186044416):
  ∃ao c,v= .slice ao zs.length c∧cY w ao zs.length zs:=by
 obtain ⟨h,h1,h2,h3⟩:=hm.1 x _ hx
 obtain ⟨ao,rfl,h4,_⟩:=hv.2 h h1
 have h3:j6 own ω w (x,none) h E cs.length (bW η ω w own x (.mix cs)):=h3
 obtain ⟨b',o',u',g1,g2,g3,g4⟩:=h3.get (j:=i) (List.getElem?_eq_some_iff.1 hi).1
 obtain ⟨k0,k1,k2,k3⟩:=g4 _ hi
 have hm':m=zs.length:=by rw [an,Nat.mul_one] at k0;exact k0.symm
 subst hm'
 rw [h4 rfl]
 refine ⟨_,_,rfl,rfl,hn,fun h0=> ?_⟩
 obtain ⟨b2,o2,u2,m1,_,_⟩:=k3.get (j:=0) (by rw [an];exact h0)
 refine ⟨b2,o2,m1,fun j hj=> ?_⟩
 obtain ⟨b3,o3,u3,n1,n2,n3⟩:=k3.get (j:=j) (by rw [an];exact hj)
 rw [m1] at n1;injection n1 with n1;injection n1 with n1 n1';subst n1 n1'
 rw [al hj] at n3
 rw [n2,←n3]
end
section
variable {P:Program} {nt:Nat} {S:St} {t:Nat} {ty:TypeId} {ps:String} {af:Array Edge} {gd:Option (Nat×Bool)} {x y:Operand}
theorem sz {ts:Array TypeId} {m n:Nat} (ht:Nat.blt t nt=true) (hx:S.op x=some (vv (I6 (m:Int)))) (hy:S.op y=some (vv (I6 (n:Int)))):
  bQ P nt ⟨some t, .call { callee:= .builtin .min,args:= #[x,y],argTypes:=ts },ty,ps,af,gd⟩ S (S.put t (vv (I6 ((min m n:Nat):Int)))):=by
 have:=AF (P:=P) (nt:=nt) (ty:=ty) (ps:=ps) (af:=af) (gd:=gd) (ts:=ts) ht hx hy
 rwa [show (if (n:Int) < m then (n:Int) else m)=((min m n:Nat):Int) by split<;>omega] at this
theorem tx {ts:Array TypeId} {m n:Nat} (ht:Nat.blt t nt=true) (hx:S.op x=some (vv (I6 (m:Int)))) (hy:S.op y=some (vv (I6 (n:Int)))):
  bQ P nt ⟨some t, .call { callee:= .builtin .max,args:= #[x,y],argTypes:=ts },ty,ps,af,gd⟩ S (S.put t (vv (I6 ((max m n:Nat):Int)))):=by
 have:=vt (P:=P) (nt:=nt) (ty:=ty) (ps:=ps) (af:=af) (gd:=gd) (ts:=ts) ht hx hy
 rwa [show (if (n:Int) > m then (n:Int) else m)=((max m n:Nat):Int) by split<;>omega] at this
end
end Go.Proofs.Ytekbhbcgoadciaa
namespace Go.Proofs.Ytekbhbcgoadciaa
open Go.RowKit
def fS (zs:List Int):List Int:=zs.reverse
theorem tc {zs:List Int} {k:Nat} (h:k < zs.length):fS (zs.drop k)=fS (zs.drop (k + 1)) ++ [aC zs k]:=by
 unfold fS;rw [List.drop_eq_getElem_cons h,←cG h,List.reverse_cons]
set_option maxHeartbeats 400000 in
theorem mz (ao:Option Addr) (n c:Nat) (zs:List Int) (w:World) (h:cY w ao n zs) (hn:n≤1048576):
  Calls Try.prog 78 #[.slice ao n c] w fun e w'=>∃ao' c',e= .returned (.slice ao' n c')∧Own w' w.heap.size 2 ao' n c' ((fS zs).map (Value.int .i64))∧Below w.heap.size w w':=by
 have hl:=h.1
 have HL:=Lib.hid hl
 clear hl
 go_enter Try.func78,Try.ntmps78
 go_wp2
 go_loopw [3,4] (fun v i wr=>∃(k a':Nat) (ao':Option Addr) (c':Nat),k≤n∧i= .int .i64 ((k:Int) - 1)∧v= .slice ao' a' c'∧a' + k=n∧Own wr w.heap.size 2 ao' a' c' ((fS (zs.drop k)).map (Value.int .i64))∧Below w.heap.size w wr) (fun _ i _=>(intOf i + 1).toNat)
 case atStart=>exact ⟨n,0,_,_,Nat.le_refl _,rfl,rfl,by omega,by rw [List.drop_of_length_le (Nat.le_of_eq HL.out)];exact Own.jL w _ (Nat.le_refl _),(Below.refl _ _).alloc (Nat.le_refl _) _⟩
 case round=>
  obtain ⟨k,a',ao',c',hk,rfl,rfl,hak,ho,hb⟩:=hrel
  have HAK:=Lib.hid hak
  clear hak
  by_cases hlt:0 < k
  ·obtain ⟨j,rfl⟩:∃j,k=j + 1:=⟨k - 1,by omega⟩
   have hj:j < n:=by omega
   have ha':a'≤1048576:=by have:=HAK.out;omega
   obtain ⟨b,off,rfl,hc⟩:=(h.below hb).at_ hj
   have HT:Hid (fS (zs.drop j)=fS (zs.drop (j + 1)) ++ [aC zs j]):=tc (by rw [HL.out];exact hj)
   have hbs:=hb.size
   have ej:((j + 1:Nat):Int) - 1=j:=by omega
   rw [ej]
   clear ej
   go_wp2_with (at_builtin;refine lr A3 _ rfl _ _ rfl w.heap.size ao' a' c' _ rfl ho (.int .i64 (aC zs j)) rfl rfl (by omega) hbs ?_;intro ao2 c2 w2 ho2 hg2 hblk)
   have hol:=ho.lt
   clear ho hc h
   go_wp2
   go_roundw
   case rel=>
    refine ⟨j,a' + 1,ao2,c2,by omega,rfl,rfl,by have:=HAK.out;omega, ?_,hb.grown hg2 hbs (fun g hg=>(hol g hg).1)⟩
    rw [HT.out,List.map_append];exact ho2
   case measure=>simp [intOf]
  ·obtain rfl:k=0:=by omega
   obtain rfl:a'=n:=by have:=HAK.out;omega
   go_wp2
   go_ret
   exact ⟨_,_,rfl,by simpa using ho,hb⟩
set_option maxHeartbeats 400000 in
theorem xD (ao:Option Addr) (n c:Nat) (zs:List Int) (w:World) (h:cY w ao n zs) (hn:n≤1048576):
  Calls Try.prog 83 #[.slice ao n c] w fun e w'=>∃ao' c',e= .returned (.slice ao' n c')∧Own w' w.heap.size 2 ao' n c' (zs.map (Value.int .i64))∧Below w.heap.size w w':=by
 have he:=fun (w:World)=>Lib.run_eql_slice_nil (P:=Try.prog) w 24 2 ao n c 0 0 Try.underlying24
 cases ao with
 | none=>
  obtain ⟨rfl,rfl⟩:=h.AZ
  go_enter Try.func83,Try.ntmps83
  go_wp2
  go_ret
  exact ⟨_,_,rfl,Own.zx _ _ _,Below.refl _ _⟩
 | some ad=>
  have h2:cY (w.alloc (.cells #[] 2)) (some ad) n zs:=h.below ((Below.refl _ _).alloc (Nat.le_refl _) _)
  have H2:=Lib.hid h2
  clear h2
  go_enter Try.func83,Try.ntmps83
  go_wp2_with (at_builtin;refine lx A3 _ rfl _ _ rfl w.heap.size _ 0 0 [] rfl (Own.jL w _ (Nat.le_refl _)) (some ad) n c zs rfl H2.out (by omega) (by simp) ?_;intro ao2 c2 w2 ho2 hg2 hblk)
  go_ret
  refine ⟨_,_,rfl,by simpa using ho2,((Below.refl _ _).alloc (Nat.le_refl _) _).grown hg2 (by simp) (fun g hg=> ?_)⟩
  simp [bk] at hg;omega
end Go.Proofs.Ytekbhbcgoadciaa
namespace Go.Proofs.Ytekbhbcgoadciaa
open Go.RowKit
theorem iV {w:World} {base E:Nat} {g n c:Nat} {zs:List Int} (h:Own w base E (some ⟨g,0,none⟩) n c (zs.map (Value.int .i64))) {k:Nat} (hk:k < n):w.cell? ⟨g,k,none⟩=some (.int .i64 (aC zs k)):=by
 obtain ⟨g',hg,_,_,_,hc,_⟩:=h.form (by omega)
 obtain rfl:g=g':=by injection hg with hg;injection hg
 have hl:zs.length=n:=by have:=h.len;simpa using this
 rw [hc k hk,List.getElem?_map,List.getElem?_eq_getElem (by omega),cG (by omega)];rfl
theorem iK {zs:List Int} {k:Nat} (h:k < zs.length) (x:Int):aC (zs.set k x) k=x:=by rw [cG (by simpa using h)];simp
theorem gq {zs:List Int} {k j:Nat} (h:k≠j) (x:Int):aC (zs.set k x) j=aC zs j:=by simp [aC,h]
set_option maxHeartbeats 800000 in
theorem tJ (ao:Option Addr) (n c:Nat) (zs:List Int) (w:World) (base:Nat) (h:Own w base 2 ao n c (zs.map (Value.int .i64))):
  Calls Try.prog 84 #[.slice ao n c] w fun e w'=>e= .returned (.tuple #[])∧Own w' base 2 ao n c ((fS zs).map (Value.int .i64))∧w.grownBy w' (bk ao):=by
 have hn:=h.2
 have hl:zs.length=n:=by have:=h.len;simpa using this
 have HL:=Lib.hid hl
 clear hl
 go_enter Try.func84,Try.ntmps84
 go_wp2
 go_loopw [2,3] (fun i j wr=>∃(k:Nat) (cur:List Int),k≤n∧i= .int .i64 k∧j= .int .i64 ((n:Int) - 1 - k)∧cur.length=n∧(∀x,x < n→aC cur x=if x < k∨n < x + 1 + k then aC zs (n - 1 - x) else aC zs x)∧Own wr base 2 ao n c (cur.map (Value.int .i64))∧w.grownBy wr (bk ao)) (fun i _ _=>n - (intOf i).toNat)
 case atStart=>exact ⟨0,zs,by omega,rfl,by simp,HL.out,fun x hx=>by rw [if_neg (by omega)],h,World.grownBy.refl _ _⟩
 case round=>
  obtain ⟨k,cur,hk,rfl,rfl,hcl,hcur,ho,hg⟩:=hrel
  have HC:=Lib.hid hcl
  have HU:=Lib.hid hcur
  clear hcl hcur
  by_cases hlt:k + k + 1 < n
  ·obtain ⟨j,hj⟩:∃j:Nat,j + k + 1=n:=⟨n - 1 - k,by omega⟩
   have HJ:=Lib.hid hj
   have ej:(n:Int) - 1 - k=j:=by omega
   have hjn:j < n:=by omega
   have hkn:k < n:=by omega
   have hkj:k < j:=by omega
   rw [ej]
   clear hj ej
   obtain ⟨g,rfl, -,hgl, -, -, -⟩:=ho.form (by omega)
   have hc1:=iV ho hjn
   have hc2:=iV ho hkn
   have hf1:=ho.1.frozenAt j
   have hf2:=ho.1.frozenAt k
   have ho1:Own wr.drew base 2 (some ⟨g,0,none⟩) n c (cur.map (Value.int .i64)):=ho
   obtain ⟨s1,t1⟩:=ho1.stored k (.int .i64 (aC cur j))
   obtain ⟨s2,t2⟩:=s1.stored j (.int .i64 (aC cur k))
   have S2:=Lib.hid s2
   have T1:=Lib.hid t1
   have T2:=Lib.hid t2
   clear s1 t1 s2 t2 ho1 ho
   go_wp2
   go_region
   go_wp2
   go_roundw
   case rel=>
    refine ⟨k + 1,(cur.set k (aC cur j)).set j (aC cur k),by omega,by go_num, ?_,by simp [HC.out], ?_,by rw [List.map_set,List.map_set];exact S2.out,fa hg (fa (⟨rfl,rfl,rfl,Nat.le_refl _,fun _ _ _=>rfl⟩:wr.grownBy wr.drew _) (fa T1.out T2.out))⟩
    ·congr 1;have:=HJ.out;omega
    ·intro x hx
     have hcl:=HC.out
     have hjn':=HJ.out
     by_cases h1:x=j
     ·subst h1
      rw [iK (by simp;omega),if_pos (by omega),HU.out k (by omega),if_neg (by omega)]
      congr 1;omega
     ·rw [gq (fun e=>h1 e.symm)]
      by_cases h2:x=k
      ·subst h2
       rw [iK (by omega),if_pos (by omega),HU.out j (by omega),if_neg (by omega)]
       congr 1;omega
      ·rw [gq (fun e=>h2 e.symm),HU.out x hx]
       by_cases h3:x < k∨n < x + 1 + k
       ·rw [if_pos h3,if_pos (by omega)]
       ·rw [if_neg h3,if_neg (by omega)]
   case measure=>simp [intOf];omega
  ·have hle:(n:Int) - 1 - k≤k:=by omega
   go_wp2
   go_end0
   refine ⟨rfl, ?_,hg⟩
   have hcl:=HC.out
   have hzl:=HL.out
   have e:cur=fS zs:=by
    apply mj (by unfold fS;simp;omega)
    intro x hx
    have hr:aC (fS zs) x=aC zs (n - 1 - x):=by
     rw [cG (by unfold fS;simp;omega),cG (by omega)]
     unfold fS
     rw [List.getElem_reverse]
     congr 1;omega
    rw [hr,HU.out x (by omega)]
    by_cases h3:x < k∨n < x + 1 + k
    ·rw [if_pos h3]
    ·rw [if_neg h3];congr 1;omega
   rw [←e];exact ho
end Go.Proofs.Ytekbhbcgoadciaa
namespace Go.Proofs.Ytekbhbcgoadciaa
open Go.RowKit
set_option maxHeartbeats 400000 in
theorem sx (a b:Option Addr) (na nb ca cb:Nat) (za zb:List Int) (w:World) (ha:cY w a na za) (hb:cY w b nb zb):
  Calls Try.prog 96 #[.slice a na ca, .slice b nb cb] w fun e w'=>e= .returned (.bool (decide (za=zb)))∧∃m,w'=w.drewN m:=by
 have hla:=ha.2.1
 have hlb:=hb.2.1
 by_cases hl:na=nb
 ·subst hl
  have hl':((na:Int) != (na:Int))=false:=by simp
  go_enter Try.func96,Try.ntmps96
  go_wp2
  go_loopw [5] (fun i wr=>∃k:Nat,k≤na∧i= .int .i64 k∧za.take k=zb.take k∧∃m,wr=w.drewN m) (fun i _=>na - (intOf i).toNat)
  case atStart=>exact ⟨0,Nat.zero_le _,rfl,rfl,0,rfl⟩
  case round=>
   obtain ⟨k,hk,rfl,hpre,m,rfl⟩:=hrel
   have HP:=Lib.hid hpre
   clear hpre
   by_cases hlt:k < na
   ·obtain ⟨ba,oa,rfl,hca⟩:=ha.at_ hlt
    obtain ⟨bb,ob,rfl,hcb⟩:=hb.at_ hlt
    have h1:=ha.1
    have h2:=hb.1
    have H1:=Lib.hid h1
    have H2:=Lib.hid h2
    clear h1 h2
    by_cases he:aC za k=aC zb k
    ·have he':(aC za k != aC zb k)=false:=by simp [he]
     have HE:=Lib.hid he
     clear he
     go_wp2_with fail
     go_quiet (fail)
     go_wp2
     go_roundw
     case rel=>exact ⟨k + 1,by omega,by go_num,by rw [gT (by rw [H1.out];omega),gT (by rw [H2.out];omega),HP.out,HE.out],_,rfl⟩
     case measure=>simp [intOf];omega
    ·have he':(aC za k != aC zb k)=true:=by simp [he]
     have HE:=Lib.hid he
     clear he
     go_wp2_with fail
     go_quiet (fail)
     go_wp2
     go_ret
     exact ⟨bR (by symm;rw [decide_eq_false_iff_not];intro e;exact HE.out (by rw [e])),_,World.drewN_drewN _ _ _⟩
   ·obtain rfl:k=na:=by omega
    have h1:=ha.1
    have h2:=hb.1
    have hab:za=zb:=by have:=HP.out;rwa [List.take_of_length_le (by omega),List.take_of_length_le (by omega)] at this
    have HA:=Lib.hid hab
    clear h1 h2 hab
    go_wp2
    go_ret
    exact ⟨bR (by symm;simpa using HA.out),_,rfl⟩
 ·have hl':((na:Int) != (nb:Int))=true:=by simp;omega
  go_enter Try.func96,Try.ntmps96
  go_wp2
  go_ret
  refine ⟨bR ?_,0,rfl⟩
  symm
  rw [decide_eq_false_iff_not]
  intro e
  exact hl (by rw [←ha.1,←hb.1,e])
set_option maxHeartbeats 400000 in
theorem wO (a b:Option Addr) (na nb ca cb:Nat) (za zb:List Int) (w:World) (ha:cY w a na za) (hb:cY w b nb zb):
  Calls Try.prog 74 #[.slice a na ca, .slice b nb cb] w fun e w'=>e= .returned (.bool (decide (za=zb)))∧∃m,w'=w.drewN m:=by
 have hla:=ha.2.1
 have hlb:=hb.2.1
 by_cases hl:na=nb
 ·subst hl
  have hl':((na:Int) != (na:Int))=false:=by simp
  go_enter Try.func74,Try.ntmps74
  go_wp2
  go_loopw [13] (fun i wr=>∃k:Nat,k≤na∧i= .int .i64 k∧za.take k=zb.take k∧∃m,wr=w.drewN m) (fun i _=>na - (intOf i).toNat)
  case atStart=>exact ⟨0,Nat.zero_le _,rfl,rfl,0,rfl⟩
  case round=>
   obtain ⟨k,hk,rfl,hpre,m,rfl⟩:=hrel
   have HP:=Lib.hid hpre
   clear hpre
   by_cases hlt:k < na
   ·obtain ⟨ba,oa,rfl,hca⟩:=ha.at_ hlt
    obtain ⟨bb,ob,rfl,hcb⟩:=hb.at_ hlt
    have h1:=ha.1
    have h2:=hb.1
    have H1:=Lib.hid h1
    have H2:=Lib.hid h2
    clear h1 h2
    by_cases he:aC za k=aC zb k
    ·have he':(aC za k != aC zb k)=false:=by simp [he]
     have HE:=Lib.hid he
     clear he
     go_wp2_with fail
     go_quiet (fail)
     go_wp2
     go_roundw
     case rel=>exact ⟨k + 1,by omega,by go_num,by rw [gT (by rw [H1.out];omega),gT (by rw [H2.out];omega),HP.out,HE.out],_,rfl⟩
     case measure=>simp [intOf];omega
    ·have he':(aC za k != aC zb k)=true:=by simp [he]
     have HE:=Lib.hid he
     clear he
     go_wp2_with fail
     go_quiet (fail)
     go_wp2
     go_ret
     exact ⟨bR (by symm;rw [decide_eq_false_iff_not];intro e;exact HE.out (by rw [e])),_,World.drewN_drewN _ _ _⟩
   ·obtain rfl:k=na:=by omega
    have h1:=ha.1
    have h2:=hb.1
    have hab:za=zb:=by have:=HP.out;rwa [List.take_of_length_le (by omega),List.take_of_length_le (by omega)] at this
    have HA:=Lib.hid hab
    clear h1 h2 hab
    go_wp2
    go_ret
    exact ⟨bR (by symm;simpa using HA.out),_,rfl⟩
 ·have hl':((na:Int) != (nb:Int))=true:=by simp;omega
  go_enter Try.func74,Try.ntmps74
  go_wp2
  go_ret
  refine ⟨bR ?_,0,rfl⟩
  symm
  rw [decide_eq_false_iff_not]
  intro e
  exact hl (by rw [←ha.1,←hb.1,e])
theorem uV {us:List Value} {u0 u1:Value} (hl:us.length=2) (g0:us[0]? =some u0) (g1:us[1]? =some u1):us= [u0,u1]:=by
 match us,hl with
 | [p,q],_=>simp at g0 g1;rw [g0,g1]
theorem sd {us:List Value} {u0:Value} (hl:us.length=1) (g0:us[0]? =some u0):us= [u0]:=by
 match us,hl with
 | [p],_=>simp at g0;rw [g0]
theorem Dt (a b:List Int):decide (a=b)=(a == b):=by
 by_cases h:a=b
 ·subst h;simp
 ·rw [decide_eq_false h];symm;simpa using h
theorem iW (cs:List jG) (i m n E kk:Nat) (labs list:List Int) (hi:cs[i]? =some (.r 2 1 m (aJ labs))) (hm:labs.length=m) (hn:list.length=n) (hm4:m≤1000000) (hn4:n≤1000000):
  FC Try.prog 74 [(1000,⟨false,E,kk, .mix cs⟩),(1001,de list)] [o1 (.esl 1000 i 0 m),o1 (.sl 1001 0 n)] [] (vv (.bool (labs == list))) []:=
 dL fun w η ω us hme ⟨hl,ha⟩=>by
  subst hm hn
  obtain ⟨u0,g0,d0⟩:=ha 0 _ rfl
  obtain ⟨u1,g1,d1⟩:=ha 1 _ rfl
  obtain ⟨ao,c,rfl,h0⟩:=BI (x:=1000) hme rfl hi d0 (by omega)
  obtain ⟨ao',c',rfl,h1⟩:=Bb (x:=1001) hme rfl d1 (by omega)
  rw [uV hl g0 g1]
  refine (wO ao ao' _ _ c c' labs list w h0 h1).mono ?_
  rintro e w' ⟨rfl,hq⟩
  exact ⟨bR (Dt _ _),hH hq⟩
theorem zU (zss:List (List Int)) (i n E:Nat) (list:List Int) (hi:i < zss.length) (hn:list.length=n) (hm4:(bu zss i).length≤1000000) (hn4:n≤1000000):
  FC Try.prog 96 [(1000,aV zss),(1001,de list)] [o1 (.esl 1000 i 0 (bu zss i).length),o1 (.sl 1001 0 n)] [] (vv (.bool (bu zss i == list))) []:=
 dL fun w η ω us hme ⟨hl,ha⟩=>by
  subst hn
  obtain ⟨u0,g0,d0⟩:=ha 0 _ rfl
  obtain ⟨u1,g1,d1⟩:=ha 1 _ rfl
  obtain ⟨ao,c,rfl,h0⟩:=Bc (x:=1000) hme rfl hi d0 (by omega)
  obtain ⟨ao',c',rfl,h1⟩:=Bb (x:=1001) hme rfl d1 (by omega)
  rw [uV hl g0 g1]
  refine (sx ao ao' _ _ c c' _ list w h0 h1).mono ?_
  rintro e w' ⟨rfl,hq⟩
  exact ⟨bR (Dt _ _),hH hq⟩
theorem zf (zs list:List Int) (m n:Nat) (hm:zs.length=m) (hn:list.length=n) (hm4:m≤1000000) (hn4:n≤1000000):
  FC Try.prog 96 [(1000,de zs),(1001,de list)] [o1 (.sl 1000 0 m),o1 (.sl 1001 0 n)] [] (vv (.bool (zs == list))) []:=
 dL fun w η ω us hme ⟨hl,ha⟩=>by
  subst hm hn
  obtain ⟨u0,g0,d0⟩:=ha 0 _ rfl
  obtain ⟨u1,g1,d1⟩:=ha 1 _ rfl
  obtain ⟨ao,c,rfl,h0⟩:=Bb (x:=1000) hme rfl d0 (by omega)
  obtain ⟨ao',c',rfl,h1⟩:=Bb (x:=1001) hme rfl d1 (by omega)
  rw [uV hl g0 g1]
  refine (sx ao ao' _ _ c c' _ list w h0 h1).mono ?_
  rintro e w' ⟨rfl,hq⟩
  exact ⟨bR (Dt _ _),hH hq⟩
theorem xg (x y n:Nat) (zs:List Int) (hn:zs.length=n) (hl:n≤1000000):
  FC Try.prog 83 [(x,de zs)] [o1 (.sl x 0 n)] [(y,bw zs)] (o1 (.sl y 0 n)) []:=by
 subst hn
 exact mq fun w η ω us hm ⟨hl',ha⟩=>by
  obtain ⟨u0,g0,d0⟩:=ha 0 _ rfl
  obtain ⟨ao,c,rfl,hr⟩:=Bb (x:=x) (own:=false) (E:=2) hm (by simp [lk]) d0 (by omega)
  rw [sd hl' g0]
  refine (xD ao _ c _ w hr (by omega)).mono ?_
  rintro e w' ⟨ao',c',rfl,ho,hb⟩
  exact ⟨ao',c',rfl,ho,hb⟩
theorem ib (y:Nat) (zss:List (List Int)) (i:Nat) (hi:i < zss.length) (hl:(bu zss i).length≤1000000):
  FC Try.prog 78 [(1000,aV zss)] [o1 (.esl 1000 i 0 (bu zss i).length)] [(y,bw (bu zss i).reverse)] (o1 (.sl y 0 (bu zss i).length)) []:=by
 have h:=mq (P:=Try.prog) (f:=78) (ins:= [(1000,aV zss)]) (args:= [o1 (.esl 1000 i 0 (bu zss i).length)]) (x:=y) (E:=2) (zs:=(bu zss i).reverse) fun w η ω us hm ⟨hl',ha⟩=>by
  obtain ⟨u0,g0,d0⟩:=ha 0 _ rfl
  obtain ⟨ao,c,rfl,hr⟩:=Bc (x:=1000) hm rfl hi d0 (by omega)
  rw [sd hl' g0]
  refine (mz ao _ c _ w hr (by omega)).mono ?_
  rintro e w' ⟨ao',c',rfl,ho,hb⟩
  rw [List.length_reverse]
  exact ⟨ao',c',rfl,ho,hb⟩
 rw [List.length_reverse] at h
 exact h
set_option maxRecDepth 100000 in
theorem vL (zs:List Int) (n:Nat) (hn:zs.length=n) (hpos:0 < n) (hn4:n≤1000000) (ha:∀i,i + 1 < n→aC zs i≤aC zs (i + 1)):
  FC Try.prog 54 [(1005,pG zs)] [o1 (.sl 1005 0 n)] [] (vv (I6 (aC zs (n - 1)))) []:=by
 refine bc (nt:=25) Try.func54 rfl rfl (by simp) fun w0 ω0=> ?_
 have hil:n≤(aJ zs).length:=by rw [an,hn];exact Nat.le_refl _
 (refine ah ?_;refine ab ?_;apply aa rfl;(exact ag rfl rfl);refine aj ?_;refine ai ?_;refine ah ?_;refine ah ?_;refine ab ?_;apply aa rfl;(exact ae rfl rfl);apply aa rfl;(exact a8 rfl rfl rfl (by as_aux_lemma=>kernel_rfl));apply aa rfl;(exact aD rfl rfl rfl rfl);refine aj ?_;refine ai ?_)
 refine bF rfl (fun h=>absurd hpos (by omega)) (fun h=> ?_)
 have hg0:(aJ zs)[0]? =some (I6 (aC zs 0)):=al (by omega)
 (refine aI ?_;refine ai ?_;refine ah ?_;refine ab ?_;apply aa rfl;(exact ae rfl rfl);apply aa rfl;(exact aU (j:=0) rfl rfl rfl rfl rfl (by as_aux_lemma=>kernel_rfl) rfl hpos hil);apply aa rfl;(exact a7 rfl (by as_aux_lemma=>kernel_rfl) rfl rfl rfl (by first | assumption | exact al (by assumption) | exact ar (by assumption) | exact al (by omega) | exact ar (by omega) | rfl));apply aa rfl;(exact ag rfl rfl);refine aj ?_;refine ai ?_;refine ah ?_;refine ah ?_;refine ab ?_;apply aa rfl;(exact ag rfl rfl);refine aj ?_;refine ai ?_;refine aB ?_)
 refine bl (fun i:Nat=>St.of [(0,o1 (.sl 1005 0 n)),(3,vv (I6 (aC zs (i - 1)))),(4,vv (I6 i))] [(1005,pG zs)]) (fun i=>1≤i∧i≤n) (fun i=>n - i) 1 ⟨Nat.le_refl _,hpos⟩ (Wk.of ⟨rfl,rfl,rfl,trivial⟩ ⟨rfl,trivial⟩ trivial) ?_
 rintro i ⟨hi1,hi2⟩
 (refine ah ?_;refine ah ?_;refine ab ?_;apply aa rfl;(exact ae rfl rfl);apply aa rfl;(exact ae rfl rfl);apply aa rfl;(exact a8 rfl rfl rfl (by as_aux_lemma=>kernel_rfl));apply aa rfl;(exact aD rfl rfl rfl rfl);refine aj ?_;refine ai ?_)
 refine bF rfl (fun hlt=> ?_) (fun hlt=> ?_)
 ·have hlt':i < n:=by omega
  have hgi:(aJ zs)[i]? =some (I6 (aC zs i)):=al (by omega)
  have hle:aC zs (i - 1)≤aC zs i:=by
   have:=ha (i - 1) (by omega)
   rwa [show i - 1 + 1=i by omega] at this
  have hmx:(if aC zs i > aC zs (i - 1) then aC zs i else aC zs (i - 1))=aC zs (i + 1 - 1):=by
   rw [Nat.add_sub_cancel];split
   ·rfl
   ·omega
  (refine aI ?_;refine ai ?_;refine ah ?_;refine aB ?_;refine ab ?_;apply aa rfl;(exact ae rfl rfl);apply aa rfl;(exact ae rfl rfl);apply aa rfl;(exact ae rfl rfl);apply aa rfl;(exact aU (j:=i) rfl rfl rfl rfl rfl (by as_aux_lemma=>kernel_rfl) rfl hlt' hil);apply aa rfl;(exact a7 rfl (by as_aux_lemma=>kernel_rfl) rfl rfl rfl (by first | assumption | exact al (by assumption) | exact ar (by assumption) | exact al (by omega) | exact ar (by omega) | rfl));apply aa rfl;(exact vt rfl rfl rfl);apply aa rfl;(exact ag rfl rfl);refine aj ?_;refine aK ?_;refine ai ?_;refine ab ?_;apply aa rfl;(exact ae rfl rfl);apply aa rfl;(exact aR rfl rfl rfl (by first | exact IntWalk.i64_in _ (by omega) | rfl));apply aa rfl;(exact ag rfl rfl);refine aj ?_)
  exact aX (i + 1) ⟨by omega,by omega⟩ (by omega) (Wk.of ⟨rfl,congrArg (fun z=>some (vv (I6 z))) hmx,rfl,trivial⟩ ⟨rfl,trivial⟩ trivial)
 ·obtain rfl:i=n:=by omega
  (refine a5 ?_;refine ax ?_;refine ax ?_;refine aM ?_;refine ai ?_;refine ah ?_;refine ab ?_;apply aa rfl;(exact ae rfl rfl);apply aa rfl;(exact ag rfl rfl);refine aj ?_;refine ai ?_;refine aW ?_)
  exact bd (.inl rfl) rfl (.tmp rfl) trivial trivial
set_option maxRecDepth 100000 in
theorem yI (a b:Nat) (ha:a < 1000000000000) (hb:b < 1000000000000):FC Try.prog 55 [] [vv (I6 a),vv (I6 b)] [] (vv (I6 (Nat.gcd a b))) []:=by
 refine bc (nt:=12) Try.func55 rfl rfl (by simp) fun w0 ω0=> ?_
 (refine ah ?_;refine ab ?_;apply aa rfl;(exact ag rfl rfl);refine aj ?_;refine ai ?_;refine ah ?_;refine aB ?_)
 refine bl (fun q:Nat×Nat=>St.of [(0,vv (I6 q.1)),(1,vv (I6 q.2))] []) (fun q=>Nat.gcd q.1 q.2=Nat.gcd a b∧q.1 < 1000000000000∧q.2 < 1000000000000) (fun q=>q.2) (a,b) ⟨rfl,ha,hb⟩ (Wk.of ⟨rfl,rfl,trivial⟩ trivial trivial) ?_
 rintro ⟨c,d⟩ ⟨hg,hc,hd⟩
 dsimp only at hg hc hd ⊢
 (refine ah ?_;refine ah ?_;refine ab ?_;apply aa rfl;(exact ae rfl rfl);apply aa rfl;(exact aD rfl rfl rfl rfl);refine aj ?_;refine ai ?_)
 refine au rfl (fun h=> ?_) (fun h=> ?_)
 ·have hd0:0 < d:=by
   have:(d:Int)≠0:=by simpa using h
   omega
  have hlt:=Nat.mod_lt c hd0
  have hg':Nat.gcd d (c % d)=Nat.gcd a b:=by rw [←hg,Nat.gcd_comm c d,Nat.gcd_rec d c,Nat.gcd_comm]
  (refine aI ?_;refine ai ?_;refine aB ?_)
  apply lz 4 [] [2,3] [[], [], [], [1,2], [0,1], [0,1,2,3,4]] [7,8,9,10] [] (by kernel_rfl) (by kernel_rfl) (by kernel_rfl)
  ·(apply aF rfl;(intro S1 hS;exact ae rfl (hS.op rfl));apply aF rfl;(intro S1 hS;exact ae rfl (hS.op rfl));apply aF rfl;(intro S1 hS;exact ae rfl (hS.op rfl));(apply aF rfl;(focus (intro S1 hS;exact ji rfl (hS.op rfl) (hS.op rfl) hd0 hc)));exact ey.nil)
  ·rfl
  refine ⟨⟨?_, ?_⟩, ?_, ?_⟩
  ·refine c7 (St.of [(0,vv (I6 d)),(1,vv (I6 (c % d:Nat)))] []) ?_ ?_
   ·((apply aA 4 rfl (by as_aux_lemma=>kernel_rfl) rfl rfl;(exact ag rfl rfl));(apply aA 5 rfl (by as_aux_lemma=>kernel_rfl) rfl rfl;(exact ag rfl rfl));(refine aY (by as_aux_lemma=>kernel_rfl) ?_;exact aL (Wk.of ⟨rfl,rfl,trivial⟩ trivial trivial)))
   ·(refine aK ?_)
    exact aX (d,c % d) ⟨hg',hd,by dsimp only;omega⟩ hlt (Wk.of ⟨rfl,rfl,trivial⟩ trivial trivial)
  ·refine c7 (St.of [(0,vv (I6 d)),(1,vv (I6 (c % d:Nat)))] []) ?_ ?_
   ·((apply bL 3 4 rfl (by as_aux_lemma=>kernel_rfl) rfl rfl rfl rfl;(exact ji rfl rfl rfl hd0 hc);(exact ag rfl rfl);(focus ((apply aA 4 rfl (by as_aux_lemma=>kernel_rfl) rfl rfl;(exact ag rfl rfl));(apply aA 5 rfl (by as_aux_lemma=>kernel_rfl) rfl rfl;(exact ag rfl rfl));(refine aY (by as_aux_lemma=>kernel_rfl) ?_;exact aL (Wk.of ⟨rfl,rfl,trivial⟩ trivial trivial))));(focus ((apply aA 3 rfl (by as_aux_lemma=>kernel_rfl) rfl rfl;(exact ji rfl rfl rfl hd0 hc));(apply aA 5 rfl (by as_aux_lemma=>kernel_rfl) rfl rfl;(exact ag rfl rfl));(refine aY (by as_aux_lemma=>kernel_rfl) ?_;exact aL (Wk.of ⟨rfl,rfl,trivial⟩ trivial trivial))))))
   ·(refine aK ?_)
    exact aX (d,c % d) ⟨hg',hd,by dsimp only;omega⟩ hlt (Wk.of ⟨rfl,rfl,trivial⟩ trivial trivial)
  ·refine c7 (St.of [(0,vv (I6 d)),(1,vv (I6 (c % d:Nat)))] []) ?_ ?_
   ·((apply bL 2 4 rfl (by as_aux_lemma=>kernel_rfl) rfl rfl rfl rfl;(exact ae rfl rfl);(exact ag rfl rfl);(focus ((apply aA 4 rfl (by as_aux_lemma=>kernel_rfl) rfl rfl;(exact ag rfl rfl));(apply aA 5 rfl (by as_aux_lemma=>kernel_rfl) rfl rfl;(exact ag rfl rfl));(refine aY (by as_aux_lemma=>kernel_rfl) ?_;exact aL (Wk.of ⟨rfl,rfl,trivial⟩ trivial trivial))));(focus ((apply aA 2 rfl (by as_aux_lemma=>kernel_rfl) rfl rfl;(exact ae rfl rfl));(apply aA 5 rfl (by as_aux_lemma=>kernel_rfl) rfl rfl;(exact ag rfl rfl));(refine aY (by as_aux_lemma=>kernel_rfl) ?_;exact aL (Wk.of ⟨rfl,rfl,trivial⟩ trivial trivial))))))
   ·(refine aK ?_)
    exact aX (d,c % d) ⟨hg',hd,by dsimp only;omega⟩ hlt (Wk.of ⟨rfl,rfl,trivial⟩ trivial trivial)
  ·refine c7 (St.of [(0,vv (I6 d)),(1,vv (I6 (c % d:Nat)))] []) ?_ ?_
   ·((apply bL 2 4 rfl (by as_aux_lemma=>kernel_rfl) rfl rfl rfl rfl;(exact ae rfl rfl);(exact ag rfl rfl);(focus ((apply bL 3 4 rfl (by as_aux_lemma=>kernel_rfl) rfl rfl rfl rfl;(exact ji rfl rfl rfl hd0 hc);(exact ag rfl rfl);(focus ((apply aA 4 rfl (by as_aux_lemma=>kernel_rfl) rfl rfl;(exact ag rfl rfl));(apply aA 5 rfl (by as_aux_lemma=>kernel_rfl) rfl rfl;(exact ag rfl rfl));(refine aY (by as_aux_lemma=>kernel_rfl) ?_;exact aL (Wk.of ⟨rfl,rfl,trivial⟩ trivial trivial))));(focus ((apply aA 3 rfl (by as_aux_lemma=>kernel_rfl) rfl rfl;(exact ji rfl rfl rfl hd0 hc));(apply aA 5 rfl (by as_aux_lemma=>kernel_rfl) rfl rfl;(exact ag rfl rfl));(refine aY (by as_aux_lemma=>kernel_rfl) ?_;exact aL (Wk.of ⟨rfl,rfl,trivial⟩ trivial trivial)))))));(focus ((apply aA 2 rfl (by as_aux_lemma=>kernel_rfl) rfl rfl;(exact ae rfl rfl));(apply aA 3 rfl (by as_aux_lemma=>kernel_rfl) rfl rfl;(exact ji rfl rfl rfl hd0 hc));(apply aA 5 rfl (by as_aux_lemma=>kernel_rfl) rfl rfl;(exact ag rfl rfl));(refine aY (by as_aux_lemma=>kernel_rfl) ?_;exact aL (Wk.of ⟨rfl,rfl,trivial⟩ trivial trivial))))))
   ·(refine aK ?_)
    exact aX (d,c % d) ⟨hg',hd,by dsimp only;omega⟩ hlt (Wk.of ⟨rfl,rfl,trivial⟩ trivial trivial)
 ·have hd0:d=0:=by
   have:(d:Int)=0:=by simpa using h
   omega
  subst hd0
  rw [←hg,Nat.gcd_zero_right]
  (refine a5 ?_;refine ax ?_;refine ax ?_;refine aM ?_;refine ai ?_;refine ah ?_;refine ab ?_;apply aa rfl;(exact ae rfl rfl);apply aa rfl;(exact ag rfl rfl);refine aj ?_;refine ai ?_;refine aW ?_)
  exact bd (.inl rfl) rfl (.tmp rfl) trivial trivial
end Go.Proofs.Ytekbhbcgoadciaa
namespace Go.Proofs.Ytekbhbcgoadciaa
open Go.RowKit
def oc (k:Nat) (labs:List Int):Nat:=if (cX labs).length=0 then (if As labs=true∧k≠2 then 1 else 2) else k
def eQ (ps:dP) (j:Nat):Nat:=(ps.take j).foldl (fun k p=>oc k p.2) 0
theorem lp {ps:dP} {j:Nat} (h:j < ps.length):eQ ps (j + 1)=oc (eQ ps j) (db ps j).2:=by
 unfold eQ
 rw [List.take_add_one,List.getElem?_eq_getElem h,List.foldl_append,lF h]
 rfl
theorem yD (ps:dP):∀j,eQ ps j≤2:=by
 intro j
 induction j with
 | zero=>exact Nat.zero_le _
 | succ j ih=>
  by_cases h:j < ps.length
  ·rw [lp h];unfold oc;split
   ·split
    ·decide
    ·exact Nat.le_refl _
   ·exact ih
  ·have:eQ ps (j + 1)=eQ ps j:=by unfold eQ;rw [List.take_of_length_le (by omega),List.take_of_length_le (by omega)]
   rw [this];exact ih
def ew (zs:List Int):Nat:=2 ^ (zs.length + 1) - 1
theorem rH {zs:List Int} (h:zs.length≤4):ew zs < 1000:=by
 have:2 ^ (zs.length + 1)≤2 ^ 5:=Nat.pow_le_pow_right (by decide) (by omega)
 unfold ew;omega
theorem dz {zs:List Int} (h:cf zs=true):zs.length≤4:=by unfold cf at h;simp at h;omega
theorem ur {zs:List Int} (h:cf zs=true):∀z∈zs,z=0∨(2≤z∧z≤32):=by
 intro z hz
 unfold cf at h
 simp at h
 have:=h.1 z hz
 unfold dK jF at this
 simp at this
 omega
theorem kJ {zs:List Int} {mask:Nat} (h:cf zs=true) {k:Nat} (hk:k < (comps zs mask).length):mh (db (comps zs mask) k).2:=by
 have hl:=dz h
 have hp:=jh zs mask
 have hm:=kr hk
 refine ⟨?_,fun z hz=> ?_⟩
 ·have h1:=nD hm
  have h2:=hp.sum
  omega
 ·have h1:=hp.lab _ hm z hz
  have h2:=ur h z h1.1
  have h3:=h1.2
  omega
theorem zd (zs:List Int) (L:Nat) (hL:zs.length=L) (hn:L≤4398046511104):FC Try.prog 14 [(1003,de zs)] [o1 (.sl 1003 0 L)] [] (vv (.bool (cf zs))) []:=
 dL fun w η ω us hm ⟨hl,ha⟩=>by
  subst hL
  obtain ⟨u0,g0,d0⟩:=ha 0 _ rfl
  obtain ⟨ao,c,rfl,hI⟩:=Bb (x:=1003) hm rfl d0 (by omega)
  rw [sd hl g0]
  exact fK ao _ c _ w hI
theorem zH (zs:List Int) (L:Nat) (hL:zs.length=L) (hn:L≤4398046511104):FC Try.prog 32 [(1003,de zs)] [o1 (.sl 1003 0 L)] [] (vv (.bool (cf zs))) []:=
 dL fun w η ω us hm ⟨hl,ha⟩=>by
  subst hL
  obtain ⟨u0,g0,d0⟩:=ha 0 _ rfl
  obtain ⟨ao,c,rfl,hI⟩:=Bb (x:=1003) hm rfl d0 (by omega)
  rw [sd hl g0]
  refine (rS ao _ c _ w hI).mono ?_
  rintro e w' ⟨rfl,rfl⟩
  exact ⟨rfl,Below.refl _ _⟩
theorem s8 (L:Nat):1≤2 ^ L:=Nat.one_le_two_pow
theorem Ag (zs:List Int) (L:Nat) (hL:zs.length=L) (h4:L≤4):FC Try.prog 30 [(1003,de zs)] [o1 (.sl 1003 0 L)] [] (vv (I6 (ew zs))) []:=by
 have h5:L≤5:=by omega
 have hp:2 ^ (L + 1)≤2 ^ 5:=Nat.pow_le_pow_right (by decide) (by omega)
 have h1:=s8 (L + 1)
 have hw:IntKind.i64.wrap (((2 ^ (L + 1):Nat):Int) - 1)=((ew zs:Nat):Int):=by
  rw [IntWalk.i64_in _ (by omega)]
  unfold ew;rw [hL];omega
 refine bc (nt:=7) Try.func30 rfl rfl (by simp) fun w0 ω0=> ?_
 (refine ah ?_;refine ab ?_;apply aa rfl;(exact ag rfl rfl);refine aj ?_;refine ai ?_;refine ah ?_;refine ab ?_;apply aa rfl;(exact ae rfl rfl);apply aa rfl;(exact a8 rfl rfl rfl (by as_aux_lemma=>kernel_rfl));apply aa rfl;(first | exact ti (g:=L) rfl rfl rfl h5 | exact bJ rfl rfl rfl hw);apply aa rfl;(first | exact ti (g:=L) rfl rfl rfl h5 | exact bJ rfl rfl rfl hw);apply aa rfl;(exact ag rfl rfl);refine aj ?_;refine ai ?_;refine aW ?_)
 exact bd (.inl rfl) rfl (.tmp rfl) trivial trivial
end Go.Proofs.Ytekbhbcgoadciaa
namespace Go.Proofs.Ytekbhbcgoadciaa
open Go.RowKit
section
variable {P:Program} {ops:Array Oper} {C:World→Prop} {o:Oper} {a:Act} {K:Act→Prop}
theorem mn {u:Value} (h:∀w,C w→(execOp a.eval o).run P w= .ok (.value u) w) (hk:K (a.put o.dst u)):o.quiet P a C K:=
 ⟨u,fun w hw=>by unfold Oper.quietAt;rw [h w hw];exact ⟨rfl,rfl⟩,hk⟩
theorem lh {f:FuncId} {args:Array Value} {v:Value} (h:∀w,C w→(execOp a.eval o).run P w= .ok (.enter f args) w) (hc:∀w,C w→Calls P f args w (fun e w''=>e= .returned v∧C w'')) (hk:K (a.put o.dst v)):o.quiet P a C K:=
 ⟨v,fun w hw=>by unfold Oper.quietAt;rw [h w hw];exact ⟨rfl,hc w hw⟩,hk⟩
theorem hJ {id:Nat} {Q:Exit→Act→World→Prop} {w:World} {l:List Oper} (hm:P.follows .mixedOrders=true) (hB:Region.lexB .any l.toArray=true)
  (h:wpQuiet P l.toArray (fun w'=>Below w.heap.size w w') (fun a'=>∀w',Below w.heap.size w w'→Q .normal a' w') l a):(Code.region id l.toArray true).wp P Q a w:=
 wp_region_quiet (C:=fun w'=>Below w.heap.size w w') hm hB (th w) (by simpa using h)
end
end Go.Proofs.Ytekbhbcgoadciaa
namespace Go.Proofs.Ytekbhbcgoadciaa
open Go.RowKit
theorem Ah (x:Int) (w:World):Calls Try.prog 102 #[.int .i64 x] w fun e w'=>e= .returned (.bool false)∧w'=w:=by
 have hx:(x != x)=false:=by simp
 go_enter Try.func102,Try.ntmps102
 go_wp2
 go_ret
 exact ⟨rfl,rfl⟩
theorem tF (x y:Int) (w:World):Calls Try.prog 91 #[.int .i64 x, .int .i64 y] w fun e w'=>e= .returned (.bool (decide (x < y)))∧w'=w:=by
 go_enter Try.func91,Try.ntmps91
 go_wp2_with (go_at_call 102;refine (Ah _ _).mono ?_;rintro e w' ⟨rfl,rfl⟩)
 go_ret
 exact ⟨rfl,rfl⟩
set_option maxRecDepth 100000 in
theorem AW (w:World):Calls Try.prog 95 #[.int .u64 0] w fun e w'=>(∃r:Int,e= .returned (.int .i64 r))∧w'=w:=by
 go_enter Try.func95,Try.ntmps95
 go_wp2
 go_ret
 exact ⟨⟨_,rfl⟩,rfl⟩
set_option maxRecDepth 100000 in
theorem AI (w:World):Calls Try.prog 95 #[.int .u64 1] w fun e w'=>(∃r:Int,e= .returned (.int .i64 r))∧w'=w:=by
 go_enter Try.func95,Try.ntmps95
 go_wp2
 go_ret
 exact ⟨⟨_,rfl⟩,rfl⟩
set_option maxRecDepth 100000 in
theorem A9 (w:World):Calls Try.prog 95 #[.int .u64 2] w fun e w'=>(∃r:Int,e= .returned (.int .i64 r))∧w'=w:=by
 go_enter Try.func95,Try.ntmps95
 go_wp2
 go_ret
 exact ⟨⟨_,rfl⟩,rfl⟩
set_option maxRecDepth 100000 in
theorem Ba (w:World):Calls Try.prog 95 #[.int .u64 3] w fun e w'=>(∃r:Int,e= .returned (.int .i64 r))∧w'=w:=by
 go_enter Try.func95,Try.ntmps95
 go_wp2
 go_ret
 exact ⟨⟨_,rfl⟩,rfl⟩
set_option maxRecDepth 100000 in
theorem AU (w:World):Calls Try.prog 95 #[.int .u64 4] w fun e w'=>(∃r:Int,e= .returned (.int .i64 r))∧w'=w:=by
 go_enter Try.func95,Try.ntmps95
 go_wp2
 go_ret
 exact ⟨⟨_,rfl⟩,rfl⟩
set_option maxRecDepth 100000 in
theorem A6 (w:World):Calls Try.prog 95 #[.int .u64 5] w fun e w'=>(∃r:Int,e= .returned (.int .i64 r))∧w'=w:=by
 go_enter Try.func95,Try.ntmps95
 go_wp2
 go_ret
 exact ⟨⟨_,rfl⟩,rfl⟩
theorem wY (k:Nat) (hk:k≤5) (w:World):Calls Try.prog 95 #[.int .u64 k] w fun e w'=>(∃r:Int,e= .returned (.int .i64 r))∧w'=w:=by
 rcases (by omega:k=0∨k=1∨k=2∨k=3∨k=4∨k=5) with rfl | rfl | rfl | rfl | rfl | rfl
 ·exact AW w
 ·exact AI w
 ·exact A9 w
 ·exact Ba w
 ·exact AU w
 ·exact A6 w
theorem AO (k:Nat) (hk:k≤5) (w:World):Calls Try.prog 76 #[.int .u64 k] w fun e w'=>(∃r:Int,e= .returned (.int .i64 r))∧w'=w:=by
 go_enter Try.func76,Try.ntmps76
 go_wp2_with fail
 refine (wY k hk _).mono ?_
 rintro e w' ⟨⟨r,rfl⟩,rfl⟩
 go_wp2
 go_ret
 exact ⟨⟨_,rfl⟩,rfl⟩
def Dm (cur:List Int) (i j:Nat):Prop:=∀x y,x < y→y≤i→y≠j→aC cur x≤aC cur y
theorem swap_perm:∀(l:List Int) (k:Nat),k + 1 < l.length→((l.set (k + 1) (aC l k)).set k (aC l (k + 1))).Perm l
 | [],k,h=>by simp at h
 | [a],k,h=>by simp at h
 | a :: b :: r,0,_=>by
  simp only [List.set_cons_succ,List.set_cons_zero]
  exact List.Perm.swap a b r
 | a :: b :: r,k + 1,h=>by
  have:=swap_perm (b :: r) k (by simpa using h)
  rw [show aC (a :: b :: r) (k + 1)=aC (b :: r) k by simp [aC],show aC (a :: b :: r) (k + 1 + 1)=aC (b :: r) (k + 1) by simp [aC],List.set_cons_succ,List.set_cons_succ]
  exact this.cons a
theorem tv {cur:List Int} {i j:Nat} (h:Dm cur i j) (hs:j=0∨aC cur (j - 1)≤aC cur j):∀x y,x < y→y≤i→aC cur x≤aC cur y:=by
 intro x y h1 h2
 by_cases e:y=j
 ·subst e
  rcases hs with h0 | h0
  ·omega
  ·by_cases e2:x=y - 1
   ·rw [e2];exact h0
   ·exact Int.le_trans (h x (y - 1) (by omega) (by omega) (by omega)) h0
 ·exact h x y h1 h2 e
theorem yl {cur:List Int} {i k:Nat} (hl:k + 1 < cur.length) (hk:k + 1≤i) (h:Dm cur i (k + 1)) (hlt:aC cur (k + 1) < aC cur k):Dm ((cur.set (k + 1) (aC cur k)).set k (aC cur (k + 1))) i k:=by
 have e1:aC ((cur.set (k + 1) (aC cur k)).set k (aC cur (k + 1))) k=aC cur (k + 1):=iK (by simp;omega) _
 have e2:aC ((cur.set (k + 1) (aC cur k)).set k (aC cur (k + 1))) (k + 1)=aC cur k:=by rw [gq (by omega),iK hl]
 have e3:∀z,z≠k→z≠k + 1→aC ((cur.set (k + 1) (aC cur k)).set k (aC cur (k + 1))) z=aC cur z:=fun z h1 h2=>by rw [gq (fun e=>h1 e.symm),gq (fun e=>h2 e.symm)]
 intro x y h1 h2 h3
 by_cases y1:y=k + 1
 ·subst y1
  rw [e2]
  by_cases x1:x=k
  ·subst x1;rw [e1];omega
  ·rw [e3 x x1 (by omega)];exact h x k (by omega) (by omega) (by omega)
 ·rw [e3 y h3 y1]
  by_cases x1:x=k
  ·subst x1;rw [e1];exact h (x + 1) y (by omega) h2 y1
  ·by_cases x2:x=k + 1
   ·subst x2;rw [e2];exact h k y (by omega) h2 y1
   ·rw [e3 x x1 x2];exact h x y h1 h2 y1
def bV (zs:List Int):List Int:=zs.mergeSort (fun a b=>decide (a≤b))
theorem rD {l:List Int} (h:∀x y,x < y→y < l.length→aC l x≤aC l y):l.Pairwise (· ≤·):=by
 rw [List.pairwise_iff_getElem]
 intro i j hi hj hij
 have:=h i j hij hj
 rwa [cG hi,cG hj] at this
theorem oQ {l zs:List Int} (hp:l.Perm zs) (ha:l.Pairwise (· ≤·)):l=bV zs:=by
 have h1:(bV zs).Pairwise (· ≤·):=by
  have:=List.pairwise_mergeSort (le:=fun a b:Int=>decide (a≤b)) (fun a b c h1 h2=>by simp at *;omega) (fun a b=>by simp;omega) zs
  exact this.imp (by simp)
 exact List.Perm.eq_of_pairwise (fun a b _ _ h1 h2=>Int.le_antisymm h1 h2) ha h1 (hp.trans (List.mergeSort_perm zs _).symm)
theorem mI (zs:List Int):(bV zs).length=zs.length:=(List.mergeSort_perm zs _).length_eq
end Go.Proofs.Ytekbhbcgoadciaa
namespace Go.Proofs.Ytekbhbcgoadciaa
theorem y9 {k:Nat} {labs:List Int} :oc k labs=0↔k=0∧(cX labs).length≠0:=by
 unfold oc
 by_cases h:(cX labs).length=0
 ·rw [if_pos h]
  constructor
  ·intro h2;split at h2<;>omega
  ·intro h2;exact absurd h h2.2
 ·rw [if_neg h];exact ⟨fun h2=>⟨h2,h⟩,fun h2=>h2.1⟩
theorem nE {ps:dP} :∀j,j≤ps.length→(eQ ps j=0↔∀k,k < j→(cX (db ps k).2).length≠0)
 | 0,_=>⟨fun _ k hk=>absurd hk (by omega),fun _=>rfl⟩
 | j + 1,h=>by
  rw [lp (by omega),y9,nE j (by omega)]
  constructor
  ·intro ⟨h1,h2⟩ k hk
   by_cases e:k=j
   ·rw [e];exact h2
   ·exact h1 k (by omega)
  ·intro h1;exact ⟨fun k hk=>h1 k (by omega),h1 j (by omega)⟩
def eT (ps:dP) (j:Nat):List Int:=((ps.take j).map fun p=>cX p.2).flatten
theorem jk {ps:dP} {j:Nat} (h:j < ps.length):eT ps (j + 1)=eT ps j ++ cX (db ps j).2:=by
 unfold eT
 rw [List.take_add_one,List.getElem?_eq_getElem h,lF h,List.map_append,List.flatten_append]
 simp only [Option.toList_some,List.map_cons,List.map_nil,List.flatten_cons,List.flatten_nil,List.append_nil]
def kM (labs:List Int):Nat:=(aC (cX labs) ((cX labs).length - 1)).toNat
def ju (ps:dP) (j:Nat):Nat:=(ps.take j).foldl (fun m p=>Nat.lcm m (kM p.2)) 1
theorem mE {ps:dP} {j:Nat} (h:j < ps.length):ju ps (j + 1)=Nat.lcm (ju ps j) (kM (db ps j).2):=by
 unfold ju
 rw [List.take_add_one,List.getElem?_eq_getElem h,List.foldl_append,lF h]
 rfl
theorem rh {labs:List Int} (h:mh labs):kM labs≤32:=by
 unfold kM
 by_cases hl:(cX labs).length=0
 ·rw [List.length_eq_zero_iff.1 hl];simp [aC]
 ·have:=nF h _ (eF (zs:=cX labs) (k:=(cX labs).length - 1) (by omega))
  omega
theorem sr {labs:List Int} (h:mh labs) (hl:(cX labs).length≠0):0 < kM labs:=by
 unfold kM
 have:=nF h _ (eF (zs:=cX labs) (k:=(cX labs).length - 1) (by omega))
 omega
theorem sF {labs:List Int} (h:mh labs) (hl:(cX labs).length≠0):aC (cX labs) ((cX labs).length - 1)=(kM labs:Int):=by
 have:=nF h _ (eF (zs:=cX labs) (k:=(cX labs).length - 1) (by omega))
 unfold kM
 omega
theorem Ae (m h:Nat):Nat.lcm m h≤m * h:=by unfold Nat.lcm;exact Nat.div_le_self _ _
theorem vO {ps:dP} (hL:∀k,k < ps.length→mh (db ps k).2):∀j,j≤ps.length→ju ps j≤32 ^ j
 | 0,_=>by simp [ju]
 | j + 1,h=>by
  rw [mE (by omega),Nat.pow_succ]
  exact Nat.le_trans (Ae _ _) (Nat.mul_le_mul (vO hL j (by omega)) (rh (hL j (by omega))))
theorem vC {ps:dP} (hL:∀k,k < ps.length→mh (db ps k).2) {j:Nat} (h:j≤ps.length) (h5:j≤5):ju ps j≤33554432:=
 Nat.le_trans (vO hL j h) (Nat.le_trans (Nat.pow_le_pow_right (by decide) h5) (by decide))
theorem vW (m h:Nat):m * (h / Nat.gcd m h)=Nat.lcm m h:=by unfold Nat.lcm;rw [Nat.mul_div_assoc _ (Nat.gcd_dvd_right m h)]
theorem tp {m h:Nat} (hh:0 < h):0 < Nat.gcd m h:=Nat.gcd_pos_of_pos_right m hh
theorem tD {n:Nat} {step:Int} {i:Nat} (h:i < n):aC (eZ n step) i=2 + step * i:=by
 rw [cG (by rw [cL];exact h)];simp [eZ]
theorem sw {labs:List Int} (hL:mh labs):∀i,i + 1 < (cX labs).length→aC (cX labs) i≤aC (cX labs) (i + 1):=by
 have hr:∀step:Int,0≤step→∀i,i + 1 < (eZ (labs.length + 1) step).length→aC (eZ (labs.length + 1) step) i≤aC (eZ (labs.length + 1) step) (i + 1):=fun step hs i hi=>by
  rw [cL] at hi
  rw [tD (by omega),tD hi]
  have:step * (i:Int)≤step * ((i + 1:Nat):Int):=Int.mul_le_mul_of_nonneg_left (by omega) hs
  omega
 have h0:∀l:List Int,l.length≤4→(∀i,i < 3→i + 1 < l.length→aC l i≤aC l (i + 1))→∀i,i + 1 < l.length→aC l i≤aC l (i + 1):=fun l h1 h2 i hi=>h2 i (by omega) hi
 unfold cX
 split
 ·intro i hi;simp at hi
 split
 ·rename_i h1 h2
  have h3:=hL.2 _ (eF (zs:=labs) (k:=0) (by omega))
  intro i hi
  obtain rfl:i=0:=by simp at hi;omega
  show (2:Int)≤aC labs 0
  omega
 split
 ·intro i hi;simp at hi
  rcases (by omega:i=0∨i=1) with rfl | rfl<;>decide
 split
 ·intro i hi;simp at hi
  rcases (by omega:i=0∨i=1∨i=2) with rfl | rfl | rfl<;>decide
 split
 ·intro i hi;simp at hi
  rcases (by omega:i=0∨i=1∨i=2) with rfl | rfl | rfl<;>decide
 split
 ·exact hr 1 (by decide)
 split
 ·exact hr 2 (by decide)
 ·intro i hi;simp at hi
def iv (zs:List Int) (mask:Nat):Bool:=decide (eQ (comps zs mask) (comps zs mask).length=0)
def km (zs:List Int) (mask:Nat):List Int:=bV (eT (comps zs mask) (comps zs mask).length)
def CC (zs:List Int) (mask:Nat):Nat:=ju (comps zs mask) (comps zs mask).length
theorem j9 {ps:dP} (hL:∀k,k < ps.length→mh (db ps k).2):∀j,j≤ps.length→(eT ps j).length≤fW (ps.take j)
 | 0,_=>by simp [eT]
 | j + 1,h=>by
  rw [jk (by omega),List.take_add_one,List.getElem?_eq_getElem (by omega),n6,List.length_append]
  have h1:=j9 hL j (by omega)
  have h2:=yx (db ps j).2 (hL j (by omega)).1
  rw [lF (by omega)] at h2 ⊢
  simp [fW] at h1 ⊢
  omega
theorem kH (ps:dP) (j:Nat):fW (ps.take j)≤fW ps:=by
 have:fW ps=fW (ps.take j) + fW (ps.drop j):=by rw [←n6,List.take_append_drop]
 omega
end Go.Proofs.Ytekbhbcgoadciaa
namespace Go.Proofs.Ytekbhbcgoadciaa
open Go.RowKit
def Cq:List Int:= [0,2,3,4,5,6]
def vi:Nat→List (List Int)
 | 0=> [[]]
 | k + 1=>Cq.flatMap fun z=>(vi k).map fun l=>z :: l
def wo:List (List Int):=fk ++ (iw ++ (vi 0 ++ (vi 1 ++ (vi 2 ++ vi 3))))
def yn:List (List Int):=wo ++ (wo.filter fun l=>decide (l.length≤1)).map fun l=>l ++ [2,2,2]
def wx:List (List Int):= [[], [3], [4], [5], [3,3], [4,3], [3,4], [5,3], [3,5], [2], [2,3], [3,2], [6,2], [3,3,3], [2,2], [7], [3,2,3], [4,2,3], [3,3,4], [4,3,3], [2,3,3], [3,3,2], [2,2,2,2], [3,2,2], [3,4,3], [3,3,5], [5,3,3], [3,3,3,3], [3,3,3,4], [5,3,2], [6], [2,4], [2,5], [2,6], [4,2], [5,2], [2,2,2], [2,2,3], [2,2,4], [2,2,5], [2,2,6], [2,3,2], [2,3,4], [2,3,5], [2,4,2], [2,4,3], [2,5,2], [2,5,3], [2,6,2], [3,2,4], [3,2,5], [3,2,6], [3,4,2], [3,5,2], [4,2,2], [4,2,4], [4,2,5], [4,2,6], [4,3,2], [5,2,2], [5,2,3], [5,2,4], [5,2,5], [5,2,6], [6,2,2], [6,2,3], [6,2,4], [6,2,5], [6,2,6], [3,2,2,2], [4,2,2,2], [5,2,2,2], [7,2,2,2], [6,2,2,2]]
theorem Ad {z:Int} (h:qZ z=true):z∈Cq:=by
 unfold qZ at h
 have h1:z=0∨(2≤z∧z≤6):=by simpa using h
 have h2:z=0∨z=2∨z=3∨z=4∨z=5∨z=6:=by omega
 unfold Cq
 simpa using h2
theorem wi:∀zs:List Int,zs.all qZ=true→zs∈vi zs.length
 | [],_=>by simp [vi]
 | z :: l,h=>by
  rw [List.all_cons,Bool.and_eq_true] at h
  exact List.mem_flatMap.2 ⟨z,Ad h.1,List.mem_map.2 ⟨l,wi l h.2,rfl⟩⟩
theorem tZ {zs:List Int} (h:AQ zs):zs∈wo:=by
 unfold wo
 simp only [List.mem_append]
 rcases h with h | h | ⟨h,h'⟩
 ·exact .inl h
 ·exact .inr (.inl h)
 ·have hb:=wi zs h'
  rcases (by omega:zs.length=0∨zs.length=1∨zs.length=2∨zs.length=3) with e | e | e | e<;>rw [e] at hb
  ·exact .inr (.inr (.inl hb))
  ·exact .inr (.inr (.inr (.inl hb)))
  ·exact .inr (.inr (.inr (.inr (.inl hb))))
  ·exact .inr (.inr (.inr (.inr (.inr hb))))
theorem zV {zs:List Int} (h:CJ zs) (hd:cf zs=true):zs∈yn:=by
 unfold yn
 rw [List.mem_append]
 rcases h with h | ⟨ys,z,hy,hz,rfl⟩ | ⟨ys,hy,rfl⟩
 ·exact .inl (tZ h)
 ·exfalso
  unfold cf at hd
  rw [Bool.and_eq_true,List.all_append,Bool.and_eq_true] at hd
  have h1:dK z=true:=by simpa using hd.1.2
  have h2:z=1∨z= -1∨z=33:=by simpa using hz
  rcases h2 with rfl | rfl | rfl<;>revert h1<;>decide
 ·refine .inr (List.mem_map.2 ⟨ys,List.mem_filter.2 ⟨tZ hy, ?_⟩,rfl⟩)
  have:=vh hd
  rw [List.length_append] at this
  simp at this ⊢;omega
theorem zC:(yn.all fun zs=> !iv zs (ew zs) || wx.contains zs)=true:=by decide +kernel
theorem AD {zs:List Int} (h:CJ zs) (hd:cf zs=true) (hf:iv zs (ew zs)=true):zs∈wx:=by
 have h1:=List.all_eq_true.1 zC zs (zV h hd)
 rw [hf] at h1
 simpa using h1
end Go.Proofs.Ytekbhbcgoadciaa
namespace Go.Proofs.Ytekbhbcgoadciaa
open Go.RowKit
theorem pd (x n:Nat):FC Try.prog 43 [] [o1 (.sl x 0 n)] [] (vv (I6 n)) []:=by
 refine bc (nt:=5) Try.func43 rfl rfl (by simp) fun w0 ω0=> ?_
 (refine ah ?_;refine ab ?_;apply aa rfl;(exact ag rfl rfl);refine aj ?_;refine ai ?_;refine ah ?_;refine ab ?_;apply aa rfl;(exact ae rfl rfl);apply aa rfl;(exact a8 rfl rfl rfl (by as_aux_lemma=>kernel_rfl));apply aa rfl;(exact ag rfl rfl);refine aj ?_;refine ai ?_;refine aW ?_)
 exact bd (.inl rfl) rfl (.tmp rfl) trivial trivial
theorem sY (x n:Nat):FC Try.prog 22 [] [o1 (.sl x 0 n)] [] (vv (I6 n)) []:=by
 refine bc (nt:=5) Try.func22 rfl rfl (by simp) fun w0 ω0=> ?_
 (refine ah ?_;refine ab ?_;apply aa rfl;(exact ag rfl rfl);refine aj ?_;refine ai ?_;refine ah ?_;refine ab ?_;apply aa rfl;(exact ae rfl rfl);apply aa rfl;(exact a8 rfl rfl rfl (by as_aux_lemma=>kernel_rfl));apply aa rfl;(exact ag rfl rfl);refine aj ?_;refine ai ?_;refine aW ?_)
 exact bd (.inl rfl) rfl (.tmp rfl) trivial trivial
theorem fG (x i n:Nat):FC Try.prog 22 [] [o1 (.esl x i 0 n)] [] (vv (I6 n)) []:=by
 refine bc (nt:=5) Try.func22 rfl rfl (by simp) fun w0 ω0=> ?_
 (refine ah ?_;refine ab ?_;apply aa rfl;(exact ag rfl rfl);refine aj ?_;refine ai ?_;refine ah ?_;refine ab ?_;apply aa rfl;(exact ae rfl rfl);apply aa rfl;(exact a8 rfl rfl rfl (by as_aux_lemma=>kernel_rfl));apply aa rfl;(exact ag rfl rfl);refine aj ?_;refine ai ?_;refine aW ?_)
 exact bd (.inl rfl) rfl (.tmp rfl) trivial trivial
theorem tN (z:Int):∀n,dw [z] n=List.replicate n z:=fun n=>by
 unfold dw
 induction n with
 | zero=>rfl
 | succ n ih=>simp [List.replicate_succ] at ih ⊢
theorem Au {α:Type} (x:Nat) (c:α):lk x [(x,c)]=some c:=by simp [lk]
theorem gX (x y n:Nat) (z:Int) (hn:n≤1048576) (hn0:0 < n):
  FC Try.prog 37 [(x,⟨false,2,1, .bG (aJ [z])⟩)] [o1 (.sl x 0 1),vv (I6 n)] [(y,⟨true,2,1, .bG (aJ (List.replicate n z))⟩)] (o1 (.sl y 0 n)) []:=by
 have h:=mq (P:=Try.prog) (f:=37) (ins:= [(x,⟨false,2,1, .bG (aJ [z])⟩)]) (args:= [o1 (.sl x 0 1),vv (I6 n)]) (x:=y) (E:=2) (zs:=List.replicate n z) fun w η ω us hm hd=>by
  obtain ⟨hl,ha⟩:=hd
  obtain ⟨u0,h0,d0⟩:=ha 0 _ rfl
  obtain ⟨u1,h1,d1⟩:=ha 1 _ rfl
  obtain ⟨ao,c,e0,hi⟩:=Bb (zs:= [z]) (E:=2) (own:=false) hm (Au _ _) d0 (by simp)
  have d1:u1=I6 n:=d1
  subst e0 d1
  obtain rfl:us= [.slice ao 1 c,I6 n]:=by
   match us,hl,h0,h1 with
   | [p,q],_,h0,h1=>simp at h0 h1;rw [h0,h1]
  refine (lj ao 1 c n [z] w hi (by omega) hn (by omega) (by omega)).mono ?_
  rintro e w' ⟨ao',c',rfl,ho,hb⟩
  rw [Nat.one_mul,tN] at ho
  rw [List.length_replicate]
  exact ⟨ao',c',by rw [Nat.one_mul],ho,hb⟩
 rw [List.length_replicate] at h
 exact h
end Go.Proofs.Ytekbhbcgoadciaa
namespace Go.Proofs.Ytekbhbcgoadciaa
open Go.RowKit
abbrev fM (ps:dP):List jG:=ps.flatMap fun p=> [.v (I6 (p.1:Int)), .r 2 1 p.2.length (aJ p.2)]
abbrev rK (ps:dP):Ch:=⟨true,80,2, .mix (fM ps)⟩
theorem nM (ps:dP):(fM ps).length=ps.length * 2:=by
 induction ps with
 | nil=>rfl
 | cons p r ih=>simp [fM] at ih ⊢;omega
theorem kf:∀ {ps:dP} {k:Nat},k < ps.length→(fM ps)[k * 2]? =some (.v (I6 ((db ps k).1:Int)))∧(fM ps)[k * 2 + 1]? =some (.r 2 1 (db ps k).2.length (aJ (db ps k).2))
 | [],_,h=>by simp at h
 | p :: r,0,_=>⟨rfl,rfl⟩
 | p :: r,k + 1,h=>by
  have:=kf (ps:=r) (k:=k) (by simpa using h)
  rw [show (k + 1) * 2=k * 2 + 2 by omega]
  exact this
theorem zE (a b:dP):fM (a ++ b)=fM a ++ fM b:=by simp [fM]
theorem ue:∀(ps:dP) (k:Nat) (m:Nat) (zs:List Int),k < ps.length→((fM ps).set (k * 2) (.v (I6 (m:Int)))).set (k * 2 + 1) (.r 2 1 zs.length (aJ zs))=fM (ps.set k (m,zs))
 | [],_,_,_,h=>by simp at h
 | p :: r,0,m,zs,_=>rfl
 | p :: r,k + 1,m,zs,h=>by
  have:=ue r k m zs (by simpa using h)
  rw [show (k + 1) * 2=k * 2 + 2 by omega]
  show ((.v (I6 (p.1:Int))) :: .r 2 1 p.2.length (aJ p.2) :: ((fM r).set (k * 2) (.v (I6 (m:Int)))).set (k * 2 + 1) (.r 2 1 zs.length (aJ zs)))=_
  rw [this];rfl
set_option maxRecDepth 100000 in
set_option maxHeartbeats 2000000 in
theorem tO (zs:List Int) (L mask:Nat) (hL:zs.length=L) (h4:L≤4) (hm:mask < 1000):
  FC Try.prog 52 [(1003,de zs)] [o1 (.sl 1003 0 L),vv (I6 mask)] [(2000,rK (comps zs mask))] (o1 (.sl 2000 0 (comps zs mask).length)) []:=by
 have hSz:=sY 1003 L
 refine bc (nt:=68) Try.func52 rfl rfl (by simp) fun w0 ω0=> ?_
 have hil:L≤(aJ zs).length:=by rw [an,hL];exact Nat.le_refl _
 have hL1:IntKind.i64.wrap ((L:Int) + 1)=((L + 1:Nat):Int):=IntWalk.i64_in _ (by omega)
 (refine ah ?_;refine ab ?_;apply aa rfl;(exact ag rfl rfl);refine aj ?_;refine ai ?_;refine ah ?_;refine ab ?_;apply aa rfl;(exact ag rfl rfl);refine aj ?_;refine ai ?_;refine ah ?_;refine ab ?_;apply aa rfl;(exact ag rfl rfl);refine aj ?_;refine ai ?_;refine ah ?_;refine ah ?_;refine ab ?_;apply aa rfl;(exact ae rfl rfl);apply aa rfl;(first | (apply ak 22;exact aq hSz (by as_aux_lemma=>kernel_rfl) rfl rfl ⟨rfl,trivial⟩ trivial rfl rfl) | exact aR rfl rfl rfl hL1);apply aa rfl;(first | (apply ak 22;exact aq hSz (by as_aux_lemma=>kernel_rfl) rfl rfl ⟨rfl,trivial⟩ trivial rfl rfl) | exact aR rfl rfl rfl hL1);apply aa rfl;(exact ae rfl rfl);refine aj ?_;refine ai ?_;refine aB ?_)
 refine bl (fun q:Nat×dP×Bool=>St.of [(0,o1 (.sl 1003 0 L)),(1,vv (I6 mask)),(5,o1 (.sl 2000 0 q.2.1.length)),(6,vv (.bool q.2.2)),(11,vv (I6 (L + 1:Nat))),(12,vv (I6 q.1))] [(1003,de zs),(2000,rK q.2.1)])
  (fun q=>q.1≤L + 1∧rC zs mask q.1=q.2.1∧(q.1≤L→q.2.2=jn zs mask q.1)) (fun q=>L + 1 - q.1) (0, [],false) ⟨Nat.zero_le _,rfl,fun _=>rfl⟩
  (Wk.trans (pj (t:=5) (n:=2000) (k:=2) (E:=80) (d:= .mix (fM [])) rfl rfl) (Wk.of ⟨rfl,rfl,rfl,rfl,rfl,rfl,trivial⟩ ⟨rfl,rfl,trivial⟩ trivial)) ?_
 rintro ⟨i,ps,jb⟩ ⟨hi,hp,hj⟩
 dsimp only at hi hp hj ⊢
 have hps:=rq zs mask i (by omega)
 have hnx:=px zs mask i
 rw [hp] at hps hnx
 have hpl:ps.length≤5:=by have:=iu ps;have:=hps.sum;omega
 have hmx:=nM ps
 (refine ah ?_;refine ab ?_;apply aa rfl;(exact aD rfl rfl rfl rfl);refine aj ?_;refine ai ?_;refine ah ?_)
 refine bF rfl (fun hlt=> ?_) (fun hlt=> ?_)
 ·have hiL:i≤L:=by omega
  have hj:=hj hiL
  have hi64:i≤64:=by omega
  have hmm:mask < 1000000:=by omega
  have hmle:mask / 2 ^ i≤mask:=Nat.div_le_self _ _
  (refine aI ?_;refine ai ?_;refine ah ?_;refine aB ?_;refine ah ?_;refine ab ?_;apply aa rfl;(exact ae rfl rfl);apply aa rfl;(exact ag rfl rfl);refine aj ?_;refine ai ?_;refine ah ?_;refine ah ?_;refine ab ?_;apply aa rfl;(exact ae rfl rfl);apply aa rfl;(exact ae rfl rfl);apply aa rfl;(first | exact ep (g:=i) rfl rfl rfl hi64 | exact fg rfl rfl hmm | exact fj rfl rfl);apply aa rfl;(first | exact ep (g:=i) rfl rfl rfl hi64 | exact fg rfl rfl hmm | exact fj rfl rfl);apply aa rfl;(first | exact ep (g:=i) rfl rfl rfl hi64 | exact fg rfl rfl hmm | exact fj rfl rfl);refine aj ?_;refine ai ?_)
  refine au rfl (fun hb=> ?_) (fun hb=> ?_)
  ·have hb:k7 mask i=false:=by simpa using hb
   have hv:rC zs mask (i + 1)=ps:=by rw [hnx];unfold oW;rw [if_neg (by rw [hb];simp)]
   (refine ah ?_;refine ab ?_;apply aa rfl;(exact ag rfl rfl);refine aj ?_;refine ai ?_;refine a5 ?_;refine ax ?_;refine aM ?_;refine ai ?_;refine ab ?_;apply aa rfl;(exact aR rfl rfl rfl (by first | exact IntWalk.i64_in _ (by omega) | rfl));apply aa rfl;(exact ae rfl rfl);refine aj ?_)
   exact aX (i + 1,ps,false) ⟨by omega,hv,fun _=>by unfold jn;rw [Nat.add_sub_cancel,hb];simp⟩ (by show L + 1 - (i + 1) < L + 1 - i;omega) (Wk.of ⟨rfl,rfl,rfl,rfl,rfl,rfl,trivial⟩ ⟨rfl,rfl,trivial⟩ trivial)
  ·have hb:k7 mask i=true:=by simpa using hb
   unfold oW at hnx
   rw [if_pos hb,←hj] at hnx
   have hjn:∀b:Bool,i≤L→(i + 1≤L→b= !(aC zs i == 2))→(i + 1≤L→b=jn zs mask (i + 1)):=fun b _ h1 h2=>by
    rw [h1 h2];unfold jn;rw [Nat.add_sub_cancel,hb];simp
   have hi5:i≤5:=by omega
   (refine aI ?_;refine ai ?_;refine ah ?_;refine ah ?_;refine ab ?_;apply aa rfl;(exact ae rfl rfl);refine aj ?_;refine ai ?_)
   refine cg (St.of [(0,o1 (.sl 1003 0 L)),(1,vv (I6 mask)),(5,o1 (.sl 2000 0 (rC zs mask (i + 1)).length)),(7,vv (I6 i)),(11,vv (I6 (L + 1:Nat))),(12,vv (I6 i))] [(1003,de zs),(2000,rK (rC zs mask (i + 1)))]) ?_ ?_
   ·refine au rfl (fun hjb=> ?_) (fun hjb=> ?_)
    ·have hjs:=r9 (hj ▸ hjb)
     have hne:=hps.ne hjs.1 hjs.2.1
     obtain ⟨j,hjl⟩:∃j,ps.length=j + 1:=⟨ps.length - 1,by omega⟩
     have hjp:j < ps.length:=by omega
     have hv:rC zs mask (i + 1)=ps.set j ((db ps j).1 ||| 2 ^ i,(db ps j).2 ++ [aC zs (i - 1)]):=by
      rw [hnx,if_pos hjb];unfold vJ;rw [show ps.length - 1=j by omega]
     have hsub:IntKind.i64.wrap ((ps.length:Int) - 1)=(j:Int):=by rw [hjl];exact (IntWalk.i64_in _ (by omega)).trans (by omega)
     have hget:=kf hjp
     have hmlt:=hps.lt _ (kr hjp)
     have hllt:=nD (kr hjp)
     have hsum:=hps.sum
     have h2i:2 ^ i≤2 ^ 5:=Nat.pow_le_pow_right (by decide) hi5
     have hset:=ue ps j ((db ps j).1 ||| 2 ^ i) ((db ps j).2 ++ [aC zs (i - 1)]) hjp
     have hml:(fM ps).length=ps.length * 2:=hmx
     rw [hv]
     generalize (db ps j).1=m at *
     generalize (db ps j).2=labs at *
     have gz:(aJ zs)[i - 1]? =some (I6 (aC zs (i - 1))):=al (by omega)
     have hi1:(i:Int) - 1=((i - 1:Nat):Int):=by omega
     have hi1L:i - 1 < L:=by omega
     have hm6:m < 1000000:=by omega
     have h2i6:2 ^ i < 1000000:=by omega
     have hv0:(fM ps)[j * 2 + 0]? =some (.v (I6 (m:Int))):=hget.1
     have hv1:((fM ps).set (j * 2 + 0) (.v (I6 ((m ||| 2 ^ i:Nat):Int))))[j * 2 + 1]? =some (.r 2 1 labs.length (aJ labs)):=by
      rw [List.getElem?_set_ne (by omega)];exact hget.2
     have hvl:(aJ (labs ++ [aC zs (i - 1)])).length=(labs.length + 1) * 1:=by rw [an];simp
     have hk1l:j * 2 + 1 < (((fM ps).set (j * 2 + 0) (.v (I6 ((m ||| 2 ^ i:Nat):Int)))).set (j * 2 + 1) .any).length:=by rw [List.length_set,List.length_set];omega
     have hfin:(((fM ps).set (j * 2 + 0) (.v (I6 ((m ||| 2 ^ i:Nat):Int)))).set (j * 2 + 1) .any).set (j * 2 + 1) (.r 2 1 (labs.length + 1) (aJ (labs ++ [aC zs (i - 1)])))=fM (ps.set j (m ||| 2 ^ i,labs ++ [aC zs (i - 1)])):=by
      rw [List.set_set,←hset];simp
     have hix:ps.length * 2≤(fM ps).length:=Nat.le_of_eq hmx.symm
     (refine ah ?_;refine ab ?_;apply aa rfl;(exact ae rfl rfl);apply aa rfl;(exact ae rfl rfl);apply aa rfl;(exact a8 rfl rfl rfl (by as_aux_lemma=>kernel_rfl));apply aa rfl;(first | exact bJ rfl rfl rfl hsub | exact eA (k:=2) (j:=j) rfl rfl rfl rfl rfl (by as_aux_lemma=>kernel_rfl) rfl hjp hix (by omega) rfl);apply aa rfl;(first | exact bJ rfl rfl rfl hsub | exact eA (k:=2) (j:=j) rfl rfl rfl rfl rfl (by as_aux_lemma=>kernel_rfl) rfl hjp hix (by omega) rfl);apply aa rfl;(exact ag rfl rfl);refine aj ?_;refine ai ?_;refine ah ?_)
     apply dG 7 [] [[], [0], [0,1], [0,1,2], [], [4], [0,1,2,3,4,5], [0,1,2,3,4,5,6], [0,1,2,3,4,5,6,7], [0,1,2,3,4,5,6,7,8]] [26,27,28,29,30,31,32] [] (by kernel_rfl) (by kernel_rfl)
     ·(apply aF rfl;(intro S1 hS;exact ae rfl (hS.op rfl));apply aF rfl;(intro S1 hS;exact bh rfl (hS.op rfl) (hS.ch _ _ rfl));apply aF rfl;(intro S1 hS;exact aE (d:=0) rfl (hS.op rfl) (hS.ch _ _ rfl) (by as_aux_lemma=>kernel_rfl));(first | (apply aF rfl;(focus (intro S1 hS;exact mH rfl (by as_aux_lemma=>kernel_rfl) (hS.op rfl) (hS.ch _ _ rfl) rfl hv0))) | (apply aF rfl;(focus (intro S1 hS;exact eD (g:=i) rfl (hS.op rfl) (hS.op rfl) hi5))) | (apply aF rfl;(focus (intro S1 hS;exact rE rfl (hS.op rfl) (hS.op rfl) hm6 h2i6))));apply aF rfl;(intro S1 hS;exact ae rfl (hS.op rfl));(first | (apply aF rfl;(focus (intro S1 hS;exact mH rfl (by as_aux_lemma=>kernel_rfl) (hS.op rfl) (hS.ch _ _ rfl) rfl hv0))) | (apply aF rfl;(focus (intro S1 hS;exact eD (g:=i) rfl (hS.op rfl) (hS.op rfl) hi5))) | (apply aF rfl;(focus (intro S1 hS;exact rE rfl (hS.op rfl) (hS.op rfl) hm6 h2i6))));(first | (apply aF rfl;(focus (intro S1 hS;exact mH rfl (by as_aux_lemma=>kernel_rfl) (hS.op rfl) (hS.ch _ _ rfl) rfl hv0))) | (apply aF rfl;(focus (intro S1 hS;exact eD (g:=i) rfl (hS.op rfl) (hS.op rfl) hi5))) | (apply aF rfl;(focus (intro S1 hS;exact rE rfl (hS.op rfl) (hS.op rfl) hm6 h2i6))));exact ey.nil)
     ·rfl
     ((apply aA 7 rfl (by as_aux_lemma=>kernel_rfl) rfl rfl;(exact bh rfl rfl rfl));(apply aA 8 rfl (by as_aux_lemma=>kernel_rfl) rfl rfl;(exact aE (d:=0) rfl rfl rfl (by as_aux_lemma=>kernel_rfl)));(apply aA 9 rfl (by as_aux_lemma=>kernel_rfl) rfl rfl;(exact uN rfl rfl rfl rfl rfl hv0 (by as_aux_lemma=>kernel_rfl) rfl));(refine aY (by as_aux_lemma=>kernel_rfl) ?_;skip))
     (refine ai ?_)
     apply ld 11 [] 0 [[], [], [1], [1,2], [1,2,3], [], [], [6], [5,6,7], [5,6,7,8], [5,6,7,8,9], [1,2,3,4,5,6,7,8,9,10], [0,1,2,3,4,5,6,7,8,9,10,11], [0,1,2,3,4,5,6,7,8,9,10,11,12], [0,1,2,3,4,5,6,7,8,9,10,11,12,13]] [35,36,37,38,39,40,41,42,43,44,45] [45] (by kernel_rfl) (by kernel_rfl) rfl
     ·(apply aF rfl;(intro S1 hS;exact ae rfl (hS.op rfl));apply aF rfl;(intro S1 hS;exact ae rfl (hS.op rfl));apply aF rfl;(intro S1 hS;exact bh rfl (hS.op rfl) (hS.ch _ _ rfl));apply aF rfl;(intro S1 hS;exact aE (d:=1) rfl (hS.op rfl) (hS.ch _ _ rfl) (by as_aux_lemma=>kernel_rfl));(first | (apply aF rfl;(focus (intro S1 hS;exact jN rfl (by as_aux_lemma=>kernel_rfl) (hS.op rfl) (hS.ch _ _ rfl) rfl hv1))) | (apply aF rfl;(focus (intro S1 hS;exact bJ rfl (hS.op rfl) (hS.op rfl) (IntWalk.i64_in _ (by omega))))) | (apply aF rfl;(focus (intro S1 hS;exact aU (j:=i - 1) rfl (hS.op rfl) (hS.op rfl) (hS.ch _ _ rfl) rfl (by as_aux_lemma=>kernel_rfl) hi1 hi1L hil))) | (apply aF rfl;(focus (intro S1 hS;exact a7 rfl (by as_aux_lemma=>kernel_rfl) (hS.op rfl) (hS.ch _ _ rfl) rfl gz))));apply aF rfl;(intro S1 hS;exact ae rfl (hS.op rfl));apply aF rfl;(intro S1 hS;exact ae rfl (hS.op rfl));(first | (apply aF rfl;(focus (intro S1 hS;exact jN rfl (by as_aux_lemma=>kernel_rfl) (hS.op rfl) (hS.ch _ _ rfl) rfl hv1))) | (apply aF rfl;(focus (intro S1 hS;exact bJ rfl (hS.op rfl) (hS.op rfl) (IntWalk.i64_in _ (by omega))))) | (apply aF rfl;(focus (intro S1 hS;exact aU (j:=i - 1) rfl (hS.op rfl) (hS.op rfl) (hS.ch _ _ rfl) rfl (by as_aux_lemma=>kernel_rfl) hi1 hi1L hil))) | (apply aF rfl;(focus (intro S1 hS;exact a7 rfl (by as_aux_lemma=>kernel_rfl) (hS.op rfl) (hS.ch _ _ rfl) rfl gz))));(first | (apply aF rfl;(focus (intro S1 hS;exact jN rfl (by as_aux_lemma=>kernel_rfl) (hS.op rfl) (hS.ch _ _ rfl) rfl hv1))) | (apply aF rfl;(focus (intro S1 hS;exact bJ rfl (hS.op rfl) (hS.op rfl) (IntWalk.i64_in _ (by omega))))) | (apply aF rfl;(focus (intro S1 hS;exact aU (j:=i - 1) rfl (hS.op rfl) (hS.op rfl) (hS.ch _ _ rfl) rfl (by as_aux_lemma=>kernel_rfl) hi1 hi1L hil))) | (apply aF rfl;(focus (intro S1 hS;exact a7 rfl (by as_aux_lemma=>kernel_rfl) (hS.op rfl) (hS.ch _ _ rfl) rfl gz))));(first | (apply aF rfl;(focus (intro S1 hS;exact jN rfl (by as_aux_lemma=>kernel_rfl) (hS.op rfl) (hS.ch _ _ rfl) rfl hv1))) | (apply aF rfl;(focus (intro S1 hS;exact bJ rfl (hS.op rfl) (hS.op rfl) (IntWalk.i64_in _ (by omega))))) | (apply aF rfl;(focus (intro S1 hS;exact aU (j:=i - 1) rfl (hS.op rfl) (hS.op rfl) (hS.ch _ _ rfl) rfl (by as_aux_lemma=>kernel_rfl) hi1 hi1L hil))) | (apply aF rfl;(focus (intro S1 hS;exact a7 rfl (by as_aux_lemma=>kernel_rfl) (hS.op rfl) (hS.ch _ _ rfl) rfl gz))));apply fJ rfl;(intro S1 hS;exact bM (E:=2) rfl (by as_aux_lemma=>kernel_rfl) (hS.op rfl));exact ey.nil)
     ·rfl
     ·refine c7 (St.of [(0,o1 (.sl 1003 0 L)),(1,vv (I6 mask)),(5,o1 (.sl 2000 0 ps.length)),(7,vv (I6 i)),(11,vv (I6 (L + 1:Nat))),(12,vv (I6 i))] [(1003,de zs),(2000,rK (ps.set j (m ||| 2 ^ i,labs ++ [aC zs (i - 1)])))]) ?_ ?_
      ·((apply aA 11 rfl (by as_aux_lemma=>kernel_rfl) rfl rfl;((first | exact bQ.pre (gN (n:=2000) (z:=46) (s:=39) rfl rfl hv1 rfl) (bg rfl (by as_aux_lemma=>kernel_rfl) rfl rfl rfl rfl rfl rfl (by omega)) | exact fv rfl rfl rfl rfl hvl rfl hk1l (by as_aux_lemma=>kernel_rfl))));(apply aA 12 rfl (by as_aux_lemma=>kernel_rfl) rfl rfl;(exact bh rfl rfl rfl));(apply aA 13 rfl (by as_aux_lemma=>kernel_rfl) rfl rfl;(exact aE (d:=1) rfl rfl rfl (by as_aux_lemma=>kernel_rfl)));(apply aA 14 rfl (by as_aux_lemma=>kernel_rfl) rfl rfl;((first | exact bQ.pre (gN (n:=2000) (z:=46) (s:=39) rfl rfl hv1 rfl) (bg rfl (by as_aux_lemma=>kernel_rfl) rfl rfl rfl rfl rfl rfl (by omega)) | exact fv rfl rfl rfl rfl hvl rfl hk1l (by as_aux_lemma=>kernel_rfl))));(refine aY (by as_aux_lemma=>kernel_rfl) ?_;exact aL (Wk.of ⟨rfl,rfl,rfl,rfl,rfl,rfl,trivial⟩ ⟨rfl,congrArg (fun l=>some (⟨true,80,2, .mix l⟩:Ch)) hfin,trivial⟩ trivial)))
      ·(skip)
       exact aL (Wk.of ⟨rfl,rfl,congrArg (fun n=>some (o1 (.sl 2000 0 n))) (List.length_set ..).symm,rfl,rfl,rfl,trivial⟩ ⟨rfl,rfl,trivial⟩ trivial)
     ·refine c7 (St.of [(0,o1 (.sl 1003 0 L)),(1,vv (I6 mask)),(5,o1 (.sl 2000 0 ps.length)),(7,vv (I6 i)),(11,vv (I6 (L + 1:Nat))),(12,vv (I6 i))] [(1003,de zs),(2000,rK (ps.set j (m ||| 2 ^ i,labs ++ [aC zs (i - 1)])))]) ?_ ?_
      ·((apply bL 0 11 rfl (by as_aux_lemma=>kernel_rfl) rfl rfl rfl rfl;(exact ae rfl rfl);((first | exact bQ.pre (gN (n:=2000) (z:=46) (s:=39) rfl rfl hv1 rfl) (bg rfl (by as_aux_lemma=>kernel_rfl) rfl rfl rfl rfl rfl rfl (by omega)) | exact fv rfl rfl rfl rfl hvl rfl hk1l (by as_aux_lemma=>kernel_rfl)));(focus ((apply aA 11 rfl (by as_aux_lemma=>kernel_rfl) rfl rfl;((first | exact bQ.pre (gN (n:=2000) (z:=46) (s:=39) rfl rfl hv1 rfl) (bg rfl (by as_aux_lemma=>kernel_rfl) rfl rfl rfl rfl rfl rfl (by omega)) | exact fv rfl rfl rfl rfl hvl rfl hk1l (by as_aux_lemma=>kernel_rfl))));(apply aA 12 rfl (by as_aux_lemma=>kernel_rfl) rfl rfl;(exact bh rfl rfl rfl));(apply aA 13 rfl (by as_aux_lemma=>kernel_rfl) rfl rfl;(exact aE (d:=1) rfl rfl rfl (by as_aux_lemma=>kernel_rfl)));(apply aA 14 rfl (by as_aux_lemma=>kernel_rfl) rfl rfl;((first | exact bQ.pre (gN (n:=2000) (z:=46) (s:=39) rfl rfl hv1 rfl) (bg rfl (by as_aux_lemma=>kernel_rfl) rfl rfl rfl rfl rfl rfl (by omega)) | exact fv rfl rfl rfl rfl hvl rfl hk1l (by as_aux_lemma=>kernel_rfl))));(refine aY (by as_aux_lemma=>kernel_rfl) ?_;exact aL (Wk.of ⟨rfl,rfl,rfl,rfl,rfl,rfl,trivial⟩ ⟨rfl,congrArg (fun l=>some (⟨true,80,2, .mix l⟩:Ch)) hfin,trivial⟩ trivial))));(focus ((apply aA 0 rfl (by as_aux_lemma=>kernel_rfl) rfl rfl;(exact ae rfl rfl));(apply aA 12 rfl (by as_aux_lemma=>kernel_rfl) rfl rfl;(exact bh rfl rfl rfl));(apply aA 13 rfl (by as_aux_lemma=>kernel_rfl) rfl rfl;(exact aE (d:=1) rfl rfl rfl (by as_aux_lemma=>kernel_rfl)));(apply aA 14 rfl (by as_aux_lemma=>kernel_rfl) rfl rfl;((first | exact bQ.pre (gN (n:=2000) (z:=46) (s:=39) rfl rfl hv1 rfl) (bg rfl (by as_aux_lemma=>kernel_rfl) rfl rfl rfl rfl rfl rfl (by omega)) | exact fv rfl rfl rfl rfl hvl rfl hk1l (by as_aux_lemma=>kernel_rfl))));(refine aY (by as_aux_lemma=>kernel_rfl) ?_;exact aL (Wk.of ⟨rfl,rfl,rfl,rfl,rfl,rfl,trivial⟩ ⟨rfl,congrArg (fun l=>some (⟨true,80,2, .mix l⟩:Ch)) hfin,trivial⟩ trivial))))))
      ·(skip)
       exact aL (Wk.of ⟨rfl,rfl,congrArg (fun n=>some (o1 (.sl 2000 0 n))) (List.length_set ..).symm,rfl,rfl,rfl,trivial⟩ ⟨rfl,rfl,trivial⟩ trivial)
    ·have hv:rC zs mask (i + 1)=ps ++ [(2 ^ i, [])]:=by rw [hnx,if_neg (by rw [hjb];simp)]
     rw [hv]
     have hcel:∀(j:Nat) (c:jG) (u:Value), [jG.v (I6 ((2 ^ i:Nat):Int)),jG.r 2 1 0 []][j]? =some c→ [I6 ((2 ^ i:Nat):Int),Value.slice none 0 0][j]? =some u→oE c u:=by
      intro j c u h1 h2
      match j,h1,h2 with
      | 0,h1,h2=>simp at h1 h2;subst h1 h2;rfl
      | 1,h1,h2=>simp at h1 h2;subst h1 h2;exact ⟨rfl,rfl,rfl⟩
     have h1c:∀v∈ [I6 ((2 ^ i:Nat):Int),Value.slice none 0 0],v.oneCell'=true:=by
      intro v hv
      rcases List.mem_cons.1 hv with rfl | hv
      ·rfl
      ·obtain rfl:v= .slice none 0 0:=by simpa using hv
       rfl
     (refine ab ?_;apply aa rfl;(exact ae rfl rfl);apply aa rfl;(exact ae rfl rfl);apply aa rfl;(first | exact eD (g:=i) rfl rfl rfl hi5 | exact iH (vs:= [I6 ((2 ^ i:Nat):Int), .slice none 0 0]) rfl rfl rfl | exact kE (E:=80) rfl (by as_aux_lemma=>kernel_rfl) rfl | exact gM (cn:= [jG.v (I6 ((2 ^ i:Nat):Int)),jG.r 2 1 0 []]) (news:= [I6 ((2 ^ i:Nat):Int), .slice none 0 0]) (k:=2) (m:=1) rfl (by as_aux_lemma=>kernel_rfl) rfl rfl rfl hmx rfl (eB (k:=2) (vs:= [I6 ((2 ^ i:Nat):Int), .slice none 0 0]) rfl rfl rfl rfl (Nat.le_refl _)) (by omega) h1c rfl hcel (by omega));apply aa rfl;(first | exact eD (g:=i) rfl rfl rfl hi5 | exact iH (vs:= [I6 ((2 ^ i:Nat):Int), .slice none 0 0]) rfl rfl rfl | exact kE (E:=80) rfl (by as_aux_lemma=>kernel_rfl) rfl | exact gM (cn:= [jG.v (I6 ((2 ^ i:Nat):Int)),jG.r 2 1 0 []]) (news:= [I6 ((2 ^ i:Nat):Int), .slice none 0 0]) (k:=2) (m:=1) rfl (by as_aux_lemma=>kernel_rfl) rfl rfl rfl hmx rfl (eB (k:=2) (vs:= [I6 ((2 ^ i:Nat):Int), .slice none 0 0]) rfl rfl rfl rfl (Nat.le_refl _)) (by omega) h1c rfl hcel (by omega));apply aa rfl;(first | exact eD (g:=i) rfl rfl rfl hi5 | exact iH (vs:= [I6 ((2 ^ i:Nat):Int), .slice none 0 0]) rfl rfl rfl | exact kE (E:=80) rfl (by as_aux_lemma=>kernel_rfl) rfl | exact gM (cn:= [jG.v (I6 ((2 ^ i:Nat):Int)),jG.r 2 1 0 []]) (news:= [I6 ((2 ^ i:Nat):Int), .slice none 0 0]) (k:=2) (m:=1) rfl (by as_aux_lemma=>kernel_rfl) rfl rfl rfl hmx rfl (eB (k:=2) (vs:= [I6 ((2 ^ i:Nat):Int), .slice none 0 0]) rfl rfl rfl rfl (Nat.le_refl _)) (by omega) h1c rfl hcel (by omega));apply aa rfl;(first | exact eD (g:=i) rfl rfl rfl hi5 | exact iH (vs:= [I6 ((2 ^ i:Nat):Int), .slice none 0 0]) rfl rfl rfl | exact kE (E:=80) rfl (by as_aux_lemma=>kernel_rfl) rfl | exact gM (cn:= [jG.v (I6 ((2 ^ i:Nat):Int)),jG.r 2 1 0 []]) (news:= [I6 ((2 ^ i:Nat):Int), .slice none 0 0]) (k:=2) (m:=1) rfl (by as_aux_lemma=>kernel_rfl) rfl rfl rfl hmx rfl (eB (k:=2) (vs:= [I6 ((2 ^ i:Nat):Int), .slice none 0 0]) rfl rfl rfl rfl (Nat.le_refl _)) (by omega) h1c rfl hcel (by omega));apply aa rfl;(exact ag rfl rfl);refine aj ?_)
     exact aL (Wk.of ⟨rfl,rfl,congrArg (fun n=>some (o1 (.sl 2000 0 n))) (by simp),rfl,rfl,rfl,trivial⟩ ⟨rfl,congrArg (fun l=>some (⟨true,80,2, .mix l⟩:Ch)) (zE ps [(2 ^ i, [])]).symm,trivial⟩ trivial)
   ·(refine ai ?_;refine ab ?_;apply aa rfl;(exact ae rfl rfl);apply aa rfl;(exact ae rfl rfl);apply aa rfl;(apply ak 22;exact aq hSz (by as_aux_lemma=>kernel_rfl) rfl rfl ⟨rfl,trivial⟩ trivial rfl rfl);apply aa rfl;(exact aD rfl rfl rfl rfl);apply aa rfl;(exact ae rfl rfl))
    refine bH 59 rfl (fun h1=> ?_) (fun h1=> ?_)
    ·have h1':i < L:=by have:=of_decide_eq_true h1;omega
     have gi:(aJ zs)[i]? =some (I6 (aC zs i)):=al (by omega)
     (apply aH rfl rfl rfl;(exact ae rfl rfl);apply aH rfl rfl rfl;(exact ae rfl rfl);apply aH rfl rfl rfl;(exact aU (j:=i) rfl rfl rfl rfl rfl (by as_aux_lemma=>kernel_rfl) rfl h1' hil);apply aH rfl rfl rfl;(exact a7 rfl (by as_aux_lemma=>kernel_rfl) rfl rfl rfl (by first | assumption | exact al (by assumption) | exact ar (by assumption) | exact al (by omega) | exact ar (by omega) | rfl));apply aH rfl rfl rfl;(exact aD rfl rfl rfl rfl);apply aa rfl;(exact bf rfl rfl rfl);apply aa rfl;(exact ag rfl rfl);refine aj ?_;refine aK ?_;refine ai ?_;refine ab ?_;apply aa rfl;(exact aR rfl rfl rfl (by first | exact IntWalk.i64_in _ (by omega) | rfl));apply aa rfl;(exact ae rfl rfl);refine aj ?_)
     exact aX (i + 1,rC zs mask (i + 1),aC zs i != 2) ⟨by omega,rfl,hjn _ hiL fun _=>rfl⟩ (by show L + 1 - (i + 1) < L + 1 - i;omega) (Wk.of ⟨rfl,rfl,rfl,rfl,rfl,rfl,trivial⟩ ⟨rfl,rfl,trivial⟩ trivial)
    ·have h1':¬i < L:=by have:=of_decide_eq_false h1;omega
     (apply aG rfl rfl rfl rfl rfl;apply aG rfl rfl rfl rfl rfl;apply aG rfl rfl rfl rfl rfl;apply aG rfl rfl rfl rfl rfl;apply aG rfl rfl rfl rfl rfl;apply aa rfl;(exact br rfl rfl rfl);apply aa rfl;(exact ag rfl rfl);refine aj ?_;refine aK ?_;refine ai ?_;refine ab ?_;apply aa rfl;(exact aR rfl rfl rfl (by first | exact IntWalk.i64_in _ (by omega) | rfl));apply aa rfl;(exact ae rfl rfl);refine aj ?_)
     exact aX (i + 1,rC zs mask (i + 1),false) ⟨by omega,rfl,fun h=>absurd h (by omega)⟩ (by show L + 1 - (i + 1) < L + 1 - i;omega) (Wk.of ⟨rfl,rfl,rfl,rfl,rfl,rfl,trivial⟩ ⟨rfl,rfl,trivial⟩ trivial)
 ·obtain rfl:i=L + 1:=by omega
  have hv:comps zs mask=ps:=by unfold comps;rw [hL];exact hp
  rw [hv]
  (refine a5 ?_;refine ax ?_;refine ax ?_;refine aM ?_;refine ai ?_;refine ah ?_;refine ab ?_;apply aa rfl;(exact ae rfl rfl);apply aa rfl;(exact ag rfl rfl);refine aj ?_;refine ai ?_;refine aW ?_)
  exact bd (.inl rfl) rfl (.tmp rfl) ⟨rfl,trivial⟩ trivial
end Go.Proofs.Ytekbhbcgoadciaa
