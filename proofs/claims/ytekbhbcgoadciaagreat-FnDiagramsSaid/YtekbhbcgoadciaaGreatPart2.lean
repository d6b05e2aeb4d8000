/- A memory of names: a contract under other names. No program in sight. -/
import Derived.Test.YtekbhbcgoadciaaGreatPart1
set_option maxRecDepth 100000
set_option maxHeartbeats 6400000
namespace Go.Proofs.YtekbhbcgoadciaaGreat
open Go.RowKit
def A1.lP (σ:Nm→Nm):A1→A1
 | .val v=> .val v
 | .any=> .any
 | .sl x o n=> .sl (σ x) o n
 | .ptr x o=> .ptr (σ x) o
 | .esl x i o n=> .esl (σ x) i o n
 | .eptr x i o=> .eptr (σ x) i o
 | .clo f xs=> .clo f (xs.map fun p=>(σ p.1,p.2))
def A2.lP (σ:Nm→Nm):A2→A2
 | .one a=> .one (a.lP σ)
 | .agg l=> .agg (l.map (A1.lP σ))
def AV.lP (σ:Nm→Nm):AV→AV
 | .s a=> .s (a.lP σ)
 | .tup l=> .tup (l.map (A2.lP σ))
def eQ.lP (σ:Nm→Nm):eQ→eQ
 | .flat l=> .flat (l.map (A1.lP σ))
 | .bR vs=> .bR vs
 | .rows E vss holes=> .rows E vss holes
 | .mix cs=> .mix cs
def Ch.lP (σ:Nm→Nm) (c:Ch):Ch:=⟨c.own,c.E,c.k,c.d.lP σ⟩
def sT (σ:Nm→Nm) (l:List (Nm×Ch)):List (Nm×Ch):=l.map fun p=>(σ p.1,p.2.lP σ)
def Fy (σ:Nm→Nm) (l:List (Nat×AV)):List (Nat×AV):=l.map fun p=>(p.1,p.2.lP σ)
def Env.pull (η:Env) (σ:Nm→Nm):Env:= { h:=fun x=>η.h (σ x),r:=fun x=>η.r (σ x) }
theorem mu {η:Env} {σ:Nm→Nm} {a:A1} {u:Value} :c6 η (a.lP σ) u↔c6 (η.pull σ) a u:=by
 cases a with
 | clo f xs=>
  constructor
  ·rintro ⟨us,h1,h2,h3⟩
   refine ⟨us,h1,by simpa using h2,fun j p hp=> ?_⟩
   exact h3 j (σ p.1,p.2) (by simp [hp])
  ·rintro ⟨us,h1,h2,h3⟩
   refine ⟨us,h1,by simpa using h2,fun j p hp=> ?_⟩
   simp only [List.getElem?_map,Option.map_eq_some_iff] at hp
   obtain ⟨q,hq,rfl⟩:=hp
   exact h3 j q hq
 | _=>exact Iff.rfl
theorem r8 {η:Env} {σ:Nm→Nm} {a:A2} {u:Value} :gj η (a.lP σ) u↔gj (η.pull σ) a u:=by
 cases a with
 | one a=>exact mu
 | agg l=>
  constructor
  ·rintro ⟨us,h1,h2,h3⟩
   refine ⟨us,h1,by simpa using h2,fun j a ha=> ?_⟩
   obtain ⟨u',h4,h5⟩:=h3 j (a.lP σ) (by simp [ha])
   exact ⟨u',h4,mu.1 h5⟩
  ·rintro ⟨us,h1,h2,h3⟩
   refine ⟨us,h1,by simpa using h2,fun j a ha=> ?_⟩
   simp only [List.getElem?_map,Option.map_eq_some_iff] at ha
   obtain ⟨q,hq,rfl⟩:=ha
   obtain ⟨u',h4,h5⟩:=h3 j q hq
   exact ⟨u',h4,mu.2 h5⟩
theorem vL {η:Env} {σ:Nm→Nm} {a:AV} {u:Value} :Den η (a.lP σ) u↔Den (η.pull σ) a u:=by
 cases a with
 | s a=>exact r8
 | tup l=>
  constructor
  ·rintro ⟨us,h1,h2,h3⟩
   refine ⟨us,h1,by simpa using h2,fun j a ha=> ?_⟩
   obtain ⟨u',h4,h5⟩:=h3 j (a.lP σ) (by simp [ha])
   exact ⟨u',h4,r8.1 h5⟩
  ·rintro ⟨us,h1,h2,h3⟩
   refine ⟨us,h1,by simpa using h2,fun j a ha=> ?_⟩
   simp only [List.getElem?_map,Option.map_eq_some_iff] at ha
   obtain ⟨q,hq,rfl⟩:=ha
   obtain ⟨u',h4,h5⟩:=h3 j q hq
   exact ⟨u',h4,r8.2 h5⟩
section
variable {η:Env} {ω ω':bY} {w:World} {σ:Nm→Nm}
theorem lN.ow {own:Bool} {ow ow':Nm×Option Nat} {h:Hd} {E:TypeId} {len:Nat} {cell cell':Nat→Value→Prop} (hn:∀b,ω b=none→ω' b=none) (ho:∀b,ω b=some ow→ω' b=some ow') (hc:∀j u,cell j u→cell' j u) (hv:lN own ω w ow h E len cell):lN own ω' w ow' h E len cell':=by
 cases own with
 | true=>
  rcases hv with h0 | ⟨b,o,cs,h1,h2,h3,h4,h5,h6,h7⟩
  ·exact .inl h0
  ·refine .inr ⟨b,o,cs,h1,ho b h2,h3,h4,h5,h6,fun j hj=> ?_⟩
   obtain ⟨u,hu,hcu⟩:=h7 j hj
   exact ⟨u,hu,hc j u hcu⟩
 | false=>
  refine ⟨hv.1,fun j hj=> ?_⟩
  obtain ⟨b,o,u,h1,h2,h3,h4,h5⟩:=hv.2 j hj
  exact ⟨b,o,u,h1,hn b h2,h3,h4,hc j u h5⟩
theorem qy (d:eQ):(d.lP σ).len=d.len:=by cases d<;>simp [eQ.lP,eQ.len]
theorem eA.pull {x:Nm} {h:Hd} {c:Ch} (hn:∀b,ω b=none→ω' b=none) (ho:∀b i,ω b=some (σ x,i)→ω' b=some (x,i)) (hc:eA η ω w (σ x) h (c.lP σ)):eA (η.pull σ) ω' w x h c:=by
 refine ⟨hc.1, ?_⟩
 have h2:lN c.own ω w (σ x,none) h c.E (c.d.lP σ).len (cI η ω w c.own (σ x) (c.d.lP σ)):=hc.2
 rw [qy] at h2
 refine h2.ow hn (fun b=>ho b none) fun j u hu=> ?_
 cases hd:c.d with
 | flat l=>rw [hd] at hu;exact fun a ha=>mu.1 (hu (a.lP σ) (by simp [ha]))
 | bR vs=>rw [hd] at hu;exact hu
 | rows E vss holes=>
  rw [hd] at hu
  refine ⟨hu.1,fun hj vs hvs=> ?_⟩
  obtain ⟨h1,h2,h3⟩:=hu.2 hj vs hvs
  exact ⟨h1,h2,h3.ow hn (fun b=>ho b (some j)) fun _ _ h=>h⟩
 | mix cs=>rw [hd] at hu;exact ⟨hu.1,fun c hc=>kU.move (η:=η) (η':=η.pull σ) (x:=σ x) (x':=x) rfl (fun _ _ _ _ _ h3=>h3.ow hn (fun b=>ho b (some j)) fun _ _ h=>h) (hu.2 c hc)⟩
theorem eA.push {x:Nm} {h:Hd} {c:Ch} (hn:∀b,ω b=none→ω' b=none) (ho:∀b i,ω b=some (x,i)→ω' b=some (σ x,i)) (hc:eA (η.pull σ) ω w x h c):eA η ω' w (σ x) h (c.lP σ):=by
 refine ⟨hc.1, ?_⟩
 show lN c.own ω' w (σ x,none) h c.E (c.d.lP σ).len (cI η ω' w c.own (σ x) (c.d.lP σ))
 rw [qy]
 refine hc.2.ow hn (fun b=>ho b none) fun j u hu=> ?_
 cases hd:c.d with
 | flat l=>
  rw [hd] at hu
  intro a ha
  simp only [List.getElem?_map,Option.map_eq_some_iff] at ha
  obtain ⟨q,hq,rfl⟩:=ha
  exact mu.2 (hu q hq)
 | bR vs=>rw [hd] at hu;exact hu
 | rows E vss holes=>
  rw [hd] at hu
  refine ⟨hu.1,fun hj vs hvs=> ?_⟩
  obtain ⟨h1,h2,h3⟩:=hu.2 hj vs hvs
  exact ⟨h1,h2,h3.ow hn (fun b=>ho b (some j)) fun _ _ h=>h⟩
 | mix cs=>rw [hd] at hu;exact ⟨hu.1,fun c hc=>kU.move (η:=η.pull σ) (η':=η) (x:=x) (x':=σ x) rfl (fun _ _ _ _ _ h3=>h3.ow hn (fun b=>ho b (some j)) fun _ _ h=>h) (hu.2 c hc)⟩
theorem pe (hi:∀x y,σ x=σ y→x=y):∀(l:List (Nm×Ch)) (x:Nm),lk (σ x) (sT σ l)=(lk x l).map (Ch.lP σ)
 | [],_=>rfl
 | (y,c) :: r,x=>by
  simp only [sT,List.map_cons,lk]
  by_cases e:x=y
  ·subst e;simp
  ·rw [dy e,dy fun h=>e (hi _ _ h)];exact pe hi r x
theorem xw {l:List (Nm×Ch)} {y:Nm} {c:Ch} (h:lk y (sT σ l)=some c):∃x,σ x=y:=by
 obtain ⟨p,_,hp⟩:=List.mem_map.1 (lg h)
 simp only [Prod.mk.injEq] at hp
 exact ⟨p.1,hp.1⟩
theorem A4:∀(l:List (Nat×AV)) (t:Nat),lk t (Fy σ l)=(lk t l).map (AV.lP σ)
 | [],_=>rfl
 | (y,c) :: r,t=>by
  simp only [Fy,List.map_cons,lk]
  cases Nat.beq t y with
  | true=>rfl
  | false=>exact A4 r t
open Classical in
theorem FC.lP {P:Program} {f:FuncId} {ins outs:List (Nm×Ch)} {args:List AV} {res:AV} {back:List (Nat×AV)} (hi:∀x y,σ x=σ y→x=y) (h:FC P f ins args outs res back):FC P f (sT σ ins) (args.map (AV.lP σ)) (sT σ outs) (res.lP σ) (Fy σ back):=by
 intro w η ω us hm hd
 let inv:Nm→Option Nm:=fun y=>if h:∃x,σ x=y then some (Classical.choose h) else none
 have hinv:∀x,inv (σ x)=some x:=fun x=>by
  have hx:∃z,σ z=σ x:=⟨x,rfl⟩
  simp only [inv,dif_pos hx]
  exact congrArg some (hi _ _ (Classical.choose_spec hx))
 let ω1:bY:=fun b=>(ω b).bind fun o=>(inv o.1).map fun x=>(x,o.2)
 have m1:Mem (η.pull σ) ω1 w fun x=>lk x ins:=by
  refine ⟨fun x c hx=> ?_,fun x hx=> ?_⟩
  ·have hx:lk x ins=some c:=hx
   obtain ⟨hq,h1,h2⟩:=hm.1 (σ x) (c.lP σ) (by show lk (σ x) (sT σ ins)=_;rw [pe hi,hx];rfl)
   exact ⟨hq,h1,eA.pull (ω:=ω) (fun b hb=>by simp only [ω1,hb];rfl) (fun b i hb=>by simp only [ω1,hb,Option.bind_some,hinv,Option.map_some]) h2⟩
  ·have hx:lk x ins=none:=hx
   exact hm.2 (σ x) (by show lk (σ x) (sT σ ins)=none;rw [pe hi,hx];rfl)
 have d1:nB (η.pull σ) args us:=by
  refine ⟨by have:=hd.1;simpa using this,fun j av hj=> ?_⟩
  obtain ⟨u,h1,h2⟩:=hd.2 j (av.lP σ) (by simp [hj])
  exact ⟨u,h1,vL.1 h2⟩
 refine (h w _ ω1 us m1 d1).mono fun e w' hl=> ?_
 obtain ⟨v,η2,ω2,he,hv,hm2,hfr,hb⟩:=hl
 let η3:Env:= { h:=fun y=>(inv y).bind η2.h,r:=fun y=>match inv y with | some x=>η2.r x | none=>fun _=>⟨none,0,1⟩ }
 have hp:η3.pull σ=η2:=by
  have h1:(η3.pull σ).h=η2.h:=by funext x;simp only [Env.pull,η3,hinv,Option.bind_some]
  have h2:(η3.pull σ).r=η2.r:=by funext x;simp only [Env.pull,η3,hinv]
  cases hq:η3.pull σ;rw [hq] at h1 h2;cases η2;simp only at h1 h2;rw [h1,h2]
 refine ⟨v,η3,fun b=>(ω2 b).map fun o=>(σ o.1,o.2),he,vL.2 (hp ▸ hv),⟨fun y c hy=> ?_,fun y hy=> ?_⟩,⟨hfr.os,hfr.tape,hfr.output,hfr.size,fun b hb1 hb2=> ?_⟩,fun t av ht=> ?_⟩
 ·have hy:lk y (sT σ outs)=some c:=hy
  obtain ⟨x,rfl⟩:=xw hy
  rw [pe hi,Option.map_eq_some_iff] at hy
  obtain ⟨c0,hc0,rfl⟩:=hy
  obtain ⟨hq,h1,h2⟩:=hm2.1 x c0 hc0
  refine ⟨hq,by simp only [η3,hinv,Option.bind_some];exact h1, ?_⟩
  refine eA.push (ω:=ω2) (fun b hb=>by simp [hb]) (fun b i hb=>by simp [hb]) ?_
  rw [hp];exact h2
 ·have hy:lk y (sT σ outs)=none:=hy
  cases hiv:inv y with
  | none=>simp only [η3,hiv,Option.bind_none]
  | some x=>
   have hxy:σ x=y:=by
    simp only [inv] at hiv
    split at hiv
    ·rename_i hx;have:=Option.some.inj hiv;rw [←this];exact Classical.choose_spec hx
    ·cases hiv
   subst hxy
   rw [pe hi,Option.map_eq_none_iff] at hy
   simp only [η3,hiv,Option.bind_some]
   exact hm2.2 x hy
 ·have h1:ω1 b=none:=by simp only [ω1,hb2];rfl
  obtain ⟨h2,h3⟩:=hfr.block b hb1 h1
  exact ⟨h2,by simp [h3]⟩
 ·rw [A4,Option.map_eq_some_iff] at ht
  obtain ⟨a0,ha0,rfl⟩:=ht
  obtain ⟨u,h1,h2⟩:=hb t a0 ha0
  exact ⟨u,h1,vL.2 (hp ▸ h2)⟩
end
def nm (l:List (Nm×Nm)) (x:Nm):Nm:=match lk x l with
 | some y=>y
 | none=>x + 1000000
def Ia:List (Nm×Nm)→Bool
 | []=>true
 | (_,y) :: r=>Nat.blt y 1000000 && !(r.any fun p=>Nat.beq y p.2) && Ia r
theorem Ac:∀ {l:List (Nm×Nm)},Ia l=true→∀p∈l,p.2 < 1000000
 | [],_,p,h=>by cases h
 | q :: r,hb,p,h=>by
  obtain ⟨x,y⟩:=q
  simp only [Ia,Bool.and_eq_true] at hb
  rcases List.mem_cons.1 h with rfl | h
  ·simpa using hb.1.1
  ·exact Ac hb.2 p h
theorem Bp:∀ {l:List (Nm×Nm)},Ia l=true→∀x x' y,lk x l=some y→lk x' l=some y→x=x'
 | [],_,_,_,_,h,_=>by cases h
 | q :: r,hb,x,x',y,h,h'=>by
  obtain ⟨z,v⟩:=q
  simp only [Ia,Bool.and_eq_true,Bool.not_eq_true'] at hb
  have hno:∀x y,lk x r=some y→y≠v:=fun x y hx e=>by
   have:=List.any_eq_false.1 hb.1.2 _ (lg hx)
   rw [e] at this;simp at this
  unfold lk at h h'
  by_cases e:x=z
  ·subst e
   simp at h;subst h
   by_cases e':x'=x
   ·exact e'.symm
   ·rw [dy e'] at h';exact absurd rfl (hno x' _ h')
  ·rw [dy e] at h
   by_cases e':x'=z
   ·subst e';simp at h';subst h';exact absurd rfl (hno x _ h)
   ·rw [dy e'] at h';exact Bp hb.2 x x' y h h'
theorem Ip {l:List (Nm×Nm)} (hb:Ia l=true):∀x y,nm l x=nm l y→x=y:=by
 intro x y h
 unfold nm at h
 cases hx:lk x l with
 | none=>
  cases hy:lk y l with
  | none=>rw [hx,hy] at h;simpa using h
  | some v=>
   rw [hx,hy] at h
   have h1:Nat.add x 1000000=v:=h
   have h2:Nat.lt v 1000000:=Ac hb _ (lg hy)
   rw [←h1] at h2
   exact absurd h2 (Nat.not_lt.2 (Nat.le_add_left _ _))
 | some u=>
  cases hy:lk y l with
  | none=>
   rw [hx,hy] at h
   have h1:u=Nat.add y 1000000:=h
   have h2:Nat.lt u 1000000:=Ac hb _ (lg hx)
   rw [h1] at h2
   exact absurd h2 (Nat.not_lt.2 (Nat.le_add_left _ _))
  | some v=>rw [hx,hy] at h;simp at h;subst h;exact Bp hb x y _ hx hy
theorem FC.nm {P:Program} {f:FuncId} {ins outs:List (Nm×Ch)} {args:List AV} {res:AV} {back:List (Nat×AV)} (h:FC P f ins args outs res back) (l:List (Nm×Nm)) (hb:Ia l=true):
  FC P f (sT (nm l) ins) (args.map (AV.lP (nm l))) (sT (nm l) outs) (res.lP (nm l)) (Fy (nm l) back):=FC.lP (Ip hb) h
end Go.Proofs.YtekbhbcgoadciaaGreat
namespace Go.Proofs.YtekbhbcgoadciaaGreat
open Go.RowKit
abbrev I6 (z:Int):Value:= .int .i64 z
def aL (zs:List Int):List Value:=zs.map I6
def bV (zss:List (List Int)):List (List Value):=zss.map aL
theorem bc (zs:List Int):(aL zs).length=zs.length:=by simp [aL]
theorem cZ (zss:List (List Int)):(bV zss).length=zss.length:=by simp [bV]
theorem bl {zs:List Int} {j:Nat} (h:j < zs.length):(aL zs)[j]? =some (I6 (aC zs j)):=by simp [aL,cX h,h]
theorem cf {zss:List (List Int)} {j:Nat} (h:j < zss.length):(bV zss)[j]? =some (aL (bn zss j)):=by simp [bV,iB h,h]
theorem uE (zs:List Int) (j:Nat) (z:Int):(aL zs).set j (I6 z)=aL (zs.set j z):=by simp [aL,List.map_set]
theorem pz (zss:List (List Int)) (j:Nat) (zs:List Int):(bV zss).set j (aL zs)=bV (zss.set j zs):=by simp [bV,List.map_set]
theorem BG (zs:List Int) (z:Int):aL zs ++ [I6 z]=aL (zs ++ [z]):=by simp [aL]
theorem C6 (zss:List (List Int)) (zs:List Int):bV zss ++ [aL zs]=bV (zss ++ [zs]):=by simp [bV]
section
variable {P:Program} {nt:Nat} {S S':St} {w0 w:World} {ω0:ml} {ω:bY} {η:Env} {a:Act}
variable {t:Nat} {ty:TypeId} {ps:String} {af:Array Edge} {gd:Option (Nat×Bool)} {x y:Operand} {av:AV}
theorem aU {T:TypeId} {n:Nm} {k:Nat} {c:Ch} {l:List A1} (ht:Nat.blt t nt=true) (hx:S.op x=some (o1 (.ptr n 0))) (hc:S.ch n=some c) (hd:c.d= .flat l) (hk:l.length=k) (hk0:Nat.blt 0 k=true) (hT:vV P T k=true):
  cu P nt ⟨some t, .load T x,ty,ps,af,gd⟩ S (S.put t (.s (.agg l))):=
 cu.pure rfl ht fun _ _ η _ a w hs=>by
  obtain ⟨ad,u,h1,h2,h3⟩:=hs.Bn (P:=P) (hs.iE hx) hc hd ae (by simpa using hk0) hT
  rw [List.drop_zero,List.take_of_length_le ae] at h3
  exact ⟨u,by simp [execOp,h1,Instr.loadAt,Instr.sureAddr,h2],h3⟩
theorem aR {T:TypeId} {n:Nm} {len j:Nat} {c:Ch} {ki:IntKind} {i:Int} (ht:Nat.blt t nt=true) (hx:S.op x=some (o1 (.sl n 0 len))) (hy:S.op y=some (vv (.int ki i))) (hc:S.ch n=some c) (hk:c.k=1) (hT:lM P T 1=true)
  (hi:i=(j:Int)) (hj:j < len) (hl:len≤c.d.len):cu P nt ⟨some t, .indexAddr T x y,ty,ps,af,gd⟩ S (S.put t (o1 (.ptr n j))):=by
 have:=dh (P:=P) (nt:=nt) (S:=S) (t:=t) (ty:=ty) (ps:=ps) (af:=af) (gd:=gd) (x:=x) (y:=y) ht hx hy hc hk hT hi hj ae ae
 rwa [Nat.zero_add,Nat.mul_one] at this
theorem bd {T:TypeId} {n:Nm} {i0 len j:Nat} {c:Ch} {E:TypeId} {vss:List (List Value)} {vs:List Value} {ki:IntKind} {i:Int} (ht:Nat.blt t nt=true) (hx:S.op x=some (o1 (.esl n i0 0 len)))
  (hy:S.op y=some (vv (.int ki i))) (hc:S.ch n=some c) (hd:c.d= .rows E vss []) (hT:lM P T 1=true) (hi0:vss[i0]? =some vs) (hi:i=(j:Int)) (hj:j < len) (hl:len≤vs.length):
  cu P nt ⟨some t, .indexAddr T x y,ty,ps,af,gd⟩ S (S.put t (o1 (.eptr n i0 j))):=by
 have:=sC (P:=P) (nt:=nt) (S:=S) (t:=t) (ty:=ty) (ps:=ps) (af:=af) (gd:=gd) (x:=x) (y:=y) ht hx hy hc hd hT (by simp) hi0 hi hj ae
 rwa [Nat.zero_add] at this
theorem bf {T:TypeId} {n:Nm} {i:Nat} {c:Ch} {vs:List Value} {v:Value} (ht:Nat.blt t nt=true) (hT:qe P T=true) (hx:S.op x=some (o1 (.ptr n i))) (hc:S.ch n=some c) (hd:c.d= .bR vs) (hv:vs[i]? =some v):
  cu P nt ⟨some t, .load T x,ty,ps,af,gd⟩ S (S.put t (vv v)):=mw ht hT hx hc (by rw [hd];show vs[i]?.map A1.val=_;rw [hv];rfl)
theorem aZ {T:TypeId} {n:Nm} {i:Nat} {c:Ch} {l:List A1} {b:A1} (ht:Nat.blt t nt=true) (hT:qe P T=true) (hx:S.op x=some (o1 (.ptr n i))) (hc:S.ch n=some c) (hd:c.d= .flat l) (hv:l[i]? =some b):
  cu P nt ⟨some t, .load T x,ty,ps,af,gd⟩ S (S.put t (o1 b)):=mw ht hT hx hc (by rw [hd];exact hv)
theorem bF {T:TypeId} {n:Nm} {i:Nat} {c:Ch} {E:TypeId} {vss:List (List Value)} {vs:List Value} {m:Nat} (ht:Nat.blt t nt=true) (hT:qe P T=true) (hx:S.op x=some (o1 (.ptr n i))) (hc:S.ch n=some c) (hd:c.d= .rows E vss []) (hv:vss[i]? =some vs) (hm:vs.length=m):
  cu P nt ⟨some t, .load T x,ty,ps,af,gd⟩ S (S.put t (o1 (.esl n i 0 m))):=mw ht hT hx hc (by rw [hd];subst hm;show (if [].contains i then none else vss[i]?.map fun vs=>A1.esl n i 0 vs.length)=_;rw [hv];simp)
theorem a5 {T:TypeId} {n:Nm} {i j:Nat} {c:Ch} {E:TypeId} {vss:List (List Value)} {vs:List Value} {v:Value} (ht:Nat.blt t nt=true) (hT:qe P T=true) (hx:S.op x=some (o1 (.eptr n i j))) (hc:S.ch n=some c)
  (hd:c.d= .rows E vss []) (hi:vss[i]? =some vs) (hj:vs[j]? =some v):cu P nt ⟨some t, .load T x,ty,ps,af,gd⟩ S (S.put t (vv v)):=CC ht hT hx hc hd (by simp) hi hj
end
end Go.Proofs.YtekbhbcgoadciaaGreat
namespace Go.Proofs.YtekbhbcgoadciaaGreat
open Go.RowKit
theorem m9 {P:Program} (w:World) (t ty e:TypeId) (i:TypeInfo) (ht:P.underlying t=some (.slice e)) (hi:P.info? e=some i)
  (g o sLen sCap:Nat) (cur:Array Value) (hg:w.heap[g]? =some (.cells cur e (0,0)))
  (a:Addr) (m c:Nat) (news:List Value) (hl:news.length=m * i.size) (hnews:∀j u,news[j]? =some u→w.cell? (a.add j)=some u) (h1:∀u∈news,u.oneCell'=true)
  (hroom:sLen + m≤sCap) (hfit:o + sLen * i.size + news.length≤cur.size):
  (Builtin.append_ #[t,t] ty #[.slice (some ⟨g,o,none⟩) sLen sCap, .slice (some a) m c]).run P w=
   .ok (.slice (some ⟨g,o,none⟩) (sLen + m) sCap) (w.setRow g (cur.toList.take (o + sLen * i.size) ++ news ++ cur.toList.drop (o + sLen * i.size + news.length)).toArray):=by
 have hf:=run_firstCells_some (P:=P) w i.size m a m c news hl hnews
 have hst:=run_storeCells_at P g (o + sLen * i.size) e news 0 cur w hg (by simpa using hfit) h1
 simp only [Nat.add_zero] at hst
 simp [Builtin.append_,run_underlying ht,sizeOf,typeInfo,hi,Builtin.lenOf,hroom,hf,Addr.add_lit,hst]
structure Grown (ω:bY) (w w':World) (ow:Nm×Option Nat) (h':Hd) (E:TypeId) (k nk:Nat) (news:List Value) (cell:Nat→Value→Prop):Prop where
 k_:h'.k=k
 os:w'.os=w.os
 tape:w'.tape=w.tape
 output:w'.output=w.output
 size:w.heap.size≤w'.heap.size
 other:∀b,b < w.heap.size→ω b≠some ow→w'.heap[b]? =w.heap[b]?
 vec:∃b o cs,h'.ao=some ⟨b,o,none⟩∧bY.new ω w.heap.size ow b=some ow∧w'.heap[b]? =some (.cells cs E (0,0))∧(o=0∧cs.size=h'.c * k)∧nk + news.length≤h'.c * k∧h'.c≤maxLen∧
  (∀j,j < nk→∃u,cs[o + j]? =some u∧cell j u)∧∀j v,news[j]? =some v→cs[o + nk + j]? =some v
theorem rY {a b c:List Value} {j:Nat} {v:Value} (h:b[j]? =some v):(a ++ b ++ c)[a.length + j]? =some v:=by
 have hj:j < b.length:=(List.getElem?_eq_some_iff.1 h).1
 rw [List.append_assoc,List.getElem?_append_right ae,Nat.add_sub_cancel_left,List.getElem?_append_left hj];exact h
theorem km {P:Program} {ω:bY} {w:World} {ow:Nm×Option Nat} {h:Hd} {T E k dlen n m off c:Nat} {ty:TypeId} {u:Value} {cell:Nat→Value→Prop} {a:Addr} {news:List Value} (hT:pN P T E k=true) (hk0:0 < k) (hk:h.k=k)
  (hv:dJ ω w ow h E dlen cell) (hu:Ep h off n u) (hoff:off=0) (hd:(off + n) * k=dlen) (hm0:0 < m) (hl:news.length=m * k) (hnews:∀j v,news[j]? =some v→w.cell? (a.add j)=some v) (h1:∀v∈news,v.oneCell'=true) (hb:n + m≤2199023255552):
  ∃h' w',(Builtin.append_ #[T,T] ty #[u, .slice (some a) m c]).run P w= .ok (.slice h'.ao (n + m) h'.c) w'∧Grown ω w w' ow h' E k (n * k) news (fun j u=>cell (off * k + j) u):=by
 obtain ⟨i,z,e1,e2,e3,e4,e5,e6⟩:=ep hT
 obtain ⟨ao,rfl,ha0,ha1⟩:=hu
 have hby:(n + m) * i.bytes≤140737488355328:=Nat.le_trans (Nat.mul_le_mul_left _ e4) ae
 have hb0:0 + m≤maxLen:=by simp [maxLen];omega
 have hbn:n + m≤maxLen:=by simp [maxLen];omega
 subst e3
 have fresh:∀(cs0:List Value) (cap:Nat),cs0.length=n * i.size→n + m≤cap→cap≤maxLen→(∀j,j < n * i.size→∃u,cs0[j]? =some u∧cell (off * i.size + j) u)→∀w1:World,w1.heap=w.heap→w1.os=w.os→w1.tape=w.tape→w1.output=w.output→
   Grown ω w (w1.alloc (.cells (cs0.toArray ++ news.toArray ++ Builtin.zeroCells z.cells (cap - (n + m))) E)) ow ⟨some ⟨w.heap.size,0,none⟩,cap,i.size⟩ E i.size (n * i.size) news (fun j u=>cell (off * i.size + j) u):=by
  intro cs0 cap hc0 hcap hcm hcs w1 hw1 ho1 ht1 hout1
  have hs1:w1.heap.size=w.heap.size:=by rw [hw1]
  refine { k_:=rfl,os:=ho1,tape:=ht1,output:=hout1,size:=by simp [hs1],other:=fun b hb _=> ?_,vec:=⟨w.heap.size,0,_,rfl,by simp [bY.new],by rw [←hs1];exact heap_alloc_new w1 _, ?_, ?_,hcm,fun j hj=> ?_,fun j v hj=> ?_⟩ }
  ·rw [Below.heap_alloc w1 _ b ae,hw1]
  ·simp only [Array.size_append,List.size_toArray,size_zeroCells,e6,hc0,hl,←Nat.add_mul,Nat.zero_add]
   exact ⟨trivial,by congr 1;omega⟩
  ·rw [hl,←Nat.add_mul];exact Nat.mul_le_mul_right _ hcap
  ·obtain ⟨u,hu,hcu⟩:=hcs j hj
   refine ⟨u, ?_,hcu⟩
   rw [Nat.zero_add,Array.getElem?_append_left (by simp [hc0];omega),Array.getElem?_append_left (by simp [hc0];omega)]
   simpa using hu
  ·have hjl:j < news.length:=(List.getElem?_eq_some_iff.1 hj).1
   rw [Nat.zero_add,Array.getElem?_append_left (by simp [hc0];omega),Array.getElem?_append_right (by simp [hc0])]
   simpa [hc0] using hj
 rcases hv with ⟨hao,hc,hd0⟩ | ⟨b,o,cs,g1,g2,g3,g4,g5,g6,g7⟩
 ·have h0:(off + n) * i.size=0:=by rw [hd,hd0]
  have h00:off + n=0:=by
   rcases Nat.eq_zero_or_pos (off + n) with h8 | h8
   ·exact h8
   ·have:=Nat.mul_pos h8 hk0;omega
  obtain ⟨rfl,rfl⟩:off=0∧n=0:=by omega
  rw [ha0 rfl,hao,hc]
  have hr:=run_append_nil (P:=P) (ty:=ty) w T E i z e1 e2 e5 a m c news hl hnews hm0 ae (by simp only [Nat.zero_add] at hby;omega)
  refine ⟨⟨some ⟨w.heap.size,0,none⟩,grownCap w m 0 E,i.size⟩,_,by rw [Nat.sub_zero,hr,Nat.zero_add], ?_⟩
  have:=fresh [] (grownCap w m 0 E) (by simp) (by rw [Nat.zero_add];exact grownCap_ge w m 0 E) (grownCap_le_maxLen w m 0 E ae) (fun j hj=>absurd hj ae) w.drew rfl rfl rfl rfl
  simpa using this
 ·rw [hk] at g4 g5
  have hoc:off + n≤h.c:=Nat.le_of_mul_le_mul_right (by rw [hd];exact g5) hk0
  have hmul:∀x,x≤h.c→x * i.size≤h.c * i.size:=fun x hx=>Nat.mul_le_mul_right _ hx
  have hbs:b < w.heap.size:=fm g3
  have old:∀j,j < n * i.size→∃u,cs[o + off * i.size + j]? =some u∧cell (off * i.size + j) u:=fun j hj=>by
   obtain ⟨u,hu,hcu⟩:=g7 (off * i.size + j) (by rw [←hd,Nat.add_mul];omega)
   exact ⟨u,by rw [Nat.add_assoc];exact hu,hcu⟩
  have haos:off < h.c→ao=some ⟨b,o + off * i.size,none⟩:=fun hlt=>by
   rcases Nat.eq_zero_or_pos off with h0 | h0
   ·rw [ha0 h0,g1,h0];simp
   ·rw [ha1 h0 hlt,g1,hk];rfl
  by_cases hroom:n + m≤h.c - off
  ·have hlt:off < h.c:=by omega
   rw [haos hlt]
   have hfit:o + off * i.size + n * i.size + news.length≤cs.size:=by
    have h2:=hmul (off + n + m) ae
    rw [Nat.add_mul,Nat.add_mul] at h2
    rw [hl];omega
   have hr:=m9 (P:=P) (ty:=ty) w T E i e1 e2 b (o + off * i.size) n (h.c - off) cs g3 a m c news hl hnews h1 hroom hfit
   have hnl:n * i.size + news.length≤(h.c - off) * i.size:=by rw [hl,←Nat.add_mul];exact Nat.mul_le_mul_right _ hroom
   have htl:(cs.toList.take (o + off * i.size + n * i.size)).length=o + off * i.size + n * i.size:=by
    rw [List.length_take,Array.length_toList];omega
   refine ⟨⟨some ⟨b,o + off * i.size,none⟩,h.c - off,i.size⟩,_,hr, ?_⟩
   refine { k_:=rfl,os:=rfl,tape:=rfl,output:=rfl,size:=by simp,other:=fun b' _ hne=>setRow_other w b b' _ (fun e=>hne (e ▸ g2)),vec:=⟨b,o + off * i.size,_,rfl,by simp [bY.new,Nat.ne_of_lt hbs,g2],setRow_heap w b cs _ E _ g3, ?_,hnl,by show h.c - off≤maxLen;omega,fun j hj=> ?_,fun j v hj=> ?_⟩ }
   ·have h2:=Nat.sub_mul h.c off i.size
    have h3:=hmul off ae
    simp only [List.size_toArray,List.length_append,htl,List.length_drop,Array.length_toList]
    subst hoff;rw [Nat.zero_mul,Nat.sub_zero] at h2 ⊢;simp only [Nat.add_zero] at *;constructor<;>omega
   ·obtain ⟨u,hu,hcu⟩:=old j hj
    refine ⟨u, ?_,hcu⟩
    simp only [List.getElem?_toArray]
    rw [List.append_assoc,List.getElem?_append_left (by rw [htl];omega),List.getElem?_take,if_pos ae]
    simpa using hu
   ·simp only [List.getElem?_toArray]
    have:=rY (a:=cs.toList.take (o + off * i.size + n * i.size)) (c:=cs.toList.drop (o + off * i.size + n * i.size + news.length)) hj
    rw [htl] at this
    exact this
  ·have holds:∀u',n * i.size≠0→ao=some u'→u'=⟨b,o + off * i.size,none⟩:=fun u' hn0 he=>by
    have hnp:0 < n:=by
     rcases Nat.eq_zero_or_pos n with h8 | h8
     ·subst h8;simp at hn0
     ·exact h8
    rw [haos ae] at he;exact (Option.some.inj he).symm
   have hol:((cs.toList.drop (o + off * i.size)).take (n * i.size)).length=n * i.size:=by
    rw [List.length_take,List.length_drop,Array.length_toList]
    have h2:=hmul (off + n) hoc
    rw [Nat.add_mul] at h2
    omega
   have hoat:∀(j:Nat) (u:Value),((cs.toList.drop (o + off * i.size)).take (n * i.size))[j]? =some u→j < n * i.size∧cs[o + off * i.size + j]? =some u:=fun j u hj=>by
    have hjl:j < n * i.size:=by have:=(List.getElem?_eq_some_iff.1 hj).1;omega
    rw [List.getElem?_take,if_pos hjl,List.getElem?_drop] at hj
    exact ⟨hjl,by simpa using hj⟩
   have hfresh:=fresh ((cs.toList.drop (o + off * i.size)).take (n * i.size)) (grownCap w (n + m) (h.c - off) E) hol (grownCap_ge _ _ _ _) (grownCap_le_maxLen _ _ _ _ hbn) (fun j hj=>by
    obtain ⟨u,hu,hcu⟩:=old j hj
    refine ⟨u, ?_,hcu⟩
    rw [List.getElem?_take,if_pos hj,List.getElem?_drop]
    simpa using hu) w.drew rfl rfl rfl rfl
   cases hao:ao with
   | none=>
    have hno:¬off < h.c:=fun hlt=>by rw [haos hlt] at hao;cases hao
    have hn0:n=0:=by omega
    subst hn0
    have hc0:h.c - off=0:=by omega
    rw [hc0] at hfresh ⊢
    have hr:=run_append_nil (P:=P) (ty:=ty) w T E i z e1 e2 e5 a m c news hl hnews hm0 ae (by simp only [Nat.zero_add] at hby;omega)
    refine ⟨⟨some ⟨w.heap.size,0,none⟩,grownCap w m 0 E,i.size⟩,_,by rw [hr,Nat.zero_add], ?_⟩
    simpa using hfresh
   | some a'=>
    have hr:=run_append_grow (P:=P) (ty:=ty) w T E i z e1 e2 e5 a' n (h.c - off) _ hol (fun j u hj=>by
     obtain ⟨hj1,hj2⟩:=hoat j u hj
     rw [holds a' ae hao,Addr.add_lit]
     show w.cell? ⟨b,o + off * i.size + j,none⟩=some u
     rw [cell_of_row w b _ cs E (0,0) g3];exact hj2) a m c news hl hnews ae ae (growslice_fits ae hby)
    exact ⟨⟨some ⟨w.heap.size,0,none⟩,grownCap w (n + m) (h.c - off) E,i.size⟩,_,hr,hfresh⟩
end Go.Proofs.YtekbhbcgoadciaaGreat
namespace Go.Proofs.YtekbhbcgoadciaaGreat
open Go.RowKit
structure Reads (S:St) (b:A1) (m k:Nat) (news:List Value):Prop where
 len:news.length=m * k
 go:∀ {w0 ω0 nt η ω a w u},dY w0 ω0 nt S η ω a w→c6 η b u→∃ad c,u= .slice ad m c∧∀(j:Nat) (v:Value),news[j]? =some v→∃bb o,ad=some ⟨bb,o,none⟩∧w.cell? ⟨bb,o + j,none⟩=some v
section
variable {P:Program} {nt:Nat} {S S':St} {w0 w:World} {ω0:ml} {ω:bY} {η:Env} {a:Act}
variable {t:Nat} {ty:TypeId} {ps:String} {af:Array Edge} {gd:Option (Nat×Bool)} {x y:Operand} {av:AV}
theorem dY.slice (hs:dY w0 ω0 nt S η ω a w) {n:Nm} {off m k:Nat} {c:Ch} {u:Value} (hd:c6 η (.sl n off m) u) (hc:S.ch n=some c) (hk:c.k=k) (hk0:0 < k) (hl:(off + m) * k≤c.d.len):
  ∃ad cp,u= .slice ad m cp∧∀j,j < m * k→∃bb o v,ad=some ⟨bb,o,none⟩∧w.cell? ⟨bb,o + j,none⟩=some v∧cI η ω w c.own n c.d (off * k + j) v:=by
 obtain ⟨hd',e1,e2,e3⟩:=hs.chunk hc
 obtain ⟨ao,rfl,f1,f2⟩:=hd.2 hd' e1
 refine ⟨ao,_,rfl,fun j hj=> ?_⟩
 have hlt:off * k + j < c.d.len:=Nat.lt_of_lt_of_le (by rw [Nat.add_mul];omega) hl
 obtain ⟨b',o',v,g1,g2,g3⟩:=e3.get hlt
 have hcap:=e3.cap
 rw [e2,hk] at hcap
 have h5:off + m≤hd'.c:=Nat.le_of_mul_le_mul_right (Nat.le_trans hl hcap) hk0
 have hm:0 < m:=by
  rcases Nat.eq_zero_or_pos m with h8 | h8
  ·subst h8;simp at hj
  ·exact h8
 refine ⟨b',o' + off * k,v, ?_,by rw [Nat.add_assoc];exact g2,g3⟩
 rcases Nat.eq_zero_or_pos off with h0 | h0
 ·rw [f1 h0,g1,h0];simp
 ·rw [f2 h0 ae,g1,e2,hk];rfl
theorem eR {n:Nm} {off m k:Nat} {c:Ch} {vs:List Value} (hc:S.ch n=some c) (hd:c.d= .bR vs) (hk:c.k=k) (hk0:Nat.blt 0 k=true) (hl:(off + m) * k≤vs.length):Reads S (.sl n off m) m k ((vs.drop (off * k)).take (m * k)):=
 ⟨by rw [List.length_take,List.length_drop];rw [Nat.add_mul] at hl;omega,fun hs hu=>by
  obtain ⟨ad,cp,e,h⟩:=hs.slice hu hc hk (by simpa using hk0) (by rw [hd];exact hl)
  refine ⟨ad,cp,e,fun j v hj=> ?_⟩
  have hjl:j < m * k:=by have:=(List.getElem?_eq_some_iff.1 hj).1;simp at this;omega
  rw [List.getElem?_take,if_pos hjl,List.getElem?_drop] at hj
  obtain ⟨bb,o,v',h1,h2,h3⟩:=h j hjl
  rw [hd] at h3
  have h3:vs[off * k + j]? =some v':=h3
  rw [hj] at h3;obtain rfl:=Option.some.inj h3
  exact ⟨bb,o,h1,h2⟩⟩
theorem c5 {n:Nm} {m:Nat} {c:Ch} {vs:List Value} (hc:S.ch n=some c) (hd:c.d= .bR vs) (hk:c.k=1) (hl:vs.length=m):Reads S (.sl n 0 m) m 1 vs:=by
 have:=eR (S:=S) (n:=n) (off:=0) (m:=m) (k:=1) hc hd hk rfl ae
 simpa [←hl] using this
theorem Ib (S:St) (x:Nm) (c:Ch):(S.rm x).new x c=S.new x c:=by
 unfold St.new St.rm
 simp only [St.mk.injEq,true_and,and_true]
 funext y
 cases Nat.beq y x<;>rfl
theorem yn (η:Env) (x:Nm) (hd:Hd) (r:Nat→Hd):(η.drop x).new x hd r=η.new x hd r:=by
 unfold Env.new Env.drop
 simp only [Env.mk.injEq,and_true]
 funext y
 by_cases e:y=x<;>simp [e]
theorem dY.renew (h:dY w0 ω0 nt S η ω a w) {n:Nm} {c:Ch} {hd:Hd} {r:Nat→Hd} {ω':bY} {w':World} (hk:Calm (S.rm n) ω w ω' w') (hc:eA (η.new n hd r) ω' w' n hd c):dY w0 ω0 nt (S.new n c) (η.new n hd r) ω' a w':=by
 have:=(h.drop n).lay (x:=n) (c:=c) (hd:=hd) (r:=r) hk (by rw [yn];exact hc)
 rw [Ib,yn] at this
 exact this
theorem kZ {n:Nm} {i:Option Nat} {w':World} {h':Hd} {E k nk:Nat} {news:List Value} {cell:Nat→Value→Prop} (hS:S.ch n=none) (g:Grown ω w w' (n,i) h' E k nk news cell):Calm S ω w (bY.new ω w.heap.size (n,i)) w':=
 ⟨g.os,g.tape,g.output,g.size,fun b hb hl=>by
  have hne:ω b≠some (n,i):=by
   intro e
   rcases hl with h0 | ⟨y,j,c,h0,h1⟩
   ·rw [h0] at e;cases e
   ·rw [h0] at e;obtain ⟨rfl,rfl⟩:=Prod.mk.inj (Option.some.inj e);rw [hS] at h1;cases h1
  exact ⟨g.other b hb hne,by simp [bY.new,Nat.ne_of_lt hb]⟩⟩
theorem mH {n:Nm} {hd:Hd} {r:Nat→Hd} {m:Nat} :Den (η.new n hd r) (o1 (.sl n 0 m)) (.slice hd.ao m hd.c):=
 ⟨⟨_,_,rfl⟩,fun hd' he=>by simp [Env.new] at he;subst he;exact ⟨_,rfl,fun _=>rfl,fun h=>absurd h ae⟩⟩
theorem sw {T E k n off len m:Nat} {c:Ch} {vs news:List Value} {b:A1} (ht:Nat.blt t nt=true) (hT:pN P T E k=true) (hk0:Nat.blt 0 k=true) (hx:S.op x=some (o1 (.sl n off len))) (hc:S.ch n=some c) (hce:c=⟨true,E,k, .bR vs⟩) (hoff:off=0) (hl:(off + len) * k=vs.length)
  (hy:S.op y=some (o1 b)) (hr:Reads S b m k news) (hm:0 < m) (h1:∀v∈news,v.oneCell'=true) (hb:len + m≤2199023255552):
  cu P nt ⟨some t, .call { callee:= .builtin .append,args:= #[x,y],argTypes:= #[T,T] },ty,ps,af,gd⟩ S ((S.new n ⟨true,E,k, .bR (vs.drop (off * k) ++ news)⟩).put t (o1 (.sl n 0 (len + m)))):=
 cu.of _ fun w0 ω0 η ω a w hs=>by
  have hk0':0 < k:=by simpa using hk0
  obtain ⟨hd,e1,e2,e3⟩:=hs.chunk hc
  subst hce
  have e3:dJ ω w (n,none) hd E vs.length (cI η ω w true n (.bR vs)):=e3
  have hu:c6 η (.sl n off len) (a.eval x):=hs.iE hx
  obtain ⟨ad,cp,r1,r2⟩:=hr.go hs (hs.iE hy)
  have hnl:=hr.len
  have hn0:0 < news.length:=by rw [hnl];exact Nat.mul_pos hm hk0'
  obtain ⟨bb,o,r3,_⟩:=r2 0 _ (List.getElem?_eq_getElem hn0)
  subst r3
  obtain ⟨h',w',k1,k2⟩:=km (P:=P) (ty:=ty) (c:=cp) hT hk0' e2 e3 (hu.2 hd e1) hoff hl hm hnl (a:=⟨bb,o,none⟩) (fun j v hj=>by
   obtain ⟨b2,o2,h2,h3⟩:=r2 j v hj
   simp only [Option.some.injEq,Addr.mk.injEq,and_true] at h2
   obtain ⟨rfl,rfl⟩:=h2
   rw [Addr.add_lit];exact h3) h1 hb
  refine ⟨.slice h'.ao (len + m) h'.c,w',by simp [execOp,resolve,invoke,builtin,r1,k1], ?_⟩
  have hlen:(vs.drop (off * k) ++ news).length=len * k + news.length:=by
   rw [List.length_append,List.length_drop,←hl,Nat.add_mul];omega
  have:=hs.renew (n:=n) (c:=⟨true,E,k, .bR (vs.drop (off * k) ++ news)⟩) (hd:=h') (r:=fun _=>⟨none,0,1⟩) (kZ (by simp [fG]) k2) ⟨k2.k_,by
   obtain ⟨b',o',cs',v1,v2,v3,v4,v5,v6,v7,v8⟩:=k2.vec
   refine .inr ⟨b',o',cs',v1,v2,v3,by rw [k2.k_];exact v4,by rw [k2.k_];show (vs.drop (off * k) ++ news).length≤_;rw [hlen];exact v5,v6,fun j hj=> ?_⟩
   have hj:j < (vs.drop (off * k) ++ news).length:=hj
   rw [hlen] at hj
   by_cases hlt:j < len * k
   ·obtain ⟨u,q1,q2⟩:=v7 j hlt
    have q2:vs[off * k + j]? =some u:=q2
    refine ⟨u,q1, ?_⟩
    show (vs.drop (off * k) ++ news)[j]? =some u
    rw [List.getElem?_append_left (by rw [List.length_drop,←hl,Nat.add_mul];omega),List.getElem?_drop];exact q2
   ·have hdl:(vs.drop (off * k)).length=len * k:=by rw [List.length_drop,←hl,Nat.add_mul];omega
    have hj2:j - len * k < news.length:=by omega
    refine ⟨news[j - len * k], ?_, ?_⟩
    ·have:=v8 (j - len * k) _ (List.getElem?_eq_getElem hj2)
     rw [show o' + len * k + (j - len * k)=o' + j by omega] at this;exact this
    ·show (vs.drop (off * k) ++ news)[j]? =_
     rw [List.getElem?_append_right ae,hdl,List.getElem?_eq_getElem hj2]⟩
  exact ⟨_,_,this.fU (by simpa using ht) mH⟩
end
end Go.Proofs.YtekbhbcgoadciaaGreat
namespace Go.Proofs.YtekbhbcgoadciaaGreat
open Go.RowKit
section
variable {P:Program} {nt:Nat} {S S':St} {w0 w:World} {ω0:ml} {ω:bY} {η:Env} {a:Act}
variable {t:Nat} {ty:TypeId} {ps:String} {af:Array Edge} {gd:Option (Nat×Bool)} {x y:Operand} {av:AV}
def bY.j0 (ω:bY) (z n:Nm) (j:Nat):bY:=fun b=>if ω b=some (z,none) then some (n,some j) else ω b
theorem dJ.j0 {z n:Nm} {j:Nat} {h:Hd} {E:TypeId} {len:Nat} {cell:Nat→Value→Prop} {ω':bY} {w':World} (hv:dJ ω w (z,none) h E len cell) (hs:∀b,b < w.heap.size→ω b=some (z,none)→w'.heap[b]? =w.heap[b]? ∧ω' b=some (n,some j)):dJ ω' w' (n,some j) h E len cell:=by
 rcases hv with h0 | ⟨b,o,cs,h1,h2,h3,h4⟩
 ·exact .inl h0
 ·have:=hs b (fm h3) h2
  exact .inr ⟨b,o,cs,h1,this.2,this.1.trans h3,h4⟩
theorem kt {T E F n z q len m:Nat} {vss:List (List Value)} {vs:List Value} (ht:Nat.blt t nt=true) (hT:pN P T E 1=true) (hx:S.op x=some (o1 (.sl n 0 len))) (hc:S.ch n=some ⟨true,E,1, .rows F vss []⟩) (hl:vss.length=len)
  (hy:S.op y=some (o1 (.sl q 0 1))) (hq:S.ch q=some ⟨true,E,1, .flat [.sl z 0 m]⟩) (hz:S.ch z=some ⟨true,F,1, .bR vs⟩) (hm:vs.length=m) (hzn:Nat.beq z n=false) (hb:len + 1≤2199023255552):
  cu P nt ⟨some t, .call { callee:= .builtin .append,args:= #[x,y],argTypes:= #[T,T] },ty,ps,af,gd⟩ S (((S.rm z).new n ⟨true,E,1, .rows F (vss ++ [vs]) []⟩).put t (o1 (.sl n 0 (len + 1)))):=
 cu.of _ fun w0 ω0 η ω a w hs=>by
  have hne:z≠n:=fun e=>by rw [e] at hzn;simp at hzn
  subst hl hm
  obtain ⟨hd,e1,e2,e3⟩:=hs.chunk hc
  have e2:hd.k=1:=e2
  have e3:dJ ω w (n,none) hd E vss.length (cI η ω w true n (.rows F vss [])):=e3
  obtain ⟨hz',z1,z2,z3⟩:=hs.chunk hz
  have z2:hz'.k=1:=z2
  have z3:dJ ω w (z,none) hz' F vs.length (cI η ω w true z (.bR vs)):=z3
  have hu:c6 η (.sl n 0 vss.length) (a.eval x):=hs.iE hx
  have hyv:c6 η (.sl q 0 1) (a.eval y):=hs.iE hy
  obtain ⟨ad,cp,r1,r2⟩:=hs.slice (k:=1) hyv hq rfl ae (by simp [eQ.len])
  obtain ⟨bb,o,v0,r3,r4,r5⟩:=r2 0 ae
  have hv0:c6 η (.sl z 0 vs.length) v0:=r5 _ (by simp)
  obtain ⟨az,rfl,q1,_⟩:=hv0.2 hz' z1
  subst r3
  obtain ⟨h',w',k1,k2⟩:=km (P:=P) (ty:=ty) (c:=cp) (news:= [.slice az vs.length (hz'.c - 0)]) hT ae e2 e3 (hu.2 hd e1) rfl (by rw [Nat.zero_add,Nat.mul_one]) (by omega:0 < 1) (by simp) (a:=⟨bb,o,none⟩) (fun j v hj=>by
   cases j with
   | zero=>simp only [List.getElem?_cons_zero,Option.some.injEq] at hj;subst hj;rw [Addr.add_lit];exact r4
   | succ j=>simp at hj) (by intro v hv;simp at hv;subst hv;rfl) hb
  refine ⟨.slice h'.ao (vss.length + 1) h'.c,w',by simp [execOp,resolve,invoke,builtin,r1,k1], ?_⟩
  have hS:((S.rm z).rm n).ch n=none:=by simp [fG]
  have hSz:((S.rm z).rm n).ch z=none:=by simp [fG,hne]
  have hbz:∀b,ω b=some (z,none)→w'.heap[b]? =w.heap[b]? ∨w.heap.size≤b:=fun b hb=>by
   rcases Nat.lt_or_ge b w.heap.size with h | h
   ·exact .inl (k2.other b h (fun e=>by rw [hb] at e;simp at e;exact hne e))
   ·exact .inr h
  have calm:Calm ((S.rm z).rm n) ω w (bY.j0 (bY.new ω w.heap.size (n,none)) z n vss.length) w':=⟨k2.os,k2.tape,k2.output,k2.size,fun b hb hl=>by
   have hnew:bY.new ω w.heap.size (n,none) b=ω b:=by simp [bY.new,Nat.ne_of_lt hb]
   have h1:ω b≠some (n,none)∧ω b≠some (z,none):=by
    rcases hl with h0 | ⟨y,j,c,h0,h1⟩
    ·rw [h0];simp
    ·rw [h0]
     refine ⟨fun e=> ?_,fun e=> ?_⟩
     ·simp at e;rw [e.1,hS] at h1;cases h1
     ·simp at e;rw [e.1,hSz] at h1;cases h1
   exact ⟨k2.other b hb h1.1,by simp only [bY.j0,hnew,if_neg h1.2]⟩⟩
  have key:eA ((η.drop z).new n h' fun j=>if j < vss.length then η.r n j else hz') (bY.j0 (bY.new ω w.heap.size (n,none)) z n vss.length) w' n h' ⟨true,E,1, .rows F (vss ++ [vs]) []⟩:=by
   refine ⟨k2.k_, ?_⟩
   obtain ⟨b',o',cs',v1,v2,v3,v4,v5,v6,v7,v8⟩:=k2.vec
   have hbn:bY.new ω w.heap.size (n,none) b'≠some (z,none):=by rw [v2];simp;exact fun e=>hne e.symm
   refine .inr ⟨b',o',cs',v1,(if_neg hbn).trans v2,v3,by rw [k2.k_];exact v4,by rw [k2.k_];simpa [eQ.len] using v5,v6,fun j hj=> ?_⟩
   have hj:j < vss.length + 1:=by simpa [eQ.len] using hj
   by_cases hlt:j < vss.length
   ·obtain ⟨u,g1,g2⟩:=v7 j ae
    rw [Nat.zero_mul,Nat.zero_add] at g2
    refine ⟨u,g1,g2.1,fun _ vs' hvs'=> ?_⟩
    rw [List.getElem?_append_left hlt] at hvs'
    obtain ⟨f1,f2,f3⟩:=g2.2 (by simp) vs' hvs'
    have hr:((η.drop z).new n h' fun j=>if j < vss.length then η.r n j else hz').r n j=η.r n j:=by simp [Env.new,hlt]
    rw [hr]
    refine ⟨f1,f2,dJ.same (fun b hb ho=>⟨k2.other b hb (by rw [ho];simp), ?_⟩) (fun _ _ h=>h) f3⟩
    have hnew:bY.new ω w.heap.size (n,none) b=ω b:=by simp [bY.new,Nat.ne_of_lt hb]
    simp only [bY.j0,hnew,ho]
    rw [if_neg (by simp)]
   ·obtain rfl:j=vss.length:=by omega
    refine ⟨_,by have:=v8 0 _ (List.getElem?_cons_zero);simpa using this,rfl,fun _ vs' hvs'=> ?_⟩
    rw [List.getElem?_append_right ae,Nat.sub_self] at hvs'
    simp at hvs';subst hvs'
    have hr:((η.drop z).new n h' fun j=>if j < vss.length then η.r n j else hz').r n vss.length=hz':=by simp [Env.new]
    rw [hr]
    refine ⟨by rw [q1 rfl],z2,dJ.j0 z3 fun b hb ho=> ?_⟩
    have hnew:bY.new ω w.heap.size (n,none) b=ω b:=by simp [bY.new,Nat.ne_of_lt hb]
    exact ⟨(hbz b ho).resolve_right ae,by simp only [bY.j0,hnew,ho,if_true]⟩
  have:=(hs.drop z).renew (n:=n) (c:=⟨true,E,1, .rows F (vss ++ [vs]) []⟩) calm key
  exact ⟨_,_,this.fU (by simpa using ht) mH⟩
theorem xT {T E n:Nat} {ts:Array TypeId} {l c:Operand} {kl kc:IntKind} {L C:Int} {z:Value} (ht:Nat.blt t nt=true) (hT:pN P T E 1=true) (hz:(P.info? E).bind (·.zero)=some z) (hl:S.op l=some (vv (.int kl L))) (hc:S.op c=some (vv (.int kc C)))
  (hL:L=(n:Int)) (hC:C=(n:Int)) (hn:n≤2199023255552) (hz1:z.oneCell'=true):cu P nt ⟨some t, .makeSlice T l c,ty,ps,af,gd⟩ S ((S.new t ⟨true,E,1, .bR (List.replicate n z)⟩).put t (o1 (.sl t 0 n))):=
 cu.of _ fun w0 ω0 η ω a w hs=>by
  obtain ⟨i,z',k1,k2,k3,k4,k5,k6⟩:=ep hT
  have hzz:z'=z:=by rw [k2] at hz;simp [k5] at hz;exact hz
  subst hzz hL hC
  have hby:(i.bytes:Int) * n≤64 * n:=Int.mul_le_mul_of_nonneg_right ae ae
  have hr:=run_make (P:=P) w T E i z' k1 k2 k5 kl kc (n:Int) (n:Int) ae ae ae ae
  simp only [Int.toNat_natCast] at hr
  refine ⟨.slice (some ⟨w.heap.size,0,none⟩) n n,w.alloc (.cells (madeCells z'.cells (n * i.size)) E),by simp [execOp,hs.gQ hl,hs.gQ hc,hr], ?_⟩
  rw [k3,Nat.mul_one,kK hz1]
  have hal:=hs.alloc (x:=t) (c:=⟨true,E,1, .bR (List.replicate n z')⟩) (cs:=madeCells #[z'] n) (r:=fun _=>⟨none,0,1⟩) (n:=n) rfl (by simp [size_madeCells]) (by simp [eQ.len]) (by simp [maxLen];omega) fun j hj=>by
   have hj:j < n:=by simpa [eQ.len] using hj
   refine ⟨z', ?_,by show (List.replicate n z')[j]? =some z';simp [hj]⟩
   have:=toList_madeCells_one z' n
   have h2:(madeCells #[z'] n).toList[j]? =some z':=by rw [this];simp [hj]
   simpa using h2
  exact ⟨_,_,hal.fU (by simpa using ht) eF⟩
theorem vO {T E F n:Nat} {ts:Array TypeId} {l c:Operand} {kl kc:IntKind} {L C:Int} (ht:Nat.blt t nt=true) (hT:pN P T E 1=true) (hz:(P.info? E).bind (·.zero)=some (.slice none 0 0)) (hF:P.underlying E=some (.slice F)) (hl:S.op l=some (vv (.int kl L))) (hc:S.op c=some (vv (.int kc C)))
  (hL:L=(n:Int)) (hC:C=(n:Int)) (hn:n≤2199023255552):cu P nt ⟨some t, .makeSlice T l c,ty,ps,af,gd⟩ S ((S.new t ⟨true,E,1, .rows F (List.replicate n []) []⟩).put t (o1 (.sl t 0 n))):=
 cu.of _ fun w0 ω0 η ω a w hs=>by
  obtain ⟨i,z',k1,k2,k3,k4,k5,k6⟩:=ep hT
  have hzz:z'= .slice none 0 0:=by rw [k2] at hz;simp [k5] at hz;exact hz
  subst hzz hL hC
  have hby:(i.bytes:Int) * n≤64 * n:=Int.mul_le_mul_of_nonneg_right ae ae
  have hr:=run_make (P:=P) w T E i _ k1 k2 k5 kl kc (n:Int) (n:Int) ae ae ae ae
  simp only [Int.toNat_natCast] at hr
  refine ⟨.slice (some ⟨w.heap.size,0,none⟩) n n,w.alloc (.cells (madeCells (Value.slice none 0 0).cells (n * i.size)) E),by simp [execOp,hs.gQ hl,hs.gQ hc,hr], ?_⟩
  rw [k3,Nat.mul_one,kK rfl]
  have hal:=hs.alloc (x:=t) (c:=⟨true,E,1, .rows F (List.replicate n []) []⟩) (cs:=madeCells #[.slice none 0 0] n) (r:=fun _=>⟨none,0,1⟩) (n:=n) rfl (by simp [size_madeCells]) (by simp [eQ.len]) (by simp [maxLen];omega) fun j hj=>by
   have hj:j < n:=by simpa [eQ.len] using hj
   refine ⟨.slice none 0 0, ?_,rfl,fun _ vs hvs=> ?_⟩
   ·have:=toList_madeCells_one (.slice none 0 0) n
    have h2:(madeCells #[.slice none 0 0] n).toList[j]? =some (.slice none 0 0):=by rw [this];simp [hj]
    simpa using h2
   ·simp only [List.getElem?_replicate,hj,if_true,Option.some.injEq] at hvs
    subst hvs
    exact ⟨by simp [Env.new],by simp [Env.new], .inl ⟨by simp [Env.new],by simp [Env.new],rfl⟩⟩
  exact ⟨_,_,hal.fU (by simpa using ht) eF⟩
theorem nq {n k:Nat} {E:TypeId} {d:eQ} (hs:S.sl t=some (vv (.slice none 0 0))) (hd:d.len=0):Wk S ((S.new n ⟨true,E,k,d⟩).put t (o1 (.sl n 0 0))):=by
 refine ⟨fun w0 ω0 nt a w ⟨η,ω,h⟩=> ?_⟩
 obtain ⟨u,h1,h2⟩:=h.slots t _ hs
 have h2:u= .slice none 0 0:=h2
 subst h2
 have hl:=h.lay (x:=n) (c:=⟨true,E,k,d⟩) (hd:=⟨none,0,k⟩) (r:=fun _=>⟨none,0,1⟩) (Calm.refl S ω w) ⟨rfl, .inl ⟨rfl,rfl,hd⟩⟩
 refine ⟨_,ω, { hl with slots:=fun t' av ht'=> ?_ }⟩
 rw [iW] at ht'
 by_cases e:t'=t
 ·subst e
  rw [if_pos rfl] at ht'
  obtain rfl:=Option.some.inj ht'
  exact ⟨_,h1,mH (hd:=⟨none,0,k⟩) (m:=0)⟩
 ·rw [if_neg e] at ht'
  exact hl.slots t' av ht'
end
end Go.Proofs.YtekbhbcgoadciaaGreat
namespace Go.Proofs.YtekbhbcgoadciaaGreat
open Go.RowKit
def A1.lY (x:Nm):A1→Bool
 | .esl y _ _ _ | .eptr y _ _=>Nat.beq x y
 | _=>false
def A2.lY (x:Nm):A2→Bool
 | .one a=>a.lY x
 | .agg l=>l.any (A1.lY x)
def AV.lY (x:Nm):AV→Bool
 | .s a=>a.lY x
 | .tup l=>l.any (A2.lY x)
def eQ.pG (x:Nm):eQ→eQ
 | .flat l=> .flat (l.map fun a=>bif a.lY x then .any else a)
 | d=>d
def St.pG (S:St) (x:Nm):St:=
 {sl:=fun t=>(S.sl t).bind fun av=>bif av.lY x then none else some av,ph:=fun t=>(S.ph t).bind fun av=>bif av.lY x then none else some av,ch:=fun y=>(S.ch y).map fun c=> { c with d:=c.d.pG x } }
structure re (η η':Env) (n:Nm):Prop where
 h:∀y,η'.h y=η.h y
 r:∀y,y≠n→∀i,η'.r y i=η.r y i
theorem c6.cut {η η':Env} {n:Nm} {a:A1} {u:Value} (ht:re η η' n) (hb:a.lY n=false) (h:c6 η a u):c6 η' a u:=by
 cases a with
 | esl x i off m=>
  have hne:x≠n:=fun e=>by subst e;simp [A1.lY] at hb
  exact ⟨h.1,fun hd he=>by rw [ht.r x hne i];exact h.2 hd (ht.h x ▸ he)⟩
 | eptr x i off=>
  have hne:x≠n:=fun e=>by subst e;simp [A1.lY] at hb
  exact ⟨h.1,fun hd he=>by rw [ht.r x hne i];exact h.2 hd (ht.h x ▸ he)⟩
 | sl x off m=>exact ⟨h.1,fun hd he=>h.2 hd (ht.h x ▸ he)⟩
 | ptr x off=>exact ⟨h.1,fun hd he=>h.2 hd (ht.h x ▸ he)⟩
 | val v=>exact h
 | any=>exact h
 | clo f xs=>
  obtain ⟨us,h1,h2,h3⟩:=h
  refine ⟨us,h1,h2,fun j p hp=> ?_⟩
  obtain ⟨q,hq,hq1,hq2⟩:=h3 j p hp
  exact ⟨q,hq,hq1,fun hd he=>hq2 hd (ht.h p.1 ▸ he)⟩
theorem gj.cut {η η':Env} {n:Nm} {a:A2} {u:Value} (ht:re η η' n) (hb:a.lY n=false) (h:gj η a u):gj η' a u:=by
 cases a with
 | one a=>exact c6.cut ht hb h
 | agg l=>
  obtain ⟨us,h1,h2,h3⟩:=h
  refine ⟨us,h1,h2,fun j a ha=> ?_⟩
  obtain ⟨u',h4,h5⟩:=h3 j a ha
  exact ⟨u',h4,h5.cut ht (by have:=List.any_eq_false.1 (show l.any (A1.lY n)=false from hb) a (List.mem_of_getElem? ha);simpa using this)⟩
theorem Den.cut {η η':Env} {n:Nm} {a:AV} {u:Value} (ht:re η η' n) (hb:a.lY n=false) (h:Den η a u):Den η' a u:=by
 cases a with
 | s a=>exact gj.cut ht hb h
 | tup l=>
  obtain ⟨us,h1,h2,h3⟩:=h
  refine ⟨us,h1,h2,fun j a ha=> ?_⟩
  obtain ⟨u',h4,h5⟩:=h3 j a ha
  exact ⟨u',h4,h5.cut ht (by have:=List.any_eq_false.1 (show l.any (A2.lY n)=false from hb) a (List.mem_of_getElem? ha);simpa using this)⟩
section
variable {P:Program} {nt:Nat} {S S':St} {w0 w:World} {ω0:ml} {ω:bY} {η:Env} {a:Act}
variable {t:Nat} {ty:TypeId} {ps:String} {af:Array Edge} {gd:Option (Nat×Bool)} {x y:Operand} {av:AV}
theorem dY.rewrite (h:dY w0 ω0 nt S η ω a w) {n:Nm} {c':Ch} {hd:Hd} {r:Nat→Hd} {ω':bY} {w':World} (he:η.h n=some hd) (hk:Calm (S.rm n) ω w ω' w')
  (hc:eA { η with r:=fun y i=>if y=n then r i else η.r y i } ω' w' n hd c'):dY w0 ω0 nt ((S.pG n).set n c') { η with r:=fun y i=>if y=n then r i else η.r y i } ω' a w':=by
 have ht:re η { η with r:=fun y i=>if y=n then r i else η.r y i } n:=⟨fun _=>rfl,fun y hy i=>if_neg hy⟩
 refine { dfr:=h.dfr,tsz:=h.tsz,fr:=hk.fr h.fr,slots:=fun t av hs=> ?_,phs:=fun t av hs=> ?_,mem:=⟨fun y d hy=> ?_,fun y hy=> ?_⟩ }
 ·obtain ⟨h1,h2⟩:=jC hs
  obtain ⟨u,h3,h4⟩:=h.slots t av h1
  exact ⟨u,h3,h4.cut ht h2⟩
 ·obtain ⟨h1,h2⟩:=jC hs
  obtain ⟨u,h3,h4⟩:=h.phs t av h1
  exact ⟨u,h3,h4.cut ht h2⟩
 ·rw [ve] at hy
  by_cases e:y=n
  ·subst e
   rw [if_pos rfl] at hy
   obtain rfl:=Option.some.inj hy
   exact ⟨hd,he,hc⟩
  ·rw [if_neg e] at hy
   simp only [St.pG,Option.map_eq_some_iff] at hy
   obtain ⟨d0,hd0,rfl⟩:=hy
   obtain ⟨hq,e1,e2⟩:=h.mem.1 y d0 hd0
   refine ⟨hq,e1,e2.1, ?_⟩
   have hl:(d0.d.pG n).len=d0.d.len:=by cases d0.d<;>simp [eQ.pG,eQ.len]
   show lN d0.own ω' w' (y,none) hq d0.E (d0.d.pG n).len (cI _ ω' w' d0.own y (d0.d.pG n))
   rw [hl]
   have hlive:live (S.rm n) (some (y,none)):= .inr ⟨y,none,d0,rfl,by rw [fG,if_neg e];exact hd0⟩
   refine e2.2.same hk.same (.inl rfl) hlive fun j u hu=> ?_
   cases hdd:d0.d with
   | flat l=>
    rw [hdd] at hu
    intro b hb
    simp only [List.getElem?_map,Option.map_eq_some_iff] at hb
    obtain ⟨b0,hb0,rfl⟩:=hb
    cases hbad:b0.lY n with
    | true=>
     refine (hu b0 hb0).one fun v hv=> ?_
     subst hv;cases hbad
    | false=>exact (hu b0 hb0).cut ht hbad
   | bR vs=>rw [hdd] at hu;exact hu
   | rows E vss holes=>
    rw [hdd] at hu
    refine ⟨hu.1,fun hj vs hvs=> ?_⟩
    obtain ⟨h1,h2,h3⟩:=hu.2 hj vs hvs
    simp only [if_neg e]
    exact ⟨h1,h2,h3.same hk.same (.inl rfl) (.inr ⟨y,some j,d0,rfl,by rw [fG,if_neg e];exact hd0⟩) fun _ _ h=>h⟩
   | mix cs=>
    rw [hdd] at hu
    exact ⟨hu.1,fun c hc=>(hu.2 c hc).move (if_neg e) fun _ _ _ _ _ h3=>h3.same hk.same (.inl rfl) (.inr ⟨y,some j,d0,rfl,by rw [fG,if_neg e];exact hd0⟩) fun _ _ h=>h⟩
 ·rw [ve] at hy
  by_cases e:y=n
  ·rw [if_pos e] at hy;cases hy
  ·rw [if_neg e] at hy
   simp only [St.pG,Option.map_eq_none_iff] at hy
   exact h.mem.2 y hy
theorem bI {T E F n i z m:Nat} {vss:List (List Value)} {vs:List Value} {holes:List Nat} (hx:S.op x=some (o1 (.ptr n i))) (hc:S.ch n=some ⟨true,E,1, .rows F vss holes⟩) (hh:∀j∈holes,j=i) (hy:S.op y=some (o1 (.sl z 0 m))) (hz:S.ch z=some ⟨true,F,1, .bR vs⟩)
  (hm:vs.length=m) (hzn:Nat.beq z n=false) (hi:i < vss.length) (hT:jd P T 1=true):cu P nt ⟨none, .store T x y,ty,ps,af,gd⟩ S (((S.rm z).pG n).set n ⟨true,E,1, .rows F (vss.set i vs) []⟩):=
 cu.unit rfl fun w0 ω0 η ω a w hs=>by
  have hne:z≠n:=fun e=>by rw [e] at hzn;simp at hzn
  subst hm
  have hp:c6 η (.ptr n i) (a.eval x):=hs.iE hx
  have hv:c6 η (.sl z 0 vs.length) (a.eval y):=hs.iE hy
  obtain ⟨h,e1,e2,e3⟩:=hs.chunk hc
  obtain ⟨hz',z1,z2,z3⟩:=hs.chunk hz
  have z2:hz'.k=1:=z2
  have z3:dJ ω w (z,none) hz' F vs.length (cI η ω w true z (.bR vs)):=z3
  obtain ⟨az,hav,q1,_⟩:=hv.2 hz' z1
  obtain ⟨b,o,g1,g2⟩:=hp.2 h e1
  have e3:dJ ω w (n,none) h E vss.length (cI η ω w true n (.rows F vss holes)):=e3
  rcases e3 with ⟨_,_,h0⟩ | ⟨b',o',cs,f1,f2,f3,f4,f5,f6,f7⟩
  ·omega
  rw [g1] at f1;injection f1 with f1;injection f1 with f1 f1';subst f1 f1'
  obtain ⟨u,hu,_⟩:=f7 i hi
  have hcell:w.cell? ⟨b,o + i,none⟩=some u:=by rw [cell_of_row w b (o + i) cs E (0,0) f3];exact hu
  have hsz:o + i < cs.size:=by
   rcases Nat.lt_or_ge (o + i) cs.size with hlt | hge
   ·exact hlt
   ·rw [Array.getElem?_eq_none hge] at hu;cases hu
  have hS:((S.rm z).rm n).ch n=none:=by simp [fG]
  have hSz:((S.rm z).rm n).ch z=none:=by simp [fG,hne]
  have hsame:=jh (w:=w) f2 ⟨b,o + i,none⟩ rfl (.slice az vs.length (hz'.c - 0))
  have calm:Calm ((S.rm z).rm n) ω w (bY.j0 ω z n i) (w.setCell ⟨b,o + i,none⟩ (.slice az vs.length (hz'.c - 0))):=⟨rfl,rfl,rfl,hsame.1,fun b2 hb2 hl=>by
   have h1:ω b2≠some (n,none)∧ω b2≠some (z,none):=by
    rcases hl with h0 | ⟨y,j,c,h0,h1⟩
    ·rw [h0];simp
    ·rw [h0]
     refine ⟨fun e=> ?_,fun e=> ?_⟩
     ·simp at e;rw [e.1,hS] at h1;cases h1
     ·simp at e;rw [e.1,hSz] at h1;cases h1
   exact ⟨(hsame.2 b2 hb2 h1.1).1,if_neg h1.2⟩⟩
  have key:eA { η.drop z with r:=fun y j=>if y=n then (if j=i then hz' else η.r n j) else η.r y j } (bY.j0 ω z n i) (w.setCell ⟨b,o + i,none⟩ (.slice az vs.length (hz'.c - 0))) n h ⟨true,E,1, .rows F (vss.set i vs) []⟩:=by
   refine ⟨e2, ?_⟩
   have hbz:ω b≠some (z,none):=by rw [f2];simp;exact fun e=>hne e.symm
   refine .inr ⟨b,o,_,g1,(if_neg hbz).trans f2,heap_set f3 _,by simpa using f4,by show (vss.set i vs).length≤_;rw [List.length_set];exact f5,f6,fun j hj=> ?_⟩
   have hj:j < vss.length:=by simpa [eQ.len] using hj
   by_cases e:j=i
   ·subst e
    refine ⟨.slice az vs.length (hz'.c - 0),by simp [hsz],rfl,fun _ vs' hvs'=> ?_⟩
    rw [List.getElem?_set_self hi] at hvs'
    obtain rfl:=Option.some.inj hvs'
    simp only [if_true]
    refine ⟨by rw [q1 rfl];rfl,z2,dJ.j0 z3 fun b2 hb2 ho=>⟨(hsame.2 b2 hb2 (by rw [ho];simp;exact fun e=>absurd e hne)).1,if_pos ho⟩⟩
   ·obtain ⟨u',hu',hk⟩:=f7 j hj
    refine ⟨u',by rw [Array.getElem?_setIfInBounds_ne ae];exact hu',hk.1,fun _ vs' hvs'=> ?_⟩
    rw [List.getElem?_set_ne (fun e'=>e e'.symm)] at hvs'
    obtain ⟨r1,r2,r3⟩:=hk.2 (fun hm=>e (hh j hm)) vs' hvs'
    simp only [if_true,if_neg e]
    refine ⟨r1,r2,dJ.same (fun b2 hb2 ho=>⟨(hsame.2 b2 hb2 (by rw [ho];simp)).1, ?_⟩) (fun _ _ h=>h) r3⟩
    unfold bY.j0
    rw [if_neg (by rw [ho];simp)];exact ho
  have hfin:=(hs.drop z).rewrite (n:=n) (r:=fun j=>if j=i then hz' else η.r n j) (hd:=h) (by show (if n=z then none else η.h n)=some h;rw [if_neg (fun e=>hne e.symm)];exact e1) calm key
  have hst:=lu (P:=P) hT hcell (mF f3) (v:= .slice az vs.length (hz'.c - 0)) rfl
  simp only [Nat.sub_zero] at hst hfin
  refine ⟨_,by simp [execOp,hav,g2,hst],_,_,hfin⟩
theorem br {T:TypeId} {n:Nm} {k:Nat} {c:Ch} {l l':List A1} (hx:S.op x=some (o1 (.ptr n 0))) (hy:S.op y=some (.s (.agg l'))) (hc:S.ch n=some c) (hown:c.own=true) (hd:c.d= .flat l) (hk:l.length=k) (hk':l'.length=k) (hk0:Nat.blt 0 k=true)
  (hT:jd P T k=true) (h1:(l'.all fun b=>(A2.one b).okB)=true):cu P nt ⟨none, .store T x y,ty,ps,af,gd⟩ S (S.set n { c with d:= .flat l' }):=
 cu.unit rfl fun w0 ω0 η ω a w hs=>by
  have hp:c6 η (.ptr n 0) (a.eval x):=hs.iE hx
  obtain ⟨us,hus,hul,hua⟩:gj η (.agg l') (a.eval y):=hs.iE hy
  obtain ⟨h,e1,e2,e3⟩:=hs.chunk hc
  obtain ⟨b,o,g1,g2⟩:=hp.2 h e1
  rw [hown,hd] at e3
  have hk0':0 < k:=by simpa using hk0
  rcases e3 with ⟨_,_,h0⟩ | ⟨b',o',cs,f1,f2,f3,f4,f5,f6,f7⟩
  ·have h0:l.length=0:=h0;omega
  rw [g1] at f1;injection f1 with f1;injection f1 with f1 f1';subst f1 f1'
  have f5:l.length≤h.c * h.k:=f5
  have hone:∀v∈us.toList,v.oneCell'=true:=by
   intro v hv
   obtain ⟨j,hj,rfl⟩:=List.getElem_of_mem hv
   have hjl:j < l'.length:=by rw [←hul];simpa using hj
   obtain ⟨u',hu',hdu⟩:=hua j l'[j] (List.getElem?_eq_getElem hjl)
   have:u'=us.toList[j]:=by
    have h2:us[j]? =some us.toList[j]:=by rw [←Array.getElem?_toList,List.getElem?_eq_getElem hj]
    rw [hu'] at h2;exact Option.some.inj h2
   rw [←this]
   exact hdu.one fun v hv=>A2.mo (List.all_eq_true.1 h1 _ (List.getElem_mem hjl)) v (by rw [hv])
  have hst:=run_storeCells_at P b o c.E us.toList 0 cs w f3 (by simp [hul];omega) hone
  simp only [Nat.add_zero] at hst
  refine ⟨w.setRow b (cs.toList.take o ++ us.toList ++ cs.toList.drop (o + us.toList.length)).toArray,by simp only [execOp,g2,hus];simp [Instr.storeAt,Instr.sureAddr,storeVar,pK hT,Value.cells,hul,hk'];rw [hst];simp [hul,hk'],η,ω,hs.write e1 (c':= { c with d:= .flat l' }) ⟨rfl,rfl,rfl,by simp,fun b2 hb2 hl=>⟨setRow_other w b b2 _ (fun e=> ?_),rfl⟩⟩ ⟨e2, ?_⟩⟩
  ·subst e
   rcases hl with h0 | ⟨y,j,c2,h0,h2⟩
   ·rw [f2] at h0;cases h0
   ·rw [f2] at h0;simp at h0;rw [←h0.1,fG,if_pos rfl] at h2;cases h2
  ·show lN c.own ω _ (n,none) h c.E l'.length (cI η ω _ c.own n (.flat l'))
   rw [hown]
   have htl:(cs.toList.take o).length=o:=by rw [List.length_take,Array.length_toList];omega
   refine .inr ⟨b,o,_,g1,f2,setRow_heap w b cs _ c.E _ f3, ?_,ae,f6,fun j hj=> ?_⟩
   ·simp only [List.size_toArray,List.length_append,htl,List.length_drop,Array.length_toList,hul];omega
   ·obtain ⟨u',hu',hdu⟩:=hua j l'[j] (List.getElem?_eq_getElem hj)
    refine ⟨u', ?_,fun b1 hb1=> ?_⟩
    ·simp only [List.getElem?_toArray]
     have:=rY (a:=cs.toList.take o) (b:=us.toList) (c:=cs.toList.drop (o + us.toList.length)) (j:=j) (v:=u') (by rw [Array.getElem?_toList];exact hu')
     rw [htl] at this
     exact this
    ·rw [List.getElem?_eq_getElem hj] at hb1
     obtain rfl:=Option.some.inj hb1;exact hdu
end
end Go.Proofs.YtekbhbcgoadciaaGreat
namespace Go.Proofs.YtekbhbcgoadciaaGreat
open Go.RowKit
structure Add where
 t:Nat
 av:AV
 news:Option (Nm×Ch)
def St.Dc (S:St):Option (Nm×Ch)→St
 | none=>S
 | some (x,c)=>S.new x c
def St.add (S:St) (A:Add):St:=(S.Dc A.news).put A.t A.av
def bL (l:List Nat) (x:Nat):Bool:=l.any (Nat.beq x)
theorem cH {l:List Nat} {x:Nat} :bL l x=true↔x∈l:=by
 unfold bL;rw [List.any_eq_true]
 exact ⟨fun ⟨y,h1,h2⟩=>beq_true h2 ▸ h1,fun h=>⟨x,h,by simp⟩⟩
def rG:Nm→Bool:=fun _=>false
def St.clear (S:St) (ds nms:List Nat):St:=
 {sl:=fun t=>bif bL ds t then none else (S.sl t).bind fun av=>bif av.bad (bL nms) rG then none else some av,ph:=fun t=>(S.ph t).bind fun av=>bif av.bad (bL nms) rG then none else some av,ch:=fun x=>bif bL nms x then none else (S.ch x).map (Ch.clean (bL nms) rG) }
def wI (ℓ:Nat→Bool):Nat→List Add→Nat→Option AV
 | _, [],_=>none
 | k,A :: r,t=>bif Nat.beq t A.t && ℓ k then some A.av else wI ℓ (k + 1) r t
def Add.yj (A:Add) (x:Nm):Option Ch:=match A.news with
 | some (y,c)=>bif Nat.beq x y then some c else none
 | none=>none
def wF (ℓ:Nat→Bool):Nat→List Add→Nm→Option Ch
 | _, [],_=>none
 | k,A :: r,x=>match (bif ℓ k then A.yj x else none) with
  | some c=>some c
  | none=>wF ℓ (k + 1) r x
def St.part (S:St) (ℓ:Nat→Bool) (adds:List Add):St:=
 {sl:=fun t=>match wI ℓ 0 adds t with | some av=>some av | none=>S.sl t,ph:=S.ph,ch:=fun x=>match wF ℓ 0 adds x with | some c=>some c | none=>S.ch x }
structure St.le (S S1:St):Prop where
 sl:∀t av,S.sl t=some av→S1.sl t=some av
 ch:∀x c,S.ch x=some c→S1.ch x=some c
theorem St.le.op {S S1:St} (h:S.le S1) {x:Operand} {av:AV} (hx:S.op x=some av):S1.op x=some av:=by
 cases x with
 | tmp t=>exact h.sl t av hx
 | const v=>exact hx
 | func f=>exact hx
 | global g=>cases hx
theorem gk {ℓ:Nat→Bool} :∀ {l:List Add} {k t:Nat} {av:AV},wI ℓ k l t=some av→∃j A,l[j]? =some A∧ℓ (k + j)=true∧A.t=t∧A.av=av
 | [],_,_,_,h=>by cases h
 | A :: r,k,t,av,h=>by
  unfold wI at h
  cases hb:(Nat.beq t A.t && ℓ k) with
  | true=>
   rw [hb] at h;simp only [cond_true,Option.some.injEq] at h
   simp only [Bool.and_eq_true] at hb
   exact ⟨0,A,rfl,hb.2,(beq_true hb.1).symm,h⟩
  | false=>
   rw [hb] at h
   obtain ⟨j,B,h1,h2,h3⟩:=gk (l:=r) (k:=k + 1) h
   exact ⟨j + 1,B,by simpa using h1,by rw [show k + (j + 1)=k + 1 + j by omega];exact h2,h3⟩
theorem pV {ℓ:Nat→Bool} :∀ {l:List Add} {k j:Nat} {A:Add},l[j]? =some A→ℓ (k + j)=true→(l.map (·.t)).Nodup→wI ℓ k l A.t=some A.av
 | [],_,_,_,h,_,_=>by simp at h
 | B :: r,k,0,A,h,hl,_=>by
  simp at h;subst h
  unfold wI
  simp at hl
  simp [hl]
 | B :: r,k,j + 1,A,h,hl,hn=>by
  have h':r[j]? =some A:=by simpa using h
  simp only [List.map_cons,List.nodup_cons] at hn
  have hne:A.t≠B.t:=fun e=>hn.1 (List.mem_map.2 ⟨A,List.mem_of_getElem? h',e⟩)
  unfold wI
  rw [dy hne]
  exact pV h' (by rw [show k + 1 + j=k + (j + 1) by omega];exact hl) hn.2
theorem gq {ℓ:Nat→Bool} :∀ {l:List Add} {k:Nat} {x:Nm} {c:Ch},wF ℓ k l x=some c→∃j A,l[j]? =some A∧ℓ (k + j)=true∧A.news=some (x,c)
 | [],_,_,_,h=>by cases h
 | A :: r,k,x,c,h=>by
  unfold wF at h
  split at h
  ·rename_i c' hc
   obtain rfl:=Option.some.inj h
   cases hl:ℓ k with
   | false=>rw [hl] at hc;cases hc
   | true=>
    rw [hl] at hc
    simp only [cond_true,Add.yj] at hc
    cases hn:A.news with
    | none=>rw [hn] at hc;cases hc
    | some p=>
     obtain ⟨y,d⟩:=p
     rw [hn] at hc
     simp only at hc
     cases hb:Nat.beq x y with
     | false=>rw [hb] at hc;cases hc
     | true=>rw [hb] at hc;simp at hc;subst hc;exact ⟨0,A,rfl,hl,by rw [hn,beq_true hb]⟩
  ·obtain ⟨j,B,h1,h2,h3⟩:=gq (l:=r) (k:=k + 1) h
   exact ⟨j + 1,B,by simpa using h1,by rw [show k + (j + 1)=k + 1 + j by omega];exact h2,h3⟩
def kz (l:List Add):List Nm:=l.filterMap fun A=>A.news.map (·.1)
theorem qa {ℓ:Nat→Bool} :∀ {l:List Add} {k j:Nat} {A:Add} {x:Nm} {c:Ch},l[j]? =some A→ℓ (k + j)=true→A.news=some (x,c)→(kz l).Nodup→wF ℓ k l x=some c
 | [],_,_,_,_,_,h,_,_,_=>by simp at h
 | B :: r,k,0,A,x,c,h,hl,ha,_=>by
  simp at h;subst h
  unfold wF
  simp at hl
  simp [hl,Add.yj,ha]
 | B :: r,k,j + 1,A,x,c,h,hl,ha,hn=>by
  have h':r[j]? =some A:=by simpa using h
  have hx:x∈kz r:=List.mem_filterMap.2 ⟨A,List.mem_of_getElem? h',by rw [ha];rfl⟩
  unfold wF
  have hB:B.yj x=none:=by
   unfold Add.yj
   cases hb:B.news with
   | none=>rfl
   | some p=>
    obtain ⟨y,d⟩:=p
    have hne:x≠y:=fun e=>by
     subst e
     have:kz (B :: r)=x :: kz r:=by simp [kz,hb]
     rw [this,List.nodup_cons] at hn
     exact hn.1 hx
    simp [dy hne]
  have hn':(kz r).Nodup:=by
   unfold kz at hn ⊢
   rw [List.filterMap_cons] at hn
   split at hn
   ·exact hn
   ·exact (List.nodup_cons.1 hn).2
  have:(bif ℓ k then B.yj x else none)=none:=by rw [hB];cases ℓ k<;>rfl
  rw [this]
  exact qa h' (by rw [show k + 1 + j=k + (j + 1) by omega];exact hl) ha hn'
theorem A1.pO {a:A1} {x:Nm} (h:a.has x=false):a.forget x=a:=by unfold A1.forget;rw [h];rfl
theorem Ch.pO {c:Ch} {x:Nm} (h:x ∉ c.names):c.forget x=c:=by
 unfold Ch.forget eQ.forget
 obtain ⟨ow,E,k,d⟩:=c
 cases d with
 | flat l=>
  have:l.map (A1.forget x)=l:=by
   conv=>rhs;rw [←List.map_id l]
   refine List.map_congr_left fun a ha=>A1.pO ?_
   cases hx:a.has x with
   | false=>rfl
   | true=>exact absurd (Ch.uK (c:=⟨ow,E,k, .flat l⟩) rfl ha hx) h
  simp [this]
 | bR vs=>rfl
 | rows F vss hs=>rfl
 | mix cs=>rfl
theorem pt {o:Nm→Bool} {a:A1} {y:Nm} (hb:a.bad o rG=false) (hy:y∈a.names):o y=false:=by
 cases a with
 | val v=>cases hy
 | any=>cases hy
 | sl z _ _=>simp [A1.names] at hy;subst hy;exact hb
 | ptr z _=>simp [A1.names] at hy;subst hy;have hb:(o y && !rG y)=false:=hb;simpa [rG] using hb
 | esl z _ _ _=>simp [A1.names] at hy;subst hy;exact hb
 | eptr z _ _=>simp [A1.names] at hy;subst hy;exact hb
 | clo f xs=>
  simp only [A1.names,List.mem_map] at hy
  obtain ⟨p,hp,rfl⟩:=hy
  have:=List.any_eq_false.1 (show xs.any (fun q=>o q.1 && !rG q.1)=false from hb) p hp
  simpa [rG] using this
theorem rM {o:Nm→Bool} {a:A2} {y:Nm} (hb:a.bad o rG=false) (hy:y∈a.names):o y=false:=by
 cases a with
 | one a=>exact pt hb hy
 | agg l=>
  obtain ⟨a,ha,hy⟩:=List.mem_flatMap.1 hy
  exact pt (by have:=List.any_eq_false.1 (show l.any (A1.bad o rG)=false from hb) a ha;simpa using this) hy
theorem sn {o:Nm→Bool} {a:AV} {y:Nm} (hb:a.bad o rG=false) (hy:y∈a.names):o y=false:=by
 cases a with
 | s a=>exact rM hb hy
 | tup l=>
  obtain ⟨a,ha,hy⟩:=List.mem_flatMap.1 hy
  exact rM (by have:=List.any_eq_false.1 (show l.any (A2.bad o rG)=false from hb) a ha;simpa using this) hy
theorem yG {o:Nm→Bool} {c:Ch} {y:Nm} (h:y∈(c.clean o rG).names):o y=false:=by
 obtain ⟨ow,E,k,d⟩:=c
 cases d with
 | flat l=>
  simp only [Ch.clean,eQ.clean,Ch.names,List.mem_flatMap,List.mem_map] at h
  obtain ⟨a',⟨a,ha,rfl⟩,hy⟩:=h
  cases hx:a.bad o rG with
  | true=>rw [hx] at hy;cases hy
  | false=>rw [hx] at hy;exact pt hx hy
 | bR vs=>cases h
 | rows F vss hs=>cases h
 | mix cs=>cases h
def Add.names (A:Add):List Nm:=A.av.names ++ (match A.news with | some (_,c)=>c.names | none=> [])
def sc (cls:List (List Nat)) (adds:List Add):Bool:=
 adds.zipIdx.all fun p=>p.1.names.all fun y=>adds.zipIdx.all fun q=>match q.1.news with
  | some (x,_)=> !(Nat.beq x y) || Nat.beq q.2 p.2 || bL (cls.getD p.2 []) q.2
  | none=>true
theorem tx {cls:List (List Nat)} {adds:List Add} (h:sc cls adds=true) {i j:Nat} {A B:Add} {x:Nm} {c:Ch} (hi:adds[i]? =some A) (hj:adds[j]? =some B) (hB:B.news=some (x,c)) (hx:x∈A.names):j=i∨j∈cls.getD i []:=by
 have h1:=List.all_eq_true.1 h (A,i) (by rw [List.mem_zipIdx_iff_getElem?];exact hi)
 have h2:=List.all_eq_true.1 h1 x hx
 have h3:=List.all_eq_true.1 h2 (B,j) (by rw [List.mem_zipIdx_iff_getElem?];exact hj)
 simp only [hB,Bool.or_eq_true] at h3
 rcases h3 with (h3 | h3) | h3
 ·simp at h3
 ·exact .inl (beq_true h3)
 ·exact .inr (cH.1 h3)
end Go.Proofs.YtekbhbcgoadciaaGreat
namespace Go.Proofs.YtekbhbcgoadciaaGreat
open Go.RowKit
section
variable {P:Program} {nt:Nat} {w0 w:World} {ω0:ml} {S S1:St} {Q:Exit→Act→World→Prop} {a:Act}
def Ds (ℓ:Nat→Bool) (t:Nat):List Add→Option AV
 | []=>none
 | A :: r=>bif Nat.beq t A.t && ℓ r.length then some A.av else Ds ℓ t r
def DI (ℓ:Nat→Bool) (x:Nm):List Add→Option Ch
 | []=>none
 | A :: r=>match (bif ℓ r.length then A.yj x else none) with
  | some c=>some c
  | none=>DI ℓ x r
def St.gG (S:St) (ℓ:Nat→Bool) (done:List Add):St:=
 {sl:=fun t=>match Ds ℓ t done with | some av=>some av | none=>S.sl t,ph:=S.ph,ch:=fun x=>match DI ℓ x done with | some c=>some c | none=>S.ch x }
theorem uR {ℓ:Nat→Bool} {t:Nat} {av:AV} :∀ {l:List Add},Ds ℓ t l=some av→∃j A,l.reverse[j]? =some A∧ℓ j=true∧A.t=t∧A.av=av
 | [],h=>by cases h
 | A :: r,h=>by
  unfold Ds at h
  cases hb:(Nat.beq t A.t && ℓ r.length) with
  | true=>
   rw [hb] at h;simp only [cond_true,Option.some.injEq] at h
   simp only [Bool.and_eq_true] at hb
   exact ⟨r.length,A,by simp,hb.2,(beq_true hb.1).symm,h⟩
  | false=>
   rw [hb] at h
   obtain ⟨j,B,h1,h2⟩:=uR (l:=r) h
   have:j < r.length:=by have:=(List.getElem?_eq_some_iff.1 h1).1;simpa using this
   exact ⟨j,B,by rw [List.reverse_cons,List.getElem?_append_left (by simpa using this)];exact h1,h2⟩
theorem ue {ℓ:Nat→Bool} {x:Nm} {c:Ch} :∀ {l:List Add},DI ℓ x l=some c→∃j A,l.reverse[j]? =some A∧ℓ j=true∧A.news=some (x,c)
 | [],h=>by cases h
 | A :: r,h=>by
  unfold DI at h
  split at h
  ·rename_i c' hc
   obtain rfl:=Option.some.inj h
   cases hl:ℓ r.length with
   | false=>rw [hl] at hc;cases hc
   | true=>
    rw [hl] at hc
    simp only [cond_true,Add.yj] at hc
    cases hn:A.news with
    | none=>rw [hn] at hc;cases hc
    | some p=>
     obtain ⟨y,d⟩:=p
     rw [hn] at hc
     simp only at hc
     cases hb:Nat.beq x y with
     | false=>rw [hb] at hc;cases hc
     | true=>rw [hb] at hc;simp at hc;subst hc;exact ⟨r.length,A,by simp,hl,by rw [hn,beq_true hb]⟩
  ·obtain ⟨j,B,h1,h2⟩:=ue (l:=r) h
   have:j < r.length:=by have:=(List.getElem?_eq_some_iff.1 h1).1;simpa using this
   exact ⟨j,B,by rw [List.reverse_cons,List.getElem?_append_left (by simpa using this)];exact h1,h2⟩
inductive ft (P:Program) (nt:Nat) (S:St) (cls:List (List Nat)) (sk:List Nat):List Oper→List Add→List Add→Prop where
 | nil {done:List Add} :ft P nt S cls sk [] done done
 | skip {o:Oper} {rest:List Oper} {done all:List Add} (A:Add) (hs:bL sk done.length=true) (k:ft P nt S cls sk rest (A :: done) all):ft P nt S cls sk (o :: rest) done all
 | cons {o:Oper} {rest:List Oper} {done all:List Add} (A:Add) (hg:o.guard=none)
   (h:∀S1,(S.gG (bL (cls.getD done.length [])) done).le S1→cu P nt o S1 (S1.add A)) (k:ft P nt S cls sk rest (A :: done) all):ft P nt S cls sk (o :: rest) done all
theorem ft.spec {cls:List (List Nat)} {sk:List Nat} {ops:List Oper} {done all:List Add} (h:ft P nt S cls sk ops done all):(∃r,all.reverse=done.reverse ++ r∧r.length=ops.length)∧∀(i:Nat) (o:Oper),ops[i]? =some o→bL sk (done.length + i)=false→
  ∃A,all.reverse[done.length + i]? =some A∧o.guard=none∧∀S1,(S.gG (bL (cls.getD (done.length + i) [])) (all.reverse.take (done.length + i)).reverse).le S1→cu P nt o S1 (S1.add A):=by
 induction h with
 | nil=>exact ⟨⟨[],by simp⟩,fun i o h=>by simp at h⟩
 | @skip o rest done all A hs k ih=>
  obtain ⟨⟨r,hr,hl⟩,h2⟩:=ih
  refine ⟨⟨A :: r,by rw [hr];simp,by simp [hl]⟩,fun i o' hi hsk=> ?_⟩
  cases i with
  | zero=>rw [Nat.add_zero,hs] at hsk;cases hsk
  | succ i=>
   have e:(A :: done).length + i=done.length + (i + 1):=by simp;omega
   rw [←e] at hsk ⊢
   exact h2 i o' (by simpa using hi) hsk
 | @cons o rest done all A hg h k ih=>
  obtain ⟨⟨r,hr,hl⟩,h2⟩:=ih
  refine ⟨⟨A :: r,by rw [hr];simp,by simp [hl]⟩,fun i o' hi hsk=> ?_⟩
  cases i with
  | zero=>
   simp at hi;subst hi
   refine ⟨A,by rw [hr];simp,hg,fun S1 hS=>h S1 ?_⟩
   have:(all.reverse.take (done.length + 0)).reverse=done:=by rw [hr];simp
   rw [this] at hS
   exact hS
  | succ i=>
   have e:(A :: done).length + i=done.length + (i + 1):=by simp;omega
   rw [←e] at hsk ⊢
   exact h2 i o' (by simpa using hi) hsk
def Gx (ops:Array Oper) (nA:Nat) (sk:List Nat) (cls:List (List Nat)):Bool:=
 Nat.ble nA ops.size && (List.range ops.size).all fun i=>match ops[i]? with
  | some o=>(Nat.ble nA i || bL sk i || o.after.all fun e=> !Region.binds .any e || (Nat.blt e.on i && !bL sk e.on)) && ((cls.getD i []).all fun j=>o.after.any fun e=>Region.binds .any e && (Nat.beq j e.on || bL (cls.getD e.on []) j)) &&
    ((Nat.blt i nA && !bL sk i) || (List.range nA).all fun j=>bL sk j || bL (cls.getD i []) j) && (Nat.ble nA i || (cls.getD i []).all fun j=>Nat.blt j i)
  | none=>true
structure EZ (ops:Array Oper) (nA:Nat) (sk:List Nat) (cls:List (List Nat)):Prop where
 size:nA≤ops.size
 less:∀i o,ops[i]? =some o→i < nA→bL sk i=false→∀e∈o.after,Region.binds .any e=true→e.on < i∧bL sk e.on=false
 dep:∀i o,ops[i]? =some o→∀j∈cls.getD i [],∃e∈o.after,Region.binds .any e=true∧(j=e.on∨j∈cls.getD e.on [])
 late:∀i o,ops[i]? =some o→(nA≤i∨bL sk i=true)→∀j,j < nA→bL sk j=false→j∈cls.getD i []
 lt:∀i o,ops[i]? =some o→i < nA→∀j∈cls.getD i [],j < i
theorem uv {ops:Array Oper} {nA:Nat} {sk:List Nat} {cls:List (List Nat)} (h:Gx ops nA sk cls=true):EZ ops nA sk cls:=by
 unfold Gx at h
 simp only [Bool.and_eq_true,Nat.ble_eq] at h
 obtain ⟨h0,h⟩:=h
 have key:∀i o,ops[i]? =some o→_:=fun i o ho=>by
  have hi:i < ops.size:=(Array.getElem?_eq_some_iff.1 ho).1
  have h1:=List.all_eq_true.1 h i (List.mem_range.2 hi)
  simp only [ho,Bool.and_eq_true,Bool.or_eq_true] at h1
  exact h1
 refine ⟨h0,fun i o ho hi hsk e he hb=> ?_,fun i o ho j hj=> ?_,fun i o ho hi j hj hsk=> ?_,fun i o ho hi j hj=> ?_⟩
 ·rcases (key i o ho).1.1.1 with (h1 | h1) | h1
  ·have:=Nat.le_of_ble_eq_true h1;omega
  ·rw [hsk] at h1;cases h1
  ·have:=Array.all_eq_true_iff_forall_mem.1 h1 e he
   simp [hb] at this;exact this
 ·have:=List.all_eq_true.1 (key i o ho).1.1.2 j hj
  obtain ⟨e,he,h2⟩:=Array.any_eq_true'.1 this
  simp only [Bool.and_eq_true,Bool.or_eq_true] at h2
  exact ⟨e,he,h2.1,h2.2.imp (fun h=>beq_true h) (fun h=>cH.1 h)⟩
 ·rcases (key i o ho).1.2 with h1 | h1
  ·exfalso
   have h2:i < nA:=by simpa using h1.1
   have h3:bL sk i=false:=by simpa using h1.2
   rcases hi with h4 | h4
   ·omega
   ·rw [h3] at h4;cases h4
  ·have h2:=List.all_eq_true.1 h1 j (List.mem_range.2 hj)
   simp only [Bool.or_eq_true,hsk,Bool.false_eq_true,false_or] at h2
   exact cH.1 h2
 ·rcases (key i o ho).2 with h1 | h1
  ·have:=Nat.le_of_ble_eq_true h1;omega
  ·exact (by have:=List.all_eq_true.1 h1 j hj;simpa using this)
def missing (sk:List Nat) (L:Array Bool):Nat→Nat
 | 0=>0
 | k + 1=>missing sk L k + if L.getD k false=true∨bL sk k=true then 0 else 1
theorem mf (sk:List Nat) (L:Array Bool) (i:Nat):∀k,k≤i→missing sk (L.setIfInBounds i true) k=missing sk L k
 | 0,_=>rfl
 | k + 1,h=>by simp only [missing];rw [mf sk L i k ae,getD_set_ne false ae]
theorem iJ {sk:List Nat} {L:Array Bool} {i:Nat} (hi:i < L.size) (hL:L.getD i false=false) (hs:bL sk i=false):∀k,i < k→missing sk L k=missing sk (L.setIfInBounds i true) k + 1
 | 0,h=>by omega
 | k + 1,h=>by
  simp only [missing]
  by_cases e:k=i
  ·subst e
   rw [mf sk L k k (Nat.le_refl _),hL,hs]
   simp [hi]
  ·rw [iJ hi hL hs k ae,getD_set_ne false ae];omega
theorem ei {sk:List Nat} {L:Array Bool} :∀ {k},missing sk L k=0→∀j,j < k→bL sk j=false→L.getD j false=true
 | 0,_,j,h,_=>by omega
 | k + 1,h0,j,h,hs=>by
  simp only [missing] at h0
  by_cases e:j=k
  ·subst e
   by_cases hb:L.getD j false=true
   ·exact hb
   ·rw [if_neg (by rw [hs];simpa using hb)] at h0;omega
  ·exact ei (k:=k) ae j ae hs
theorem eM {sk:List Nat} {L:Array Bool} :∀ {k},(∀j,j < k→bL sk j=false→L.getD j false=true)→missing sk L k=0
 | 0,_=>rfl
 | k + 1,h=>by
  simp only [missing]
  rw [eM fun j hj=>h j ae,if_pos]
  cases hs:bL sk k with
  | true=>exact .inr rfl
  | false=>exact .inl (h k ae hs)
theorem fY {sk:List Nat} {L:Array Bool} :∀ {k},missing sk L k≠0→∃j,j < k∧bL sk j=false∧L.getD j false=false∧∀i,i < j→bL sk i=false→L.getD i false=true
 | 0,h=>absurd rfl h
 | k + 1,h=>by
  by_cases h0:missing sk L k=0
  ·simp only [missing,h0] at h
   have h1:¬(L.getD k false=true∨bL sk k=true):=fun e=>by rw [if_pos e] at h;simp at h
   refine ⟨k,ae, ?_, ?_,ei h0⟩
   ·cases hs:bL sk k with
    | false=>rfl
    | true=>exact absurd (.inr hs) h1
   ·cases hb:L.getD k false with
    | false=>rfl
    | true=>exact absurd (.inl hb) h1
  ·obtain ⟨j,h1,h2⟩:=fY h0
   exact ⟨j,ae,h2⟩
structure mj (adds:List Add) (cls:List (List Nat)) (ds nms:List Nat):Prop where
 t:(adds.map (·.t)).Nodup
 n:(kz adds).Nodup
 ds:∀A∈adds,A.t∈ds
 nms:∀A∈adds,∀x c,A.news=some (x,c)→x∈nms
 ment:sc cls adds=true
theorem oe {S:St} {ds nms:List Nat} {t:Nat} {av:AV} (h:(S.clear ds nms).sl t=some av):t ∉ ds∧av.bad (bL nms) rG=false∧S.sl t=some av:=by
 have h:(bif bL ds t then none else (S.sl t).bind fun av=>bif av.bad (bL nms) rG then none else some av)=some av:=h
 cases hb:bL ds t with
 | true=>rw [hb] at h;cases h
 | false=>
  rw [hb] at h
  obtain ⟨h1,h2⟩:=jC (b:=AV.bad (bL nms) rG) h
  exact ⟨fun e=>(by rw [cH.2 e] at hb;cases hb),h2,h1⟩
theorem n7 {S:St} {ds nms:List Nat} {x:Nm} {c:Ch} (h:(S.clear ds nms).ch x=some c):x ∉ nms∧∃c0,S.ch x=some c0∧c=c0.clean (bL nms) rG:=by
 have h:(bif bL nms x then none else (S.ch x).map (Ch.clean (bL nms) rG))=some c:=h
 cases hb:bL nms x with
 | true=>rw [hb] at h;cases h
 | false=>
  rw [hb] at h
  simp only [cond_false,Option.map_eq_some_iff] at h
  obtain ⟨c0,h1,h2⟩:=h
  exact ⟨fun e=>(by rw [cH.2 e] at hb;cases hb),c0,h1,h2.symm⟩
theorem oA {S:St} {ds nms:List Nat} {adds adds':List Add} {cls:List (List Nat)} (ok:mj adds cls ds nms) {ℓ1 ℓ2:Nat→Bool} (hsub:∀(j:Nat) (A:Add),adds'[j]? =some A→adds[j]? =some A) (hl:∀(j:Nat) (A:Add),adds'[j]? =some A→ℓ1 j=true→ℓ2 j=true):
  ((S.clear ds nms).part ℓ1 adds').le ((S.clear ds nms).part ℓ2 adds):=by
 constructor
 ·intro t av h
  have h:(match wI ℓ1 0 adds' t with | some av=>some av | none=>(S.clear ds nms).sl t)=some av:=h
  show (match wI ℓ2 0 adds t with | some av=>some av | none=>(S.clear ds nms).sl t)=some av
  split at h
  ·rename_i av' h1
   obtain rfl:=Option.some.inj h
   obtain ⟨j,A,h2,h3,rfl,rfl⟩:=gk h1
   rw [Nat.zero_add] at h3
   have:=pV (ℓ:=ℓ2) (k:=0) (hsub j A h2) (by rw [Nat.zero_add];exact hl j A h2 h3) ok.t
   rw [this]
  ·split
   ·rename_i av' h1
    obtain ⟨j,A,h2,h3,rfl,rfl⟩:=gk h1
    exact absurd (ok.ds A (List.mem_of_getElem? h2)) (oe h).1
   ·exact h
 ·intro x c h
  have h:(match wF ℓ1 0 adds' x with | some c=>some c | none=>(S.clear ds nms).ch x)=some c:=h
  show (match wF ℓ2 0 adds x with | some c=>some c | none=>(S.clear ds nms).ch x)=some c
  split at h
  ·rename_i c' h1
   obtain rfl:=Option.some.inj h
   obtain ⟨j,A,h2,h3,h4⟩:=gq h1
   rw [Nat.zero_add] at h3
   have:=qa (ℓ:=ℓ2) (k:=0) (hsub j A h2) (by rw [Nat.zero_add];exact hl j A h2 h3) h4 ok.n
   rw [this]
  ·split
   ·rename_i c' h1
    obtain ⟨j,A,h2,h3,h4⟩:=gq h1
    exact absurd (ok.nms A (List.mem_of_getElem? h2) x _ h4) (n7 h).1
   ·exact h
theorem g9 {S:St} {ds nms:List Nat} {adds done:List Add} {cls:List (List Nat)} (ok:mj adds cls ds nms) {ℓ1 ℓ2:Nat→Bool} (hsub:∀(j:Nat) (A:Add),done.reverse[j]? =some A→adds[j]? =some A) (hl:∀(j:Nat) (A:Add),done.reverse[j]? =some A→ℓ1 j=true→ℓ2 j=true):
  ((S.clear ds nms).gG ℓ1 done).le ((S.clear ds nms).part ℓ2 adds):=by
 constructor
 ·intro t av h
  have h:(match Ds ℓ1 t done with | some av=>some av | none=>(S.clear ds nms).sl t)=some av:=h
  show (match wI ℓ2 0 adds t with | some av=>some av | none=>(S.clear ds nms).sl t)=some av
  split at h
  ·rename_i av' h1
   obtain rfl:=Option.some.inj h
   obtain ⟨j,A,h2,h3,rfl,rfl⟩:=uR h1
   have:=pV (ℓ:=ℓ2) (k:=0) (hsub j A h2) (by rw [Nat.zero_add];exact hl j A h2 h3) ok.t
   rw [this]
  ·split
   ·rename_i av' h1
    obtain ⟨j,A,h2,h3,rfl,rfl⟩:=gk h1
    exact absurd (ok.ds A (List.mem_of_getElem? h2)) (oe h).1
   ·exact h
 ·intro x c h
  have h:(match DI ℓ1 x done with | some c=>some c | none=>(S.clear ds nms).ch x)=some c:=h
  show (match wF ℓ2 0 adds x with | some c=>some c | none=>(S.clear ds nms).ch x)=some c
  split at h
  ·rename_i c' h1
   obtain rfl:=Option.some.inj h
   obtain ⟨j,A,h2,h3,h4⟩:=ue h1
   have:=qa (ℓ:=ℓ2) (k:=0) (hsub j A h2) (by rw [Nat.zero_add];exact hl j A h2 h3) h4 ok.n
   rw [this]
  ·split
   ·rename_i c' h1
    obtain ⟨j,A,h2,h3,h4⟩:=gq h1
    exact absurd (ok.nms A (List.mem_of_getElem? h2) x _ h4) (n7 h).1
   ·exact h
theorem St.le.wk {S S1:St} (h:S.le S1) (hp:∀t av,S.ph t=some av→S1.ph t=some av):Wk S1 S:=Wk.less h.sl h.ch hp
theorem oI (S:St) (ds nms:List Nat):Wk S (S.clear ds nms):=by
 refine ⟨fun w0 ω0 nt a w ⟨η,ω,h⟩=> ?_⟩
 let η':Env:= { η with h:=fun x=>bif bL nms x then none else η.h x }
 have ht:CH η η' (bL nms) rG:=fun y=>by
  cases hb:bL nms y with
  | true=>exact .inl (by simp only [η',hb];rfl)
  | false=>exact .inr (.inl ⟨by simp only [η',hb];rfl,fun _=>rfl⟩)
 refine ⟨η',ω, { dfr:=h.dfr,tsz:=h.tsz,fr:=h.fr,slots:=fun t av hs=> ?_,phs:=fun t av hs=> ?_,mem:=⟨fun y c hy=> ?_,fun y hy=> ?_⟩ }⟩
 ·obtain ⟨_,h2,h1⟩:=oe hs
  obtain ⟨u,h3,h4⟩:=h.slots t av h1
  exact ⟨u,h3,h4.oD ht h2⟩
 ·obtain ⟨h1,h2⟩:=jC (b:=AV.bad (bL nms) rG) hs
  obtain ⟨u,h3,h4⟩:=h.phs t av h1
  exact ⟨u,h3,h4.oD ht h2⟩
 ·obtain ⟨h1,c0,h2,rfl⟩:=n7 hy
  obtain ⟨hd,h3,h4⟩:=h.mem.1 y c0 h2
  have hb:bL nms y=false:=by
   cases hb:bL nms y with
   | false=>rfl
   | true=>exact absurd (cH.1 hb) h1
  exact ⟨hd,by simp only [η',hb];exact h3,eA.oD (η:=η) (p:=fun _=>True) (Same.refl _ _ _) trivial (fun _=>trivial) (fun _=>rfl) ht h4⟩
 ·have hy:(bif bL nms y then none else (S.ch y).map (Ch.clean (bL nms) rG))=none:=hy
  cases hb:bL nms y with
  | true=>simp only [η',hb];rfl
  | false=>
   rw [hb] at hy
   simp only [cond_false,Option.map_eq_none_iff] at hy
   simp only [η',hb]
   exact h.mem.2 y hy
theorem wz {S:St} {ds nms:List Nat} {adds:List Add} {cls:List (List Nat)} (ok:mj adds cls ds nms) {ℓ:Nat→Bool} {i:Nat} {A:Add} (hi:adds[i]? =some A) (hL:ℓ i=false) (hcl:∀j,ℓ j=true→i ∉ cls.getD j []):
  Wk (((S.clear ds nms).part ℓ adds).add A) ((S.clear ds nms).part (fun j=>Nat.beq j i || ℓ j) adds):=by
 have hno:∀(j:Nat) (B:Add),adds[j]? =some B→ℓ j=true→∀x c,A.news=some (x,c)→x ∉ B.names:=fun j B hj hlj x c hx hm=>by
  rcases tx ok.ment hj hi hx hm with h1 | h1
  ·subst h1;rw [hL] at hlj;cases hlj
  ·exact hcl j hlj h1
 have hat:A∈adds:=List.mem_of_getElem? hi
 refine Wk.less (fun t av h=> ?_) (fun x c h=> ?_) fun t av h=> ?_
 ·have h:(match wI (fun j=>Nat.beq j i || ℓ j) 0 adds t with | some av=>some av | none=>(S.clear ds nms).sl t)=some av:=h
  show ((((S.clear ds nms).part ℓ adds).Dc A.news).put A.t A.av).sl t=some av
  rw [iW]
  by_cases e:t=A.t
  ·subst e
   rw [pV (ℓ:=fun j=>Nat.beq j i || ℓ j) (k:=0) hi (by simp) ok.t] at h
   rw [if_pos rfl];exact h
  ·rw [if_neg e]
   have h1:((S.clear ds nms).part ℓ adds).sl t=some av∧∀x c,A.news=some (x,c)→av.has x=false:=by
    split at h
    ·rename_i av' h1
     obtain rfl:=Option.some.inj h
     obtain ⟨j,B,h2,h3,rfl,rfl⟩:=gk h1
     rw [Nat.zero_add] at h3
     have hji:j≠i:=fun e'=>by subst e';rw [hi] at h2;obtain rfl:=Option.some.inj h2;exact e rfl
     have hlj:ℓ j=true:=by simpa [hji] using h3
     refine ⟨?_,fun x c hx=> ?_⟩
     ·show (match wI ℓ 0 adds B.t with | some av=>some av | none=>(S.clear ds nms).sl B.t)=some B.av
      rw [pV (ℓ:=ℓ) (k:=0) h2 (by rw [Nat.zero_add];exact hlj) ok.t]
     ·cases hh:B.av.has x with
      | false=>rfl
      | true=>exact absurd (List.mem_append_left _ (AV.fc hh)) (hno j B h2 hlj x c hx)
    ·rename_i h0
     refine ⟨?_,fun x c hx=> ?_⟩
     ·show (match wI ℓ 0 adds t with | some av=>some av | none=>(S.clear ds nms).sl t)=some av
      cases h1:wI ℓ 0 adds t with
      | none=>exact h
      | some av'=>
       obtain ⟨j,B,h2,h3,rfl,rfl⟩:=gk h1
       rw [pV (ℓ:=fun j=>Nat.beq j i || ℓ j) (k:=0) h2 (by rw [Nat.zero_add] at h3;simp [h3]) ok.t] at h0
       cases h0
     ·cases hh:av.has x with
      | false=>rfl
      | true=>
       have h5:=sn (oe h).2.1 (AV.fc hh)
       rw [cH.2 (ok.nms A hat x c hx)] at h5;cases h5
   cases hn:A.news with
   | none=>exact h1.1
   | some p=>
    obtain ⟨x,c⟩:=p
    show (((S.clear ds nms).part ℓ adds).new x c).sl t=some av
    unfold St.new
    simp only [h1.1,Option.bind_some,h1.2 x c hn,cond_false]
 ·have h:(match wF (fun j=>Nat.beq j i || ℓ j) 0 adds x with | some c=>some c | none=>(S.clear ds nms).ch x)=some c:=h
  show ((((S.clear ds nms).part ℓ adds).Dc A.news).put A.t A.av).ch x=some c
  show (((S.clear ds nms).part ℓ adds).Dc A.news).ch x=some c
  have old:(∀c',A.news≠some (x,c'))→((S.clear ds nms).part ℓ adds).ch x=some c∧∀y d,A.news=some (y,d)→y ∉ c.names:=fun hx=>by
   split at h
   ·rename_i c' h1
    obtain rfl:=Option.some.inj h
    obtain ⟨j,B,h2,h3,h4⟩:=gq h1
    rw [Nat.zero_add] at h3
    have hji:j≠i:=fun e'=>by subst e';rw [hi] at h2;obtain rfl:=Option.some.inj h2;exact hx _ h4
    have hlj:ℓ j=true:=by simpa [hji] using h3
    refine ⟨?_,fun y d hy hm=>hno j B h2 hlj y d hy (List.mem_append_right _ (by rw [h4];exact hm))⟩
    show (match wF ℓ 0 adds x with | some c=>some c | none=>(S.clear ds nms).ch x)=_
    rw [qa (ℓ:=ℓ) (k:=0) h2 (by rw [Nat.zero_add];exact hlj) h4 ok.n]
   ·rename_i h0
    refine ⟨?_,fun y d hy hm=> ?_⟩
    ·show (match wF ℓ 0 adds x with | some c=>some c | none=>(S.clear ds nms).ch x)=some c
     cases h1:wF ℓ 0 adds x with
     | none=>exact h
     | some c'=>
      obtain ⟨j,B,h2,h3,h4⟩:=gq h1
      rw [qa (ℓ:=fun j=>Nat.beq j i || ℓ j) (k:=0) h2 (by rw [Nat.zero_add] at h3;simp [h3]) h4 ok.n] at h0
      cases h0
    ·obtain ⟨_,c0,_,rfl⟩:=n7 h
     have h5:=yG hm
     rw [cH.2 (ok.nms A hat y d hy)] at h5;cases h5
  cases hn:A.news with
  | none=>exact (old fun c'=>by rw [hn];simp).1
  | some p=>
   obtain ⟨y,d⟩:=p
   show (((S.clear ds nms).part ℓ adds).new y d).ch x=some c
   rw [vy]
   by_cases e:x=y
   ·subst e
    rw [if_pos rfl]
    rw [qa (ℓ:=fun j=>Nat.beq j i || ℓ j) (k:=0) hi (by simp) hn ok.n] at h
    exact h
   ·rw [if_neg e]
    obtain ⟨h1,h2⟩:=old fun c' he=>by rw [hn] at he;simp at he;exact e he.1.symm
    rw [h1,Option.map_some,Ch.pO (h2 y d hn)]
 ·have h:(S.clear ds nms).ph t=some av:=h
  show (((S.clear ds nms).part ℓ adds).Dc A.news).ph t=some av
  cases hn:A.news with
  | none=>exact h
  | some p=>
   obtain ⟨y,d⟩:=p
   show (((S.clear ds nms).part ℓ adds).new y d).ph t=some av
   have h':((S.clear ds nms).part ℓ adds).ph t=some av:=h
   unfold St.new
   obtain ⟨_,h2⟩:=jC (b:=AV.bad (bL nms) rG) h
   have hh:av.has y=false:=by
    cases hh:av.has y with
    | false=>rfl
    | true=>
     have h5:=sn h2 (AV.fc hh)
     rw [cH.2 (ok.nms A hat y d hn)] at h5;cases h5
   simp only [h',Option.bind_some,hh,cond_false]
theorem oy (h:Sat w0 ω0 nt S a w):Sat w0 ω0 nt S a { w with drawn:=w.drawn + 1 } :=by
 obtain ⟨η,ω,h⟩:=h
 exact ⟨η,ω, { dfr:=h.dfr,tsz:=h.tsz,slots:=h.slots,phs:=h.phs,fr:=⟨h.fr.os,h.fr.tape,h.fr.output,h.fr.size,h.fr.block⟩,mem:=⟨fun x c hx=>by
          obtain ⟨hd,h1,h2⟩:=h.mem.1 x c hx
          exact ⟨hd,h1,eA.same (η:=η) (ω:=ω) (w:=w) (w':= { w with drawn:=w.drawn + 1 }) (p:=fun _=>True) ⟨Nat.le_refl _,fun _ _ _=>⟨rfl,rfl⟩⟩ trivial (fun _=>trivial) (fun _=>rfl) (fun l _ a _ z _=> .inr ⟨rfl,fun _=>rfl⟩) h2⟩,h.mem.2⟩ }⟩
structure Rest (P:Program) (w0:World) (ω0:ml) (nt:Nat) (ops:Array Oper) (Q:Exit→Act→World→Prop) (n:Nat) (L:Array Bool) (S:St):Prop where
 go:∀a w,Sat w0 ω0 nt S a w→wpAny P .any ops Q n L a w
def fa (nA:Nat) (sk:List Nat) (n:Nat):Array Bool:=((List.range n).map fun j=>Nat.blt j nA && !bL sk j).toArray
theorem mC {nA n j:Nat} {sk:List Nat} (h:j < n):(fa nA sk n)[j]? =some (Nat.blt j nA && !bL sk j):=by
 unfold fa;simp [h]
theorem BA {l:List Oper} {nA:Nat} {sk:List Nat} {cls:List (List Nat)} {ds nms:List Nat} {adds done:List Add} (hcl:EZ l.toArray nA sk cls) (hdr:ft P nt (S.clear ds nms) cls sk (l.take nA) [] done) (hdn:done.reverse=adds) (ok:mj adds cls ds nms)
  (hk:Rest P w0 ω0 nt l.toArray Q (l.length - missing sk #[] nA) (fa nA sk l.length) ((S.clear ds nms).part (fun j=> !bL sk j) adds)):
  ∀(d:Nat) (L:Array Bool) (a:Act) (w:World),missing sk L nA=d→L.size=l.length→(∀j,L.getD j false=true→j < nA∧bL sk j=false)→(∀i,L.getD i false=true→∀j∈cls.getD i [],L.getD j false=true)→
   Sat w0 ω0 nt ((S.clear ds nms).part (fun j=>L.getD j false) adds) a w→wpAny P .any l.toArray Q (l.length - missing sk #[] nA + d) L a w:=by
 have hsz:nA≤l.length:=by have:=hcl.size;simpa using this
 obtain ⟨⟨r,hr,hrl⟩,hob⟩:=hdr.spec
 rw [hdn] at hr hob
 have hal:adds.length=nA:=by rw [hr];simp [hrl];omega
 have hfull:∀(L:Array Bool) (i:Nat),i∈Region.ready .any l.toArray L→(∀i,L.getD i false=true→∀j∈cls.getD i [],L.getD j false=true)→(∃o,l.toArray[i]? =some o∧L.getD i true=false)∧∀j∈cls.getD i [],L.getD j false=true:=by
  intro L i hi hclosed
  obtain ⟨h0,o,ho,he⟩:=mem_ready.1 hi
  refine ⟨⟨o,ho,h0⟩,fun j hj=> ?_⟩
  obtain ⟨e,hem,hb,hje⟩:=hcl.dep i o ho j hj
  have h1:=he e hem hb
  rcases hje with rfl | hje
  ·exact h1
  ·exact hclosed e.on h1 j hje
 intro d
 induction d with
 | zero=>
  intro L a w hm hs hsub hclosed hsat
  have hall:=ei hm
  have hL:L=fa nA sk l.length:=by
   apply Array.ext
   ·simp [hs,fa]
   ·intro j h1 h2
    have h3:L[j]? =some L[j]:=Array.getElem?_eq_getElem h1
    have h4:=mC (nA:=nA) (sk:=sk) (n:=l.length) (j:=j) ae
    rw [Array.getElem?_eq_getElem h2] at h4
    rw [Option.some.inj h4]
    cases hb:L[j] with
    | true=>
     have:=hsub j (by simp [h1,hb])
     simp [this.1,this.2]
    | false=>
     by_cases hj:j < nA
     ·cases hsk:bL sk j with
      | true=>simp
      | false=>
       have:=hall j hj hsk
       simp [h1,hb] at this
     ·simp [hj]
  refine hk.go a w ((St.le.wk (oA (ℓ1:=fun j=> !bL sk j) (ℓ2:=fun j=>L.getD j false) ok (fun _ _ h=>h) fun j A hj hsk=> ?_) fun _ _ h=>h).go _ _ _ a w hsat) |> fun h=>by rw [←hL] at h;exact h
  have hjl:j < adds.length:=(List.getElem?_eq_some_iff.1 hj).1
  exact hall j ae (by simpa using hsk)
 | succ d ih=>
  intro L a w hm hs hsub hclosed hsat
  refine ⟨fun hnil=> ?_,fun i hi=> ?_⟩
  ·exfalso
   obtain ⟨j,hj,hjs',hjf,hlo⟩:=fY (k:=nA) (by omega:missing sk L nA≠0)
   have hjl:j < l.length:=by omega
   have hjs:j < L.size:=by omega
   have:j∈Region.ready .any l.toArray L:=by
    refine mem_ready.2 ⟨?_,l[j],by simp [hjl],fun e he hb=> ?_⟩
    ·simp [hjs] at hjf ⊢
     exact hjf
    ·have h5:=hcl.less j l[j] (by simp [hjl]) hj hjs' e he hb
     exact hlo e.on h5.1 h5.2
   rw [hnil] at this;cases this
  ·obtain ⟨⟨o,ho,hi0⟩,hdep⟩:=hfull L i hi hclosed
   have hil:i < l.length:=by have:=(Array.getElem?_eq_some_iff.1 ho).1;simpa using this
   have his:i < L.size:=by omega
   have hif:L.getD i false=false:=by simp [his] at hi0 ⊢;exact hi0
   have hnl:¬(nA≤i∨bL sk i=true):=fun h=>by
    have:=eM (sk:=sk) (L:=L) (k:=nA) fun j hj hsk=>hdep j (hcl.late i o ho h j hj hsk)
    omega
   have hiA:i < nA:=by
    rcases Nat.lt_or_ge i nA with h | h
    ·exact h
    ·exact absurd (.inl h) hnl
   have hisk:bL sk i=false:=by
    cases hsk:bL sk i with
    | false=>rfl
    | true=>exact absurd (.inr hsk) hnl
   have hot:(l.take nA)[i]? =some o:=by rw [List.getElem?_take,if_pos hiA];simpa using ho
   obtain ⟨A,hA,hg,hstp⟩:=hob i o hot (by simpa using hisk)
   simp only [List.length_nil,Nat.zero_add] at hA hstp
   have hle:((S.clear ds nms).gG (bL (cls.getD i [])) (adds.take i).reverse).le ((S.clear ds nms).part (fun j=>L.getD j false) adds):=g9 ok (fun j B hj=>by
     rw [List.reverse_reverse] at hj
     rw [List.getElem?_take] at hj;split at hj
     ·exact hj
     ·cases hj) fun j B _ hj=>hdep j (cH.1 hj)
   have hst:=(hstp _ hle).go w0 ω0 a w Q hsat
   unfold wpOp
   simp only [ho]
   rw [if_pos (by simp [Region.wanted,hg])]
   refine .inl (Oper.wp_mono (fun a' w' hsat'=> ?_) hst)
   have hsat2:=(wz ok hA hif fun j hj hm'=>by have:=hclosed j hj i hm';rw [hif] at this;cases this).go _ _ _ a' w' hsat'
   have hnew:∀j,(L.setIfInBounds i true).getD j false=(Nat.beq j i || L.getD j false):=fun j=>by
    by_cases e:j=i
    ·subst e;simp [his]
    ·rw [getD_set_ne false (fun e'=>e e'.symm),dy e,Bool.false_or]
   refine ih (L.setIfInBounds i true) a' w' ?_ (by simp [hs]) (fun j hj=> ?_) (fun j hj k hk'=> ?_) ?_
   ·have:=iJ his hif hisk nA hiA;omega
   ·rw [hnew] at hj
    by_cases e:j=i
    ·rw [e];exact ⟨hiA,hisk⟩
    ·rw [dy e,Bool.false_or] at hj;exact hsub j hj
   ·rw [hnew] at hj ⊢
    by_cases e:j=i
    ·subst e;rw [hdep k hk'];simp
    ·rw [dy e,Bool.false_or] at hj;rw [hclosed j hj k hk'];simp
   ·have:(fun j=>(L.setIfInBounds i true).getD j false)=fun j=>(Nat.beq j i || L.getD j false):=funext hnew
    rw [this];exact hsat2
def nodupB:List Nat→Bool
 | []=>true
 | x :: r=> !bL r x && nodupB r
theorem j9:∀ {l:List Nat},nodupB l=true→l.Nodup
 | [],_=>List.nodup_nil
 | x :: r,h=>by
  simp only [nodupB,Bool.and_eq_true,Bool.not_eq_true'] at h
  exact List.nodup_cons.2 ⟨fun hm=>(by rw [cH.2 hm] at h;cases h.1),j9 h.2⟩
def uZ (adds:List Add) (cls:List (List Nat)) (ds nms:List Nat):Bool:=
 nodupB (adds.map (·.t)) && nodupB (kz adds) && (adds.all fun A=>bL ds A.t) && ((kz adds).all fun x=>bL nms x) && sc cls adds
theorem fk {adds:List Add} {cls:List (List Nat)} {ds nms:List Nat} (h:uZ adds cls ds nms=true):mj adds cls ds nms:=by
 simp only [uZ,Bool.and_eq_true] at h
 obtain ⟨⟨⟨⟨h1,h2⟩,h3⟩,h4⟩,h5⟩:=h
 exact ⟨j9 h1,j9 h2,fun A hA=>cH.1 (List.all_eq_true.1 h3 A hA),fun A hA x c hx=>cH.1 (List.all_eq_true.1 h4 x (List.mem_filterMap.2 ⟨A,hA,by rw [hx];rfl⟩)),h5⟩
theorem eE {id:Nat} {l:List Oper} (nA:Nat) (sk:List Nat) (cls:List (List Nat)) (ds nms:List Nat) {done:List Add} (hm:P.follows .mixedOrders=true) (hcl:Gx l.toArray nA sk cls=true) (hdr:ft P nt (S.clear ds nms) cls sk (l.take nA) [] done) (ok:uZ done.reverse cls ds nms=true)
  (hk:Rest P w0 ω0 nt l.toArray Q (l.length - missing sk #[] nA) (fa nA sk l.length) ((S.clear ds nms).gG (fun j=> !bL sk j) done)):fJ P w0 ω0 nt S (.region id l.toArray true) Q:=by
 have hc:=uv hcl
 have hsz:nA≤l.length:=by have:=hc.size;simpa using this
 have hk':Rest P w0 ω0 nt l.toArray Q (l.length - missing sk #[] nA) (fa nA sk l.length) ((S.clear ds nms).part (fun j=> !bL sk j) done.reverse):=
  ⟨fun a w hs=>hk.go a w ((St.le.wk (g9 (fk ok) (fun _ _ h=>h) fun _ _ _ h=>h) fun _ _ h=>h).go _ _ _ a w hs)⟩
 have hle:∀k,missing sk #[] k≤k:=fun k=>by
  induction k with
  | zero=>exact Nat.le_refl _
  | succ k ih=>simp only [missing];split<;>omega
 refine ⟨fun a w hs=>wp_region_any hm ?_⟩
 have hfin:=BA hc hdr rfl (fk ok) hk' (missing sk #[] nA) (Array.replicate l.length false) a { w with drawn:=w.drawn + 1 } ?_ (by simp) (fun j hj=> ?_) (fun i hi=> ?_) ?_
 ·have:=hle nA
  rw [show l.length - missing sk #[] nA + missing sk #[] nA=l.length by omega] at hfin
  simpa using hfin
 ·have:∀k,k≤l.length→missing sk (Array.replicate l.length false) k=missing sk #[] k:=fun k=>by
   induction k with
   | zero=>intro _;rfl
   | succ k ih=>
    intro hk
    simp only [missing]
    rw [ih ae]
    have:(Array.replicate l.length false).getD k false=false:=by simp [show k < l.length by omega]
    rw [this];rfl
  exact this nA hsz
 ·exfalso
  by_cases h:j < l.length
  ·simp [h] at hj
  ·simp [h] at hj
 ·exfalso
  by_cases h:i < l.length
  ·simp [h] at hi
  ·simp [h] at hi
 ·have h1:=(oI S ds nms).go _ _ _ a _ (oy hs)
  have hf:∀j,(Array.replicate l.length false).getD j false=false:=fun j=>by
   by_cases h:j < l.length<;>simp [h]
  refine (Wk.less (S:=S.clear ds nms) (S':=(S.clear ds nms).part (fun j=>(Array.replicate l.length false).getD j false) done.reverse) (fun t av h=> ?_) (fun x c h=> ?_) fun _ _ h=>h).go _ _ _ a _ h1
  ·have h:(match wI (fun j=>(Array.replicate l.length false).getD j false) 0 done.reverse t with | some av=>some av | none=>(S.clear ds nms).sl t)=some av:=h
   split at h
   ·rename_i av' h2
    obtain ⟨j,A,_,h3,_⟩:=gk h2
    rw [hf] at h3;cases h3
   ·exact h
  ·have h:(match wF (fun j=>(Array.replicate l.length false).getD j false) 0 done.reverse x with | some c=>some c | none=>(S.clear ds nms).ch x)=some c:=h
   split at h
   ·rename_i av' h2
    obtain ⟨j,A,_,h3,_⟩:=gq h2
    rw [hf] at h3;cases h3
   ·exact h
theorem Oper.DD {o:Oper} {K K':Act→World→Prop} {Q':Exit→Act→World→Prop} (h:∀a w,K a w→K' a w) (hq:∀e a w,Q e a w→Q' e a w) (hh:o.wp P a w K Q):o.wp P a w K' Q':=by
 unfold Oper.wp at *
 generalize (execOp a.eval o).run P w=r at *
 cases r with
 | ok n w'=>
  cases n<;>simp only [Oper.upon] at hh ⊢<;>
   first
    | exact h _ _ hh
    | exact Calls.mono hh (fun e w'' he=>by cases e<;>first | exact h _ _ he | exact hq _ _ _ he | (obtain ⟨a,w,hl⟩:=he;exact ⟨a,w,hq _ _ _ hl⟩))
    | exact Rows.mono hh (fun _ _ he=>h _ _ he)
 | halt x w'=>cases x<;>simp only [Oper.upon] at hh ⊢<;>first | exact hh | exact hq _ _ _ hh
theorem k7 {ops:Array Oper} {Q':Exit→Act→World→Prop} (hq:∀e a w,Q e a w→Q' e a w):∀(n:Nat) (L:Array Bool) (a:Act) (w:World),wpAny P .any ops Q n L a w→wpAny P .any ops Q' n L a w
 | 0,_,_,_,h=>⟨h.1,hq _ _ _ h.2⟩
 | n + 1,L,a,w,h=>⟨fun h0=>hq _ _ _ (h.1 h0),fun i hi=>by
  have h1:=h.2 i hi
  unfold wpOp at h1 ⊢
  split
  ·rename_i ho;simp only [ho] at h1;exact k7 hq n _ _ _ h1
  ·rename_i o ho
   simp only [ho] at h1
   split
   ·rename_i hw
    simp only [hw,if_true] at h1
    rcases h1 with h1 | ⟨h1,a',w',h2⟩
    ·exact .inl (Oper.DD (fun a w=>k7 hq n _ a w) hq h1)
    ·exact .inr ⟨h1,a',w',hq _ _ _ h2⟩
   ·rename_i hw;simp only [hw] at h1;exact k7 hq n _ _ _ h1⟩
theorem dI {N:Nat} {ops:Array Oper} {L:Array Bool} (S':St) (h:Rest P w0 ω0 nt ops (fun e a w=>e= .normal∧Sat w0 ω0 nt S' a w) N L S) (k:Fin w0 ω0 nt S' .normal Q):Rest P w0 ω0 nt ops Q N L S:=
 ⟨fun a w hs=>k7 (fun e a w he=>by obtain ⟨rfl,h2⟩:=he;exact k.go a w h2) _ _ _ _ (h.go a w hs)⟩
theorem bh {n:Nat} {ops:Array Oper} {L:Array Bool} (hr:Region.ready .any ops L= []) (h:Fin w0 ω0 nt S .normal Q):Rest P w0 ω0 nt ops Q n L S:=⟨fun a w hs=>wpAny_done hr (h.go a w hs) n⟩
theorem aF {N:Nat} (i:Nat) {ops:Array Oper} {L:Array Bool} {o:Oper} (hN:Nat.blt 0 N=true) (hr:Region.ready .any ops L= [i]) (ho:ops[i]? =some o) (hg:o.guard=none) (h:cu P nt o S S1) (k:Rest P w0 ω0 nt ops Q (N - 1) (L.setIfInBounds i true) S1):Rest P w0 ω0 nt ops Q N L S:=by
 have hN':0 < N:=by simpa using hN
 obtain ⟨n,rfl⟩:∃n,N=n + 1:=⟨N - 1,ae⟩
 exact ⟨fun a w hs=>wpAny_all hr (by simp) fun i' hi'=>by
  simp at hi';subst hi'
  unfold wpOp
  simp only [ho]
  rw [if_pos (by simp [Region.wanted,hg])]
  exact .inl (Oper.wp_mono (fun a' w' h'=>k.go a' w' h') (h.go w0 ω0 a w Q hs))⟩
theorem ct {N:Nat} (i j:Nat) {ops:Array Oper} {L:Array Bool} {o o':Oper} {S2:St} (hN:Nat.blt 0 N=true) (hr:Region.ready .any ops L= [i,j]) (ho:ops[i]? =some o) (ho':ops[j]? =some o') (hg:o.guard=none) (hg':o'.guard=none) (h:cu P nt o S S1) (h':cu P nt o' S S2)
  (k:Rest P w0 ω0 nt ops Q (N - 1) (L.setIfInBounds i true) S1) (k':Rest P w0 ω0 nt ops Q (N - 1) (L.setIfInBounds j true) S2):Rest P w0 ω0 nt ops Q N L S:=by
 have hN':0 < N:=by simpa using hN
 obtain ⟨n,rfl⟩:∃n,N=n + 1:=⟨N - 1,ae⟩
 exact ⟨fun a w hs=>wpAny_all hr (by simp) fun i' hi'=>by
  simp at hi'
  rcases hi' with rfl | rfl
  ·unfold wpOp
   simp only [ho]
   rw [if_pos (by simp [Region.wanted,hg])]
   exact .inl (Oper.wp_mono (fun a' w' h'=>k.go a' w' h') (h.go w0 ω0 a w Q hs))
  ·unfold wpOp
   simp only [ho']
   rw [if_pos (by simp [Region.wanted,hg'])]
   exact .inl (Oper.wp_mono (fun a' w' h'=>k'.go a' w' h') (h'.go w0 ω0 a w Q hs))⟩
end
end Go.Proofs.YtekbhbcgoadciaaGreat
namespace Go.Proofs.YtekbhbcgoadciaaGreat
open Go.RowKit
section
variable {P:Program} {nt:Nat} {w0 w:World} {ω0:ml} {S S1:St} {Q:Exit→Act→World→Prop} {cls:List (List Nat)} {sk:List Nat} {o:Oper} {rest:List Oper} {done all:List Add}
theorem cu.wk {S2 S3:St} (h:cu P nt o S S2) (k:Wk S2 S3):cu P nt o S S3:=
 ⟨fun w0 ω0 a w Q hs=>Oper.wp_mono (fun a' w' h'=>k.go _ _ _ a' w' h') (h.go w0 ω0 a w Q hs)⟩
theorem aK {t:Nat} {av:AV} (hg:o.guard=none) (h:∀S1,(S.gG (bL (cls.getD done.length [])) done).le S1→cu P nt o S1 (S1.put t av)) (k:ft P nt S cls sk rest (⟨t,av,none⟩ :: done) all):ft P nt S cls sk (o :: rest) done all:= .cons ⟨t,av,none⟩ hg h k
theorem gU {t:Nat} {av:AV} {x:Nm} {c:Ch} (hg:o.guard=none) (h:∀S1,(S.gG (bL (cls.getD done.length [])) done).le S1→cu P nt o S1 ((S1.new x c).put t av)) (k:ft P nt S cls sk rest (⟨t,av,some (x,c)⟩ :: done) all):ft P nt S cls sk (o :: rest) done all:= .cons ⟨t,av,some (x,c)⟩ hg h k
theorem mK (hs:bL sk done.length=true) (k:ft P nt S cls sk rest (⟨1000000 + done.length, .tup [],none⟩ :: done) all):ft P nt S cls sk (o :: rest) done all:= .skip _ hs k
theorem vn {k:Nm→Bool} (a:A1):a.bad (jz []) k=false:=by
 cases a<;>first | rfl | skip
 rename_i f xs
 show xs.any (fun p=>jz [] p.1 && !k p.1)=false
 induction xs with
 | nil=>rfl
 | cons p r ih=>simp [jz,lk] at ih ⊢
theorem yb {k:Nm→Bool} (a:AV):a.bad (jz []) k=false:=by
 have h2:∀b:A2,b.bad (jz []) k=false:=fun b=>by
  cases b with
  | one b=>exact vn b
  | agg l=>exact List.any_eq_false.2 fun b _=>by rw [vn b];simp
 cases a with
 | s b=>exact h2 b
 | tup l=>exact List.any_eq_false.2 fun b _=>by rw [h2 b];simp
theorem Ck {k:Nm→Bool} (c:Ch):c.clean (jz []) k=c:=by
 obtain ⟨ow,E,kk,d⟩:=c
 unfold Ch.clean eQ.clean
 cases d with
 | flat l=>
  have:(l.map fun a=>bif a.bad (jz []) k then A1.any else a)=l:=by
   conv=>rhs;rw [←List.map_id l]
   exact List.map_congr_left fun a _=>by rw [vn a];rfl
  simp only [this]
 | bR vs=>rfl
 | rows F vss hs=>rfl
 | mix cs=>rfl
theorem BV {ins:List (Nm×Ch)} {t:Nat} {res:AV} (hro:(ins.all fun p=> !p.2.own)=true):Wk ((S.after ins [] []).IV (some t) res) (S.put t res):=by
 have hc:∀x,gM ins x=false:=fun x=>by
  unfold gM
  cases h:lk x ins with
  | none=>rfl
  | some c=>have:=List.all_eq_true.1 hro _ (lg h);simpa using this
 refine Wk.less (fun t' av h=> ?_) (fun x c h=> ?_) fun t' av h=> ?_
 ·rw [iW] at h
  show ((S.after ins [] []).put t res).sl t'=some av
  rw [iW]
  by_cases e:t'=t
  ·rw [if_pos e] at h ⊢;exact h
  ·rw [if_neg e] at h ⊢
   show ((S.sl t').bind fun av=>bif av.bad (jz []) (jf []) then none else some av)=some av
   rw [h,Option.bind_some,yb];rfl
 ·show (match lk x [] with | some c=>some c | none=>bif gM ins x then none else (S.ch x).map (Ch.clean (jz []) (jf [])))=some c
  have h:S.ch x=some c:=h
  simp only [lk,hc,cond_false,h,Option.map_some,Ck]
 ·have h:S.ph t'=some av:=h
  show ((S.ph t').bind fun av=>bif av.bad (jz []) (jf []) then none else some av)=some av
  rw [h,Option.bind_some,yb];rfl
theorem dq (h:S.le S1):∀ {l:List (Nm×Ch)},rN S l→rN S1 l
 | [],_=>trivial
 | (x,c) :: r,hl=>⟨have ⟨c',h1,h2⟩:=hl.1;⟨c',h.ch _ _ h1,h2⟩,dq h hl.2⟩
theorem eu (h:S.le S1):∀ {l:List Operand} {m:List AV},FY S l=some m→FY S1 l=some m
 | [],_,hl=>hl
 | x :: r,m,hl=>by
  simp only [FY,Option.bind_eq_some_iff,Option.map_eq_some_iff] at hl ⊢
  obtain ⟨av,hx,l,hl,rfl⟩:=hl
  exact ⟨av,h.op hx,l,eu h hl,rfl⟩
theorem au {S2:St} (f:FuncId) {d:Option Nat} {xs:Array Operand} {ts:Array TypeId} {ty:TypeId} {ps:String} {af:Array Edge} {gd:Option (Nat×Bool)} (h:cu P nt ⟨d, .call { callee:= .value (.func f),args:=xs,argTypes:=ts },ty,ps,af,gd⟩ S S2):
  cu P nt ⟨d, .call { callee:= .value (.func f),args:=xs,argTypes:=ts },ty,ps,af,gd⟩ S S2:=h
theorem aw {f:FuncId} {xs:Array Operand} {ts:Array TypeId} {t:Nat} {ty:TypeId} {ps:String} {af:Array Edge} {gd:Option (Nat×Bool)} {ins:List (Nm×Ch)} {args args':List AV} {res:AV} {back:List (Nat×AV)}
  (hfc:FC P f ins args [] res back) (hf:uQ P f=true) (ht:Nat.blt t nt=true) (hx':FY S xs.toList=some args') (hto:wL args' args) (hin:rN S ins) (hro:(ins.all fun p=> !p.2.own)=true) (hnr:(res.names.all (jz []))=true):
  cu P nt ⟨some t, .call { callee:= .value (.func f),args:=xs,argTypes:=ts },ty,ps,af,gd⟩ S (S.put t res):=
 (dc (kp:= []) hfc hf (by simp [ht]) hx' hto hin trivial hnr rfl).wk (BV hro)
end
end Go.Proofs.YtekbhbcgoadciaaGreat
namespace Go.Proofs.YtekbhbcgoadciaaGreat
open Go.RowKit
section
variable {P:Program} {nt:Nat} {S S':St} {w0 w:World} {ω0:ml} {ω:bY} {η:Env} {a:Act}
variable {t:Nat} {ty:TypeId} {ps:String} {af:Array Edge} {gd:Option (Nat×Bool)} {x y:Operand} {av:AV}
theorem cL {T:TypeId} (zs:List Value) (ht:Nat.blt t nt=true) (hz:((P.info? T).bind (·.zero)).map (fun v=>v.cells.toList)=some zs):
  cu P nt ⟨some t, .alloc T,ty,ps,af,gd⟩ S ((S.new t ⟨true,T,zs.length, .flat (zs.map .val)⟩).put t (o1 (.ptr t 0))):=by
 simp only [Option.map_eq_some_iff,Option.bind_eq_some_iff] at hz
 obtain ⟨z,⟨i,hi,hz⟩,rfl⟩:=hz
 have:=BX (P:=P) (nt:=nt) (S:=S) (t:=t) (ty:=ty) (ps:=ps) (af:=af) (gd:=gd) ht hi hz
 simpa using this
theorem vc {T E F:Nat} (ht:Nat.blt t nt=true) (hT:pN P T E 1=true):
  cu P nt ⟨some t, .buildSlice T 0 #[],ty,ps,af,gd⟩ S ((S.new t ⟨true,E,1, .rows F (bV []) []⟩).put t (o1 (.sl t 0 0))):=
 cu.of _ fun w0 ω0 η ω a w hs=>by
  obtain ⟨i,z,h1,h2,h3,h4,h5,h6⟩:=ep hT
  refine ⟨.slice (some ⟨w.heap.size,0,none⟩) 0 0,w.alloc (.cells #[] E),by simp [execOp,Instr.buildSlice,run_underlying h1,sizeOf,typeInfo,h2,Instr.fill,newRow,E3], ?_⟩
  have hal:=hs.alloc (x:=t) (c:=⟨true,E,1, .rows F (bV []) []⟩) (cs:= #[]) (r:=fun _=>⟨none,0,1⟩) (n:=0) rfl (by simp) (by simp [eQ.len,bV]) (by simp [maxLen]) fun j hj=>absurd hj (by simp [eQ.len,bV])
  exact ⟨_,_,hal.fU (by simpa using ht) eF⟩
theorem bW {T E:Nat} {x0:Operand} {z0:Int} (ht:Nat.blt t nt=true) (hT:pN P T E 1=true) (hx:S.op x0=some (vv (I6 z0))):
  cu P nt ⟨some t, .buildSlice T 1 #[(0,x0)],ty,ps,af,gd⟩ S ((S.new t ⟨true,E,1, .bR (aL [z0])⟩).put t (o1 (.sl t 0 1))):=
 cu.of _ fun w0 ω0 η ω a w hs=>by
  obtain ⟨i,z,k1,k2,k3,k4,k5,k6⟩:=ep hT
  have h0:=hs.gQ hx
  refine ⟨.slice (some ⟨w.heap.size,0,none⟩) 1 1,w.alloc (.cells #[I6 z0] E), ?_, ?_⟩
  ·simp [execOp,Instr.buildSlice,run_underlying k1,sizeOf,typeInfo,k2,k3,zeroValue,k5,Instr.fill,newRow,h0,Value.cells,Au]
  ·have hal:=hs.alloc (x:=t) (c:=⟨true,E,1, .bR (aL [z0])⟩) (cs:= #[I6 z0]) (r:=fun _=>⟨none,0,1⟩) (n:=1) rfl (by simp) (by simp [eQ.len,aL]) (by simp [maxLen]) fun j hj=>by
    have hj0:j=0:=by simp [eQ.len,aL] at hj;omega
    subst hj0
    exact ⟨I6 z0,by simp,rfl⟩
   exact ⟨_,_,hal.fU (by simpa using ht) eF⟩
theorem cN {T E:Nat} {x0 x1:Operand} {z0 z1:Int} (ht:Nat.blt t nt=true) (hT:pN P T E 1=true) (hx0:S.op x0=some (vv (I6 z0))) (hx1:S.op x1=some (vv (I6 z1))):
  cu P nt ⟨some t, .buildSlice T 2 #[(0,x0),(1,x1)],ty,ps,af,gd⟩ S ((S.new t ⟨true,E,1, .bR (aL [z0,z1])⟩).put t (o1 (.sl t 0 2))):=
 cu.of _ fun w0 ω0 η ω a w hs=>by
  obtain ⟨i,z,k1,k2,k3,k4,k5,k6⟩:=ep hT
  have h0:=hs.gQ hx0
  have h1:=hs.gQ hx1
  refine ⟨.slice (some ⟨w.heap.size,0,none⟩) 2 2,w.alloc (.cells #[I6 z0,I6 z1] E), ?_, ?_⟩
  ·simp [execOp,Instr.buildSlice,run_underlying k1,sizeOf,typeInfo,k2,k3,zeroValue,k5,Instr.fill,newRow,h0,h1,Value.cells,y8]
  ·have hal:=hs.alloc (x:=t) (c:=⟨true,E,1, .bR (aL [z0,z1])⟩) (cs:= #[I6 z0,I6 z1]) (r:=fun _=>⟨none,0,1⟩) (n:=2) rfl (by simp) (by simp [eQ.len,aL]) (by simp [maxLen]) fun j hj=>by
    match j,hj with
    | 0,_=>exact ⟨I6 z0,by simp,rfl⟩
    | 1,_=>exact ⟨I6 z1,by simp,rfl⟩
    | j + 2,hj=>exact absurd hj (by simp [eQ.len,aL])
   exact ⟨_,_,hal.fU (by simpa using ht) eF⟩
theorem bE {T E n q len:Nat} {c:Ch} {zs:List Int} {z:Int} (ht:Nat.blt t nt=true) (hT:pN P T E 1=true) (hx:S.op x=some (o1 (.sl n 0 len))) (hc:S.ch n=some c) (hce:c=⟨true,E,1, .bR (aL zs)⟩) (hl:zs.length=len)
  (hy:S.op y=some (o1 (.sl q 0 1))) (hq:S.ch q=some ⟨true,E,1, .bR (aL [z])⟩) (hb:len + 1≤2199023255552):
  cu P nt ⟨some t, .call { callee:= .builtin .append,args:= #[x,y],argTypes:= #[T,T] },ty,ps,af,gd⟩ S ((S.new n ⟨true,E,1, .bR (aL (zs ++ [z]))⟩).put t (o1 (.sl n 0 (len + 1)))):=by
 have:=sw (P:=P) (nt:=nt) (ty:=ty) (ps:=ps) (af:=af) (gd:=gd) (vs:=aL zs) (news:=aL [z]) (m:=1) (k:=1) ht hT rfl hx hc hce rfl (by rw [bc];omega) hy (c5 hq rfl rfl rfl) ae (by intro v hv;simp [aL] at hv;subst hv;rfl) hb
 rw [Nat.zero_mul,List.drop_zero,show aL zs ++ aL [z]=aL (zs ++ [z]) from BG zs z] at this
 exact this
theorem kE {T E F n z q len m:Nat} {zss:List (List Int)} {zs:List Int} (ht:Nat.blt t nt=true) (hT:pN P T E 1=true) (hx:S.op x=some (o1 (.sl n 0 len))) (hc:S.ch n=some ⟨true,E,1, .rows F (bV zss) []⟩) (hl:zss.length=len)
  (hy:S.op y=some (o1 (.sl q 0 1))) (hq:S.ch q=some ⟨true,E,1, .flat [.sl z 0 m]⟩) (hz:S.ch z=some ⟨true,F,1, .bR (aL zs)⟩) (hm:zs.length=m) (hzn:Nat.beq z n=false) (hb:len + 1≤2199023255552):
  cu P nt ⟨some t, .call { callee:= .builtin .append,args:= #[x,y],argTypes:= #[T,T] },ty,ps,af,gd⟩ S (((S.rm z).new n ⟨true,E,1, .rows F (bV (zss ++ [zs])) []⟩).put t (o1 (.sl n 0 (len + 1)))):=by
 have:=kt (P:=P) (nt:=nt) (ty:=ty) (ps:=ps) (af:=af) (gd:=gd) ht hT hx hc (by rw [cZ];exact hl) hy hq hz (by rw [bc];exact hm) hzn hb
 rwa [C6] at this
theorem dW {T:TypeId} {n:Nm} {i:Nat} {c:Ch} {zs:List Int} {z:Int} (hx:S.op x=some (o1 (.ptr n i))) (hy:S.op y=some (vv (I6 z))) (hc:S.ch n=some c) (hown:c.own=true) (hd:c.d= .bR (aL zs)) (hi:i < zs.length) (hT:jd P T 1=true):
  cu P nt ⟨none, .store T x y,ty,ps,af,gd⟩ S (S.set n { c with d:= .bR (aL (zs.set i z)) }):=by
 have:=sQ (P:=P) (nt:=nt) (ty:=ty) (ps:=ps) (af:=af) (gd:=gd) hx hy hc hown hd (by rw [bc];exact hi) hT rfl
 rwa [uE] at this
def eh (zss:List (List Int)) (i j:Nat) (z:Int):List (List Int):=zss.set i ((bn zss i).set j z)
theorem cz {T:TypeId} {n:Nm} {i j:Nat} {c:Ch} {E:TypeId} {zss:List (List Int)} {z:Int} (hx:S.op x=some (o1 (.eptr n i j))) (hy:S.op y=some (vv (I6 z))) (hc:S.ch n=some c) (hown:c.own=true)
  (hd:c.d= .rows E (bV zss) []) (hi:i < zss.length) (hj:j < (bn zss i).length) (hT:jd P T 1=true):cu P nt ⟨none, .store T x y,ty,ps,af,gd⟩ S (S.set n { c with d:= .rows E (bV (eh zss i j z)) [] }):=by
 have:=At (P:=P) (nt:=nt) (ty:=ty) (ps:=ps) (af:=af) (gd:=gd) hx hy hc hown hd (by simp) (cf hi) (by rw [bc];exact hj) hT rfl
 rwa [uE,pz] at this
end
section
variable {P:Program} {nt:Nat} {w0:World} {ω0:ml} {S S1 S':St} {Q:Exit→Act→World→Prop}
theorem Cu (S':St) {c:Operand} {x y:Code} {b:Bool} (hc:S.op c=some (vv (.bool b))) (ht:b=true→fJ P w0 ω0 nt S x (fun e a w=>e= .normal∧Sat w0 ω0 nt S' a w)) (hf:b=false→fJ P w0 ω0 nt S y (fun e a w=>e= .normal∧Sat w0 ω0 nt S' a w)) (k:Fin w0 ω0 nt S' .normal Q):
  fJ P w0 ω0 nt S (.cond c x y) Q:=ax hc (fun h=>⟨fun a w hs=>Code.wp_mono (fun e a w he=>by obtain ⟨rfl,h2⟩:=he;exact k.go a w h2) ((ht h).go a w hs)⟩) (fun h=>⟨fun a w hs=>Code.wp_mono (fun e a w he=>by obtain ⟨rfl,h2⟩:=he;exact k.go a w h2) ((hf h).go a w hs)⟩)
end
end Go.Proofs.YtekbhbcgoadciaaGreat
namespace Go.Proofs.YtekbhbcgoadciaaGreat
def lv (less:List Int):Nat→Nat→Nat
 | 0,c=>c
 | f + 1,c=>if aC less c=c then c else lv less f (aC less c).toNat
def Down (less:List Int):Prop:=∀c,c < less.length→0≤aC less c∧aC less c≤c
def root (less:List Int) (c:Nat):Nat:=lv less (c + 1) c
theorem yw {less:List Int} (hd:Down less):∀(f f' c:Nat),c < less.length→c < f→c < f'→lv less f c=lv less f' c:=by
 intro f
 induction f with
 | zero=>intro f' c _ h;omega
 | succ f ih=>
  intro f' c hc h h'
  cases f' with
  | zero=>omega
  | succ f'=>
   unfold lv
   by_cases e:aC less c=c
   ·rw [if_pos e,if_pos e]
   ·rw [if_neg e,if_neg e]
    have h1:=hd c hc
    exact ih f' _ ae ae ae
theorem dj {less:List Int} {c:Nat} (h:aC less c=c):root less c=c:=by unfold root lv;rw [if_pos h]
theorem fK {less:List Int} (hd:Down less) {c:Nat} (hc:c < less.length) (h:aC less c≠c):root less c=root less (aC less c).toNat:=by
 have h1:=hd c hc
 unfold root
 rw [show lv less (c + 1) c=lv less c (aC less c).toNat by rw [lv,if_neg h]]
 exact yw hd _ _ _ ae ae ae
theorem eI {less:List Int} (hd:Down less):∀c,c < less.length→aC less (root less c)=root less c∧root less c≤c:=by
 intro c
 induction c using Nat.strongRecOn with
 | _ c ih=>
  intro hc
  by_cases e:aC less c=c
  ·rw [dj e];exact ⟨e,Nat.le_refl _⟩
  ·have h1:=hd c hc
   rw [fK hd hc e]
   have:=ih (aC less c).toNat ae ae
   exact ⟨this.1,ae⟩
theorem de {less:List Int} (hd:Down less) {c:Nat} (hc:c < less.length):root less c < less.length:=Nat.lt_of_le_of_lt (eI hd c hc).2 hc
def bZ (im:List (List Int)) (c g:Nat):Int:=aC (bn im c) g
def image (im:List (List Int)) (less:List Int) (c g:Nat):Int:=if bZ im c g < 0 then -1 else root less (bZ im c g).toNat
theorem cK {zs:List Int} {i j:Nat} {z:Int} :aC (zs.set i z) j=if i=j∧i < zs.length then z else aC zs j:=by
 simp only [aC,List.getD_eq_getElem?_getD,List.getElem?_set]
 by_cases h:i=j
 ·subst h
  by_cases h2:i < zs.length
  ·simp [h2]
  ·simp [h2]
 ·simp [h]
theorem fA {zss:List (List Int)} {i j:Nat} {z:List Int} :bn (zss.set i z) j=if i=j∧i < zss.length then z else bn zss j:=by
 simp only [bn,List.getD_eq_getElem?_getD,List.getElem?_set]
 by_cases h:i=j
 ·subst h
  by_cases h2:i < zss.length
  ·simp [h2]
  ·simp [h2]
 ·simp [h]
theorem dB (im:List (List Int)) (c g:Nat) (z:Int):(eh im c g z).length=im.length:=by simp [eh]
theorem iG (im:List (List Int)) (c g:Nat) (z:Int) (k:Nat):(bn (eh im c g z) k).length=(bn im k).length:=by
 unfold eh
 rw [fA]
 split
 ·rename_i h;rw [←h.1];simp
 ·rfl
theorem eK {im:List (List Int)} {c g k j:Nat} {z:Int} (hc:c < im.length) (hg:g < (bn im c).length):bZ (eh im c g z) k j=if c=k∧g=j then z else bZ im k j:=by
 unfold bZ eh
 rw [fA]
 by_cases h:c=k
 ·subst h
  rw [if_pos ⟨rfl,hc⟩,cK]
  by_cases h2:g=j
  ·subst h2;rw [if_pos ⟨rfl,hg⟩,if_pos ⟨rfl,rfl⟩]
  ·rw [if_neg (fun e=>h2 e.1),if_neg (fun e=>h2 e.2)]
 ·rw [if_neg (fun e=>h e.1),if_neg (fun e=>h e.1)]
def stepG (lo hi g:Nat) (s:List (List Int)×List (Int×Int)):List (List Int)×List (Int×Int):=
 if bZ s.1 hi g < 0 then s else if 0≤bZ s.1 lo g then (s.1,s.2 ++ [(bZ s.1 hi g,bZ s.1 lo g)]) else (eh s.1 lo g (bZ s.1 hi g),s.2)
def bH (lo hi:Nat) (s:List (List Int)×List (Int×Int)):Nat→List (List Int)×List (Int×Int)
 | 0=>s
 | g + 1=>stepG lo hi g (bH lo hi s g)
structure WF (ng:Nat) (im:List (List Int)) (less:List Int):Prop where
 len:im.length=less.length
 row:∀c,c < im.length→(bn im c).length=ng
 down:Down less
 bZ:∀c g,c < im.length→g < ng→bZ im c g < less.length
def nj (n:Nat) (q:List (Int×Int)):Prop:=∀p∈q,(0≤p.1∧p.1 < n)∧0≤p.2∧p.2 < n
theorem WF.gD {ng:Nat} {im:List (List Int)} {less:List Int} (h:WF ng im less) {c g:Nat} {z:Int} (hc:c < im.length) (hg:g < ng) (hz:z < less.length):WF ng (eh im c g z) less:=
 {len:=by rw [dB];exact h.len,row:=fun k hk=>by rw [iG];exact h.row k (by rwa [dB] at hk),down:=h.down,bZ:=fun k j hk hj=>by
   rw [eK hc (by rw [h.row c hc];exact hg)]
   split
   ·exact hz
   ·exact h.bZ k j (by rwa [dB] at hk) hj }
theorem tm {less:List Int} (h:Down less) {lo hi:Nat} (hlt:lo≤hi):Down (less.set hi (lo:Int)):=fun c hc=>by
 rw [List.length_set] at hc
 rw [cK]
 split
 ·rename_i e;rw [←e.1];omega
 ·exact h c hc
theorem WF.kJ {ng:Nat} {im:List (List Int)} {less:List Int} (h:WF ng im less) {lo hi:Nat} (hlt:lo≤hi):WF ng im (less.set hi (lo:Int)):=
 {len:=by rw [List.length_set];exact h.len,row:=h.row,down:=tm h.down hlt,bZ:=fun c g hc hg=>by rw [List.length_set];exact h.bZ c g hc hg }
theorem eP {ng lo hi:Nat} {im:List (List Int)} {less:List Int} {q:List (Int×Int)} (h:WF ng im less) (hlo:lo < im.length) (hhi:hi < im.length) (hq:nj less.length q):
  ∀g,g≤ng→WF ng (bH lo hi (im,q) g).1 less∧nj less.length (bH lo hi (im,q) g).2∧(bH lo hi (im,q) g).2.length≤q.length + g∧(bH lo hi (im,q) g).1.length=im.length
 | 0,_=>⟨h,hq,by simp [bH],rfl⟩
 | g + 1,hg=>by
  obtain ⟨h1,h2,h3,h4⟩:=eP h hlo hhi hq g ae
  simp only [bH,stepG]
  split
  ·exact ⟨h1,h2,ae,h4⟩
  ·rename_i hn
   have e1:=h1.bZ hi g ae ae
   split
   ·rename_i hp
    have e2:=h1.bZ lo g ae ae
    refine ⟨h1,fun p hp'=> ?_,by simp;omega,h4⟩
    rcases List.mem_append.1 hp' with h5 | h5
    ·exact h2 p h5
    ·simp at h5;subst h5;exact ⟨⟨ae,e1⟩,hp,e2⟩
   ·exact ⟨h1.gD ae ae e1,h2,by dsimp only;omega,by rw [dB];exact h4⟩
def cP (ng:Nat):Nat→List (List Int)→List Int→List (Int×Int)→List (List Int)×List Int
 | 0,im,less,_=>(im,less)
 | _ + 1,im,less, []=>(im,less)
 | f + 1,im,less,p :: q=>
  let c:=root less p.1.toNat
  let d:=root less p.2.toNat
  if c=d then cP ng f im less q
  else cP ng f (bH (min c d) (max c d) (im,q) ng).1 (less.set (max c d) (min c d:Nat)) (bH (min c d) (max c d) (im,q) ng).2
def alive (less:List Int):Nat:=((List.range less.length).filter fun c=>aC less c == (c:Int)).length
def fuel (ng:Nat) (less:List Int) (q:List (Int×Int)):Nat:=alive less * (ng + 1) + q.length
theorem uh {less:List Int} {lo hi:Nat} (h:hi < less.length) (hlt:lo < hi) (hfix:aC less hi=hi):alive (less.set hi (lo:Int)) + 1=alive less:=by
 unfold alive
 rw [List.length_set]
 have key:∀n,hi < n→((List.range n).filter fun c=>aC (less.set hi (lo:Int)) c == (c:Int)).length + 1=((List.range n).filter fun c=>aC less c == (c:Int)).length:=by
  intro n
  induction n with
  | zero=>intro h;omega
  | succ n ih=>
   intro hn
   rw [List.range_succ,List.filter_append,List.filter_append,List.length_append,List.length_append]
   by_cases e:hi=n
   ·subst e
    have h0:∀k,k≤hi→((List.range k).filter fun c=>aC (less.set hi (lo:Int)) c == (c:Int))=(List.range k).filter fun c=>aC less c == (c:Int):=fun k hk=>by
     apply List.filter_congr
     intro c hc
     rw [cK,if_neg (by have:=List.mem_range.1 hc;omega)]
    rw [h0 hi (Nat.le_refl _)]
    have h1:(aC (less.set hi (lo:Int)) hi == (hi:Int))=false:=by
     rw [cK,if_pos ⟨rfl,h⟩];simp;omega
    have h2:(aC less hi == (hi:Int))=true:=by simp [hfix]
    simp [h1,h2]
   ·have:=ih ae
    have h1:aC (less.set hi (lo:Int)) n=aC less n:=by rw [cK,if_neg (fun e'=>e e'.1)]
    simp only [List.filter_cons,List.filter_nil,h1]
    omega
 exact key less.length h
theorem jX {ng:Nat} :∀(f f':Nat) (im:List (List Int)) (less:List Int) (q:List (Int×Int)),WF ng im less→nj less.length q→fuel ng less q≤f→fuel ng less q≤f'→cP ng f im less q=cP ng f' im less q
 | 0,f',im,less,q,_,_,h,h'=>by
  have hq:q= []:=List.eq_nil_of_length_eq_zero (by unfold fuel at h;omega)
  subst hq
  cases f'<;>rfl
 | f + 1,0,im,less,q,_,_,h,h'=>by
  have hq:q= []:=List.eq_nil_of_length_eq_zero (by unfold fuel at h';omega)
  subst hq
  rfl
 | f + 1,f' + 1,im,less, [],_,_,_,_=>rfl
 | f + 1,f' + 1,im,less,p :: q,hw,hq,h,h'=>by
  have hp:=hq p (by simp)
  have hq':nj less.length q:=fun x hx=>hq x (by simp [hx])
  have hr1:=de hw.down (c:=p.1.toNat) ae
  have hr2:=de hw.down (c:=p.2.toNat) ae
  have hf:fuel ng less (p :: q)=fuel ng less q + 1:=by unfold fuel;simp;omega
  simp only [cP]
  split
  ·exact jX f f' im less q hw hq' ae ae
  ·rename_i hne
   have hlt:min (root less p.1.toNat) (root less p.2.toNat) < max (root less p.1.toNat) (root less p.2.toNat):=by omega
   have hhi:max (root less p.1.toNat) (root less p.2.toNat) < less.length:=by omega
   obtain ⟨h1,h2,h3,h4⟩:=eP hw (lo:=min (root less p.1.toNat) (root less p.2.toNat)) (hi:=max (root less p.1.toNat) (root less p.2.toNat)) (by rw [hw.len];omega) (by rw [hw.len];omega) hq' ng (Nat.le_refl _)
   have hfix:aC less (max (root less p.1.toNat) (root less p.2.toNat))=(max (root less p.1.toNat) (root less p.2.toNat):Nat):=by
    rcases Nat.le_total (root less p.1.toNat) (root less p.2.toNat) with h5 | h5
    ·rw [Nat.max_eq_right h5];exact (eI hw.down _ ae).1
    ·rw [Nat.max_eq_left h5];exact (eI hw.down _ ae).1
   have ha:=uh hhi hlt hfix
   have hfu:fuel ng (less.set (max (root less p.1.toNat) (root less p.2.toNat)) ((min (root less p.1.toNat) (root less p.2.toNat):Nat):Int)) (bH (min (root less p.1.toNat) (root less p.2.toNat)) (max (root less p.1.toNat) (root less p.2.toNat)) (im,q) ng).2 + 1≤fuel ng less (p :: q):=by
    unfold fuel
    rw [←ha,Nat.add_mul,List.length_cons]
    omega
   exact jX f f' _ _ _ (h1.kJ ae) (by rw [List.length_set];exact h2) ae ae
def ident (ng:Nat) (im:List (List Int)) (less:List Int) (q:List (Int×Int)):List (List Int)×List Int:=cP ng (fuel ng less q) im less q
theorem u6 (ng:Nat) (im:List (List Int)) (less:List Int):ident ng im less []=(im,less):=by unfold ident;cases fuel ng less []<;>rfl
theorem tn {ng:Nat} {im:List (List Int)} {less:List Int} {p:Int×Int} {q:List (Int×Int)} (hw:WF ng im less) (hq:nj less.length (p :: q)) (h:root less p.1.toNat=root less p.2.toNat):ident ng im less (p :: q)=ident ng im less q:=by
 unfold ident
 have hf:fuel ng less (p :: q)=fuel ng less q + 1:=by unfold fuel;simp;omega
 rw [hf]
 simp only [cP,if_pos h]
def gv (ng:Nat) (im:List (List Int)) (q:List (Int×Int)) (c d:Nat):List (List Int)×List (Int×Int):=bH (min c d) (max c d) (im,q) ng
theorem ke {ng:Nat} {im:List (List Int)} {less:List Int} {p:Int×Int} {q:List (Int×Int)} (hw:WF ng im less) (hq:nj less.length (p :: q)) (h:root less p.1.toNat≠root less p.2.toNat):
  ident ng im less (p :: q)=ident ng (gv ng im q (root less p.1.toNat) (root less p.2.toNat)).1 (less.set (max (root less p.1.toNat) (root less p.2.toNat)) ((min (root less p.1.toNat) (root less p.2.toNat):Nat):Int)) (gv ng im q (root less p.1.toNat) (root less p.2.toNat)).2∧
  WF ng (gv ng im q (root less p.1.toNat) (root less p.2.toNat)).1 (less.set (max (root less p.1.toNat) (root less p.2.toNat)) ((min (root less p.1.toNat) (root less p.2.toNat):Nat):Int))∧
  nj less.length (gv ng im q (root less p.1.toNat) (root less p.2.toNat)).2∧
  fuel ng (less.set (max (root less p.1.toNat) (root less p.2.toNat)) ((min (root less p.1.toNat) (root less p.2.toNat):Nat):Int)) (gv ng im q (root less p.1.toNat) (root less p.2.toNat)).2 < fuel ng less (p :: q):=by
 have hp:=hq p (by simp)
 have hq':nj less.length q:=fun x hx=>hq x (by simp [hx])
 have hr1:=de hw.down (c:=p.1.toNat) ae
 have hr2:=de hw.down (c:=p.2.toNat) ae
 have hlt:min (root less p.1.toNat) (root less p.2.toNat) < max (root less p.1.toNat) (root less p.2.toNat):=by omega
 have hhi:max (root less p.1.toNat) (root less p.2.toNat) < less.length:=by omega
 obtain ⟨h1,h2,h3,h4⟩:=eP hw (lo:=min (root less p.1.toNat) (root less p.2.toNat)) (hi:=max (root less p.1.toNat) (root less p.2.toNat)) (by rw [hw.len];omega) (by rw [hw.len];omega) hq' ng (Nat.le_refl _)
 have hfix:aC less (max (root less p.1.toNat) (root less p.2.toNat))=(max (root less p.1.toNat) (root less p.2.toNat):Nat):=by
  rcases Nat.le_total (root less p.1.toNat) (root less p.2.toNat) with h5 | h5
  ·rw [Nat.max_eq_right h5];exact (eI hw.down _ ae).1
  ·rw [Nat.max_eq_left h5];exact (eI hw.down _ ae).1
 have ha:=uh hhi hlt hfix
 have hfu:fuel ng (less.set (max (root less p.1.toNat) (root less p.2.toNat)) ((min (root less p.1.toNat) (root less p.2.toNat):Nat):Int)) (gv ng im q (root less p.1.toNat) (root less p.2.toNat)).2 + 1≤fuel ng less (p :: q):=by
  unfold fuel gv
  rw [←ha,Nat.add_mul,List.length_cons]
  omega
 refine ⟨?_,h1.kJ ae,h2,ae⟩
 obtain ⟨f,hf⟩:∃f,fuel ng less (p :: q)=f + 1:=⟨fuel ng less (p :: q) - 1,ae⟩
 unfold ident
 rw [hf]
 simp only [cP,if_neg h]
 exact jX f _ _ _ _ (h1.kJ ae) (by rw [List.length_set];exact h2) (by unfold gv at hfu;omega) (Nat.le_refl _)
end Go.Proofs.YtekbhbcgoadciaaGreat
namespace Go.Proofs.YtekbhbcgoadciaaGreat
theorem cC {zs:List Int} {z:Int} {j:Nat} (h:j < zs.length):aC (zs ++ [z]) j=aC zs j:=by
 simp [aC,List.getElem?_append_left h]
theorem dv {zs:List Int} {z:Int} :aC (zs ++ [z]) zs.length=z:=by simp [aC]
theorem fh {zss:List (List Int)} {z:List Int} {j:Nat} (h:j < zss.length):bn (zss ++ [z]) j=bn zss j:=by
 simp [bn,List.getElem?_append_left h]
theorem fH {zss:List (List Int)} {z:List Int} :bn (zss ++ [z]) zss.length=z:=by simp [bn]
theorem fp {n j:Nat} {z:Int} (h:j < n):aC (List.replicate n z) j=z:=by simp [aC,h]
def dr (qs:List (List Int)) (c:Int) (w:List Int):Int:=w.foldl (fun c g=>aC (bn qs g.toNat) c.toNat) c
theorem jI (qs:List (List Int)) (c:Int) (w:List Int) (g:Int):dr qs c (w ++ [g])=aC (bn qs g.toNat) (dr qs c w).toNat:=by simp [dr,List.foldl_append]
structure dP (qs:List (List Int)) (m:Nat):Prop where
 len:∀k,k < qs.length→(bn qs k).length=m
 within:∀k,k < qs.length→∀x,x < m→0≤aC (bn qs k) x∧aC (bn qs k) x < m
theorem dP.lead {qs:List (List Int)} {m:Nat} (h:dP qs m) {c:Int} (hc:0≤c∧c < m) {w:List Int} (hw:∀z∈w,0≤z∧z < qs.length):0≤dr qs c w∧dr qs c w < m:=by
 induction w generalizing c with
 | nil=>exact hc
 | cons g r ih=>
  have h1:=hw g (List.mem_cons_self ..)
  have h2:=h.within g.toNat ae c.toNat ae
  exact ih h2 fun z hz=>hw z (List.mem_cons_of_mem _ hz)
def dU (bs:List Bool) (k:Nat):Bool:=bs.getD k false
theorem dw {bs:List Bool} {i j:Nat} {b:Bool} :dU (bs.set i b) j=if i=j∧i < bs.length then b else dU bs j:=by
 simp only [dU,List.getD_eq_getElem?_getD,List.getElem?_set]
 by_cases h:i=j
 ·subst h
  by_cases h2:i < bs.length
  ·simp [h2]
  ·simp [h2]
 ·simp [h]
def rv (bs:List Bool):Nat:=(bs.filter fun b=>b).length
theorem AS (bs:List Bool):rv bs≤bs.length:=List.length_filter_le _ _
theorem lQ:∀(l:List Bool) (d:Nat),d < l.length→dU l d=false→rv (l.set d true)=rv l + 1
 | [],d,h,_=>by simp at h
 | x :: r,0,_,h=>by
  have h:x=false:=by simpa [dU] using h
  simp [rv,h]
 | x :: r,d + 1,hd,h=>by
  have ih:=lQ r d (by simpa using hd) (by simpa [dU] using h)
  unfold rv at ih ⊢
  simp only [List.set_cons_succ,List.filter_cons]
  split
  ·simp only [List.length_cons];omega
  ·exact ih
def kC (T:List (List Int)) (c g:Nat):Nat:=(aC (bn T g) c).toNat
theorem nO {T:List (List Int)} {n:Nat} (hT:dP T n) {c g:Nat} (hc:c < n) (hg:g < T.length):kC T c g < n∧aC (bn T g) c=(kC T c g:Int):=by
 have:=hT.within g hg c hc
 unfold kC;omega
def fT (bs:List Bool):List Value:=bs.map Value.bool
theorem jw (bs:List Bool):(fT bs).length=bs.length:=by simp [fT]
theorem mT {bs:List Bool} {k:Nat} (h:k < bs.length):(fT bs)[k]? =some (.bool (dU bs k)):=by simp [fT,dU,h]
theorem Cb (bs:List Bool) (k:Nat) (b:Bool):(fT bs).set k (.bool b)=fT (bs.set k b):=by simp [fT,List.map_set]
theorem BQ (n:Nat):fT (List.replicate n false)=List.replicate n (.bool false):=by simp [fT]
end Go.Proofs.YtekbhbcgoadciaaGreat
namespace Go.Proofs.YtekbhbcgoadciaaGreat
def nD (ng:Nat) (im:List (List Int)) (n c g:Nat):List (List Int):=eh (eh (im ++ [List.replicate ng (-1)]) c g n) n g c
def ck (ng:Nat) (im:List (List Int)) (less:List Int) (c g:Nat):List (List Int)×List Int×Bool×Nat:=
 if 0≤bZ im c g then (im,less,false,root less (bZ im c g).toNat)
 else if less.length=2000 then (im,less,true,0)
 else (nD ng im less.length c g,less ++ [(less.length:Int)],false,less.length)
theorem WF.app {ng:Nat} {im:List (List Int)} {less:List Int} (h:WF ng im less):WF ng (im ++ [List.replicate ng (-1)]) (less ++ [(less.length:Int)]):=
 {len:=by simp [h.len],row:=fun c hc=>by
   by_cases e:c < im.length
   ·rw [fh e];exact h.row c e
   ·obtain rfl:c=im.length:=by simp at hc;omega
    rw [fH];simp,down:=fun c hc=>by
   by_cases e:c < less.length
   ·rw [cC e];exact h.down c e
   ·obtain rfl:c=less.length:=by simp at hc;omega
    rw [dv];omega,bZ:=fun c g hc hg=>by
   unfold Proofs.YtekbhbcgoadciaaGreat.bZ
   by_cases e:c < im.length
   ·rw [fh e]
    have:=h.bZ c g e hg
    unfold Proofs.YtekbhbcgoadciaaGreat.bZ at this
    simp;omega
   ·obtain rfl:c=im.length:=by simp at hc;omega
    rw [fH,fp hg];omega }
theorem WF.nD {ng:Nat} {im:List (List Int)} {less:List Int} {c g:Nat} (h:WF ng im less) (hc:c < less.length) (hg:g < ng):WF ng (nD ng im less.length c g) (less ++ [(less.length:Int)]):=by
 have h1:=h.app
 have hl:=h.len
 unfold Proofs.YtekbhbcgoadciaaGreat.nD
 refine (h1.gD (c:=c) (g:=g) (z:=(less.length:Int)) (by simp;omega) hg (by simp;omega)).gD (c:=less.length) (g:=g) (z:=(c:Int)) ?_ hg ?_
 ·rw [dB];simp;omega
 ·simp;omega
theorem gV {ng:Nat} {im:List (List Int)} {less:List Int} {c g:Nat} (h:WF ng im less) (hc:c < less.length) (hg:g < ng) (hn:less.length≤2000):
  WF ng (ck ng im less c g).1 (ck ng im less c g).2.1∧less.length≤(ck ng im less c g).2.1.length∧(ck ng im less c g).2.1.length≤2000∧(ck ng im less c g).2.2.2 < (ck ng im less c g).2.1.length∧((ck ng im less c g).2.2.1=true→(ck ng im less c g).2.1.length=2000):=by
 unfold ck
 split
 ·rename_i h1
  have:=h.bZ c g (by rw [h.len];exact hc) hg
  exact ⟨h,Nat.le_refl _,hn,de h.down ae,by simp⟩
 ·split
  ·rename_i h2;exact ⟨h,Nat.le_refl _,hn,by dsimp only;omega,fun _=>h2⟩
  ·exact ⟨h.nD hc hg,by simp,by simp;omega,by simp,by simp⟩
def ic (ng:Nat) (s:List (List Int)×List Int×Bool×Nat):List Nat→List (List Int)×List Int×Bool×Nat
 | []=>s
 | g :: r=>if s.2.2.1=true then s else ic ng (ck ng s.1 s.2.1 s.2.2.2 g) r
def db (ng:Nat) (im:List (List Int)) (less:List Int) (c:Nat) (w:List Nat):List (List Int)×List Int×Bool:=
 match w.getLast? with
 | none=>(im,less,false)
 | some g=>
  let s:=ic ng (im,less,false,c) w.dropLast
  if s.2.2.1=true then (s.1,s.2.1,true)
  else
   let e:=image s.1 s.2.1 s.2.2.2 g
   let f:=image s.1 s.2.1 c g
   if 0≤e then ((ident ng s.1 s.2.1 [(e,(c:Int))]).1,(ident ng s.1 s.2.1 [(e,(c:Int))]).2,false)
   else if 0≤f then ((ident ng s.1 s.2.1 [(f,(s.2.2.2:Int))]).1,(ident ng s.1 s.2.1 [(f,(s.2.2.2:Int))]).2,false)
   else (eh (eh s.1 s.2.2.2 g c) c g s.2.2.2,s.2.1,false)
theorem ij {ng:Nat} {s:List (List Int)×List Int×Bool×Nat} (h:s.2.2.1=true):∀w,ic ng s w=s
 | []=>rfl
 | g :: r=>by unfold ic;rw [if_pos h]
theorem mO {ng:Nat} :∀(a b:List Nat) (s:List (List Int)×List Int×Bool×Nat),ic ng s (a ++ b)=ic ng (ic ng s a) b
 | [],b,s=>rfl
 | g :: r,b,s=>by
  simp only [List.cons_append,ic]
  split
  ·rename_i h;rw [ij h]
  ·exact mO r b _
structure vW (ng n0:Nat) (s:List (List Int)×List Int×Bool×Nat):Prop where
 wf:WF ng s.1 s.2.1
 lo:n0≤s.2.1.length
 hi:s.2.1.length≤2000
 d:s.2.2.2 < s.2.1.length
theorem nE {ng n0:Nat} :∀(w:List Nat) (s:List (List Int)×List Int×Bool×Nat),vW ng n0 s→(∀g∈w,g < ng)→vW ng n0 (ic ng s w)
 | [],s,h,_=>h
 | g :: r,s,h,hg=>by
  unfold ic
  split
  ·exact h
  ·obtain ⟨h1,h2,h3,h4,_⟩:=gV h.wf h.d (hg g (by simp)) h.hi
   exact nE r _ ⟨h1,Nat.le_trans h.lo h2,h3,h4⟩ fun x hx=>hg x (by simp [hx])
theorem lF {ng n:Nat} :∀(f:Nat) (im:List (List Int)) (less:List Int) (q:List (Int×Int)),WF ng im less→less.length=n→nj n q→WF ng (cP ng f im less q).1 (cP ng f im less q).2∧(cP ng f im less q).2.length=n
 | 0,im,less,q,h,hn,_=>⟨h,hn⟩
 | f + 1,im,less, [],h,hn,_=>⟨h,hn⟩
 | f + 1,im,less,p :: q,h,hn,hq=>by
  have hp:=hq p (by simp)
  have hq':nj less.length q:=fun x hx=>hn ▸ hq x (by simp [hx])
  have hr1:=de h.down (c:=p.1.toNat) ae
  have hr2:=de h.down (c:=p.2.toNat) ae
  simp only [cP]
  split
  ·exact lF f im less q h hn fun x hx=>hq x (by simp [hx])
  ·obtain ⟨h1,h2,h3,h4⟩:=eP h (lo:=min (root less p.1.toNat) (root less p.2.toNat)) (hi:=max (root less p.1.toNat) (root less p.2.toNat)) (by rw [h.len];omega) (by rw [h.len];omega) hq' ng (Nat.le_refl _)
   exact lF f _ _ _ (h1.kJ ae) (by rw [List.length_set];exact hn) (hn ▸ h2)
theorem iI {ng n:Nat} {im:List (List Int)} {less:List Int} {q:List (Int×Int)} (h:WF ng im less) (hn:less.length=n) (hq:nj n q):WF ng (ident ng im less q).1 (ident ng im less q).2∧(ident ng im less q).2.length=n:=lF _ _ _ _ h hn hq
theorem eL {ng:Nat} {im:List (List Int)} {less:List Int} {c g:Nat} (h:WF ng im less) (hc:c < less.length) (hg:g < ng):image im less c g < less.length:=by
 unfold image
 split
 ·omega
 ·have:=h.bZ c g (by rw [h.len];exact hc) hg
  have:=de h.down (c:=(bZ im c g).toNat) ae
  omega
structure cD (ng n0:Nat) (s:List (List Int)×List Int×Bool):Prop where
 wf:WF ng s.1 s.2.1
 lo:n0≤s.2.1.length
 hi:s.2.1.length≤2000
theorem pI {ng:Nat} {im:List (List Int)} {less:List Int} {c:Nat} {w:List Nat} (h:WF ng im less) (hc:c < less.length) (hn:less.length≤2000) (hg:∀g∈w,g < ng):cD ng less.length (db ng im less c w):=by
 unfold db
 cases hw:w.getLast? with
 | none=>exact ⟨h,Nat.le_refl _,hn⟩
 | some g=>
  have hgl:g < ng:=hg g (List.mem_of_getLast? hw)
  have ok:=nE (n0:=less.length) w.dropLast (im,less,false,c) ⟨h,Nat.le_refl _,hn,hc⟩ fun x hx=>hg x (List.dropLast_subset _ hx)
  generalize ic ng (im,less,false,c) w.dropLast=s at *
  have hcs:c < s.2.1.length:=Nat.lt_of_lt_of_le hc ok.lo
  dsimp only
  split
  ·exact ⟨ok.wf,ok.lo,ok.hi⟩
  ·have e1:=eL ok.wf ok.d hgl
   have e2:=eL ok.wf hcs hgl
   have hd:=ok.d
   split
   ·rename_i he
    have:=iI (q:= [(image s.1 s.2.1 s.2.2.2 g,(c:Int))]) ok.wf rfl (fun p hp=>by simp at hp;subst hp;exact ⟨⟨he,e1⟩,ae,by dsimp only;omega⟩)
    exact ⟨this.1,by dsimp only;rw [this.2];exact ok.lo,by dsimp only;rw [this.2];exact ok.hi⟩
   ·split
    ·rename_i hf
     have:=iI (q:= [(image s.1 s.2.1 c g,(s.2.2.2:Int))]) ok.wf rfl (fun p hp=>by simp at hp;subst hp;exact ⟨⟨hf,e2⟩,ae,by dsimp only;omega⟩)
     exact ⟨this.1,by dsimp only;rw [this.2];exact ok.lo,by dsimp only;rw [this.2];exact ok.hi⟩
    ·have hl:=ok.wf.len
     exact ⟨(ok.wf.gD (c:=s.2.2.2) (g:=g) (z:=(c:Int)) ae hgl ae).gD (c:=c) (g:=g) (z:=(s.2.2.2:Int)) (by rw [dB];omega) hgl ae,ok.lo,ok.hi⟩
end Go.Proofs.YtekbhbcgoadciaaGreat
namespace Go.Proofs.YtekbhbcgoadciaaGreat
abbrev dR:=List (List Int)×List Int×Bool
def fb (s:dR) (c:Nat):Bool:=decide (aC s.2.1 c=(c:Int)) && !s.2.2
def dD (ng:Nat) (s:dR) (w:List Int):dR:=if s.2.2=true then s else db ng s.1 s.2.1 0 (w.map Int.toNat)
def c9 (ng c:Nat) (s:dR) (w:List Int):dR:=if fb s c=true then db ng s.1 s.2.1 c (w.map Int.toNat) else s
def dm (ng c:Nat) (s:dR) (g:Nat):dR:=if fb s c=true then ((ck ng s.1 s.2.1 c g).1,(ck ng s.1 s.2.1 c g).2.1,(ck ng s.1 s.2.1 c g).2.2.1) else s
def eo (ng:Nat) (rels:List (List Int)) (c:Nat) (s:dR):dR:=(List.range ng).foldl (dm ng c) (rels.foldl (c9 ng c) s)
def outer (ng:Nat) (rels:List (List Int)):Nat→Nat→dR→dR
 | 0,_,s=>s
 | f + 1,c,s=>if c < s.2.1.length∧s.2.2=false then outer ng rels f (c + 1) (eo ng rels c s) else s
def dG (ng:Nat):dR:=([List.replicate ng (-1)], [0],false)
def cm (ng:Nat) (rels words:List (List Int)):dR:=outer ng rels 2001 0 (words.foldl (dD ng) (dG ng))
theorem cD.le {ng n m:Nat} {s:dR} (h:cD ng n s) (hm:m≤n):cD ng m s:=⟨h.wf,Nat.le_trans hm h.lo,h.hi⟩
def bB (ng:Nat) (w:List Int):Prop:=∀z∈w,0≤z∧z < ng
theorem bB.nat {ng:Nat} {w:List Int} (h:bB ng w):∀g∈w.map Int.toNat,g < ng:=fun g hg=>by
 obtain ⟨z,hz,rfl⟩:=List.mem_map.1 hg
 have:=h z hz;omega
theorem kF {ng n:Nat} {s:dR} {w:List Int} (h:cD ng n s) (hn:0 < n) (hw:bB ng w):cD ng n (dD ng s w):=by
 unfold dD
 split
 ·exact h
 ·exact (pI h.wf (Nat.lt_of_lt_of_le hn h.lo) h.hi hw.nat).le h.lo
theorem jo {ng n c:Nat} {s:dR} {w:List Int} (h:cD ng n s) (hn:c < n) (hw:bB ng w):cD ng n (c9 ng c s w):=by
 unfold c9
 split
 ·exact (pI h.wf (Nat.lt_of_lt_of_le hn h.lo) h.hi hw.nat).le h.lo
 ·exact h
theorem kM {ng n c g:Nat} {s:dR} (h:cD ng n s) (hn:c < n) (hg:g < ng):cD ng n (dm ng c s g):=by
 unfold dm
 split
 ·obtain ⟨h1,h2,h3,_⟩:=gV h.wf (Nat.lt_of_lt_of_le hn h.lo) hg h.hi
  exact ⟨h1,Nat.le_trans h.lo h2,h3⟩
 ·exact h
theorem kP {α:Type} {ng n:Nat} {f:dR→α→dR} {p:α→Prop} (hf:∀s x,cD ng n s→p x→cD ng n (f s x)):∀(l:List α) (s:dR),cD ng n s→(∀x∈l,p x)→cD ng n (l.foldl f s)
 | [],s,h,_=>h
 | x :: r,s,h,hp=>kP hf r _ (hf s x h (hp x (by simp))) fun y hy=>hp y (by simp [hy])
theorem uF {ng n c:Nat} {rels:List (List Int)} {s:dR} (h:cD ng n s) (hn:c < n) (hr:∀w∈rels,bB ng w):cD ng n (eo ng rels c s):=
 kP (p:=fun g=>g < ng) (fun s g h hg=>kM h hn hg) _ _ (kP (p:=bB ng) (fun s w h hw=>jo h hn hw) _ _ h hr) fun g hg=>List.mem_range.1 hg
theorem yL {ng n:Nat} {rels:List (List Int)} (hr:∀w∈rels,bB ng w):∀(f c:Nat) (s:dR),cD ng n s→cD ng n (outer ng rels f c s)
 | 0,_,s,h=>h
 | f + 1,c,s,h=>by
  unfold outer
  split
  ·rename_i hc
   exact yL hr f _ _ ((uF (n:=s.2.1.length) ⟨h.wf,Nat.le_refl _,h.hi⟩ hc.1 hr).le h.lo)
  ·exact h
theorem jm (ng:Nat):cD ng 1 (dG ng):=by
 refine ⟨{ len:=rfl,row:=fun c hc=> ?_,down:=fun c hc=> ?_,bZ:=fun c g hc hg=> ?_ },Nat.le_refl _,by simp [dG]⟩
 ·obtain rfl:c=0:=by simp [dG] at hc;omega
  simp [dG,bn]
 ·obtain rfl:c=0:=by simp [dG] at hc;omega
  simp [dG,aC]
 ·obtain rfl:c=0:=by simp [dG] at hc;omega
  simp [dG,bZ,bn,aC,hg]
theorem vG {ng:Nat} {rels words:List (List Int)} (hr:∀w∈rels,bB ng w) (hw:∀w∈words,bB ng w):cD ng 1 (cm ng rels words):=
 yL hr _ _ _ (kP (p:=bB ng) (fun s w h hw=>kF h ae hw) _ _ (jm ng) hw)
theorem nM {α:Type} {f:dR→α→dR} {s:dR} (h:∀x,f s x=s):∀l:List α,l.foldl f s=s
 | []=>rfl
 | x :: r=>by rw [List.foldl_cons,h,nM h r]
theorem iC {ng:Nat} {s:dR} (h:s.2.2=true) (w:List Int):dD ng s w=s:=if_pos h
theorem iH {ng c:Nat} {s:dR} (h:fb s c=false) (w:List Int):c9 ng c s w=s:=if_neg (by simp [h])
theorem jU {ng c:Nat} {s:dR} (h:fb s c=false) (g:Nat):dm ng c s g=s:=if_neg (by simp [h])
theorem rS {ng c g:Nat} {s s':dR} (h:(List.range g).foldl (dm ng c) s=s') (hl:fb s' c=false):∀n,g≤n→(List.range n).foldl (dm ng c) s=s'
 | 0,hn=>by
   obtain rfl:g=0:=by omega
   exact h
 | n + 1,hn=>by
  by_cases e:g=n + 1
  ·subst e;exact h
  ·rw [List.range_succ,List.foldl_append,rS h hl n ae]
   exact jU hl n
theorem By {ng c j:Nat} {rels:List (List Int)} {s s':dR} (h:(rels.take j).foldl (c9 ng c) s=s') (hl:fb s' c=false):rels.foldl (c9 ng c) s=s':=by
 conv=>lhs;rw [←List.take_append_drop j rels,List.foldl_append,h]
 exact nM (iH hl) _
theorem xk {ng j:Nat} {words:List (List Int)} {s s':dR} (h:(words.take j).foldl (dD ng) s=s') (hl:s'.2.2=true):words.foldl (dD ng) s=s':=by
 conv=>lhs;rw [←List.take_append_drop j words,List.foldl_append,h]
 exact nM (iC hl) _
end Go.Proofs.YtekbhbcgoadciaaGreat
namespace Go.Proofs.YtekbhbcgoadciaaGreat
structure Grow (ng:Nat) (im:List (List Int)) (less:List Int) (im':List (List Int)) (less':List Int):Prop where
 len:less.length≤less'.length
 bZ:∀c g,c < less.length→g < ng→0≤bZ im c g→0≤bZ im' c g
 dead:∀c,c < less.length→aC less c≠c→aC less' c≠c
theorem Grow.refl (ng:Nat) (im:List (List Int)) (less:List Int):Grow ng im less im less:=⟨Nat.le_refl _,fun _ _ _ _ h=>h,fun _ _ h=>h⟩
theorem Grow.trans {ng:Nat} {a b c:List (List Int)} {x y z:List Int} (h:Grow ng a x b y) (k:Grow ng b y c z):Grow ng a x c z:=
 ⟨Nat.le_trans h.len k.len,fun i g hi hg h1=>k.bZ i g (Nat.lt_of_lt_of_le hi h.len) hg (h.bZ i g hi hg h1),fun i hi h1=>k.dead i (Nat.lt_of_lt_of_le hi h.len) (h.dead i hi h1)⟩
theorem WF.mn {ng:Nat} {im:List (List Int)} {less:List Int} (h:WF ng im less) {c g:Nat} {z:Int} (hc:c < im.length) (hg:g < ng) (hz:0≤z):Grow ng im less (eh im c g z) less:=
 ⟨Nat.le_refl _,fun i j _ _ h1=>by
  rw [eK hc (by rw [h.row c hc];exact hg)]
  split
  ·exact hz
  ·exact h1,fun _ _ h=>h⟩
theorem WF.Ef {ng:Nat} {im:List (List Int)} {less:List Int} (h:WF ng im less) (r:List Int) (z:Int):Grow ng im less (im ++ [r]) (less ++ [z]):=
 ⟨by simp,fun i j hi _ h1=>by
  have hi':i < im.length:=by rw [h.len];exact hi
  unfold Proofs.YtekbhbcgoadciaaGreat.bZ at h1 ⊢
  rw [fh hi'];exact h1,fun i hi h1=>by rw [cC hi];exact h1⟩
theorem tt {ng:Nat} {im:List (List Int)} {less:List Int} {c g:Nat} (h:WF ng im less) (hc:c < less.length) (hg:g < ng):Grow ng im less (ck ng im less c g).1 (ck ng im less c g).2.1:=by
 unfold ck
 split
 ·exact Grow.refl _ _ _
 ·split
  ·exact Grow.refl _ _ _
  ·have h1:=h.app
   have hl:=h.len
   have g1:=h.Ef (List.replicate ng (-1)) (less.length:Int)
   have h2:=h1.gD (c:=c) (g:=g) (z:=(less.length:Int)) (by simp;omega) hg (by simp;omega)
   have g2:=h1.mn (c:=c) (g:=g) (z:=(less.length:Int)) (by simp;omega) hg ae
   have g3:=h2.mn (c:=less.length) (g:=g) (z:=(c:Int)) (by rw [dB];simp;omega) hg ae
   exact (g1.trans g2).trans g3
theorem Cw {ng:Nat} {im:List (List Int)} {less:List Int} {c g:Nat} (h:WF ng im less) (hc:c < less.length) (hg:g < ng) (hf:(ck ng im less c g).2.2.1=false):0≤bZ (ck ng im less c g).1 c g:=by
 unfold ck at hf ⊢
 split
 ·rename_i h0;exact h0
 ·rename_i h0
  rw [if_neg h0] at hf
  split
  ·rename_i h1;rw [if_pos h1] at hf;cases hf
  ·have h1:=h.app
   have hl:=h.len
   have h2:=h1.gD (c:=c) (g:=g) (z:=(less.length:Int)) (by simp;omega) hg (by simp;omega)
   unfold nD
   dsimp only
   rw [eK (by rw [dB];simp;omega) (by rw [h2.row _ (by rw [dB];simp;omega)];exact hg)]
   split
   ·omega
   ·rw [eK (by simp;omega) (by rw [h1.row _ (by simp;omega)];exact hg),if_pos ⟨rfl,rfl⟩];omega
theorem xg {ng n0:Nat} :∀(w:List Nat) (s:List (List Int)×List Int×Bool×Nat),vW ng n0 s→(∀g∈w,g < ng)→Grow ng s.1 s.2.1 (ic ng s w).1 (ic ng s w).2.1
 | [],s,_,_=>Grow.refl _ _ _
 | g :: r,s,h,hg=>by
  unfold ic
  split
  ·exact Grow.refl _ _ _
  ·have k:=tt h.wf h.d (hg g (by simp))
   obtain ⟨h1,h2,h3,h4,_⟩:=gV h.wf h.d (hg g (by simp)) h.hi
   exact k.trans (xg (n0:=n0) r _ ⟨h1,Nat.le_trans h.lo h2,h3,h4⟩ fun x hx=>hg x (by simp [hx]))
theorem oZ {ng lo hi:Nat} {im:List (List Int)} {less:List Int} {q:List (Int×Int)} (h:WF ng im less) (hlo:lo < im.length) (hhi:hi < im.length) (hq:nj less.length q):∀g,g≤ng→Grow ng im less (bH lo hi (im,q) g).1 less
 | 0,_=>Grow.refl _ _ _
 | g + 1,hg=>by
  have ih:=oZ h hlo hhi hq g ae
  obtain ⟨h1,_,_,h4⟩:=eP h hlo hhi hq g ae
  simp only [bH,stepG]
  split
  ·exact ih
  ·rename_i hn
   split
   ·exact ih
   ·exact ih.trans (h1.mn ae ae ae)
theorem CP {ng:Nat} {im:List (List Int)} {less:List Int} {lo hi:Nat} (h:lo < hi):Grow ng im less im (less.set hi (lo:Int)):=
 ⟨by simp,fun _ _ _ _ h=>h,fun c hc h1=>by
  rw [cK]
  split
  ·rename_i e;rw [←e.1];omega
  ·exact h1⟩
theorem ia {ng n:Nat} :∀(f:Nat) (im:List (List Int)) (less:List Int) (q:List (Int×Int)),WF ng im less→less.length=n→nj n q→Grow ng im less (cP ng f im less q).1 (cP ng f im less q).2
 | 0,im,less,q,h,hn,_=>Grow.refl _ _ _
 | f + 1,im,less, [],h,hn,_=>Grow.refl _ _ _
 | f + 1,im,less,p :: q,h,hn,hq=>by
  have hp:=hq p (by simp)
  have hq':nj less.length q:=fun x hx=>hn ▸ hq x (by simp [hx])
  have hr1:=de h.down (c:=p.1.toNat) ae
  have hr2:=de h.down (c:=p.2.toNat) ae
  simp only [cP]
  split
  ·exact ia f im less q h hn fun x hx=>hq x (by simp [hx])
  ·rename_i hne
   obtain ⟨h1,h2,h3,h4⟩:=eP h (lo:=min (root less p.1.toNat) (root less p.2.toNat)) (hi:=max (root less p.1.toNat) (root less p.2.toNat)) (by rw [h.len];omega) (by rw [h.len];omega) hq' ng (Nat.le_refl _)
   have g1:=oZ h (lo:=min (root less p.1.toNat) (root less p.2.toNat)) (hi:=max (root less p.1.toNat) (root less p.2.toNat)) (by rw [h.len];omega) (by rw [h.len];omega) hq' ng (Nat.le_refl _)
   refine (g1.trans (CP ae)).trans (ia f _ _ _ (h1.kJ ae) (by rw [List.length_set];exact hn) (hn ▸ h2))
theorem wT {ng:Nat} {im:List (List Int)} {less:List Int} {c:Nat} {w:List Nat} (h:WF ng im less) (hc:c < less.length) (hn:less.length≤2000) (hg:∀g∈w,g < ng):Grow ng im less (db ng im less c w).1 (db ng im less c w).2.1:=by
 unfold db
 cases hw:w.getLast? with
 | none=>exact Grow.refl _ _ _
 | some g=>
  have hgl:g < ng:=hg g (List.mem_of_getLast? hw)
  have ok:=nE (n0:=less.length) w.dropLast (im,less,false,c) ⟨h,Nat.le_refl _,hn,hc⟩ fun x hx=>hg x (List.dropLast_subset _ hx)
  have gr:=xg (n0:=less.length) w.dropLast (im,less,false,c) ⟨h,Nat.le_refl _,hn,hc⟩ fun x hx=>hg x (List.dropLast_subset _ hx)
  generalize ic ng (im,less,false,c) w.dropLast=s at *
  have hcs:c < s.2.1.length:=Nat.lt_of_lt_of_le hc ok.lo
  have gr:Grow ng im less s.1 s.2.1:=gr
  dsimp only
  split
  ·exact gr
  ·have e1:=eL ok.wf ok.d hgl
   have e2:=eL ok.wf hcs hgl
   have hd:=ok.d
   have hl:=ok.wf.len
   split
   ·rename_i he
    exact gr.trans (ia _ _ _ _ ok.wf rfl (fun p hp=>by simp at hp;subst hp;exact ⟨⟨he,e1⟩,ae,by dsimp only;omega⟩))
   ·split
    ·rename_i hf
     exact gr.trans (ia _ _ _ _ ok.wf rfl (fun p hp=>by simp at hp;subst hp;exact ⟨⟨hf,e2⟩,ae,by dsimp only;omega⟩))
    ·have k1:=ok.wf.gD (c:=s.2.2.2) (g:=g) (z:=(c:Int)) ae hgl ae
     exact (gr.trans (ok.wf.mn (c:=s.2.2.2) (g:=g) (z:=(c:Int)) ae hgl ae)).trans (k1.mn (c:=c) (g:=g) (z:=(s.2.2.2:Int)) (by rw [dB];omega) hgl ae)
def Dn (ng:Nat) (s:dR) (c:Nat):Prop:=aC s.2.1 c≠(c:Int)∨∀g,g < ng→0≤bZ s.1 c g
abbrev qE (ng:Nat) (s s':dR):Prop:=Grow ng s.1 s.2.1 s'.1 s'.2.1
theorem Grow.dn {ng:Nat} {s s':dR} {c:Nat} (h:qE ng s s') (hc:c < s.2.1.length) (hd:Dn ng s c):Dn ng s' c:=
 hd.imp (h.dead c hc) fun hd g hg=>h.bZ c g hc hg (hd g hg)
theorem yR {ng n c:Nat} {s:dR} {w:List Int} (h:cD ng n s) (hn:c < n) (hw:bB ng w):qE ng s (c9 ng c s w):=by
 unfold c9
 split
 ·exact wT h.wf (Nat.lt_of_lt_of_le hn h.lo) h.hi hw.nat
 ·exact Grow.refl _ _ _
theorem zq {ng n c g:Nat} {s:dR} (h:cD ng n s) (hn:c < n) (hg:g < ng):qE ng s (dm ng c s g):=by
 unfold dm
 split
 ·exact tt h.wf (Nat.lt_of_lt_of_le hn h.lo) hg
 ·exact Grow.refl _ _ _
theorem tq {α:Type} {ng n:Nat} {f:dR→α→dR} {p:α→Prop} (hf:∀s x,cD ng n s→p x→cD ng n (f s x)) (hg:∀s x,cD ng n s→p x→qE ng s (f s x)):∀(l:List α) (s:dR),cD ng n s→(∀x∈l,p x)→qE ng s (l.foldl f s)
 | [],s,_,_=>Grow.refl _ _ _
 | x :: r,s,h,hp=>(hg s x h (hp x (by simp))).trans (tq hf hg r _ (hf s x h (hp x (by simp))) fun y hy=>hp y (by simp [hy]))
theorem uT {ng n c:Nat} {s:dR} (h:cD ng n s) (hn:c < n):∀m,m≤ng→cD ng n ((List.range m).foldl (dm ng c) s)∧qE ng s ((List.range m).foldl (dm ng c) s)∧(((List.range m).foldl (dm ng c) s).2.2=false→
  aC ((List.range m).foldl (dm ng c) s).2.1 c≠(c:Int)∨∀g,g < m→0≤bZ ((List.range m).foldl (dm ng c) s).1 c g)
 | 0,_=>⟨h,Grow.refl _ _ _,fun _=> .inr fun g hg=>by omega⟩
 | m + 1,hm=>by
  obtain ⟨h1,h2,h3⟩:=uT h hn m ae
  rw [List.range_succ,List.foldl_append]
  generalize (List.range m).foldl (dm ng c) s=t at *
  show cD ng n (dm ng c t m)∧qE ng s (dm ng c t m)∧((dm ng c t m).2.2=false→aC (dm ng c t m).2.1 c≠(c:Int)∨∀g,g < m + 1→0≤bZ (dm ng c t m).1 c g)
  have g1:=zq (g:=m) h1 hn ae
  refine ⟨kM h1 hn ae,h2.trans g1,fun hf=> ?_⟩
  have hct:c < t.2.1.length:=Nat.lt_of_lt_of_le hn h1.lo
  cases hl:fb t c with
  | false=>
   rw [jU hl] at hf ⊢
   left
   unfold fb at hl
   rw [hf] at hl
   simpa using hl
  | true=>
   have hlv:aC t.2.1 c=(c:Int)∧t.2.2=false:=by unfold fb at hl;simpa using hl
   rcases h3 hlv.2 with h4 | h4
   ·exact absurd hlv.1 h4
   ·by_cases e:aC (dm ng c t m).2.1 c=(c:Int)
    ·right
     intro g hg
     by_cases e2:g=m
     ·subst e2
      unfold dm at hf ⊢
      rw [if_pos hl] at hf ⊢
      exact Cw h1.wf hct ae hf
     ·exact g1.bZ c g hct ae (h4 g ae)
    ·exact .inl e
theorem xX {ng n c:Nat} {rels:List (List Int)} {s:dR} (h:cD ng n s) (hn:c < n) (hr:∀w∈rels,bB ng w):qE ng s (eo ng rels c s)∧((eo ng rels c s).2.2=false→Dn ng (eo ng rels c s) c):=by
 have h1:=kP (p:=bB ng) (fun s w h hw=>jo h hn hw) rels s h hr
 have g1:=tq (p:=bB ng) (fun s w h hw=>jo h hn hw) (fun s w h hw=>yR h hn hw) rels s h hr
 obtain ⟨_,g2,h3⟩:=uT h1 hn ng (Nat.le_refl _)
 exact ⟨g1.trans g2,h3⟩
theorem hJ {ng:Nat} {rels:List (List Int)} {s:dR} (h:s.2.2=true):∀f c,outer ng rels f c s=s
 | 0,_=>rfl
 | f + 1,c=>by unfold outer;rw [if_neg (by rw [h];simp)]
theorem sd {ng:Nat} {rels:List (List Int)} (hr:∀w∈rels,bB ng w):∀(f c:Nat) (s:dR),cD ng 1 s→2001≤f + c→c≤s.2.1.length→(∀i,i < c→Dn ng s i)→(outer ng rels f c s).2.2=false→∀i,i < (outer ng rels f c s).2.1.length→Dn ng (outer ng rels f c s) i
 | 0,c,s,h,hf,hc,_,_=>by have:=h.hi;omega
 | f + 1,c,s,h,hf,hc,hd,hnf=>by
  unfold outer at hnf ⊢
  by_cases hcond:c < s.2.1.length∧s.2.2=false
  ·rw [if_pos hcond] at hnf ⊢
   have hk:=uF (n:=s.2.1.length) ⟨h.wf,Nat.le_refl _,h.hi⟩ hcond.1 hr
   obtain ⟨g1,d1⟩:=xX (n:=s.2.1.length) ⟨h.wf,Nat.le_refl _,h.hi⟩ hcond.1 hr
   have hnf1:(eo ng rels c s).2.2=false:=by
    cases e:(eo ng rels c s).2.2 with
    | false=>rfl
    | true=>rw [hJ e,e] at hnf;cases hnf
   refine sd hr f (c + 1) _ (hk.le h.lo) ae (by have:=g1.len;omega) (fun i hi=> ?_) hnf
   by_cases e:i=c
   ·subst e;exact d1 hnf1
   ·exact g1.dn ae (hd i ae)
  ·rw [if_neg hcond] at hnf ⊢
   intro i hi
   refine hd i ?_
   by_cases e:c < s.2.1.length
   ·exact absurd ⟨e,hnf⟩ hcond
   ·omega
theorem Bz {ng:Nat} {rels words:List (List Int)} (hr:∀w∈rels,bB ng w) (hw:∀w∈words,bB ng w) (hnf:(cm ng rels words).2.2=false):∀c,c < (cm ng rels words).2.1.length→Dn ng (cm ng rels words) c:=
 sd hr _ _ _ (kP (p:=bB ng) (fun s w h hw=>kF h ae hw) _ _ (jm ng) hw) (Nat.le_refl _) (Nat.zero_le _) (fun i hi=>by omega) hnf
end Go.Proofs.YtekbhbcgoadciaaGreat
