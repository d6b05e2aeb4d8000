/- A memory of names: contracts of functions; how a walk begins and ends; calls. No program in sight. -/
import Derived.Test.YtfpcfckocmmcnaaPart1
set_option maxRecDepth 100000
set_option maxHeartbeats 6400000
namespace Go.Proofs.Ytfpcfckocmmcnaa
open Go.RowKit
def nd (η:Env) (avs:List AV) (us:List Value):Prop:=us.length=avs.length∧∀(j:Nat) (av:AV),avs[j]? =some av→∃u,us[j]? =some u∧Den η av u
def Left (w:World) (ω:bW) (us:List Value) (outs:List (Nm×Ch)) (res:AV) (back:List (Nat×AV)) (e:Ending) (w':World):Prop:=
 ∃v η' ω',e= .returned v∧Den η' res v∧Mem η' ω' w' (fun x=>lk x outs)∧Fr ω w ω' w'∧∀t av,lk t back=some av→∃u,us[t]? =some u∧Den η' av u
def FC (P:Program) (f:FuncId) (ins:List (Nm×Ch)) (args:List AV) (outs:List (Nm×Ch)) (res:AV) (back:List (Nat×AV)):Prop:=
 ∀w η ω us,Mem η ω w (fun x=>lk x ins)→nd η args us→Calls P f us.toArray w (Left w ω us outs res back)
def CV:Nat→List AV→List (Nat×AV)
 | _, []=> []
 | k,av :: r=>(k,av) :: CV (k + 1) r
theorem uO:∀ {k:Nat} {l:List AV} {t:Nat} {av:AV},lk t (CV k l)=some av→∃j,t=k + j∧l[j]? =some av
 | _, [],_,_,h=>by cases h
 | k,a :: r,t,av,h=>by
  simp only [CV,lk] at h
  cases hb:Nat.beq t k with
  | true=>rw [hb] at h;simp at h;subst h;exact ⟨0,beq_true hb,rfl⟩
  | false=>
   rw [hb] at h
   obtain ⟨j,h1,h2⟩:=uO (k:=k + 1) (l:=r) h
   exact ⟨j + 1,ab,by simpa using h2⟩
section
variable {P:Program} {nt:Nat} {S S':St} {w0 w:World} {ω0:lI} {ω:bW} {η:Env} {a:Act}
theorem cu {f:FuncId} {fn:Func} {c:Code} {ins outs:List (Nm×Ch)} {args:List AV} {res:AV} {back:List (Nat×AV)} (hf:P.funcs[f]? =some fn) (hb:fn.body=some c) (hn:fn.ntmps=nt) (hl:args.length≤nt)
  (h:∀w0 ω0,fZ P w0 ω0 nt (St.of (CV 0 args) ins (CV 0 args)) c (bodyPost P fn (Left w0 ω0.own ω0.ph outs res back))):FC P f ins args outs res back:=by
 intro w η ω us hm hd
 refine calls_of_wp hf hb ((h w ⟨ω,us⟩).go _ _ ⟨η,ω, ?_⟩)
 have hsz:us.toArray.size=us.length:=by simp
 refine { dfr:=rfl,tsz:= ?_,slots:=fun t av ht=> ?_,phs:=fun t av ht=> ?_,mem:=hm,fr:=Fr.refl _ _ }
 ·have:=hd.1
  simp;omega
 ·obtain ⟨j,rfl,hj⟩:=uO ht
  obtain ⟨u,h1,h2⟩:=hd.2 j av hj
  refine ⟨u, ?_,h2⟩
  have hlt:j < us.length:=(List.getElem?_eq_some_iff.1 h1).1
  simp only [Nat.zero_add]
  rw [Array.getElem?_append_left (by simpa using hlt)]
  simpa using h1
 ·obtain ⟨j,rfl,hj⟩:=uO ht
  obtain ⟨u,h1,h2⟩:=hd.2 j av hj
  exact ⟨u,by simpa using h1,h2⟩
def xH (P:Program) (T:TypeId) (k:Nat):Bool:=
 match P.underlying T with
 | some (.struct _) | some (.array _ _)=>jJ P T k
 | _=>false
theorem CG {T:TypeId} {k:Nat} (h:xH P T k=true) (w:World):(isAgg T).run P w= .ok true w:=by
 unfold xH at h
 cases hu:P.underlying T with
 | none=>rw [hu] at h;cases h
 | some d=>rw [hu] at h;cases d<;>first | (cases h;done) | simp [isAgg,run_underlying hu]
theorem BM {T:TypeId} {k:Nat} (h:xH P T k=true):jJ P T k=true:=by
 unfold xH at h
 cases hu:P.underlying T with
 | none=>rw [hu] at h;cases h
 | some d=>rw [hu] at h;cases d<;>first | (cases h;done) | exact h
theorem xl {T:TypeId} {k:Nat} (h:xH P T k=true) {b o:Nat} {us:List Value} (hl:us.length=k) (hc:∀j u,us[j]? =some u→w.cell? ⟨b,o + j,none⟩=some u):(loadVar T ⟨b,o,none⟩).run P w= .ok (.agg us.toArray) w:=by
 have hr:=run_loadCells_list (P:=P) w ⟨b,o,none⟩ us fun j u hu=>by rw [Addr.add_lit];exact hc j u hu
 rw [hl] at hr
 simp [loadVar,CG h,oQ (BM h),hr]
theorem dV.Aa (hs:dV w0 ω0 nt S η ω a w) {n:Nm} {i k:Nat} {c:Ch} {l:List A1} {T:TypeId} {p:Value} (hp:dm η (.ptr n i) p) (hc:S.ch n=some c) (hd:c.d= .flat l) (hk:i + k≤l.length) (hk0:0 < k) (hT:xH P T k=true):
  ∃ad u,p= .pointer (some ad)∧(loadVar T ad).run P w= .ok u w∧gT η (.agg ((l.drop i).take k)) u:=by
 obtain ⟨h,e1,e2,e3⟩:=hs.chunk hc
 obtain ⟨b,o,g1,rfl⟩:=hp.2 h e1
 rw [hd] at e3
 have key:∀j,j < k→∃u,w.cell? ⟨b,o + i + j,none⟩=some u∧∀b1,l[i + j]? =some b1→dm η b1 u:=fun j hj=>by
  obtain ⟨b',o',u,f1,f2,f3⟩:=e3.get (j:=i + j) (by show i + j < l.length;omega)
  rw [g1] at f1;injection f1 with f1;injection f1 with f1 f1';subst f1 f1'
  exact ⟨u,by rw [Nat.add_assoc];exact f2,f3⟩
 refine ⟨_, .agg ((List.range k).map fun j=>(w.cell? ⟨b,o + i + j,none⟩).getD undef).toArray,rfl,xl hT (by simp) fun j u hu=> ?_,⟨_,rfl,by simp;omega,fun j b1 hb1=> ?_⟩⟩
 ·rw [List.getElem?_map,Option.map_eq_some_iff] at hu
  obtain ⟨j',hj',rfl⟩:=hu
  have hjk:j < k:=by have:=(List.getElem?_eq_some_iff.1 hj').1;simpa using this
  rw [List.getElem?_range hjk] at hj'
  obtain rfl:=Option.some.inj hj'
  obtain ⟨u,hu,_⟩:=key j hjk
  rw [hu];rfl
 ·have hjk:j < k:=by have:=(List.getElem?_eq_some_iff.1 hb1).1;simp at this;omega
  rw [List.getElem?_take,if_pos hjk,List.getElem?_drop] at hb1
  obtain ⟨u,hu,hdu⟩:=key j hjk
  exact ⟨u,by simp [hjk,hu],hdu b1 hb1⟩
def lD (tmps:Array Value):ResultVar→Sem Value
 | .tmp t=>pure (tmps.getD t undef)
 | .cell b t=>do loadVar t (←asAddr (tmps.getD b undef))
inductive y6 (P:Program) (S:St):ResultVar→A2→Prop where
 | tmp {t:Nat} {b:A2} (h:S.sl t=some (.s b)):y6 P S (.tmp t) b
 | cell {t:Nat} {T:TypeId} {n:Nm} {k:Nat} {c:Ch} {l:List A1} (h:S.sl t=some (o1 (.ptr n 0))) (hc:S.ch n=some c) (hd:c.d= .flat l) (hk:l.length=k) (hk0:Nat.blt 0 k=true) (hT:xH P T k=true):y6 P S (.cell t T) (.agg l)
 | one {t:Nat} {T:TypeId} {n:Nm} {c:Ch} {b:A1} (h:S.sl t=some (o1 (.ptr n 0))) (hc:S.ch n=some c) (hb:c.d.at_ n 0=some b) (hT:sG P T=true):y6 P S (.cell t T) (.one b)
theorem dV.res (hs:dV w0 ω0 nt S η ω a w) {r:ResultVar} {b:A2} (h:y6 P S r b):∃u,(lD a.tmps r).run P w= .ok u w∧gT η b u:=by
 cases h with
 | tmp h=>
  obtain ⟨u,h1,h2⟩:=hs.slots _ _ h
  exact ⟨u,by simp [lD,h1],h2⟩
 | cell h hc hd hk hk0 hT=>
  obtain ⟨p,h1,h2⟩:=hs.slots _ _ h
  obtain ⟨ad,u,rfl,h4,h5⟩:=hs.Aa (P:=P) h2 hc hd ab (by simpa using hk0) hT
  refine ⟨u,by simp [lD,h1,asAddr,h4], ?_⟩
  rw [List.drop_zero,List.take_of_length_le ab] at h5;exact h5
 | one h hc hb hT=>
  obtain ⟨p,h1,h2⟩:=hs.slots _ _ h
  obtain ⟨hd,e1,e2,e3⟩:=hs.chunk hc
  obtain ⟨bb,o,g1,rfl⟩:=(show dm η (.ptr _ 0) p from h2).2 hd e1
  obtain ⟨b',o',u,f1,f2,f3⟩:=e3.get (fQ.mB hb)
  rw [g1] at f1;injection f1 with f1;injection f1 with f1 f1';subst f1 f1'
  simp only [Nat.add_zero] at f2 h1
  exact ⟨u,by simp [lD,h1,asAddr,loadVar,vN hT,f2],DG f3 hb⟩
theorem mZ (fn:Func) (tmps:Array Value):results fn tmps=(do let vs ←fn.results.mapM (lD tmps);pure (if h:vs.size=1 then vs[0] else .tuple vs)):=by
 unfold results
 congr 1
theorem uE {fn:Func} {tmps:Array Value} (h:fn.results= #[]):(results fn tmps).run P w= .ok (.tuple #[]) w:=by
 rw [mZ,h];simp
theorem vn {fn:Func} {tmps:Array Value} {r:ResultVar} {v:Value} (h:fn.results= #[r]) (h1:(lD tmps r).run P w= .ok v w):(results fn tmps).run P w= .ok v w:=by
 rw [mZ,h];simp [h1]
theorem vD {fn:Func} {tmps:Array Value} {r r':ResultVar} {v v':Value} (h:fn.results= #[r,r']) (h1:(lD tmps r).run P w= .ok v w) (h2:(lD tmps r').run P w= .ok v' w):(results fn tmps).run P w= .ok (.tuple #[v,v']) w:=by
 rw [mZ,h];simp [h1,h2]
theorem dV.left (hs:dV w0 ω0 nt S η ω a w) {outs:List (Nm×Ch)} {res:AV} {back:List (Nat×AV)} {v:Value} (hc:qW S outs) (hb:ql S back) (hv:Den η res v):Left w0 ω0.own ω0.ph outs res back (.returned v) w:=by
 classical
 have key:∀x,(if lk x outs=none then none else η.h x)=none∨((if lk x outs=none then none else η.h x)=η.h x∧∀i,η.r x i=η.r x i):=fun x=>by
  by_cases e:lk x outs=none
  ·exact .inl (if_pos e)
  ·exact .inr ⟨if_neg e,fun _=>rfl⟩
 refine ⟨v, { η with h:=fun x=>if lk x outs=none then none else η.h x },ω,rfl,hv.mono fun y _=>key y,⟨fun x c hx=> ?_,fun x hx=>if_pos hx⟩,hs.fr,fun t av ht=> ?_⟩
 ·obtain ⟨hd,h1,h2⟩:=hs.mem.1 x c (rS hc hx)
  refine ⟨hd,by simp [hx,h1],eD.same (η:=η) (p:=fun _=>True) (Same.refl _ _ _) trivial (fun _=>trivial) (fun _=>rfl) (fun l _ a _ z _=>key z) h2⟩
 ·obtain ⟨u,h1,h2⟩:=hs.phs t av (so hb ht)
  exact ⟨u,h1,h2.mono fun y _=>key y⟩
theorem iE {fn:Func} {e:Exit} {outs:List (Nm×Ch)} {back:List (Nat×AV)} (he:e= .ret∨e= .normal) (hf:fn.results= #[]) (hc:qW S outs) (hb:ql S back):
  Fin w0 ω0 nt S e (bodyPost P fn (Left w0 ω0.own ω0.ph outs (.tup []) back)):=by
 refine ⟨fun a w ⟨η,ω,hs⟩=> ?_⟩
 have:a.defers= []∧∃v,(results fn a.tmps).run P w= .ok v w∧Left w0 ω0.own ω0.ph outs (.tup []) back (.returned v) w:=⟨hs.dfr,_,uE hf,hs.left hc hb ⟨#[],rfl,rfl,fun j b hj=>by simp at hj⟩⟩
 rcases he with rfl | rfl<;>exact this
theorem bQ {fn:Func} {e:Exit} {r:ResultVar} {b:A2} {outs:List (Nm×Ch)} {back:List (Nat×AV)} (he:e= .ret∨e= .normal) (hf:fn.results= #[r]) (hr:y6 P S r b) (hc:qW S outs) (hb:ql S back):
  Fin w0 ω0 nt S e (bodyPost P fn (Left w0 ω0.own ω0.ph outs (.s b) back)):=by
 refine ⟨fun a w ⟨η,ω,hs⟩=> ?_⟩
 obtain ⟨u,h1,h2⟩:=hs.res hr
 have:a.defers= []∧∃v,(results fn a.tmps).run P w= .ok v w∧Left w0 ω0.own ω0.ph outs (.s b) back (.returned v) w:=⟨hs.dfr,u,vn hf h1,hs.left hc hb h2⟩
 rcases he with rfl | rfl<;>exact this
theorem dJ {fn:Func} {e:Exit} {r r':ResultVar} {b b':A2} {outs:List (Nm×Ch)} {back:List (Nat×AV)} (he:e= .ret∨e= .normal) (hf:fn.results= #[r,r']) (hr:y6 P S r b) (hr':y6 P S r' b') (hc:qW S outs) (hb:ql S back):
  Fin w0 ω0 nt S e (bodyPost P fn (Left w0 ω0.own ω0.ph outs (.tup [b,b']) back)):=by
 refine ⟨fun a w ⟨η,ω,hs⟩=> ?_⟩
 obtain ⟨u,h1,h2⟩:=hs.res hr
 obtain ⟨u',h1',h2'⟩:=hs.res hr'
 have hd:Den η (.tup [b,b']) (.tuple #[u,u']):=⟨_,rfl,rfl,fun j c hj=>by
  match j,hj with
  | 0,hj=>simp at hj;subst hj;exact ⟨u,by simp,h2⟩
  | 1,hj=>simp at hj;subst hj;exact ⟨u',by simp,h2'⟩⟩
 have:a.defers= []∧∃v,(results fn a.tmps).run P w= .ok v w∧Left w0 ω0.own ω0.ph outs (.tup [b,b']) back (.returned v) w:=⟨hs.dfr,_,vD hf h1 h1',hs.left hc hb hd⟩
 rcases he with rfl | rfl<;>exact this
end
end Go.Proofs.Ytfpcfckocmmcnaa
namespace Go.Proofs.Ytfpcfckocmmcnaa
open Go.RowKit
def A1.bad (o k:Nm→Bool):A1→Bool
 | .val _ | .any=>false
 | .sl x _ _ | .esl x _ _ _ | .eptr x _ _=>o x
 | .ptr x _=>o x && !k x
 | .clo _ xs=>xs.any fun p=>o p.1 && !k p.1
def A2.bad (o k:Nm→Bool):A2→Bool
 | .one a=>a.bad o k
 | .agg l=>l.any (A1.bad o k)
def AV.bad (o k:Nm→Bool):AV→Bool
 | .s a=>a.bad o k
 | .tup l=>l.any (A2.bad o k)
def fQ.clean (o k:Nm→Bool):fQ→fQ
 | .flat l=> .flat (l.map fun a=>bif a.bad o k then .any else a)
 | d=>d
def Ch.clean (o k:Nm→Bool) (c:Ch):Ch:= { c with d:=c.d.clean o k }
def A1.names:A1→List Nm
 | .sl y _ _ | .ptr y _ | .esl y _ _ _ | .eptr y _ _=> [y]
 | .clo _ xs=>xs.map (·.1)
 | .val _ | .any=> []
def A2.names:A2→List Nm
 | .one a=>a.names
 | .agg l=>l.flatMap A1.names
def AV.names:AV→List Nm
 | .s a=>a.names
 | .tup l=>l.flatMap A2.names
def Ch.names (c:Ch):List Nm:=match c.d with
 | .flat l=>l.flatMap A1.names
 | _=> []
theorem A1.eP {a:A1} {x:Nm} (h:a.has x=true):x∈a.names:=by
 cases a with
 | val v=>cases h
 | any=>cases h
 | sl y _ _=>rw [beq_true (h:Nat.beq x y=true)];simp [A1.names]
 | ptr y _=>rw [beq_true (h:Nat.beq x y=true)];simp [A1.names]
 | esl y _ _ _=>rw [beq_true (h:Nat.beq x y=true)];simp [A1.names]
 | eptr y _ _=>rw [beq_true (h:Nat.beq x y=true)];simp [A1.names]
 | clo f xs=>
  simp only [A1.has,List.any_eq_true] at h
  obtain ⟨p,hp,hb⟩:=h
  exact List.mem_map.2 ⟨p,hp,(beq_true hb).symm⟩
theorem A2.eP {a:A2} {x:Nm} (h:a.has x=true):x∈a.names:=by
 cases a with
 | one a=>exact A1.eP h
 | agg l=>
  simp only [A2.has,List.any_eq_true] at h
  obtain ⟨p,hp,hb⟩:=h
  exact List.mem_flatMap.2 ⟨p,hp,A1.eP hb⟩
theorem AV.eP {a:AV} {x:Nm} (h:a.has x=true):x∈a.names:=by
 cases a with
 | s a=>exact A2.eP h
 | tup l=>
  simp only [AV.has,List.any_eq_true] at h
  obtain ⟨p,hp,hb⟩:=h
  exact List.mem_flatMap.2 ⟨p,hp,A2.eP hb⟩
def AH (η η':Env) (o k:Nm→Bool):Prop:=
 ∀y,η'.h y=none∨(η'.h y=η.h y∧∀i,η'.r y i=η.r y i)∨(o y=true∧(k y=true→∀h',η'.h y=some h'→∃h,η.h y=some h∧h'.ao=h.ao))
theorem xO.ao {h h':Hd} {off:Nat} {u:Value} (e:h'.ao=h.ao) (p:xO h off u):xO h' off u:=by
 obtain ⟨b,o,h1,h2⟩:=p
 exact ⟨b,o,e.trans h1,h2⟩
theorem dm.lP {η η':Env} {o k:Nm→Bool} {a:A1} {u:Value} (ht:AH η η' o k) (hb:a.bad o k=false) (h:dm η a u):dm η' a u:=by
 cases a with
 | val v=>exact h
 | any=>exact h
 | sl x off n=>
  refine ⟨h.1,fun hd he=> ?_⟩
  rcases ht x with e | ⟨e,_⟩ | ⟨e,_⟩
  ·rw [e] at he;cases he
  ·exact h.2 hd (e ▸ he)
  ·exact absurd e (by rw [show o x=false from hb];simp)
 | ptr x off=>
  refine ⟨h.1,fun hd he=> ?_⟩
  rcases ht x with e | ⟨e,_⟩ | ⟨e,e2⟩
  ·rw [e] at he;cases he
  ·exact h.2 hd (e ▸ he)
  ·have hk:k x=true:=by
    have hb:(o x && !k x)=false:=hb
    rw [e] at hb;simpa using hb
   obtain ⟨h0,h1,h2⟩:=e2 hk hd he
   exact xO.ao h2 (h.2 h0 h1)
 | esl x i off n=>
  refine ⟨h.1,fun hd he=> ?_⟩
  rcases ht x with e | ⟨e,er⟩ | ⟨e,_⟩
  ·rw [e] at he;cases he
  ·rw [er i];exact h.2 hd (e ▸ he)
  ·exact absurd e (by rw [show o x=false from hb];simp)
 | eptr x i off=>
  refine ⟨h.1,fun hd he=> ?_⟩
  rcases ht x with e | ⟨e,er⟩ | ⟨e,_⟩
  ·rw [e] at he;cases he
  ·rw [er i];exact h.2 hd (e ▸ he)
  ·exact absurd e (by rw [show o x=false from hb];simp)
 | clo f xs=>
  obtain ⟨us,h1,h2,h3⟩:=h
  refine ⟨us,h1,h2,fun j p hp=> ?_⟩
  obtain ⟨q,hq,hq1,hq2⟩:=h3 j p hp
  refine ⟨q,hq,hq1,fun hd he=> ?_⟩
  rcases ht p.1 with e | ⟨e,_⟩ | ⟨e,e2⟩
  ·rw [e] at he;cases he
  ·exact hq2 hd (e ▸ he)
  ·have hb:(xs.any fun p=>o p.1 && !k p.1)=false:=hb
   have hk:k p.1=true:=by
    have:=List.any_eq_false.1 hb p (List.mem_of_getElem? hp)
    rw [e] at this;simpa using this
   obtain ⟨h0,h1,h2⟩:=e2 hk hd he
   exact xO.ao h2 (hq2 h0 h1)
theorem gT.lP {η η':Env} {o k:Nm→Bool} {a:A2} {u:Value} (ht:AH η η' o k) (hb:a.bad o k=false) (h:gT η a u):gT η' a u:=by
 cases a with
 | one a=>exact dm.lP ht hb h
 | agg l=>
  obtain ⟨us,h1,h2,h3⟩:=h
  refine ⟨us,h1,h2,fun j a ha=> ?_⟩
  obtain ⟨u',h4,h5⟩:=h3 j a ha
  exact ⟨u',h4,h5.lP ht (by have:=List.any_eq_false.1 (show l.any (A1.bad o k)=false from hb) a (List.mem_of_getElem? ha);simpa using this)⟩
theorem Den.lP {η η':Env} {o k:Nm→Bool} {a:AV} {u:Value} (ht:AH η η' o k) (hb:a.bad o k=false) (h:Den η a u):Den η' a u:=by
 cases a with
 | s a=>exact gT.lP ht hb h
 | tup l=>
  obtain ⟨us,h1,h2,h3⟩:=h
  refine ⟨us,h1,h2,fun j a ha=> ?_⟩
  obtain ⟨u',h4,h5⟩:=h3 j a ha
  exact ⟨u',h4,h5.lP ht (by have:=List.any_eq_false.1 (show l.any (A2.bad o k)=false from hb) a (List.mem_of_getElem? ha);simpa using this)⟩
theorem eD.lP {η η':Env} {ω ω':bW} {w w':World} {o k:Nm→Bool} {x:Nm} {h:Hd} {c:Ch} {p:Option (Nm×Option Nat)→Prop} (hs:Same ω w ω' w' p) (hp:p none) (hp':∀i,p (some (x,i))) (hr:∀i,η'.r x i=η.r x i)
  (ht:AH η η' o k) (hc:eD η ω w x h c):eD η' ω' w' x h (c.clean o k):=by
 refine ⟨hc.1, ?_⟩
 have hl:(c.clean o k).d.len=c.d.len:=by unfold Ch.clean fQ.clean;cases c.d<;>simp [fQ.len]
 rw [hl]
 refine hc.2.same hs hp (hp' none) fun j u hu=> ?_
 unfold Ch.clean fQ.clean
 cases hd:c.d with
 | flat l=>
  rw [hd] at hu
  intro a ha
  simp only [List.getElem?_map,Option.map_eq_some_iff] at ha
  obtain ⟨b,hb,rfl⟩:=ha
  cases hbad:b.bad o k with
  | true=>
   refine (hu b hb).one fun v hv=> ?_
   subst hv;cases hbad
  | false=>exact (hu b hb).lP ht hbad
 | cz vs=>rw [hd] at hu;exact hu
 | rows E vss dL=>
  rw [hd] at hu
  refine ⟨hu.1,fun hj vs hvs=> ?_⟩
  obtain ⟨h1,h2,h3⟩:=hu.2 hj vs hvs
  rw [hr j]
  exact ⟨h1,h2,h3.same hs hp (hp' (some j)) fun _ _ h=>h⟩
 | mix cs=>rw [hd] at hu;exact ⟨hu.1,fun c hc=>(hu.2 c hc).move (hr j) fun _ _ _ _ _ h3=>h3.same hs hp (hp' (some j)) fun _ _ h=>h⟩
def gC (ins:List (Nm×Ch)) (x:Nm):Bool:=match lk x ins with | some c=>c.own | none=>false
def jo (l:List (Nm×Ch)) (x:Nm):Bool:=(lk x l).isSome
def iZ (l:List Nm) (x:Nm):Bool:=l.any (Nat.beq x)
def St.after (S:St) (ins outs:List (Nm×Ch)) (kp:List Nm):St:=
 {sl:=fun t=>(S.sl t).bind fun av=>bif av.bad (jo outs) (iZ kp) then none else some av,ph:=fun t=>(S.ph t).bind fun av=>bif av.bad (jo outs) (iZ kp) then none else some av,ch:=fun y=>match lk y outs with
   | some c=>some c
   | none=>bif gC ins y then none else (S.ch y).map (Ch.clean (jo outs) (iZ kp)) }
theorem jh {o:Option AV} {av:AV} {b:AV→Bool} (h:(o.bind fun av=>bif b av then none else some av)=some av):o=some av∧b av=false:=by
 cases o with
 | none=>cases h
 | some a=>
  simp only [Option.bind_some] at h
  cases hb:b a with
  | true=>rw [hb] at h;cases h
  | false=>rw [hb] at h;simp at h;subst h;exact ⟨rfl,hb⟩
def rL (S:St):List (Nm×Ch)→Prop
 | []=>True
 | (x,c) :: r=>(∃c',S.ch x=some c'∧(c'=c∨c= { c' with own:=false }))∧rL S r
theorem qS {S:St} :∀ {l:List (Nm×Ch)} {t:Nat} {c:Ch},rL S l→lk t l=some c→∃c',S.ch t=some c'∧(c'=c∨c= { c' with own:=false })
 | [],_,_,_,h=>by cases h
 | (t',av') :: r,t,av,h,hl=>by
  unfold lk at hl
  cases hb:Nat.beq t t' with
  | true=>rw [hb] at hl;simp at hl;subst hl;rw [beq_true hb];exact h.1
  | false=>rw [hb] at hl;exact qS h.2 hl
def EX (S:St):List Operand→Option (List AV)
 | []=>some []
 | x :: r=>(S.op x).bind fun a=>(EX S r).map fun l=>a :: l
def I0:List A1→List A1→Prop
 | [], []=>True
 | a :: r,b :: l=>(a=b∨(b= .any∧(A2.one a).okB=true))∧I0 r l
 | _,_=>False
def AV.to:AV→AV→Prop
 | .s (.agg l), .s (.agg l')=>I0 l l'
 | a,b=>a=b
def xF:List AV→List AV→Prop
 | [], []=>True
 | a :: r,b :: l=>a.to b∧xF r l
 | _,_=>False
theorem CO:∀ {l l':List A1},I0 l l'→l.length=l'.length∧∀(j:Nat) (b:A1),l'[j]? =some b→∃a,l[j]? =some a∧(a=b∨(b= .any∧(A2.one a).okB=true))
 | [], [],_=>⟨rfl,fun j b h=>by simp at h⟩
 | a :: r,b :: l,h=>by
  obtain ⟨h1,h2⟩:=CO h.2
  refine ⟨by simp [h1],fun j c hj=> ?_⟩
  cases j with
  | zero=>simp at hj;subst hj;exact ⟨a,by simp,h.1⟩
  | succ j=>exact h2 j c (by simpa using hj)
 | [],_ :: _,h=>h.elim
 | _ :: _, [],h=>h.elim
theorem Den.to {η:Env} {a b:AV} {u:Value} (h:a.to b) (hd:Den η a u):Den η b u:=by
 match a,b,h,hd with
 | .s (.agg l), .s (.agg l'),h,hd=>
  obtain ⟨h1,h2⟩:=CO h
  obtain ⟨us,rfl,h3,h4⟩:=hd
  refine ⟨us,rfl,h3.trans h1,fun j c hj=> ?_⟩
  obtain ⟨a,ha,hab⟩:=h2 j c hj
  obtain ⟨u',hu',hda⟩:=h4 j a ha
  refine ⟨u',hu', ?_⟩
  rcases hab with rfl | ⟨rfl,ho⟩
  ·exact hda
  ·exact hda.one fun v hv=>A2.l3 ho v (by rw [hv])
 | .s (.one _),b,h,hd=>have h:_=b:=h;exact h ▸ hd
 | .tup _,b,h,hd=>have h:_=b:=h;exact h ▸ hd
 | .s (.agg l), .s (.one _),h,hd=>have h:AV.s (.agg l)=_:=h;exact h ▸ hd
 | .s (.agg l), .tup _,h,hd=>have h:AV.s (.agg l)=_:=h;exact h ▸ hd
theorem nd.to {η:Env} :∀ {avs avs':List AV} {us:List Value},xF avs avs'→nd η avs us→nd η avs' us
 | [], [],us,_,hd=>hd
 | a :: r,b :: l,us,h,hd=>by
  cases us with
  | nil=>exact absurd hd.1 (by simp)
  | cons u us=>
   have hd':nd η r us:=⟨by simpa using hd.1,fun j av hj=>by
    obtain ⟨u',h1,h2⟩:=hd.2 (j + 1) av (by simpa using hj)
    exact ⟨u',by simpa using h1,h2⟩⟩
   obtain ⟨h1,h2⟩:=nd.to h.2 hd'
   refine ⟨by simpa using h1,fun j av hj=> ?_⟩
   cases j with
   | zero=>
    simp at hj;subst hj
    obtain ⟨u',h3,h4⟩:=hd.2 0 a (by simp)
    simp at h3;subst h3
    exact ⟨u,by simp,h4.to h.1⟩
   | succ j=>
    obtain ⟨u',h3,h4⟩:=h2 j av (by simpa using hj)
    exact ⟨u',by simpa using h3,h4⟩
 | [],_ :: _,_,h,_=>h.elim
 | _ :: _, [],_,h,_=>h.elim
def DR (ins:List (Nm×Ch)) (args:List AV) (back:List (Nat×AV)):List (Nat×Nm)→Prop
 | []=>True
 | (j,x) :: r=>jo ins x=true∧args[j]? =some (o1 (.ptr x 0))∧lk j back=some (o1 (.ptr x 0))∧DR ins args back r
theorem tE {ins:List (Nm×Ch)} {args:List AV} {back:List (Nat×AV)} :∀ {l:List (Nat×Nm)} {x:Nm},DR ins args back l→iZ (l.map (·.2)) x=true→jo ins x=true∧∃j,args[j]? =some (o1 (.ptr x 0))∧lk j back=some (o1 (.ptr x 0))
 | [],_,_,h=>by cases h
 | (j,y) :: r,x,h,hm=>by
  simp only [iZ,List.map_cons,List.any_cons,Bool.or_eq_true] at hm
  rcases hm with hm | hm
  ·rw [beq_true hm];exact ⟨h.1,j,h.2.1,h.2.2.1⟩
  ·exact tE h.2.2.2 hm
def yf (P:Program) (f:FuncId):Bool:=
 match P.funcs[f]? with
 | some fn=>fn.body.isSome && !(fn.name == "runtime.NumGoroutine")
 | none=>false
theorem Bi {P:Program} {f:FuncId} (h:yf P f=true) (args:Array Value) (w:World):(callFunc f args).run P w= .ok (.enter f args) w:=by
 unfold yf at h
 split at h
 ·rename_i fn hf
  simp only [Bool.and_eq_true,Bool.not_eq_true'] at h
  obtain ⟨h1,h2⟩:=h
  cases hb:fn.body with
  | none=>rw [hb] at h1;cases h1
  | some c=>
   have h3:¬fn.name= "runtime.NumGoroutine" :=fun e=>by rw [e] at h2;simp at h2
   simp [callFunc,hf,h3,hb]
 ·cases h
section
variable {P:Program} {nt:Nat} {S S':St} {w0 w:World} {ω0:lI} {ω:bW} {η:Env} {a:Act}
theorem dV.opsL (hs:dV w0 ω0 nt S η ω a w):∀ {xs:List Operand} {avs:List AV},EX S xs=some avs→nd η avs (xs.map a.eval)
 | [],avs,h=>by obtain rfl:=Option.some.inj h;exact ⟨rfl,fun j av h=>by simp at h⟩
 | x :: r,avs,h=>by
  simp only [EX,Option.bind_eq_some_iff,Option.map_eq_some_iff] at h
  obtain ⟨av,hx,l,hl,rfl⟩:=h
  obtain ⟨h1,h2⟩:=hs.opsL hl
  refine ⟨by simpa using h1,fun j b hj=> ?_⟩
  cases j with
  | zero=>simp at hj;subst hj;exact ⟨a.eval x,by simp,hs.kG hx⟩
  | succ j=>exact h2 j b (by simpa using hj)
theorem lQ.view {ω':bW} {own:Bool} {ow:Nm×Option Nat} {h:Hd} {E:TypeId} {len:Nat} {cell cell':Nat→Value→Prop} (hv:lQ own ω w ow h E len cell) (hn:∀b,ω b=none→ω' b=none) (ho:∀b,ω b=some ow→ω' b=none) (hc:∀j u,cell j u→cell' j u):lQ false ω' w ow h E len cell':=by
 refine ⟨hv.cap,fun j hj=> ?_⟩
 cases own with
 | true=>
  rcases hv with ⟨_,_,h0⟩ | ⟨b,o,cs,h1,h2,h3,h4,h5,h6,h7⟩
  ·omega
  ·obtain ⟨u,hu,hcu⟩:=h7 j hj
   exact ⟨b,o,u,h1,ho b h2,ff h3,by rw [cell_of_row w b (o + j) cs E (0,0) h3];exact hu,hc j u hcu⟩
 | false=>
  obtain ⟨b,o,u,h1,h2,h3,h4,h5⟩:=hv.2 j hj
  exact ⟨b,o,u,h1,hn b h2,h3,h4,hc j u h5⟩
theorem eD.view {ω':bW} {x:Nm} {h:Hd} {c:Ch} (hc:eD η ω w x h c) (hn:∀b,ω b=none→ω' b=none) (ho:∀b i,ω b=some (x,i)→ω' b=none) {η':Env} (hr:∀i,η'.r x i=η.r x i) (hm:∀l,c.d= .flat l→∀a∈l,a.mono η η'):eD η' ω' w x h { c with own:=false } :=by
 refine ⟨hc.1,hc.2.view hn (fun b=>ho b none) fun j u hu=> ?_⟩
 show cR η' ω' w false x c.d j u
 cases hd:c.d with
 | flat l=>rw [hd] at hu;exact fun a ha=>(hu a ha).mono (hm l hd a (List.mem_of_getElem? ha))
 | cz vs=>rw [hd] at hu;exact hu
 | rows E vss dL=>
  rw [hd] at hu
  refine ⟨hu.1,fun hj vs hvs=> ?_⟩
  obtain ⟨h1,h2,h3⟩:=hu.2 hj vs hvs
  rw [hr j]
  exact ⟨h1,h2,h3.view hn (fun b=>ho b (some j)) fun _ _ h=>h⟩
 | mix cs=>rw [hd] at hu;exact ⟨hu.1,fun c hc=>(hu.2 c hc).move (hr j) fun _ _ _ _ _ h3=>h3.view hn (fun b=>ho b (some j)) fun _ _ h=>h⟩
theorem eD.own {ω':bW} {x:Nm} {h:Hd} {c:Ch} (hc:eD η ω w x h c) (hs:Same ω w ω' w (fun o=>o=none∨∃i,o=some (x,i))) {η':Env} (hr:∀i,η'.r x i=η.r x i) (hm:∀l,c.d= .flat l→∀a∈l,a.mono η η'):eD η' ω' w x h c:=
 eD.same hs (.inl rfl) (fun i=> .inr ⟨i,rfl⟩) hr hm hc
theorem fj.same {ω':bW} {w':World} {ow:Nm×Option Nat} {h:Hd} {E:TypeId} {len:Nat} {cell cell':Nat→Value→Prop} (hs:∀b,b < w.heap.size→ω b=some ow→w'.heap[b]? =w.heap[b]? ∧ω' b=some ow)
  (hc:∀j u,cell j u→cell' j u) (hv:fj ω w ow h E len cell):fj ω' w' ow h E len cell':=by
 rcases hv with h0 | ⟨b,o,cs,h1,h2,h3,h4,h5,h6,h7⟩
 ·exact .inl h0
 ·have hb:=hs b (ff h3) h2
  refine .inr ⟨b,o,cs,h1,hb.2,hb.1.trans h3,h4,h5,h6,fun j hj=> ?_⟩
  obtain ⟨u,hu,hcu⟩:=h7 j hj
  exact ⟨u,hu,hc j u hcu⟩
theorem eD.Ib {ω':bW} {w':World} {x:Nm} {h:Hd} {c:Ch} {η':Env} (hown:c.own=true) (hs:∀b i,b < w.heap.size→ω b=some (x,i)→w'.heap[b]? =w.heap[b]? ∧ω' b=some (x,i)) (hr:∀i,η'.r x i=η.r x i)
  (hm:∀l,c.d= .flat l→∀a∈l,a.mono η η') (hc:eD η ω w x h c):eD η' ω' w' x h c:=by
 obtain ⟨h1,h2⟩:=hc
 refine ⟨h1, ?_⟩
 rw [hown] at h2 ⊢
 refine fj.same (fun b=>hs b none) (fun j u hu=> ?_) h2
 cases hd:c.d with
 | flat l=>rw [hd] at hu;exact fun a ha=>(hu a ha).mono (hm l hd a (List.mem_of_getElem? ha))
 | cz vs=>rw [hd] at hu;exact hu
 | rows E vss dL=>
  rw [hd] at hu
  refine ⟨hu.1,fun hj vs hvs=> ?_⟩
  obtain ⟨h1,h2,h3⟩:=hu.2 hj vs hvs
  rw [hr j]
  exact ⟨h1,h2,fj.same (fun b=>hs b (some j)) (fun _ _ h=>h) h3⟩
 | mix cs=>rw [hd] at hu;exact ⟨hu.1,fun c hc=>pB.move (own:=true) (own':=true) (hr j) (fun _ _ _ _ _ h3=>fj.same (fun b=>hs b (some j)) (fun _ _ h=>h) h3) (hu.2 c hc)⟩
theorem k8 {α:Type} :∀ {l:List (Nat×α)} {t:Nat} {a:α},lk t l=some a→(t,a)∈l
 | [],_,_,h=>by cases h
 | (t',a') :: r,t,a,h=>by
  unfold lk at h
  cases hb:Nat.beq t t' with
  | true=>rw [hb] at h;simp at h;subst h;rw [beq_true hb];exact List.mem_cons_self
  | false=>rw [hb] at h;exact List.mem_cons_of_mem _ (k8 h)
theorem Ch.tn {c:Ch} {l:List A1} {a:A1} {x:Nm} (hd:c.d= .flat l) (ha:a∈l) (hx:a.has x=true):x∈c.names:=by
 unfold Ch.names;rw [hd];exact List.mem_flatMap.2 ⟨a,ha,A1.eP hx⟩
theorem cX {f:FuncId} {xs:Array Operand} {ts:Array TypeId} {dst:Option Nat} {ty:TypeId} {ps:String} {af:Array Edge} {gd:Option (Nat×Bool)} {ins outs:List (Nm×Ch)} {args args':List AV} {res:AV} {back:List (Nat×AV)} (kp:List (Nat×Nm))
  (hfc:FC P f ins args outs res back) (hf:yf P f=true) (ht:(dst.map fun t=>Nat.blt t nt) != some false) (hx':EX S xs.toList=some args') (hto:xF args' args) (hin:rL S ins) (hkp:DR ins args back kp)
  (hnr:(res.names.all (jo outs))=true) (hno:(outs.all fun p=>p.2.own && p.2.names.all (jo outs))=true):
  dx P nt ⟨dst, .call { callee:= .value (.func f),args:=xs,argTypes:=ts },ty,ps,af,gd⟩ S ((S.after ins outs (kp.map (·.2))).G7 dst res):=by
 classical
 refine ⟨fun w0 ω0 a w Q ⟨η,ω,hs⟩=> ?_⟩
 have hopsL:nd η args (xs.toList.map a.eval):=(hs.opsL hx').to hto
 let η1:Env:= { η with h:=fun x=>if lk x ins=none then none else η.h x }
 let ω1:bW:=fun b=>match ω b with
  | some (x,i)=>if gC ins x=true then some (x,i) else none
  | none=>none
 have hω1n:∀b,ω b=none→ω1 b=none:=fun b h=>by simp only [ω1,h]
 have hω1s:∀b x i,ω b=some (x,i)→gC ins x=true→ω1 b=some (x,i):=fun b x i h h'=>by simp only [ω1,h,if_pos h']
 have hω1f:∀b x i,ω b=some (x,i)→gC ins x=false→ω1 b=none:=fun b x i h h'=>by simp [ω1,h,h']
 have hη1:∀x,η1.h x=none∨(η1.h x=η.h x∧∀i,η1.r x i=η.r x i):=fun x=>by
  by_cases e:lk x ins=none
  ·exact .inl (if_pos e)
  ·exact .inr ⟨if_neg e,fun _=>rfl⟩
 have hmem:Mem η1 ω1 w fun x=>lk x ins:=by
  refine ⟨fun x c hx=> ?_,fun x hx=>if_pos hx⟩
  have hx:lk x ins=some c:=hx
  obtain ⟨c',hc',hcc⟩:=qS hin hx
  obtain ⟨hd,h1,h2⟩:=hs.mem.1 x c' hc'
  refine ⟨hd,by simp only [η1];rw [if_neg (by rw [hx];simp)];exact h1, ?_⟩
  by_cases hown:c.own=true
  ·have hcc':c'=c:=by
    rcases hcc with h | h
    ·exact h
    ·rw [h] at hown;cases hown
   subst hcc'
   refine h2.own ⟨Nat.le_refl _,fun b hb hp=>⟨rfl, ?_⟩⟩ (fun _=>rfl) fun l _ a _ z _=>hη1 z
   rcases hp with hp | ⟨i,hp⟩
   ·rw [hp];exact hω1n b hp
   ·rw [hp];exact hω1s b x i hp (by unfold gC;rw [hx];exact hown)
  ·have hcons:gC ins x=false:=by unfold gC;rw [hx];simpa using hown
   have hc0:c= { c' with own:=false } :=by
    rcases hcc with h | h
    ·rw [h];have:c.own=false:=by simpa using hown
     rw [←this]
    ·exact h
   rw [hc0]
   exact h2.view hω1n (fun b i hb=>hω1f b x i hb hcons) (fun _=>rfl) fun l _ a _ z _=>hη1 z
 have hargs:nd η1 args (xs.toList.map a.eval):=by
  obtain ⟨h1,h2⟩:=hopsL
  refine ⟨h1,fun j av hj=> ?_⟩
  obtain ⟨u,h3,h4⟩:=h2 j av hj
  exact ⟨u,h3,h4.mono fun y _=>hη1 y⟩
 have hcall:=hfc w η1 ω1 _ hmem hargs
 have hrun:(execOp a.eval ⟨dst, .call { callee:= .value (.func f),args:=xs,argTypes:=ts },ty,ps,af,gd⟩).run P w= .ok (.enter f (xs.toList.map a.eval).toArray) w:=by
  have:(xs.toList.map a.eval).toArray=xs.map a.eval:=by apply Array.ext';simp
  rw [this]
  simp [execOp,resolve,Act.eval,Deferred.ofValue,invoke,Bi hf]
 unfold Oper.wp
 rw [hrun,Oper.upon_enter]
 refine hcall.mono fun e w' hl=> ?_
 obtain ⟨v,η2,ω2,rfl,hdv,hm2,hfr,hbk⟩:=hl
 have hdst:∀t,dst=some t→t < nt:=fun t ht'=>by subst ht';simpa using ht
 let ω3:bW:=fun b=>if b < w.heap.size∧ω1 b=none then ω b else ω2 b
 let η3:Env:= { h:=fun y=>if jo outs y=true then η2.h y else if gC ins y=true then none else η.h y,r:=fun y i=>if jo outs y=true then η2.r y i else η.r y i }
 have hturn:AH η η3 (jo outs) (iZ (kp.map (·.2))):=fun y=>by
  by_cases ho:jo outs y=true
  ·refine .inr (.inr ⟨ho,fun hk h' he=> ?_⟩)
   obtain ⟨hin',j,hj,hj'⟩:=tE hkp hk
   obtain ⟨u,hu,hdu⟩:=hbk j _ hj'
   obtain ⟨u',hu',hdu'⟩:=hopsL.2 j _ hj
   rw [hu] at hu';obtain rfl:=Option.some.inj hu'
   have he2:η2.h y=some h':=by simp only [η3,if_pos ho] at he;exact he
   obtain ⟨b,o,g1,g2⟩:=(show dm η2 (.ptr y 0) u from hdu).2 h' he2
   obtain ⟨u'',hu'',hdu''⟩:=hargs.2 j _ hj
   have hlk:∃h,η.h y=some h:=by
    obtain ⟨c,hc⟩:=Option.isSome_iff_exists.1 hin'
    obtain ⟨c',hc',_⟩:=qS hin hc
    obtain ⟨h,hh,_⟩:=hs.mem.1 y c' hc'
    exact ⟨h,hh⟩
   obtain ⟨h,hh⟩:=hlk
   obtain ⟨b',o',g1',g2'⟩:=(show dm η (.ptr y 0) u from hdu').2 h hh
   rw [g2] at g2'
   injection g2' with g2';injection g2' with g2';injection g2' with g2' g3'
   refine ⟨h,hh, ?_⟩
   rw [g1,g1']
   subst g2'
   simp at g3'
   rw [g3']
  ·by_cases hc:gC ins y=true
   ·exact .inl (by simp only [η3,if_neg ho,if_pos hc])
   ·exact .inr (.inl ⟨by simp only [η3,if_neg ho,if_neg hc],fun i=>by simp only [η3,if_neg ho]⟩)
 have hω3:∀b,b < w.heap.size→ω1 b=none→ω3 b=ω b:=fun b h1 h2=>by simp only [ω3,if_pos (And.intro h1 h2)]
 have hb3:∀b,b < w.heap.size→ω1 b=none→w'.heap[b]? =w.heap[b]? :=fun b h1 h2=>(hfr.block b h1 h2).1
 have hω32:∀b o,ω2 b=some o→ω3 b=some o:=fun b o h=>by
  by_cases e:b < w.heap.size∧ω1 b=none
  ·have:=(hfr.block b e.1 e.2).2
   rw [this] at h;cases h
  ·simp only [ω3,if_neg e,h]
 have hsame:Same ω w ω3 w' (fun o=>o=none∨∃y i,o=some (y,i)∧gC ins y=false):=by
  refine ⟨hfr.size,fun b hb hp=> ?_⟩
  have h1:ω1 b=none:=by
   rcases hp with h | ⟨y,i,h,hc⟩
   ·exact hω1n b h
   ·exact hω1f b y i h hc
  exact ⟨hb3 b hb h1,hω3 b hb h1⟩
 have hst:dV w0 ω0 nt (S.after ins outs (kp.map (·.2))) η3 ω3 a w':=by
  refine { dfr:=hs.dfr,tsz:=hs.tsz,slots:=fun t av ht'=> ?_,phs:=fun t av ht'=> ?_,mem:=⟨fun y c hy=> ?_,fun y hy=> ?_⟩,fr:= ?_ }
  ·obtain ⟨h1,h2⟩:=jh ht'
   obtain ⟨u,h3,h4⟩:=hs.slots t av h1
   exact ⟨u,h3,h4.lP hturn h2⟩
  ·obtain ⟨h1,h2⟩:=jh ht'
   obtain ⟨u,h3,h4⟩:=hs.phs t av h1
   exact ⟨u,h3,h4.lP hturn h2⟩
  ·have hy:(match lk y outs with
    | some c=>some c
    | none=>bif gC ins y then none else (S.ch y).map (Ch.clean (jo outs) (iZ (kp.map (·.2)))))=some c:=hy
   cases hl:lk y outs with
   | some c1=>
    rw [hl] at hy
    obtain rfl:=Option.some.inj hy
    have ho:jo outs y=true:=by unfold jo;rw [hl];rfl
    obtain ⟨hd,h1,h2⟩:=hm2.1 y c1 hl
    refine ⟨hd,by simp only [η3,if_pos ho];exact h1, ?_⟩
    have hall:=List.all_eq_true.1 hno _ (k8 hl)
    simp only [Bool.and_eq_true] at hall
    refine eD.Ib (η:=η2) (ω:=ω2) (w:=w') hall.1 (fun b i _ hb=>⟨rfl,hω32 b _ hb⟩) (fun i=>by simp only [η3,if_pos ho]) (fun l hlf b1 hb1 z hz=> ?_) h2
    have hz':jo outs z=true:=List.all_eq_true.1 hall.2 z (Ch.tn hlf hb1 hz)
    exact .inr ⟨by simp only [η3,if_pos hz'],fun i=>by simp only [η3,if_pos hz']⟩
   | none=>
    rw [hl] at hy
    have ho:jo outs y=false:=by unfold jo;rw [hl];rfl
    cases hc:gC ins y with
    | true=>rw [hc] at hy;cases hy
    | false=>
     rw [hc] at hy
     simp only [cond_false,Option.map_eq_some_iff] at hy
     obtain ⟨c0,hc0,rfl⟩:=hy
     obtain ⟨hd,h1,h2⟩:=hs.mem.1 y c0 hc0
     refine ⟨hd,by simp only [η3,ho,hc];exact h1, ?_⟩
     exact h2.lP hsame (.inl rfl) (fun i=> .inr ⟨y,i,rfl,hc⟩) (fun i=>by simp only [η3,ho];rfl) hturn
  ·have hy:(match lk y outs with
    | some c=>some c
    | none=>bif gC ins y then none else (S.ch y).map (Ch.clean (jo outs) (iZ (kp.map (·.2)))))=none:=hy
   cases hl:lk y outs with
   | some c1=>rw [hl] at hy;cases hy
   | none=>
    rw [hl] at hy
    have ho:jo outs y=false:=by unfold jo;rw [hl];rfl
    cases hc:gC ins y with
    | true=>simp only [η3,ho,hc];rfl
    | false=>
     rw [hc] at hy
     simp only [cond_false,Option.map_eq_none_iff] at hy
     simp only [η3,ho,hc]
     exact hs.mem.2 y hy
  ·refine ⟨hfr.os.trans hs.fr.os,hfr.tape.trans hs.fr.tape,hfr.output.trans hs.fr.output,Nat.le_trans hs.fr.size hfr.size,fun b hb hn=> ?_⟩
   obtain ⟨h1,h2⟩:=hs.fr.block b hb hn
   have hlt:=Nat.lt_of_lt_of_le hb hs.fr.size
   exact ⟨(hb3 b hlt (hω1n b h2)).trans h1,(hω3 b hlt (hω1n b h2)).trans h2⟩
 cases dst with
 | none=>exact ⟨η3,ω3,hst⟩
 | some t=>exact ⟨η3,ω3,hst.iP (hdst t rfl) (hdv.mono fun y hy=>by
   have hz':jo outs y=true:=List.all_eq_true.1 hnr y (AV.eP hy)
   exact .inr ⟨by simp only [η3,if_pos hz'],fun i=>by simp only [η3,if_pos hz']⟩)⟩
end
end Go.Proofs.Ytfpcfckocmmcnaa
namespace Go.Proofs.Ytfpcfckocmmcnaa
open Go.RowKit
def A1.ly (σ:Nm→Nm):A1→A1
 | .val v=> .val v
 | .any=> .any
 | .sl x o n=> .sl (σ x) o n
 | .ptr x o=> .ptr (σ x) o
 | .esl x i o n=> .esl (σ x) i o n
 | .eptr x i o=> .eptr (σ x) i o
 | .clo f xs=> .clo f (xs.map fun p=>(σ p.1,p.2))
def A2.ly (σ:Nm→Nm):A2→A2
 | .one a=> .one (a.ly σ)
 | .agg l=> .agg (l.map (A1.ly σ))
def AV.ly (σ:Nm→Nm):AV→AV
 | .s a=> .s (a.ly σ)
 | .tup l=> .tup (l.map (A2.ly σ))
def fQ.ly (σ:Nm→Nm):fQ→fQ
 | .flat l=> .flat (l.map (A1.ly σ))
 | .cz vs=> .cz vs
 | .rows E vss dL=> .rows E vss dL
 | .mix cs=> .mix cs
def Ch.ly (σ:Nm→Nm) (c:Ch):Ch:=⟨c.own,c.E,c.k,c.d.ly σ⟩
def rV (σ:Nm→Nm) (l:List (Nm×Ch)):List (Nm×Ch):=l.map fun p=>(σ p.1,p.2.ly σ)
def Fe (σ:Nm→Nm) (l:List (Nat×AV)):List (Nat×AV):=l.map fun p=>(p.1,p.2.ly σ)
def Env.pull (η:Env) (σ:Nm→Nm):Env:= { h:=fun x=>η.h (σ x),r:=fun x=>η.r (σ x) }
theorem lU {η:Env} {σ:Nm→Nm} {a:A1} {u:Value} :dm η (a.ly σ) u↔dm (η.pull σ) a u:=by
 cases a with
 | clo f xs=>
  constructor
  ·rintro ⟨us,h1,h2,h3⟩
   refine ⟨us,h1,by simpa using h2,fun j p hp=> ?_⟩
   exact h3 j (σ p.1,p.2) (by simp [hp])
  ·rintro ⟨us,h1,h2,h3⟩
   refine ⟨us,h1,by simpa using h2,fun j p hp=> ?_⟩
   simp only [List.getElem?_map,Option.map_eq_some_iff] at hp
   obtain ⟨q,hq,rfl⟩:=hp
   exact h3 j q hq
 | _=>exact Iff.rfl
theorem qC {η:Env} {σ:Nm→Nm} {a:A2} {u:Value} :gT η (a.ly σ) u↔gT (η.pull σ) a u:=by
 cases a with
 | one a=>exact lU
 | agg l=>
  constructor
  ·rintro ⟨us,h1,h2,h3⟩
   refine ⟨us,h1,by simpa using h2,fun j a ha=> ?_⟩
   obtain ⟨u',h4,h5⟩:=h3 j (a.ly σ) (by simp [ha])
   exact ⟨u',h4,lU.1 h5⟩
  ·rintro ⟨us,h1,h2,h3⟩
   refine ⟨us,h1,by simpa using h2,fun j a ha=> ?_⟩
   simp only [List.getElem?_map,Option.map_eq_some_iff] at ha
   obtain ⟨q,hq,rfl⟩:=ha
   obtain ⟨u',h4,h5⟩:=h3 j q hq
   exact ⟨u',h4,lU.2 h5⟩
theorem vu {η:Env} {σ:Nm→Nm} {a:AV} {u:Value} :Den η (a.ly σ) u↔Den (η.pull σ) a u:=by
 cases a with
 | s a=>exact qC
 | tup l=>
  constructor
  ·rintro ⟨us,h1,h2,h3⟩
   refine ⟨us,h1,by simpa using h2,fun j a ha=> ?_⟩
   obtain ⟨u',h4,h5⟩:=h3 j (a.ly σ) (by simp [ha])
   exact ⟨u',h4,qC.1 h5⟩
  ·rintro ⟨us,h1,h2,h3⟩
   refine ⟨us,h1,by simpa using h2,fun j a ha=> ?_⟩
   simp only [List.getElem?_map,Option.map_eq_some_iff] at ha
   obtain ⟨q,hq,rfl⟩:=ha
   obtain ⟨u',h4,h5⟩:=h3 j q hq
   exact ⟨u',h4,qC.2 h5⟩
section
variable {η:Env} {ω ω':bW} {w:World} {σ:Nm→Nm}
theorem lQ.ow {own:Bool} {ow ow':Nm×Option Nat} {h:Hd} {E:TypeId} {len:Nat} {cell cell':Nat→Value→Prop} (hn:∀b,ω b=none→ω' b=none) (ho:∀b,ω b=some ow→ω' b=some ow') (hc:∀j u,cell j u→cell' j u) (hv:lQ own ω w ow h E len cell):lQ own ω' w ow' h E len cell':=by
 cases own with
 | true=>
  rcases hv with h0 | ⟨b,o,cs,h1,h2,h3,h4,h5,h6,h7⟩
  ·exact .inl h0
  ·refine .inr ⟨b,o,cs,h1,ho b h2,h3,h4,h5,h6,fun j hj=> ?_⟩
   obtain ⟨u,hu,hcu⟩:=h7 j hj
   exact ⟨u,hu,hc j u hcu⟩
 | false=>
  refine ⟨hv.1,fun j hj=> ?_⟩
  obtain ⟨b,o,u,h1,h2,h3,h4,h5⟩:=hv.2 j hj
  exact ⟨b,o,u,h1,hn b h2,h3,h4,hc j u h5⟩
theorem pC (d:fQ):(d.ly σ).len=d.len:=by cases d<;>simp [fQ.ly,fQ.len]
theorem eD.pull {x:Nm} {h:Hd} {c:Ch} (hn:∀b,ω b=none→ω' b=none) (ho:∀b i,ω b=some (σ x,i)→ω' b=some (x,i)) (hc:eD η ω w (σ x) h (c.ly σ)):eD (η.pull σ) ω' w x h c:=by
 refine ⟨hc.1, ?_⟩
 have h2:lQ c.own ω w (σ x,none) h c.E (c.d.ly σ).len (cR η ω w c.own (σ x) (c.d.ly σ)):=hc.2
 rw [pC] at h2
 refine h2.ow hn (fun b=>ho b none) fun j u hu=> ?_
 cases hd:c.d with
 | flat l=>rw [hd] at hu;exact fun a ha=>lU.1 (hu (a.ly σ) (by simp [ha]))
 | cz vs=>rw [hd] at hu;exact hu
 | rows E vss dL=>
  rw [hd] at hu
  refine ⟨hu.1,fun hj vs hvs=> ?_⟩
  obtain ⟨h1,h2,h3⟩:=hu.2 hj vs hvs
  exact ⟨h1,h2,h3.ow hn (fun b=>ho b (some j)) fun _ _ h=>h⟩
 | mix cs=>rw [hd] at hu;exact ⟨hu.1,fun c hc=>pB.move (η:=η) (η':=η.pull σ) (x:=σ x) (x':=x) rfl (fun _ _ _ _ _ h3=>h3.ow hn (fun b=>ho b (some j)) fun _ _ h=>h) (hu.2 c hc)⟩
theorem eD.push {x:Nm} {h:Hd} {c:Ch} (hn:∀b,ω b=none→ω' b=none) (ho:∀b i,ω b=some (x,i)→ω' b=some (σ x,i)) (hc:eD (η.pull σ) ω w x h c):eD η ω' w (σ x) h (c.ly σ):=by
 refine ⟨hc.1, ?_⟩
 show lQ c.own ω' w (σ x,none) h c.E (c.d.ly σ).len (cR η ω' w c.own (σ x) (c.d.ly σ))
 rw [pC]
 refine hc.2.ow hn (fun b=>ho b none) fun j u hu=> ?_
 cases hd:c.d with
 | flat l=>
  rw [hd] at hu
  intro a ha
  simp only [List.getElem?_map,Option.map_eq_some_iff] at ha
  obtain ⟨q,hq,rfl⟩:=ha
  exact lU.2 (hu q hq)
 | cz vs=>rw [hd] at hu;exact hu
 | rows E vss dL=>
  rw [hd] at hu
  refine ⟨hu.1,fun hj vs hvs=> ?_⟩
  obtain ⟨h1,h2,h3⟩:=hu.2 hj vs hvs
  exact ⟨h1,h2,h3.ow hn (fun b=>ho b (some j)) fun _ _ h=>h⟩
 | mix cs=>rw [hd] at hu;exact ⟨hu.1,fun c hc=>pB.move (η:=η.pull σ) (η':=η) (x:=x) (x':=σ x) rfl (fun _ _ _ _ _ h3=>h3.ow hn (fun b=>ho b (some j)) fun _ _ h=>h) (hu.2 c hc)⟩
theorem nZ (hi:∀x y,σ x=σ y→x=y):∀(l:List (Nm×Ch)) (x:Nm),lk (σ x) (rV σ l)=(lk x l).map (Ch.ly σ)
 | [],_=>rfl
 | (y,c) :: r,x=>by
  simp only [rV,List.map_cons,lk]
  by_cases e:x=y
  ·subst e;simp
  ·rw [dC e,dC fun h=>e (hi _ _ h)];exact nZ hi r x
theorem xp {l:List (Nm×Ch)} {y:Nm} {c:Ch} (h:lk y (rV σ l)=some c):∃x,σ x=y:=by
 obtain ⟨p,_,hp⟩:=List.mem_map.1 (k8 h)
 simp only [Prod.mk.injEq] at hp
 exact ⟨p.1,hp.1⟩
theorem zN:∀(l:List (Nat×AV)) (t:Nat),lk t (Fe σ l)=(lk t l).map (AV.ly σ)
 | [],_=>rfl
 | (y,c) :: r,t=>by
  simp only [Fe,List.map_cons,lk]
  cases Nat.beq t y with
  | true=>rfl
  | false=>exact zN r t
open Classical in
theorem FC.ly {P:Program} {f:FuncId} {ins outs:List (Nm×Ch)} {args:List AV} {res:AV} {back:List (Nat×AV)} (hi:∀x y,σ x=σ y→x=y) (h:FC P f ins args outs res back):FC P f (rV σ ins) (args.map (AV.ly σ)) (rV σ outs) (res.ly σ) (Fe σ back):=by
 intro w η ω us hm hd
 let inv:Nm→Option Nm:=fun y=>if h:∃x,σ x=y then some (Classical.choose h) else none
 have hinv:∀x,inv (σ x)=some x:=fun x=>by
  have hx:∃z,σ z=σ x:=⟨x,rfl⟩
  simp only [inv,dif_pos hx]
  exact congrArg some (hi _ _ (Classical.choose_spec hx))
 let ω1:bW:=fun b=>(ω b).bind fun o=>(inv o.1).map fun x=>(x,o.2)
 have m1:Mem (η.pull σ) ω1 w fun x=>lk x ins:=by
  refine ⟨fun x c hx=> ?_,fun x hx=> ?_⟩
  ·have hx:lk x ins=some c:=hx
   obtain ⟨hq,h1,h2⟩:=hm.1 (σ x) (c.ly σ) (by show lk (σ x) (rV σ ins)=_;rw [nZ hi,hx];rfl)
   exact ⟨hq,h1,eD.pull (ω:=ω) (fun b hb=>by simp only [ω1,hb];rfl) (fun b i hb=>by simp only [ω1,hb,Option.bind_some,hinv,Option.map_some]) h2⟩
  ·have hx:lk x ins=none:=hx
   exact hm.2 (σ x) (by show lk (σ x) (rV σ ins)=none;rw [nZ hi,hx];rfl)
 have d1:nd (η.pull σ) args us:=by
  refine ⟨by have:=hd.1;simpa using this,fun j av hj=> ?_⟩
  obtain ⟨u,h1,h2⟩:=hd.2 j (av.ly σ) (by simp [hj])
  exact ⟨u,h1,vu.1 h2⟩
 refine (h w _ ω1 us m1 d1).mono fun e w' hl=> ?_
 obtain ⟨v,η2,ω2,he,hv,hm2,hfr,hb⟩:=hl
 let η3:Env:= { h:=fun y=>(inv y).bind η2.h,r:=fun y=>match inv y with | some x=>η2.r x | none=>fun _=>⟨none,0,1⟩ }
 have hp:η3.pull σ=η2:=by
  have h1:(η3.pull σ).h=η2.h:=by funext x;simp only [Env.pull,η3,hinv,Option.bind_some]
  have h2:(η3.pull σ).r=η2.r:=by funext x;simp only [Env.pull,η3,hinv]
  cases hq:η3.pull σ;rw [hq] at h1 h2;cases η2;simp only at h1 h2;rw [h1,h2]
 refine ⟨v,η3,fun b=>(ω2 b).map fun o=>(σ o.1,o.2),he,vu.2 (hp ▸ hv),⟨fun y c hy=> ?_,fun y hy=> ?_⟩,⟨hfr.os,hfr.tape,hfr.output,hfr.size,fun b hb1 hb2=> ?_⟩,fun t av ht=> ?_⟩
 ·have hy:lk y (rV σ outs)=some c:=hy
  obtain ⟨x,rfl⟩:=xp hy
  rw [nZ hi,Option.map_eq_some_iff] at hy
  obtain ⟨c0,hc0,rfl⟩:=hy
  obtain ⟨hq,h1,h2⟩:=hm2.1 x c0 hc0
  refine ⟨hq,by simp only [η3,hinv,Option.bind_some];exact h1, ?_⟩
  refine eD.push (ω:=ω2) (fun b hb=>by simp [hb]) (fun b i hb=>by simp [hb]) ?_
  rw [hp];exact h2
 ·have hy:lk y (rV σ outs)=none:=hy
  cases hiv:inv y with
  | none=>simp only [η3,hiv,Option.bind_none]
  | some x=>
   have hxy:σ x=y:=by
    simp only [inv] at hiv
    split at hiv
    ·rename_i hx;have:=Option.some.inj hiv;rw [←this];exact Classical.choose_spec hx
    ·cases hiv
   subst hxy
   rw [nZ hi,Option.map_eq_none_iff] at hy
   simp only [η3,hiv,Option.bind_some]
   exact hm2.2 x hy
 ·have h1:ω1 b=none:=by simp only [ω1,hb2];rfl
  obtain ⟨h2,h3⟩:=hfr.block b hb1 h1
  exact ⟨h2,by simp [h3]⟩
 ·rw [zN,Option.map_eq_some_iff] at ht
  obtain ⟨a0,ha0,rfl⟩:=ht
  obtain ⟨u,h1,h2⟩:=hb t a0 ha0
  exact ⟨u,h1,vu.2 (hp ▸ h2)⟩
end
def nm (l:List (Nm×Nm)) (x:Nm):Nm:=match lk x l with
 | some y=>y
 | none=>x + 1000000
def GR:List (Nm×Nm)→Bool
 | []=>true
 | (_,y) :: r=>Nat.blt y 1000000 && !(r.any fun p=>Nat.beq y p.2) && GR r
theorem yV:∀ {l:List (Nm×Nm)},GR l=true→∀p∈l,p.2 < 1000000
 | [],_,p,h=>by cases h
 | q :: r,hb,p,h=>by
  obtain ⟨x,y⟩:=q
  simp only [GR,Bool.and_eq_true] at hb
  rcases List.mem_cons.1 h with rfl | h
  ·simpa using hb.1.1
  ·exact yV hb.2 p h
theorem zT:∀ {l:List (Nm×Nm)},GR l=true→∀x x' y,lk x l=some y→lk x' l=some y→x=x'
 | [],_,_,_,_,h,_=>by cases h
 | q :: r,hb,x,x',y,h,h'=>by
  obtain ⟨z,v⟩:=q
  simp only [GR,Bool.and_eq_true,Bool.not_eq_true'] at hb
  have hno:∀x y,lk x r=some y→y≠v:=fun x y hx e=>by
   have:=List.any_eq_false.1 hb.1.2 _ (k8 hx)
   rw [e] at this;simp at this
  unfold lk at h h'
  by_cases e:x=z
  ·subst e
   simp at h;subst h
   by_cases e':x'=x
   ·exact e'.symm
   ·rw [dC e'] at h';exact absurd rfl (hno x' _ h')
  ·rw [dC e] at h
   by_cases e':x'=z
   ·subst e';simp at h';subst h';exact absurd rfl (hno x _ h)
   ·rw [dC e'] at h';exact zT hb.2 x x' y h h'
theorem G0 {l:List (Nm×Nm)} (hb:GR l=true):∀x y,nm l x=nm l y→x=y:=by
 intro x y h
 unfold nm at h
 cases hx:lk x l with
 | none=>
  cases hy:lk y l with
  | none=>rw [hx,hy] at h;simpa using h
  | some v=>
   rw [hx,hy] at h
   have h1:Nat.add x 1000000=v:=h
   have h2:Nat.lt v 1000000:=yV hb _ (k8 hy)
   rw [←h1] at h2
   exact absurd h2 (Nat.not_lt.2 (Nat.le_add_left _ _))
 | some u=>
  cases hy:lk y l with
  | none=>
   rw [hx,hy] at h
   have h1:u=Nat.add y 1000000:=h
   have h2:Nat.lt u 1000000:=yV hb _ (k8 hx)
   rw [h1] at h2
   exact absurd h2 (Nat.not_lt.2 (Nat.le_add_left _ _))
  | some v=>rw [hx,hy] at h;simp at h;subst h;exact zT hb x y _ hx hy
theorem FC.nm {P:Program} {f:FuncId} {ins outs:List (Nm×Ch)} {args:List AV} {res:AV} {back:List (Nat×AV)} (h:FC P f ins args outs res back) (l:List (Nm×Nm)) (hb:GR l=true):
  FC P f (rV (nm l) ins) (args.map (AV.ly (nm l))) (rV (nm l) outs) (res.ly (nm l)) (Fe (nm l) back):=FC.ly (G0 hb) h
end Go.Proofs.Ytfpcfckocmmcnaa
namespace Go.Proofs.Ytfpcfckocmmcnaa
open Go.RowKit
abbrev I6 (z:Int):Value:= .int .i64 z
def aV (zs:List Int):List Value:=zs.map I6
def bU (zss:List (List Int)):List (List Value):=zss.map aV
theorem bD (zs:List Int):(aV zs).length=zs.length:=by simp [aV]
theorem cB (zss:List (List Int)):(bU zss).length=zss.length:=by simp [bU]
theorem ck {zs:List Int} {j:Nat} (h:j < zs.length):(aV zs)[j]? =some (I6 (aD zs j)):=by simp [aV,cA h,h]
theorem bV {zss:List (List Int)} {j:Nat} (h:j < zss.length):(bU zss)[j]? =some (aV (aT zss j)):=by simp [bU,eF h,h]
theorem tP (zs:List Int) (j:Nat) (z:Int):(aV zs).set j (I6 z)=aV (zs.set j z):=by simp [aV,List.map_set]
theorem tj (zss:List (List Int)) (j:Nat) (zs:List Int):(bU zss).set j (aV zs)=bU (zss.set j zs):=by simp [bU,List.map_set]
theorem Bp (zs:List Int) (z:Int):aV zs ++ [I6 z]=aV (zs ++ [z]):=by simp [aV]
theorem BS (zss:List (List Int)) (zs:List Int):bU zss ++ [aV zs]=bU (zss ++ [zs]):=by simp [bU]
section
variable {P:Program} {nt:Nat} {S S':St} {w0 w:World} {ω0:lI} {ω:bW} {η:Env} {a:Act}
variable {t:Nat} {ty:TypeId} {ps:String} {af:Array Edge} {gd:Option (Nat×Bool)} {x y:Operand} {av:AV}
theorem bz {T:TypeId} {n:Nm} {k:Nat} {c:Ch} {l:List A1} (ht:Nat.blt t nt=true) (hx:S.op x=some (o1 (.ptr n 0))) (hc:S.ch n=some c) (hd:c.d= .flat l) (hk:l.length=k) (hk0:Nat.blt 0 k=true) (hT:xH P T k=true):
  dx P nt ⟨some t, .load T x,ty,ps,af,gd⟩ S (S.put t (.s (.agg l))):=
 dx.pure rfl ht fun _ _ η _ a w hs=>by
  obtain ⟨ad,u,h1,h2,h3⟩:=hs.Aa (P:=P) (hs.kG hx) hc hd ab (by simpa using hk0) hT
  rw [List.drop_zero,List.take_of_length_le ab] at h3
  exact ⟨u,by simp [execOp,h1,Instr.loadAt,Instr.sureAddr,h2],h3⟩
theorem aP {T:TypeId} {n:Nm} {len j:Nat} {c:Ch} {ki:IntKind} {i:Int} (ht:Nat.blt t nt=true) (hx:S.op x=some (o1 (.sl n 0 len))) (hy:S.op y=some (vv (.int ki i))) (hc:S.ch n=some c) (hk:c.k=1) (hT:lR P T 1=true)
  (hi:i=(j:Int)) (hj:j < len) (hl:len≤c.d.len):dx P nt ⟨some t, .indexAddr T x y,ty,ps,af,gd⟩ S (S.put t (o1 (.ptr n j))):=by
 have:=eu (P:=P) (nt:=nt) (S:=S) (t:=t) (ty:=ty) (ps:=ps) (af:=af) (gd:=gd) (x:=x) (y:=y) ht hx hy hc hk hT hi hj ab ab
 rwa [Nat.zero_add,Nat.mul_one] at this
theorem bn {T:TypeId} {n:Nm} {i0 len j:Nat} {c:Ch} {E:TypeId} {vss:List (List Value)} {vs:List Value} {ki:IntKind} {i:Int} (ht:Nat.blt t nt=true) (hx:S.op x=some (o1 (.esl n i0 0 len)))
  (hy:S.op y=some (vv (.int ki i))) (hc:S.ch n=some c) (hd:c.d= .rows E vss []) (hT:lR P T 1=true) (hi0:vss[i0]? =some vs) (hi:i=(j:Int)) (hj:j < len) (hl:len≤vs.length):
  dx P nt ⟨some t, .indexAddr T x y,ty,ps,af,gd⟩ S (S.put t (o1 (.eptr n i0 j))):=by
 have:=qK (P:=P) (nt:=nt) (S:=S) (t:=t) (ty:=ty) (ps:=ps) (af:=af) (gd:=gd) (x:=x) (y:=y) ht hx hy hc hd hT (by simp) hi0 hi hj ab
 rwa [Nat.zero_add] at this
theorem bO {T:TypeId} {n:Nm} {i:Nat} {c:Ch} {vs:List Value} {v:Value} (ht:Nat.blt t nt=true) (hT:sG P T=true) (hx:S.op x=some (o1 (.ptr n i))) (hc:S.ch n=some c) (hd:c.d= .cz vs) (hv:vs[i]? =some v):
  dx P nt ⟨some t, .load T x,ty,ps,af,gd⟩ S (S.put t (vv v)):=si ht hT hx hc (by rw [hd];show vs[i]?.map A1.val=_;rw [hv];rfl)
theorem aN {T:TypeId} {n:Nm} {i:Nat} {c:Ch} {l:List A1} {b:A1} (ht:Nat.blt t nt=true) (hT:sG P T=true) (hx:S.op x=some (o1 (.ptr n i))) (hc:S.ch n=some c) (hd:c.d= .flat l) (hv:l[i]? =some b):
  dx P nt ⟨some t, .load T x,ty,ps,af,gd⟩ S (S.put t (o1 b)):=si ht hT hx hc (by rw [hd];exact hv)
theorem aM {T:TypeId} {n:Nm} {i:Nat} {c:Ch} {E:TypeId} {vss:List (List Value)} {vs:List Value} {m:Nat} (ht:Nat.blt t nt=true) (hT:sG P T=true) (hx:S.op x=some (o1 (.ptr n i))) (hc:S.ch n=some c) (hd:c.d= .rows E vss []) (hv:vss[i]? =some vs) (hm:vs.length=m):
  dx P nt ⟨some t, .load T x,ty,ps,af,gd⟩ S (S.put t (o1 (.esl n i 0 m))):=si ht hT hx hc (by rw [hd];subst hm;show (if [].contains i then none else vss[i]?.map fun vs=>A1.esl n i 0 vs.length)=_;rw [hv];simp)
theorem br {T:TypeId} {n:Nm} {i j:Nat} {c:Ch} {E:TypeId} {vss:List (List Value)} {vs:List Value} {v:Value} (ht:Nat.blt t nt=true) (hT:sG P T=true) (hx:S.op x=some (o1 (.eptr n i j))) (hc:S.ch n=some c)
  (hd:c.d= .rows E vss []) (hi:vss[i]? =some vs) (hj:vs[j]? =some v):dx P nt ⟨some t, .load T x,ty,ps,af,gd⟩ S (S.put t (vv v)):=A6 ht hT hx hc hd (by simp) hi hj
end
end Go.Proofs.Ytfpcfckocmmcnaa
namespace Go.Proofs.Ytfpcfckocmmcnaa
open Go.RowKit
theorem jU {P:Program} (w:World) (t ty e:TypeId) (i:TypeInfo) (ht:P.underlying t=some (.slice e)) (hi:P.info? e=some i)
  (g o sLen sCap:Nat) (cur:Array Value) (hg:w.heap[g]? =some (.cells cur e (0,0)))
  (a:Addr) (m c:Nat) (news:List Value) (hl:news.length=m * i.size) (hnews:∀j u,news[j]? =some u→w.cell? (a.add j)=some u) (h1:∀u∈news,u.oneCell'=true)
  (hroom:sLen + m≤sCap) (hfit:o + sLen * i.size + news.length≤cur.size):
  (Builtin.append_ #[t,t] ty #[.slice (some ⟨g,o,none⟩) sLen sCap, .slice (some a) m c]).run P w=
   .ok (.slice (some ⟨g,o,none⟩) (sLen + m) sCap) (w.setRow g (cur.toList.take (o + sLen * i.size) ++ news ++ cur.toList.drop (o + sLen * i.size + news.length)).toArray):=by
 have hf:=run_firstCells_some (P:=P) w i.size m a m c news hl hnews
 have hst:=run_storeCells_at P g (o + sLen * i.size) e news 0 cur w hg (by simpa using hfit) h1
 simp only [Nat.add_zero] at hst
 simp [Builtin.append_,run_underlying ht,sizeOf,typeInfo,hi,Builtin.lenOf,hroom,hf,Addr.add_lit,hst]
structure Grown (ω:bW) (w w':World) (ow:Nm×Option Nat) (h':Hd) (E:TypeId) (k nk:Nat) (news:List Value) (cell:Nat→Value→Prop):Prop where
 k_:h'.k=k
 os:w'.os=w.os
 tape:w'.tape=w.tape
 output:w'.output=w.output
 size:w.heap.size≤w'.heap.size
 other:∀b,b < w.heap.size→ω b≠some ow→w'.heap[b]? =w.heap[b]?
 vec:∃b o cs,h'.ao=some ⟨b,o,none⟩∧bW.new ω w.heap.size ow b=some ow∧w'.heap[b]? =some (.cells cs E (0,0))∧(o=0∧cs.size=h'.c * k)∧nk + news.length≤h'.c * k∧h'.c≤maxLen∧
  (∀j,j < nk→∃u,cs[o + j]? =some u∧cell j u)∧∀j v,news[j]? =some v→cs[o + nk + j]? =some v
theorem rp {a b c:List Value} {j:Nat} {v:Value} (h:b[j]? =some v):(a ++ b ++ c)[a.length + j]? =some v:=by
 have hj:j < b.length:=(List.getElem?_eq_some_iff.1 h).1
 rw [List.append_assoc,List.getElem?_append_right ab,Nat.add_sub_cancel_left,List.getElem?_append_left hj];exact h
theorem lM {P:Program} {ω:bW} {w:World} {ow:Nm×Option Nat} {h:Hd} {T E k dlen n m off c:Nat} {ty:TypeId} {u:Value} {cell:Nat→Value→Prop} {a:Addr} {news:List Value} (hT:tS P T E k=true) (hk0:0 < k) (hk:h.k=k)
  (hv:fj ω w ow h E dlen cell) (hu:Df h off n u) (hoff:off=0) (hd:(off + n) * k=dlen) (hm0:0 < m) (hl:news.length=m * k) (hnews:∀j v,news[j]? =some v→w.cell? (a.add j)=some v) (h1:∀v∈news,v.oneCell'=true) (hb:n + m≤2199023255552):
  ∃h' w',(Builtin.append_ #[T,T] ty #[u, .slice (some a) m c]).run P w= .ok (.slice h'.ao (n + m) h'.c) w'∧Grown ω w w' ow h' E k (n * k) news (fun j u=>cell (off * k + j) u):=by
 obtain ⟨i,z,e1,e2,e3,e4,e5,e6⟩:=fW hT
 obtain ⟨ao,rfl,ha0,ha1⟩:=hu
 have hby:(n + m) * i.bytes≤140737488355328:=Nat.le_trans (Nat.mul_le_mul_left _ e4) ab
 have hb0:0 + m≤maxLen:=by simp [maxLen];omega
 have hbn:n + m≤maxLen:=by simp [maxLen];omega
 subst e3
 have fresh:∀(cs0:List Value) (cap:Nat),cs0.length=n * i.size→n + m≤cap→cap≤maxLen→(∀j,j < n * i.size→∃u,cs0[j]? =some u∧cell (off * i.size + j) u)→∀w1:World,w1.heap=w.heap→w1.os=w.os→w1.tape=w.tape→w1.output=w.output→
   Grown ω w (w1.alloc (.cells (cs0.toArray ++ news.toArray ++ Builtin.zeroCells z.cells (cap - (n + m))) E)) ow ⟨some ⟨w.heap.size,0,none⟩,cap,i.size⟩ E i.size (n * i.size) news (fun j u=>cell (off * i.size + j) u):=by
  intro cs0 cap hc0 hcap hcm hcs w1 hw1 ho1 ht1 hout1
  have hs1:w1.heap.size=w.heap.size:=by rw [hw1]
  refine { k_:=rfl,os:=ho1,tape:=ht1,output:=hout1,size:=by simp [hs1],other:=fun b hb _=> ?_,vec:=⟨w.heap.size,0,_,rfl,by simp [bW.new],by rw [←hs1];exact heap_alloc_new w1 _, ?_, ?_,hcm,fun j hj=> ?_,fun j v hj=> ?_⟩ }
  ·rw [Below.heap_alloc w1 _ b ab,hw1]
  ·simp only [Array.size_append,List.size_toArray,size_zeroCells,e6,hc0,hl,←Nat.add_mul,Nat.zero_add]
   exact ⟨trivial,by congr 1;omega⟩
  ·rw [hl,←Nat.add_mul];exact Nat.mul_le_mul_right _ hcap
  ·obtain ⟨u,hu,hcu⟩:=hcs j hj
   refine ⟨u, ?_,hcu⟩
   rw [Nat.zero_add,Array.getElem?_append_left (by simp [hc0];omega),Array.getElem?_append_left (by simp [hc0];omega)]
   simpa using hu
  ·have hjl:j < news.length:=(List.getElem?_eq_some_iff.1 hj).1
   rw [Nat.zero_add,Array.getElem?_append_left (by simp [hc0];omega),Array.getElem?_append_right (by simp [hc0])]
   simpa [hc0] using hj
 rcases hv with ⟨hao,hc,hd0⟩ | ⟨b,o,cs,g1,g2,g3,g4,g5,g6,g7⟩
 ·have h0:(off + n) * i.size=0:=by rw [hd,hd0]
  have h00:off + n=0:=by
   rcases Nat.eq_zero_or_pos (off + n) with h8 | h8
   ·exact h8
   ·have:=Nat.mul_pos h8 hk0;omega
  obtain ⟨rfl,rfl⟩:off=0∧n=0:=by omega
  rw [ha0 rfl,hao,hc]
  have hr:=run_append_nil (P:=P) (ty:=ty) w T E i z e1 e2 e5 a m c news hl hnews hm0 ab (by simp only [Nat.zero_add] at hby;omega)
  refine ⟨⟨some ⟨w.heap.size,0,none⟩,grownCap w m 0 E,i.size⟩,_,by rw [Nat.sub_zero,hr,Nat.zero_add], ?_⟩
  have:=fresh [] (grownCap w m 0 E) (by simp) (by rw [Nat.zero_add];exact grownCap_ge w m 0 E) (grownCap_le_maxLen w m 0 E ab) (fun j hj=>absurd hj ab) w.drew rfl rfl rfl rfl
  simpa using this
 ·rw [hk] at g4 g5
  have hoc:off + n≤h.c:=Nat.le_of_mul_le_mul_right (by rw [hd];exact g5) hk0
  have hmul:∀x,x≤h.c→x * i.size≤h.c * i.size:=fun x hx=>Nat.mul_le_mul_right _ hx
  have hbs:b < w.heap.size:=ff g3
  have old:∀j,j < n * i.size→∃u,cs[o + off * i.size + j]? =some u∧cell (off * i.size + j) u:=fun j hj=>by
   obtain ⟨u,hu,hcu⟩:=g7 (off * i.size + j) (by rw [←hd,Nat.add_mul];omega)
   exact ⟨u,by rw [Nat.add_assoc];exact hu,hcu⟩
  have haos:off < h.c→ao=some ⟨b,o + off * i.size,none⟩:=fun hlt=>by
   rcases Nat.eq_zero_or_pos off with h0 | h0
   ·rw [ha0 h0,g1,h0];simp
   ·rw [ha1 h0 hlt,g1,hk];rfl
  by_cases hroom:n + m≤h.c - off
  ·have hlt:off < h.c:=by omega
   rw [haos hlt]
   have hfit:o + off * i.size + n * i.size + news.length≤cs.size:=by
    have h2:=hmul (off + n + m) ab
    rw [Nat.add_mul,Nat.add_mul] at h2
    rw [hl];omega
   have hr:=jU (P:=P) (ty:=ty) w T E i e1 e2 b (o + off * i.size) n (h.c - off) cs g3 a m c news hl hnews h1 hroom hfit
   have hnl:n * i.size + news.length≤(h.c - off) * i.size:=by rw [hl,←Nat.add_mul];exact Nat.mul_le_mul_right _ hroom
   have htl:(cs.toList.take (o + off * i.size + n * i.size)).length=o + off * i.size + n * i.size:=by
    rw [List.length_take,Array.length_toList];omega
   refine ⟨⟨some ⟨b,o + off * i.size,none⟩,h.c - off,i.size⟩,_,hr, ?_⟩
   refine { k_:=rfl,os:=rfl,tape:=rfl,output:=rfl,size:=by simp,other:=fun b' _ hne=>setRow_other w b b' _ (fun e=>hne (e ▸ g2)),vec:=⟨b,o + off * i.size,_,rfl,by simp [bW.new,Nat.ne_of_lt hbs,g2],setRow_heap w b cs _ E _ g3, ?_,hnl,by show h.c - off≤maxLen;omega,fun j hj=> ?_,fun j v hj=> ?_⟩ }
   ·have h2:=Nat.sub_mul h.c off i.size
    have h3:=hmul off ab
    simp only [List.size_toArray,List.length_append,htl,List.length_drop,Array.length_toList]
    subst hoff;rw [Nat.zero_mul,Nat.sub_zero] at h2 ⊢;simp only [Nat.add_zero] at *;constructor<;>omega
   ·obtain ⟨u,hu,hcu⟩:=old j hj
    refine ⟨u, ?_,hcu⟩
    simp only [List.getElem?_toArray]
    rw [List.append_assoc,List.getElem?_append_left (by rw [htl];omega),List.getElem?_take,if_pos ab]
    simpa using hu
   ·simp only [List.getElem?_toArray]
    have:=rp (a:=cs.toList.take (o + off * i.size + n * i.size)) (c:=cs.toList.drop (o + off * i.size + n * i.size + news.length)) hj
    rw [htl] at this
    exact this
  ·have holds:∀u',n * i.size≠0→ao=some u'→u'=⟨b,o + off * i.size,none⟩:=fun u' hn0 he=>by
    have hnp:0 < n:=by
     rcases Nat.eq_zero_or_pos n with h8 | h8
     ·subst h8;simp at hn0
     ·exact h8
    rw [haos ab] at he;exact (Option.some.inj he).symm
   have hol:((cs.toList.drop (o + off * i.size)).take (n * i.size)).length=n * i.size:=by
    rw [List.length_take,List.length_drop,Array.length_toList]
    have h2:=hmul (off + n) hoc
    rw [Nat.add_mul] at h2
    omega
   have hoat:∀(j:Nat) (u:Value),((cs.toList.drop (o + off * i.size)).take (n * i.size))[j]? =some u→j < n * i.size∧cs[o + off * i.size + j]? =some u:=fun j u hj=>by
    have hjl:j < n * i.size:=by have:=(List.getElem?_eq_some_iff.1 hj).1;omega
    rw [List.getElem?_take,if_pos hjl,List.getElem?_drop] at hj
    exact ⟨hjl,by simpa using hj⟩
   have hfresh:=fresh ((cs.toList.drop (o + off * i.size)).take (n * i.size)) (grownCap w (n + m) (h.c - off) E) hol (grownCap_ge _ _ _ _) (grownCap_le_maxLen _ _ _ _ hbn) (fun j hj=>by
    obtain ⟨u,hu,hcu⟩:=old j hj
    refine ⟨u, ?_,hcu⟩
    rw [List.getElem?_take,if_pos hj,List.getElem?_drop]
    simpa using hu) w.drew rfl rfl rfl rfl
   cases hao:ao with
   | none=>
    have hno:¬off < h.c:=fun hlt=>by rw [haos hlt] at hao;cases hao
    have hn0:n=0:=by omega
    subst hn0
    have hc0:h.c - off=0:=by omega
    rw [hc0] at hfresh ⊢
    have hr:=run_append_nil (P:=P) (ty:=ty) w T E i z e1 e2 e5 a m c news hl hnews hm0 ab (by simp only [Nat.zero_add] at hby;omega)
    refine ⟨⟨some ⟨w.heap.size,0,none⟩,grownCap w m 0 E,i.size⟩,_,by rw [hr,Nat.zero_add], ?_⟩
    simpa using hfresh
   | some a'=>
    have hr:=run_append_grow (P:=P) (ty:=ty) w T E i z e1 e2 e5 a' n (h.c - off) _ hol (fun j u hj=>by
     obtain ⟨hj1,hj2⟩:=hoat j u hj
     rw [holds a' ab hao,Addr.add_lit]
     show w.cell? ⟨b,o + off * i.size + j,none⟩=some u
     rw [cell_of_row w b _ cs E (0,0) g3];exact hj2) a m c news hl hnews ab ab (growslice_fits ab hby)
    exact ⟨⟨some ⟨w.heap.size,0,none⟩,grownCap w (n + m) (h.c - off) E,i.size⟩,_,hr,hfresh⟩
end Go.Proofs.Ytfpcfckocmmcnaa
namespace Go.Proofs.Ytfpcfckocmmcnaa
open Go.RowKit
structure Reads (S:St) (b:A1) (m k:Nat) (news:List Value):Prop where
 len:news.length=m * k
 go:∀ {w0 ω0 nt η ω a w u},dV w0 ω0 nt S η ω a w→dm η b u→∃ad c,u= .slice ad m c∧∀(j:Nat) (v:Value),news[j]? =some v→∃bb o,ad=some ⟨bb,o,none⟩∧w.cell? ⟨bb,o + j,none⟩=some v
section
variable {P:Program} {nt:Nat} {S S':St} {w0 w:World} {ω0:lI} {ω:bW} {η:Env} {a:Act}
variable {t:Nat} {ty:TypeId} {ps:String} {af:Array Edge} {gd:Option (Nat×Bool)} {x y:Operand} {av:AV}
theorem dV.slice (hs:dV w0 ω0 nt S η ω a w) {n:Nm} {off m k:Nat} {c:Ch} {u:Value} (hd:dm η (.sl n off m) u) (hc:S.ch n=some c) (hk:c.k=k) (hk0:0 < k) (hl:(off + m) * k≤c.d.len):
  ∃ad cp,u= .slice ad m cp∧∀j,j < m * k→∃bb o v,ad=some ⟨bb,o,none⟩∧w.cell? ⟨bb,o + j,none⟩=some v∧cR η ω w c.own n c.d (off * k + j) v:=by
 obtain ⟨hd',e1,e2,e3⟩:=hs.chunk hc
 obtain ⟨ao,rfl,f1,f2⟩:=hd.2 hd' e1
 refine ⟨ao,_,rfl,fun j hj=> ?_⟩
 have hlt:off * k + j < c.d.len:=Nat.lt_of_lt_of_le (by rw [Nat.add_mul];omega) hl
 obtain ⟨b',o',v,g1,g2,g3⟩:=e3.get hlt
 have hcap:=e3.cap
 rw [e2,hk] at hcap
 have h5:off + m≤hd'.c:=Nat.le_of_mul_le_mul_right (Nat.le_trans hl hcap) hk0
 have hm:0 < m:=by
  rcases Nat.eq_zero_or_pos m with h8 | h8
  ·subst h8;simp at hj
  ·exact h8
 refine ⟨b',o' + off * k,v, ?_,by rw [Nat.add_assoc];exact g2,g3⟩
 rcases Nat.eq_zero_or_pos off with h0 | h0
 ·rw [f1 h0,g1,h0];simp
 ·rw [f2 h0 ab,g1,e2,hk];rfl
theorem qp {n:Nm} {off m k:Nat} {c:Ch} {vs:List Value} (hc:S.ch n=some c) (hd:c.d= .cz vs) (hk:c.k=k) (hk0:Nat.blt 0 k=true) (hl:(off + m) * k≤vs.length):Reads S (.sl n off m) m k ((vs.drop (off * k)).take (m * k)):=
 ⟨by rw [List.length_take,List.length_drop];rw [Nat.add_mul] at hl;omega,fun hs hu=>by
  obtain ⟨ad,cp,e,h⟩:=hs.slice hu hc hk (by simpa using hk0) (by rw [hd];exact hl)
  refine ⟨ad,cp,e,fun j v hj=> ?_⟩
  have hjl:j < m * k:=by have:=(List.getElem?_eq_some_iff.1 hj).1;simp at this;omega
  rw [List.getElem?_take,if_pos hjl,List.getElem?_drop] at hj
  obtain ⟨bb,o,v',h1,h2,h3⟩:=h j hjl
  rw [hd] at h3
  have h3:vs[off * k + j]? =some v':=h3
  rw [hj] at h3;obtain rfl:=Option.some.inj h3
  exact ⟨bb,o,h1,h2⟩⟩
theorem AD {n:Nm} {m:Nat} {c:Ch} {vs:List Value} (hc:S.ch n=some c) (hd:c.d= .cz vs) (hk:c.k=1) (hl:vs.length=m):Reads S (.sl n 0 m) m 1 vs:=by
 have:=qp (S:=S) (n:=n) (off:=0) (m:=m) (k:=1) hc hd hk rfl ab
 simpa [←hl] using this
theorem GU (S:St) (x:Nm) (c:Ch):(S.rm x).new x c=S.new x c:=by
 unfold St.new St.rm
 simp only [St.mk.injEq,true_and,and_true]
 funext y
 cases Nat.beq y x<;>rfl
theorem vQ (η:Env) (x:Nm) (hd:Hd) (r:Nat→Hd):(η.drop x).new x hd r=η.new x hd r:=by
 unfold Env.new Env.drop
 simp only [Env.mk.injEq,and_true]
 funext y
 by_cases e:y=x<;>simp [e]
theorem dV.renew (h:dV w0 ω0 nt S η ω a w) {n:Nm} {c:Ch} {hd:Hd} {r:Nat→Hd} {ω':bW} {w':World} (hk:Calm (S.rm n) ω w ω' w') (hc:eD (η.new n hd r) ω' w' n hd c):dV w0 ω0 nt (S.new n c) (η.new n hd r) ω' a w':=by
 have:=(h.drop n).lay (x:=n) (c:=c) (hd:=hd) (r:=r) hk (by rw [vQ];exact hc)
 rw [GU,vQ] at this
 exact this
theorem mT {n:Nm} {i:Option Nat} {w':World} {h':Hd} {E k nk:Nat} {news:List Value} {cell:Nat→Value→Prop} (hS:S.ch n=none) (g:Grown ω w w' (n,i) h' E k nk news cell):Calm S ω w (bW.new ω w.heap.size (n,i)) w':=
 ⟨g.os,g.tape,g.output,g.size,fun b hb hl=>by
  have hne:ω b≠some (n,i):=by
   intro e
   rcases hl with h0 | ⟨y,j,c,h0,h1⟩
   ·rw [h0] at e;cases e
   ·rw [h0] at e;obtain ⟨rfl,rfl⟩:=Prod.mk.inj (Option.some.inj e);rw [hS] at h1;cases h1
  exact ⟨g.other b hb hne,by simp [bW.new,Nat.ne_of_lt hb]⟩⟩
theorem p5 {n:Nm} {hd:Hd} {r:Nat→Hd} {m:Nat} :Den (η.new n hd r) (o1 (.sl n 0 m)) (.slice hd.ao m hd.c):=
 ⟨⟨_,_,rfl⟩,fun hd' he=>by simp [Env.new] at he;subst he;exact ⟨_,rfl,fun _=>rfl,fun h=>absurd h ab⟩⟩
theorem zD {T E k n off len m:Nat} {c:Ch} {vs news:List Value} {b:A1} (ht:Nat.blt t nt=true) (hT:tS P T E k=true) (hk0:Nat.blt 0 k=true) (hx:S.op x=some (o1 (.sl n off len))) (hc:S.ch n=some c) (hce:c=⟨true,E,k, .cz vs⟩) (hoff:off=0) (hl:(off + len) * k=vs.length)
  (hy:S.op y=some (o1 b)) (hr:Reads S b m k news) (hm:0 < m) (h1:∀v∈news,v.oneCell'=true) (hb:len + m≤2199023255552):
  dx P nt ⟨some t, .call { callee:= .builtin .append,args:= #[x,y],argTypes:= #[T,T] },ty,ps,af,gd⟩ S ((S.new n ⟨true,E,k, .cz (vs.drop (off * k) ++ news)⟩).put t (o1 (.sl n 0 (len + m)))):=
 dx.of _ fun w0 ω0 η ω a w hs=>by
  have hk0':0 < k:=by simpa using hk0
  obtain ⟨hd,e1,e2,e3⟩:=hs.chunk hc
  subst hce
  have e3:fj ω w (n,none) hd E vs.length (cR η ω w true n (.cz vs)):=e3
  have hu:dm η (.sl n off len) (a.eval x):=hs.kG hx
  obtain ⟨ad,cp,r1,r2⟩:=hr.go hs (hs.kG hy)
  have hnl:=hr.len
  have hn0:0 < news.length:=by rw [hnl];exact Nat.mul_pos hm hk0'
  obtain ⟨bb,o,r3,_⟩:=r2 0 _ (List.getElem?_eq_getElem hn0)
  subst r3
  obtain ⟨h',w',k1,k2⟩:=lM (P:=P) (ty:=ty) (c:=cp) hT hk0' e2 e3 (hu.2 hd e1) hoff hl hm hnl (a:=⟨bb,o,none⟩) (fun j v hj=>by
   obtain ⟨b2,o2,h2,h3⟩:=r2 j v hj
   simp only [Option.some.injEq,Addr.mk.injEq,and_true] at h2
   obtain ⟨rfl,rfl⟩:=h2
   rw [Addr.add_lit];exact h3) h1 hb
  refine ⟨.slice h'.ao (len + m) h'.c,w',by simp [execOp,resolve,invoke,builtin,r1,k1], ?_⟩
  have hlen:(vs.drop (off * k) ++ news).length=len * k + news.length:=by
   rw [List.length_append,List.length_drop,←hl,Nat.add_mul];omega
  have:=hs.renew (n:=n) (c:=⟨true,E,k, .cz (vs.drop (off * k) ++ news)⟩) (hd:=h') (r:=fun _=>⟨none,0,1⟩) (mT (by simp [iI]) k2) ⟨k2.k_,by
   obtain ⟨b',o',cs',v1,v2,v3,v4,v5,v6,v7,v8⟩:=k2.vec
   refine .inr ⟨b',o',cs',v1,v2,v3,by rw [k2.k_];exact v4,by rw [k2.k_];show (vs.drop (off * k) ++ news).length≤_;rw [hlen];exact v5,v6,fun j hj=> ?_⟩
   have hj:j < (vs.drop (off * k) ++ news).length:=hj
   rw [hlen] at hj
   by_cases hlt:j < len * k
   ·obtain ⟨u,q1,q2⟩:=v7 j hlt
    have q2:vs[off * k + j]? =some u:=q2
    refine ⟨u,q1, ?_⟩
    show (vs.drop (off * k) ++ news)[j]? =some u
    rw [List.getElem?_append_left (by rw [List.length_drop,←hl,Nat.add_mul];omega),List.getElem?_drop];exact q2
   ·have hdl:(vs.drop (off * k)).length=len * k:=by rw [List.length_drop,←hl,Nat.add_mul];omega
    have hj2:j - len * k < news.length:=by omega
    refine ⟨news[j - len * k], ?_, ?_⟩
    ·have:=v8 (j - len * k) _ (List.getElem?_eq_getElem hj2)
     rw [show o' + len * k + (j - len * k)=o' + j by omega] at this;exact this
    ·show (vs.drop (off * k) ++ news)[j]? =_
     rw [List.getElem?_append_right ab,hdl,List.getElem?_eq_getElem hj2]⟩
  exact ⟨_,_,this.iP (by simpa using ht) p5⟩
end
end Go.Proofs.Ytfpcfckocmmcnaa
namespace Go.Proofs.Ytfpcfckocmmcnaa
open Go.RowKit
section
variable {P:Program} {nt:Nat} {S S':St} {w0 w:World} {ω0:lI} {ω:bW} {η:Env} {a:Act}
variable {t:Nat} {ty:TypeId} {ps:String} {af:Array Edge} {gd:Option (Nat×Bool)} {x y:Operand} {av:AV}
def bW.l8 (ω:bW) (z n:Nm) (j:Nat):bW:=fun b=>if ω b=some (z,none) then some (n,some j) else ω b
theorem fj.l8 {z n:Nm} {j:Nat} {h:Hd} {E:TypeId} {len:Nat} {cell:Nat→Value→Prop} {ω':bW} {w':World} (hv:fj ω w (z,none) h E len cell) (hs:∀b,b < w.heap.size→ω b=some (z,none)→w'.heap[b]? =w.heap[b]? ∧ω' b=some (n,some j)):fj ω' w' (n,some j) h E len cell:=by
 rcases hv with h0 | ⟨b,o,cs,h1,h2,h3,h4⟩
 ·exact .inl h0
 ·have:=hs b (ff h3) h2
  exact .inr ⟨b,o,cs,h1,this.2,this.1.trans h3,h4⟩
theorem sO {T E F n z q len m:Nat} {vss:List (List Value)} {vs:List Value} (ht:Nat.blt t nt=true) (hT:tS P T E 1=true) (hx:S.op x=some (o1 (.sl n 0 len))) (hc:S.ch n=some ⟨true,E,1, .rows F vss []⟩) (hl:vss.length=len)
  (hy:S.op y=some (o1 (.sl q 0 1))) (hq:S.ch q=some ⟨true,E,1, .flat [.sl z 0 m]⟩) (hz:S.ch z=some ⟨true,F,1, .cz vs⟩) (hm:vs.length=m) (hzn:Nat.beq z n=false) (hb:len + 1≤2199023255552):
  dx P nt ⟨some t, .call { callee:= .builtin .append,args:= #[x,y],argTypes:= #[T,T] },ty,ps,af,gd⟩ S (((S.rm z).new n ⟨true,E,1, .rows F (vss ++ [vs]) []⟩).put t (o1 (.sl n 0 (len + 1)))):=
 dx.of _ fun w0 ω0 η ω a w hs=>by
  have hne:z≠n:=fun e=>by rw [e] at hzn;simp at hzn
  subst hl hm
  obtain ⟨hd,e1,e2,e3⟩:=hs.chunk hc
  have e2:hd.k=1:=e2
  have e3:fj ω w (n,none) hd E vss.length (cR η ω w true n (.rows F vss [])):=e3
  obtain ⟨hz',z1,z2,z3⟩:=hs.chunk hz
  have z2:hz'.k=1:=z2
  have z3:fj ω w (z,none) hz' F vs.length (cR η ω w true z (.cz vs)):=z3
  have hu:dm η (.sl n 0 vss.length) (a.eval x):=hs.kG hx
  have hyv:dm η (.sl q 0 1) (a.eval y):=hs.kG hy
  obtain ⟨ad,cp,r1,r2⟩:=hs.slice (k:=1) hyv hq rfl ab (by simp [fQ.len])
  obtain ⟨bb,o,v0,r3,r4,r5⟩:=r2 0 ab
  have hv0:dm η (.sl z 0 vs.length) v0:=r5 _ (by simp)
  obtain ⟨az,rfl,q1,_⟩:=hv0.2 hz' z1
  subst r3
  obtain ⟨h',w',k1,k2⟩:=lM (P:=P) (ty:=ty) (c:=cp) (news:= [.slice az vs.length (hz'.c - 0)]) hT ab e2 e3 (hu.2 hd e1) rfl (by rw [Nat.zero_add,Nat.mul_one]) (by omega:0 < 1) (by simp) (a:=⟨bb,o,none⟩) (fun j v hj=>by
   cases j with
   | zero=>simp only [List.getElem?_cons_zero,Option.some.injEq] at hj;subst hj;rw [Addr.add_lit];exact r4
   | succ j=>simp at hj) (by intro v hv;simp at hv;subst hv;rfl) hb
  refine ⟨.slice h'.ao (vss.length + 1) h'.c,w',by simp [execOp,resolve,invoke,builtin,r1,k1], ?_⟩
  have hS:((S.rm z).rm n).ch n=none:=by simp [iI]
  have hSz:((S.rm z).rm n).ch z=none:=by simp [iI,hne]
  have hbz:∀b,ω b=some (z,none)→w'.heap[b]? =w.heap[b]? ∨w.heap.size≤b:=fun b hb=>by
   rcases Nat.lt_or_ge b w.heap.size with h | h
   ·exact .inl (k2.other b h (fun e=>by rw [hb] at e;simp at e;exact hne e))
   ·exact .inr h
  have calm:Calm ((S.rm z).rm n) ω w (bW.l8 (bW.new ω w.heap.size (n,none)) z n vss.length) w':=⟨k2.os,k2.tape,k2.output,k2.size,fun b hb hl=>by
   have hnew:bW.new ω w.heap.size (n,none) b=ω b:=by simp [bW.new,Nat.ne_of_lt hb]
   have h1:ω b≠some (n,none)∧ω b≠some (z,none):=by
    rcases hl with h0 | ⟨y,j,c,h0,h1⟩
    ·rw [h0];simp
    ·rw [h0]
     refine ⟨fun e=> ?_,fun e=> ?_⟩
     ·simp at e;rw [e.1,hS] at h1;cases h1
     ·simp at e;rw [e.1,hSz] at h1;cases h1
   exact ⟨k2.other b hb h1.1,by simp only [bW.l8,hnew,if_neg h1.2]⟩⟩
  have key:eD ((η.drop z).new n h' fun j=>if j < vss.length then η.r n j else hz') (bW.l8 (bW.new ω w.heap.size (n,none)) z n vss.length) w' n h' ⟨true,E,1, .rows F (vss ++ [vs]) []⟩:=by
   refine ⟨k2.k_, ?_⟩
   obtain ⟨b',o',cs',v1,v2,v3,v4,v5,v6,v7,v8⟩:=k2.vec
   have hbn:bW.new ω w.heap.size (n,none) b'≠some (z,none):=by rw [v2];simp;exact fun e=>hne e.symm
   refine .inr ⟨b',o',cs',v1,(if_neg hbn).trans v2,v3,by rw [k2.k_];exact v4,by rw [k2.k_];simpa [fQ.len] using v5,v6,fun j hj=> ?_⟩
   have hj:j < vss.length + 1:=by simpa [fQ.len] using hj
   by_cases hlt:j < vss.length
   ·obtain ⟨u,g1,g2⟩:=v7 j ab
    rw [Nat.zero_mul,Nat.zero_add] at g2
    refine ⟨u,g1,g2.1,fun _ vs' hvs'=> ?_⟩
    rw [List.getElem?_append_left hlt] at hvs'
    obtain ⟨f1,f2,f3⟩:=g2.2 (by simp) vs' hvs'
    have hr:((η.drop z).new n h' fun j=>if j < vss.length then η.r n j else hz').r n j=η.r n j:=by simp [Env.new,hlt]
    rw [hr]
    refine ⟨f1,f2,fj.same (fun b hb ho=>⟨k2.other b hb (by rw [ho];simp), ?_⟩) (fun _ _ h=>h) f3⟩
    have hnew:bW.new ω w.heap.size (n,none) b=ω b:=by simp [bW.new,Nat.ne_of_lt hb]
    simp only [bW.l8,hnew,ho]
    rw [if_neg (by simp)]
   ·obtain rfl:j=vss.length:=by omega
    refine ⟨_,by have:=v8 0 _ (List.getElem?_cons_zero);simpa using this,rfl,fun _ vs' hvs'=> ?_⟩
    rw [List.getElem?_append_right ab,Nat.sub_self] at hvs'
    simp at hvs';subst hvs'
    have hr:((η.drop z).new n h' fun j=>if j < vss.length then η.r n j else hz').r n vss.length=hz':=by simp [Env.new]
    rw [hr]
    refine ⟨by rw [q1 rfl],z2,fj.l8 z3 fun b hb ho=> ?_⟩
    have hnew:bW.new ω w.heap.size (n,none) b=ω b:=by simp [bW.new,Nat.ne_of_lt hb]
    exact ⟨(hbz b ho).resolve_right ab,by simp only [bW.l8,hnew,ho,if_true]⟩
  have:=(hs.drop z).renew (n:=n) (c:=⟨true,E,1, .rows F (vss ++ [vs]) []⟩) calm key
  exact ⟨_,_,this.iP (by simpa using ht) p5⟩
theorem ya {T E n:Nat} {ts:Array TypeId} {l c:Operand} {kl kc:IntKind} {L C:Int} {z:Value} (ht:Nat.blt t nt=true) (hT:tS P T E 1=true) (hz:(P.info? E).bind (·.zero)=some z) (hl:S.op l=some (vv (.int kl L))) (hc:S.op c=some (vv (.int kc C)))
  (hL:L=(n:Int)) (hC:C=(n:Int)) (hn:n≤2199023255552) (hz1:z.oneCell'=true):dx P nt ⟨some t, .makeSlice T l c,ty,ps,af,gd⟩ S ((S.new t ⟨true,E,1, .cz (List.replicate n z)⟩).put t (o1 (.sl t 0 n))):=
 dx.of _ fun w0 ω0 η ω a w hs=>by
  obtain ⟨i,z',k1,k2,k3,k4,k5,k6⟩:=fW hT
  have hzz:z'=z:=by rw [k2] at hz;simp [k5] at hz;exact hz
  subst hzz hL hC
  have hby:(i.bytes:Int) * n≤64 * n:=Int.mul_le_mul_of_nonneg_right ab ab
  have hr:=run_make (P:=P) w T E i z' k1 k2 k5 kl kc (n:Int) (n:Int) ab ab ab ab
  simp only [Int.toNat_natCast] at hr
  refine ⟨.slice (some ⟨w.heap.size,0,none⟩) n n,w.alloc (.cells (madeCells z'.cells (n * i.size)) E),by simp [execOp,hs.nY hl,hs.nY hc,hr], ?_⟩
  rw [k3,Nat.mul_one,kF hz1]
  have hal:=hs.alloc (x:=t) (c:=⟨true,E,1, .cz (List.replicate n z')⟩) (cs:=madeCells #[z'] n) (r:=fun _=>⟨none,0,1⟩) (n:=n) rfl (by simp [size_madeCells]) (by simp [fQ.len]) (by simp [maxLen];omega) fun j hj=>by
   have hj:j < n:=by simpa [fQ.len] using hj
   refine ⟨z', ?_,by show (List.replicate n z')[j]? =some z';simp [hj]⟩
   have:=toList_madeCells_one z' n
   have h2:(madeCells #[z'] n).toList[j]? =some z':=by rw [this];simp [hj]
   simpa using h2
  exact ⟨_,_,hal.iP (by simpa using ht) gE⟩
theorem vx {T E F n:Nat} {ts:Array TypeId} {l c:Operand} {kl kc:IntKind} {L C:Int} (ht:Nat.blt t nt=true) (hT:tS P T E 1=true) (hz:(P.info? E).bind (·.zero)=some (.slice none 0 0)) (hF:P.underlying E=some (.slice F)) (hl:S.op l=some (vv (.int kl L))) (hc:S.op c=some (vv (.int kc C)))
  (hL:L=(n:Int)) (hC:C=(n:Int)) (hn:n≤2199023255552):dx P nt ⟨some t, .makeSlice T l c,ty,ps,af,gd⟩ S ((S.new t ⟨true,E,1, .rows F (List.replicate n []) []⟩).put t (o1 (.sl t 0 n))):=
 dx.of _ fun w0 ω0 η ω a w hs=>by
  obtain ⟨i,z',k1,k2,k3,k4,k5,k6⟩:=fW hT
  have hzz:z'= .slice none 0 0:=by rw [k2] at hz;simp [k5] at hz;exact hz
  subst hzz hL hC
  have hby:(i.bytes:Int) * n≤64 * n:=Int.mul_le_mul_of_nonneg_right ab ab
  have hr:=run_make (P:=P) w T E i _ k1 k2 k5 kl kc (n:Int) (n:Int) ab ab ab ab
  simp only [Int.toNat_natCast] at hr
  refine ⟨.slice (some ⟨w.heap.size,0,none⟩) n n,w.alloc (.cells (madeCells (Value.slice none 0 0).cells (n * i.size)) E),by simp [execOp,hs.nY hl,hs.nY hc,hr], ?_⟩
  rw [k3,Nat.mul_one,kF rfl]
  have hal:=hs.alloc (x:=t) (c:=⟨true,E,1, .rows F (List.replicate n []) []⟩) (cs:=madeCells #[.slice none 0 0] n) (r:=fun _=>⟨none,0,1⟩) (n:=n) rfl (by simp [size_madeCells]) (by simp [fQ.len]) (by simp [maxLen];omega) fun j hj=>by
   have hj:j < n:=by simpa [fQ.len] using hj
   refine ⟨.slice none 0 0, ?_,rfl,fun _ vs hvs=> ?_⟩
   ·have:=toList_madeCells_one (.slice none 0 0) n
    have h2:(madeCells #[.slice none 0 0] n).toList[j]? =some (.slice none 0 0):=by rw [this];simp [hj]
    simpa using h2
   ·simp only [List.getElem?_replicate,hj,if_true,Option.some.injEq] at hvs
    subst hvs
    exact ⟨by simp [Env.new],by simp [Env.new], .inl ⟨by simp [Env.new],by simp [Env.new],rfl⟩⟩
  exact ⟨_,_,hal.iP (by simpa using ht) gE⟩
end
end Go.Proofs.Ytfpcfckocmmcnaa
namespace Go.Proofs.Ytfpcfckocmmcnaa
open Go.RowKit
def A1.lN (x:Nm):A1→Bool
 | .esl y _ _ _ | .eptr y _ _=>Nat.beq x y
 | _=>false
def A2.lN (x:Nm):A2→Bool
 | .one a=>a.lN x
 | .agg l=>l.any (A1.lN x)
def AV.lN (x:Nm):AV→Bool
 | .s a=>a.lN x
 | .tup l=>l.any (A2.lN x)
def fQ.rK (x:Nm):fQ→fQ
 | .flat l=> .flat (l.map fun a=>bif a.lN x then .any else a)
 | d=>d
def St.rK (S:St) (x:Nm):St:=
 {sl:=fun t=>(S.sl t).bind fun av=>bif av.lN x then none else some av,ph:=fun t=>(S.ph t).bind fun av=>bif av.lN x then none else some av,ch:=fun y=>(S.ch y).map fun c=> { c with d:=c.d.rK x } }
structure qd (η η':Env) (n:Nm):Prop where
 h:∀y,η'.h y=η.h y
 r:∀y,y≠n→∀i,η'.r y i=η.r y i
theorem dm.cut {η η':Env} {n:Nm} {a:A1} {u:Value} (ht:qd η η' n) (hb:a.lN n=false) (h:dm η a u):dm η' a u:=by
 cases a with
 | esl x i off m=>
  have hne:x≠n:=fun e=>by subst e;simp [A1.lN] at hb
  exact ⟨h.1,fun hd he=>by rw [ht.r x hne i];exact h.2 hd (ht.h x ▸ he)⟩
 | eptr x i off=>
  have hne:x≠n:=fun e=>by subst e;simp [A1.lN] at hb
  exact ⟨h.1,fun hd he=>by rw [ht.r x hne i];exact h.2 hd (ht.h x ▸ he)⟩
 | sl x off m=>exact ⟨h.1,fun hd he=>h.2 hd (ht.h x ▸ he)⟩
 | ptr x off=>exact ⟨h.1,fun hd he=>h.2 hd (ht.h x ▸ he)⟩
 | val v=>exact h
 | any=>exact h
 | clo f xs=>
  obtain ⟨us,h1,h2,h3⟩:=h
  refine ⟨us,h1,h2,fun j p hp=> ?_⟩
  obtain ⟨q,hq,hq1,hq2⟩:=h3 j p hp
  exact ⟨q,hq,hq1,fun hd he=>hq2 hd (ht.h p.1 ▸ he)⟩
theorem gT.cut {η η':Env} {n:Nm} {a:A2} {u:Value} (ht:qd η η' n) (hb:a.lN n=false) (h:gT η a u):gT η' a u:=by
 cases a with
 | one a=>exact dm.cut ht hb h
 | agg l=>
  obtain ⟨us,h1,h2,h3⟩:=h
  refine ⟨us,h1,h2,fun j a ha=> ?_⟩
  obtain ⟨u',h4,h5⟩:=h3 j a ha
  exact ⟨u',h4,h5.cut ht (by have:=List.any_eq_false.1 (show l.any (A1.lN n)=false from hb) a (List.mem_of_getElem? ha);simpa using this)⟩
theorem Den.cut {η η':Env} {n:Nm} {a:AV} {u:Value} (ht:qd η η' n) (hb:a.lN n=false) (h:Den η a u):Den η' a u:=by
 cases a with
 | s a=>exact gT.cut ht hb h
 | tup l=>
  obtain ⟨us,h1,h2,h3⟩:=h
  refine ⟨us,h1,h2,fun j a ha=> ?_⟩
  obtain ⟨u',h4,h5⟩:=h3 j a ha
  exact ⟨u',h4,h5.cut ht (by have:=List.any_eq_false.1 (show l.any (A2.lN n)=false from hb) a (List.mem_of_getElem? ha);simpa using this)⟩
section
variable {P:Program} {nt:Nat} {S S':St} {w0 w:World} {ω0:lI} {ω:bW} {η:Env} {a:Act}
variable {t:Nat} {ty:TypeId} {ps:String} {af:Array Edge} {gd:Option (Nat×Bool)} {x y:Operand} {av:AV}
theorem dV.rewrite (h:dV w0 ω0 nt S η ω a w) {n:Nm} {c':Ch} {hd:Hd} {r:Nat→Hd} {ω':bW} {w':World} (he:η.h n=some hd) (hk:Calm (S.rm n) ω w ω' w')
  (hc:eD { η with r:=fun y i=>if y=n then r i else η.r y i } ω' w' n hd c'):dV w0 ω0 nt ((S.rK n).set n c') { η with r:=fun y i=>if y=n then r i else η.r y i } ω' a w':=by
 have ht:qd η { η with r:=fun y i=>if y=n then r i else η.r y i } n:=⟨fun _=>rfl,fun y hy i=>if_neg hy⟩
 refine { dfr:=h.dfr,tsz:=h.tsz,fr:=hk.fr h.fr,slots:=fun t av hs=> ?_,phs:=fun t av hs=> ?_,mem:=⟨fun y d hy=> ?_,fun y hy=> ?_⟩ }
 ·obtain ⟨h1,h2⟩:=jh hs
  obtain ⟨u,h3,h4⟩:=h.slots t av h1
  exact ⟨u,h3,h4.cut ht h2⟩
 ·obtain ⟨h1,h2⟩:=jh hs
  obtain ⟨u,h3,h4⟩:=h.phs t av h1
  exact ⟨u,h3,h4.cut ht h2⟩
 ·rw [uZ] at hy
  by_cases e:y=n
  ·subst e
   rw [if_pos rfl] at hy
   obtain rfl:=Option.some.inj hy
   exact ⟨hd,he,hc⟩
  ·rw [if_neg e] at hy
   simp only [St.rK,Option.map_eq_some_iff] at hy
   obtain ⟨d0,hd0,rfl⟩:=hy
   obtain ⟨hq,e1,e2⟩:=h.mem.1 y d0 hd0
   refine ⟨hq,e1,e2.1, ?_⟩
   have hl:(d0.d.rK n).len=d0.d.len:=by cases d0.d<;>simp [fQ.rK,fQ.len]
   show lQ d0.own ω' w' (y,none) hq d0.E (d0.d.rK n).len (cR _ ω' w' d0.own y (d0.d.rK n))
   rw [hl]
   have hlive:live (S.rm n) (some (y,none)):= .inr ⟨y,none,d0,rfl,by rw [iI,if_neg e];exact hd0⟩
   refine e2.2.same hk.same (.inl rfl) hlive fun j u hu=> ?_
   cases hdd:d0.d with
   | flat l=>
    rw [hdd] at hu
    intro b hb
    simp only [List.getElem?_map,Option.map_eq_some_iff] at hb
    obtain ⟨b0,hb0,rfl⟩:=hb
    cases hbad:b0.lN n with
    | true=>
     refine (hu b0 hb0).one fun v hv=> ?_
     subst hv;cases hbad
    | false=>exact (hu b0 hb0).cut ht hbad
   | cz vs=>rw [hdd] at hu;exact hu
   | rows E vss dL=>
    rw [hdd] at hu
    refine ⟨hu.1,fun hj vs hvs=> ?_⟩
    obtain ⟨h1,h2,h3⟩:=hu.2 hj vs hvs
    simp only [if_neg e]
    exact ⟨h1,h2,h3.same hk.same (.inl rfl) (.inr ⟨y,some j,d0,rfl,by rw [iI,if_neg e];exact hd0⟩) fun _ _ h=>h⟩
   | mix cs=>
    rw [hdd] at hu
    exact ⟨hu.1,fun c hc=>(hu.2 c hc).move (if_neg e) fun _ _ _ _ _ h3=>h3.same hk.same (.inl rfl) (.inr ⟨y,some j,d0,rfl,by rw [iI,if_neg e];exact hd0⟩) fun _ _ h=>h⟩
 ·rw [uZ] at hy
  by_cases e:y=n
  ·rw [if_pos e] at hy;cases hy
  ·rw [if_neg e] at hy
   simp only [St.rK,Option.map_eq_none_iff] at hy
   exact h.mem.2 y hy
theorem vp {T E F n i z m:Nat} {vss:List (List Value)} {vs:List Value} {dL:List Nat} (hx:S.op x=some (o1 (.ptr n i))) (hc:S.ch n=some ⟨true,E,1, .rows F vss dL⟩) (hh:∀j∈dL,j=i) (hy:S.op y=some (o1 (.sl z 0 m))) (hz:S.ch z=some ⟨true,F,1, .cz vs⟩)
  (hm:vs.length=m) (hzn:Nat.beq z n=false) (hi:i < vss.length) (hT:jJ P T 1=true):dx P nt ⟨none, .store T x y,ty,ps,af,gd⟩ S (((S.rm z).rK n).set n ⟨true,E,1, .rows F (vss.set i vs) []⟩):=
 dx.unit rfl fun w0 ω0 η ω a w hs=>by
  have hne:z≠n:=fun e=>by rw [e] at hzn;simp at hzn
  subst hm
  have hp:dm η (.ptr n i) (a.eval x):=hs.kG hx
  have hv:dm η (.sl z 0 vs.length) (a.eval y):=hs.kG hy
  obtain ⟨h,e1,e2,e3⟩:=hs.chunk hc
  obtain ⟨hz',z1,z2,z3⟩:=hs.chunk hz
  have z2:hz'.k=1:=z2
  have z3:fj ω w (z,none) hz' F vs.length (cR η ω w true z (.cz vs)):=z3
  obtain ⟨az,hav,q1,_⟩:=hv.2 hz' z1
  obtain ⟨b,o,g1,g2⟩:=hp.2 h e1
  have e3:fj ω w (n,none) h E vss.length (cR η ω w true n (.rows F vss dL)):=e3
  rcases e3 with ⟨_,_,h0⟩ | ⟨b',o',cs,f1,f2,f3,f4,f5,f6,f7⟩
  ·omega
  rw [g1] at f1;injection f1 with f1;injection f1 with f1 f1';subst f1 f1'
  obtain ⟨u,hu,_⟩:=f7 i hi
  have hcell:w.cell? ⟨b,o + i,none⟩=some u:=by rw [cell_of_row w b (o + i) cs E (0,0) f3];exact hu
  have hsz:o + i < cs.size:=by
   rcases Nat.lt_or_ge (o + i) cs.size with hlt | hge
   ·exact hlt
   ·rw [Array.getElem?_eq_none hge] at hu;cases hu
  have hS:((S.rm z).rm n).ch n=none:=by simp [iI]
  have hSz:((S.rm z).rm n).ch z=none:=by simp [iI,hne]
  have hsame:=k7 (w:=w) f2 ⟨b,o + i,none⟩ rfl (.slice az vs.length (hz'.c - 0))
  have calm:Calm ((S.rm z).rm n) ω w (bW.l8 ω z n i) (w.setCell ⟨b,o + i,none⟩ (.slice az vs.length (hz'.c - 0))):=⟨rfl,rfl,rfl,hsame.1,fun b2 hb2 hl=>by
   have h1:ω b2≠some (n,none)∧ω b2≠some (z,none):=by
    rcases hl with h0 | ⟨y,j,c,h0,h1⟩
    ·rw [h0];simp
    ·rw [h0]
     refine ⟨fun e=> ?_,fun e=> ?_⟩
     ·simp at e;rw [e.1,hS] at h1;cases h1
     ·simp at e;rw [e.1,hSz] at h1;cases h1
   exact ⟨(hsame.2 b2 hb2 h1.1).1,if_neg h1.2⟩⟩
  have key:eD { η.drop z with r:=fun y j=>if y=n then (if j=i then hz' else η.r n j) else η.r y j } (bW.l8 ω z n i) (w.setCell ⟨b,o + i,none⟩ (.slice az vs.length (hz'.c - 0))) n h ⟨true,E,1, .rows F (vss.set i vs) []⟩:=by
   refine ⟨e2, ?_⟩
   have hbz:ω b≠some (z,none):=by rw [f2];simp;exact fun e=>hne e.symm
   refine .inr ⟨b,o,_,g1,(if_neg hbz).trans f2,heap_set f3 _,by simpa using f4,by show (vss.set i vs).length≤_;rw [List.length_set];exact f5,f6,fun j hj=> ?_⟩
   have hj:j < vss.length:=by simpa [fQ.len] using hj
   by_cases e:j=i
   ·subst e
    refine ⟨.slice az vs.length (hz'.c - 0),by simp [hsz],rfl,fun _ vs' hvs'=> ?_⟩
    rw [List.getElem?_set_self hi] at hvs'
    obtain rfl:=Option.some.inj hvs'
    simp only [if_true]
    refine ⟨by rw [q1 rfl];rfl,z2,fj.l8 z3 fun b2 hb2 ho=>⟨(hsame.2 b2 hb2 (by rw [ho];simp;exact fun e=>absurd e hne)).1,if_pos ho⟩⟩
   ·obtain ⟨u',hu',hk⟩:=f7 j hj
    refine ⟨u',by rw [Array.getElem?_setIfInBounds_ne ab];exact hu',hk.1,fun _ vs' hvs'=> ?_⟩
    rw [List.getElem?_set_ne (fun e'=>e e'.symm)] at hvs'
    obtain ⟨r1,r2,r3⟩:=hk.2 (fun hm=>e (hh j hm)) vs' hvs'
    simp only [if_true,if_neg e]
    refine ⟨r1,r2,fj.same (fun b2 hb2 ho=>⟨(hsame.2 b2 hb2 (by rw [ho];simp)).1, ?_⟩) (fun _ _ h=>h) r3⟩
    unfold bW.l8
    rw [if_neg (by rw [ho];simp)];exact ho
  have hfin:=(hs.drop z).rewrite (n:=n) (r:=fun j=>if j=i then hz' else η.r n j) (hd:=h) (by show (if n=z then none else η.h n)=some h;rw [if_neg (fun e=>hne e.symm)];exact e1) calm key
  have hst:=nh (P:=P) hT hcell (oU f3) (v:= .slice az vs.length (hz'.c - 0)) rfl
  simp only [Nat.sub_zero] at hst hfin
  refine ⟨_,by simp [execOp,hav,g2,hst],_,_,hfin⟩
theorem bj {T:TypeId} {n:Nm} {k:Nat} {c:Ch} {l l':List A1} (hx:S.op x=some (o1 (.ptr n 0))) (hy:S.op y=some (.s (.agg l'))) (hc:S.ch n=some c) (hown:c.own=true) (hd:c.d= .flat l) (hk:l.length=k) (hk':l'.length=k) (hk0:Nat.blt 0 k=true)
  (hT:jJ P T k=true) (h1:(l'.all fun b=>(A2.one b).okB)=true):dx P nt ⟨none, .store T x y,ty,ps,af,gd⟩ S (S.set n { c with d:= .flat l' }):=
 dx.unit rfl fun w0 ω0 η ω a w hs=>by
  have hp:dm η (.ptr n 0) (a.eval x):=hs.kG hx
  obtain ⟨us,hus,hul,hua⟩:gT η (.agg l') (a.eval y):=hs.kG hy
  obtain ⟨h,e1,e2,e3⟩:=hs.chunk hc
  obtain ⟨b,o,g1,g2⟩:=hp.2 h e1
  rw [hown,hd] at e3
  have hk0':0 < k:=by simpa using hk0
  rcases e3 with ⟨_,_,h0⟩ | ⟨b',o',cs,f1,f2,f3,f4,f5,f6,f7⟩
  ·have h0:l.length=0:=h0;omega
  rw [g1] at f1;injection f1 with f1;injection f1 with f1 f1';subst f1 f1'
  have f5:l.length≤h.c * h.k:=f5
  have hone:∀v∈us.toList,v.oneCell'=true:=by
   intro v hv
   obtain ⟨j,hj,rfl⟩:=List.getElem_of_mem hv
   have hjl:j < l'.length:=by rw [←hul];simpa using hj
   obtain ⟨u',hu',hdu⟩:=hua j l'[j] (List.getElem?_eq_getElem hjl)
   have:u'=us.toList[j]:=by
    have h2:us[j]? =some us.toList[j]:=by rw [←Array.getElem?_toList,List.getElem?_eq_getElem hj]
    rw [hu'] at h2;exact Option.some.inj h2
   rw [←this]
   exact hdu.one fun v hv=>A2.l3 (List.all_eq_true.1 h1 _ (List.getElem_mem hjl)) v (by rw [hv])
  have hst:=run_storeCells_at P b o c.E us.toList 0 cs w f3 (by simp [hul];omega) hone
  simp only [Nat.add_zero] at hst
  refine ⟨w.setRow b (cs.toList.take o ++ us.toList ++ cs.toList.drop (o + us.toList.length)).toArray,by simp only [execOp,g2,hus];simp [Instr.storeAt,Instr.sureAddr,storeVar,oQ hT,Value.cells,hul,hk'];rw [hst];simp [hul,hk'],η,ω,hs.write e1 (c':= { c with d:= .flat l' }) ⟨rfl,rfl,rfl,by simp,fun b2 hb2 hl=>⟨setRow_other w b b2 _ (fun e=> ?_),rfl⟩⟩ ⟨e2, ?_⟩⟩
  ·subst e
   rcases hl with h0 | ⟨y,j,c2,h0,h2⟩
   ·rw [f2] at h0;cases h0
   ·rw [f2] at h0;simp at h0;rw [←h0.1,iI,if_pos rfl] at h2;cases h2
  ·show lQ c.own ω _ (n,none) h c.E l'.length (cR η ω _ c.own n (.flat l'))
   rw [hown]
   have htl:(cs.toList.take o).length=o:=by rw [List.length_take,Array.length_toList];omega
   refine .inr ⟨b,o,_,g1,f2,setRow_heap w b cs _ c.E _ f3, ?_,ab,f6,fun j hj=> ?_⟩
   ·simp only [List.size_toArray,List.length_append,htl,List.length_drop,Array.length_toList,hul];omega
   ·obtain ⟨u',hu',hdu⟩:=hua j l'[j] (List.getElem?_eq_getElem hj)
    refine ⟨u', ?_,fun b1 hb1=> ?_⟩
    ·simp only [List.getElem?_toArray]
     have:=rp (a:=cs.toList.take o) (b:=us.toList) (c:=cs.toList.drop (o + us.toList.length)) (j:=j) (v:=u') (by rw [Array.getElem?_toList];exact hu')
     rw [htl] at this
     exact this
    ·rw [List.getElem?_eq_getElem hj] at hb1
     obtain rfl:=Option.some.inj hb1;exact hdu
end
end Go.Proofs.Ytfpcfckocmmcnaa
namespace Go.Proofs.Ytfpcfckocmmcnaa
open Go.RowKit
structure Add where
 t:Nat
 av:AV
 news:Option (Nm×Ch)
def St.C1 (S:St):Option (Nm×Ch)→St
 | none=>S
 | some (x,c)=>S.new x c
def St.add (S:St) (A:Add):St:=(S.C1 A.news).put A.t A.av
def bJ (l:List Nat) (x:Nat):Bool:=l.any (Nat.beq x)
theorem cC {l:List Nat} {x:Nat} :bJ l x=true↔x∈l:=by
 unfold bJ;rw [List.any_eq_true]
 exact ⟨fun ⟨y,h1,h2⟩=>beq_true h2 ▸ h1,fun h=>⟨x,h,by simp⟩⟩
def qx:Nm→Bool:=fun _=>false
def St.clear (S:St) (ds nms:List Nat):St:=
 {sl:=fun t=>bif bJ ds t then none else (S.sl t).bind fun av=>bif av.bad (bJ nms) qx then none else some av,ph:=fun t=>(S.ph t).bind fun av=>bif av.bad (bJ nms) qx then none else some av,ch:=fun x=>bif bJ nms x then none else (S.ch x).map (Ch.clean (bJ nms) qx) }
def vG (ℓ:Nat→Bool):Nat→List Add→Nat→Option AV
 | _, [],_=>none
 | k,A :: r,t=>bif Nat.beq t A.t && ℓ k then some A.av else vG ℓ (k + 1) r t
def Add.wG (A:Add) (x:Nm):Option Ch:=match A.news with
 | some (y,c)=>bif Nat.beq x y then some c else none
 | none=>none
def vH (ℓ:Nat→Bool):Nat→List Add→Nm→Option Ch
 | _, [],_=>none
 | k,A :: r,x=>match (bif ℓ k then A.wG x else none) with
  | some c=>some c
  | none=>vH ℓ (k + 1) r x
def St.part (S:St) (ℓ:Nat→Bool) (adds:List Add):St:=
 {sl:=fun t=>match vG ℓ 0 adds t with | some av=>some av | none=>S.sl t,ph:=S.ph,ch:=fun x=>match vH ℓ 0 adds x with | some c=>some c | none=>S.ch x }
structure St.le (S S1:St):Prop where
 sl:∀t av,S.sl t=some av→S1.sl t=some av
 ch:∀x c,S.ch x=some c→S1.ch x=some c
theorem St.le.op {S S1:St} (h:S.le S1) {x:Operand} {av:AV} (hx:S.op x=some av):S1.op x=some av:=by
 cases x with
 | tmp t=>exact h.sl t av hx
 | const v=>exact hx
 | func f=>exact hx
 | global g=>cases hx
theorem fV {ℓ:Nat→Bool} :∀ {l:List Add} {k t:Nat} {av:AV},vG ℓ k l t=some av→∃j A,l[j]? =some A∧ℓ (k + j)=true∧A.t=t∧A.av=av
 | [],_,_,_,h=>by cases h
 | A :: r,k,t,av,h=>by
  unfold vG at h
  cases hb:(Nat.beq t A.t && ℓ k) with
  | true=>
   rw [hb] at h;simp only [cond_true,Option.some.injEq] at h
   simp only [Bool.and_eq_true] at hb
   exact ⟨0,A,rfl,hb.2,(beq_true hb.1).symm,h⟩
  | false=>
   rw [hb] at h
   obtain ⟨j,B,h1,h2,h3⟩:=fV (l:=r) (k:=k + 1) h
   exact ⟨j + 1,B,by simpa using h1,by rw [show k + (j + 1)=k + 1 + j by omega];exact h2,h3⟩
theorem oJ {ℓ:Nat→Bool} :∀ {l:List Add} {k j:Nat} {A:Add},l[j]? =some A→ℓ (k + j)=true→(l.map (·.t)).Nodup→vG ℓ k l A.t=some A.av
 | [],_,_,_,h,_,_=>by simp at h
 | B :: r,k,0,A,h,hl,_=>by
  simp at h;subst h
  unfold vG
  simp at hl
  simp [hl]
 | B :: r,k,j + 1,A,h,hl,hn=>by
  have h':r[j]? =some A:=by simpa using h
  simp only [List.map_cons,List.nodup_cons] at hn
  have hne:A.t≠B.t:=fun e=>hn.1 (List.mem_map.2 ⟨A,List.mem_of_getElem? h',e⟩)
  unfold vG
  rw [dC hne]
  exact oJ h' (by rw [show k + 1 + j=k + (j + 1) by omega];exact hl) hn.2
theorem fX {ℓ:Nat→Bool} :∀ {l:List Add} {k:Nat} {x:Nm} {c:Ch},vH ℓ k l x=some c→∃j A,l[j]? =some A∧ℓ (k + j)=true∧A.news=some (x,c)
 | [],_,_,_,h=>by cases h
 | A :: r,k,x,c,h=>by
  unfold vH at h
  split at h
  ·rename_i c' hc
   obtain rfl:=Option.some.inj h
   cases hl:ℓ k with
   | false=>rw [hl] at hc;cases hc
   | true=>
    rw [hl] at hc
    simp only [cond_true,Add.wG] at hc
    cases hn:A.news with
    | none=>rw [hn] at hc;cases hc
    | some p=>
     obtain ⟨y,d⟩:=p
     rw [hn] at hc
     simp only at hc
     cases hb:Nat.beq x y with
     | false=>rw [hb] at hc;cases hc
     | true=>rw [hb] at hc;simp at hc;subst hc;exact ⟨0,A,rfl,hl,by rw [hn,beq_true hb]⟩
  ·obtain ⟨j,B,h1,h2,h3⟩:=fX (l:=r) (k:=k + 1) h
   exact ⟨j + 1,B,by simpa using h1,by rw [show k + (j + 1)=k + 1 + j by omega];exact h2,h3⟩
def j5 (l:List Add):List Nm:=l.filterMap fun A=>A.news.map (·.1)
theorem oP {ℓ:Nat→Bool} :∀ {l:List Add} {k j:Nat} {A:Add} {x:Nm} {c:Ch},l[j]? =some A→ℓ (k + j)=true→A.news=some (x,c)→(j5 l).Nodup→vH ℓ k l x=some c
 | [],_,_,_,_,_,h,_,_,_=>by simp at h
 | B :: r,k,0,A,x,c,h,hl,ha,_=>by
  simp at h;subst h
  unfold vH
  simp at hl
  simp [hl,Add.wG,ha]
 | B :: r,k,j + 1,A,x,c,h,hl,ha,hn=>by
  have h':r[j]? =some A:=by simpa using h
  have hx:x∈j5 r:=List.mem_filterMap.2 ⟨A,List.mem_of_getElem? h',by rw [ha];rfl⟩
  unfold vH
  have hB:B.wG x=none:=by
   unfold Add.wG
   cases hb:B.news with
   | none=>rfl
   | some p=>
    obtain ⟨y,d⟩:=p
    have hne:x≠y:=fun e=>by
     subst e
     have:j5 (B :: r)=x :: j5 r:=by simp [j5,hb]
     rw [this,List.nodup_cons] at hn
     exact hn.1 hx
    simp [dC hne]
  have hn':(j5 r).Nodup:=by
   unfold j5 at hn ⊢
   rw [List.filterMap_cons] at hn
   split at hn
   ·exact hn
   ·exact (List.nodup_cons.1 hn).2
  have:(bif ℓ k then B.wG x else none)=none:=by rw [hB];cases ℓ k<;>rfl
  rw [this]
  exact oP h' (by rw [show k + 1 + j=k + (j + 1) by omega];exact hl) ha hn'
theorem A1.oK {a:A1} {x:Nm} (h:a.has x=false):a.forget x=a:=by unfold A1.forget;rw [h];rfl
theorem Ch.oK {c:Ch} {x:Nm} (h:x ∉ c.names):c.forget x=c:=by
 unfold Ch.forget fQ.forget
 obtain ⟨ow,E,k,d⟩:=c
 cases d with
 | flat l=>
  have:l.map (A1.forget x)=l:=by
   conv=>rhs;rw [←List.map_id l]
   refine List.map_congr_left fun a ha=>A1.oK ?_
   cases hx:a.has x with
   | false=>rfl
   | true=>exact absurd (Ch.tn (c:=⟨ow,E,k, .flat l⟩) rfl ha hx) h
  simp [this]
 | cz vs=>rfl
 | rows F vss hs=>rfl
 | mix cs=>rfl
theorem pe {o:Nm→Bool} {a:A1} {y:Nm} (hb:a.bad o qx=false) (hy:y∈a.names):o y=false:=by
 cases a with
 | val v=>cases hy
 | any=>cases hy
 | sl z _ _=>simp [A1.names] at hy;subst hy;exact hb
 | ptr z _=>simp [A1.names] at hy;subst hy;have hb:(o y && !qx y)=false:=hb;simpa [qx] using hb
 | esl z _ _ _=>simp [A1.names] at hy;subst hy;exact hb
 | eptr z _ _=>simp [A1.names] at hy;subst hy;exact hb
 | clo f xs=>
  simp only [A1.names,List.mem_map] at hy
  obtain ⟨p,hp,rfl⟩:=hy
  have:=List.any_eq_false.1 (show xs.any (fun q=>o q.1 && !qx q.1)=false from hb) p hp
  simpa [qx] using this
theorem qU {o:Nm→Bool} {a:A2} {y:Nm} (hb:a.bad o qx=false) (hy:y∈a.names):o y=false:=by
 cases a with
 | one a=>exact pe hb hy
 | agg l=>
  obtain ⟨a,ha,hy⟩:=List.mem_flatMap.1 hy
  exact pe (by have:=List.any_eq_false.1 (show l.any (A1.bad o qx)=false from hb) a ha;simpa using this) hy
theorem qX {o:Nm→Bool} {a:AV} {y:Nm} (hb:a.bad o qx=false) (hy:y∈a.names):o y=false:=by
 cases a with
 | s a=>exact qU hb hy
 | tup l=>
  obtain ⟨a,ha,hy⟩:=List.mem_flatMap.1 hy
  exact qU (by have:=List.any_eq_false.1 (show l.any (A2.bad o qx)=false from hb) a ha;simpa using this) hy
theorem ye {o:Nm→Bool} {c:Ch} {y:Nm} (h:y∈(c.clean o qx).names):o y=false:=by
 obtain ⟨ow,E,k,d⟩:=c
 cases d with
 | flat l=>
  simp only [Ch.clean,fQ.clean,Ch.names,List.mem_flatMap,List.mem_map] at h
  obtain ⟨a',⟨a,ha,rfl⟩,hy⟩:=h
  cases hx:a.bad o qx with
  | true=>rw [hx] at hy;cases hy
  | false=>rw [hx] at hy;exact pe hx hy
 | cz vs=>cases h
 | rows F vss hs=>cases h
 | mix cs=>cases h
def Add.names (A:Add):List Nm:=A.av.names ++ (match A.news with | some (_,c)=>c.names | none=> [])
def qQ (cls:List (List Nat)) (adds:List Add):Bool:=
 adds.zipIdx.all fun p=>p.1.names.all fun y=>adds.zipIdx.all fun q=>match q.1.news with
  | some (x,_)=> !(Nat.beq x y) || Nat.beq q.2 p.2 || bJ (cls.getD p.2 []) q.2
  | none=>true
theorem sM {cls:List (List Nat)} {adds:List Add} (h:qQ cls adds=true) {i j:Nat} {A B:Add} {x:Nm} {c:Ch} (hi:adds[i]? =some A) (hj:adds[j]? =some B) (hB:B.news=some (x,c)) (hx:x∈A.names):j=i∨j∈cls.getD i []:=by
 have h1:=List.all_eq_true.1 h (A,i) (by rw [List.mem_zipIdx_iff_getElem?];exact hi)
 have h2:=List.all_eq_true.1 h1 x hx
 have h3:=List.all_eq_true.1 h2 (B,j) (by rw [List.mem_zipIdx_iff_getElem?];exact hj)
 simp only [hB,Bool.or_eq_true] at h3
 rcases h3 with (h3 | h3) | h3
 ·simp at h3
 ·exact .inl (beq_true h3)
 ·exact .inr (cC.1 h3)
end Go.Proofs.Ytfpcfckocmmcnaa
namespace Go.Proofs.Ytfpcfckocmmcnaa
open Go.RowKit
section
variable {P:Program} {nt:Nat} {w0 w:World} {ω0:lI} {S S1:St} {Q:Exit→Act→World→Prop} {a:Act}
def DJ (ℓ:Nat→Bool) (t:Nat):List Add→Option AV
 | []=>none
 | A :: r=>bif Nat.beq t A.t && ℓ r.length then some A.av else DJ ℓ t r
def DV (ℓ:Nat→Bool) (x:Nm):List Add→Option Ch
 | []=>none
 | A :: r=>match (bif ℓ r.length then A.wG x else none) with
  | some c=>some c
  | none=>DV ℓ x r
def St.gD (S:St) (ℓ:Nat→Bool) (done:List Add):St:=
 {sl:=fun t=>match DJ ℓ t done with | some av=>some av | none=>S.sl t,ph:=S.ph,ch:=fun x=>match DV ℓ x done with | some c=>some c | none=>S.ch x }
theorem uq {ℓ:Nat→Bool} {t:Nat} {av:AV} :∀ {l:List Add},DJ ℓ t l=some av→∃j A,l.reverse[j]? =some A∧ℓ j=true∧A.t=t∧A.av=av
 | [],h=>by cases h
 | A :: r,h=>by
  unfold DJ at h
  cases hb:(Nat.beq t A.t && ℓ r.length) with
  | true=>
   rw [hb] at h;simp only [cond_true,Option.some.injEq] at h
   simp only [Bool.and_eq_true] at hb
   exact ⟨r.length,A,by simp,hb.2,(beq_true hb.1).symm,h⟩
  | false=>
   rw [hb] at h
   obtain ⟨j,B,h1,h2⟩:=uq (l:=r) h
   have:j < r.length:=by have:=(List.getElem?_eq_some_iff.1 h1).1;simpa using this
   exact ⟨j,B,by rw [List.reverse_cons,List.getElem?_append_left (by simpa using this)];exact h1,h2⟩
theorem tV {ℓ:Nat→Bool} {x:Nm} {c:Ch} :∀ {l:List Add},DV ℓ x l=some c→∃j A,l.reverse[j]? =some A∧ℓ j=true∧A.news=some (x,c)
 | [],h=>by cases h
 | A :: r,h=>by
  unfold DV at h
  split at h
  ·rename_i c' hc
   obtain rfl:=Option.some.inj h
   cases hl:ℓ r.length with
   | false=>rw [hl] at hc;cases hc
   | true=>
    rw [hl] at hc
    simp only [cond_true,Add.wG] at hc
    cases hn:A.news with
    | none=>rw [hn] at hc;cases hc
    | some p=>
     obtain ⟨y,d⟩:=p
     rw [hn] at hc
     simp only at hc
     cases hb:Nat.beq x y with
     | false=>rw [hb] at hc;cases hc
     | true=>rw [hb] at hc;simp at hc;subst hc;exact ⟨r.length,A,by simp,hl,by rw [hn,beq_true hb]⟩
  ·obtain ⟨j,B,h1,h2⟩:=tV (l:=r) h
   have:j < r.length:=by have:=(List.getElem?_eq_some_iff.1 h1).1;simpa using this
   exact ⟨j,B,by rw [List.reverse_cons,List.getElem?_append_left (by simpa using this)];exact h1,h2⟩
inductive fJ (P:Program) (nt:Nat) (S:St) (cls:List (List Nat)) (sk:List Nat):List Oper→List Add→List Add→Prop where
 | nil {done:List Add} :fJ P nt S cls sk [] done done
 | skip {o:Oper} {rest:List Oper} {done all:List Add} (A:Add) (hs:bJ sk done.length=true) (k:fJ P nt S cls sk rest (A :: done) all):fJ P nt S cls sk (o :: rest) done all
 | cons {o:Oper} {rest:List Oper} {done all:List Add} (A:Add) (hg:o.guard=none)
   (h:∀S1,(S.gD (bJ (cls.getD done.length [])) done).le S1→dx P nt o S1 (S1.add A)) (k:fJ P nt S cls sk rest (A :: done) all):fJ P nt S cls sk (o :: rest) done all
theorem fJ.spec {cls:List (List Nat)} {sk:List Nat} {ops:List Oper} {done all:List Add} (h:fJ P nt S cls sk ops done all):(∃r,all.reverse=done.reverse ++ r∧r.length=ops.length)∧∀(i:Nat) (o:Oper),ops[i]? =some o→bJ sk (done.length + i)=false→
  ∃A,all.reverse[done.length + i]? =some A∧o.guard=none∧∀S1,(S.gD (bJ (cls.getD (done.length + i) [])) (all.reverse.take (done.length + i)).reverse).le S1→dx P nt o S1 (S1.add A):=by
 induction h with
 | nil=>exact ⟨⟨[],by simp⟩,fun i o h=>by simp at h⟩
 | @skip o rest done all A hs k ih=>
  obtain ⟨⟨r,hr,hl⟩,h2⟩:=ih
  refine ⟨⟨A :: r,by rw [hr];simp,by simp [hl]⟩,fun i o' hi hsk=> ?_⟩
  cases i with
  | zero=>rw [Nat.add_zero,hs] at hsk;cases hsk
  | succ i=>
   have e:(A :: done).length + i=done.length + (i + 1):=by simp;omega
   rw [←e] at hsk ⊢
   exact h2 i o' (by simpa using hi) hsk
 | @cons o rest done all A hg h k ih=>
  obtain ⟨⟨r,hr,hl⟩,h2⟩:=ih
  refine ⟨⟨A :: r,by rw [hr];simp,by simp [hl]⟩,fun i o' hi hsk=> ?_⟩
  cases i with
  | zero=>
   simp at hi;subst hi
   refine ⟨A,by rw [hr];simp,hg,fun S1 hS=>h S1 ?_⟩
   have:(all.reverse.take (done.length + 0)).reverse=done:=by rw [hr];simp
   rw [this] at hS
   exact hS
  | succ i=>
   have e:(A :: done).length + i=done.length + (i + 1):=by simp;omega
   rw [←e] at hsk ⊢
   exact h2 i o' (by simpa using hi) hsk
def Ei (ops:Array Oper) (nA:Nat) (sk:List Nat) (cls:List (List Nat)):Bool:=
 Nat.ble nA ops.size && (List.range ops.size).all fun i=>match ops[i]? with
  | some o=>(Nat.ble nA i || bJ sk i || o.after.all fun e=> !Region.binds .any e || (Nat.blt e.on i && !bJ sk e.on)) && ((cls.getD i []).all fun j=>o.after.any fun e=>Region.binds .any e && (Nat.beq j e.on || bJ (cls.getD e.on []) j)) &&
    ((Nat.blt i nA && !bJ sk i) || (List.range nA).all fun j=>bJ sk j || bJ (cls.getD i []) j) && (Nat.ble nA i || (cls.getD i []).all fun j=>Nat.blt j i)
  | none=>true
structure CX (ops:Array Oper) (nA:Nat) (sk:List Nat) (cls:List (List Nat)):Prop where
 size:nA≤ops.size
 less:∀i o,ops[i]? =some o→i < nA→bJ sk i=false→∀e∈o.after,Region.binds .any e=true→e.on < i∧bJ sk e.on=false
 dep:∀i o,ops[i]? =some o→∀j∈cls.getD i [],∃e∈o.after,Region.binds .any e=true∧(j=e.on∨j∈cls.getD e.on [])
 late:∀i o,ops[i]? =some o→(nA≤i∨bJ sk i=true)→∀j,j < nA→bJ sk j=false→j∈cls.getD i []
 lt:∀i o,ops[i]? =some o→i < nA→∀j∈cls.getD i [],j < i
theorem ud {ops:Array Oper} {nA:Nat} {sk:List Nat} {cls:List (List Nat)} (h:Ei ops nA sk cls=true):CX ops nA sk cls:=by
 unfold Ei at h
 simp only [Bool.and_eq_true,Nat.ble_eq] at h
 obtain ⟨h0,h⟩:=h
 have key:∀i o,ops[i]? =some o→_:=fun i o ho=>by
  have hi:i < ops.size:=(Array.getElem?_eq_some_iff.1 ho).1
  have h1:=List.all_eq_true.1 h i (List.mem_range.2 hi)
  simp only [ho,Bool.and_eq_true,Bool.or_eq_true] at h1
  exact h1
 refine ⟨h0,fun i o ho hi hsk e he hb=> ?_,fun i o ho j hj=> ?_,fun i o ho hi j hj hsk=> ?_,fun i o ho hi j hj=> ?_⟩
 ·rcases (key i o ho).1.1.1 with (h1 | h1) | h1
  ·have:=Nat.le_of_ble_eq_true h1;omega
  ·rw [hsk] at h1;cases h1
  ·have:=Array.all_eq_true_iff_forall_mem.1 h1 e he
   simp [hb] at this;exact this
 ·have:=List.all_eq_true.1 (key i o ho).1.1.2 j hj
  obtain ⟨e,he,h2⟩:=Array.any_eq_true'.1 this
  simp only [Bool.and_eq_true,Bool.or_eq_true] at h2
  exact ⟨e,he,h2.1,h2.2.imp (fun h=>beq_true h) (fun h=>cC.1 h)⟩
 ·rcases (key i o ho).1.2 with h1 | h1
  ·exfalso
   have h2:i < nA:=by simpa using h1.1
   have h3:bJ sk i=false:=by simpa using h1.2
   rcases hi with h4 | h4
   ·omega
   ·rw [h3] at h4;cases h4
  ·have h2:=List.all_eq_true.1 h1 j (List.mem_range.2 hj)
   simp only [Bool.or_eq_true,hsk,Bool.false_eq_true,false_or] at h2
   exact cC.1 h2
 ·rcases (key i o ho).2 with h1 | h1
  ·have:=Nat.le_of_ble_eq_true h1;omega
  ·exact (by have:=List.all_eq_true.1 h1 j hj;simpa using this)
def missing (sk:List Nat) (L:Array Bool):Nat→Nat
 | 0=>0
 | k + 1=>missing sk L k + if L.getD k false=true∨bJ sk k=true then 0 else 1
theorem lE (sk:List Nat) (L:Array Bool) (i:Nat):∀k,k≤i→missing sk (L.setIfInBounds i true) k=missing sk L k
 | 0,_=>rfl
 | k + 1,h=>by simp only [missing];rw [lE sk L i k ab,getD_set_ne false ab]
theorem iy {sk:List Nat} {L:Array Bool} {i:Nat} (hi:i < L.size) (hL:L.getD i false=false) (hs:bJ sk i=false):∀k,i < k→missing sk L k=missing sk (L.setIfInBounds i true) k + 1
 | 0,h=>by omega
 | k + 1,h=>by
  simp only [missing]
  by_cases e:k=i
  ·subst e
   rw [lE sk L k k (Nat.le_refl _),hL,hs]
   simp [hi]
  ·rw [iy hi hL hs k ab,getD_set_ne false ab];omega
theorem ei {sk:List Nat} {L:Array Bool} :∀ {k},missing sk L k=0→∀j,j < k→bJ sk j=false→L.getD j false=true
 | 0,_,j,h,_=>by omega
 | k + 1,h0,j,h,hs=>by
  simp only [missing] at h0
  by_cases e:j=k
  ·subst e
   by_cases hb:L.getD j false=true
   ·exact hb
   ·rw [if_neg (by rw [hs];simpa using hb)] at h0;omega
  ·exact ei (k:=k) ab j ab hs
theorem eJ {sk:List Nat} {L:Array Bool} :∀ {k},(∀j,j < k→bJ sk j=false→L.getD j false=true)→missing sk L k=0
 | 0,_=>rfl
 | k + 1,h=>by
  simp only [missing]
  rw [eJ fun j hj=>h j ab,if_pos]
  cases hs:bJ sk k with
  | true=>exact .inr rfl
  | false=>exact .inl (h k ab hs)
theorem gb {sk:List Nat} {L:Array Bool} :∀ {k},missing sk L k≠0→∃j,j < k∧bJ sk j=false∧L.getD j false=false∧∀i,i < j→bJ sk i=false→L.getD i false=true
 | 0,h=>absurd rfl h
 | k + 1,h=>by
  by_cases h0:missing sk L k=0
  ·simp only [missing,h0] at h
   have h1:¬(L.getD k false=true∨bJ sk k=true):=fun e=>by rw [if_pos e] at h;simp at h
   refine ⟨k,ab, ?_, ?_,ei h0⟩
   ·cases hs:bJ sk k with
    | false=>rfl
    | true=>exact absurd (.inr hs) h1
   ·cases hb:L.getD k false with
    | false=>rfl
    | true=>exact absurd (.inl hb) h1
  ·obtain ⟨j,h1,h2⟩:=gb h0
   exact ⟨j,ab,h2⟩
structure lX (adds:List Add) (cls:List (List Nat)) (ds nms:List Nat):Prop where
 t:(adds.map (·.t)).Nodup
 n:(j5 adds).Nodup
 ds:∀A∈adds,A.t∈ds
 nms:∀A∈adds,∀x c,A.news=some (x,c)→x∈nms
 ment:qQ cls adds=true
theorem nD {S:St} {ds nms:List Nat} {t:Nat} {av:AV} (h:(S.clear ds nms).sl t=some av):t ∉ ds∧av.bad (bJ nms) qx=false∧S.sl t=some av:=by
 have h:(bif bJ ds t then none else (S.sl t).bind fun av=>bif av.bad (bJ nms) qx then none else some av)=some av:=h
 cases hb:bJ ds t with
 | true=>rw [hb] at h;cases h
 | false=>
  rw [hb] at h
  obtain ⟨h1,h2⟩:=jh (b:=AV.bad (bJ nms) qx) h
  exact ⟨fun e=>(by rw [cC.2 e] at hb;cases hb),h2,h1⟩
theorem oC {S:St} {ds nms:List Nat} {x:Nm} {c:Ch} (h:(S.clear ds nms).ch x=some c):x ∉ nms∧∃c0,S.ch x=some c0∧c=c0.clean (bJ nms) qx:=by
 have h:(bif bJ nms x then none else (S.ch x).map (Ch.clean (bJ nms) qx))=some c:=h
 cases hb:bJ nms x with
 | true=>rw [hb] at h;cases h
 | false=>
  rw [hb] at h
  simp only [cond_false,Option.map_eq_some_iff] at h
  obtain ⟨c0,h1,h2⟩:=h
  exact ⟨fun e=>(by rw [cC.2 e] at hb;cases hb),c0,h1,h2.symm⟩
theorem oz {S:St} {ds nms:List Nat} {adds adds':List Add} {cls:List (List Nat)} (ok:lX adds cls ds nms) {ℓ1 ℓ2:Nat→Bool} (hsub:∀(j:Nat) (A:Add),adds'[j]? =some A→adds[j]? =some A) (hl:∀(j:Nat) (A:Add),adds'[j]? =some A→ℓ1 j=true→ℓ2 j=true):
  ((S.clear ds nms).part ℓ1 adds').le ((S.clear ds nms).part ℓ2 adds):=by
 constructor
 ·intro t av h
  have h:(match vG ℓ1 0 adds' t with | some av=>some av | none=>(S.clear ds nms).sl t)=some av:=h
  show (match vG ℓ2 0 adds t with | some av=>some av | none=>(S.clear ds nms).sl t)=some av
  split at h
  ·rename_i av' h1
   obtain rfl:=Option.some.inj h
   obtain ⟨j,A,h2,h3,rfl,rfl⟩:=fV h1
   rw [Nat.zero_add] at h3
   have:=oJ (ℓ:=ℓ2) (k:=0) (hsub j A h2) (by rw [Nat.zero_add];exact hl j A h2 h3) ok.t
   rw [this]
  ·split
   ·rename_i av' h1
    obtain ⟨j,A,h2,h3,rfl,rfl⟩:=fV h1
    exact absurd (ok.ds A (List.mem_of_getElem? h2)) (nD h).1
   ·exact h
 ·intro x c h
  have h:(match vH ℓ1 0 adds' x with | some c=>some c | none=>(S.clear ds nms).ch x)=some c:=h
  show (match vH ℓ2 0 adds x with | some c=>some c | none=>(S.clear ds nms).ch x)=some c
  split at h
  ·rename_i c' h1
   obtain rfl:=Option.some.inj h
   obtain ⟨j,A,h2,h3,h4⟩:=fX h1
   rw [Nat.zero_add] at h3
   have:=oP (ℓ:=ℓ2) (k:=0) (hsub j A h2) (by rw [Nat.zero_add];exact hl j A h2 h3) h4 ok.n
   rw [this]
  ·split
   ·rename_i c' h1
    obtain ⟨j,A,h2,h3,h4⟩:=fX h1
    exact absurd (ok.nms A (List.mem_of_getElem? h2) x _ h4) (oC h).1
   ·exact h
theorem gR {S:St} {ds nms:List Nat} {adds done:List Add} {cls:List (List Nat)} (ok:lX adds cls ds nms) {ℓ1 ℓ2:Nat→Bool} (hsub:∀(j:Nat) (A:Add),done.reverse[j]? =some A→adds[j]? =some A) (hl:∀(j:Nat) (A:Add),done.reverse[j]? =some A→ℓ1 j=true→ℓ2 j=true):
  ((S.clear ds nms).gD ℓ1 done).le ((S.clear ds nms).part ℓ2 adds):=by
 constructor
 ·intro t av h
  have h:(match DJ ℓ1 t done with | some av=>some av | none=>(S.clear ds nms).sl t)=some av:=h
  show (match vG ℓ2 0 adds t with | some av=>some av | none=>(S.clear ds nms).sl t)=some av
  split at h
  ·rename_i av' h1
   obtain rfl:=Option.some.inj h
   obtain ⟨j,A,h2,h3,rfl,rfl⟩:=uq h1
   have:=oJ (ℓ:=ℓ2) (k:=0) (hsub j A h2) (by rw [Nat.zero_add];exact hl j A h2 h3) ok.t
   rw [this]
  ·split
   ·rename_i av' h1
    obtain ⟨j,A,h2,h3,rfl,rfl⟩:=fV h1
    exact absurd (ok.ds A (List.mem_of_getElem? h2)) (nD h).1
   ·exact h
 ·intro x c h
  have h:(match DV ℓ1 x done with | some c=>some c | none=>(S.clear ds nms).ch x)=some c:=h
  show (match vH ℓ2 0 adds x with | some c=>some c | none=>(S.clear ds nms).ch x)=some c
  split at h
  ·rename_i c' h1
   obtain rfl:=Option.some.inj h
   obtain ⟨j,A,h2,h3,h4⟩:=tV h1
   have:=oP (ℓ:=ℓ2) (k:=0) (hsub j A h2) (by rw [Nat.zero_add];exact hl j A h2 h3) h4 ok.n
   rw [this]
  ·split
   ·rename_i c' h1
    obtain ⟨j,A,h2,h3,h4⟩:=fX h1
    exact absurd (ok.nms A (List.mem_of_getElem? h2) x _ h4) (oC h).1
   ·exact h
theorem St.le.wk {S S1:St} (h:S.le S1) (hp:∀t av,S.ph t=some av→S1.ph t=some av):Wk S1 S:=Wk.less h.sl h.ch hp
theorem oA (S:St) (ds nms:List Nat):Wk S (S.clear ds nms):=by
 refine ⟨fun w0 ω0 nt a w ⟨η,ω,h⟩=> ?_⟩
 let η':Env:= { η with h:=fun x=>bif bJ nms x then none else η.h x }
 have ht:AH η η' (bJ nms) qx:=fun y=>by
  cases hb:bJ nms y with
  | true=>exact .inl (by simp only [η',hb];rfl)
  | false=>exact .inr (.inl ⟨by simp only [η',hb];rfl,fun _=>rfl⟩)
 refine ⟨η',ω, { dfr:=h.dfr,tsz:=h.tsz,fr:=h.fr,slots:=fun t av hs=> ?_,phs:=fun t av hs=> ?_,mem:=⟨fun y c hy=> ?_,fun y hy=> ?_⟩ }⟩
 ·obtain ⟨_,h2,h1⟩:=nD hs
  obtain ⟨u,h3,h4⟩:=h.slots t av h1
  exact ⟨u,h3,h4.lP ht h2⟩
 ·obtain ⟨h1,h2⟩:=jh (b:=AV.bad (bJ nms) qx) hs
  obtain ⟨u,h3,h4⟩:=h.phs t av h1
  exact ⟨u,h3,h4.lP ht h2⟩
 ·obtain ⟨h1,c0,h2,rfl⟩:=oC hy
  obtain ⟨hd,h3,h4⟩:=h.mem.1 y c0 h2
  have hb:bJ nms y=false:=by
   cases hb:bJ nms y with
   | false=>rfl
   | true=>exact absurd (cC.1 hb) h1
  exact ⟨hd,by simp only [η',hb];exact h3,eD.lP (η:=η) (p:=fun _=>True) (Same.refl _ _ _) trivial (fun _=>trivial) (fun _=>rfl) ht h4⟩
 ·have hy:(bif bJ nms y then none else (S.ch y).map (Ch.clean (bJ nms) qx))=none:=hy
  cases hb:bJ nms y with
  | true=>simp only [η',hb];rfl
  | false=>
   rw [hb] at hy
   simp only [cond_false,Option.map_eq_none_iff] at hy
   simp only [η',hb]
   exact h.mem.2 y hy
theorem uG {S:St} {ds nms:List Nat} {adds:List Add} {cls:List (List Nat)} (ok:lX adds cls ds nms) {ℓ:Nat→Bool} {i:Nat} {A:Add} (hi:adds[i]? =some A) (hL:ℓ i=false) (hcl:∀j,ℓ j=true→i ∉ cls.getD j []):
  Wk (((S.clear ds nms).part ℓ adds).add A) ((S.clear ds nms).part (fun j=>Nat.beq j i || ℓ j) adds):=by
 have hno:∀(j:Nat) (B:Add),adds[j]? =some B→ℓ j=true→∀x c,A.news=some (x,c)→x ∉ B.names:=fun j B hj hlj x c hx hm=>by
  rcases sM ok.ment hj hi hx hm with h1 | h1
  ·subst h1;rw [hL] at hlj;cases hlj
  ·exact hcl j hlj h1
 have hat:A∈adds:=List.mem_of_getElem? hi
 refine Wk.less (fun t av h=> ?_) (fun x c h=> ?_) fun t av h=> ?_
 ·have h:(match vG (fun j=>Nat.beq j i || ℓ j) 0 adds t with | some av=>some av | none=>(S.clear ds nms).sl t)=some av:=h
  show ((((S.clear ds nms).part ℓ adds).C1 A.news).put A.t A.av).sl t=some av
  rw [kU]
  by_cases e:t=A.t
  ·subst e
   rw [oJ (ℓ:=fun j=>Nat.beq j i || ℓ j) (k:=0) hi (by simp) ok.t] at h
   rw [if_pos rfl];exact h
  ·rw [if_neg e]
   have h1:((S.clear ds nms).part ℓ adds).sl t=some av∧∀x c,A.news=some (x,c)→av.has x=false:=by
    split at h
    ·rename_i av' h1
     obtain rfl:=Option.some.inj h
     obtain ⟨j,B,h2,h3,rfl,rfl⟩:=fV h1
     rw [Nat.zero_add] at h3
     have hji:j≠i:=fun e'=>by subst e';rw [hi] at h2;obtain rfl:=Option.some.inj h2;exact e rfl
     have hlj:ℓ j=true:=by simpa [hji] using h3
     refine ⟨?_,fun x c hx=> ?_⟩
     ·show (match vG ℓ 0 adds B.t with | some av=>some av | none=>(S.clear ds nms).sl B.t)=some B.av
      rw [oJ (ℓ:=ℓ) (k:=0) h2 (by rw [Nat.zero_add];exact hlj) ok.t]
     ·cases hh:B.av.has x with
      | false=>rfl
      | true=>exact absurd (List.mem_append_left _ (AV.eP hh)) (hno j B h2 hlj x c hx)
    ·rename_i h0
     refine ⟨?_,fun x c hx=> ?_⟩
     ·show (match vG ℓ 0 adds t with | some av=>some av | none=>(S.clear ds nms).sl t)=some av
      cases h1:vG ℓ 0 adds t with
      | none=>exact h
      | some av'=>
       obtain ⟨j,B,h2,h3,rfl,rfl⟩:=fV h1
       rw [oJ (ℓ:=fun j=>Nat.beq j i || ℓ j) (k:=0) h2 (by rw [Nat.zero_add] at h3;simp [h3]) ok.t] at h0
       cases h0
     ·cases hh:av.has x with
      | false=>rfl
      | true=>
       have h5:=qX (nD h).2.1 (AV.eP hh)
       rw [cC.2 (ok.nms A hat x c hx)] at h5;cases h5
   cases hn:A.news with
   | none=>exact h1.1
   | some p=>
    obtain ⟨x,c⟩:=p
    show (((S.clear ds nms).part ℓ adds).new x c).sl t=some av
    unfold St.new
    simp only [h1.1,Option.bind_some,h1.2 x c hn,cond_false]
 ·have h:(match vH (fun j=>Nat.beq j i || ℓ j) 0 adds x with | some c=>some c | none=>(S.clear ds nms).ch x)=some c:=h
  show ((((S.clear ds nms).part ℓ adds).C1 A.news).put A.t A.av).ch x=some c
  show (((S.clear ds nms).part ℓ adds).C1 A.news).ch x=some c
  have old:(∀c',A.news≠some (x,c'))→((S.clear ds nms).part ℓ adds).ch x=some c∧∀y d,A.news=some (y,d)→y ∉ c.names:=fun hx=>by
   split at h
   ·rename_i c' h1
    obtain rfl:=Option.some.inj h
    obtain ⟨j,B,h2,h3,h4⟩:=fX h1
    rw [Nat.zero_add] at h3
    have hji:j≠i:=fun e'=>by subst e';rw [hi] at h2;obtain rfl:=Option.some.inj h2;exact hx _ h4
    have hlj:ℓ j=true:=by simpa [hji] using h3
    refine ⟨?_,fun y d hy hm=>hno j B h2 hlj y d hy (List.mem_append_right _ (by rw [h4];exact hm))⟩
    show (match vH ℓ 0 adds x with | some c=>some c | none=>(S.clear ds nms).ch x)=_
    rw [oP (ℓ:=ℓ) (k:=0) h2 (by rw [Nat.zero_add];exact hlj) h4 ok.n]
   ·rename_i h0
    refine ⟨?_,fun y d hy hm=> ?_⟩
    ·show (match vH ℓ 0 adds x with | some c=>some c | none=>(S.clear ds nms).ch x)=some c
     cases h1:vH ℓ 0 adds x with
     | none=>exact h
     | some c'=>
      obtain ⟨j,B,h2,h3,h4⟩:=fX h1
      rw [oP (ℓ:=fun j=>Nat.beq j i || ℓ j) (k:=0) h2 (by rw [Nat.zero_add] at h3;simp [h3]) h4 ok.n] at h0
      cases h0
    ·obtain ⟨_,c0,_,rfl⟩:=oC h
     have h5:=ye hm
     rw [cC.2 (ok.nms A hat y d hy)] at h5;cases h5
  cases hn:A.news with
  | none=>exact (old fun c'=>by rw [hn];simp).1
  | some p=>
   obtain ⟨y,d⟩:=p
   show (((S.clear ds nms).part ℓ adds).new y d).ch x=some c
   rw [vl]
   by_cases e:x=y
   ·subst e
    rw [if_pos rfl]
    rw [oP (ℓ:=fun j=>Nat.beq j i || ℓ j) (k:=0) hi (by simp) hn ok.n] at h
    exact h
   ·rw [if_neg e]
    obtain ⟨h1,h2⟩:=old fun c' he=>by rw [hn] at he;simp at he;exact e he.1.symm
    rw [h1,Option.map_some,Ch.oK (h2 y d hn)]
 ·have h:(S.clear ds nms).ph t=some av:=h
  show (((S.clear ds nms).part ℓ adds).C1 A.news).ph t=some av
  cases hn:A.news with
  | none=>exact h
  | some p=>
   obtain ⟨y,d⟩:=p
   show (((S.clear ds nms).part ℓ adds).new y d).ph t=some av
   have h':((S.clear ds nms).part ℓ adds).ph t=some av:=h
   unfold St.new
   obtain ⟨_,h2⟩:=jh (b:=AV.bad (bJ nms) qx) h
   have hh:av.has y=false:=by
    cases hh:av.has y with
    | false=>rfl
    | true=>
     have h5:=qX h2 (AV.eP hh)
     rw [cC.2 (ok.nms A hat y d hn)] at h5;cases h5
   simp only [h',Option.bind_some,hh,cond_false]
theorem oB (h:Sat w0 ω0 nt S a w):Sat w0 ω0 nt S a { w with drawn:=w.drawn + 1 } :=by
 obtain ⟨η,ω,h⟩:=h
 exact ⟨η,ω, { dfr:=h.dfr,tsz:=h.tsz,slots:=h.slots,phs:=h.phs,fr:=⟨h.fr.os,h.fr.tape,h.fr.output,h.fr.size,h.fr.block⟩,mem:=⟨fun x c hx=>by
          obtain ⟨hd,h1,h2⟩:=h.mem.1 x c hx
          exact ⟨hd,h1,eD.same (η:=η) (ω:=ω) (w:=w) (w':= { w with drawn:=w.drawn + 1 }) (p:=fun _=>True) ⟨Nat.le_refl _,fun _ _ _=>⟨rfl,rfl⟩⟩ trivial (fun _=>trivial) (fun _=>rfl) (fun l _ a _ z _=> .inr ⟨rfl,fun _=>rfl⟩) h2⟩,h.mem.2⟩ }⟩
structure Rest (P:Program) (w0:World) (ω0:lI) (nt:Nat) (ops:Array Oper) (Q:Exit→Act→World→Prop) (n:Nat) (L:Array Bool) (S:St):Prop where
 go:∀a w,Sat w0 ω0 nt S a w→wpAny P .any ops Q n L a w
def eS (nA:Nat) (sk:List Nat) (n:Nat):Array Bool:=((List.range n).map fun j=>Nat.blt j nA && !bJ sk j).toArray
theorem lH {nA n j:Nat} {sk:List Nat} (h:j < n):(eS nA sk n)[j]? =some (Nat.blt j nA && !bJ sk j):=by
 unfold eS;simp [h]
theorem AX {l:List Oper} {nA:Nat} {sk:List Nat} {cls:List (List Nat)} {ds nms:List Nat} {adds done:List Add} (hcl:CX l.toArray nA sk cls) (hdr:fJ P nt (S.clear ds nms) cls sk (l.take nA) [] done) (hdn:done.reverse=adds) (ok:lX adds cls ds nms)
  (hk:Rest P w0 ω0 nt l.toArray Q (l.length - missing sk #[] nA) (eS nA sk l.length) ((S.clear ds nms).part (fun j=> !bJ sk j) adds)):
  ∀(d:Nat) (L:Array Bool) (a:Act) (w:World),missing sk L nA=d→L.size=l.length→(∀j,L.getD j false=true→j < nA∧bJ sk j=false)→(∀i,L.getD i false=true→∀j∈cls.getD i [],L.getD j false=true)→
   Sat w0 ω0 nt ((S.clear ds nms).part (fun j=>L.getD j false) adds) a w→wpAny P .any l.toArray Q (l.length - missing sk #[] nA + d) L a w:=by
 have hsz:nA≤l.length:=by have:=hcl.size;simpa using this
 obtain ⟨⟨r,hr,hrl⟩,hob⟩:=hdr.spec
 rw [hdn] at hr hob
 have hal:adds.length=nA:=by rw [hr];simp [hrl];omega
 have hfull:∀(L:Array Bool) (i:Nat),i∈Region.ready .any l.toArray L→(∀i,L.getD i false=true→∀j∈cls.getD i [],L.getD j false=true)→(∃o,l.toArray[i]? =some o∧L.getD i true=false)∧∀j∈cls.getD i [],L.getD j false=true:=by
  intro L i hi hclosed
  obtain ⟨h0,o,ho,he⟩:=mem_ready.1 hi
  refine ⟨⟨o,ho,h0⟩,fun j hj=> ?_⟩
  obtain ⟨e,hem,hb,hje⟩:=hcl.dep i o ho j hj
  have h1:=he e hem hb
  rcases hje with rfl | hje
  ·exact h1
  ·exact hclosed e.on h1 j hje
 intro d
 induction d with
 | zero=>
  intro L a w hm hs hsub hclosed hsat
  have hall:=ei hm
  have hL:L=eS nA sk l.length:=by
   apply Array.ext
   ·simp [hs,eS]
   ·intro j h1 h2
    have h3:L[j]? =some L[j]:=Array.getElem?_eq_getElem h1
    have h4:=lH (nA:=nA) (sk:=sk) (n:=l.length) (j:=j) ab
    rw [Array.getElem?_eq_getElem h2] at h4
    rw [Option.some.inj h4]
    cases hb:L[j] with
    | true=>
     have:=hsub j (by simp [h1,hb])
     simp [this.1,this.2]
    | false=>
     by_cases hj:j < nA
     ·cases hsk:bJ sk j with
      | true=>simp
      | false=>
       have:=hall j hj hsk
       simp [h1,hb] at this
     ·simp [hj]
  refine hk.go a w ((St.le.wk (oz (ℓ1:=fun j=> !bJ sk j) (ℓ2:=fun j=>L.getD j false) ok (fun _ _ h=>h) fun j A hj hsk=> ?_) fun _ _ h=>h).go _ _ _ a w hsat) |> fun h=>by rw [←hL] at h;exact h
  have hjl:j < adds.length:=(List.getElem?_eq_some_iff.1 hj).1
  exact hall j ab (by simpa using hsk)
 | succ d ih=>
  intro L a w hm hs hsub hclosed hsat
  refine ⟨fun hnil=> ?_,fun i hi=> ?_⟩
  ·exfalso
   obtain ⟨j,hj,hjs',hjf,hlo⟩:=gb (k:=nA) (by omega:missing sk L nA≠0)
   have hjl:j < l.length:=by omega
   have hjs:j < L.size:=by omega
   have:j∈Region.ready .any l.toArray L:=by
    refine mem_ready.2 ⟨?_,l[j],by simp [hjl],fun e he hb=> ?_⟩
    ·simp [hjs] at hjf ⊢
     exact hjf
    ·have h5:=hcl.less j l[j] (by simp [hjl]) hj hjs' e he hb
     exact hlo e.on h5.1 h5.2
   rw [hnil] at this;cases this
  ·obtain ⟨⟨o,ho,hi0⟩,hdep⟩:=hfull L i hi hclosed
   have hil:i < l.length:=by have:=(Array.getElem?_eq_some_iff.1 ho).1;simpa using this
   have his:i < L.size:=by omega
   have hif:L.getD i false=false:=by simp [his] at hi0 ⊢;exact hi0
   have hnl:¬(nA≤i∨bJ sk i=true):=fun h=>by
    have:=eJ (sk:=sk) (L:=L) (k:=nA) fun j hj hsk=>hdep j (hcl.late i o ho h j hj hsk)
    omega
   have hiA:i < nA:=by
    rcases Nat.lt_or_ge i nA with h | h
    ·exact h
    ·exact absurd (.inl h) hnl
   have hisk:bJ sk i=false:=by
    cases hsk:bJ sk i with
    | false=>rfl
    | true=>exact absurd (.inr hsk) hnl
   have hot:(l.take nA)[i]? =some o:=by rw [List.getElem?_take,if_pos hiA];simpa using ho
   obtain ⟨A,hA,hg,hstp⟩:=hob i o hot (by simpa using hisk)
   simp only [List.length_nil,Nat.zero_add] at hA hstp
   have hle:((S.clear ds nms).gD (bJ (cls.getD i [])) (adds.take i).reverse).le ((S.clear ds nms).part (fun j=>L.getD j false) adds):=gR ok (fun j B hj=>by
     rw [List.reverse_reverse] at hj
     rw [List.getElem?_take] at hj;split at hj
     ·exact hj
     ·cases hj) fun j B _ hj=>hdep j (cC.1 hj)
   have hst:=(hstp _ hle).go w0 ω0 a w Q hsat
   unfold wpOp
   simp only [ho]
   rw [if_pos (by simp [Region.wanted,hg])]
   refine .inl (Oper.wp_mono (fun a' w' hsat'=> ?_) hst)
   have hsat2:=(uG ok hA hif fun j hj hm'=>by have:=hclosed j hj i hm';rw [hif] at this;cases this).go _ _ _ a' w' hsat'
   have hnew:∀j,(L.setIfInBounds i true).getD j false=(Nat.beq j i || L.getD j false):=fun j=>by
    by_cases e:j=i
    ·subst e;simp [his]
    ·rw [getD_set_ne false (fun e'=>e e'.symm),dC e,Bool.false_or]
   refine ih (L.setIfInBounds i true) a' w' ?_ (by simp [hs]) (fun j hj=> ?_) (fun j hj k hk'=> ?_) ?_
   ·have:=iy his hif hisk nA hiA;omega
   ·rw [hnew] at hj
    by_cases e:j=i
    ·rw [e];exact ⟨hiA,hisk⟩
    ·rw [dC e,Bool.false_or] at hj;exact hsub j hj
   ·rw [hnew] at hj ⊢
    by_cases e:j=i
    ·subst e;rw [hdep k hk'];simp
    ·rw [dC e,Bool.false_or] at hj;rw [hclosed j hj k hk'];simp
   ·have:(fun j=>(L.setIfInBounds i true).getD j false)=fun j=>(Nat.beq j i || L.getD j false):=funext hnew
    rw [this];exact hsat2
def nodupB:List Nat→Bool
 | []=>true
 | x :: r=> !bJ r x && nodupB r
theorem jM:∀ {l:List Nat},nodupB l=true→l.Nodup
 | [],_=>List.nodup_nil
 | x :: r,h=>by
  simp only [nodupB,Bool.and_eq_true,Bool.not_eq_true'] at h
  exact List.nodup_cons.2 ⟨fun hm=>(by rw [cC.2 hm] at h;cases h.1),jM h.2⟩
def uk (adds:List Add) (cls:List (List Nat)) (ds nms:List Nat):Bool:=
 nodupB (adds.map (·.t)) && nodupB (j5 adds) && (adds.all fun A=>bJ ds A.t) && ((j5 adds).all fun x=>bJ nms x) && qQ cls adds
theorem fc {adds:List Add} {cls:List (List Nat)} {ds nms:List Nat} (h:uk adds cls ds nms=true):lX adds cls ds nms:=by
 simp only [uk,Bool.and_eq_true] at h
 obtain ⟨⟨⟨⟨h1,h2⟩,h3⟩,h4⟩,h5⟩:=h
 exact ⟨jM h1,jM h2,fun A hA=>cC.1 (List.all_eq_true.1 h3 A hA),fun A hA x c hx=>cC.1 (List.all_eq_true.1 h4 x (List.mem_filterMap.2 ⟨A,hA,by rw [hx];rfl⟩)),h5⟩
theorem eC {id:Nat} {l:List Oper} (nA:Nat) (sk:List Nat) (cls:List (List Nat)) (ds nms:List Nat) {done:List Add} (hm:P.follows .mixedOrders=true) (hcl:Ei l.toArray nA sk cls=true) (hdr:fJ P nt (S.clear ds nms) cls sk (l.take nA) [] done) (ok:uk done.reverse cls ds nms=true)
  (hk:Rest P w0 ω0 nt l.toArray Q (l.length - missing sk #[] nA) (eS nA sk l.length) ((S.clear ds nms).gD (fun j=> !bJ sk j) done)):fZ P w0 ω0 nt S (.region id l.toArray true) Q:=by
 have hc:=ud hcl
 have hsz:nA≤l.length:=by have:=hc.size;simpa using this
 have hk':Rest P w0 ω0 nt l.toArray Q (l.length - missing sk #[] nA) (eS nA sk l.length) ((S.clear ds nms).part (fun j=> !bJ sk j) done.reverse):=
  ⟨fun a w hs=>hk.go a w ((St.le.wk (gR (fc ok) (fun _ _ h=>h) fun _ _ _ h=>h) fun _ _ h=>h).go _ _ _ a w hs)⟩
 have hle:∀k,missing sk #[] k≤k:=fun k=>by
  induction k with
  | zero=>exact Nat.le_refl _
  | succ k ih=>simp only [missing];split<;>omega
 refine ⟨fun a w hs=>wp_region_any hm ?_⟩
 have hfin:=AX hc hdr rfl (fc ok) hk' (missing sk #[] nA) (Array.replicate l.length false) a { w with drawn:=w.drawn + 1 } ?_ (by simp) (fun j hj=> ?_) (fun i hi=> ?_) ?_
 ·have:=hle nA
  rw [show l.length - missing sk #[] nA + missing sk #[] nA=l.length by omega] at hfin
  simpa using hfin
 ·have:∀k,k≤l.length→missing sk (Array.replicate l.length false) k=missing sk #[] k:=fun k=>by
   induction k with
   | zero=>intro _;rfl
   | succ k ih=>
    intro hk
    simp only [missing]
    rw [ih ab]
    have:(Array.replicate l.length false).getD k false=false:=by simp [show k < l.length by omega]
    rw [this];rfl
  exact this nA hsz
 ·exfalso
  by_cases h:j < l.length
  ·simp [h] at hj
  ·simp [h] at hj
 ·exfalso
  by_cases h:i < l.length
  ·simp [h] at hi
  ·simp [h] at hi
 ·have h1:=(oA S ds nms).go _ _ _ a _ (oB hs)
  have hf:∀j,(Array.replicate l.length false).getD j false=false:=fun j=>by
   by_cases h:j < l.length<;>simp [h]
  refine (Wk.less (S:=S.clear ds nms) (S':=(S.clear ds nms).part (fun j=>(Array.replicate l.length false).getD j false) done.reverse) (fun t av h=> ?_) (fun x c h=> ?_) fun _ _ h=>h).go _ _ _ a _ h1
  ·have h:(match vG (fun j=>(Array.replicate l.length false).getD j false) 0 done.reverse t with | some av=>some av | none=>(S.clear ds nms).sl t)=some av:=h
   split at h
   ·rename_i av' h2
    obtain ⟨j,A,_,h3,_⟩:=fV h2
    rw [hf] at h3;cases h3
   ·exact h
  ·have h:(match vH (fun j=>(Array.replicate l.length false).getD j false) 0 done.reverse x with | some c=>some c | none=>(S.clear ds nms).ch x)=some c:=h
   split at h
   ·rename_i av' h2
    obtain ⟨j,A,_,h3,_⟩:=fX h2
    rw [hf] at h3;cases h3
   ·exact h
theorem Oper.Dg {o:Oper} {K K':Act→World→Prop} {Q':Exit→Act→World→Prop} (h:∀a w,K a w→K' a w) (hq:∀e a w,Q e a w→Q' e a w) (hh:o.wp P a w K Q):o.wp P a w K' Q':=by
 unfold Oper.wp at *
 generalize (execOp a.eval o).run P w=r at *
 cases r with
 | ok n w'=>
  cases n<;>simp only [Oper.upon] at hh ⊢<;>
   first
    | exact h _ _ hh
    | exact Calls.mono hh (fun e w'' he=>by cases e<;>first | exact h _ _ he | exact hq _ _ _ he | (obtain ⟨a,w,hl⟩:=he;exact ⟨a,w,hq _ _ _ hl⟩))
    | exact Rows.mono hh (fun _ _ he=>h _ _ he)
 | halt x w'=>cases x<;>simp only [Oper.upon] at hh ⊢<;>first | exact hh | exact hq _ _ _ hh
theorem kR {ops:Array Oper} {Q':Exit→Act→World→Prop} (hq:∀e a w,Q e a w→Q' e a w):∀(n:Nat) (L:Array Bool) (a:Act) (w:World),wpAny P .any ops Q n L a w→wpAny P .any ops Q' n L a w
 | 0,_,_,_,h=>⟨h.1,hq _ _ _ h.2⟩
 | n + 1,L,a,w,h=>⟨fun h0=>hq _ _ _ (h.1 h0),fun i hi=>by
  have h1:=h.2 i hi
  unfold wpOp at h1 ⊢
  split
  ·rename_i ho;simp only [ho] at h1;exact kR hq n _ _ _ h1
  ·rename_i o ho
   simp only [ho] at h1
   split
   ·rename_i hw
    simp only [hw,if_true] at h1
    rcases h1 with h1 | ⟨h1,a',w',h2⟩
    ·exact .inl (Oper.Dg (fun a w=>kR hq n _ a w) hq h1)
    ·exact .inr ⟨h1,a',w',hq _ _ _ h2⟩
   ·rename_i hw;simp only [hw] at h1;exact kR hq n _ _ _ h1⟩
theorem j8 {N:Nat} {ops:Array Oper} {L:Array Bool} (S':St) (h:Rest P w0 ω0 nt ops (fun e a w=>e= .normal∧Sat w0 ω0 nt S' a w) N L S) (k:Fin w0 ω0 nt S' .normal Q):Rest P w0 ω0 nt ops Q N L S:=
 ⟨fun a w hs=>kR (fun e a w he=>by obtain ⟨rfl,h2⟩:=he;exact k.go a w h2) _ _ _ _ (h.go a w hs)⟩
theorem bl {n:Nat} {ops:Array Oper} {L:Array Bool} (hr:Region.ready .any ops L= []) (h:Fin w0 ω0 nt S .normal Q):Rest P w0 ω0 nt ops Q n L S:=⟨fun a w hs=>wpAny_done hr (h.go a w hs) n⟩
theorem aG {N:Nat} (i:Nat) {ops:Array Oper} {L:Array Bool} {o:Oper} (hN:Nat.blt 0 N=true) (hr:Region.ready .any ops L= [i]) (ho:ops[i]? =some o) (hg:o.guard=none) (h:dx P nt o S S1) (k:Rest P w0 ω0 nt ops Q (N - 1) (L.setIfInBounds i true) S1):Rest P w0 ω0 nt ops Q N L S:=by
 have hN':0 < N:=by simpa using hN
 obtain ⟨n,rfl⟩:∃n,N=n + 1:=⟨N - 1,ab⟩
 exact ⟨fun a w hs=>wpAny_all hr (by simp) fun i' hi'=>by
  simp at hi';subst hi'
  unfold wpOp
  simp only [ho]
  rw [if_pos (by simp [Region.wanted,hg])]
  exact .inl (Oper.wp_mono (fun a' w' h'=>k.go a' w' h') (h.go w0 ω0 a w Q hs))⟩
theorem cG {N:Nat} (i j:Nat) {ops:Array Oper} {L:Array Bool} {o o':Oper} {S2:St} (hN:Nat.blt 0 N=true) (hr:Region.ready .any ops L= [i,j]) (ho:ops[i]? =some o) (ho':ops[j]? =some o') (hg:o.guard=none) (hg':o'.guard=none) (h:dx P nt o S S1) (h':dx P nt o' S S2)
  (k:Rest P w0 ω0 nt ops Q (N - 1) (L.setIfInBounds i true) S1) (k':Rest P w0 ω0 nt ops Q (N - 1) (L.setIfInBounds j true) S2):Rest P w0 ω0 nt ops Q N L S:=by
 have hN':0 < N:=by simpa using hN
 obtain ⟨n,rfl⟩:∃n,N=n + 1:=⟨N - 1,ab⟩
 exact ⟨fun a w hs=>wpAny_all hr (by simp) fun i' hi'=>by
  simp at hi'
  rcases hi' with rfl | rfl
  ·unfold wpOp
   simp only [ho]
   rw [if_pos (by simp [Region.wanted,hg])]
   exact .inl (Oper.wp_mono (fun a' w' h'=>k.go a' w' h') (h.go w0 ω0 a w Q hs))
  ·unfold wpOp
   simp only [ho']
   rw [if_pos (by simp [Region.wanted,hg'])]
   exact .inl (Oper.wp_mono (fun a' w' h'=>k'.go a' w' h') (h'.go w0 ω0 a w Q hs))⟩
end
end Go.Proofs.Ytfpcfckocmmcnaa
namespace Go.Proofs.Ytfpcfckocmmcnaa
open Go.RowKit
section
variable {P:Program} {nt:Nat} {w0 w:World} {ω0:lI} {S S1:St} {Q:Exit→Act→World→Prop} {cls:List (List Nat)} {sk:List Nat} {o:Oper} {rest:List Oper} {done all:List Add}
theorem dx.wk {S2 S3:St} (h:dx P nt o S S2) (k:Wk S2 S3):dx P nt o S S3:=
 ⟨fun w0 ω0 a w Q hs=>Oper.wp_mono (fun a' w' h'=>k.go _ _ _ a' w' h') (h.go w0 ω0 a w Q hs)⟩
theorem aE {t:Nat} {av:AV} (hg:o.guard=none) (h:∀S1,(S.gD (bJ (cls.getD done.length [])) done).le S1→dx P nt o S1 (S1.put t av)) (k:fJ P nt S cls sk rest (⟨t,av,none⟩ :: done) all):fJ P nt S cls sk (o :: rest) done all:= .cons ⟨t,av,none⟩ hg h k
theorem ju {t:Nat} {av:AV} {x:Nm} {c:Ch} (hg:o.guard=none) (h:∀S1,(S.gD (bJ (cls.getD done.length [])) done).le S1→dx P nt o S1 ((S1.new x c).put t av)) (k:fJ P nt S cls sk rest (⟨t,av,some (x,c)⟩ :: done) all):fJ P nt S cls sk (o :: rest) done all:= .cons ⟨t,av,some (x,c)⟩ hg h k
theorem ml (hs:bJ sk done.length=true) (k:fJ P nt S cls sk rest (⟨1000000 + done.length, .tup [],none⟩ :: done) all):fJ P nt S cls sk (o :: rest) done all:= .skip _ hs k
theorem uC {k:Nm→Bool} (a:A1):a.bad (jo []) k=false:=by
 cases a<;>first | rfl | skip
 rename_i f xs
 show xs.any (fun p=>jo [] p.1 && !k p.1)=false
 induction xs with
 | nil=>rfl
 | cons p r ih=>simp [jo,lk] at ih ⊢
theorem vX {k:Nm→Bool} (a:AV):a.bad (jo []) k=false:=by
 have h2:∀b:A2,b.bad (jo []) k=false:=fun b=>by
  cases b with
  | one b=>exact uC b
  | agg l=>exact List.any_eq_false.2 fun b _=>by rw [uC b];simp
 cases a with
 | s b=>exact h2 b
 | tup l=>exact List.any_eq_false.2 fun b _=>by rw [h2 b];simp
theorem AE {k:Nm→Bool} (c:Ch):c.clean (jo []) k=c:=by
 obtain ⟨ow,E,kk,d⟩:=c
 unfold Ch.clean fQ.clean
 cases d with
 | flat l=>
  have:(l.map fun a=>bif a.bad (jo []) k then A1.any else a)=l:=by
   conv=>rhs;rw [←List.map_id l]
   exact List.map_congr_left fun a _=>by rw [uC a];rfl
  simp only [this]
 | cz vs=>rfl
 | rows F vss hs=>rfl
 | mix cs=>rfl
theorem Ca {ins:List (Nm×Ch)} {t:Nat} {res:AV} (hro:(ins.all fun p=> !p.2.own)=true):Wk ((S.after ins [] []).G7 (some t) res) (S.put t res):=by
 have hc:∀x,gC ins x=false:=fun x=>by
  unfold gC
  cases h:lk x ins with
  | none=>rfl
  | some c=>have:=List.all_eq_true.1 hro _ (k8 h);simpa using this
 refine Wk.less (fun t' av h=> ?_) (fun x c h=> ?_) fun t' av h=> ?_
 ·rw [kU] at h
  show ((S.after ins [] []).put t res).sl t'=some av
  rw [kU]
  by_cases e:t'=t
  ·rw [if_pos e] at h ⊢;exact h
  ·rw [if_neg e] at h ⊢
   show ((S.sl t').bind fun av=>bif av.bad (jo []) (iZ []) then none else some av)=some av
   rw [h,Option.bind_some,vX];rfl
 ·show (match lk x [] with | some c=>some c | none=>bif gC ins x then none else (S.ch x).map (Ch.clean (jo []) (iZ [])))=some c
  have h:S.ch x=some c:=h
  simp only [lk,hc,cond_false,h,Option.map_some,AE]
 ·have h:S.ph t'=some av:=h
  show ((S.ph t').bind fun av=>bif av.bad (jo []) (iZ []) then none else some av)=some av
  rw [h,Option.bind_some,vX];rfl
theorem cL (h:S.le S1):∀ {l:List (Nm×Ch)},rL S l→rL S1 l
 | [],_=>trivial
 | (x,c) :: r,hl=>⟨have ⟨c',h1,h2⟩:=hl.1;⟨c',h.ch _ _ h1,h2⟩,cL h hl.2⟩
theorem dG (h:S.le S1):∀ {l:List Operand} {m:List AV},EX S l=some m→EX S1 l=some m
 | [],_,hl=>hl
 | x :: r,m,hl=>by
  simp only [EX,Option.bind_eq_some_iff,Option.map_eq_some_iff] at hl ⊢
  obtain ⟨av,hx,l,hl,rfl⟩:=hl
  exact ⟨av,h.op hx,l,dG h hl,rfl⟩
theorem aI {S2:St} (f:FuncId) {d:Option Nat} {xs:Array Operand} {ts:Array TypeId} {ty:TypeId} {ps:String} {af:Array Edge} {gd:Option (Nat×Bool)} (h:dx P nt ⟨d, .call { callee:= .value (.func f),args:=xs,argTypes:=ts },ty,ps,af,gd⟩ S S2):
  dx P nt ⟨d, .call { callee:= .value (.func f),args:=xs,argTypes:=ts },ty,ps,af,gd⟩ S S2:=h
theorem aL {f:FuncId} {xs:Array Operand} {ts:Array TypeId} {t:Nat} {ty:TypeId} {ps:String} {af:Array Edge} {gd:Option (Nat×Bool)} {ins:List (Nm×Ch)} {args args':List AV} {res:AV} {back:List (Nat×AV)}
  (hfc:FC P f ins args [] res back) (hf:yf P f=true) (ht:Nat.blt t nt=true) (hx':EX S xs.toList=some args') (hto:xF args' args) (hin:rL S ins) (hro:(ins.all fun p=> !p.2.own)=true) (hnr:(res.names.all (jo []))=true):
  dx P nt ⟨some t, .call { callee:= .value (.func f),args:=xs,argTypes:=ts },ty,ps,af,gd⟩ S (S.put t res):=
 (cX (kp:= []) hfc hf (by simp [ht]) hx' hto hin trivial hnr rfl).wk (Ca hro)
end
end Go.Proofs.Ytfpcfckocmmcnaa
namespace Go.Proofs.Ytfpcfckocmmcnaa
open Go.RowKit
section
variable {P:Program} {nt:Nat} {S S':St} {w0 w:World} {ω0:lI} {ω:bW} {η:Env} {a:Act}
variable {t:Nat} {ty:TypeId} {ps:String} {af:Array Edge} {gd:Option (Nat×Bool)} {x y:Operand} {av:AV}
theorem dc {T:TypeId} (zs:List Value) (ht:Nat.blt t nt=true) (hz:((P.info? T).bind (·.zero)).map (fun v=>v.cells.toList)=some zs):
  dx P nt ⟨some t, .alloc T,ty,ps,af,gd⟩ S ((S.new t ⟨true,T,zs.length, .flat (zs.map .val)⟩).put t (o1 (.ptr t 0))):=by
 simp only [Option.map_eq_some_iff,Option.bind_eq_some_iff] at hz
 obtain ⟨z,⟨i,hi,hz⟩,rfl⟩:=hz
 have:=Bx (P:=P) (nt:=nt) (S:=S) (t:=t) (ty:=ty) (ps:=ps) (af:=af) (gd:=gd) ht hi hz
 simpa using this
theorem AR {T E F:Nat} (ht:Nat.blt t nt=true) (hT:tS P T E 1=true):
  dx P nt ⟨some t, .buildSlice T 0 #[],ty,ps,af,gd⟩ S ((S.new t ⟨true,E,1, .rows F (bU []) []⟩).put t (o1 (.sl t 0 0))):=
 dx.of _ fun w0 ω0 η ω a w hs=>by
  obtain ⟨i,z,h1,h2,h3,h4,h5,h6⟩:=fW hT
  refine ⟨.slice (some ⟨w.heap.size,0,none⟩) 0 0,w.alloc (.cells #[] E),by simp [execOp,Instr.buildSlice,run_underlying h1,sizeOf,typeInfo,h2,Instr.fill,newRow,D0], ?_⟩
  have hal:=hs.alloc (x:=t) (c:=⟨true,E,1, .rows F (bU []) []⟩) (cs:= #[]) (r:=fun _=>⟨none,0,1⟩) (n:=0) rfl (by simp) (by simp [fQ.len,bU]) (by simp [maxLen]) fun j hj=>absurd hj (by simp [fQ.len,bU])
  exact ⟨_,_,hal.iP (by simpa using ht) gE⟩
theorem cN {T E:Nat} {x0:Operand} {z0:Int} (ht:Nat.blt t nt=true) (hT:tS P T E 1=true) (hx:S.op x0=some (vv (I6 z0))):
  dx P nt ⟨some t, .buildSlice T 1 #[(0,x0)],ty,ps,af,gd⟩ S ((S.new t ⟨true,E,1, .cz (aV [z0])⟩).put t (o1 (.sl t 0 1))):=
 dx.of _ fun w0 ω0 η ω a w hs=>by
  obtain ⟨i,z,k1,k2,k3,k4,k5,k6⟩:=fW hT
  have h0:=hs.nY hx
  refine ⟨.slice (some ⟨w.heap.size,0,none⟩) 1 1,w.alloc (.cells #[I6 z0] E), ?_, ?_⟩
  ·simp [execOp,Instr.buildSlice,run_underlying k1,sizeOf,typeInfo,k2,k3,zeroValue,k5,Instr.fill,newRow,h0,Value.cells,zC]
  ·have hal:=hs.alloc (x:=t) (c:=⟨true,E,1, .cz (aV [z0])⟩) (cs:= #[I6 z0]) (r:=fun _=>⟨none,0,1⟩) (n:=1) rfl (by simp) (by simp [fQ.len,aV]) (by simp [maxLen]) fun j hj=>by
    have hj0:j=0:=by simp [fQ.len,aV] at hj;omega
    subst hj0
    exact ⟨I6 z0,by simp,rfl⟩
   exact ⟨_,_,hal.iP (by simpa using ht) gE⟩
theorem fo {T E n q len:Nat} {c:Ch} {zs:List Int} {z:Int} (ht:Nat.blt t nt=true) (hT:tS P T E 1=true) (hx:S.op x=some (o1 (.sl n 0 len))) (hc:S.ch n=some c) (hce:c=⟨true,E,1, .cz (aV zs)⟩) (hl:zs.length=len)
  (hy:S.op y=some (o1 (.sl q 0 1))) (hq:S.ch q=some ⟨true,E,1, .cz (aV [z])⟩) (hb:len + 1≤2199023255552):
  dx P nt ⟨some t, .call { callee:= .builtin .append,args:= #[x,y],argTypes:= #[T,T] },ty,ps,af,gd⟩ S ((S.new n ⟨true,E,1, .cz (aV (zs ++ [z]))⟩).put t (o1 (.sl n 0 (len + 1)))):=by
 have:=zD (P:=P) (nt:=nt) (ty:=ty) (ps:=ps) (af:=af) (gd:=gd) (vs:=aV zs) (news:=aV [z]) (m:=1) (k:=1) ht hT rfl hx hc hce rfl (by rw [bD];omega) hy (AD hq rfl rfl rfl) ab (by intro v hv;simp [aV] at hv;subst hv;rfl) hb
 rw [Nat.zero_mul,List.drop_zero,show aV zs ++ aV [z]=aV (zs ++ [z]) from Bp zs z] at this
 exact this
theorem lO {T E F n z q len m:Nat} {zss:List (List Int)} {zs:List Int} (ht:Nat.blt t nt=true) (hT:tS P T E 1=true) (hx:S.op x=some (o1 (.sl n 0 len))) (hc:S.ch n=some ⟨true,E,1, .rows F (bU zss) []⟩) (hl:zss.length=len)
  (hy:S.op y=some (o1 (.sl q 0 1))) (hq:S.ch q=some ⟨true,E,1, .flat [.sl z 0 m]⟩) (hz:S.ch z=some ⟨true,F,1, .cz (aV zs)⟩) (hm:zs.length=m) (hzn:Nat.beq z n=false) (hb:len + 1≤2199023255552):
  dx P nt ⟨some t, .call { callee:= .builtin .append,args:= #[x,y],argTypes:= #[T,T] },ty,ps,af,gd⟩ S (((S.rm z).new n ⟨true,E,1, .rows F (bU (zss ++ [zs])) []⟩).put t (o1 (.sl n 0 (len + 1)))):=by
 have:=sO (P:=P) (nt:=nt) (ty:=ty) (ps:=ps) (af:=af) (gd:=gd) ht hT hx hc (by rw [cB];exact hl) hy hq hz (by rw [bD];exact hm) hzn hb
 rwa [BS] at this
theorem jK {T:TypeId} {n:Nm} {i:Nat} {c:Ch} {zs:List Int} {z:Int} (hx:S.op x=some (o1 (.ptr n i))) (hy:S.op y=some (vv (I6 z))) (hc:S.ch n=some c) (hown:c.own=true) (hd:c.d= .cz (aV zs)) (hi:i < zs.length) (hT:jJ P T 1=true):
  dx P nt ⟨none, .store T x y,ty,ps,af,gd⟩ S (S.set n { c with d:= .cz (aV (zs.set i z)) }):=by
 have:=qo (P:=P) (nt:=nt) (ty:=ty) (ps:=ps) (af:=af) (gd:=gd) hx hy hc hown hd (by rw [bD];exact hi) hT rfl
 rwa [tP] at this
def eo (zss:List (List Int)) (i j:Nat) (z:Int):List (List Int):=zss.set i ((aT zss i).set j z)
theorem ct {T:TypeId} {n:Nm} {i j:Nat} {c:Ch} {E:TypeId} {zss:List (List Int)} {z:Int} (hx:S.op x=some (o1 (.eptr n i j))) (hy:S.op y=some (vv (I6 z))) (hc:S.ch n=some c) (hown:c.own=true)
  (hd:c.d= .rows E (bU zss) []) (hi:i < zss.length) (hj:j < (aT zss i).length) (hT:jJ P T 1=true):dx P nt ⟨none, .store T x y,ty,ps,af,gd⟩ S (S.set n { c with d:= .rows E (bU (eo zss i j z)) [] }):=by
 have:=yB (P:=P) (nt:=nt) (ty:=ty) (ps:=ps) (af:=af) (gd:=gd) hx hy hc hown hd (by simp) (bV hi) (by rw [bD];exact hj) hT rfl
 rwa [tP,tj] at this
end
section
variable {P:Program} {nt:Nat} {w0:World} {ω0:lI} {S S1 S':St} {Q:Exit→Act→World→Prop}
theorem AS (S':St) {c:Operand} {x y:Code} {b:Bool} (hc:S.op c=some (vv (.bool b))) (ht:b=true→fZ P w0 ω0 nt S x (fun e a w=>e= .normal∧Sat w0 ω0 nt S' a w)) (hf:b=false→fZ P w0 ω0 nt S y (fun e a w=>e= .normal∧Sat w0 ω0 nt S' a w)) (k:Fin w0 ω0 nt S' .normal Q):
  fZ P w0 ω0 nt S (.cond c x y) Q:=bf hc (fun h=>⟨fun a w hs=>Code.wp_mono (fun e a w he=>by obtain ⟨rfl,h2⟩:=he;exact k.go a w h2) ((ht h).go a w hs)⟩) (fun h=>⟨fun a w hs=>Code.wp_mono (fun e a w he=>by obtain ⟨rfl,h2⟩:=he;exact k.go a w h2) ((hf h).go a w hs)⟩)
end
end Go.Proofs.Ytfpcfckocmmcnaa
namespace Go.Proofs.Ytfpcfckocmmcnaa
def kP (less:List Int):Nat→Nat→Nat
 | 0,c=>c
 | f + 1,c=>if aD less c=c then c else kP less f (aD less c).toNat
def Down (less:List Int):Prop:=∀c,c < less.length→0≤aD less c∧aD less c≤c
def root (less:List Int) (c:Nat):Nat:=kP less (c + 1) c
theorem xU {less:List Int} (hd:Down less):∀(f f' c:Nat),c < less.length→c < f→c < f'→kP less f c=kP less f' c:=by
 intro f
 induction f with
 | zero=>intro f' c _ h;omega
 | succ f ih=>
  intro f' c hc h h'
  cases f' with
  | zero=>omega
  | succ f'=>
   unfold kP
   by_cases e:aD less c=c
   ·rw [if_pos e,if_pos e]
   ·rw [if_neg e,if_neg e]
    have h1:=hd c hc
    exact ih f' _ ab ab ab
theorem de {less:List Int} {c:Nat} (h:aD less c=c):root less c=c:=by unfold root kP;rw [if_pos h]
theorem fO {less:List Int} (hd:Down less) {c:Nat} (hc:c < less.length) (h:aD less c≠c):root less c=root less (aD less c).toNat:=by
 have h1:=hd c hc
 unfold root
 rw [show kP less (c + 1) c=kP less c (aD less c).toNat by rw [kP,if_neg h]]
 exact xU hd _ _ _ ab ab ab
theorem eE {less:List Int} (hd:Down less):∀c,c < less.length→aD less (root less c)=root less c∧root less c≤c:=by
 intro c
 induction c using Nat.strongRecOn with
 | _ c ih=>
  intro hc
  by_cases e:aD less c=c
  ·rw [de e];exact ⟨e,Nat.le_refl _⟩
  ·have h1:=hd c hc
   rw [fO hd hc e]
   have:=ih (aD less c).toNat ab ab
   exact ⟨this.1,ab⟩
theorem cZ {less:List Int} (hd:Down less) {c:Nat} (hc:c < less.length):root less c < less.length:=Nat.lt_of_le_of_lt (eE hd c hc).2 hc
def bT (im:List (List Int)) (c g:Nat):Int:=aD (aT im c) g
def image (im:List (List Int)) (less:List Int) (c g:Nat):Int:=if bT im c g < 0 then -1 else root less (bT im c g).toNat
theorem cO {zs:List Int} {i j:Nat} {z:Int} :aD (zs.set i z) j=if i=j∧i < zs.length then z else aD zs j:=by
 simp only [aD,List.getD_eq_getElem?_getD,List.getElem?_set]
 by_cases h:i=j
 ·subst h
  by_cases h2:i < zs.length
  ·simp [h2]
  ·simp [h2]
 ·simp [h]
theorem nT {zss:List (List Int)} {i j:Nat} {z:List Int} :aT (zss.set i z) j=if i=j∧i < zss.length then z else aT zss j:=by
 simp only [aT,List.getD_eq_getElem?_getD,List.getElem?_set]
 by_cases h:i=j
 ·subst h
  by_cases h2:i < zss.length
  ·simp [h2]
  ·simp [h2]
 ·simp [h]
theorem dE (im:List (List Int)) (c g:Nat) (z:Int):(eo im c g z).length=im.length:=by simp [eo]
theorem iA (im:List (List Int)) (c g:Nat) (z:Int) (k:Nat):(aT (eo im c g z) k).length=(aT im k).length:=by
 unfold eo
 rw [nT]
 split
 ·rename_i h;rw [←h.1];simp
 ·rfl
theorem eI {im:List (List Int)} {c g k j:Nat} {z:Int} (hc:c < im.length) (hg:g < (aT im c).length):bT (eo im c g z) k j=if c=k∧g=j then z else bT im k j:=by
 unfold bT eo
 rw [nT]
 by_cases h:c=k
 ·subst h
  rw [if_pos ⟨rfl,hc⟩,cO]
  by_cases h2:g=j
  ·subst h2;rw [if_pos ⟨rfl,hg⟩,if_pos ⟨rfl,rfl⟩]
  ·rw [if_neg (fun e=>h2 e.1),if_neg (fun e=>h2 e.2)]
 ·rw [if_neg (fun e=>h e.1),if_neg (fun e=>h e.1)]
def stepG (lo hi g:Nat) (s:List (List Int)×List (Int×Int)):List (List Int)×List (Int×Int):=
 if bT s.1 hi g < 0 then s else if 0≤bT s.1 lo g then (s.1,s.2 ++ [(bT s.1 hi g,bT s.1 lo g)]) else (eo s.1 lo g (bT s.1 hi g),s.2)
def bE (lo hi:Nat) (s:List (List Int)×List (Int×Int)):Nat→List (List Int)×List (Int×Int)
 | 0=>s
 | g + 1=>stepG lo hi g (bE lo hi s g)
structure WF (ng:Nat) (im:List (List Int)) (less:List Int):Prop where
 len:im.length=less.length
 row:∀c,c < im.length→(aT im c).length=ng
 down:Down less
 bT:∀c g,c < im.length→g < ng→bT im c g < less.length
def mD (n:Nat) (q:List (Int×Int)):Prop:=∀p∈q,(0≤p.1∧p.1 < n)∧0≤p.2∧p.2 < n
theorem WF.gw {ng:Nat} {im:List (List Int)} {less:List Int} (h:WF ng im less) {c g:Nat} {z:Int} (hc:c < im.length) (hg:g < ng) (hz:z < less.length):WF ng (eo im c g z) less:=
 {len:=by rw [dE];exact h.len,row:=fun k hk=>by rw [iA];exact h.row k (by rwa [dE] at hk),down:=h.down,bT:=fun k j hk hj=>by
   rw [eI hc (by rw [h.row c hc];exact hg)]
   split
   ·exact hz
   ·exact h.bT k j (by rwa [dE] at hk) hj }
theorem sA {less:List Int} (h:Down less) {lo hi:Nat} (hlt:lo≤hi):Down (less.set hi (lo:Int)):=fun c hc=>by
 rw [List.length_set] at hc
 rw [cO]
 split
 ·rename_i e;rw [←e.1];omega
 ·exact h c hc
theorem WF.kj {ng:Nat} {im:List (List Int)} {less:List Int} (h:WF ng im less) {lo hi:Nat} (hlt:lo≤hi):WF ng im (less.set hi (lo:Int)):=
 {len:=by rw [List.length_set];exact h.len,row:=h.row,down:=sA h.down hlt,bT:=fun c g hc hg=>by rw [List.length_set];exact h.bT c g hc hg }
theorem eM {ng lo hi:Nat} {im:List (List Int)} {less:List Int} {q:List (Int×Int)} (h:WF ng im less) (hlo:lo < im.length) (hhi:hi < im.length) (hq:mD less.length q):
  ∀g,g≤ng→WF ng (bE lo hi (im,q) g).1 less∧mD less.length (bE lo hi (im,q) g).2∧(bE lo hi (im,q) g).2.length≤q.length + g∧(bE lo hi (im,q) g).1.length=im.length
 | 0,_=>⟨h,hq,by simp [bE],rfl⟩
 | g + 1,hg=>by
  obtain ⟨h1,h2,h3,h4⟩:=eM h hlo hhi hq g ab
  simp only [bE,stepG]
  split
  ·exact ⟨h1,h2,ab,h4⟩
  ·rename_i hn
   have e1:=h1.bT hi g ab ab
   split
   ·rename_i hp
    have e2:=h1.bT lo g ab ab
    refine ⟨h1,fun p hp'=> ?_,by simp;omega,h4⟩
    rcases List.mem_append.1 hp' with h5 | h5
    ·exact h2 p h5
    ·simp at h5;subst h5;exact ⟨⟨ab,e1⟩,hp,e2⟩
   ·exact ⟨h1.gw ab ab e1,h2,by dsimp only;omega,by rw [dE];exact h4⟩
def cH (ng:Nat):Nat→List (List Int)→List Int→List (Int×Int)→List (List Int)×List Int
 | 0,im,less,_=>(im,less)
 | _ + 1,im,less, []=>(im,less)
 | f + 1,im,less,p :: q=>
  let c:=root less p.1.toNat
  let d:=root less p.2.toNat
  if c=d then cH ng f im less q
  else cH ng f (bE (min c d) (max c d) (im,q) ng).1 (less.set (max c d) (min c d:Nat)) (bE (min c d) (max c d) (im,q) ng).2
def alive (less:List Int):Nat:=((List.range less.length).filter fun c=>aD less c == (c:Int)).length
def fuel (ng:Nat) (less:List Int) (q:List (Int×Int)):Nat:=alive less * (ng + 1) + q.length
theorem ua {less:List Int} {lo hi:Nat} (h:hi < less.length) (hlt:lo < hi) (hfix:aD less hi=hi):alive (less.set hi (lo:Int)) + 1=alive less:=by
 unfold alive
 rw [List.length_set]
 have key:∀n,hi < n→((List.range n).filter fun c=>aD (less.set hi (lo:Int)) c == (c:Int)).length + 1=((List.range n).filter fun c=>aD less c == (c:Int)).length:=by
  intro n
  induction n with
  | zero=>intro h;omega
  | succ n ih=>
   intro hn
   rw [List.range_succ,List.filter_append,List.filter_append,List.length_append,List.length_append]
   by_cases e:hi=n
   ·subst e
    have h0:∀k,k≤hi→((List.range k).filter fun c=>aD (less.set hi (lo:Int)) c == (c:Int))=(List.range k).filter fun c=>aD less c == (c:Int):=fun k hk=>by
     apply List.filter_congr
     intro c hc
     rw [cO,if_neg (by have:=List.mem_range.1 hc;omega)]
    rw [h0 hi (Nat.le_refl _)]
    have h1:(aD (less.set hi (lo:Int)) hi == (hi:Int))=false:=by
     rw [cO,if_pos ⟨rfl,h⟩];simp;omega
    have h2:(aD less hi == (hi:Int))=true:=by simp [hfix]
    simp [h1,h2]
   ·have:=ih ab
    have h1:aD (less.set hi (lo:Int)) n=aD less n:=by rw [cO,if_neg (fun e'=>e e'.1)]
    simp only [List.filter_cons,List.filter_nil,h1]
    omega
 exact key less.length h
theorem jf {ng:Nat} :∀(f f':Nat) (im:List (List Int)) (less:List Int) (q:List (Int×Int)),WF ng im less→mD less.length q→fuel ng less q≤f→fuel ng less q≤f'→cH ng f im less q=cH ng f' im less q
 | 0,f',im,less,q,_,_,h,h'=>by
  have hq:q= []:=List.eq_nil_of_length_eq_zero (by unfold fuel at h;omega)
  subst hq
  cases f'<;>rfl
 | f + 1,0,im,less,q,_,_,h,h'=>by
  have hq:q= []:=List.eq_nil_of_length_eq_zero (by unfold fuel at h';omega)
  subst hq
  rfl
 | f + 1,f' + 1,im,less, [],_,_,_,_=>rfl
 | f + 1,f' + 1,im,less,p :: q,hw,hq,h,h'=>by
  have hp:=hq p (by simp)
  have hq':mD less.length q:=fun x hx=>hq x (by simp [hx])
  have hr1:=cZ hw.down (c:=p.1.toNat) ab
  have hr2:=cZ hw.down (c:=p.2.toNat) ab
  have hf:fuel ng less (p :: q)=fuel ng less q + 1:=by unfold fuel;simp;omega
  simp only [cH]
  split
  ·exact jf f f' im less q hw hq' ab ab
  ·rename_i hne
   have hlt:min (root less p.1.toNat) (root less p.2.toNat) < max (root less p.1.toNat) (root less p.2.toNat):=by omega
   have hhi:max (root less p.1.toNat) (root less p.2.toNat) < less.length:=by omega
   obtain ⟨h1,h2,h3,h4⟩:=eM hw (lo:=min (root less p.1.toNat) (root less p.2.toNat)) (hi:=max (root less p.1.toNat) (root less p.2.toNat)) (by rw [hw.len];omega) (by rw [hw.len];omega) hq' ng (Nat.le_refl _)
   have hfix:aD less (max (root less p.1.toNat) (root less p.2.toNat))=(max (root less p.1.toNat) (root less p.2.toNat):Nat):=by
    rcases Nat.le_total (root less p.1.toNat) (root less p.2.toNat) with h5 | h5
    ·rw [Nat.max_eq_right h5];exact (eE hw.down _ ab).1
    ·rw [Nat.max_eq_left h5];exact (eE hw.down _ ab).1
   have ha:=ua hhi hlt hfix
   have hfu:fuel ng (less.set (max (root less p.1.toNat) (root less p.2.toNat)) ((min (root less p.1.toNat) (root less p.2.toNat):Nat):Int)) (bE (min (root less p.1.toNat) (root less p.2.toNat)) (max (root less p.1.toNat) (root less p.2.toNat)) (im,q) ng).2 + 1≤fuel ng less (p :: q):=by
    unfold fuel
    rw [←ha,Nat.add_mul,List.length_cons]
    omega
   exact jf f f' _ _ _ (h1.kj ab) (by rw [List.length_set];exact h2) ab ab
def ident (ng:Nat) (im:List (List Int)) (less:List Int) (q:List (Int×Int)):List (List Int)×List Int:=cH ng (fuel ng less q) im less q
theorem tk (ng:Nat) (im:List (List Int)) (less:List Int):ident ng im less []=(im,less):=by unfold ident;cases fuel ng less []<;>rfl
theorem qA {ng:Nat} {im:List (List Int)} {less:List Int} {p:Int×Int} {q:List (Int×Int)} (hw:WF ng im less) (hq:mD less.length (p :: q)) (h:root less p.1.toNat=root less p.2.toNat):ident ng im less (p :: q)=ident ng im less q:=by
 unfold ident
 have hf:fuel ng less (p :: q)=fuel ng less q + 1:=by unfold fuel;simp;omega
 rw [hf]
 simp only [cH,if_pos h]
def gg (ng:Nat) (im:List (List Int)) (q:List (Int×Int)) (c d:Nat):List (List Int)×List (Int×Int):=bE (min c d) (max c d) (im,q) ng
theorem jQ {ng:Nat} {im:List (List Int)} {less:List Int} {p:Int×Int} {q:List (Int×Int)} (hw:WF ng im less) (hq:mD less.length (p :: q)) (h:root less p.1.toNat≠root less p.2.toNat):
  ident ng im less (p :: q)=ident ng (gg ng im q (root less p.1.toNat) (root less p.2.toNat)).1 (less.set (max (root less p.1.toNat) (root less p.2.toNat)) ((min (root less p.1.toNat) (root less p.2.toNat):Nat):Int)) (gg ng im q (root less p.1.toNat) (root less p.2.toNat)).2∧
  WF ng (gg ng im q (root less p.1.toNat) (root less p.2.toNat)).1 (less.set (max (root less p.1.toNat) (root less p.2.toNat)) ((min (root less p.1.toNat) (root less p.2.toNat):Nat):Int))∧
  mD less.length (gg ng im q (root less p.1.toNat) (root less p.2.toNat)).2∧
  fuel ng (less.set (max (root less p.1.toNat) (root less p.2.toNat)) ((min (root less p.1.toNat) (root less p.2.toNat):Nat):Int)) (gg ng im q (root less p.1.toNat) (root less p.2.toNat)).2 < fuel ng less (p :: q):=by
 have hp:=hq p (by simp)
 have hq':mD less.length q:=fun x hx=>hq x (by simp [hx])
 have hr1:=cZ hw.down (c:=p.1.toNat) ab
 have hr2:=cZ hw.down (c:=p.2.toNat) ab
 have hlt:min (root less p.1.toNat) (root less p.2.toNat) < max (root less p.1.toNat) (root less p.2.toNat):=by omega
 have hhi:max (root less p.1.toNat) (root less p.2.toNat) < less.length:=by omega
 obtain ⟨h1,h2,h3,h4⟩:=eM hw (lo:=min (root less p.1.toNat) (root less p.2.toNat)) (hi:=max (root less p.1.toNat) (root less p.2.toNat)) (by rw [hw.len];omega) (by rw [hw.len];omega) hq' ng (Nat.le_refl _)
 have hfix:aD less (max (root less p.1.toNat) (root less p.2.toNat))=(max (root less p.1.toNat) (root less p.2.toNat):Nat):=by
  rcases Nat.le_total (root less p.1.toNat) (root less p.2.toNat) with h5 | h5
  ·rw [Nat.max_eq_right h5];exact (eE hw.down _ ab).1
  ·rw [Nat.max_eq_left h5];exact (eE hw.down _ ab).1
 have ha:=ua hhi hlt hfix
 have hfu:fuel ng (less.set (max (root less p.1.toNat) (root less p.2.toNat)) ((min (root less p.1.toNat) (root less p.2.toNat):Nat):Int)) (gg ng im q (root less p.1.toNat) (root less p.2.toNat)).2 + 1≤fuel ng less (p :: q):=by
  unfold fuel gg
  rw [←ha,Nat.add_mul,List.length_cons]
  omega
 refine ⟨?_,h1.kj ab,h2,ab⟩
 obtain ⟨f,hf⟩:∃f,fuel ng less (p :: q)=f + 1:=⟨fuel ng less (p :: q) - 1,ab⟩
 unfold ident
 rw [hf]
 simp only [cH,if_neg h]
 exact jf f _ _ _ _ (h1.kj ab) (by rw [List.length_set];exact h2) (by unfold gg at hfu;omega) (Nat.le_refl _)
end Go.Proofs.Ytfpcfckocmmcnaa
