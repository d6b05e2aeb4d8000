/- A memory of names: a region that draws its order, in which one operation of the first ones is free to come at any time. No program in sight. -/
import Derived.Test.YtekbhbcgoadciaaGreatPart2
import Derived.Test.YtekbhbcgoadciaaGreatPart1
import Derived.Lib.LazyBuf
import Derived.Lib.SliceRun
import Derived.Test.YtekbhbcgoadciaaGreatProg
import Derived.RegionTactic
import Derived.BigQuiet
namespace Go.Proofs.YtekbhbcgoadciaaGreat
open Go.RowKit
section
variable {P:Program} {nt:Nat} {w0 w:World} {ω0:g9} {S S1:St} {Q:Exit→Act→World→Prop} {a:Act}
theorem gD {f:Nat} {sk:List Nat} {j:Nat} :bt (f :: sk) j=(Nat.beq j f || bt sk j):=by
 unfold bt
 rw [List.any_cons]
theorem l0 {sk:List Nat} {L:Array Bool} :∀k,missing sk L k≤k:=fun k=>by
 induction k with
 | zero=>exact Nat.le_refl _
 | succ k ih=>simp only [missing];split<;>omega
theorem hJ {sk:List Nat} {L:Array Bool} (f:Nat):∀k,k≤f→missing (f :: sk) L k=missing sk L k
 | 0,_=>rfl
 | k + 1,h=>by
  simp only [missing]
  rw [hJ f k (by omega),gD,cU (by omega:k≠f),Bool.false_or]
theorem eK {sk:List Nat} {L:Array Bool} (f:Nat) (hL:L.getD f false=false) (hs:bt sk f=false):∀k,f < k→missing sk L k=missing (f :: sk) L k + 1
 | 0,h=>by omega
 | k + 1,h=>by
  simp only [missing]
  rw [gD]
  by_cases e:k=f
  ·subst e
   rw [hJ k k (Nat.le_refl _),hL,hs]
   simp
  ·rw [eK f hL hs k (by omega),cU e,Bool.false_or];omega
theorem nX {sk:List Nat} {f nA:Nat} (hf:f < nA) (hs:bt sk f=false):missing (f :: sk) #[] nA=missing sk #[] nA - 1∧0 < missing sk #[] nA:=by
 have:=eK (sk:=sk) (L:= #[]) f (by simp) hs nA hf
 omega
def tP (ops:Array Oper) (nA:Nat) (sk:List Nat) (f:Nat) (cls:List (List Nat)):Bool:=
 Nat.ble nA ops.size && (List.range ops.size).all fun i=>match ops[i]? with
  | some o=>(Nat.ble nA i || bt sk i || o.after.all fun e=> !Region.binds .any e || (Nat.blt e.on i && !bt sk e.on)) && ((cls.getD i []).all fun j=>o.after.any fun e=>Region.binds .any e && (Nat.beq j e.on || bt (cls.getD e.on []) j)) &&
    ((Nat.blt i nA && !bt sk i) || (List.range nA).all fun j=>Nat.beq j f || bt sk j || bt (cls.getD i []) j) && (Nat.ble nA i || (cls.getD i []).all fun j=>Nat.blt j i)
  | none=>true
structure tF (ops:Array Oper) (nA:Nat) (sk:List Nat) (f:Nat) (cls:List (List Nat)):Prop where
 size:nA≤ops.size
 less:∀i o,ops[i]? =some o→i < nA→bt sk i=false→∀e∈o.after,Region.binds .any e=true→e.on < i∧bt sk e.on=false
 dep:∀i o,ops[i]? =some o→∀j∈cls.getD i [],∃e∈o.after,Region.binds .any e=true∧(j=e.on∨j∈cls.getD e.on [])
 late:∀i o,ops[i]? =some o→(nA≤i∨bt sk i=true)→∀j,j < nA→bt sk j=false→j≠f→j∈cls.getD i []
 lt:∀i o,ops[i]? =some o→i < nA→∀j∈cls.getD i [],j < i
theorem rl {ops:Array Oper} {nA:Nat} {sk:List Nat} {f:Nat} {cls:List (List Nat)} (h:tP ops nA sk f cls=true):tF ops nA sk f cls:=by
 unfold tP at h
 simp only [Bool.and_eq_true,Nat.ble_eq] at h
 obtain ⟨h0,h⟩:=h
 have key:∀i o,ops[i]? =some o→_:=fun i o ho=>by
  have hi:i < ops.size:=(Array.getElem?_eq_some_iff.1 ho).1
  have h1:=List.all_eq_true.1 h i (List.mem_range.2 hi)
  simp only [ho,Bool.and_eq_true,Bool.or_eq_true] at h1
  exact h1
 refine ⟨h0,fun i o ho hi hsk e he hb=> ?_,fun i o ho j hj=> ?_,fun i o ho hi j hj hsk hf=> ?_,fun i o ho hi j hj=> ?_⟩
 ·rcases (key i o ho).1.1.1 with (h1 | h1) | h1
  ·have:=Nat.le_of_ble_eq_true h1;omega
  ·rw [hsk] at h1;cases h1
  ·have:=Array.all_eq_true_iff_forall_mem.1 h1 e he
   simp [hb] at this;exact this
 ·have:=List.all_eq_true.1 (key i o ho).1.1.2 j hj
  obtain ⟨e,he,h2⟩:=Array.any_eq_true'.1 this
  simp only [Bool.and_eq_true,Bool.or_eq_true] at h2
  exact ⟨e,he,h2.1,h2.2.imp (fun h=>beq_true h) (fun h=>bQ.1 h)⟩
 ·rcases (key i o ho).1.2 with h1 | h1
  ·exfalso
   have h2:i < nA:=by simpa using h1.1
   have h3:bt sk i=false:=by simpa using h1.2
   rcases hi with h4 | h4
   ·omega
   ·rw [h3] at h4;cases h4
  ·have h2:=List.all_eq_true.1 h1 j (List.mem_range.2 hj)
   simp only [Bool.or_eq_true,hsk,cU hf,Bool.false_eq_true,false_or] at h2
   exact bQ.1 h2
 ·rcases (key i o ho).2 with h1 | h1
  ·have:=Nat.le_of_ble_eq_true h1;omega
  ·exact (by have:=List.all_eq_true.1 h1 j hj;simpa using this)
theorem qQ {l:List Oper} {nA:Nat} {sk:List Nat} {cls:List (List Nat)} {ds nms:List Nat} {adds done:List Add} {f:Nat} (hfA:f < nA) (hfs:bt sk f=false) (hcl:tF l.toArray nA sk f cls) (hdr:eR P nt (S.clear ds nms) cls sk (l.take nA) [] done) (hdn:done.reverse=adds) (ok:ic adds cls ds nms)
  (hk:Rest P w0 ω0 nt l.toArray Q (l.length - missing sk #[] nA) (dG nA sk l.length) ((S.clear ds nms).part (fun j=> !bt sk j) adds))
  (hk0:Rest P w0 ω0 nt l.toArray Q (l.length - missing (f :: sk) #[] nA) (dG nA (f :: sk) l.length) ((S.clear ds nms).part (fun j=> !bt (f :: sk) j) adds)):
  ∀(d:Nat) (L:Array Bool) (a:Act) (w:World),missing sk L nA=d→L.size=l.length→(∀j,L.getD j false=true→j < nA∧bt sk j=false)→(∀i,L.getD i false=true→∀j∈cls.getD i [],L.getD j false=true)→
   Sat w0 ω0 nt ((S.clear ds nms).part (fun j=>L.getD j false) adds) a w→wpAny P .any l.toArray Q (l.length - missing sk #[] nA + d) L a w:=by
 have hsz:nA≤l.length:=by have:=hcl.size;simpa using this
 obtain ⟨⟨r,hr,hrl⟩,hob⟩:=hdr.spec
 rw [hdn] at hr hob
 have hal:adds.length=nA:=by rw [hr];simp [hrl];omega
 have hfull:∀(L:Array Bool) (i:Nat),i∈Region.ready .any l.toArray L→(∀i,L.getD i false=true→∀j∈cls.getD i [],L.getD j false=true)→(∃o,l.toArray[i]? =some o∧L.getD i true=false)∧∀j∈cls.getD i [],L.getD j false=true:=by
  intro L i hi hclosed
  obtain ⟨h0,o,ho,he⟩:=mem_ready.1 hi
  refine ⟨⟨o,ho,h0⟩,fun j hj=> ?_⟩
  obtain ⟨e,hem,hb,hje⟩:=hcl.dep i o ho j hj
  have h1:=he e hem hb
  rcases hje with rfl | hje
  ·exact h1
  ·exact hclosed e.on h1 j hje
 intro d
 induction d with
 | zero=>
  intro L a w hm hs hsub hclosed hsat
  have hall:=dh hm
  have hL:L=dG nA sk l.length:=by
   apply Array.ext
   ·simp [hs,dG]
   ·intro j h1 h2
    have h3:L[j]? =some L[j]:=Array.getElem?_eq_getElem h1
    have h4:=iG (nA:=nA) (sk:=sk) (n:=l.length) (j:=j) (by omega)
    rw [Array.getElem?_eq_getElem h2] at h4
    rw [Option.some.inj h4]
    cases hb:L[j] with
    | true=>
     have:=hsub j (by simp [h1,hb])
     simp [this.1,this.2]
    | false=>
     by_cases hj:j < nA
     ·cases hsk:bt sk j with
      | true=>simp
      | false=>
       have:=hall j hj hsk
       simp [h1,hb] at this
     ·simp [hj]
  refine hk.go a w ((St.le.wk (jU (ℓ1:=fun j=> !bt sk j) (ℓ2:=fun j=>L.getD j false) ok (fun _ _ h=>h) fun j A hj hsk=> ?_) fun _ _ h=>h).go _ _ _ a w hsat) |> fun h=>by rw [←hL] at h;exact h
  have hjl:j < adds.length:=(List.getElem?_eq_some_iff.1 hj).1
  exact hall j (by omega) (by simpa using hsk)
 | succ d ih=>
  intro L a w hm hs hsub hclosed hsat
  by_cases h0:missing (f :: sk) L nA=0∧L.getD f false=false
  ·obtain ⟨h0,hff⟩:=h0
   have hall:=dh h0
   have hL:L=dG nA (f :: sk) l.length:=by
    apply Array.ext
    ·simp [hs,dG]
    ·intro j h1 h2
     have h3:L[j]? =some L[j]:=Array.getElem?_eq_getElem h1
     have h4:=iG (nA:=nA) (sk:=f :: sk) (n:=l.length) (j:=j) (by omega)
     rw [Array.getElem?_eq_getElem h2] at h4
     rw [Option.some.inj h4]
     cases hb:L[j] with
     | true=>
      have:=hsub j (by simp [h1,hb])
      have hjf:j≠f:=fun e=>by subst e;simp [h1,hb] at hff
      rw [gD,this.2,cU hjf];simp [this.1]
     | false=>
      by_cases hj:j < nA
      ·cases hsk:bt (f :: sk) j with
       | true=>simp
       | false=>
        have:=hall j hj hsk
        simp [h1,hb] at this
      ·simp [hj]
   have hd:missing (f :: sk) #[] nA=missing sk #[] nA - 1∧0 < missing sk #[] nA:=nX hfA hfs
   have hd1:d=0:=by
    have:=eK (sk:=sk) (L:=L) f hff hfs nA hfA
    omega
   subst hd1
   have hmn:∀k,missing sk #[] k≤k:=l0
   have:=hmn nA
   have e:l.length - missing (f :: sk) #[] nA=l.length - missing sk #[] nA + (0 + 1):=by omega
   rw [←e]
   refine hk0.go a w ((St.le.wk (jU (ℓ1:=fun j=> !bt (f :: sk) j) (ℓ2:=fun j=>L.getD j false) ok (fun _ _ h=>h) fun j A hj hsk=> ?_) fun _ _ h=>h).go _ _ _ a w hsat) |> fun h=>by rw [←hL] at h;exact h
   have hjl:j < adds.length:=(List.getElem?_eq_some_iff.1 hj).1
   exact hall j (by omega) (by simpa using hsk)
  refine ⟨fun hnil=> ?_,fun i hi=> ?_⟩
  ·exfalso
   obtain ⟨j,hj,hjs',hjf,hlo⟩:=eH (k:=nA) (by omega:missing sk L nA≠0)
   have hjl:j < l.length:=by omega
   have hjs:j < L.size:=by omega
   have:j∈Region.ready .any l.toArray L:=by
    refine mem_ready.2 ⟨?_,l[j],by simp [hjl],fun e he hb=> ?_⟩
    ·simp [hjs] at hjf ⊢
     exact hjf
    ·have h5:=hcl.less j l[j] (by simp [hjl]) hj hjs' e he hb
     exact hlo e.on h5.1 h5.2
   rw [hnil] at this;cases this
  ·obtain ⟨⟨o,ho,hi0⟩,hdep⟩:=hfull L i hi hclosed
   have hil:i < l.length:=by have:=(Array.getElem?_eq_some_iff.1 ho).1;simpa using this
   have his:i < L.size:=by omega
   have hif:L.getD i false=false:=by simp [his] at hi0 ⊢;exact hi0
   have hnl:¬(nA≤i∨bt sk i=true):=fun h=>by
    have h1:=dt (sk:=f :: sk) (L:=L) (k:=nA) fun j hj hsk=>by
     rw [gD] at hsk
     simp only [Bool.or_eq_false_iff] at hsk
     exact hdep j (hcl.late i o ho h j hj hsk.2 fun e=>by subst e;simp at hsk)
    refine h0 ⟨h1, ?_⟩
    cases hff:L.getD f false with
    | false=>rfl
    | true=>
     have:=dh h1
     have h2:=dt (sk:=sk) (L:=L) (k:=nA) fun j hj hsk=>by
      by_cases e:j=f
      ·subst e;exact hff
      ·exact this j hj (by rw [gD,hsk,cU e];rfl)
     omega
   have hiA:i < nA:=by
    rcases Nat.lt_or_ge i nA with h | h
    ·exact h
    ·exact absurd (.inl h) hnl
   have hisk:bt sk i=false:=by
    cases hsk:bt sk i with
    | false=>rfl
    | true=>exact absurd (.inr hsk) hnl
   have hot:(l.take nA)[i]? =some o:=by rw [List.getElem?_take,if_pos hiA];simpa using ho
   obtain ⟨A,hA,hg,hstp⟩:=hob i o hot (by simpa using hisk)
   simp only [List.length_nil,Nat.zero_add] at hA hstp
   have hle:((S.clear ds nms).eU (bt (cls.getD i [])) (adds.take i).reverse).le ((S.clear ds nms).part (fun j=>L.getD j false) adds):=fe ok (fun j B hj=>by
     rw [List.reverse_reverse] at hj
     rw [List.getElem?_take] at hj;split at hj
     ·exact hj
     ·cases hj) fun j B _ hj=>hdep j (bQ.1 hj)
   have hst:=(hstp _ hle).go w0 ω0 a w Q hsat
   unfold wpOp
   simp only [ho]
   rw [if_pos (by simp [Region.wanted,hg])]
   refine .inl (Oper.wp_mono (fun a' w' hsat'=> ?_) hst)
   have hsat2:=(od ok hA hif fun j hj hm'=>by have:=hclosed j hj i hm';rw [hif] at this;cases this).go _ _ _ a' w' hsat'
   have hnew:∀j,(L.setIfInBounds i true).getD j false=(Nat.beq j i || L.getD j false):=fun j=>by
    by_cases e:j=i
    ·subst e;simp [his]
    ·rw [getD_set_ne false (fun e'=>e e'.symm),cU e,Bool.false_or]
   refine ih (L.setIfInBounds i true) a' w' ?_ (by simp [hs]) (fun j hj=> ?_) (fun j hj k hk'=> ?_) ?_
   ·have:=fp his hif hisk nA hiA;omega
   ·rw [hnew] at hj
    by_cases e:j=i
    ·rw [e];exact ⟨hiA,hisk⟩
    ·rw [cU e,Bool.false_or] at hj;exact hsub j hj
   ·rw [hnew] at hj ⊢
    by_cases e:j=i
    ·subst e;rw [hdep k hk'];simp
    ·rw [cU e,Bool.false_or] at hj;rw [hclosed j hj k hk'];simp
   ·have:(fun j=>(L.setIfInBounds i true).getD j false)=fun j=>(Nat.beq j i || L.getD j false):=funext hnew
    rw [this];exact hsat2
theorem rh {id:Nat} {l:List Oper} (nA:Nat) (sk:List Nat) (f:Nat) (cls:List (List Nat)) (ds nms:List Nat) {done:List Add} (hm:P.follows .mixedOrders=true) (hcl:tP l.toArray nA sk f cls=true) (hf':(Nat.blt f nA && !bt sk f)=true) (hdr:eR P nt (S.clear ds nms) cls sk (l.take nA) [] done) (ok:m0 done.reverse cls ds nms=true)
  (hk:Rest P w0 ω0 nt l.toArray Q (l.length - missing sk #[] nA) (dG nA sk l.length) ((S.clear ds nms).eU (fun j=> !bt sk j) done))
  (hk0:Rest P w0 ω0 nt l.toArray Q (l.length - missing (f :: sk) #[] nA) (dG nA (f :: sk) l.length) ((S.clear ds nms).eU (fun j=> !bt (f :: sk) j) done)):fb P w0 ω0 nt S (.region id l.toArray true) Q:=by
 have hc:=rl hcl
 have hsz:nA≤l.length:=by have:=hc.size;simpa using this
 have hk':Rest P w0 ω0 nt l.toArray Q (l.length - missing sk #[] nA) (dG nA sk l.length) ((S.clear ds nms).part (fun j=> !bt sk j) done.reverse):=
  ⟨fun a w hs=>hk.go a w ((St.le.wk (fe (dR ok) (fun _ _ h=>h) fun _ _ _ h=>h) fun _ _ h=>h).go _ _ _ a w hs)⟩
 have hk0':Rest P w0 ω0 nt l.toArray Q (l.length - missing (f :: sk) #[] nA) (dG nA (f :: sk) l.length) ((S.clear ds nms).part (fun j=> !bt (f :: sk) j) done.reverse):=
  ⟨fun a w hs=>hk0.go a w ((St.le.wk (fe (dR ok) (fun _ _ h=>h) fun _ _ _ h=>h) fun _ _ h=>h).go _ _ _ a w hs)⟩
 have hfA:f < nA:=by simp only [Bool.and_eq_true] at hf';simpa using hf'.1
 have hfs:bt sk f=false:=by simp only [Bool.and_eq_true] at hf';simpa using hf'.2
 have hle:∀k,missing sk #[] k≤k:=fun k=>by
  induction k with
  | zero=>exact Nat.le_refl _
  | succ k ih=>simp only [missing];split<;>omega
 refine ⟨fun a w hs=>wp_region_any hm ?_⟩
 have hfin:=qQ hfA hfs hc hdr rfl (dR ok) hk' hk0' (missing sk #[] nA) (Array.replicate l.length false) a { w with drawn:=w.drawn + 1 } ?_ (by simp) (fun j hj=> ?_) (fun i hi=> ?_) ?_
 ·have:=hle nA
  rw [show l.length - missing sk #[] nA + missing sk #[] nA=l.length by omega] at hfin
  simpa using hfin
 ·have:∀k,k≤l.length→missing sk (Array.replicate l.length false) k=missing sk #[] k:=fun k=>by
   induction k with
   | zero=>intro _;rfl
   | succ k ih=>
    intro hk
    simp only [missing]
    rw [ih (by omega)]
    have:(Array.replicate l.length false).getD k false=false:=by simp [show k < l.length by omega]
    rw [this];rfl
  exact this nA hsz
 ·exfalso
  by_cases h:j < l.length
  ·simp [h] at hj
  ·simp [h] at hj
 ·exfalso
  by_cases h:i < l.length
  ·simp [h] at hi
  ·simp [h] at hi
 ·have h1:=(jW S ds nms).go _ _ _ a _ (jQ hs)
  have hf:∀j,(Array.replicate l.length false).getD j false=false:=fun j=>by
   by_cases h:j < l.length<;>simp [h]
  refine (Wk.less (S:=S.clear ds nms) (S':=(S.clear ds nms).part (fun j=>(Array.replicate l.length false).getD j false) done.reverse) (fun t av h=> ?_) (fun x c h=> ?_) fun _ _ h=>h).go _ _ _ a _ h1
  ·have h:(match oA (fun j=>(Array.replicate l.length false).getD j false) 0 done.reverse t with | some av=>some av | none=>(S.clear ds nms).sl t)=some av:=h
   split at h
   ·rename_i av' h2
    obtain ⟨j,A,_,h3,_⟩:=eC h2
    rw [hf] at h3;cases h3
   ·exact h
  ·have h:(match oD (fun j=>(Array.replicate l.length false).getD j false) 0 done.reverse x with | some c=>some c | none=>(S.clear ds nms).ch x)=some c:=h
   split at h
   ·rename_i av' h2
    obtain ⟨j,A,_,h3,_⟩:=eF h2
    rw [hf] at h3;cases h3
   ·exact h
theorem qO {N:Nat} (i j k:Nat) {ops:Array Oper} {L:Array Bool} {o o' o'':Oper} {S2 S3:St} (hN:Nat.blt 0 N=true) (hr:Region.ready .any ops L= [i,j,k]) (ho:ops[i]? =some o) (ho':ops[j]? =some o') (ho'':ops[k]? =some o'') (hg:o.guard=none) (hg':o'.guard=none) (hg'':o''.guard=none)
  (h:bN P nt o S S1) (h':bN P nt o' S S2) (h'':bN P nt o'' S S3)
  (k1:Rest P w0 ω0 nt ops Q (N - 1) (L.setIfInBounds i true) S1) (k2:Rest P w0 ω0 nt ops Q (N - 1) (L.setIfInBounds j true) S2) (k3:Rest P w0 ω0 nt ops Q (N - 1) (L.setIfInBounds k true) S3):Rest P w0 ω0 nt ops Q N L S:=by
 have hN':0 < N:=by simpa using hN
 obtain ⟨n,rfl⟩:∃n,N=n + 1:=⟨N - 1,by omega⟩
 exact ⟨fun a w hs=>wpAny_all hr (by simp) fun i' hi'=>by
  simp at hi'
  rcases hi' with rfl | rfl | rfl
  ·unfold wpOp
   simp only [ho]
   rw [if_pos (by simp [Region.wanted,hg])]
   exact .inl (Oper.wp_mono (fun a' w' h'=>k1.go a' w' h') (h.go w0 ω0 a w Q hs))
  ·unfold wpOp
   simp only [ho']
   rw [if_pos (by simp [Region.wanted,hg'])]
   exact .inl (Oper.wp_mono (fun a' w' h'=>k2.go a' w' h') (h'.go w0 ω0 a w Q hs))
  ·unfold wpOp
   simp only [ho'']
   rw [if_pos (by simp [Region.wanted,hg''])]
   exact .inl (Oper.wp_mono (fun a' w' h'=>k3.go a' w' h') (h''.go w0 ω0 a w Q hs))⟩
end
end Go.Proofs.YtekbhbcgoadciaaGreat
namespace Go.Proofs.YtekbhbcgoadciaaGreat
open Go.RowKit
section
variable {P:Program} {nt:Nat} {S S1 S':St} {w0 w:World} {ω0:g9} {ω:bJ} {η:Env} {a:Act} {Q:Exit→Act→World→Prop} {ops:Array Oper} {rest:List Oper} {o:Oper}
variable {t:Nat} {ty:TypeId} {ps:String} {af:Array Edge} {gd:Option (Nat×Bool)} {x y z:Operand} {av:AV}
theorem bH (d:Nat) {b:Bool} (hb:S.sl d=some (vv (.bool b))) (h1:b=true→oC P w0 ω0 nt ops Q (S.put d (vv (.bool true))) rest) (h2:b=false→oC P w0 ω0 nt ops Q (S.put d (vv (.bool false))) rest):oC P w0 ω0 nt ops Q S rest:=by
 have wk:∀c,b=c→Wk S (S.put d (vv (.bool c))):=fun c e=>by
  refine ⟨fun w0 ω0 nt a w ⟨η,ω,hs⟩=>⟨η,ω, { hs with slots:=fun t' av ht'=> ?_ }⟩⟩
  rw [fI] at ht'
  by_cases e':t'=d
  ·subst e'
   rw [if_pos rfl] at ht'
   obtain rfl:=Option.some.inj ht'
   exact hs.slots t' _ (by rw [←e];exact hb)
  ·rw [if_neg e'] at ht';exact hs.slots t' av ht'
 cases b with
 | true=>exact ⟨fun a w hs=>(h1 rfl).go a w ((wk true rfl).go _ _ _ a w hs)⟩
 | false=>exact ⟨fun a w hs=>(h2 rfl).go a w ((wk false rfl).go _ _ _ a w hs)⟩
theorem aw {j d:Nat} {want:Bool} (hg:o.guard=some (j,want)) (hj:(ops[j]?).bind (·.dst)=some d) (hb:S.sl d=some (vv (.bool want))) (h:bN P nt o S S1) (k:oC P w0 ω0 nt ops Q S1 rest):oC P w0 ω0 nt ops Q S (o :: rest):=
 m9 hg hj hb (fun _=>⟨S1,h,k⟩) fun e=>absurd rfl e
theorem aA {j d t:Nat} {want:Bool} (hg:o.guard=some (j,want)) (hj:(ops[j]?).bind (·.dst)=some d) (hb:S.sl d=some (vv (.bool (!want)))) (ht:o.dst=some t) (hn:Nat.blt t nt=true) (k:oC P w0 ω0 nt ops Q (S.put t (vv undef)) rest):oC P w0 ω0 nt ops Q S (o :: rest):=
 m9 hg hj hb (fun e=>by cases want<;>cases e) fun _=>⟨t,ht,hn,k⟩
theorem aY (ht:Nat.blt t nt=true) (hx:S.op x=some (vv (.bool true))) (hy:S.op y=some av):bN P nt ⟨some t, .pick x y z,ty,ps,af,gd⟩ S (S.put t av):=
 bN.of _ fun w0 ω0 η ω a w hs=>by
  have h0:=hs.fg hx
  exact ⟨a.eval y,w,by simp [execOp,h0,asBool],η,ω,hs.fi (by simpa using ht) (hs.fU hy)⟩
theorem a7 (ht:Nat.blt t nt=true) (hx:S.op x=some (vv (.bool false))) (hz:S.op z=some av):bN P nt ⟨some t, .pick x y z,ty,ps,af,gd⟩ S (S.put t av):=
 bN.of _ fun w0 ω0 η ω a w hs=>by
  have h0:=hs.fg hx
  exact ⟨a.eval z,w,by simp [execOp,h0,asBool],η,ω,hs.fi (by simpa using ht) (hs.fU hz)⟩
theorem cq {c:Code} (S':St) (h:fb P w0 ω0 nt S c (fun e a w=>e= .normal∧Sat w0 ω0 nt S' a w)) (k:Fin w0 ω0 nt S' .normal Q):fb P w0 ω0 nt S c Q:=
 ⟨fun a w hs=>Code.wp_mono (fun e a w he=>by obtain ⟨rfl,h2⟩:=he;exact k.go a w h2) (h.go a w hs)⟩
end
end Go.Proofs.YtekbhbcgoadciaaGreat
namespace Go.Proofs.YtekbhbcgoadciaaGreat
open Go.RowKit
section
variable {P:Program} {nt:Nat} {S S1:St} {w0 w:World} {ω0:g9} {ω:bJ} {η:Env} {a:Act} {Q:Exit→Act→World→Prop}
variable {t:Nat} {ty:TypeId} {ps:String} {af:Array Edge} {gd:Option (Nat×Bool)} {x y:Operand} {av:AV}
theorem sU (n:Nat) (z:Int):aH (List.replicate n z)=List.replicate n (I6 z):=by simp [aH]
theorem kZ {T E n:Nat} {l c:Operand} {kl kc:IntKind} {L C:Int} (ht:Nat.blt t nt=true) (hT:nf P T E 1=true) (hz:(P.info? E).bind (·.zero)=some (I6 0)) (hl:S.op l=some (vv (.int kl L))) (hc:S.op c=some (vv (.int kc C)))
  (hL:L=(n:Int)) (hC:C=(n:Int)) (hn:n≤2199023255552):bN P nt ⟨some t, .makeSlice T l c,ty,ps,af,gd⟩ S ((S.new t ⟨true,E,1, .bG (aH (List.replicate n 0))⟩).put t (o1 (.sl t 0 n))):=by
 rw [sU]
 exact td (ts:= #[]) ht hT hz hl hc hL hC hn rfl
end
end Go.Proofs.YtekbhbcgoadciaaGreat
namespace Go.Proofs.YtekbhbcgoadciaaGreat
open Go.RowKit
theorem nT (a b:Nat) (ha:a < 1000000) (hb:b < 1000000):bits .and .i64 (a:Int) (b:Int)=((a &&& b:Nat):Int):=by
 have hx:a &&& b < 2 ^ 20:=Nat.and_lt_two_pow _ (by omega)
 have h1:(BitVec.ofInt 64 (a:Int)).toNat=a:=by
  rw [BitVec.ofInt_natCast,BitVec.toNat_ofNat];exact Nat.mod_eq_of_lt (by omega)
 have h2:(BitVec.ofInt 64 (b:Int)).toNat=b:=by
  rw [BitVec.ofInt_natCast,BitVec.toNat_ofNat];exact Nat.mod_eq_of_lt (by omega)
 show IntKind.i64.wrap ((BitVec.ofInt 64 (a:Int) &&& BitVec.ofInt 64 (b:Int)).toNat:Int)=_
 rw [BitVec.toNat_and,h1,h2,IntKind.wrap_i64]
 omega
section
variable {P:Program} {nt:Nat} {S:St} {t:Nat} {ty:TypeId} {ps:String} {af:Array Edge} {gd:Option (Nat×Bool)} {x y:Operand}
theorem pj {xt yt:TypeId} {a b:Nat} (ht:Nat.blt t nt=true) (hx:S.op x=some (vv (I6 (a:Int)))) (hy:S.op y=some (vv (I6 (b:Int)))) (ha:a < 1000000) (hb:b < 1000000):
  bN P nt ⟨some t, .binOp .and xt x y yt,ty,ps,af,gd⟩ S (S.put t (vv (I6 ((a &&& b:Nat):Int)))):=
 bN.pure rfl ht fun _ _ η _ s w hs=>by
  refine ⟨I6 ((a &&& b:Nat):Int), ?_,rfl⟩
  have hb':=nT a b ha hb
  have e:Op.intBits .and .i64 (a:Int) (b:Int)=pure (I6 ((a &&& b:Nat):Int)):=by rw [←hb'];rfl
  simp [execOp,hs.fg hx,hs.fg hy,eqGuard,binOp,e]
theorem bn {xt yt:TypeId} {kk:IntKind} {a g:Nat} (ht:Nat.blt t nt=true) (hx:S.op x=some (vv (I6 (a:Int)))) (hy:S.op y=some (vv (.int kk (g:Int)))) (hg:g≤64):
  bN P nt ⟨some t, .binOp .shr xt x y yt,ty,ps,af,gd⟩ S (S.put t (vv (I6 ((a / 2 ^ g:Nat):Int)))):=
 bN.pure rfl ht fun _ _ η _ s w hs=>by
  refine ⟨I6 ((a / 2 ^ g:Nat):Int), ?_,rfl⟩
  have e:Op.shift .shr .i64 (a:Int) kk (g:Int)=pure (I6 ((a / 2 ^ g:Nat):Int)):=by
   rw [shift_shr_i64 (x:=(a:Int)) (y:=(g:Int)) (yk:=kk) (Int.natCast_nonneg g) (by omega),Int.toNat_natCast]
   simp
  simp [execOp,hs.fg hx,hs.fg hy,eqGuard,binOp,e]
theorem dv {xt yt:TypeId} {kk:IntKind} {g:Nat} (ht:Nat.blt t nt=true) (hx:S.op x=some (vv (I6 1))) (hy:S.op y=some (vv (.int kk (g:Int)))) (hg:g≤5):
  bN P nt ⟨some t, .binOp .shl xt x y yt,ty,ps,af,gd⟩ S (S.put t (vv (I6 ((2 ^ g:Nat):Int)))):=
 bN.pure rfl ht fun _ _ η _ s w hs=>by
  refine ⟨I6 ((2 ^ g:Nat):Int), ?_,rfl⟩
  have e:∀g:Nat,g≤5→Op.shift .shl .i64 1 kk (g:Int)=pure (I6 ((2 ^ g:Nat):Int)):=fun g hg=>by
   rw [shift_shl_i64 (x:=1) (y:=(g:Int)) (yk:=kk) (Int.natCast_nonneg g) (by omega),Int.toNat_natCast]
   match g,hg with
   | 0,_=>rfl
   | 1,_=>rfl
   | 2,_=>rfl
   | 3,_=>rfl
   | 4,_=>rfl
   | 5,_=>rfl
  have e:=e g hg
  have hw:IntKind.i64.wrap (2 ^ g)=2 ^ g:=by
   match g,hg with
   | 0,_=>rfl
   | 1,_=>rfl
   | 2,_=>rfl
   | 3,_=>rfl
   | 4,_=>rfl
   | 5,_=>rfl
  simp [execOp,hs.fg hx,hs.fg hy,eqGuard,binOp,e,hw]
theorem aN {src dst:TypeId} {kk k2:IntKind} {m:Int} (ht:Nat.blt t nt=true) (hx:S.op x=some (vv (.int kk m))) (hs1:(P.underlying src).isSome=true) (hd:P.underlying dst=some (.int k2)) (hw:k2.wrap m=m):
  bN P nt ⟨some t, .convert src dst x,ty,ps,af,gd⟩ S (S.put t (vv (.int k2 m))):=
 bN.pure rfl ht fun _ _ η _ s w hs=>by
  refine ⟨.int k2 m, ?_,rfl⟩
  obtain ⟨d,hd'⟩:=Option.isSome_iff_exists.mp hs1
  simp [execOp,hs.fg hx,convert,run_underlying hd',run_underlying hd,Conv.intToInt,hw]
end
section
variable {P:Program} {w0:World} {ω0:g9} {nt:Nat} {S:St}
theorem ot {w:World} {fn:Func} {tmps:Array Value} {r r' r'':ResultVar} {v v' v'':Value} (h:fn.results= #[r,r',r'']) (h1:(fK tmps r).run P w= .ok v w) (h2:(fK tmps r').run P w= .ok v' w) (h3:(fK tmps r'').run P w= .ok v'' w):(results fn tmps).run P w= .ok (.tuple #[v,v',v'']) w:=by
 rw [gT,h];simp [h1,h2,h3]
theorem oQ {fn:Func} {e:Exit} {r r' r'':ResultVar} {b b' b'':A2} {outs:List (Nm×Ch)} {back:List (Nat×AV)} (he:e= .ret∨e= .normal) (hf:fn.results= #[r,r',r'']) (hr:mI P S r b) (hr':mI P S r' b') (hr'':mI P S r'' b'') (hc:k9 S outs) (hb:lg S back):
  Fin w0 ω0 nt S e (bodyPost P fn (Left w0 ω0.own ω0.ph outs (.tup [b,b',b'']) back)):=by
 refine ⟨fun a w ⟨η,ω,hs⟩=> ?_⟩
 obtain ⟨u,h1,h2⟩:=hs.res hr
 obtain ⟨u',h1',h2'⟩:=hs.res hr'
 obtain ⟨u'',h1'',h2''⟩:=hs.res hr''
 have hd:Den η (.tup [b,b',b'']) (.tuple #[u,u',u'']):=⟨_,rfl,rfl,fun j c hj=>by
  match j,hj with
  | 0,hj=>simp at hj;subst hj;exact ⟨u,by simp,h2⟩
  | 1,hj=>simp at hj;subst hj;exact ⟨u',by simp,h2'⟩
  | 2,hj=>simp at hj;subst hj;exact ⟨u'',by simp,h2''⟩⟩
 have:a.defers= []∧∃v,(results fn a.tmps).run P w= .ok v w∧Left w0 ω0.own ω0.ph outs (.tup [b,b',b'']) back (.returned v) w:=⟨hs.dfr,_,ot hf h1 h1' h1'',hs.left hc hb hd⟩
 rcases he with rfl | rfl<;>exact this
end
end Go.Proofs.YtekbhbcgoadciaaGreat
namespace Go.Proofs.YtekbhbcgoadciaaGreat
open Go.RowKit
theorem nU (mask g:Nat):((((mask / 2 ^ g) &&& 1:Nat):Int) == 1)=dM mask g:=by
 unfold dM
 rw [Nat.and_one_is_mod]
 rcases Nat.mod_two_eq_zero_or_one (mask / 2 ^ g) with h | h<;>rw [h]<;>rfl
theorem bB {P:Program} {nt:Nat} {S:St} {t:Nat} {ty:TypeId} {ps:String} {af:Array Edge} {gd:Option (Nat×Bool)} {x:Operand} {xt yt:TypeId} {mask g:Nat} (ht:Nat.blt t nt=true) (hx:S.op x=some (vv (I6 ((mask / 2 ^ g:Nat):Int)))) (hm:mask < 1000000):
  bN P nt ⟨some t, .binOp .and xt x (.const (I6 1)) yt,ty,ps,af,gd⟩ S (S.put t (vv (I6 (((mask / 2 ^ g) &&& 1:Nat):Int)))):=
 pj ht hx rfl (Nat.lt_of_le_of_lt (Nat.div_le_self _ _) hm) (by decide)
theorem bT {P:Program} {nt:Nat} {S:St} {t:Nat} {ty:TypeId} {ps:String} {af:Array Edge} {gd:Option (Nat×Bool)} {x:Operand} {xt yt:TypeId} {mask g:Nat} (ht:Nat.blt t nt=true) (hx:S.op x=some (vv (I6 (((mask / 2 ^ g) &&& 1:Nat):Int)))):
  bN P nt ⟨some t, .binOp .eql xt x (.const (I6 1)) yt,ty,ps,af,gd⟩ S (S.put t (vv (.bool (dM mask g)))):=by
 rw [←nU]
 exact aB ht hx rfl rfl
theorem cG {P:Program} {nt:Nat} {S:St} {t:Nat} {ty:TypeId} {ps:String} {af:Array Edge} {gd:Option (Nat×Bool)} {x:Operand} {xt yt:TypeId} {mask g:Nat} (ht:Nat.blt t nt=true) (hx:S.op x=some (vv (I6 (((mask / 2 ^ g) &&& 1:Nat):Int)))):
  bN P nt ⟨some t, .binOp .eql xt x (.const (I6 0)) yt,ty,ps,af,gd⟩ S (S.put t (vv (.bool (!dM mask g)))):=by
 have h:(!dM mask g)=((((mask / 2 ^ g) &&& 1:Nat):Int) == 0):=by
  unfold dM
  rw [Nat.and_one_is_mod]
  rcases Nat.mod_two_eq_zero_or_one (mask / 2 ^ g) with h | h<;>rw [h]<;>rfl
 rw [h]
 exact aB ht hx rfl rfl
theorem pD (a b:Nat) (ha:a < 1000000) (hb:b < 1000000):bits .or .i64 (a:Int) (b:Int)=((a ||| b:Nat):Int):=by
 have hx:a ||| b < 2 ^ 20:=Nat.or_lt_two_pow (by omega) (by omega)
 have h1:(BitVec.ofInt 64 (a:Int)).toNat=a:=by
  rw [BitVec.ofInt_natCast,BitVec.toNat_ofNat];exact Nat.mod_eq_of_lt (by omega)
 have h2:(BitVec.ofInt 64 (b:Int)).toNat=b:=by
  rw [BitVec.ofInt_natCast,BitVec.toNat_ofNat];exact Nat.mod_eq_of_lt (by omega)
 show IntKind.i64.wrap ((BitVec.ofInt 64 (a:Int) ||| BitVec.ofInt 64 (b:Int)).toNat:Int)=_
 rw [BitVec.toNat_or,h1,h2,IntKind.wrap_i64]
 omega
section
variable {P:Program} {nt:Nat} {S S' S2:St} {t:Nat} {ty:TypeId} {ps:String} {af:Array Edge} {gd:Option (Nat×Bool)} {x y:Operand} {o:Oper}
theorem cY {xt yt:TypeId} {a b:Nat} (ht:Nat.blt t nt=true) (hx:S.op x=some (vv (I6 (a:Int)))) (hy:S.op y=some (vv (I6 (b:Int)))) (ha:a < 1000000) (hb:b < 1000000):
  bN P nt ⟨some t, .binOp .or xt x y yt,ty,ps,af,gd⟩ S (S.put t (vv (I6 ((a ||| b:Nat):Int)))):=
 bN.pure rfl ht fun _ _ η _ s w hs=>by
  refine ⟨I6 ((a ||| b:Nat):Int), ?_,rfl⟩
  have hb':=pD a b ha hb
  have e:Op.intBits .or .i64 (a:Int) (b:Int)=pure (I6 ((a ||| b:Nat):Int)):=by rw [←hb'];rfl
  simp [execOp,hs.fg hx,hs.fg hy,eqGuard,binOp,e]
theorem p9 {xt yt:TypeId} {kk:IntKind} {g:Nat} (ht:Nat.blt t nt=true) (hx:S.op x=some (vv (I6 2))) (hy:S.op y=some (vv (.int kk (g:Int)))) (hg:g≤5):
  bN P nt ⟨some t, .binOp .shl xt x y yt,ty,ps,af,gd⟩ S (S.put t (vv (I6 ((2 ^ (g + 1):Nat):Int)))):=
 bN.pure rfl ht fun _ _ η _ s w hs=>by
  refine ⟨I6 ((2 ^ (g + 1):Nat):Int), ?_,rfl⟩
  have e:∀g:Nat,g≤5→Op.shift .shl .i64 2 kk (g:Int)=pure (I6 ((2 ^ (g + 1):Nat):Int)):=fun g hg=>by
   rw [shift_shl_i64 (x:=2) (y:=(g:Int)) (yk:=kk) (Int.natCast_nonneg g) (by omega),Int.toNat_natCast]
   match g,hg with
   | 0,_=>rfl
   | 1,_=>rfl
   | 2,_=>rfl
   | 3,_=>rfl
   | 4,_=>rfl
   | 5,_=>rfl
  have e:=e g hg
  have hw:IntKind.i64.wrap (2 * 2 ^ g)=2 ^ (g + 1):=by
   match g,hg with
   | 0,_=>rfl
   | 1,_=>rfl
   | 2,_=>rfl
   | 3,_=>rfl
   | 4,_=>rfl
   | 5,_=>rfl
  simp [execOp,hs.fg hx,hs.fg hy,eqGuard,binOp,e,hw]
theorem bN.pre (h:Wk S S') (k:bN P nt o S' S2):bN P nt o S S2:=
 ⟨fun w0 ω0 a w Q hs=>k.go w0 ω0 a w Q (h.go _ _ _ _ _ hs)⟩
end
end Go.Proofs.YtekbhbcgoadciaaGreat
namespace Go.Proofs.YtekbhbcgoadciaaGreat
open Go.RowKit
section
variable {P:Program} {nt:Nat} {S S1:St} {w0 w:World} {ω0:g9} {ω:bJ} {η:Env} {a:Act} {Q:Exit→Act→World→Prop}
def dS:List Nat→(List Nat→Prop)→Prop
 | [],p=>p []
 | f :: r,p=>dS r p∧dS r (fun ks=>p (f :: ks))
theorem dS.filter {q:Nat→Bool} :∀ {fs:List Nat} {p:List Nat→Prop},dS fs p→p (fs.filter q)
 | [],p,h=>h
 | f :: r,p,h=>by
  rw [List.filter_cons]
  split
  ·exact dS.filter (p:=fun ks=>p (f :: ks)) h.2
  ·exact dS.filter (p:=p) h.1
theorem dS.map {p p':List Nat→Prop} (h:∀ks,p ks→p' ks):∀ {fs:List Nat},dS fs p→dS fs p'
 | [],k=>h _ k
 | _ :: _,k=>⟨dS.map h k.1,dS.map (fun ks=>h _) k.2⟩
theorem gL {sk:List Nat} {L:Array Bool} {nA:Nat} :∀ {ks:List Nat},ks.Nodup→(∀f∈ks,f < nA∧bt sk f=false∧L.getD f false=false)→missing sk L nA=missing (ks ++ sk) L nA + ks.length
 | [],_,_=>rfl
 | f :: r,hn,h=>by
  have h1:=gL (sk:=sk) (L:=L) (nA:=nA) (ks:=r) (List.nodup_cons.1 hn).2 fun g hg=>h g (by simp [hg])
  have h2:=h f (by simp)
  have h3:bt (r ++ sk) f=false:=by
   cases hb:bt (r ++ sk) f with
   | false=>rfl
   | true=>
    exfalso
    rcases List.mem_append.1 (bQ.1 hb) with h4 | h4
    ·exact (List.nodup_cons.1 hn).1 h4
    ·rw [bQ.2 h4] at h2;exact absurd h2.2.1 (by simp)
  have:=eK (sk:=r ++ sk) (L:=L) f h2.2.2 h3 nA h2.1
  rw [h1,this,List.cons_append,List.length_cons];omega
def uM (ops:Array Oper) (nA:Nat) (sk:List Nat) (fs:List Nat) (cls:List (List Nat)):Bool:=
 Nat.ble nA ops.size && (List.range ops.size).all fun i=>match ops[i]? with
  | some o=>(Nat.ble nA i || bt sk i || o.after.all fun e=> !Region.binds .any e || (Nat.blt e.on i && !bt sk e.on)) && ((cls.getD i []).all fun j=>o.after.any fun e=>Region.binds .any e && (Nat.beq j e.on || bt (cls.getD e.on []) j)) &&
    ((Nat.blt i nA && !bt sk i) || (List.range nA).all fun j=>bt fs j || bt sk j || bt (cls.getD i []) j) && (Nat.ble nA i || (cls.getD i []).all fun j=>Nat.blt j i)
  | none=>true
structure tp (ops:Array Oper) (nA:Nat) (sk:List Nat) (fs:List Nat) (cls:List (List Nat)):Prop where
 size:nA≤ops.size
 less:∀i o,ops[i]? =some o→i < nA→bt sk i=false→∀e∈o.after,Region.binds .any e=true→e.on < i∧bt sk e.on=false
 dep:∀i o,ops[i]? =some o→∀j∈cls.getD i [],∃e∈o.after,Region.binds .any e=true∧(j=e.on∨j∈cls.getD e.on [])
 late:∀i o,ops[i]? =some o→(nA≤i∨bt sk i=true)→∀j,j < nA→bt sk j=false→bt fs j=false→j∈cls.getD i []
 lt:∀i o,ops[i]? =some o→i < nA→∀j∈cls.getD i [],j < i
theorem qz {ops:Array Oper} {nA:Nat} {sk:List Nat} {fs:List Nat} {cls:List (List Nat)} (h:uM ops nA sk fs cls=true):tp ops nA sk fs cls:=by
 unfold uM at h
 simp only [Bool.and_eq_true,Nat.ble_eq] at h
 obtain ⟨h0,h⟩:=h
 have key:∀i o,ops[i]? =some o→_:=fun i o ho=>by
  have hi:i < ops.size:=(Array.getElem?_eq_some_iff.1 ho).1
  have h1:=List.all_eq_true.1 h i (List.mem_range.2 hi)
  simp only [ho,Bool.and_eq_true,Bool.or_eq_true] at h1
  exact h1
 refine ⟨h0,fun i o ho hi hsk e he hb=> ?_,fun i o ho j hj=> ?_,fun i o ho hi j hj hsk hf=> ?_,fun i o ho hi j hj=> ?_⟩
 ·rcases (key i o ho).1.1.1 with (h1 | h1) | h1
  ·have:=Nat.le_of_ble_eq_true h1;omega
  ·rw [hsk] at h1;cases h1
  ·have:=Array.all_eq_true_iff_forall_mem.1 h1 e he
   simp [hb] at this;exact this
 ·have:=List.all_eq_true.1 (key i o ho).1.1.2 j hj
  obtain ⟨e,he,h2⟩:=Array.any_eq_true'.1 this
  simp only [Bool.and_eq_true,Bool.or_eq_true] at h2
  exact ⟨e,he,h2.1,h2.2.imp (fun h=>beq_true h) (fun h=>bQ.1 h)⟩
 ·rcases (key i o ho).1.2 with h1 | h1
  ·exfalso
   have h2:i < nA:=by simpa using h1.1
   have h3:bt sk i=false:=by simpa using h1.2
   rcases hi with h4 | h4
   ·omega
   ·rw [h3] at h4;cases h4
  ·have h2:=List.all_eq_true.1 h1 j (List.mem_range.2 hj)
   simp only [Bool.or_eq_true,hsk,hf,Bool.false_eq_true,false_or] at h2
   exact bQ.1 h2
 ·rcases (key i o ho).2 with h1 | h1
  ·have:=Nat.le_of_ble_eq_true h1;omega
  ·exact (by have:=List.all_eq_true.1 h1 j hj;simpa using this)
theorem qH {l:List Oper} {nA:Nat} {sk:List Nat} {cls:List (List Nat)} {ds nms:List Nat} {adds done:List Add} {fs:List Nat} (hfn:fs.Nodup) (hfs:∀f∈fs,f < nA∧bt sk f=false) (hcl:tp l.toArray nA sk fs cls) (hdr:eR P nt (S.clear ds nms) cls sk (l.take nA) [] done) (hdn:done.reverse=adds) (ok:ic adds cls ds nms)
  (hk:dS fs fun ks=>Rest P w0 ω0 nt l.toArray Q (l.length - missing (ks ++ sk) #[] nA) (dG nA (ks ++ sk) l.length) ((S.clear ds nms).part (fun j=> !bt (ks ++ sk) j) adds)):
  ∀(d:Nat) (L:Array Bool) (a:Act) (w:World),missing sk L nA=d→L.size=l.length→(∀j,L.getD j false=true→j < nA∧bt sk j=false)→(∀i,L.getD i false=true→∀j∈cls.getD i [],L.getD j false=true)→
   Sat w0 ω0 nt ((S.clear ds nms).part (fun j=>L.getD j false) adds) a w→wpAny P .any l.toArray Q (l.length - missing sk #[] nA + d) L a w:=by
 have hsz:nA≤l.length:=by have:=hcl.size;simpa using this
 obtain ⟨⟨r,hr,hrl⟩,hob⟩:=hdr.spec
 rw [hdn] at hr hob
 have hal:adds.length=nA:=by rw [hr];simp [hrl];omega
 have hfull:∀(L:Array Bool) (i:Nat),i∈Region.ready .any l.toArray L→(∀i,L.getD i false=true→∀j∈cls.getD i [],L.getD j false=true)→(∃o,l.toArray[i]? =some o∧L.getD i true=false)∧∀j∈cls.getD i [],L.getD j false=true:=by
  intro L i hi hclosed
  obtain ⟨h0,o,ho,he⟩:=mem_ready.1 hi
  refine ⟨⟨o,ho,h0⟩,fun j hj=> ?_⟩
  obtain ⟨e,hem,hb,hje⟩:=hcl.dep i o ho j hj
  have h1:=he e hem hb
  rcases hje with rfl | hje
  ·exact h1
  ·exact hclosed e.on h1 j hje
 have stop:∀(L:Array Bool) (a:Act) (w:World),L.size=l.length→(∀j,L.getD j false=true→j < nA∧bt sk j=false)→missing (fs ++ sk) L nA=0→Sat w0 ω0 nt ((S.clear ds nms).part (fun j=>L.getD j false) adds) a w→wpAny P .any l.toArray Q (l.length - missing sk #[] nA + missing sk L nA) L a w:=by
  intro L a w hs hsub h0 hsat
  have hall:=dh h0
  obtain ⟨ks,hks⟩:∃ks,fs.filter (fun f=> !L.getD f false)=ks:=⟨_,rfl⟩
  have hkn:ks.Nodup:=by rw [←hks];exact hfn.filter _
  have hkm:∀f,f∈ks↔f∈fs∧L.getD f false=false:=fun f=>by rw [←hks];simp
  have hk1:∀f∈ks,f < nA∧bt sk f=false∧L.getD f false=false:=fun f hf=>⟨(hfs f ((hkm f).1 hf).1).1,(hfs f ((hkm f).1 hf).1).2,((hkm f).1 hf).2⟩
  have hdone:∀j,j < nA→bt (ks ++ sk) j=false→L.getD j false=true:=fun j hj hsk=>by
   cases hb:L.getD j false with
   | true=>rfl
   | false=>
    exfalso
    have h1:bt (fs ++ sk) j=true:=by
     cases h2:bt (fs ++ sk) j with
     | true=>rfl
     | false=>rw [hall j hj h2] at hb;cases hb
    rcases List.mem_append.1 (bQ.1 h1) with h3 | h3
    ·have:j∈ks ++ sk:=List.mem_append.2 (.inl ((hkm j).2 ⟨h3,hb⟩))
     rw [bQ.2 this] at hsk;cases hsk
    ·have:j∈ks ++ sk:=List.mem_append.2 (.inr h3)
     rw [bQ.2 this] at hsk;cases hsk
  have hL:L=dG nA (ks ++ sk) l.length:=by
   apply Array.ext
   ·simp [hs,dG]
   ·intro j h1 h2
    have h3:L[j]? =some L[j]:=Array.getElem?_eq_getElem h1
    have h4:=iG (nA:=nA) (sk:=ks ++ sk) (n:=l.length) (j:=j) (by omega)
    rw [Array.getElem?_eq_getElem h2] at h4
    rw [Option.some.inj h4]
    cases hb:L[j] with
    | true=>
     have hb':L.getD j false=true:=by simp [h1,hb]
     have:=hsub j hb'
     have hnk:bt (ks ++ sk) j=false:=by
      cases h5:bt (ks ++ sk) j with
      | false=>rfl
      | true=>
       exfalso
       rcases List.mem_append.1 (bQ.1 h5) with h6 | h6
       ·rw [((hkm j).1 h6).2] at hb';cases hb'
       ·rw [bQ.2 h6] at this;exact absurd this.2 (by simp)
     simp [this.1,hnk]
    | false=>
     by_cases hj:j < nA
     ·cases hsk:bt (ks ++ sk) j with
      | true=>simp
      | false=>
       have:=hdone j hj hsk
       simp [h1,hb] at this
     ·simp [hj]
  have hm1:=gL (L:=L) hkn hk1
  have hm2:=gL (sk:=sk) (L:= #[]) (nA:=nA) hkn fun f hf=>⟨(hk1 f hf).1,(hk1 f hf).2.1,rfl⟩
  have hm0:missing (ks ++ sk) L nA=0:=dt hdone
  have hmn:=l0 (sk:=sk) (L:= #[]) nA
  have e:l.length - missing (ks ++ sk) #[] nA=l.length - missing sk #[] nA + missing sk L nA:=by omega
  rw [←e]
  have hkk:=dS.filter (q:=fun f=> !L.getD f false) hk
  rw [hks] at hkk
  refine hkk.go a w ((St.le.wk (jU (ℓ1:=fun j=> !bt (ks ++ sk) j) (ℓ2:=fun j=>L.getD j false) ok (fun _ _ h=>h) fun j A hj hsk=> ?_) fun _ _ h=>h).go _ _ _ a w hsat) |> fun h=>by rw [←hL] at h;exact h
  have hjl:j < adds.length:=(List.getElem?_eq_some_iff.1 hj).1
  exact hdone j (by omega) (by simpa using hsk)
 intro d
 induction d with
 | zero=>
  intro L a w hm hs hsub hclosed hsat
  have h0:missing (fs ++ sk) L nA=0:=dt fun j hj hsk=>dh hm j hj (by
   cases h5:bt sk j with
   | false=>rfl
   | true=>rw [bQ.2 (List.mem_append.2 (.inr (bQ.1 h5)))] at hsk;cases hsk)
  have:=stop L a w hs hsub h0 hsat
  rw [hm] at this;exact this
 | succ d ih=>
  intro L a w hm hs hsub hclosed hsat
  by_cases h0:missing (fs ++ sk) L nA=0
  ·have:=stop L a w hs hsub h0 hsat
   rw [hm] at this;exact this
  refine ⟨fun hnil=> ?_,fun i hi=> ?_⟩
  ·exfalso
   obtain ⟨j,hj,hjs',hjf,hlo⟩:=eH (k:=nA) (by omega:missing sk L nA≠0)
   have hjl:j < l.length:=by omega
   have hjs:j < L.size:=by omega
   have:j∈Region.ready .any l.toArray L:=by
    refine mem_ready.2 ⟨?_,l[j],by simp [hjl],fun e he hb=> ?_⟩
    ·simp [hjs] at hjf ⊢
     exact hjf
    ·have h5:=hcl.less j l[j] (by simp [hjl]) hj hjs' e he hb
     exact hlo e.on h5.1 h5.2
   rw [hnil] at this;cases this
  ·obtain ⟨⟨o,ho,hi0⟩,hdep⟩:=hfull L i hi hclosed
   have hil:i < l.length:=by have:=(Array.getElem?_eq_some_iff.1 ho).1;simpa using this
   have his:i < L.size:=by omega
   have hif:L.getD i false=false:=by simp [his] at hi0 ⊢;exact hi0
   have hnl:¬(nA≤i∨bt sk i=true):=fun h=>by
    refine h0 (dt (sk:=fs ++ sk) (L:=L) (k:=nA) fun j hj hsk=> ?_)
    have h5:bt fs j=false∧bt sk j=false:=by
     constructor
     ·cases h6:bt fs j with
      | false=>rfl
      | true=>rw [bQ.2 (List.mem_append.2 (.inl (bQ.1 h6)))] at hsk;cases hsk
     ·cases h6:bt sk j with
      | false=>rfl
      | true=>rw [bQ.2 (List.mem_append.2 (.inr (bQ.1 h6)))] at hsk;cases hsk
    exact hdep j (hcl.late i o ho h j hj h5.2 h5.1)
   have hiA:i < nA:=by
    rcases Nat.lt_or_ge i nA with h | h
    ·exact h
    ·exact absurd (.inl h) hnl
   have hisk:bt sk i=false:=by
    cases hsk:bt sk i with
    | false=>rfl
    | true=>exact absurd (.inr hsk) hnl
   have hot:(l.take nA)[i]? =some o:=by rw [List.getElem?_take,if_pos hiA];simpa using ho
   obtain ⟨A,hA,hg,hstp⟩:=hob i o hot (by simpa using hisk)
   simp only [List.length_nil,Nat.zero_add] at hA hstp
   have hle:((S.clear ds nms).eU (bt (cls.getD i [])) (adds.take i).reverse).le ((S.clear ds nms).part (fun j=>L.getD j false) adds):=fe ok (fun j B hj=>by
     rw [List.reverse_reverse] at hj
     rw [List.getElem?_take] at hj;split at hj
     ·exact hj
     ·cases hj) fun j B _ hj=>hdep j (bQ.1 hj)
   have hst:=(hstp _ hle).go w0 ω0 a w Q hsat
   unfold wpOp
   simp only [ho]
   rw [if_pos (by simp [Region.wanted,hg])]
   refine .inl (Oper.wp_mono (fun a' w' hsat'=> ?_) hst)
   have hsat2:=(od ok hA hif fun j hj hm'=>by have:=hclosed j hj i hm';rw [hif] at this;cases this).go _ _ _ a' w' hsat'
   have hnew:∀j,(L.setIfInBounds i true).getD j false=(Nat.beq j i || L.getD j false):=fun j=>by
    by_cases e:j=i
    ·subst e;simp [his]
    ·rw [getD_set_ne false (fun e'=>e e'.symm),cU e,Bool.false_or]
   refine ih (L.setIfInBounds i true) a' w' ?_ (by simp [hs]) (fun j hj=> ?_) (fun j hj k hk'=> ?_) ?_
   ·have:=fp his hif hisk nA hiA;omega
   ·rw [hnew] at hj
    by_cases e:j=i
    ·rw [e];exact ⟨hiA,hisk⟩
    ·rw [cU e,Bool.false_or] at hj;exact hsub j hj
   ·rw [hnew] at hj ⊢
    by_cases e:j=i
    ·subst e;rw [hdep k hk'];simp
    ·rw [cU e,Bool.false_or] at hj;rw [hclosed j hj k hk'];simp
   ·have:(fun j=>(L.setIfInBounds i true).getD j false)=fun j=>(Nat.beq j i || L.getD j false):=funext hnew
    rw [this];exact hsat2
theorem lM {id:Nat} {l:List Oper} (nA:Nat) (sk:List Nat) (fs:List Nat) (cls:List (List Nat)) (ds nms:List Nat) {done:List Add} (hm:P.follows .mixedOrders=true) (hcl:uM l.toArray nA sk fs cls=true) (hf':(nodupB fs && fs.all fun f=>Nat.blt f nA && !bt sk f)=true) (hdr:eR P nt (S.clear ds nms) cls sk (l.take nA) [] done) (ok:m0 done.reverse cls ds nms=true)
  (hk:dS fs fun ks=>Rest P w0 ω0 nt l.toArray Q (l.length - missing (ks ++ sk) #[] nA) (dG nA (ks ++ sk) l.length) ((S.clear ds nms).eU (fun j=> !bt (ks ++ sk) j) done)):fb P w0 ω0 nt S (.region id l.toArray true) Q:=by
 have hc:=qz hcl
 have hsz:nA≤l.length:=by have:=hc.size;simpa using this
 have hk':=dS.map (p':=fun ks=>Rest P w0 ω0 nt l.toArray Q (l.length - missing (ks ++ sk) #[] nA) (dG nA (ks ++ sk) l.length) ((S.clear ds nms).part (fun j=> !bt (ks ++ sk) j) done.reverse)) (fun ks hk=>
  ⟨fun a w hs=>hk.go a w ((St.le.wk (fe (dR ok) (fun _ _ h=>h) fun _ _ _ h=>h) fun _ _ h=>h).go _ _ _ a w hs)⟩) hk
 have hfn:fs.Nodup:=by simp only [Bool.and_eq_true] at hf';exact fY hf'.1
 have hfs:∀f∈fs,f < nA∧bt sk f=false:=fun f hf=>by
  simp only [Bool.and_eq_true] at hf'
  have:=List.all_eq_true.1 hf'.2 f hf
  simpa using this
 have hle:∀k,missing sk #[] k≤k:=fun k=>by
  induction k with
  | zero=>exact Nat.le_refl _
  | succ k ih=>simp only [missing];split<;>omega
 refine ⟨fun a w hs=>wp_region_any hm ?_⟩
 have hfin:=qH hfn hfs hc hdr rfl (dR ok) hk' (missing sk #[] nA) (Array.replicate l.length false) a { w with drawn:=w.drawn + 1 } ?_ (by simp) (fun j hj=> ?_) (fun i hi=> ?_) ?_
 ·have:=hle nA
  rw [show l.length - missing sk #[] nA + missing sk #[] nA=l.length by omega] at hfin
  simpa using hfin
 ·have:∀k,k≤l.length→missing sk (Array.replicate l.length false) k=missing sk #[] k:=fun k=>by
   induction k with
   | zero=>intro _;rfl
   | succ k ih=>
    intro hk
    simp only [missing]
    rw [ih (by omega)]
    have:(Array.replicate l.length false).getD k false=false:=by simp [show k < l.length by omega]
    rw [this];rfl
  exact this nA hsz
 ·exfalso
  by_cases h:j < l.length
  ·simp [h] at hj
  ·simp [h] at hj
 ·exfalso
  by_cases h:i < l.length
  ·simp [h] at hi
  ·simp [h] at hi
 ·have h1:=(jW S ds nms).go _ _ _ a _ (jQ hs)
  have hf:∀j,(Array.replicate l.length false).getD j false=false:=fun j=>by
   by_cases h:j < l.length<;>simp [h]
  refine (Wk.less (S:=S.clear ds nms) (S':=(S.clear ds nms).part (fun j=>(Array.replicate l.length false).getD j false) done.reverse) (fun t av h=> ?_) (fun x c h=> ?_) fun _ _ h=>h).go _ _ _ a _ h1
  ·have h:(match oA (fun j=>(Array.replicate l.length false).getD j false) 0 done.reverse t with | some av=>some av | none=>(S.clear ds nms).sl t)=some av:=h
   split at h
   ·rename_i av' h2
    obtain ⟨j,A,_,h3,_⟩:=eC h2
    rw [hf] at h3;cases h3
   ·exact h
  ·have h:(match oD (fun j=>(Array.replicate l.length false).getD j false) 0 done.reverse x with | some c=>some c | none=>(S.clear ds nms).ch x)=some c:=h
   split at h
   ·rename_i av' h2
    obtain ⟨j,A,_,h3,_⟩:=eF h2
    rw [hf] at h3;cases h3
   ·exact h
end
end Go.Proofs.YtekbhbcgoadciaaGreat
namespace Go.Proofs.YtekbhbcgoadciaaGreat
open Go.RowKit
def uv:bJ:=fun _=>none
def Hv (w:World) (x:Nm) (c:Ch) (h:Hd) (r:Nat→Hd):Prop:=∀η:Env,(∀i,η.r x i=r i)→dm η uv w x h c
abbrev Lay:=List (Nm×(Ch×Hd×(Nat→Hd)))
def mg (l:Lay):Env:= { h:=fun x=>(lk x l).map fun q=>q.2.1,r:=fun x i=>match lk x l with | some q=>q.2.2 i | none=>⟨none,0,1⟩ }
theorem tU {α β:Type} (f:α→β):∀(l:List (Nat×α)) (x:Nat),lk x (l.map fun p=>(p.1,f p.2))=(lk x l).map f
 | [],x=>rfl
 | p :: r,x=>by
  simp only [List.map_cons,lk]
  rw [tU f r x]
  cases Nat.beq x p.1<;>rfl
theorem mem_of {w:World} {l:Lay} (h:∀p∈l,Hv w p.1 p.2.1 p.2.2.1 p.2.2.2):Mem (mg l) uv w (fun x=>lk x (l.map fun p=>(p.1,p.2.1))):=by
 have hl:∀x,lk x (l.map fun p=>(p.1,p.2.1))=(lk x l).map fun q=>q.1:=fun x=>tU (fun q=>q.1) l x
 refine ⟨fun x c hx=> ?_,fun x hx=> ?_⟩
 ·replace hx:=(hl x).symm.trans hx
  obtain ⟨q,hq,rfl⟩:=Option.map_eq_some_iff.1 hx
  refine ⟨q.2.1,by simp [mg,hq],h (x,q) (gf hq) _ fun i=>by simp [mg,hq]⟩
 ·replace hx:=(hl x).symm.trans hx
  have:lk x l=none:=by simpa using hx
  simp [mg,this]
theorem qx {l:Lay} {x:Nm} {q:Ch×Hd×(Nat→Hd)} {n:Nat} (h:lk x l=some q):cu (mg l) (.sl x 0 n) (.slice q.2.1.ao n q.2.1.c):=
 ⟨⟨_,_,rfl⟩,fun h' hh=>by
  have hh:(lk x l).map (fun q=>q.2.1)=some h':=hh
  rw [h] at hh;simp at hh;subst hh
  exact ⟨_,rfl,fun _=>rfl,fun h0=>absurd h0 (by omega)⟩⟩
theorem zd {E:Nat} {w:World} {v:Value} {zs:List Int} (x E':Nat) (h:u9 E w v zs):∃hd r,v= .slice hd.ao zs.length hd.c∧Hv w x ⟨false,E',1, .bG (aH zs)⟩ hd r:=by
 obtain ⟨ao,n,c,rfl,ho⟩:=h
 have hl:=ho.len
 simp at hl
 subst hl
 refine ⟨⟨ao,c,1⟩,fun _=>⟨none,0,1⟩,rfl,fun η _=>⟨rfl, ?_,fun j hj=> ?_⟩⟩
 ·show (aH zs).length≤c * 1
  rw [aO,Nat.mul_one]
  rcases Nat.eq_zero_or_pos zs.length with h0 | h0
  ·omega
  ·obtain ⟨g,_,_,_,h1,_⟩:=ho.form h0;exact h1
 ·have hj:j < zs.length:=by have:j < (aH zs).length:=hj;rwa [aO] at this
  obtain ⟨g,rfl,_,hlt,_,hc,_⟩:=ho.form (by omega)
  refine ⟨g,0,I6 (aC zs j),rfl,rfl,hlt, ?_,aR hj⟩
  rw [Nat.zero_add,hc j hj]
  exact aR hj
theorem FC.call {P:Program} {f:FuncId} {ins outs:List (Nm×Ch)} {args:List AV} {res:AV} {back:List (Nat×AV)} (h:FC P f ins args outs res back) {w:World} {l:Lay} {us:List Value} (hl:∀p∈l,Hv w p.1 p.2.1 p.2.2.1 p.2.2.2) (hi:(l.map fun p=>(p.1,p.2.1))=ins)
  (hd:fz (mg l) args us):Calls P f us.toArray w fun e w'=>∃v η ω,e= .returned v∧Den η res v∧Mem η ω w' (fun x=>lk x outs)∧Below w.heap.size w w'∧∀b,b < w.heap.size→ω b=none:=by
 subst hi
 refine (h w (mg l) uv us (mem_of hl) hd).mono ?_
 rintro e w' ⟨v,η,ω,he,h1,h2,h3,_⟩
 exact ⟨v,η,ω,he,h1,h2,⟨h3.os,h3.tape,h3.output,h3.size,fun b hb=>(h3.block b hb rfl).1⟩,fun b hb=>(h3.block b hb rfl).2⟩
section
variable {η:Env} {ω:bJ} {w':World} {lo:Nat} {outs:List (Nm×Ch)}
theorem cW.own {ow:Nm×Option Nat} {h:Hd} {E:Nat} {xs:List Value} {len:Nat} {cell:Nat→Value→Prop} (hk:h.k=1) (hv:cW ω w' ow h E len cell) (hlo:∀b,b < lo→ω b=none) (hn:len≤4398046511104) (hx:xs.length=len)
  (hc:∀j u,j < len→(∃b o,h.ao=some ⟨b,o,none⟩∧w'.cell? ⟨b,o + j,none⟩=some u)→xs[j]? =some u):
  Own w' lo E h.ao len h.c xs∧∀g,bk h.ao=some g→g < w'.heap.size∧ω g=some ow:=by
 rcases hv with ⟨h1,h2,h3⟩ | ⟨b,o,cs,h1,h2,h3,⟨h4,h4'⟩,h5,h6,h7⟩
 ·subst h3
  refine ⟨⟨⟨by simpa using hx, .inl ⟨by rw [h1,h2],rfl⟩⟩,hn⟩,fun g hg=>by rw [h1] at hg;cases hg⟩
 ·subst h4
  rw [hk,Nat.mul_one] at h4' h5
  have hb:lo≤b:=by
   rcases Nat.lt_or_ge b lo with h8 | h8
   ·rw [hlo b h8] at h2;cases h2
   ·exact h8
  refine ⟨⟨⟨by simpa using hx, .inr ⟨b,h.c,cs,by rw [h1],hb,h3,h5,h6,by rw [h4',Nat.mul_one], ?_⟩⟩,hn⟩,fun g hg=> ?_⟩
  ·apply List.ext_getElem?
   intro j
   rw [Nat.mul_one,List.getElem?_take]
   by_cases hj:j < len
   ·obtain ⟨u,hu,_⟩:=h7 j hj
    rw [Nat.zero_add] at hu
    rw [if_pos hj,hc j u hj ⟨b,0,h1,by rw [Nat.zero_add,cell_of_row w' b j cs E (0,0) h3];exact hu⟩]
    simpa using hu
   ·rw [if_neg hj,List.getElem?_eq_none (by omega)]
  ·rw [h1] at hg
   simp [bk] at hg
   subst hg
   exact ⟨eN h3,h2⟩
theorem zy {x E:Nat} {zs:List Int} {v:Value} (hm:Mem η ω w' (fun x=>lk x outs)) (hlo:∀b,b < lo→ω b=none) (hx:lk x outs=some ⟨true,E,1, .bG (aH zs)⟩) (hv:cu η (.sl x 0 zs.length) v) (hn:zs.length≤4398046511104):dZ E w' lo w'.heap.size v zs:=by
 obtain ⟨h,h1,h2,h3⟩:=hm.1 x _ hx
 obtain ⟨ao,rfl,h4,_⟩:=hv.2 h h1
 have h3:cW ω w' (x,none) h E (aH zs).length (bU η ω w' true x (.bG (aH zs))):=h3
 rw [h4 rfl,Nat.sub_zero]
 obtain ⟨k1,k2⟩:=cW.own (xs:=aH zs) h2 h3 hlo (by rw [aO];exact hn) rfl fun j u hj ⟨b,o,e1,e2⟩=>by
  obtain ⟨b',o',u',f1,f2,f3⟩:=iz.get (own:=true) h3 hj
  rw [e1] at f1;injection f1 with f1;injection f1 with f1 f1';subst f1 f1'
  rw [e2] at f2
  obtain rfl:=Option.some.inj f2
  exact f3
 rw [aO] at k1
 exact ⟨⟨_,_,_,rfl,k1.mono (Nat.zero_le _)⟩,fun g hg=>by
  rw [cj] at hg
  exact ⟨(k1.lt g hg).1,(k2 g hg).1⟩⟩
end
theorem ux {E:Nat} {w:World} {lo hi:Nat} :dZ E w lo hi (.slice none 0 0) []:=⟨⟨none,0,0,rfl,Own.wU _ _ _⟩,yo _ _ _ _⟩
theorem du {P:Program} {f:FuncId} {ins:List (Nm×Ch)} {args:List AV} {r:Value} (h:∀w η ω us,Mem η ω w (fun x=>lk x ins)→fz η args us→Calls P f us.toArray w fun e w'=>e= .returned r∧Below w.heap.size w w'):FC P f ins args [] (vv r) []:=by
 intro w η ω us hm hd
 refine (h w η ω us hm hd).mono ?_
 rintro e w' ⟨rfl,hb⟩
 exact ⟨r, { h:=fun _=>none,r:=η.r },ω,rfl,rfl,⟨fun x c hx=>(nomatch hx),fun x _=>rfl⟩,⟨hb.os,hb.tape,hb.output,hb.size,fun b hlt hn=>⟨hb.block b hlt,hn⟩⟩,fun t av ht=>(nomatch ht)⟩
section
variable {η:Env} {ω:bJ} {w:World} {ins:List (Nm×Ch)}
theorem xq {x:Nat} {own:Bool} {E:Nat} {zs:List Int} {v:Value} (hm:Mem η ω w (fun x=>lk x ins)) (hx:lk x ins=some ⟨own,E,1, .bG (aH zs)⟩) (hv:cu η (.sl x 0 zs.length) v) (hn:zs.length≤17592186044416):∃ao c,v= .slice ao zs.length c∧db w ao zs.length zs:=by
 obtain ⟨h,h1,h2,h3⟩:=hm.1 x _ hx
 obtain ⟨ao,rfl,h4,_⟩:=hv.2 h h1
 have h3:iz own ω w (x,none) h E (aH zs).length (bU η ω w own x (.bG (aH zs))):=h3
 rw [h4 rfl]
 refine ⟨_,_,rfl,rfl,hn,fun h0=> ?_⟩
 obtain ⟨b,o,u,f1,_,_⟩:=h3.get (j:=0) (by rw [aO];exact h0)
 refine ⟨b,o,f1,fun j hj=> ?_⟩
 obtain ⟨b',o',u',g1,g2,g3⟩:=h3.get (j:=j) (by rw [aO];exact hj)
 rw [f1] at g1;injection g1 with g1;injection g1 with g1 g1';subst g1 g1'
 have g3:(aH zs)[j]? =some u':=g3
 rw [aR hj] at g3
 rw [g2,←g3]
end
end Go.Proofs.YtekbhbcgoadciaaGreat
namespace Go.Proofs.YtekbhbcgoadciaaGreat
open Go.RowKit
section
variable {P:Program} {nt:Nat} {S S1 S2:St} {w0 w:World} {ω0:g9} {ω:bJ} {η:Env} {a:Act} {Q:Exit→Act→World→Prop} {ops:Array Oper} {rest:List Oper}
variable {t:Nat} {ty:TypeId} {ps:String} {af:Array Edge} {gd:Option (Nat×Bool)} {x y:Operand} {av:AV} {o:Oper}
theorem sY (x y:Nat):Nat.beq x y=Nat.beq y x:=by
 cases h:Nat.beq x y with
 | true=>rw [beq_true h];simp
 | false=>
  cases h2:Nat.beq y x with
  | false=>rfl
  | true=>rw [beq_true h2] at h;simp at h
theorem jJ (x y:Nm) (c:Ch):eJ [(x,c)] y=Nat.beq x y:=by
 unfold eJ;simp only [lk]
 rw [sY x y]
 cases Nat.beq y x<;>rfl
theorem nP (x:Nm) (c:Ch) (a:A1):a.bad (eJ [(x,c)]) (fo [])=a.has x:=by
 cases a with
 | val v=>rfl
 | any=>rfl
 | sl y _ _=>exact jJ x y c
 | ptr y _=>show (eJ [(x,c)] y && !fo [] y)=_;rw [jJ];simp [fo,A1.has]
 | esl y _ _ _=>exact jJ x y c
 | eptr y _ _=>exact jJ x y c
 | clo f xs=>show xs.any (fun p=>eJ [(x,c)] p.1 && !fo [] p.1)=xs.any fun p=>Nat.beq x p.1;congr 1;funext p;rw [jJ];simp [fo]
theorem pW (x:Nm) (c:Ch) (a:A2):a.bad (eJ [(x,c)]) (fo [])=a.has x:=by
 cases a with
 | one a=>exact nP x c a
 | agg l=>show l.any _=l.any _;congr 1;funext a;exact nP x c a
theorem pA (x:Nm) (c:Ch) (a:AV):a.bad (eJ [(x,c)]) (fo [])=a.has x:=by
 cases a with
 | s a=>exact pW x c a
 | tup l=>show l.any _=l.any _;congr 1;funext a;exact pW x c a
theorem sx (x:Nm) (c d:Ch):d.clean (eJ [(x,c)]) (fo [])=d.forget x:=by
 obtain ⟨ow,E,k,d⟩:=d
 unfold Ch.clean Ch.forget dL.clean dL.forget
 cases d with
 | flat l=>
  have:(l.map fun a=>bif a.bad (eJ [(x,c)]) (fo []) then A1.any else a)=l.map (A1.forget x):=List.map_congr_left fun a _=>by rw [nP];rfl
  simp only [this]
 | bG vs=>rfl
 | rows F vss hs=>rfl
 | mix cs=>rfl
theorem sL {ins:List (Nm×Ch)} {t:Nat} {res:AV} {x:Nm} {c:Ch} (hro:(ins.all fun p=> !p.2.own)=true):Wk ((S.after ins [(x,c)] []).vI (some t) res) ((S.new x c).put t res):=by
 have hc:∀x,de ins x=false:=fun x=>by
  unfold de
  cases h:lk x ins with
  | none=>rfl
  | some c=>have:=List.all_eq_true.1 hro _ (gf h);simpa using this
 refine Wk.less (fun t' av h=> ?_) (fun y d h=> ?_) fun t' av h=> ?_
 ·rw [fI] at h
  show ((S.after ins [(x,c)] []).put t res).sl t'=some av
  rw [fI]
  by_cases e:t'=t
  ·rw [if_pos e] at h ⊢;exact h
  ·rw [if_neg e] at h ⊢
   obtain ⟨h1,h2⟩:=uI h
   show ((S.sl t').bind fun av=>bif av.bad (eJ [(x,c)]) (fo []) then none else some av)=some av
   rw [h1,Option.bind_some,pA,h2];rfl
 ·have h':(S.new x c).ch y=some d:=h
  clear h
  rw [oe] at h'
  show (match lk y [(x,c)] with | some c=>some c | none=>bif de ins y then none else (S.ch y).map (Ch.clean (eJ [(x,c)]) (fo [])))=some d
  simp only [lk]
  by_cases e:y=x
  ·rw [if_pos e] at h';subst e;simpa using h'
  ·rw [if_neg e] at h'
   rw [cU e,cond_false,hc,cond_false]
   have:Ch.clean (eJ [(x,c)]) (fo [])=Ch.forget x:=funext fun d=>sx x c d
   rw [this];exact h'
 ·have h:(S.new x c).ph t'=some av:=h
  obtain ⟨h1,h2⟩:=uz h
  show ((S.ph t').bind fun av=>bif av.bad (eJ [(x,c)]) (fo []) then none else some av)=some av
  rw [h1,Option.bind_some,pA,h2];rfl
theorem bl {f:FuncId} {xs:Array Operand} {ts:Array TypeId} {ins:List (Nm×Ch)} {args args':List AV} {res:AV} {back:List (Nat×AV)} {x:Nm} {c:Ch}
  (hfc:FC P f ins args [(x,c)] res back) (hf:iX P f=true) (ht:Nat.blt t nt=true) (hx':su S xs.toList=some args') (hto:lP args' args) (hin:jc S ins) (hro:(ins.all fun p=> !p.2.own)=true) (hnr:(res.names.all (eJ [(x,c)]))=true) (hno:([(x,c)].all fun p=>p.2.own && p.2.names.all (eJ [(x,c)]))=true):
  bN P nt ⟨some t, .call { callee:= .value (.func f),args:=xs,argTypes:=ts },ty,ps,af,gd⟩ S ((S.new x c).put t res):=
 (pN (kp:= []) hfc hf (by simp [ht]) hx' hto hin trivial hnr hno).wk (sL hro)
theorem lz {x:Nm×Option Nat} {w':World} {lo E n c:Nat} {ao:Option Addr} {xs:List Value} (h:Own w' lo E ao n c xs) {ω':bJ} (ho:∀g,bk ao=some g→ω' g=some x):cW ω' w' x ⟨ao,c,1⟩ E xs.length fun j u=>xs[j]? =some u:=by
 have hl:=h.len
 rcases h.1.2 with ⟨h2,h3⟩ | ⟨g,cap,cur,hv,hg,hh,h4,h5,h6,h7⟩
 ·injection h2 with e1 e2 e3
  subst e1 e3
  exact .inl ⟨rfl,rfl,by omega⟩
 ·injection hv with e1 e2 e3
  subst e1 e3
  refine .inr ⟨g,0,cur,rfl,ho g rfl,hh,⟨rfl,h6⟩,by show xs.length≤c * 1;omega,h5,fun j hj=> ?_⟩
  have h8:xs[j]? =some xs[j]:=List.getElem?_eq_getElem hj
  refine ⟨xs[j], ?_,h8⟩
  have h9:(cur.toList.take (n * 1))[j]? =some xs[j]:=by rw [h7];exact h8
  rw [List.getElem?_take] at h9
  split at h9
  ·rw [Nat.zero_add];simpa using h9
  ·cases h9
theorem kQ {f:FuncId} {ins:List (Nm×Ch)} {args:List AV} {x E:Nat} {zs:List Int} (h:∀w η ω us,Mem η ω w (fun x=>lk x ins)→fz η args us→Calls P f us.toArray w fun e w'=>∃ao c,e= .returned (.slice ao zs.length c)∧Own w' w.heap.size E ao zs.length c (aH zs)∧Below w.heap.size w w'):
  FC P f ins args [(x,⟨true,E,1, .bG (aH zs)⟩)] (o1 (.sl x 0 zs.length)) []:=by
 intro w η ω us hm hd
 refine (h w η ω us hm hd).mono ?_
 rintro e w' ⟨ao,c,rfl,ho,hb⟩
 refine ⟨_, { h:=fun y=>if y=x then some ⟨ao,c,1⟩ else none,r:=η.r },fun b=>if bk ao=some b then some (x,none) else ω b,rfl,⟨⟨_,_,rfl⟩,fun hd' he=> ?_⟩,⟨fun y d hy=> ?_,fun y hy=> ?_⟩,⟨hb.os,hb.tape,hb.output,hb.size,fun b hlt hn=>⟨hb.block b hlt, ?_⟩⟩,fun t av ht=>(nomatch ht)⟩
 ·simp only [if_true,Option.some.injEq] at he
  subst he
  exact ⟨_,rfl,fun _=>rfl,fun h0=>absurd h0 (by omega)⟩
 ·have hy:lk y [(x,(⟨true,E,1, .bG (aH zs)⟩:Ch))]=some d:=hy
  simp only [lk] at hy
  cases hb':Nat.beq y x with
  | false=>rw [hb'] at hy;simp at hy
  | true=>
   rw [hb'] at hy;simp at hy;subst hy
   obtain rfl:=beq_true hb'
   exact ⟨⟨ao,c,1⟩,if_pos rfl,rfl,lz ho fun g hg=>if_pos hg⟩
 ·have hy:lk y [(x,(⟨true,E,1, .bG (aH zs)⟩:Ch))]=none:=hy
  have:y≠x:=fun e=>by subst e;simp [lk] at hy
  exact if_neg this
 ·show (if bk ao=some b then some (x,none) else ω b)=none
  rw [if_neg fun e=>by have:=(ho.lt b e).1;omega];exact hn
theorem bD {n i z m:Nat} {E F s:Nat} {vss:List (List Value)} {vs:List Value} (hc:S.ch n=some ⟨true,E,1, .rows F vss []⟩) (hs0:S.sl s=some (o1 (.esl n i 0 m))) (hi:vss[i]? =some vs) (hm:vs.length=m) (hzn:Nat.beq z n=false):
  Wk S ((((S.kC n).set n ⟨true,E,1, .rows F vss [i]⟩).new z ⟨true,F,1, .bG vs⟩).put s (o1 (.sl z 0 m))):=by
 have hne:z≠n:=fun e=>by rw [e] at hzn;simp at hzn
 subst hm
 refine ⟨fun w0 ω0 nt a w ⟨η,ω,h⟩=> ?_⟩
 obtain ⟨u,hu,hdu⟩:=h.slots s _ hs0
 have hdu:cu η (.esl n i 0 vs.length) u:=hdu
 obtain ⟨hd,e1,e2,e3⟩:=h.chunk hc
 have e3:cW ω w (n,none) hd E vss.length (bU η ω w true n (.rows F vss [])):=e3
 obtain ⟨ao,rfl,q1,_⟩:=hdu.2 hd e1
 have hil:i < vss.length:=(List.getElem?_eq_some_iff.1 hi).1
 obtain ⟨b0,o0,u0,_,_,g3⟩:=iz.get (own:=true) e3 hil
 obtain ⟨r1,r2,r3⟩:=g3.2 (by simp) vs hi
 have r3:cW ω w (n,some i) (η.r n i) F vs.length fun j u=>vs[j]? =some u:=r3
 let ω':bJ:=fun b=>if ω b=some (n,some i) then some (z,none) else ω b
 have calm:Calm (S.rm n) ω w ω' w:=⟨rfl,rfl,rfl,Nat.le_refl _,fun b _ hl=>⟨rfl,by
  have h1:ω b≠some (n,some i):=by
   rcases hl with h0 | ⟨y,j,c,h0,h1⟩
   ·rw [h0];simp
   ·rw [h0];intro e;simp at e;rw [e.1,eG,if_pos rfl] at h1;cases h1
  exact if_neg h1⟩⟩
 have key:dm { η with r:=fun y j=>if y=n then η.r n j else η.r y j } ω' w n hd ⟨true,E,1, .rows F vss [i]⟩:=by
  refine ⟨e2, ?_⟩
  rcases e3 with h0 | ⟨b,o,cs,f1,f2,f3,f4,f5,f6,f7⟩
  ·exact .inl h0
  ·refine .inr ⟨b,o,cs,f1,(if_neg (by rw [f2];simp)).trans f2,f3,f4,f5,f6,fun j hj=> ?_⟩
   obtain ⟨u',hu',hk⟩:=f7 j hj
   refine ⟨u',hu',hk.1,fun hj' vs' hvs'=> ?_⟩
   obtain ⟨m1,m2,m3⟩:=hk.2 (by simp) vs' hvs'
   simp only [if_true]
   refine ⟨m1,m2,cW.same (fun b2 _ ho=>⟨rfl, ?_⟩) (fun _ _ h=>h) m3⟩
   show (if ω b2=some (n,some i) then some (z,none) else ω b2)=_
   rw [if_neg (by rw [ho];simp;simpa using hj')];exact ho
 have h1:=h.rewrite (n:=n) (r:=η.r n) e1 calm key
 have h2:=h1.lay (x:=z) (c:=⟨true,F,1, .bG vs⟩) (hd:=η.r n i) (r:=fun _=>⟨none,0,1⟩) (Calm.refl _ _ _) ⟨r2,by
  show cW ω' w (z,none) (η.r n i) F vs.length _
  rcases r3 with h0 | ⟨b,o,cs,f1,f2,f3,f4,f5,f6,f7⟩
  ·exact .inl h0
  ·exact .inr ⟨b,o,cs,f1,if_pos f2,f3,f4,f5,f6,f7⟩⟩
 refine ⟨_,ω', { h2 with slots:=fun t' av ht'=> ?_ }⟩
 rw [fI] at ht'
 by_cases e:t'=s
 ·subst e
  rw [if_pos rfl] at ht'
  obtain rfl:=Option.some.inj ht'
  refine ⟨_,hu,⟨_,_,rfl⟩,fun hd' he=> ?_⟩
  simp [Env.new] at he
  subst he
  exact ⟨_,rfl,fun _=>q1 rfl,fun h0=>absurd h0 (by omega)⟩
 ·rw [if_neg e] at ht'
  exact h2.slots t' av ht'
end
end Go.Proofs.YtekbhbcgoadciaaGreat
namespace Go.Proofs.YtekbhbcgoadciaaGreat
open Go.RowKit
section
variable {P:Program} {nt:Nat} {S S' S2:St} {t:Nat} {ty:TypeId} {ps:String} {af:Array Edge} {gd:Option (Nat×Bool)} {x y:Operand} {o:Oper}
theorem kb {f:FuncId} {ts:Array TypeId} {n:Nm} {E len:Nat} {zs zs':List Int} (ht:Nat.blt t nt=true) (hf:iX P f=true) (hx:S.op x=some (o1 (.sl n 0 len))) (hc:S.ch n=some ⟨true,E,1, .bG (aH zs)⟩) (hl:zs.length=len) (hl':zs'.length=len) (hlen:len≤4398046511104)
  (h:∀ao c (w:World),Own w 0 E ao len c (aH zs)→Calls P f #[.slice ao len c] w fun e w'=>e= .returned (.tuple #[])∧Own w' 0 E ao len c (aH zs')∧w.grownBy w' (bk ao)):
  bN P nt ⟨some t, .call { callee:= .value (.func f),args:= #[x],argTypes:=ts },ty,ps,af,gd⟩ S ((S.set n ⟨true,E,1, .bG (aH zs')⟩).put t (.tup [])):=by
 refine ⟨fun w0 ω0 a w Q ⟨η,ω,hs⟩=> ?_⟩
 obtain ⟨hd,e1,e2,e3⟩:=hs.chunk hc
 have e2:hd.k=1:=e2
 have e3:cW ω w (n,none) hd E (aH zs).length (bU η ω w true n (.bG (aH zs))):=e3
 have hu:cu η (.sl n 0 len) (a.eval x):=hs.fU hx
 obtain ⟨ao,hev,q1,_⟩:=hu.2 hd e1
 have q1:=q1 rfl
 subst q1
 rw [Nat.sub_zero] at hev
 have hown:=cW.own (lo:=0) (xs:=aH zs) e2 e3 (fun b hb=>absurd hb (by omega)) (by rw [aO];omega) rfl (fun j u hj ⟨b,o,f1,f2⟩=>by
  obtain ⟨b',o',u',g1,g2,g3⟩:=iz.get (own:=true) e3 hj
  rw [f1] at g1;injection g1 with g1;injection g1 with g1 g1';subst g1 g1'
  rw [f2] at g2
  obtain rfl:=Option.some.inj g2
  exact g3)
 rw [aO,hl] at hown
 have hrun:(execOp a.eval ⟨some t, .call { callee:= .value (.func f),args:= #[x],argTypes:=ts },ty,ps,af,gd⟩).run P w= .ok (.enter f #[.slice hd.ao len hd.c]) w:=by
  simp only [execOp]
  have hfe:a.eval (.func f)= .func (Fn.func f) #[] #[]:=rfl
  simp [execOp,resolve,hfe,hev,Deferred.ofValue,invoke,gx hf]
 unfold Oper.wp
 rw [hrun,Oper.upon_enter]
 refine (h _ _ _ hown.1).mono ?_
 rintro e w' ⟨rfl,ho,hg⟩
 have hsz:=hg.size
 have hw:=hs.write (x:=n) (c':=⟨true,E,1, .bG (aH zs')⟩) (ω':=ω) (w':=w') e1 ⟨hg.os,hg.tape,hg.output,hsz,fun b hb hlv=>⟨hg.block b hb fun e=> ?_,rfl⟩⟩ ⟨e2, ?_⟩
 ·exact ⟨η,ω,hw.fi (by simpa using ht) ⟨#[],rfl,rfl,fun j b hj=>by simp at hj⟩⟩
 ·have h1:=(hown.2 b e.symm).2
  rcases hlv with h0 | ⟨y,i,c,h0,h2⟩
  ·rw [h1] at h0;cases h0
  ·rw [h1] at h0;simp at h0;rw [←h0.1,eG,if_pos rfl] at h2;cases h2
 ·have hv:=lz (ω':=ω) ho (x:=(n,none)) fun g hg'=>(hown.2 g hg').2
  have:hd=⟨hd.ao,hd.c,1⟩:=by rw [←e2]
  rw [this]
  exact hv
theorem bR {xt yt:TypeId} {a b:Nat} (ht:Nat.blt t nt=true) (hx:S.op x=some (vv (I6 (a:Int)))) (hy:S.op y=some (vv (I6 (b:Int)))) (hb:0 < b) (ha:a < 1000000000000):
  bN P nt ⟨some t, .binOp .quo xt x y yt,ty,ps,af,gd⟩ S (S.put t (vv (I6 ((a / b:Nat):Int)))):=
 bN.pure rfl ht fun _ _ η _ s w hs=>by
  refine ⟨I6 ((a / b:Nat):Int), ?_,rfl⟩
  have hle:=Nat.div_le_self a b
  have e:Op.intDiv .quo .i64 (a:Int) (b:Int)=pure (I6 ((a / b:Nat):Int)):=by
   have h1:(a:Int).tdiv (b:Int)=((a / b:Nat):Int):=rfl
   have h2:∀q:Nat,q≤a→IntKind.i64.wrap (q:Int)=(q:Int):=fun q hq=>IntWalk.i64_in _ (by omega)
   have h3:¬(b:Int)=0:=by omega
   unfold Op.intDiv
   rw [if_neg h3]
   show pure (Value.int .i64 (IntKind.i64.wrap ((a:Int).tdiv (b:Int))))=_
   rw [h1,h2 _ hle]
  simp [execOp,hs.fg hx,hs.fg hy,eqGuard,binOp,e]
theorem fa {xt yt:TypeId} {a b:Nat} (ht:Nat.blt t nt=true) (hx:S.op x=some (vv (I6 (a:Int)))) (hy:S.op y=some (vv (I6 (b:Int)))) (hb:0 < b) (ha:a < 1000000000000):
  bN P nt ⟨some t, .binOp .rem xt x y yt,ty,ps,af,gd⟩ S (S.put t (vv (I6 ((a % b:Nat):Int)))):=
 bN.pure rfl ht fun _ _ η _ s w hs=>by
  refine ⟨I6 ((a % b:Nat):Int), ?_,rfl⟩
  have hle:=Nat.mod_le a b
  have e:Op.intDiv .rem .i64 (a:Int) (b:Int)=pure (I6 ((a % b:Nat):Int)):=by
   have h1:(a:Int).tmod (b:Int)=((a % b:Nat):Int):=rfl
   have h3:¬(b:Int)=0:=by omega
   unfold Op.intDiv
   rw [if_neg h3]
   show pure (Value.int .i64 ((a:Int).tmod (b:Int)))=_
   rw [h1]
  simp [execOp,hs.fg hx,hs.fg hy,eqGuard,binOp,e]
theorem g8 {xt yt:TypeId} {op:BinOp} {b:Bool} (ht:Nat.blt t nt=true) (hT:sliceB P xt=true) (hx:S.op x=some (vv (.slice none 0 0))) (hop:(op= .eql∧b=true)∨(op= .neq∧b=false)):
  bN P nt ⟨some t, .binOp op xt x (.const (.slice none 0 0)) yt,ty,ps,af,gd⟩ S (S.put t (vv (.bool b))):=
 bN.pure rfl ht fun _ _ η _ s w hs=>by
  obtain ⟨e,he⟩:=ib hT
  have hc:s.eval (.const (.slice none 0 0))= .slice none 0 0:=rfl
  refine ⟨.bool b, ?_,rfl⟩
  rcases hop with ⟨rfl,rfl⟩ | ⟨rfl,rfl⟩
  ·simp [execOp,hs.fg hx,hc,eqGuard,Lib.run_eql_slice_nil w xt e none 0 0 0 0 he]
  ·simp [execOp,hs.fg hx,hc,eqGuard,Go.run_neq_slice_nil w xt e none 0 0 he]
theorem eS {xt yt:TypeId} {op:BinOp} {b:Bool} {n:Nm} {len:Nat} {c:Ch} (ht:Nat.blt t nt=true) (hT:sliceB P xt=true) (hx:S.op x=some (o1 (.sl n 0 len))) (hc:S.ch n=some c) (hl:0 < c.d.len) (hop:(op= .eql∧b=false)∨(op= .neq∧b=true)):
  bN P nt ⟨some t, .binOp op xt x (.const (.slice none 0 0)) yt,ty,ps,af,gd⟩ S (S.put t (vv (.bool b))):=
 bN.pure rfl ht fun _ _ η _ s w hs=>by
  obtain ⟨e,he⟩:=ib hT
  have hcc:s.eval (.const (.slice none 0 0))= .slice none 0 0:=rfl
  obtain ⟨hd,h1,h2,h3⟩:=hs.chunk hc
  have hd1:cu η (.sl n 0 len) (s.eval x):=hs.fU hx
  obtain ⟨ao,e1,e2,_⟩:=hd1.2 hd h1
  obtain ⟨b',o',u,f1,_,_⟩:=h3.get hl
  have hao:ao=some ⟨b',o',none⟩:=by rw [e2 rfl,f1]
  subst hao
  refine ⟨.bool b, ?_,rfl⟩
  rcases hop with ⟨rfl,rfl⟩ | ⟨rfl,rfl⟩
  ·simp [execOp,e1,hcc,eqGuard,Lib.run_eql_slice_nil w xt e _ _ _ 0 0 he]
  ·simp [execOp,e1,hcc,eqGuard,Go.run_neq_slice_nil w xt e _ _ _ he]
end
end Go.Proofs.YtekbhbcgoadciaaGreat
namespace Go.Proofs.YtekbhbcgoadciaaGreat
open Go.RowKit
section
variable {P:Program} {nt:Nat} {S S1 S2:St} {w0 w:World} {ω0:g9} {ω:bJ} {η:Env} {a:Act} {Q:Exit→Act→World→Prop} {ops:Array Oper} {rest:List Oper}
variable {t:Nat} {ty:TypeId} {ps:String} {af:Array Edge} {gd:Option (Nat×Bool)} {x y:Operand} {av:AV} {o:Oper}
theorem kL {T:TypeId} {n:Nm} {i:Nat} {c:Ch} {cs:List gG} {v:Value} (ht:Nat.blt t nt=true) (hT:kx P T=true) (hx:S.op x=some (o1 (.ptr n i))) (hc:S.ch n=some c) (hd:c.d= .mix cs) (hv:cs[i]? =some (.v v)):
  bN P nt ⟨some t, .load T x,ty,ps,af,gd⟩ S (S.put t (vv v)):=ij ht hT hx hc (by rw [hd];simp only [dL.at_,hv])
theorem gK {T:TypeId} {n:Nm} {i F k m:Nat} {c:Ch} {cs:List gG} {vs:List Value} (ht:Nat.blt t nt=true) (hT:kx P T=true) (hx:S.op x=some (o1 (.ptr n i))) (hc:S.ch n=some c) (hd:c.d= .mix cs) (hv:cs[i]? =some (.r F k m vs)):
  bN P nt ⟨some t, .load T x,ty,ps,af,gd⟩ S (S.put t (o1 (.esl n i 0 m))):=ij ht hT hx hc (by rw [hd];simp only [dL.at_,hv])
theorem cw {T:TypeId} {n:Nm} {i k:Nat} {c:Ch} {l:List A1} (ht:Nat.blt t nt=true) (hx:S.op x=some (o1 (.ptr n i))) (hc:S.ch n=some c) (hl:l.length=k) (hk0:Nat.blt 0 k=true) (hT:oy P T k=true)
  (ha:∀(j:Nat) (b:A1),l[j]? =some b→c.d.at_ n (i + j)=some b):bN P nt ⟨some t, .load T x,ty,ps,af,gd⟩ S (S.put t (.s (.agg l))):=
 bN.pure rfl ht fun _ _ η ω a w hs=>by
  obtain ⟨h,e1,e2,e3⟩:=hs.chunk hc
  have hp:cu η (.ptr n i) (a.eval x):=hs.fU hx
  obtain ⟨b,o,g1,g2⟩:=hp.2 h e1
  have key:∀j (hj:j < k),∃u,w.cell? ⟨b,o + i + j,none⟩=some u∧∀b1,l[j]? =some b1→cu η b1 u:=fun j hj=>by
   have hlj:l[j]? =some l[j]:=List.getElem?_eq_getElem (by omega)
   obtain ⟨b',o',u,f1,f2,f3⟩:=e3.get (j:=i + j) (dL.tK (ha j _ hlj))
   rw [g1] at f1;injection f1 with f1;injection f1 with f1 f1';subst f1 f1'
   exact ⟨u,by rw [Nat.add_assoc];exact f2,fun b1 hb1=>qR f3 (ha j b1 hb1)⟩
  refine ⟨.agg ((List.range k).map fun j=>(w.cell? ⟨b,o + i + j,none⟩).getD undef).toArray, ?_,⟨_,rfl,by simp;omega,fun j b1 hb1=> ?_⟩⟩
  ·have:=lf (P:=P) (w:=w) hT (b:=b) (o:=o + i) (us:=(List.range k).map fun j=>(w.cell? ⟨b,o + i + j,none⟩).getD undef) (by simp) fun j u hu=>by
    rw [List.getElem?_map,Option.map_eq_some_iff] at hu
    obtain ⟨j',hj',rfl⟩:=hu
    have hjk:j < k:=by have:=(List.getElem?_eq_some_iff.1 hj').1;simpa using this
    rw [List.getElem?_range hjk] at hj'
    obtain rfl:=Option.some.inj hj'
    obtain ⟨u,hu,_⟩:=key j hjk
    rw [hu];rfl
   simp [execOp,g2,Instr.loadAt,Instr.sureAddr,this]
  ·have hjk:j < k:=by rw [←hl];exact (List.getElem?_eq_some_iff.1 hb1).1
   obtain ⟨u,hu,hdu⟩:=key j hjk
   exact ⟨u,by simp [hjk,hu],hdu b1 hb1⟩
theorem rp {T:TypeId} {n:Nm} {i:Nat} {c:Ch} {cs:List gG} {v v0:Value} (hx:S.op x=some (o1 (.ptr n i))) (hy:S.op y=some (vv v)) (hc:S.ch n=some c) (hown:c.own=true) (hd:c.d= .mix cs) (hi:cs[i]? =some (.v v0)) (hT:hU P T 1=true) (h1:v.oneCell'=true):
  bN P nt ⟨none, .store T x y,ty,ps,af,gd⟩ S (S.set n { c with d:= .mix (cs.set i (.v v)) }):=
 have hil:i < cs.length:=(List.getElem?_eq_some_iff.1 hi).1
 bN.unit rfl fun w0 ω0 η ω a w hs=>by
  have hb:a.eval y=v:=hs.fg hy
  obtain ⟨w',k1,k2⟩:=hs.uR (P:=P) (T:=T) (v:=v) (d':= .mix (cs.set i (.v v))) (hs.fU hx) hc hown (by rw [hd];exact hil) hT h1 (by rw [hd];simp [dL.len])
   (fun w' j u hj hk=>by rw [hd] at hk;exact ⟨hk.1,fun c hc'=>by rw [List.getElem?_set_ne (fun e=>hj e.symm)] at hc';exact hk.2 c hc'⟩)
   (fun w'=>⟨h1,fun c hc'=>by rw [List.getElem?_set_self hil] at hc';obtain rfl:=Option.some.inj hc';exact rfl⟩)
  exact ⟨w',by simp [execOp,hb,k1],_,_,k2⟩
def lQ:gG→Value→Prop
 | .v y,u=>u=y
 | .r _ _ m vs,u=>m=0∧vs= []∧u= .slice none 0 0
 | .any,_=>True
def yO:gG→Nat
 | .r _ k _ _=>k
 | _=>1
theorem lQ.ok {own:Bool} {n:Nm} {j:Nat} {c:gG} {u:Value} (hr:η.r n j=⟨none,0,yO c⟩) (h:lQ c u):gv η ω w true n j c u:=by
 cases c with
 | v y=>exact h
 | any=>trivial
 | r F k m vs=>
  obtain ⟨rfl,rfl,rfl⟩:=h
  refine ⟨by simp,by rw [hr],by rw [hr];rfl, ?_⟩
  rw [hr]
  exact .inl ⟨rfl,rfl,rfl⟩
theorem fA {T E k n len m:Nat} {cs cn:List gG} {news:List Value} {b:A1} (ht:Nat.blt t nt=true) (hT:nf P T E k=true) (hk0:Nat.blt 0 k=true) (hx:S.op x=some (o1 (.sl n 0 len))) (hc:S.ch n=some ⟨true,E,k, .mix cs⟩) (hl:cs.length=len * k)
  (hy:S.op y=some (o1 b)) (hr:Reads S b m k news) (hm:0 < m) (h1:∀v∈news,v.oneCell'=true) (hcn:cn.length=news.length) (hcel:∀(j:Nat) c u,cn[j]? =some c→news[j]? =some u→lQ c u) (hb:len + m≤2199023255552):
  bN P nt ⟨some t, .call { callee:= .builtin .append,args:= #[x,y],argTypes:= #[T,T] },ty,ps,af,gd⟩ S ((S.new n ⟨true,E,k, .mix (cs ++ cn)⟩).put t (o1 (.sl n 0 (len + m)))):=
 bN.of _ fun w0 ω0 η ω a w hs=>by
  have hk0':0 < k:=by simpa using hk0
  obtain ⟨hd,e1,e2,e3⟩:=hs.chunk hc
  have e3:cW ω w (n,none) hd E cs.length (bU η ω w true n (.mix cs)):=e3
  have hu:cu η (.sl n 0 len) (a.eval x):=hs.fU hx
  obtain ⟨ad,cp,r1,r2⟩:=hr.go hs (hs.fU hy)
  have hnl:=hr.len
  have hn0:0 < news.length:=by rw [hnl];exact Nat.mul_pos hm hk0'
  obtain ⟨bb,o,r3,_⟩:=r2 0 _ (List.getElem?_eq_getElem hn0)
  subst r3
  obtain ⟨h',w',k1,k2⟩:=iy (P:=P) (ty:=ty) (c:=cp) hT hk0' e2 e3 (hu.2 hd e1) rfl (by rw [Nat.zero_add];exact hl.symm) hm hnl (a:=⟨bb,o,none⟩) (fun j v hj=>by
   obtain ⟨b2,o2,h2,h3⟩:=r2 j v hj
   simp only [Option.some.injEq,Addr.mk.injEq,and_true] at h2
   obtain ⟨rfl,rfl⟩:=h2
   rw [Addr.add_lit];exact h3) h1 hb
  refine ⟨.slice h'.ao (len + m) h'.c,w',by simp [execOp,resolve,invoke,builtin,r1,k1], ?_⟩
  have hlen:(cs ++ cn).length=len * k + news.length:=by rw [List.length_append,hl,hcn]
  let r':Nat→Hd:=fun j=>if j < cs.length then η.r n j else ⟨none,0,yO (cn.getD (j - cs.length) .any)⟩
  have hS:(S.rm n).ch n=none:=by simp [eG]
  have:=hs.renew (n:=n) (c:=⟨true,E,k, .mix (cs ++ cn)⟩) (hd:=h') (r:=r') (l8 hS k2) ⟨k2.k_,by
   obtain ⟨b',o',cs',v1,v2,v3,v4,v5,v6,v7,v8⟩:=k2.vec
   refine .inr ⟨b',o',cs',v1,v2,v3,by rw [k2.k_];exact v4,by rw [k2.k_];show (cs ++ cn).length≤_;rw [hlen];exact v5,v6,fun j hj=> ?_⟩
   have hj:j < (cs ++ cn).length:=hj
   rw [hlen] at hj
   by_cases hlt:j < len * k
   ·obtain ⟨u,q1,q2⟩:=v7 j hlt
    rw [Nat.zero_mul,Nat.zero_add] at q2
    refine ⟨u,q1,q2.1,fun c hc=> ?_⟩
    rw [List.getElem?_append_left (by omega)] at hc
    have hv:∀(F:TypeId) (vs:List Value),cW ω w (n,some j) (η.r n j) F vs.length (fun i u=>vs[i]? =some u)→cW (bJ.new ω w.heap.size (n,none)) w' (n,some j) (η.r n j) F vs.length (fun i u=>vs[i]? =some u):=fun F vs f3=>
     cW.same (fun b hb ho=>⟨k2.other b hb (by rw [ho];simp),by simp [bJ.new,Nat.ne_of_lt hb,ho]⟩) (fun _ _ h=>h) f3
    exact gv.move (own:=true) (own':=true) (by simp [Env.new,r',hl,hlt]) (fun F k m vs _ f3=>hv F vs f3) (q2.2 c hc)
   ·have hj2:j - len * k < news.length:=by omega
    have hnj:news[j - len * k]? =some news[j - len * k]:=List.getElem?_eq_getElem hj2
    refine ⟨news[j - len * k], ?_,h1 _ (List.getElem_mem hj2),fun c hc=> ?_⟩
    ·have:=v8 (j - len * k) _ hnj
     rw [show o' + len * k + (j - len * k)=o' + j by omega] at this;exact this
    ·rw [List.getElem?_append_right (by omega),hl] at hc
     refine lQ.ok (own:=true) ?_ (hcel _ _ _ hc hnj)
     simp only [Env.new,if_true,r',hl,if_neg hlt,List.getD,hc,Option.getD_some]⟩
  exact ⟨_,_,this.fi (by simpa using ht) lx⟩
theorem fD {n i z k kk m:Nat} {E F s:Nat} {cs:List gG} {vs:List Value} (hc:S.ch n=some ⟨true,E,kk, .mix cs⟩) (hs0:S.sl s=some (o1 (.esl n i 0 m))) (hi:cs[i]? =some (.r F k m vs)) (hzn:Nat.beq z n=false):
  Wk S ((((S.kC n).set n ⟨true,E,kk, .mix (cs.set i .any)⟩).new z ⟨true,F,k, .bG vs⟩).put s (o1 (.sl z 0 m))):=by
 have hne:z≠n:=fun e=>by rw [e] at hzn;simp at hzn
 refine ⟨fun w0 ω0 nt a w ⟨η,ω,h⟩=> ?_⟩
 obtain ⟨u,hu,hdu⟩:=h.slots s _ hs0
 have hdu:cu η (.esl n i 0 m) u:=hdu
 obtain ⟨hd,e1,e2,e3⟩:=h.chunk hc
 have e3:cW ω w (n,none) hd E cs.length (bU η ω w true n (.mix cs)):=e3
 obtain ⟨ao,rfl,q1,_⟩:=hdu.2 hd e1
 have hil:i < cs.length:=(List.getElem?_eq_some_iff.1 hi).1
 obtain ⟨b0,o0,u0,_,_,g3⟩:=iz.get (own:=true) e3 hil
 obtain ⟨r0,r1,r2,r3⟩:=g3.2 _ hi
 have r3:cW ω w (n,some i) (η.r n i) F vs.length fun j u=>vs[j]? =some u:=r3
 let ω':bJ:=fun b=>if ω b=some (n,some i) then some (z,none) else ω b
 have calm:Calm (S.rm n) ω w ω' w:=⟨rfl,rfl,rfl,Nat.le_refl _,fun b _ hl=>⟨rfl,by
  have h1:ω b≠some (n,some i):=by
   rcases hl with h0 | ⟨y,j,c,h0,h1⟩
   ·rw [h0];simp
   ·rw [h0];intro e;simp at e;rw [e.1,eG,if_pos rfl] at h1;cases h1
  exact if_neg h1⟩⟩
 have key:dm { η with r:=fun y j=>if y=n then η.r n j else η.r y j } ω' w n hd ⟨true,E,kk, .mix (cs.set i .any)⟩:=by
  refine ⟨e2, ?_⟩
  rcases e3 with h0 | ⟨b,o,xs0,f1,f2,f3,f4,f5,f6,f7⟩
  ·exact .inl (by simpa [dL.len] using h0)
  ·refine .inr ⟨b,o,xs0,f1,(if_neg (by rw [f2];simp)).trans f2,f3,f4,by simpa [dL.len] using f5,f6,fun j hj=> ?_⟩
   have hj:j < cs.length:=by simpa [dL.len] using hj
   obtain ⟨u',hu',hk⟩:=f7 j hj
   refine ⟨u',hu',hk.1,fun c hc'=> ?_⟩
   by_cases e:j=i
   ·subst e;rw [List.getElem?_set_self hil] at hc';obtain rfl:=Option.some.inj hc';trivial
   ·rw [List.getElem?_set_ne (fun e'=>e e'.symm)] at hc'
    have hv:∀(F:TypeId) (vs:List Value),cW ω w (n,some j) (η.r n j) F vs.length (fun i u=>vs[i]? =some u)→cW ω' w (n,some j) (η.r n j) F vs.length (fun i u=>vs[i]? =some u):=fun F vs f3=>
     cW.same (fun b2 _ ho=>⟨rfl,by show (if ω b2=some (n,some i) then some (z,none) else ω b2)=_;rw [if_neg (by rw [ho];simpa using e)];exact ho⟩) (fun _ _ h=>h) f3
    exact gv.move (own:=true) (own':=true) (if_pos rfl) (fun F k m vs _ f3=>hv F vs f3) (hk.2 c hc')
 have h1:=h.rewrite (n:=n) (r:=η.r n) e1 calm key
 have h2:=h1.lay (x:=z) (c:=⟨true,F,k, .bG vs⟩) (hd:=η.r n i) (r:=fun _=>⟨none,0,1⟩) (Calm.refl _ _ _) ⟨r2,by
  show cW ω' w (z,none) (η.r n i) F vs.length _
  rcases r3 with h0 | ⟨b,o,xs0,f1,f2,f3,f4,f5,f6,f7⟩
  ·exact .inl h0
  ·exact .inr ⟨b,o,xs0,f1,if_pos f2,f3,f4,f5,f6,f7⟩⟩
 refine ⟨_,ω', { h2 with slots:=fun t' av ht'=> ?_ }⟩
 rw [fI] at ht'
 by_cases e:t'=s
 ·subst e
  rw [if_pos rfl] at ht'
  obtain rfl:=Option.some.inj ht'
  refine ⟨_,hu,⟨_,_,rfl⟩,fun hd' he=> ?_⟩
  simp [Env.new] at he
  subst he
  exact ⟨_,rfl,fun _=>q1 rfl,fun h0=>absurd h0 (by omega)⟩
 ·rw [if_neg e] at ht'
  exact h2.slots t' av ht'
theorem eV {T E F n i z k kk m:Nat} {cs:List gG} {vs:List Value} (hx:S.op x=some (o1 (.ptr n i))) (hc:S.ch n=some ⟨true,E,kk, .mix cs⟩) (hy:S.op y=some (o1 (.sl z 0 m))) (hz:S.ch z=some ⟨true,F,k, .bG vs⟩)
  (hm:vs.length=m * k) (hzn:Nat.beq z n=false) (hi:i < cs.length) (hT:hU P T 1=true):bN P nt ⟨none, .store T x y,ty,ps,af,gd⟩ S (((S.rm z).kC n).set n ⟨true,E,kk, .mix (cs.set i (.r F k m vs))⟩):=
 bN.unit rfl fun w0 ω0 η ω a w hs=>by
  have hne:z≠n:=fun e=>by rw [e] at hzn;simp at hzn
  have hp:cu η (.ptr n i) (a.eval x):=hs.fU hx
  have hv:cu η (.sl z 0 m) (a.eval y):=hs.fU hy
  obtain ⟨h,e1,e2,e3⟩:=hs.chunk hc
  obtain ⟨hz',z1,z2,z3⟩:=hs.chunk hz
  have z2:hz'.k=k:=z2
  have z3:cW ω w (z,none) hz' F vs.length (bU η ω w true z (.bG vs)):=z3
  obtain ⟨az,hav,q1,_⟩:=hv.2 hz' z1
  obtain ⟨b,o,g1,g2⟩:=hp.2 h e1
  have e3:cW ω w (n,none) h E cs.length (bU η ω w true n (.mix cs)):=e3
  rcases e3 with ⟨_,_,h0⟩ | ⟨b',o',xs0,f1,f2,f3,f4,f5,f6,f7⟩
  ·omega
  rw [g1] at f1;injection f1 with f1;injection f1 with f1 f1';subst f1 f1'
  obtain ⟨u,hu,_⟩:=f7 i hi
  have hcell:w.cell? ⟨b,o + i,none⟩=some u:=by rw [cell_of_row w b (o + i) xs0 E (0,0) f3];exact hu
  have hsz:o + i < xs0.size:=by
   rcases Nat.lt_or_ge (o + i) xs0.size with hlt | hge
   ·exact hlt
   ·rw [Array.getElem?_eq_none hge] at hu;cases hu
  have hS:((S.rm z).rm n).ch n=none:=by simp [eG]
  have hSz:((S.rm z).rm n).ch z=none:=by simp [eG,hne]
  have hsame:=gM (w:=w) f2 ⟨b,o + i,none⟩ rfl (.slice az m (hz'.c - 0))
  have calm:Calm ((S.rm z).rm n) ω w (bJ.iV ω z n i) (w.setCell ⟨b,o + i,none⟩ (.slice az m (hz'.c - 0))):=⟨rfl,rfl,rfl,hsame.1,fun b2 hb2 hl=>by
   have h1:ω b2≠some (n,none)∧ω b2≠some (z,none):=by
    rcases hl with h0 | ⟨y,j,c,h0,h1⟩
    ·rw [h0];simp
    ·rw [h0]
     refine ⟨fun e=> ?_,fun e=> ?_⟩
     ·simp at e;rw [e.1,hS] at h1;cases h1
     ·simp at e;rw [e.1,hSz] at h1;cases h1
   exact ⟨(hsame.2 b2 hb2 h1.1).1,if_neg h1.2⟩⟩
  have key:dm { η.drop z with r:=fun y j=>if y=n then (if j=i then hz' else η.r n j) else η.r y j } (bJ.iV ω z n i) (w.setCell ⟨b,o + i,none⟩ (.slice az m (hz'.c - 0))) n h ⟨true,E,kk, .mix (cs.set i (.r F k m vs))⟩:=by
   refine ⟨e2, ?_⟩
   have hbz:ω b≠some (z,none):=by rw [f2];simp;exact fun e=>hne e.symm
   refine .inr ⟨b,o,_,g1,(if_neg hbz).trans f2,heap_set f3 _,by simpa using f4,by show (cs.set i _).length≤_;rw [List.length_set];exact f5,f6,fun j hj=> ?_⟩
   have hj:j < cs.length:=by simpa [dL.len] using hj
   by_cases e:j=i
   ·subst e
    refine ⟨.slice az m (hz'.c - 0),by simp [hsz],rfl,fun c hc'=> ?_⟩
    rw [List.getElem?_set_self hi] at hc'
    obtain rfl:=Option.some.inj hc'
    unfold gv
    simp only [if_true]
    refine ⟨hm,by rw [q1 rfl];rfl,z2,cW.iV z3 fun b2 hb2 ho=>⟨(hsame.2 b2 hb2 (by rw [ho];simp;exact fun e=>absurd e hne)).1,if_pos ho⟩⟩
   ·obtain ⟨u',hu',hk⟩:=f7 j hj
    refine ⟨u',by rw [Array.getElem?_setIfInBounds_ne (by omega)];exact hu',hk.1,fun c hc'=> ?_⟩
    rw [List.getElem?_set_ne (fun e'=>e e'.symm)] at hc'
    have hv:∀(F:TypeId) (vs:List Value),cW ω w (n,some j) (η.r n j) F vs.length (fun i u=>vs[i]? =some u)→cW (bJ.iV ω z n i) (w.setCell ⟨b,o + i,none⟩ (.slice az m (hz'.c - 0))) (n,some j) (η.r n j) F vs.length (fun i u=>vs[i]? =some u):=fun F vs r3=>
     cW.same (fun b2 hb2 ho=>⟨(hsame.2 b2 hb2 (by rw [ho];simp)).1,by unfold bJ.iV;rw [if_neg (by rw [ho];simp)];exact ho⟩) (fun _ _ h=>h) r3
    exact gv.move (own:=true) (own':=true) (by simp only [if_true,if_neg e]) (fun F k m vs _ f3=>hv F vs f3) (hk.2 c hc')
  have hfin:=(hs.drop z).rewrite (n:=n) (r:=fun j=>if j=i then hz' else η.r n j) (hd:=h) (by show (if n=z then none else η.h n)=some h;rw [if_neg (fun e=>hne e.symm)];exact e1) calm key
  have hst:=jj (P:=P) hT hcell (kD f3) (v:= .slice az m (hz'.c - 0)) rfl
  simp only [Nat.sub_zero] at hst hfin
  refine ⟨_,by simp [execOp,hav,g2,hst],_,_,hfin⟩
theorem cX {T:TypeId} {n:Nm} {i0 len j k m:Nat} {c:Ch} {F:TypeId} {cs:List gG} {vs:List Value} {ki:IntKind} {i:Int} (ht:Nat.blt t nt=true) (hx:S.op x=some (o1 (.esl n i0 0 len))) (hy:S.op y=some (vv (.int ki i))) (hc:S.ch n=some c) (hd:c.d= .mix cs) (hT:ir P T k=true)
  (hi0:cs[i0]? =some (.r F k m vs)) (hk0:0 < k) (hi:i=(j:Int)) (hj:j < len) (hl:len≤m):bN P nt ⟨some t, .indexAddr T x y,ty,ps,af,gd⟩ S (S.put t (o1 (.eptr n i0 (j * k)))):=
 bN.pure rfl ht fun _ _ η ω a w hs=>by
  obtain ⟨hd',h1,h2,h3⟩:=hs.chunk hc
  have hd1:cu η (.esl n i0 0 len) (a.eval x):=hs.fU hx
  obtain ⟨ao,e1,e2,e3⟩:=hd1.2 hd' h1
  rw [hd] at h3
  obtain ⟨_,_,_,_,_,k3⟩:=h3.get (j:=i0) (List.getElem?_eq_some_iff.1 hi0).1
  obtain ⟨q0,_,q2,q3⟩:=k3.2 _ hi0
  have hm0:0 < vs.length:=by rw [q0];exact Nat.mul_pos (by omega) hk0
  obtain ⟨b',o',u,f1,f2,f3⟩:=q3.get hm0
  have hao:ao=some ⟨b',o',none⟩:=by rw [e2 rfl,f1]
  subst hao
  refine ⟨.pointer (some ⟨b',o' + j * k,none⟩),by simp only [execOp,e1,hs.fg hy];simp [gk hT hj hi],⟨_,rfl⟩,fun hd' he=> ?_⟩
  rw [h1] at he;obtain rfl:=Option.some.inj he
  exact ⟨b',o',f1,rfl⟩
theorem bY {T:TypeId} {n:Nm} {i j k m:Nat} {c:Ch} {F:TypeId} {cs:List gG} {vs:List Value} {v:Value} (ht:Nat.blt t nt=true) (hT:kx P T=true) (hx:S.op x=some (o1 (.eptr n i j))) (hc:S.ch n=some c)
  (hd:c.d= .mix cs) (hi:cs[i]? =some (.r F k m vs)) (hj:vs[j]? =some v):bN P nt ⟨some t, .load T x,ty,ps,af,gd⟩ S (S.put t (vv v)):=
 bN.pure rfl ht fun _ _ η ω a w hs=>by
  obtain ⟨hq,h1,_,h3⟩:=hs.chunk hc
  have hd1:cu η (.eptr n i j) (a.eval x):=hs.fU hx
  obtain ⟨bb,o,e1,e2⟩:=hd1.2 hq h1
  rw [hd] at h3
  obtain ⟨_,_,_,_,_,f3⟩:=h3.get (j:=i) (List.getElem?_eq_some_iff.1 hi).1
  obtain ⟨_,_,_,g3⟩:=f3.2 _ hi
  obtain ⟨b'',o'',u',k1,k2,k3⟩:=g3.get (j:=j) (List.getElem?_eq_some_iff.1 hj).1
  rw [e1] at k1;injection k1 with k1;injection k1 with k1 k1';subst k1 k1'
  rw [hj] at k3
  obtain rfl:=Option.some.inj k3
  exact ⟨v,by simp [execOp,e2,k8 hT k2],rfl⟩
theorem dy {T:TypeId} {n:Nm} {len j k K:Nat} {c:Ch} {ki:IntKind} {i:Int} (ht:Nat.blt t nt=true) (hx:S.op x=some (o1 (.sl n 0 len))) (hy:S.op y=some (vv (.int ki i))) (hc:S.ch n=some c) (hk:c.k=k) (hT:ir P T k=true)
  (hi:i=(j:Int)) (hj:j < len) (hl:len * k≤c.d.len) (hk0:0 < k) (hK:j * k=K):bN P nt ⟨some t, .indexAddr T x y,ty,ps,af,gd⟩ S (S.put t (o1 (.ptr n K))):=by
 have:=iZ (P:=P) (nt:=nt) (t:=t) (ty:=ty) (ps:=ps) (af:=af) (gd:=gd) ht hx hy hc hk hT hi hj (by rw [Nat.zero_add];exact hl) hk0
 rwa [Nat.zero_add,hK] at this
theorem fX {T:TypeId} {x0:Operand} {v0:Value} {vs:List Value} (ht:Nat.blt t nt=true) (hx0:S.op x0=some (vv v0)) (hb:P.built T [(0,v0)]=some vs.toArray):
  bN P nt ⟨some t, .build T #[(0,x0)],ty,ps,af,gd⟩ S (S.put t (.s (.agg (vs.map .val)))):=
 bN.of _ fun w0 ω0 η ω a w hs=>by
  refine ⟨.agg vs.toArray,w, ?_,η,ω,hs.fi (by simpa using ht) (⟨_,rfl,by simp,fun j b hb=> ?_⟩:fm η (.agg (vs.map .val)) _)⟩
  ·simp only [execOp]
   simp [hs.fg hx0,run_build w T #[(0,v0)] _ hb]
  ·rw [List.getElem?_map,Option.map_eq_some_iff] at hb
   obtain ⟨v,hv,rfl⟩:=hb
   exact ⟨v,by simpa using hv,rfl⟩
theorem iR {T E:Nat} {x0:Operand} {v0 v1:Value} (ht:Nat.blt t nt=true) (hT:nf P T E 2=true) (hx:S.op x0=some (.s (.agg [.val v0, .val v1]))):
  bN P nt ⟨some t, .buildSlice T 1 #[(0,x0)],ty,ps,af,gd⟩ S ((S.new t ⟨true,E,2, .bG [v0,v1]⟩).put t (o1 (.sl t 0 1))):=
 bN.of _ fun w0 ω0 η ω a w hs=>by
  obtain ⟨i,z,k1,k2,k3,k4,k5,k6⟩:=dV hT
  obtain ⟨us,hu,hul,hua⟩:fm η (.agg [.val v0, .val v1]) (a.eval x0):=hs.fU hx
  obtain ⟨u0,g0,d0⟩:=hua 0 _ rfl
  obtain ⟨u1,g1,d1⟩:=hua 1 _ rfl
  have d0:u0=v0:=d0
  have d1:u1=v1:=d1
  subst d0 d1
  obtain rfl:us= #[u0,u1]:=by
   have:us.size=2:=hul
   match us with
   | ⟨[p,q]⟩=>simp at g0 g1;rw [g0,g1]
  refine ⟨.slice (some ⟨w.heap.size,0,none⟩) 1 1,w.alloc (.cells #[u0,u1] E), ?_, ?_⟩
  ·have hc:(Value.agg #[u0,u1]).cells= #[u0,u1]:=rfl
   simp [execOp,Instr.buildSlice,run_underlying k1,sizeOf,typeInfo,k2,k3,zeroValue,k5,Instr.fill,newRow,hu,hc,qI]
  ·have hal:=hs.alloc (x:=t) (c:=⟨true,E,2, .bG [u0,u1]⟩) (cs:= #[u0,u1]) (r:=fun _=>⟨none,0,1⟩) (n:=1) rfl (by simp) (by simp [dL.len]) (by simp [maxLen]) fun j hj=>by
    have hj:j < 2:=hj
    match j,hj with
    | 0,_=>exact ⟨_,by simp,rfl⟩
    | 1,_=>exact ⟨_,by simp,rfl⟩
   exact ⟨_,_,hal.fi (by simpa using ht) dY⟩
theorem xG (f:Nat→Value):Array.map f (Array.range 3)= #[f 0,f 1,f 2]:=by apply Array.ext';simp [Array.toList_range,List.range_succ]
theorem yp (f:Nat→Value):Array.map f (Array.range 4)= #[f 0,f 1,f 2,f 3]:=by apply Array.ext';simp [Array.toList_range,List.range_succ]
theorem aM {T E:Nat} {x0 x1 x2:Operand} {z0 z1 z2:Int} (ht:Nat.blt t nt=true) (hT:nf P T E 1=true) (hx0:S.op x0=some (vv (I6 z0))) (hx1:S.op x1=some (vv (I6 z1))) (hx2:S.op x2=some (vv (I6 z2))):
  bN P nt ⟨some t, .buildSlice T 3 #[(0,x0),(1,x1),(2,x2)],ty,ps,af,gd⟩ S ((S.new t ⟨true,E,1, .bG (aH [z0,z1,z2])⟩).put t (o1 (.sl t 0 3))):=
 bN.of _ fun w0 ω0 η ω a w hs=>by
  obtain ⟨i,z,k1,k2,k3,k4,k5,k6⟩:=dV hT
  have h0:=hs.fg hx0
  have h1:=hs.fg hx1
  have h2:=hs.fg hx2
  refine ⟨.slice (some ⟨w.heap.size,0,none⟩) 3 3,w.alloc (.cells #[I6 z0,I6 z1,I6 z2] E), ?_, ?_⟩
  ·simp [execOp,Instr.buildSlice,run_underlying k1,sizeOf,typeInfo,k2,k3,zeroValue,k5,Instr.fill,newRow,h0,h1,h2,Value.cells,xG]
  ·have hal:=hs.alloc (x:=t) (c:=⟨true,E,1, .bG (aH [z0,z1,z2])⟩) (cs:= #[I6 z0,I6 z1,I6 z2]) (r:=fun _=>⟨none,0,1⟩) (n:=3) rfl (by simp) (by simp [dL.len,aH]) (by simp [maxLen]) fun j hj=>by
    match j,hj with
    | 0,_=>exact ⟨I6 z0,by simp,rfl⟩
    | 1,_=>exact ⟨I6 z1,by simp,rfl⟩
    | 2,_=>exact ⟨I6 z2,by simp,rfl⟩
    | j + 3,hj=>exact absurd hj (by simp [dL.len,aH])
   exact ⟨_,_,hal.fi (by simpa using ht) dY⟩
theorem aL {T E:Nat} {x0 x1 x2 x3:Operand} {z0 z1 z2 z3:Int} (ht:Nat.blt t nt=true) (hT:nf P T E 1=true) (hx0:S.op x0=some (vv (I6 z0))) (hx1:S.op x1=some (vv (I6 z1))) (hx2:S.op x2=some (vv (I6 z2))) (hx3:S.op x3=some (vv (I6 z3))):
  bN P nt ⟨some t, .buildSlice T 4 #[(0,x0),(1,x1),(2,x2),(3,x3)],ty,ps,af,gd⟩ S ((S.new t ⟨true,E,1, .bG (aH [z0,z1,z2,z3])⟩).put t (o1 (.sl t 0 4))):=
 bN.of _ fun w0 ω0 η ω a w hs=>by
  obtain ⟨i,z,k1,k2,k3,k4,k5,k6⟩:=dV hT
  have h0:=hs.fg hx0
  have h1:=hs.fg hx1
  have h2:=hs.fg hx2
  have h3:=hs.fg hx3
  refine ⟨.slice (some ⟨w.heap.size,0,none⟩) 4 4,w.alloc (.cells #[I6 z0,I6 z1,I6 z2,I6 z3] E), ?_, ?_⟩
  ·simp [execOp,Instr.buildSlice,run_underlying k1,sizeOf,typeInfo,k2,k3,zeroValue,k5,Instr.fill,newRow,h0,h1,h2,h3,Value.cells,yp]
  ·have hal:=hs.alloc (x:=t) (c:=⟨true,E,1, .bG (aH [z0,z1,z2,z3])⟩) (cs:= #[I6 z0,I6 z1,I6 z2,I6 z3]) (r:=fun _=>⟨none,0,1⟩) (n:=4) rfl (by simp) (by simp [dL.len,aH]) (by simp [maxLen]) fun j hj=>by
    match j,hj with
    | 0,_=>exact ⟨I6 z0,by simp,rfl⟩
    | 1,_=>exact ⟨I6 z1,by simp,rfl⟩
    | 2,_=>exact ⟨I6 z2,by simp,rfl⟩
    | 3,_=>exact ⟨I6 z3,by simp,rfl⟩
    | j + 4,hj=>exact absurd hj (by simp [dL.len,aH])
   exact ⟨_,_,hal.fi (by simpa using ht) dY⟩
end
end Go.Proofs.YtekbhbcgoadciaaGreat
namespace Go.Proofs.YtekbhbcgoadciaaGreat
open Go.RowKit
section
variable {P:Program} {nt:Nat} {w0 w:World} {ω0:g9} {S S1:St} {Q:Exit→Act→World→Prop} {a:Act}
inductive zu (P:Program) (nt:Nat) (ops:Array Oper) (o:Oper) (S1:St) (A:Add):Prop where
 | run (hg:o.guard=none) (h:bN P nt o S1 (S1.add A))
 | yes {j d:Nat} {want:Bool} (hg:o.guard=some (j,want)) (hj:(ops[j]?).bind (·.dst)=some d) (hb:S1.sl d=some (vv (.bool want))) (h:bN P nt o S1 (S1.add A))
 | no {j d:Nat} {want:Bool} (hg:o.guard=some (j,want)) (hj:(ops[j]?).bind (·.dst)=some d) (hb:S1.sl d=some (vv (.bool (!want)))) (ht:o.dst=some A.t) (hn:Nat.blt A.t nt=true) (ha:A.av=vv undef) (hx:A.news=none)
inductive fh (P:Program) (nt:Nat) (ops0:Array Oper) (S:St) (cls:List (List Nat)) (sk:List Nat):List Oper→List Add→List Add→Prop where
 | nil {done:List Add} :fh P nt ops0 S cls sk [] done done
 | skip {o:Oper} {rest:List Oper} {done all:List Add} (A:Add) (hs:bt sk done.length=true) (k:fh P nt ops0 S cls sk rest (A :: done) all):fh P nt ops0 S cls sk (o :: rest) done all
 | cons {o:Oper} {rest:List Oper} {done all:List Add} (A:Add)
   (h:∀S1,(S.eU (bt (cls.getD done.length [])) done).le S1→zu P nt ops0 o S1 A) (k:fh P nt ops0 S cls sk rest (A :: done) all):fh P nt ops0 S cls sk (o :: rest) done all
theorem fh.spec {ops0:Array Oper} {cls:List (List Nat)} {sk:List Nat} {ops:List Oper} {done all:List Add} (h:fh P nt ops0 S cls sk ops done all):(∃r,all.reverse=done.reverse ++ r∧r.length=ops.length)∧∀(i:Nat) (o:Oper),ops[i]? =some o→bt sk (done.length + i)=false→
  ∃A,all.reverse[done.length + i]? =some A∧∀S1,(S.eU (bt (cls.getD (done.length + i) [])) (all.reverse.take (done.length + i)).reverse).le S1→zu P nt ops0 o S1 A:=by
 induction h with
 | nil=>exact ⟨⟨[],by simp⟩,fun i o h=>by simp at h⟩
 | @skip o rest done all A hs k ih=>
  obtain ⟨⟨r,hr,hl⟩,h2⟩:=ih
  refine ⟨⟨A :: r,by rw [hr];simp,by simp [hl]⟩,fun i o' hi hsk=> ?_⟩
  cases i with
  | zero=>rw [Nat.add_zero,hs] at hsk;cases hsk
  | succ i=>
   have e:(A :: done).length + i=done.length + (i + 1):=by simp;omega
   rw [←e] at hsk ⊢
   exact h2 i o' (by simpa using hi) hsk
 | @cons o rest done all A h k ih=>
  obtain ⟨⟨r,hr,hl⟩,h2⟩:=ih
  refine ⟨⟨A :: r,by rw [hr];simp,by simp [hl]⟩,fun i o' hi hsk=> ?_⟩
  cases i with
  | zero=>
   simp at hi;subst hi
   refine ⟨A,by rw [hr];simp,fun S1 hS=>h S1 ?_⟩
   have:(all.reverse.take (done.length + 0)).reverse=done:=by rw [hr];simp
   rw [this] at hS
   exact hS
  | succ i=>
   have e:(A :: done).length + i=done.length + (i + 1):=by simp;omega
   rw [←e] at hsk ⊢
   exact h2 i o' (by simpa using hi) hsk
theorem rn {l:List Oper} {nA:Nat} {sk:List Nat} {cls:List (List Nat)} {ds nms:List Nat} {adds done:List Add} (hcl:uV l.toArray nA sk cls) (hdr:fh P nt l.toArray (S.clear ds nms) cls sk (l.take nA) [] done) (hdn:done.reverse=adds) (ok:ic adds cls ds nms)
  (hk:Rest P w0 ω0 nt l.toArray Q (l.length - missing sk #[] nA) (dG nA sk l.length) ((S.clear ds nms).part (fun j=> !bt sk j) adds)):
  ∀(d:Nat) (L:Array Bool) (a:Act) (w:World),missing sk L nA=d→L.size=l.length→(∀j,L.getD j false=true→j < nA∧bt sk j=false)→(∀i,L.getD i false=true→∀j∈cls.getD i [],L.getD j false=true)→
   Sat w0 ω0 nt ((S.clear ds nms).part (fun j=>L.getD j false) adds) a w→wpAny P .any l.toArray Q (l.length - missing sk #[] nA + d) L a w:=by
 have hsz:nA≤l.length:=by have:=hcl.size;simpa using this
 obtain ⟨⟨r,hr,hrl⟩,hob⟩:=hdr.spec
 rw [hdn] at hr hob
 have hal:adds.length=nA:=by rw [hr];simp [hrl];omega
 have hfull:∀(L:Array Bool) (i:Nat),i∈Region.ready .any l.toArray L→(∀i,L.getD i false=true→∀j∈cls.getD i [],L.getD j false=true)→(∃o,l.toArray[i]? =some o∧L.getD i true=false)∧∀j∈cls.getD i [],L.getD j false=true:=by
  intro L i hi hclosed
  obtain ⟨h0,o,ho,he⟩:=mem_ready.1 hi
  refine ⟨⟨o,ho,h0⟩,fun j hj=> ?_⟩
  obtain ⟨e,hem,hb,hje⟩:=hcl.dep i o ho j hj
  have h1:=he e hem hb
  rcases hje with rfl | hje
  ·exact h1
  ·exact hclosed e.on h1 j hje
 intro d
 induction d with
 | zero=>
  intro L a w hm hs hsub hclosed hsat
  have hall:=dh hm
  have hL:L=dG nA sk l.length:=by
   apply Array.ext
   ·simp [hs,dG]
   ·intro j h1 h2
    have h3:L[j]? =some L[j]:=Array.getElem?_eq_getElem h1
    have h4:=iG (nA:=nA) (sk:=sk) (n:=l.length) (j:=j) (by omega)
    rw [Array.getElem?_eq_getElem h2] at h4
    rw [Option.some.inj h4]
    cases hb:L[j] with
    | true=>
     have:=hsub j (by simp [h1,hb])
     simp [this.1,this.2]
    | false=>
     by_cases hj:j < nA
     ·cases hsk:bt sk j with
      | true=>simp
      | false=>
       have:=hall j hj hsk
       simp [h1,hb] at this
     ·simp [hj]
  refine hk.go a w ((St.le.wk (jU (ℓ1:=fun j=> !bt sk j) (ℓ2:=fun j=>L.getD j false) ok (fun _ _ h=>h) fun j A hj hsk=> ?_) fun _ _ h=>h).go _ _ _ a w hsat) |> fun h=>by rw [←hL] at h;exact h
  have hjl:j < adds.length:=(List.getElem?_eq_some_iff.1 hj).1
  exact hall j (by omega) (by simpa using hsk)
 | succ d ih=>
  intro L a w hm hs hsub hclosed hsat
  refine ⟨fun hnil=> ?_,fun i hi=> ?_⟩
  ·exfalso
   obtain ⟨j,hj,hjs',hjf,hlo⟩:=eH (k:=nA) (by omega:missing sk L nA≠0)
   have hjl:j < l.length:=by omega
   have hjs:j < L.size:=by omega
   have:j∈Region.ready .any l.toArray L:=by
    refine mem_ready.2 ⟨?_,l[j],by simp [hjl],fun e he hb=> ?_⟩
    ·simp [hjs] at hjf ⊢
     exact hjf
    ·have h5:=hcl.less j l[j] (by simp [hjl]) hj hjs' e he hb
     exact hlo e.on h5.1 h5.2
   rw [hnil] at this;cases this
  ·obtain ⟨⟨o,ho,hi0⟩,hdep⟩:=hfull L i hi hclosed
   have hil:i < l.length:=by have:=(Array.getElem?_eq_some_iff.1 ho).1;simpa using this
   have his:i < L.size:=by omega
   have hif:L.getD i false=false:=by simp [his] at hi0 ⊢;exact hi0
   have hnl:¬(nA≤i∨bt sk i=true):=fun h=>by
    have:=dt (sk:=sk) (L:=L) (k:=nA) fun j hj hsk=>hdep j (hcl.late i o ho h j hj hsk)
    omega
   have hiA:i < nA:=by
    rcases Nat.lt_or_ge i nA with h | h
    ·exact h
    ·exact absurd (.inl h) hnl
   have hisk:bt sk i=false:=by
    cases hsk:bt sk i with
    | false=>rfl
    | true=>exact absurd (.inr hsk) hnl
   have hot:(l.take nA)[i]? =some o:=by rw [List.getElem?_take,if_pos hiA];simpa using ho
   obtain ⟨A,hA,hstp⟩:=hob i o hot (by simpa using hisk)
   simp only [List.length_nil,Nat.zero_add] at hA hstp
   have hle:((S.clear ds nms).eU (bt (cls.getD i [])) (adds.take i).reverse).le ((S.clear ds nms).part (fun j=>L.getD j false) adds):=fe ok (fun j B hj=>by
     rw [List.reverse_reverse] at hj
     rw [List.getElem?_take] at hj;split at hj
     ·exact hj
     ·cases hj) fun j B _ hj=>hdep j (bQ.1 hj)
   have cont:∀a' w',Sat w0 ω0 nt (((S.clear ds nms).part (fun j=>L.getD j false) adds).add A) a' w'→wpAny P .any l.toArray Q (l.length - missing sk #[] nA + d) (L.setIfInBounds i true) a' w':=fun a' w' hsat'=>by
    have hsat2:=(od ok hA hif fun j hj hm'=>by have:=hclosed j hj i hm';rw [hif] at this;cases this).go _ _ _ a' w' hsat'
    have hnew:∀j,(L.setIfInBounds i true).getD j false=(Nat.beq j i || L.getD j false):=fun j=>by
     by_cases e:j=i
     ·subst e;simp [his]
     ·rw [getD_set_ne false (fun e'=>e e'.symm),cU e,Bool.false_or]
    refine ih (L.setIfInBounds i true) a' w' ?_ (by simp [hs]) (fun j hj=> ?_) (fun j hj k hk'=> ?_) ?_
    ·have:=fp his hif hisk nA hiA;omega
    ·rw [hnew] at hj
     by_cases e:j=i
     ·rw [e];exact ⟨hiA,hisk⟩
     ·rw [cU e,Bool.false_or] at hj;exact hsub j hj
    ·rw [hnew] at hj ⊢
     by_cases e:j=i
     ·subst e;rw [hdep k hk'];simp
     ·rw [cU e,Bool.false_or] at hj;rw [hclosed j hj k hk'];simp
    ·have:(fun j=>(L.setIfInBounds i true).getD j false)=fun j=>(Nat.beq j i || L.getD j false):=funext hnew
     rw [this];exact hsat2
   have hy:∀ {j dd:Nat} {b:Bool},(l.toArray[j]?).bind (·.dst)=some dd→((S.clear ds nms).part (fun j=>L.getD j false) adds).sl dd=some (vv (.bool b))→yielded l.toArray a.tmps j=some b:=fun {j dd b} hj hb=>by
    obtain ⟨η,ω,hs⟩:=hsat
    obtain ⟨u,k1,k2⟩:=hs.slots dd _ hb
    have k2:u= .bool b:=k2
    subst k2
    unfold yielded
    cases hoj:l.toArray[j]? with
    | none=>rw [hoj] at hj;cases hj
    | some oj=>
     rw [hoj] at hj
     simp only [Option.bind_some] at hj
     simp [hj,k1]
   unfold wpOp
   simp only [ho]
   cases hstp _ hle with
   | run hg h=>
    rw [if_pos (by simp [Region.wanted,hg])]
    exact .inl (Oper.wp_mono (fun a' w' hsat'=>cont a' w' hsat') (h.go w0 ω0 a w Q hsat))
   | yes hg hj hb h=>
    rw [if_pos (by simp [Region.wanted,hg,hy hj hb])]
    exact .inl (Oper.wp_mono (fun a' w' hsat'=>cont a' w' hsat') (h.go w0 ω0 a w Q hsat))
   | @no j dd want hg hj hb ht hn ha hx=>
    rw [if_neg (by simp [Region.wanted,hg,hy hj hb])]
    refine cont _ _ ?_
    obtain ⟨η,ω,hs⟩:=hsat
    refine ⟨η,ω, ?_⟩
    have e:((S.clear ds nms).part (fun j=>L.getD j false) adds).add A=((S.clear ds nms).part (fun j=>L.getD j false) adds).put A.t (vv undef):=by unfold St.add;rw [hx,ha];rfl
    rw [e,ht]
    exact hs.fi (by simpa using hn) rfl
theorem jq {id:Nat} {l:List Oper} (nA:Nat) (sk:List Nat) (cls:List (List Nat)) (ds nms:List Nat) {done:List Add} (hm:P.follows .mixedOrders=true) (hcl:vn l.toArray nA sk cls=true) (hdr:fh P nt l.toArray (S.clear ds nms) cls sk (l.take nA) [] done) (ok:m0 done.reverse cls ds nms=true)
  (hk:Rest P w0 ω0 nt l.toArray Q (l.length - missing sk #[] nA) (dG nA sk l.length) ((S.clear ds nms).eU (fun j=> !bt sk j) done)):fb P w0 ω0 nt S (.region id l.toArray true) Q:=by
 have hc:=mV hcl
 have hsz:nA≤l.length:=by have:=hc.size;simpa using this
 have hk':Rest P w0 ω0 nt l.toArray Q (l.length - missing sk #[] nA) (dG nA sk l.length) ((S.clear ds nms).part (fun j=> !bt sk j) done.reverse):=
  ⟨fun a w hs=>hk.go a w ((St.le.wk (fe (dR ok) (fun _ _ h=>h) fun _ _ _ h=>h) fun _ _ h=>h).go _ _ _ a w hs)⟩
 have hle:∀k,missing sk #[] k≤k:=fun k=>by
  induction k with
  | zero=>exact Nat.le_refl _
  | succ k ih=>simp only [missing];split<;>omega
 refine ⟨fun a w hs=>wp_region_any hm ?_⟩
 have hfin:=rn hc hdr rfl (dR ok) hk' (missing sk #[] nA) (Array.replicate l.length false) a { w with drawn:=w.drawn + 1 } ?_ (by simp) (fun j hj=> ?_) (fun i hi=> ?_) ?_
 ·have:=hle nA
  rw [show l.length - missing sk #[] nA + missing sk #[] nA=l.length by omega] at hfin
  simpa using hfin
 ·have:∀k,k≤l.length→missing sk (Array.replicate l.length false) k=missing sk #[] k:=fun k=>by
   induction k with
   | zero=>intro _;rfl
   | succ k ih=>
    intro hk
    simp only [missing]
    rw [ih (by omega)]
    have:(Array.replicate l.length false).getD k false=false:=by simp [show k < l.length by omega]
    rw [this];rfl
  exact this nA hsz
 ·exfalso
  by_cases h:j < l.length
  ·simp [h] at hj
  ·simp [h] at hj
 ·exfalso
  by_cases h:i < l.length
  ·simp [h] at hi
  ·simp [h] at hi
 ·have h1:=(jW S ds nms).go _ _ _ a _ (jQ hs)
  have hf:∀j,(Array.replicate l.length false).getD j false=false:=fun j=>by
   by_cases h:j < l.length<;>simp [h]
  refine (Wk.less (S:=S.clear ds nms) (S':=(S.clear ds nms).part (fun j=>(Array.replicate l.length false).getD j false) done.reverse) (fun t av h=> ?_) (fun x c h=> ?_) fun _ _ h=>h).go _ _ _ a _ h1
  ·have h:(match oA (fun j=>(Array.replicate l.length false).getD j false) 0 done.reverse t with | some av=>some av | none=>(S.clear ds nms).sl t)=some av:=h
   split at h
   ·rename_i av' h2
    obtain ⟨j,A,_,h3,_⟩:=eC h2
    rw [hf] at h3;cases h3
   ·exact h
  ·have h:(match oD (fun j=>(Array.replicate l.length false).getD j false) 0 done.reverse x with | some c=>some c | none=>(S.clear ds nms).ch x)=some c:=h
   split at h
   ·rename_i av' h2
    obtain ⟨j,A,_,h3,_⟩:=eF h2
    rw [hf] at h3;cases h3
   ·exact h
end
section
variable {P:Program} {nt:Nat} {S:St} {cls:List (List Nat)} {sk:List Nat} {o:Oper} {rest:List Oper} {done all:List Add} {ops0:Array Oper} {t:Nat} {ty:TypeId} {ps:String} {af:Array Edge} {gd:Option (Nat×Bool)} {x y:Operand}
theorem cL {t:Nat} {av:AV} (hg:o.guard=none) (h:∀S1,(S.eU (bt (cls.getD done.length [])) done).le S1→bN P nt o S1 (S1.put t av)) (k:fh P nt ops0 S cls sk rest (⟨t,av,none⟩ :: done) all):fh P nt ops0 S cls sk (o :: rest) done all:= .cons ⟨t,av,none⟩ (fun S1 hS=> .run hg (h S1 hS)) k
theorem cI {t j d:Nat} {want:Bool} {av:AV} (hg:o.guard=some (j,want)) (hj:(ops0[j]?).bind (·.dst)=some d) (hb:(S.eU (bt (cls.getD done.length [])) done).sl d=some (vv (.bool want))) (h:∀S1,(S.eU (bt (cls.getD done.length [])) done).le S1→bN P nt o S1 (S1.put t av)) (k:fh P nt ops0 S cls sk rest (⟨t,av,none⟩ :: done) all):fh P nt ops0 S cls sk (o :: rest) done all:= .cons ⟨t,av,none⟩ (fun S1 hS=> .yes hg hj (hS.sl _ _ hb) (h S1 hS)) k
theorem eZ {t j d:Nat} {want:Bool} (hg:o.guard=some (j,want)) (hj:(ops0[j]?).bind (·.dst)=some d) (hb:(S.eU (bt (cls.getD done.length [])) done).sl d=some (vv (.bool (!want)))) (ht:o.dst=some t) (hn:Nat.blt t nt=true) (k:fh P nt ops0 S cls sk rest (⟨t,vv undef,none⟩ :: done) all):fh P nt ops0 S cls sk (o :: rest) done all:= .cons ⟨t,vv undef,none⟩ (fun S1 hS=> .no hg hj (hS.sl _ _ hb) ht hn rfl rfl) k
end
end Go.Proofs.YtekbhbcgoadciaaGreat
namespace Go.Proofs.YtekbhbcgoadciaaGreat
open Go.RowKit
abbrev vW (less:List Int):Ch:=⟨false,2,1, .bG (aH less)⟩
abbrev bI (less:List Int):Ch:=⟨true,2,1, .bG (aH less)⟩
abbrev bu (wss:List (List Int)):Ch:=⟨false,24,1, .rows 2 (cM wss) []⟩
abbrev cf (W:List Int):Ch:=⟨false,2,1, .bG (aH W)⟩
section
variable {P:Program} {nt:Nat} {S:St} {t:Nat} {ty:TypeId} {ps:String} {af:Array Edge} {gd:Option (Nat×Bool)} {x y:Operand}
end
end Go.Proofs.YtekbhbcgoadciaaGreat
namespace Go.Proofs.YtekbhbcgoadciaaGreat
open Go.RowKit
section
variable {η:Env} {ω:bJ} {w:World} {ins:List (Nm×Ch)}
theorem xr {x i:Nat} {own:Bool} {E F:Nat} {zss:List (List Int)} {v:Value} (hm:Mem η ω w (fun x=>lk x ins)) (hx:lk x ins=some ⟨own,E,1, .rows F (cM zss) []⟩) (hi:i < zss.length) (hv:cu η (.esl x i 0 (cD zss i).length) v) (hn:(cD zss i).length≤17592186044416):
  ∃ao c,v= .slice ao (cD zss i).length c∧db w ao (cD zss i).length (cD zss i):=by
 obtain ⟨h,h1,h2,h3⟩:=hm.1 x _ hx
 obtain ⟨ao,rfl,h4,_⟩:=hv.2 h h1
 have h3:iz own ω w (x,none) h E (cM zss).length (bU η ω w own x (.rows F (cM zss) [])):=h3
 obtain ⟨b',o',u',g1,g2,g3,g4⟩:=h3.get (j:=i) (by rw [eu];exact hi)
 obtain ⟨k1,k2,k3⟩:=g4 (by simp) (aH (cD zss i)) (bV hi)
 rw [h4 rfl]
 refine ⟨_,_,rfl,rfl,hn,fun h0=> ?_⟩
 obtain ⟨b2,o2,u2,m1,_,_⟩:=k3.get (j:=0) (by rw [aO];exact h0)
 refine ⟨b2,o2,m1,fun j hj=> ?_⟩
 obtain ⟨b3,o3,u3,n1,n2,n3⟩:=k3.get (j:=j) (by rw [aO];exact hj)
 rw [m1] at n1;injection n1 with n1;injection n1 with n1 n1';subst n1 n1'
 rw [aR hj] at n3
 rw [n2,←n3]
theorem xP {x i m:Nat} {own:Bool} {E kk F:Nat} {cs:List gG} {zs:List Int} {v:Value} (hm:Mem η ω w (fun x=>lk x ins)) (hx:lk x ins=some ⟨own,E,kk, .mix cs⟩) (hi:cs[i]? =some (.r F 1 m (aH zs))) (hv:cu η (.esl x i 0 m) v) (hn:zs.length≤17592186044416):
  ∃ao c,v= .slice ao zs.length c∧db w ao zs.length zs:=by
 obtain ⟨h,h1,h2,h3⟩:=hm.1 x _ hx
 obtain ⟨ao,rfl,h4,_⟩:=hv.2 h h1
 have h3:iz own ω w (x,none) h E cs.length (bU η ω w own x (.mix cs)):=h3
 obtain ⟨b',o',u',g1,g2,g3,g4⟩:=h3.get (j:=i) (List.getElem?_eq_some_iff.1 hi).1
 obtain ⟨k0,k1,k2,k3⟩:=g4 _ hi
 have hm':m=zs.length:=by rw [aO,Nat.mul_one] at k0;exact k0.symm
 subst hm'
 rw [h4 rfl]
 refine ⟨_,_,rfl,rfl,hn,fun h0=> ?_⟩
 obtain ⟨b2,o2,u2,m1,_,_⟩:=k3.get (j:=0) (by rw [aO];exact h0)
 refine ⟨b2,o2,m1,fun j hj=> ?_⟩
 obtain ⟨b3,o3,u3,n1,n2,n3⟩:=k3.get (j:=j) (by rw [aO];exact hj)
 rw [m1] at n1;injection n1 with n1;injection n1 with n1 n1';subst n1 n1'
 rw [aR hj] at n3
 rw [n2,←n3]
end
section
variable {P:Program} {nt:Nat} {S:St} {t:Nat} {ty:TypeId} {ps:String} {af:Array Edge} {gd:Option (Nat×Bool)} {x y:Operand}
end
end Go.Proofs.YtekbhbcgoadciaaGreat
namespace Go.Proofs.YtekbhbcgoadciaaGreat
open Go.RowKit
def fl (zs:List Int):List Int:=zs.reverse
theorem pZ {zs:List Int} {k:Nat} (h:k < zs.length):fl (zs.drop k)=fl (zs.drop (k + 1)) ++ [aC zs k]:=by
 unfold fl;rw [List.drop_eq_getElem_cons h,←ct h,List.reverse_cons]
set_option maxHeartbeats 400000 in
theorem kR (ao:Option Addr) (n c:Nat) (zs:List Int) (w:World) (h:db w ao n zs) (hn:n≤1048576):
  Calls Tryz.prog 143 #[.slice ao n c] w fun e w'=>∃ao' c',e= .returned (.slice ao' n c')∧Own w' w.heap.size 2 ao' n c' ((fl zs).map (Value.int .i64))∧Below w.heap.size w w':=by
 have hl:=h.1
 have HL:=Lib.hid hl
 clear hl
 go_enter Tryz.func143,Tryz.ntmps143
 go_wp2
 go_loopw [3,4] (fun v i wr=>∃(k a':Nat) (ao':Option Addr) (c':Nat),k≤n∧i= .int .i64 ((k:Int) - 1)∧v= .slice ao' a' c'∧a' + k=n∧Own wr w.heap.size 2 ao' a' c' ((fl (zs.drop k)).map (Value.int .i64))∧Below w.heap.size w wr) (fun _ i _=>(intOf i + 1).toNat)
 case atStart=>exact ⟨n,0,_,_,Nat.le_refl _,rfl,rfl,by omega,by rw [List.drop_of_length_le (Nat.le_of_eq HL.out)];exact Own.lF w _ (Nat.le_refl _),(Below.refl _ _).alloc (Nat.le_refl _) _⟩
 case round=>
  obtain ⟨k,a',ao',c',hk,rfl,rfl,hak,ho,hb⟩:=hrel
  have HAK:=Lib.hid hak
  clear hak
  by_cases hlt:0 < k
  ·obtain ⟨j,rfl⟩:∃j,k=j + 1:=⟨k - 1,by omega⟩
   have hj:j < n:=by omega
   have ha':a'≤1048576:=by have:=HAK.out;omega
   obtain ⟨b,off,rfl,hc⟩:=(h.below hb).at_ hj
   have HT:Hid (fl (zs.drop j)=fl (zs.drop (j + 1)) ++ [aC zs j]):=pZ (by rw [HL.out];exact hj)
   have hbs:=hb.size
   have ej:((j + 1:Nat):Int) - 1=j:=by omega
   rw [ej]
   clear ej
   go_wp2_with (at_builtin;refine jk xa _ rfl _ _ rfl w.heap.size ao' a' c' _ rfl ho (.int .i64 (aC zs j)) rfl rfl (by omega) hbs ?_;intro ao2 c2 w2 ho2 hg2 hblk)
   have hol:=ho.lt
   clear ho hc h
   go_wp2
   go_roundw
   case rel=>
    refine ⟨j,a' + 1,ao2,c2,by omega,rfl,rfl,by have:=HAK.out;omega, ?_,hb.grown hg2 hbs (fun g hg=>(hol g hg).1)⟩
    rw [HT.out,List.map_append];exact ho2
   case measure=>simp [intOf]
  ·obtain rfl:k=0:=by omega
   obtain rfl:a'=n:=by have:=HAK.out;omega
   go_wp2
   go_ret
   exact ⟨_,_,rfl,by simpa using ho,hb⟩
set_option maxHeartbeats 400000 in
theorem sh (ao:Option Addr) (n c:Nat) (zs:List Int) (w:World) (h:db w ao n zs) (hn:n≤1048576):
  Calls Tryz.prog 144 #[.slice ao n c] w fun e w'=>∃ao' c',e= .returned (.slice ao' n c')∧Own w' w.heap.size 2 ao' n c' (zs.map (Value.int .i64))∧Below w.heap.size w w':=by
 have he:=fun (w:World)=>Lib.run_eql_slice_nil (P:=Tryz.prog) w 24 2 ao n c 0 0 Tryz.underlying24
 cases ao with
 | none=>
  obtain ⟨rfl,rfl⟩:=h.vP
  go_enter Tryz.func144,Tryz.ntmps144
  go_wp2
  go_ret
  exact ⟨_,_,rfl,Own.wU _ _ _,Below.refl _ _⟩
 | some ad=>
  have h2:db (w.alloc (.cells #[] 2)) (some ad) n zs:=h.below ((Below.refl _ _).alloc (Nat.le_refl _) _)
  have H2:=Lib.hid h2
  clear h2
  go_enter Tryz.func144,Tryz.ntmps144
  go_wp2_with (at_builtin;refine jh xa _ rfl _ _ rfl w.heap.size _ 0 0 [] rfl (Own.lF w _ (Nat.le_refl _)) (some ad) n c zs rfl H2.out (by omega) (by simp) ?_;intro ao2 c2 w2 ho2 hg2 hblk)
  go_ret
  refine ⟨_,_,rfl,by simpa using ho2,((Below.refl _ _).alloc (Nat.le_refl _) _).grown hg2 (by simp) (fun g hg=> ?_)⟩
  simp [bk] at hg;omega
end Go.Proofs.YtekbhbcgoadciaaGreat
namespace Go.Proofs.YtekbhbcgoadciaaGreat
open Go.RowKit
theorem cS {w:World} {base E:Nat} {g n c:Nat} {zs:List Int} (h:Own w base E (some ⟨g,0,none⟩) n c (zs.map (Value.int .i64))) {k:Nat} (hk:k < n):w.cell? ⟨g,k,none⟩=some (.int .i64 (aC zs k)):=by
 obtain ⟨g',hg,_,_,_,hc,_⟩:=h.form (by omega)
 obtain rfl:g=g':=by injection hg with hg;injection hg
 have hl:zs.length=n:=by have:=h.len;simpa using this
 rw [hc k hk,List.getElem?_map,List.getElem?_eq_getElem (by omega),ct (by omega)];rfl
theorem dN {zs:List Int} {k:Nat} (h:k < zs.length) (x:Int):aC (zs.set k x) k=x:=by rw [ct (by simpa using h)];simp
theorem di {zs:List Int} {k j:Nat} (h:k≠j) (x:Int):aC (zs.set k x) j=aC zs j:=by simp [aC,h]
set_option maxHeartbeats 800000 in
theorem o9 (ao:Option Addr) (n c:Nat) (zs:List Int) (w:World) (base:Nat) (h:Own w base 2 ao n c (zs.map (Value.int .i64))):
  Calls Tryz.prog 145 #[.slice ao n c] w fun e w'=>e= .returned (.tuple #[])∧Own w' base 2 ao n c ((fl zs).map (Value.int .i64))∧w.grownBy w' (bk ao):=by
 have hn:=h.2
 have hl:zs.length=n:=by have:=h.len;simpa using this
 have HL:=Lib.hid hl
 clear hl
 go_enter Tryz.func145,Tryz.ntmps145
 go_wp2
 go_loopw [2,3] (fun i j wr=>∃(k:Nat) (cur:List Int),k≤n∧i= .int .i64 k∧j= .int .i64 ((n:Int) - 1 - k)∧cur.length=n∧(∀x,x < n→aC cur x=if x < k∨n < x + 1 + k then aC zs (n - 1 - x) else aC zs x)∧Own wr base 2 ao n c (cur.map (Value.int .i64))∧w.grownBy wr (bk ao)) (fun i _ _=>n - (intOf i).toNat)
 case atStart=>exact ⟨0,zs,by omega,rfl,by simp,HL.out,fun x hx=>by rw [if_neg (by omega)],h,World.grownBy.refl _ _⟩
 case round=>
  obtain ⟨k,cur,hk,rfl,rfl,hcl,hcur,ho,hg⟩:=hrel
  have HC:=Lib.hid hcl
  have HU:=Lib.hid hcur
  clear hcl hcur
  by_cases hlt:k + k + 1 < n
  ·obtain ⟨j,hj⟩:∃j:Nat,j + k + 1=n:=⟨n - 1 - k,by omega⟩
   have HJ:=Lib.hid hj
   have ej:(n:Int) - 1 - k=j:=by omega
   have hjn:j < n:=by omega
   have hkn:k < n:=by omega
   have hkj:k < j:=by omega
   rw [ej]
   clear hj ej
   obtain ⟨g,rfl, -,hgl, -, -, -⟩:=ho.form (by omega)
   have hc1:=cS ho hjn
   have hc2:=cS ho hkn
   have hf1:=ho.1.frozenAt j
   have hf2:=ho.1.frozenAt k
   have ho1:Own wr.drew base 2 (some ⟨g,0,none⟩) n c (cur.map (Value.int .i64)):=ho
   obtain ⟨s1,t1⟩:=ho1.stored k (.int .i64 (aC cur j))
   obtain ⟨s2,t2⟩:=s1.stored j (.int .i64 (aC cur k))
   have S2:=Lib.hid s2
   have T1:=Lib.hid t1
   have T2:=Lib.hid t2
   clear s1 t1 s2 t2 ho1 ho
   go_wp2
   go_region
   go_wp2
   go_roundw
   case rel=>
    refine ⟨k + 1,(cur.set k (aC cur j)).set j (aC cur k),by omega,by go_num, ?_,by simp [HC.out], ?_,by rw [List.map_set,List.map_set];exact S2.out,bO hg (bO (⟨rfl,rfl,rfl,Nat.le_refl _,fun _ _ _=>rfl⟩:wr.grownBy wr.drew _) (bO T1.out T2.out))⟩
    ·congr 1;have:=HJ.out;omega
    ·intro x hx
     have hcl:=HC.out
     have hjn':=HJ.out
     by_cases h1:x=j
     ·subst h1
      rw [dN (by simp;omega),if_pos (by omega),HU.out k (by omega),if_neg (by omega)]
      congr 1;omega
     ·rw [di (fun e=>h1 e.symm)]
      by_cases h2:x=k
      ·subst h2
       rw [dN (by omega),if_pos (by omega),HU.out j (by omega),if_neg (by omega)]
       congr 1;omega
      ·rw [di (fun e=>h2 e.symm),HU.out x hx]
       by_cases h3:x < k∨n < x + 1 + k
       ·rw [if_pos h3,if_pos (by omega)]
       ·rw [if_neg h3,if_neg (by omega)]
   case measure=>simp [intOf];omega
  ·have hle:(n:Int) - 1 - k≤k:=by omega
   go_wp2
   go_end0
   refine ⟨rfl, ?_,hg⟩
   have hcl:=HC.out
   have hzl:=HL.out
   have e:cur=fl zs:=by
    apply tW (by unfold fl;simp;omega)
    intro x hx
    have hr:aC (fl zs) x=aC zs (n - 1 - x):=by
     rw [ct (by unfold fl;simp;omega),ct (by omega)]
     unfold fl
     rw [List.getElem_reverse]
     congr 1;omega
    rw [hr,HU.out x (by omega)]
    by_cases h3:x < k∨n < x + 1 + k
    ·rw [if_pos h3]
    ·rw [if_neg h3];congr 1;omega
   rw [←e];exact ho
end Go.Proofs.YtekbhbcgoadciaaGreat
namespace Go.Proofs.YtekbhbcgoadciaaGreat
open Go.RowKit
set_option maxHeartbeats 400000 in
theorem pX (a b:Option Addr) (na nb ca cb:Nat) (za zb:List Int) (w:World) (ha:db w a na za) (hb:db w b nb zb):
  Calls Tryz.prog 170 #[.slice a na ca, .slice b nb cb] w fun e w'=>e= .returned (.bool (decide (za=zb)))∧∃m,w'=w.drewN m:=by
 have hla:=ha.2.1
 have hlb:=hb.2.1
 by_cases hl:na=nb
 ·subst hl
  have hl':((na:Int) != (na:Int))=false:=by simp
  go_enter Tryz.func170,Tryz.ntmps170
  go_wp2
  go_loopw [5] (fun i wr=>∃k:Nat,k≤na∧i= .int .i64 k∧za.take k=zb.take k∧∃m,wr=w.drewN m) (fun i _=>na - (intOf i).toNat)
  case atStart=>exact ⟨0,Nat.zero_le _,rfl,rfl,0,rfl⟩
  case round=>
   obtain ⟨k,hk,rfl,hpre,m,rfl⟩:=hrel
   have HP:=Lib.hid hpre
   clear hpre
   by_cases hlt:k < na
   ·obtain ⟨ba,oa,rfl,hca⟩:=ha.at_ hlt
    obtain ⟨bb,ob,rfl,hcb⟩:=hb.at_ hlt
    have h1:=ha.1
    have h2:=hb.1
    have H1:=Lib.hid h1
    have H2:=Lib.hid h2
    clear h1 h2
    by_cases he:aC za k=aC zb k
    ·have he':(aC za k != aC zb k)=false:=by simp [he]
     have HE:=Lib.hid he
     clear he
     go_wp2_with fail
     go_quiet (fail)
     go_wp2
     go_roundw
     case rel=>exact ⟨k + 1,by omega,by go_num,by rw [fH (by rw [H1.out];omega),fH (by rw [H2.out];omega),HP.out,HE.out],_,rfl⟩
     case measure=>simp [intOf];omega
    ·have he':(aC za k != aC zb k)=true:=by simp [he]
     have HE:=Lib.hid he
     clear he
     go_wp2_with fail
     go_quiet (fail)
     go_wp2
     go_ret
     exact ⟨cR (by symm;rw [decide_eq_false_iff_not];intro e;exact HE.out (by rw [e])),_,World.drewN_drewN _ _ _⟩
   ·obtain rfl:k=na:=by omega
    have h1:=ha.1
    have h2:=hb.1
    have hab:za=zb:=by have:=HP.out;rwa [List.take_of_length_le (by omega),List.take_of_length_le (by omega)] at this
    have HA:=Lib.hid hab
    clear h1 h2 hab
    go_wp2
    go_ret
    exact ⟨cR (by symm;simpa using HA.out),_,rfl⟩
 ·have hl':((na:Int) != (nb:Int))=true:=by simp;omega
  go_enter Tryz.func170,Tryz.ntmps170
  go_wp2
  go_ret
  refine ⟨cR ?_,0,rfl⟩
  symm
  rw [decide_eq_false_iff_not]
  intro e
  exact hl (by rw [←ha.1,←hb.1,e])
set_option maxHeartbeats 400000 in
theorem sF (a b:Option Addr) (na nb ca cb:Nat) (za zb:List Int) (w:World) (ha:db w a na za) (hb:db w b nb zb):
  Calls Tryz.prog 119 #[.slice a na ca, .slice b nb cb] w fun e w'=>e= .returned (.bool (decide (za=zb)))∧∃m,w'=w.drewN m:=by
 have hla:=ha.2.1
 have hlb:=hb.2.1
 by_cases hl:na=nb
 ·subst hl
  have hl':((na:Int) != (na:Int))=false:=by simp
  go_enter Tryz.func119,Tryz.ntmps119
  go_wp2
  go_loopw [13] (fun i wr=>∃k:Nat,k≤na∧i= .int .i64 k∧za.take k=zb.take k∧∃m,wr=w.drewN m) (fun i _=>na - (intOf i).toNat)
  case atStart=>exact ⟨0,Nat.zero_le _,rfl,rfl,0,rfl⟩
  case round=>
   obtain ⟨k,hk,rfl,hpre,m,rfl⟩:=hrel
   have HP:=Lib.hid hpre
   clear hpre
   by_cases hlt:k < na
   ·obtain ⟨ba,oa,rfl,hca⟩:=ha.at_ hlt
    obtain ⟨bb,ob,rfl,hcb⟩:=hb.at_ hlt
    have h1:=ha.1
    have h2:=hb.1
    have H1:=Lib.hid h1
    have H2:=Lib.hid h2
    clear h1 h2
    by_cases he:aC za k=aC zb k
    ·have he':(aC za k != aC zb k)=false:=by simp [he]
     have HE:=Lib.hid he
     clear he
     go_wp2_with fail
     go_quiet (fail)
     go_wp2
     go_roundw
     case rel=>exact ⟨k + 1,by omega,by go_num,by rw [fH (by rw [H1.out];omega),fH (by rw [H2.out];omega),HP.out,HE.out],_,rfl⟩
     case measure=>simp [intOf];omega
    ·have he':(aC za k != aC zb k)=true:=by simp [he]
     have HE:=Lib.hid he
     clear he
     go_wp2_with fail
     go_quiet (fail)
     go_wp2
     go_ret
     exact ⟨cR (by symm;rw [decide_eq_false_iff_not];intro e;exact HE.out (by rw [e])),_,World.drewN_drewN _ _ _⟩
   ·obtain rfl:k=na:=by omega
    have h1:=ha.1
    have h2:=hb.1
    have hab:za=zb:=by have:=HP.out;rwa [List.take_of_length_le (by omega),List.take_of_length_le (by omega)] at this
    have HA:=Lib.hid hab
    clear h1 h2 hab
    go_wp2
    go_ret
    exact ⟨cR (by symm;simpa using HA.out),_,rfl⟩
 ·have hl':((na:Int) != (nb:Int))=true:=by simp;omega
  go_enter Tryz.func119,Tryz.ntmps119
  go_wp2
  go_ret
  refine ⟨cR ?_,0,rfl⟩
  symm
  rw [decide_eq_false_iff_not]
  intro e
  exact hl (by rw [←ha.1,←hb.1,e])
theorem qq {us:List Value} {u0 u1:Value} (hl:us.length=2) (g0:us[0]? =some u0) (g1:us[1]? =some u1):us= [u0,u1]:=by
 match us,hl with
 | [p,q],_=>simp at g0 g1;rw [g0,g1]
theorem mn {us:List Value} {u0:Value} (hl:us.length=1) (g0:us[0]? =some u0):us= [u0]:=by
 match us,hl with
 | [p],_=>simp at g0;rw [g0]
theorem zl (a b:List Int):decide (a=b)=(a == b):=by
 by_cases h:a=b
 ·subst h;simp
 ·rw [decide_eq_false h];symm;simpa using h
theorem gr (cs:List gG) (i m n E kk:Nat) (labs list:List Int) (hi:cs[i]? =some (.r 2 1 m (aH labs))) (hm:labs.length=m) (hn:list.length=n) (hm4:m≤1000000) (hn4:n≤1000000):
  FC Tryz.prog 119 [(1000,⟨false,E,kk, .mix cs⟩),(1001,cf list)] [o1 (.esl 1000 i 0 m),o1 (.sl 1001 0 n)] [] (vv (.bool (labs == list))) []:=
 du fun w η ω us hme ⟨hl,ha⟩=>by
  subst hm hn
  obtain ⟨u0,g0,d0⟩:=ha 0 _ rfl
  obtain ⟨u1,g1,d1⟩:=ha 1 _ rfl
  obtain ⟨ao,c,rfl,h0⟩:=xP (x:=1000) hme rfl hi d0 (by omega)
  obtain ⟨ao',c',rfl,h1⟩:=xq (x:=1001) hme rfl d1 (by omega)
  rw [qq hl g0 g1]
  refine (sF ao ao' _ _ c c' labs list w h0 h1).mono ?_
  rintro e w' ⟨rfl,hq⟩
  exact ⟨cR (zl _ _),fO hq⟩
theorem tk (zss:List (List Int)) (i n E:Nat) (list:List Int) (hi:i < zss.length) (hn:list.length=n) (hm4:(cD zss i).length≤1000000) (hn4:n≤1000000):
  FC Tryz.prog 170 [(1000,bu zss),(1001,cf list)] [o1 (.esl 1000 i 0 (cD zss i).length),o1 (.sl 1001 0 n)] [] (vv (.bool (cD zss i == list))) []:=
 du fun w η ω us hme ⟨hl,ha⟩=>by
  subst hn
  obtain ⟨u0,g0,d0⟩:=ha 0 _ rfl
  obtain ⟨u1,g1,d1⟩:=ha 1 _ rfl
  obtain ⟨ao,c,rfl,h0⟩:=xr (x:=1000) hme rfl hi d0 (by omega)
  obtain ⟨ao',c',rfl,h1⟩:=xq (x:=1001) hme rfl d1 (by omega)
  rw [qq hl g0 g1]
  refine (pX ao ao' _ _ c c' _ list w h0 h1).mono ?_
  rintro e w' ⟨rfl,hq⟩
  exact ⟨cR (zl _ _),fO hq⟩
theorem uZ (zs list:List Int) (m n:Nat) (hm:zs.length=m) (hn:list.length=n) (hm4:m≤1000000) (hn4:n≤1000000):
  FC Tryz.prog 170 [(1000,cf zs),(1001,cf list)] [o1 (.sl 1000 0 m),o1 (.sl 1001 0 n)] [] (vv (.bool (zs == list))) []:=
 du fun w η ω us hme ⟨hl,ha⟩=>by
  subst hm hn
  obtain ⟨u0,g0,d0⟩:=ha 0 _ rfl
  obtain ⟨u1,g1,d1⟩:=ha 1 _ rfl
  obtain ⟨ao,c,rfl,h0⟩:=xq (x:=1000) hme rfl d0 (by omega)
  obtain ⟨ao',c',rfl,h1⟩:=xq (x:=1001) hme rfl d1 (by omega)
  rw [qq hl g0 g1]
  refine (pX ao ao' _ _ c c' _ list w h0 h1).mono ?_
  rintro e w' ⟨rfl,hq⟩
  exact ⟨cR (zl _ _),fO hq⟩
theorem si (x y n:Nat) (zs:List Int) (hn:zs.length=n) (hl:n≤1000000):
  FC Tryz.prog 144 [(x,cf zs)] [o1 (.sl x 0 n)] [(y,bI zs)] (o1 (.sl y 0 n)) []:=by
 subst hn
 exact kQ fun w η ω us hm ⟨hl',ha⟩=>by
  obtain ⟨u0,g0,d0⟩:=ha 0 _ rfl
  obtain ⟨ao,c,rfl,hr⟩:=xq (x:=x) (own:=false) (E:=2) hm (by simp [lk]) d0 (by omega)
  rw [mn hl' g0]
  refine (sh ao _ c _ w hr (by omega)).mono ?_
  rintro e w' ⟨ao',c',rfl,ho,hb⟩
  exact ⟨ao',c',rfl,ho,hb⟩
theorem fR (y:Nat) (zss:List (List Int)) (i:Nat) (hi:i < zss.length) (hl:(cD zss i).length≤1000000):
  FC Tryz.prog 143 [(1000,bu zss)] [o1 (.esl 1000 i 0 (cD zss i).length)] [(y,bI (cD zss i).reverse)] (o1 (.sl y 0 (cD zss i).length)) []:=by
 have h:=kQ (P:=Tryz.prog) (f:=143) (ins:= [(1000,bu zss)]) (args:= [o1 (.esl 1000 i 0 (cD zss i).length)]) (x:=y) (E:=2) (zs:=(cD zss i).reverse) fun w η ω us hm ⟨hl',ha⟩=>by
  obtain ⟨u0,g0,d0⟩:=ha 0 _ rfl
  obtain ⟨ao,c,rfl,hr⟩:=xr (x:=1000) hm rfl hi d0 (by omega)
  rw [mn hl' g0]
  refine (kR ao _ c _ w hr (by omega)).mono ?_
  rintro e w' ⟨ao',c',rfl,ho,hb⟩
  rw [List.length_reverse]
  exact ⟨ao',c',rfl,ho,hb⟩
 rw [List.length_reverse] at h
 exact h
set_option maxRecDepth 100000 in
theorem rY (zs:List Int) (n:Nat) (hn:zs.length=n) (hpos:0 < n) (hn4:n≤1000000) (ha:∀i,i + 1 < n→aC zs i≤aC zs (i + 1)):
  FC Tryz.prog 80 [(1005,vW zs)] [o1 (.sl 1005 0 n)] [] (vv (I6 (aC zs (n - 1)))) []:=by
 refine a5 (nt:=25) Tryz.func80 rfl rfl (by simp) fun w0 ω0=> ?_
 have hil:n≤(aH zs).length:=by rw [aO,hn];exact Nat.le_refl _
 (refine aj ?_;refine ag ?_;apply ae rfl;(exact ai rfl rfl);refine aq ?_;refine an ?_;refine aj ?_;refine aj ?_;refine ag ?_;apply ae rfl;(exact ah rfl rfl);apply ae rfl;(exact br rfl rfl rfl (by as_aux_lemma=>kernel_rfl));apply ae rfl;(exact aB rfl rfl rfl rfl);refine aq ?_;refine an ?_)
 refine bM rfl (fun h=>absurd hpos (by omega)) (fun h=> ?_)
 have hg0:(aH zs)[0]? =some (I6 (aC zs 0)):=aR (by omega)
 (refine aG ?_;refine an ?_;refine aj ?_;refine ag ?_;apply ae rfl;(exact ah rfl rfl);apply ae rfl;(exact aS (j:=0) rfl rfl rfl rfl rfl (by as_aux_lemma=>kernel_rfl) rfl hpos hil);apply ae rfl;(exact aV rfl (by as_aux_lemma=>kernel_rfl) rfl rfl rfl (by first | assumption | exact aR (by assumption) | exact bV (by assumption) | exact aR (by omega) | exact bV (by omega) | rfl));apply ae rfl;(exact ai rfl rfl);refine aq ?_;refine an ?_;refine aj ?_;refine aj ?_;refine ag ?_;apply ae rfl;(exact ai rfl rfl);refine aq ?_;refine an ?_;refine aD ?_)
 refine bx (fun i:Nat=>St.of [(0,o1 (.sl 1005 0 n)),(3,vv (I6 (aC zs (i - 1)))),(4,vv (I6 i))] [(1005,vW zs)]) (fun i=>1≤i∧i≤n) (fun i=>n - i) 1 ⟨Nat.le_refl _,hpos⟩ (Wk.of ⟨rfl,rfl,rfl,trivial⟩ ⟨rfl,trivial⟩ trivial) ?_
 rintro i ⟨hi1,hi2⟩
 (refine aj ?_;refine aj ?_;refine ag ?_;apply ae rfl;(exact ah rfl rfl);apply ae rfl;(exact ah rfl rfl);apply ae rfl;(exact br rfl rfl rfl (by as_aux_lemma=>kernel_rfl));apply ae rfl;(exact aB rfl rfl rfl rfl);refine aq ?_;refine an ?_)
 refine bM rfl (fun hlt=> ?_) (fun hlt=> ?_)
 ·have hlt':i < n:=by omega
  have hgi:(aH zs)[i]? =some (I6 (aC zs i)):=aR (by omega)
  have hle:aC zs (i - 1)≤aC zs i:=by
   have:=ha (i - 1) (by omega)
   rwa [show i - 1 + 1=i by omega] at this
  have hmx:(if aC zs i > aC zs (i - 1) then aC zs i else aC zs (i - 1))=aC zs (i + 1 - 1):=by
   rw [Nat.add_sub_cancel];split
   ·rfl
   ·omega
  (refine aG ?_;refine an ?_;refine aj ?_;refine aD ?_;refine ag ?_;apply ae rfl;(exact ah rfl rfl);apply ae rfl;(exact ah rfl rfl);apply ae rfl;(exact ah rfl rfl);apply ae rfl;(exact aS (j:=i) rfl rfl rfl rfl rfl (by as_aux_lemma=>kernel_rfl) rfl hlt' hil);apply ae rfl;(exact aV rfl (by as_aux_lemma=>kernel_rfl) rfl rfl rfl (by first | assumption | exact aR (by assumption) | exact bV (by assumption) | exact aR (by omega) | exact bV (by omega) | rfl));apply ae rfl;(exact v9 rfl rfl rfl);apply ae rfl;(exact ai rfl rfl);refine aq ?_;refine aI ?_;refine an ?_;refine ag ?_;apply ae rfl;(exact ah rfl rfl);apply ae rfl;(exact aJ rfl rfl rfl (by first | exact IntWalk.i64_in _ (by omega) | rfl));apply ae rfl;(exact ai rfl rfl);refine aq ?_)
  exact aX (i + 1) ⟨by omega,by omega⟩ (by omega) (Wk.of ⟨rfl,congrArg (fun z=>some (vv (I6 z))) hmx,rfl,trivial⟩ ⟨rfl,trivial⟩ trivial)
 ·obtain rfl:i=n:=by omega
  (refine a6 ?_;refine aE ?_;refine aE ?_;refine aP ?_;refine an ?_;refine aj ?_;refine ag ?_;apply ae rfl;(exact ah rfl rfl);apply ae rfl;(exact ai rfl rfl);refine aq ?_;refine an ?_;refine aK ?_)
  exact aW (.inl rfl) rfl (.tmp rfl) trivial trivial
set_option maxRecDepth 100000 in
theorem tm (a b:Nat) (ha:a < 1000000000000) (hb:b < 1000000000000):FC Tryz.prog 113 [] [vv (I6 a),vv (I6 b)] [] (vv (I6 (Nat.gcd a b))) []:=by
 refine a5 (nt:=12) Tryz.func113 rfl rfl (by simp) fun w0 ω0=> ?_
 (refine aj ?_;refine ag ?_;apply ae rfl;(exact ai rfl rfl);refine aq ?_;refine an ?_;refine aj ?_;refine aD ?_)
 refine bx (fun q:Nat×Nat=>St.of [(0,vv (I6 q.1)),(1,vv (I6 q.2))] []) (fun q=>Nat.gcd q.1 q.2=Nat.gcd a b∧q.1 < 1000000000000∧q.2 < 1000000000000) (fun q=>q.2) (a,b) ⟨rfl,ha,hb⟩ (Wk.of ⟨rfl,rfl,trivial⟩ trivial trivial) ?_
 rintro ⟨c,d⟩ ⟨hg,hc,hd⟩
 dsimp only at hg hc hd ⊢
 (refine aj ?_;refine aj ?_;refine ag ?_;apply ae rfl;(exact ah rfl rfl);apply ae rfl;(exact aB rfl rfl rfl rfl);refine aq ?_;refine an ?_)
 refine ax rfl (fun h=> ?_) (fun h=> ?_)
 ·have hd0:0 < d:=by
   have:(d:Int)≠0:=by simpa using h
   omega
  have hlt:=Nat.mod_lt c hd0
  have hg':Nat.gcd d (c % d)=Nat.gcd a b:=by rw [←hg,Nat.gcd_comm c d,Nat.gcd_rec d c,Nat.gcd_comm]
  (refine aG ?_;refine an ?_;refine aD ?_)
  apply lM 4 [] [2,3] [[], [], [], [1,2], [0,1], [0,1,2,3,4]] [7,8,9,10] [] (by kernel_rfl) (by kernel_rfl) (by kernel_rfl)
  ·(apply aF rfl;(intro S1 hS;exact ah rfl (hS.op rfl));apply aF rfl;(intro S1 hS;exact ah rfl (hS.op rfl));apply aF rfl;(intro S1 hS;exact ah rfl (hS.op rfl));(apply aF rfl;(focus (intro S1 hS;exact fa rfl (hS.op rfl) (hS.op rfl) hd0 hc)));exact eR.nil)
  ·rfl
  refine ⟨⟨?_, ?_⟩, ?_, ?_⟩
  ·refine cK (St.of [(0,vv (I6 d)),(1,vv (I6 (c % d:Nat)))] []) ?_ ?_
   ·((apply aZ 4 rfl (by as_aux_lemma=>kernel_rfl) rfl rfl;(exact ai rfl rfl));(apply aZ 5 rfl (by as_aux_lemma=>kernel_rfl) rfl rfl;(exact ai rfl rfl));(refine bF (by as_aux_lemma=>kernel_rfl) ?_;exact aU (Wk.of ⟨rfl,rfl,trivial⟩ trivial trivial)))
   ·(refine aI ?_)
    exact aX (d,c % d) ⟨hg',hd,by dsimp only;omega⟩ hlt (Wk.of ⟨rfl,rfl,trivial⟩ trivial trivial)
  ·refine cK (St.of [(0,vv (I6 d)),(1,vv (I6 (c % d:Nat)))] []) ?_ ?_
   ·((apply eI 3 4 rfl (by as_aux_lemma=>kernel_rfl) rfl rfl rfl rfl;(exact fa rfl rfl rfl hd0 hc);(exact ai rfl rfl);(focus ((apply aZ 4 rfl (by as_aux_lemma=>kernel_rfl) rfl rfl;(exact ai rfl rfl));(apply aZ 5 rfl (by as_aux_lemma=>kernel_rfl) rfl rfl;(exact ai rfl rfl));(refine bF (by as_aux_lemma=>kernel_rfl) ?_;exact aU (Wk.of ⟨rfl,rfl,trivial⟩ trivial trivial))));(focus ((apply aZ 3 rfl (by as_aux_lemma=>kernel_rfl) rfl rfl;(exact fa rfl rfl rfl hd0 hc));(apply aZ 5 rfl (by as_aux_lemma=>kernel_rfl) rfl rfl;(exact ai rfl rfl));(refine bF (by as_aux_lemma=>kernel_rfl) ?_;exact aU (Wk.of ⟨rfl,rfl,trivial⟩ trivial trivial))))))
   ·(refine aI ?_)
    exact aX (d,c % d) ⟨hg',hd,by dsimp only;omega⟩ hlt (Wk.of ⟨rfl,rfl,trivial⟩ trivial trivial)
  ·refine cK (St.of [(0,vv (I6 d)),(1,vv (I6 (c % d:Nat)))] []) ?_ ?_
   ·((apply eI 2 4 rfl (by as_aux_lemma=>kernel_rfl) rfl rfl rfl rfl;(exact ah rfl rfl);(exact ai rfl rfl);(focus ((apply aZ 4 rfl (by as_aux_lemma=>kernel_rfl) rfl rfl;(exact ai rfl rfl));(apply aZ 5 rfl (by as_aux_lemma=>kernel_rfl) rfl rfl;(exact ai rfl rfl));(refine bF (by as_aux_lemma=>kernel_rfl) ?_;exact aU (Wk.of ⟨rfl,rfl,trivial⟩ trivial trivial))));(focus ((apply aZ 2 rfl (by as_aux_lemma=>kernel_rfl) rfl rfl;(exact ah rfl rfl));(apply aZ 5 rfl (by as_aux_lemma=>kernel_rfl) rfl rfl;(exact ai rfl rfl));(refine bF (by as_aux_lemma=>kernel_rfl) ?_;exact aU (Wk.of ⟨rfl,rfl,trivial⟩ trivial trivial))))))
   ·(refine aI ?_)
    exact aX (d,c % d) ⟨hg',hd,by dsimp only;omega⟩ hlt (Wk.of ⟨rfl,rfl,trivial⟩ trivial trivial)
  ·refine cK (St.of [(0,vv (I6 d)),(1,vv (I6 (c % d:Nat)))] []) ?_ ?_
   ·((apply eI 2 4 rfl (by as_aux_lemma=>kernel_rfl) rfl rfl rfl rfl;(exact ah rfl rfl);(exact ai rfl rfl);(focus ((apply eI 3 4 rfl (by as_aux_lemma=>kernel_rfl) rfl rfl rfl rfl;(exact fa rfl rfl rfl hd0 hc);(exact ai rfl rfl);(focus ((apply aZ 4 rfl (by as_aux_lemma=>kernel_rfl) rfl rfl;(exact ai rfl rfl));(apply aZ 5 rfl (by as_aux_lemma=>kernel_rfl) rfl rfl;(exact ai rfl rfl));(refine bF (by as_aux_lemma=>kernel_rfl) ?_;exact aU (Wk.of ⟨rfl,rfl,trivial⟩ trivial trivial))));(focus ((apply aZ 3 rfl (by as_aux_lemma=>kernel_rfl) rfl rfl;(exact fa rfl rfl rfl hd0 hc));(apply aZ 5 rfl (by as_aux_lemma=>kernel_rfl) rfl rfl;(exact ai rfl rfl));(refine bF (by as_aux_lemma=>kernel_rfl) ?_;exact aU (Wk.of ⟨rfl,rfl,trivial⟩ trivial trivial)))))));(focus ((apply aZ 2 rfl (by as_aux_lemma=>kernel_rfl) rfl rfl;(exact ah rfl rfl));(apply aZ 3 rfl (by as_aux_lemma=>kernel_rfl) rfl rfl;(exact fa rfl rfl rfl hd0 hc));(apply aZ 5 rfl (by as_aux_lemma=>kernel_rfl) rfl rfl;(exact ai rfl rfl));(refine bF (by as_aux_lemma=>kernel_rfl) ?_;exact aU (Wk.of ⟨rfl,rfl,trivial⟩ trivial trivial))))))
   ·(refine aI ?_)
    exact aX (d,c % d) ⟨hg',hd,by dsimp only;omega⟩ hlt (Wk.of ⟨rfl,rfl,trivial⟩ trivial trivial)
 ·have hd0:d=0:=by
   have:(d:Int)=0:=by simpa using h
   omega
  subst hd0
  rw [←hg,Nat.gcd_zero_right]
  (refine a6 ?_;refine aE ?_;refine aE ?_;refine aP ?_;refine an ?_;refine aj ?_;refine ag ?_;apply ae rfl;(exact ah rfl rfl);apply ae rfl;(exact ai rfl rfl);refine aq ?_;refine an ?_;refine aK ?_)
  exact aW (.inl rfl) rfl (.tmp rfl) trivial trivial
end Go.Proofs.YtekbhbcgoadciaaGreat
namespace Go.Proofs.YtekbhbcgoadciaaGreat
open Go.RowKit
def mj (k:Nat) (labs:List Int):Nat:=if (cO labs).length=0 then (if wV labs=true∧k≠2 then 1 else 2) else k
def ey (ps:cT) (j:Nat):Nat:=(ps.take j).foldl (fun k p=>mj k p.2) 0
theorem jl {ps:cT} {j:Nat} (h:j < ps.length):ey ps (j + 1)=mj (ey ps j) (cx ps j).2:=by
 unfold ey
 rw [List.take_add_one,List.getElem?_eq_getElem h,List.foldl_append,eM h]
 rfl
theorem uw (ps:cT):∀j,ey ps j≤2:=by
 intro j
 induction j with
 | zero=>exact Nat.zero_le _
 | succ j ih=>
  by_cases h:j < ps.length
  ·rw [jl h];unfold mj;split
   ·split
    ·decide
    ·exact Nat.le_refl _
   ·exact ih
  ·have:ey ps (j + 1)=ey ps j:=by unfold ey;rw [List.take_of_length_le (by omega),List.take_of_length_le (by omega)]
   rw [this];exact ih
def bg (zs:List Int):Nat:=2 ^ (zs.length + 1) - 1
theorem dk {zs:List Int} (h:zs.length≤4):bg zs < 1000:=by
 have:2 ^ (zs.length + 1)≤2 ^ 5:=Nat.pow_le_pow_right (by decide) (by omega)
 unfold bg;omega
theorem bE {zs:List Int} (h:bz zs=true):zs.length≤4:=by unfold bz at h;simp at h;omega
theorem ra {zs:List Int} (h:bz zs=true):∀z∈zs,z=0∨(2≤z∧z≤32):=by
 intro z hz
 unfold bz at h
 simp at h
 have:=h.1 z hz
 unfold dE gm at this
 simp at this
 omega
theorem ga {zs:List Int} {mask:Nat} (h:bz zs=true) {k:Nat} (hk:k < (comps zs mask).length):gY (cx (comps zs mask) k).2:=by
 have hl:=bE h
 have hp:=fu zs mask
 have hm:=fx hk
 refine ⟨?_,fun z hz=> ?_⟩
 ·have h1:=lq hm
  have h2:=hp.sum
  omega
 ·have h1:=hp.lj _ hm z hz
  have h2:=ra h z h1.1
  have h3:=h1.2
  omega
theorem jE (zs:List Int) (L:Nat) (hL:zs.length=L) (hn:L≤4398046511104):FC Tryz.prog 54 [(1003,cf zs)] [o1 (.sl 1003 0 L)] [] (vv (.bool (bz zs))) []:=
 du fun w η ω us hm ⟨hl,ha⟩=>by
  subst hL
  obtain ⟨u0,g0,d0⟩:=ha 0 _ rfl
  obtain ⟨ao,c,rfl,hI⟩:=xq (x:=1003) hm rfl d0 (by omega)
  rw [mn hl g0]
  exact jM ao _ c _ w hI
theorem j7 (zs:List Int) (L:Nat) (hL:zs.length=L) (hn:L≤4398046511104):FC Tryz.prog 72 [(1003,cf zs)] [o1 (.sl 1003 0 L)] [] (vv (.bool (bz zs))) []:=
 du fun w η ω us hm ⟨hl,ha⟩=>by
  subst hL
  obtain ⟨u0,g0,d0⟩:=ha 0 _ rfl
  obtain ⟨ao,c,rfl,hI⟩:=xq (x:=1003) hm rfl d0 (by omega)
  rw [mn hl g0]
  refine (oc ao _ c _ w hI).mono ?_
  rintro e w' ⟨rfl,rfl⟩
  exact ⟨rfl,Below.refl _ _⟩
theorem pV (L:Nat):1≤2 ^ L:=Nat.one_le_two_pow
theorem gZ (zs:List Int) (L:Nat) (hL:zs.length=L) (h4:L≤4):FC Tryz.prog 57 [(1003,cf zs)] [o1 (.sl 1003 0 L)] [] (vv (I6 (bg zs))) []:=by
 have h5:L≤5:=by omega
 have hp:2 ^ (L + 1)≤2 ^ 5:=Nat.pow_le_pow_right (by decide) (by omega)
 have h1:=pV (L + 1)
 have hw:IntKind.i64.wrap (((2 ^ (L + 1):Nat):Int) - 1)=((bg zs:Nat):Int):=by
  rw [IntWalk.i64_in _ (by omega)]
  unfold bg;rw [hL];omega
 refine a5 (nt:=7) Tryz.func57 rfl rfl (by simp) fun w0 ω0=> ?_
 (refine aj ?_;refine ag ?_;apply ae rfl;(exact ai rfl rfl);refine aq ?_;refine an ?_;refine aj ?_;refine ag ?_;apply ae rfl;(exact ah rfl rfl);apply ae rfl;(exact br rfl rfl rfl (by as_aux_lemma=>kernel_rfl));apply ae rfl;(first | exact p9 (g:=L) rfl rfl rfl h5 | exact bf rfl rfl rfl hw);apply ae rfl;(first | exact p9 (g:=L) rfl rfl rfl h5 | exact bf rfl rfl rfl hw);apply ae rfl;(exact ai rfl rfl);refine aq ?_;refine an ?_;refine aK ?_)
 exact aW (.inl rfl) rfl (.tmp rfl) trivial trivial
end Go.Proofs.YtekbhbcgoadciaaGreat
namespace Go.Proofs.YtekbhbcgoadciaaGreat
open Go.RowKit
section
variable {P:Program} {ops:Array Oper} {C:World→Prop} {o:Oper} {a:Act} {K:Act→Prop}
theorem dX {u:Value} (h:∀w,C w→(execOp a.eval o).run P w= .ok (.value u) w) (hk:K (a.put o.dst u)):o.quiet P a C K:=
 ⟨u,fun w hw=>by unfold Oper.quietAt;rw [h w hw];exact ⟨rfl,rfl⟩,hk⟩
theorem dA {f:FuncId} {args:Array Value} {v:Value} (h:∀w,C w→(execOp a.eval o).run P w= .ok (.enter f args) w) (hc:∀w,C w→Calls P f args w (fun e w''=>e= .returned v∧C w'')) (hk:K (a.put o.dst v)):o.quiet P a C K:=
 ⟨v,fun w hw=>by unfold Oper.quietAt;rw [h w hw];exact ⟨rfl,hc w hw⟩,hk⟩
theorem cP {id:Nat} {Q:Exit→Act→World→Prop} {w:World} {l:List Oper} (hm:P.follows .mixedOrders=true) (hB:Region.lexB .any l.toArray=true)
  (h:wpQuiet P l.toArray (fun w'=>Below w.heap.size w w') (fun a'=>∀w',Below w.heap.size w w'→Q .normal a' w') l a):(Code.region id l.toArray true).wp P Q a w:=
 wp_region_quiet (C:=fun w'=>Below w.heap.size w w') hm hB (pb w) (by simpa using h)
end
end Go.Proofs.YtekbhbcgoadciaaGreat
namespace Go.Proofs.YtekbhbcgoadciaaGreat
open Go.RowKit
theorem vG (x:Int) (w:World):Calls Tryz.prog 185 #[.int .i64 x] w fun e w'=>e= .returned (.bool false)∧w'=w:=by
 have hx:(x != x)=false:=by simp
 go_enter Tryz.func185,Tryz.ntmps185
 go_wp2
 go_ret
 exact ⟨rfl,rfl⟩
theorem pe (x y:Int) (w:World):Calls Tryz.prog 165 #[.int .i64 x, .int .i64 y] w fun e w'=>e= .returned (.bool (decide (x < y)))∧w'=w:=by
 go_enter Tryz.func165,Tryz.ntmps165
 go_wp2_with (go_at_call 185;refine (vG _ _).mono ?_;rintro e w' ⟨rfl,rfl⟩)
 go_ret
 exact ⟨rfl,rfl⟩
set_option maxRecDepth 100000 in
theorem wN (w:World):Calls Tryz.prog 169 #[.int .u64 0] w fun e w'=>(∃r:Int,e= .returned (.int .i64 r))∧w'=w:=by
 go_enter Tryz.func169,Tryz.ntmps169
 go_wp2
 go_ret
 exact ⟨⟨_,rfl⟩,rfl⟩
set_option maxRecDepth 100000 in
theorem wW (w:World):Calls Tryz.prog 169 #[.int .u64 1] w fun e w'=>(∃r:Int,e= .returned (.int .i64 r))∧w'=w:=by
 go_enter Tryz.func169,Tryz.ntmps169
 go_wp2
 go_ret
 exact ⟨⟨_,rfl⟩,rfl⟩
set_option maxRecDepth 100000 in
theorem vm (w:World):Calls Tryz.prog 169 #[.int .u64 2] w fun e w'=>(∃r:Int,e= .returned (.int .i64 r))∧w'=w:=by
 go_enter Tryz.func169,Tryz.ntmps169
 go_wp2
 go_ret
 exact ⟨⟨_,rfl⟩,rfl⟩
set_option maxRecDepth 100000 in
theorem vh (w:World):Calls Tryz.prog 169 #[.int .u64 3] w fun e w'=>(∃r:Int,e= .returned (.int .i64 r))∧w'=w:=by
 go_enter Tryz.func169,Tryz.ntmps169
 go_wp2
 go_ret
 exact ⟨⟨_,rfl⟩,rfl⟩
set_option maxRecDepth 100000 in
theorem vT (w:World):Calls Tryz.prog 169 #[.int .u64 4] w fun e w'=>(∃r:Int,e= .returned (.int .i64 r))∧w'=w:=by
 go_enter Tryz.func169,Tryz.ntmps169
 go_wp2
 go_ret
 exact ⟨⟨_,rfl⟩,rfl⟩
set_option maxRecDepth 100000 in
theorem wj (w:World):Calls Tryz.prog 169 #[.int .u64 5] w fun e w'=>(∃r:Int,e= .returned (.int .i64 r))∧w'=w:=by
 go_enter Tryz.func169,Tryz.ntmps169
 go_wp2
 go_ret
 exact ⟨⟨_,rfl⟩,rfl⟩
theorem se (k:Nat) (hk:k≤5) (w:World):Calls Tryz.prog 169 #[.int .u64 k] w fun e w'=>(∃r:Int,e= .returned (.int .i64 r))∧w'=w:=by
 rcases (by omega:k=0∨k=1∨k=2∨k=3∨k=4∨k=5) with rfl | rfl | rfl | rfl | rfl | rfl
 ·exact wN w
 ·exact wW w
 ·exact vm w
 ·exact vh w
 ·exact vT w
 ·exact wj w
theorem wZ (k:Nat) (hk:k≤5) (w:World):Calls Tryz.prog 141 #[.int .u64 k] w fun e w'=>(∃r:Int,e= .returned (.int .i64 r))∧w'=w:=by
 go_enter Tryz.func141,Tryz.ntmps141
 go_wp2_with fail
 refine (se k hk _).mono ?_
 rintro e w' ⟨⟨r,rfl⟩,rfl⟩
 go_wp2
 go_ret
 exact ⟨⟨_,rfl⟩,rfl⟩
def y5 (cur:List Int) (i j:Nat):Prop:=∀x y,x < y→y≤i→y≠j→aC cur x≤aC cur y
theorem swap_perm:∀(l:List Int) (k:Nat),k + 1 < l.length→((l.set (k + 1) (aC l k)).set k (aC l (k + 1))).Perm l
 | [],k,h=>by simp at h
 | [a],k,h=>by simp at h
 | a :: b :: r,0,_=>by
  simp only [List.set_cons_succ,List.set_cons_zero]
  exact List.Perm.swap a b r
 | a :: b :: r,k + 1,h=>by
  have:=swap_perm (b :: r) k (by simpa using h)
  rw [show aC (a :: b :: r) (k + 1)=aC (b :: r) k by simp [aC],show aC (a :: b :: r) (k + 1 + 1)=aC (b :: r) (k + 1) by simp [aC],List.set_cons_succ,List.set_cons_succ]
  exact this.cons a
theorem pK {cur:List Int} {i j:Nat} (h:y5 cur i j) (hs:j=0∨aC cur (j - 1)≤aC cur j):∀x y,x < y→y≤i→aC cur x≤aC cur y:=by
 intro x y h1 h2
 by_cases e:y=j
 ·subst e
  rcases hs with h0 | h0
  ·omega
  ·by_cases e2:x=y - 1
   ·rw [e2];exact h0
   ·exact Int.le_trans (h x (y - 1) (by omega) (by omega) (by omega)) h0
 ·exact h x y h1 h2 e
theorem tQ {cur:List Int} {i k:Nat} (hl:k + 1 < cur.length) (hk:k + 1≤i) (h:y5 cur i (k + 1)) (hlt:aC cur (k + 1) < aC cur k):y5 ((cur.set (k + 1) (aC cur k)).set k (aC cur (k + 1))) i k:=by
 have e1:aC ((cur.set (k + 1) (aC cur k)).set k (aC cur (k + 1))) k=aC cur (k + 1):=dN (by simp;omega) _
 have e2:aC ((cur.set (k + 1) (aC cur k)).set k (aC cur (k + 1))) (k + 1)=aC cur k:=by rw [di (by omega),dN hl]
 have e3:∀z,z≠k→z≠k + 1→aC ((cur.set (k + 1) (aC cur k)).set k (aC cur (k + 1))) z=aC cur z:=fun z h1 h2=>by rw [di (fun e=>h1 e.symm),di (fun e=>h2 e.symm)]
 intro x y h1 h2 h3
 by_cases y1:y=k + 1
 ·subst y1
  rw [e2]
  by_cases x1:x=k
  ·subst x1;rw [e1];omega
  ·rw [e3 x x1 (by omega)];exact h x k (by omega) (by omega) (by omega)
 ·rw [e3 y h3 y1]
  by_cases x1:x=k
  ·subst x1;rw [e1];exact h (x + 1) y (by omega) h2 y1
  ·by_cases x2:x=k + 1
   ·subst x2;rw [e2];exact h k y (by omega) h2 y1
   ·rw [e3 x x1 x2];exact h x y h1 h2 y1
def bS (zs:List Int):List Int:=zs.mergeSort (fun a b=>decide (a≤b))
theorem oh {l:List Int} (h:∀x y,x < y→y < l.length→aC l x≤aC l y):l.Pairwise (· ≤·):=by
 rw [List.pairwise_iff_getElem]
 intro i j hi hj hij
 have:=h i j hij hj
 rwa [ct hi,ct hj] at this
theorem mF {l zs:List Int} (hp:l.Perm zs) (ha:l.Pairwise (· ≤·)):l=bS zs:=by
 have h1:(bS zs).Pairwise (· ≤·):=by
  have:=List.pairwise_mergeSort (le:=fun a b:Int=>decide (a≤b)) (fun a b c h1 h2=>by simp at *;omega) (fun a b=>by simp;omega) zs
  exact this.imp (by simp)
 exact List.Perm.eq_of_pairwise (fun a b _ _ h1 h2=>Int.le_antisymm h1 h2) ha h1 (hp.trans (List.mergeSort_perm zs _).symm)
theorem kO (zs:List Int):(bS zs).length=zs.length:=(List.mergeSort_perm zs _).length_eq
end Go.Proofs.YtekbhbcgoadciaaGreat
namespace Go.Proofs.YtekbhbcgoadciaaGreat
theorem tO {k:Nat} {labs:List Int} :mj k labs=0↔k=0∧(cO labs).length≠0:=by
 unfold mj
 by_cases h:(cO labs).length=0
 ·rw [if_pos h]
  constructor
  ·intro h2;split at h2<;>omega
  ·intro h2;exact absurd h h2.2
 ·rw [if_neg h];exact ⟨fun h2=>⟨h2,h⟩,fun h2=>h2.1⟩
theorem gI {ps:cT} :∀j,j≤ps.length→(ey ps j=0↔∀k,k < j→(cO (cx ps k).2).length≠0)
 | 0,_=>⟨fun _ k hk=>absurd hk (by omega),fun _=>rfl⟩
 | j + 1,h=>by
  rw [jl (by omega),tO,gI j (by omega)]
  constructor
  ·intro ⟨h1,h2⟩ k hk
   by_cases e:k=j
   ·rw [e];exact h2
   ·exact h1 k (by omega)
  ·intro h1;exact ⟨fun k hk=>h1 k (by omega),h1 j (by omega)⟩
def eB (ps:cT) (j:Nat):List Int:=((ps.take j).map fun p=>cO p.2).flatten
theorem gy {ps:cT} {j:Nat} (h:j < ps.length):eB ps (j + 1)=eB ps j ++ cO (cx ps j).2:=by
 unfold eB
 rw [List.take_add_one,List.getElem?_eq_getElem h,eM h,List.map_append,List.flatten_append]
 simp only [Option.toList_some,List.map_cons,List.map_nil,List.flatten_cons,List.flatten_nil,List.append_nil]
def iU (labs:List Int):Nat:=(aC (cO labs) ((cO labs).length - 1)).toNat
def gQ (ps:cT) (j:Nat):Nat:=(ps.take j).foldl (fun m p=>Nat.lcm m (iU p.2)) 1
theorem kK {ps:cT} {j:Nat} (h:j < ps.length):gQ ps (j + 1)=Nat.lcm (gQ ps j) (iU (cx ps j).2):=by
 unfold gQ
 rw [List.take_add_one,List.getElem?_eq_getElem h,List.foldl_append,eM h]
 rfl
theorem nW {labs:List Int} (h:gY labs):iU labs≤32:=by
 unfold iU
 by_cases hl:(cO labs).length=0
 ·rw [List.length_eq_zero_iff.1 hl];simp [aC]
 ·have:=ly h _ (fc (zs:=cO labs) (k:=(cO labs).length - 1) (by omega))
  omega
theorem py {labs:List Int} (h:gY labs) (hl:(cO labs).length≠0):0 < iU labs:=by
 unfold iU
 have:=ly h _ (fc (zs:=cO labs) (k:=(cO labs).length - 1) (by omega))
 omega
theorem oF {labs:List Int} (h:gY labs) (hl:(cO labs).length≠0):aC (cO labs) ((cO labs).length - 1)=(iU labs:Int):=by
 have:=ly h _ (fc (zs:=cO labs) (k:=(cO labs).length - 1) (by omega))
 unfold iU
 omega
theorem vj (m h:Nat):Nat.lcm m h≤m * h:=by unfold Nat.lcm;exact Nat.div_le_self _ _
theorem rI {ps:cT} (hL:∀k,k < ps.length→gY (cx ps k).2):∀j,j≤ps.length→gQ ps j≤32 ^ j
 | 0,_=>by simp [gQ]
 | j + 1,h=>by
  rw [kK (by omega),Nat.pow_succ]
  exact Nat.le_trans (vj _ _) (Nat.mul_le_mul (rI hL j (by omega)) (nW (hL j (by omega))))
theorem rX {ps:cT} (hL:∀k,k < ps.length→gY (cx ps k).2) {j:Nat} (h:j≤ps.length) (h5:j≤5):gQ ps j≤33554432:=
 Nat.le_trans (rI hL j h) (Nat.le_trans (Nat.pow_le_pow_right (by decide) h5) (by decide))
theorem r9 (m h:Nat):m * (h / Nat.gcd m h)=Nat.lcm m h:=by unfold Nat.lcm;rw [Nat.mul_div_assoc _ (Nat.gcd_dvd_right m h)]
theorem oP {m h:Nat} (hh:0 < h):0 < Nat.gcd m h:=Nat.gcd_pos_of_pos_right m hh
theorem po {n:Nat} {step:Int} {i:Nat} (h:i < n):aC (eD n step) i=2 + step * i:=by
 rw [ct (by rw [cF];exact h)];simp [eD]
theorem pE {labs:List Int} (hL:gY labs):∀i,i + 1 < (cO labs).length→aC (cO labs) i≤aC (cO labs) (i + 1):=by
 have hr:∀step:Int,0≤step→∀i,i + 1 < (eD (labs.length + 1) step).length→aC (eD (labs.length + 1) step) i≤aC (eD (labs.length + 1) step) (i + 1):=fun step hs i hi=>by
  rw [cF] at hi
  rw [po (by omega),po hi]
  have:step * (i:Int)≤step * ((i + 1:Nat):Int):=Int.mul_le_mul_of_nonneg_left (by omega) hs
  omega
 have h0:∀l:List Int,l.length≤4→(∀i,i < 3→i + 1 < l.length→aC l i≤aC l (i + 1))→∀i,i + 1 < l.length→aC l i≤aC l (i + 1):=fun l h1 h2 i hi=>h2 i (by omega) hi
 unfold cO
 split
 ·intro i hi;simp at hi
 split
 ·rename_i h1 h2
  have h3:=hL.2 _ (fc (zs:=labs) (k:=0) (by omega))
  intro i hi
  obtain rfl:i=0:=by simp at hi;omega
  show (2:Int)≤aC labs 0
  omega
 split
 ·intro i hi;simp at hi
  rcases (by omega:i=0∨i=1) with rfl | rfl<;>decide
 split
 ·intro i hi;simp at hi
  rcases (by omega:i=0∨i=1∨i=2) with rfl | rfl | rfl<;>decide
 split
 ·intro i hi;simp at hi
  rcases (by omega:i=0∨i=1∨i=2) with rfl | rfl | rfl<;>decide
 split
 ·exact hr 1 (by decide)
 split
 ·exact hr 2 (by decide)
 ·intro i hi;simp at hi
def dC (zs:List Int) (mask:Nat):Bool:=decide (ey (comps zs mask) (comps zs mask).length=0)
def gA (zs:List Int) (mask:Nat):List Int:=bS (eB (comps zs mask) (comps zs mask).length)
def x9 (zs:List Int) (mask:Nat):Nat:=gQ (comps zs mask) (comps zs mask).length
theorem iq {ps:cT} (hL:∀k,k < ps.length→gY (cx ps k).2):∀j,j≤ps.length→(eB ps j).length≤fj (ps.take j)
 | 0,_=>by simp [eB]
 | j + 1,h=>by
  rw [gy (by omega),List.take_add_one,List.getElem?_eq_getElem (by omega),mm,List.length_append]
  have h1:=iq hL j (by omega)
  have h2:=tc (cx ps j).2 (hL j (by omega)).1
  rw [eM (by omega)] at h2 ⊢
  simp [fj] at h1 ⊢
  omega
theorem iM (ps:cT) (j:Nat):fj (ps.take j)≤fj ps:=by
 have:fj ps=fj (ps.take j) + fj (ps.drop j):=by rw [←mm,List.take_append_drop]
 omega
end Go.Proofs.YtekbhbcgoadciaaGreat
namespace Go.Proofs.YtekbhbcgoadciaaGreat
open Go.RowKit
def xF:List Int:= [0,2,3,4,5,6]
def qy:Nat→List (List Int)
 | 0=> [[]]
 | k + 1=>xF.flatMap fun z=>(qy k).map fun l=>z :: l
def rq:List (List Int):=eP ++ (fT ++ (qy 0 ++ (qy 1 ++ (qy 2 ++ qy 3))))
def tz:List (List Int):=rq ++ (rq.filter fun l=>decide (l.length≤1)).map fun l=>l ++ [2,2,2]
def kr:List (List Int):= [[], [3], [4], [5], [3,3], [4,3], [3,4], [5,3], [3,5], [2], [2,3], [3,2], [6,2], [3,3,3], [2,2], [7], [3,2,3], [4,2,3], [3,3,4], [4,3,3], [2,3,3], [3,3,2], [2,2,2,2], [3,2,2], [3,4,3], [3,3,5], [5,3,3], [3,3,3,3], [3,3,3,4], [5,3,2], [6], [2,4], [2,5], [2,6], [4,2], [5,2], [2,2,2], [2,2,3], [2,2,4], [2,2,5], [2,2,6], [2,3,2], [2,3,4], [2,3,5], [2,4,2], [2,4,3], [2,5,2], [2,5,3], [2,6,2], [3,2,4], [3,2,5], [3,2,6], [3,4,2], [3,5,2], [4,2,2], [4,2,4], [4,2,5], [4,2,6], [4,3,2], [5,2,2], [5,2,3], [5,2,4], [5,2,5], [5,2,6], [6,2,2], [6,2,3], [6,2,4], [6,2,5], [6,2,6], [3,2,2,2], [4,2,2,2], [5,2,2,2], [7,2,2,2], [6,2,2,2]]
theorem xd {z:Int} (h:nV z=true):z∈xF:=by
 unfold nV at h
 have h1:z=0∨(2≤z∧z≤6):=by simpa using h
 have h2:z=0∨z=2∨z=3∨z=4∨z=5∨z=6:=by omega
 unfold xF
 simpa using h2
theorem rN:∀zs:List Int,zs.all nV=true→zs∈qy zs.length
 | [],_=>by simp [qy]
 | z :: l,h=>by
  rw [List.all_cons,Bool.and_eq_true] at h
  exact List.mem_flatMap.2 ⟨z,xd h.1,List.mem_map.2 ⟨l,rN l h.2,rfl⟩⟩
theorem pG {zs:List Int} (h:vb zs):zs∈rq:=by
 unfold rq
 simp only [List.mem_append]
 rcases h with h | h | ⟨h,h'⟩
 ·exact .inl h
 ·exact .inr (.inl h)
 ·have hb:=rN zs h'
  rcases (by omega:zs.length=0∨zs.length=1∨zs.length=2∨zs.length=3) with e | e | e | e<;>rw [e] at hb
  ·exact .inr (.inr (.inl hb))
  ·exact .inr (.inr (.inr (.inl hb)))
  ·exact .inr (.inr (.inr (.inr (.inl hb))))
  ·exact .inr (.inr (.inr (.inr (.inr hb))))
theorem tC {zs:List Int} (h:yA zs) (hd:bz zs=true):zs∈tz:=by
 unfold tz
 rw [List.mem_append]
 rcases h with h | ⟨ys,z,hy,hz,rfl⟩ | ⟨ys,hy,rfl⟩
 ·exact .inl (pG h)
 ·exfalso
  unfold bz at hd
  rw [Bool.and_eq_true,List.all_append,Bool.and_eq_true] at hd
  have h1:dE z=true:=by simpa using hd.1.2
  have h2:z=1∨z= -1∨z=33:=by simpa using hz
  rcases h2 with rfl | rfl | rfl<;>revert h1<;>decide
 ·refine .inr (List.mem_map.2 ⟨ys,List.mem_filter.2 ⟨pG hy, ?_⟩,rfl⟩)
  have:=qZ hd
  rw [List.length_append] at this
  simp at this ⊢;omega
theorem tG:(tz.all fun zs=> !dC zs (bg zs) || kr.contains zs)=true:=by decide +kernel
theorem vR {zs:List Int} (h:yA zs) (hd:bz zs=true) (hf:dC zs (bg zs)=true):zs∈kr:=by
 have h1:=List.all_eq_true.1 tG zs (tC h hd)
 rw [hf] at h1
 simpa using h1
end Go.Proofs.YtekbhbcgoadciaaGreat
