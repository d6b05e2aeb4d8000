/- Coset enumeration: no image is lost, up to identifications; words stay closed. No program in sight. -/
import Derived.Test.YtfpcfckocmmcnaaPart3
import Derived.Test.YtfpcfckocmmcnaaPart2
import Derived.Lib.LazyBuf
import Derived.Lib.SliceRun
import Derived.Test.YtfpcfckocmmcnaaProg
import Derived.Test.YtfpcfckocmmcnaaPart1
import Derived.RegionTactic
import Derived.BigQuiet
set_option maxRecDepth 100000
set_option maxHeartbeats 6400000
namespace Go.Proofs.Ytfpcfckocmmcnaa
structure Ext (ng:Nat) (im:List (List Int)) (less:List Int) (im':List (List Int)) (less':List Int):Prop where
 len:less.length≤less'.length
 eqv:∀a b,a < less.length→b < less.length→root less a=root less b→root less' a=root less' b
 zM:∀c g,c < less.length→g < ng→0≤bT im (root less c) g→0≤bT im' (root less' c) g∧root less' (bT im' (root less' c) g).toNat=root less' (bT im (root less c) g).toNat
theorem Ext.refl (ng:Nat) (im:List (List Int)) (less:List Int):Ext ng im less im less:=⟨Nat.le_refl _,fun _ _ _ _ h=>h,fun _ _ _ _ h=>⟨h,rfl⟩⟩
theorem Ext.trans {ng:Nat} {a b c:List (List Int)} {x y z:List Int} (h:Ext ng a x b y) (k:Ext ng b y c z) (ha:WF ng a x) (hb:WF ng b y):Ext ng a x c z:=
 ⟨Nat.le_trans h.len k.len,fun i j hi hj e=>k.eqv i j (Nat.lt_of_lt_of_le hi h.len) (Nat.lt_of_lt_of_le hj h.len) (h.eqv i j hi hj e),fun i g hi hg h0=>by
  obtain ⟨h1,h2⟩:=h.zM i g hi hg h0
  have hl:=h.len
  have hi':i < y.length:=by omega
  obtain ⟨h3,h4⟩:=k.zM i g hi' hg h1
  have e1:=hb.bT (root y i) g (by rw [hb.len];exact cZ hb.down hi') hg
  have e2:=ha.bT (root x i) g (by rw [ha.len];exact cZ ha.down hi) hg
  exact ⟨h3,h4.trans (k.eqv _ _ ab ab h2)⟩⟩
def pX (im:List (List Int)) (less:List Int) (c:Nat):List Nat→Option Nat
 | []=>some (root less c)
 | g :: r=>if 0≤bT im (root less c) g then pX im less (bT im (root less c) g).toNat r else none
theorem n4 {im:List (List Int)} {less:List Int} {a b:Nat} (h:root less a=root less b) (w:List Nat):pX im less a w=pX im less b w:=by
 cases w with
 | nil=>simp [pX,h]
 | cons g r=>simp only [pX,h]
theorem ny {im:List (List Int)} {less:List Int} :∀(u:List Nat) (c d g:Nat),pX im less c u=some d→0≤bT im d g→pX im less c (u ++ [g])=some (root less (bT im d g).toNat)
 | [],c,d,g,h,h0=>by
  simp [pX] at h;subst h
  simp [pX,h0]
 | k :: r,c,d,g,h,h0=>by
  simp only [List.cons_append,pX] at h ⊢
  split at h
  ·rename_i h1
   rw [if_pos h1];exact ny r _ d g h h0
  ·cases h
theorem Ext.path {ng:Nat} {im im':List (List Int)} {less less':List Int} (h:Ext ng im less im' less') (hw:WF ng im less):∀(w:List Nat) (c d:Nat),c < less.length→(∀g∈w,g < ng)→pX im less c w=some d→pX im' less' c w=some (root less' d)
 | [],c,d,hc,_,hp=>by
  simp [pX] at hp;subst hp
  simp only [pX]
  rw [h.eqv c (root less c) hc (cZ hw.down hc) (ij hw.down hc).symm]
 | g :: r,c,d,hc,hg,hp=>by
  simp only [pX] at hp ⊢
  split at hp
  ·rename_i h0
   obtain ⟨h1,h2⟩:=h.zM c g hc (hg g (by simp)) h0
   have e:=hw.bT (root less c) g (by rw [hw.len];exact cZ hw.down hc) (hg g (by simp))
   rw [if_pos h1,n4 h2]
   exact h.path hw r _ d ab (fun x hx=>hg x (by simp [hx])) hp
  ·cases hp
theorem Ext.set {ng:Nat} {im:List (List Int)} {less:List Int} (hw:WF ng im less) {c g:Nat} {z:Int} (hc:c < less.length) (hg:g < ng) (h0:bT im c g < 0):Ext ng im less (eo im c g z) less:=
 ⟨Nat.le_refl _,fun _ _ _ _ h=>h,fun a k _ _ hp=>by
  have e:=eI (im:=im) (c:=c) (g:=g) (k:=root less a) (j:=k) (z:=z) (by rw [hw.len];exact hc) (by rw [hw.row c (by rw [hw.len];exact hc)];exact hg)
  rw [if_neg (by rintro ⟨e1,e2⟩;rw [←e1,←e2] at hp;omega)] at e
  rw [e];exact ⟨hp,rfl⟩⟩
theorem Ext.app {ng:Nat} {im:List (List Int)} {less:List Int} (hw:WF ng im less):Ext ng im less (im ++ [List.replicate ng (-1)]) (less ++ [(less.length:Int)]):=by
 have hl:=hw.len
 have hra:=wy hw.down
 refine ⟨by simp,fun a b ha hb h=>by rw [hra a ha,hra b hb,h],fun a k ha hk h0=> ?_⟩
 have hr:=cZ hw.down ha
 have e:bT (im ++ [List.replicate ng (-1)]) (root less a) k=bT im (root less a) k:=by unfold bT;rw [eV ab]
 rw [hra a ha,e]
 exact ⟨h0,rfl⟩
theorem tr {ng:Nat} {im:List (List Int)} {less:List Int} {c g:Nat} (hw:WF ng im less) (hc:c < less.length) (hg:g < ng) (hlc:aD less c=(c:Int)):Ext ng im less (bZ ng im less c g).1 (bZ ng im less c g).2.1∧
  ((bZ ng im less c g).2.2.1=false→0≤bT (bZ ng im less c g).1 c g∧root (bZ ng im less c g).2.1 (bT (bZ ng im less c g).1 c g).toNat=(bZ ng im less c g).2.2.2∧root (bZ ng im less c g).2.1 c=c):=by
 unfold bZ
 split
 ·rename_i h0
  exact ⟨Ext.refl _ _ _,fun _=>⟨h0,rfl,de hlc⟩⟩
 ·rename_i h0
  split
  ·exact ⟨Ext.refl _ _ _,fun h=>nomatch h⟩
  ·have hl:=hw.len
   have w1:=hw.app
   have ec:bT (im ++ [List.replicate ng (-1)]) c g=bT im c g:=by unfold bT;rw [eV ab]
   have en:bT (im ++ [List.replicate ng (-1)]) less.length g= -1:=by unfold bT;rw [←hl,fF,fl hg]
   have w2:=w1.gw (c:=c) (g:=g) (z:=(less.length:Int)) (by simp;omega) hg (by simp;omega)
   have e2:∀a k,bT (eo (im ++ [List.replicate ng (-1)]) c g (less.length:Int)) a k=if c=a∧g=k then (less.length:Int) else bT (im ++ [List.replicate ng (-1)]) a k:=fun a k=>eI (by simp;omega) (by rw [w1.row _ (by simp;omega)];exact hg)
   have e3:∀a k,bT (mQ ng im less.length c g) a k=if less.length=a∧g=k then (c:Int) else bT (eo (im ++ [List.replicate ng (-1)]) c g (less.length:Int)) a k:=fun a k=>by
    unfold mQ
    exact eI (by rw [dE];simp;omega) (by rw [w2.row _ (by rw [dE];simp;omega)];exact hg)
   have x1:=Ext.app (ng:=ng) hw
   have x2:=Ext.set (z:=(less.length:Int)) w1 (c:=c) (g:=g) (by simp;omega) hg ab
   have x3:=Ext.set (z:=(c:Int)) w2 (c:=less.length) (g:=g) (by simp) hg (by rw [e2,if_neg ab];omega)
   refine ⟨(x1.trans x2 hw w1).trans x3 hw w2,fun _=> ?_⟩
   have e4:=e3 c g
   rw [if_neg ab,e2,if_pos ⟨rfl,rfl⟩] at e4
   dsimp only
   rw [e4]
   exact ⟨ab,by rw [Int.toNat_natCast];exact de dS,de (by rw [cI hc];exact hlc)⟩
theorem Bt {ng lo hi:Nat} {im:List (List Int)} {less:List Int} {p:Int×Int} {q:List (Int×Int)} (h:WF ng im less) (hp:p.1.toNat < less.length∧p.2.toNat < less.length) (hlt:lo < hi) (hhi:hi < less.length) (hl0:aD less lo=(lo:Int)) (hh0:aD less hi=(hi:Int))
  (hr:(root less p.1.toNat=lo∧root less p.2.toNat=hi)∨(root less p.1.toNat=hi∧root less p.2.toNat=lo)):
  (∀a b,iN less (p :: q) a b→iN (less.set hi (lo:Int)) (bE lo hi (im,q) ng).2 a b)∧
  ∀r g,r < less.length→g < ng→0≤bT im r g→0≤bT (bE lo hi (im,q) ng).1 (if r=hi then lo else r) g∧iN (less.set hi (lo:Int)) (bE lo hi (im,q) ng).2 (bT (bE lo hi (im,q) ng).1 (if r=hi then lo else r) g).toNat (bT im r g).toNat:=by
 have hil:lo < im.length:=by rw [h.len];omega
 obtain ⟨m1,m2,m3,m4,_⟩:=kN (q:=q) h hil (by omega:lo≠hi) ng (Nat.le_refl _)
 have hrs:=qM h.down hlt hhi hl0 hh0
 generalize (bE lo hi (im,q) ng).1=im' at *
 generalize (bE lo hi (im,q) ng).2=q' at *
 have hlh:iN (less.set hi (lo:Int)) q' hi lo:=by
  have:=iN.root (less:=less.set hi (lo:Int)) (q:=q') hi (by rw [List.length_set];exact hhi)
  rwa [hrs hi hhi,de hh0,if_pos rfl] at this
 have hroot:∀a,a < less.length→iN (less.set hi (lo:Int)) q' a (root less a):=fun a ha=>by
  have:=iN.root (less:=less.set hi (lo:Int)) (q:=q') a (by rw [List.length_set];exact ha)
  rw [hrs a ha] at this
  by_cases e:root less a=hi
  ·rw [if_pos e] at this;rw [e];exact this.trans hlh.symm
  ·rwa [if_neg e] at this
 have elo:∀g,g < ng→(0≤bT im lo g→bT im' lo g=bT im lo g)∧(0≤bT im hi g→0≤bT im' lo g∧iN (less.set hi (lo:Int)) q' (bT im' lo g).toNat (bT im hi g).toNat):=fun g hg=>by
  have e:=m2 g hg
  refine ⟨fun h0=> ?_,fun h0=> ?_⟩
  ·rw [e];split<;>first | rfl | rw [if_pos h0]
  ·by_cases h1:0≤bT im lo g
   ·rw [e,if_neg ab,if_pos h1]
    exact ⟨h1,(iN.pair _ (m4 g hg h0 h1)).symm⟩
   ·rw [e,if_neg ab,if_neg h1]
    exact ⟨h0, .refl _⟩
 refine ⟨fun a b hab=>iN.mono hroot (fun x hx=> ?_) hab,fun r g hr' hg h0=> ?_⟩
 ·rcases List.mem_cons.1 hx with rfl | hx
  ·have k1:=hroot _ hp.1
   have k2:=hroot _ hp.2
   rcases hr with ⟨r1,r2⟩ | ⟨r1,r2⟩
   ·rw [r1] at k1;rw [r2] at k2;exact k1.trans (hlh.symm.trans k2.symm)
   ·rw [r1] at k1;rw [r2] at k2;exact k1.trans (hlh.trans k2.symm)
  ·exact .pair x (m3 x hx)
 ·by_cases e:r=hi
  ·subst e;rw [if_pos rfl];exact (elo g hg).2 h0
  ·rw [if_neg e]
   by_cases e2:r=lo
   ·subst e2;rw [(elo g hg).1 h0];exact ⟨h0, .refl _⟩
   ·rw [m1 r g (.inl e2)];exact ⟨h0, .refl _⟩
structure G3 (ng:Nat) (im0:List (List Int)) (less0:List Int) (im:List (List Int)) (less:List Int) (q:List (Int×Int)):Prop where
 eqv:∀a b,a < less0.length→b < less0.length→root less0 a=root less0 b→iN less q a b
 zM:∀c g,c < less0.length→g < ng→0≤bT im0 (root less0 c) g→0≤bT im (root less c) g∧iN less q (bT im (root less c) g).toNat (bT im0 (root less0 c) g).toNat
theorem jX {ng n a0 b0:Nat} {im0:List (List Int)} {less0:List Int} (h0:less0.length=n):∀(f:Nat) (im:List (List Int)) (less:List Int) (q:List (Int×Int)),WF ng im less→less.length=n→mD n q→fuel ng less q≤f→G3 ng im0 less0 im less q→iN less q a0 b0→
  G3 ng im0 less0 (cH ng f im less q).1 (cH ng f im less q).2 []∧iN (cH ng f im less q).2 [] a0 b0
 | 0,im,less,q,h,hn,hq,hf,hE,hab=>by
  have:q= []:=List.eq_nil_of_length_eq_zero (by unfold fuel at hf;omega)
  subst this;exact ⟨hE,hab⟩
 | f + 1,im,less, [],h,hn,hq,hf,hE,hab=>⟨hE,hab⟩
 | f + 1,im,less,p :: q,h,hn,hq,hf,hE,hab=>by
  have hp:=hq p (by simp)
  have hq':mD less.length q:=fun x hx=>hn ▸ hq x (by simp [hx])
  have hr1:=eE h.down p.1.toNat ab
  have hr2:=eE h.down p.2.toNat ab
  have hfu:fuel ng less (p :: q)=fuel ng less q + 1:=by unfold fuel;simp;omega
  simp only [cH]
  split
  ·rename_i he
   have mono:∀a b,iN less (p :: q) a b→iN less q a b:=fun a b hab=>hab.mono (fun a ha=> .root a ha) fun x hx=>by
    rcases List.mem_cons.1 hx with rfl | hx
    ·have k1:=iN.root (less:=less) (q:=q) x.1.toNat ab
     have k2:=iN.root (less:=less) (q:=q) x.2.toNat ab
     rw [he] at k1;exact k1.trans k2.symm
    ·exact .pair x hx
   exact jX h0 f im less q h hn (fun x hx=>hq x (by simp [hx])) ab ⟨fun a b ha hb e=>mono _ _ (hE.eqv a b ha hb e),fun c g hc hg e=>⟨(hE.zM c g hc hg e).1,mono _ _ (hE.zM c g hc hg e).2⟩⟩ (mono _ _ hab)
  ·rename_i hne
   have hid:=jQ h (hn ▸ hq) hne
   unfold gg at hid
   obtain ⟨_,w1,w2,w3⟩:=hid
   have hroots:aD less (min (root less p.1.toNat) (root less p.2.toNat))=((min (root less p.1.toNat) (root less p.2.toNat):Nat):Int)∧aD less (max (root less p.1.toNat) (root less p.2.toNat))=((max (root less p.1.toNat) (root less p.2.toNat):Nat):Int):=by
    rcases Nat.le_total (root less p.1.toNat) (root less p.2.toNat) with h5 | h5
    ·rw [Nat.min_eq_left h5,Nat.max_eq_right h5];exact ⟨hr1.1,hr2.1⟩
    ·rw [Nat.min_eq_right h5,Nat.max_eq_left h5];exact ⟨hr2.1,hr1.1⟩
   obtain ⟨k1,k2⟩:=Bt (q:=q) h (p:=p) ab (lo:=min (root less p.1.toNat) (root less p.2.toNat)) (hi:=max (root less p.1.toNat) (root less p.2.toNat)) ab ab hroots.1 hroots.2 (by
    rcases Nat.le_total (root less p.1.toNat) (root less p.2.toNat) with h5 | h5
    ·left;rw [Nat.min_eq_left h5,Nat.max_eq_right h5];exact ⟨rfl,rfl⟩
    ·right;rw [Nat.min_eq_right h5,Nat.max_eq_left h5];exact ⟨rfl,rfl⟩)
   have hrs:=qM h.down (lo:=min (root less p.1.toNat) (root less p.2.toNat)) (hi:=max (root less p.1.toNat) (root less p.2.toNat)) ab ab hroots.1 hroots.2
   refine jX h0 f _ _ _ w1 (by rw [List.length_set];exact hn) (hn ▸ w2) ab ⟨fun a b ha hb e=>k1 _ _ (hE.eqv a b ha hb e),fun c g hc hg e=> ?_⟩ (k1 _ _ hab)
   obtain ⟨e1,e2⟩:=hE.zM c g hc hg e
   have hcl:c < less.length:=by omega
   obtain ⟨e3,e4⟩:=k2 (root less c) g (cZ h.down hcl) hg e1
   rw [hrs c hcl]
   exact ⟨e3,e4.trans (k1 _ _ e2)⟩
theorem ug {ng:Nat} {im:List (List Int)} {less:List Int} {p:Int×Int} (h:WF ng im less) (hq:mD less.length [p]):
  Ext ng im less (ident ng im less [p]).1 (ident ng im less [p]).2∧root (ident ng im less [p]).2 p.1.toNat=root (ident ng im less [p]).2 p.2.toNat:=by
 obtain ⟨w,hl⟩:=iG h rfl hq
 have hh:∀a,a < less.length→iN less [p] a (root less a):=fun a ha=> .root a ha
 obtain ⟨hE,hab⟩:=jX (im0:=im) (less0:=less) rfl (fuel ng less [p]) im less [p] h rfl hq (Nat.le_refl _) ⟨fun a b ha hb e=>(hh a ha).trans (e ▸ (hh b hb).symm),fun c g _ _ e=>⟨e, .refl _⟩⟩ (iN.pair (less:=less) p (by simp))
 have hE:G3 ng im less (ident ng im less [p]).1 (ident ng im less [p]).2 []:=hE
 have hab:iN (ident ng im less [p]).2 [] p.1.toNat p.2.toNat:=hab
 exact ⟨⟨Nat.le_of_eq hl.symm,fun a b ha hb e=>(hE.eqv a b ha hb e).qg w.down,fun c g hc hg e=>⟨(hE.zM c g hc hg e).1,(hE.zM c g hc hg e).2.qg w.down⟩⟩,hab.qg w.down⟩
theorem zH {ng n0:Nat} :∀(w:List Nat) (s:List (List Int)×List Int×Bool×Nat),ux ng n0 s→fE ng s.1 s.2.1 []→(s.2.2.1=false→aD s.2.1 s.2.2.2=(s.2.2.2:Int))→(∀g∈w,g < ng)→
  Ext ng s.1 s.2.1 (gX ng s w).1 (gX ng s w).2.1∧((gX ng s w).2.2.1=false→pX (gX ng s w).1 (gX ng s w).2.1 s.2.2.2 w=some (gX ng s w).2.2.2)
 | [],s,h,hB,hl,_=>⟨Ext.refl _ _ _,fun hf=>by simp only [gX,pX];rw [de (hl hf)]⟩
 | g :: r,s,h,hB,hl,hg=>by
  unfold gX
  split
  ·rename_i hf
   exact ⟨Ext.refl _ _ _,fun h0=>by rw [hf] at h0;cases h0⟩
  ·rename_i hf
   have hld:=hl (by simpa using hf)
   obtain ⟨b1,b2,b3⟩:=hB.next h.wf h.d hld (hg g (by simp)) h.hi
   obtain ⟨h1,h2,h3,h4,_⟩:=gQ h.wf h.d (hg g (by simp)) h.hi
   obtain ⟨x1,y1⟩:=tr h.wf h.d (hg g (by simp)) hld
   obtain ⟨x2,y2⟩:=zH (n0:=n0) r (bZ ng s.1 s.2.1 s.2.2.2 g) ⟨h1,Nat.le_trans h.lo h2,h3,h4⟩ b1 b2 fun x hx=>hg x (by simp [hx])
   refine ⟨x1.trans x2 h.wf h1,fun hff=> ?_⟩
   have ht:(bZ ng s.1 s.2.1 s.2.2.2 g).2.2.1=false:=by
    cases e:(bZ ng s.1 s.2.1 s.2.2.2 g).2.2.1 with
    | false=>rfl
    | true=>rw [gZ e] at hff;rw [e] at hff;cases hff
   obtain ⟨z1,z2,z3⟩:=y1 ht
   have hd:=h.d
   have hdt:s.2.2.2 < (bZ ng s.1 s.2.1 s.2.2.2 g).2.1.length:=by omega
   have he:=h1.bT s.2.2.2 g (by rw [h1.len];exact hdt) (hg g (by simp))
   obtain ⟨i1,i2⟩:=x2.zM s.2.2.2 g hdt (hg g (by simp)) (by rw [z3];exact z1)
   rw [z3] at i2
   have i3:=x2.eqv (bT (bZ ng s.1 s.2.1 s.2.2.2 g).1 s.2.2.2 g).toNat (bZ ng s.1 s.2.1 s.2.2.2 g).2.2.2 ab h4 (by rw [z2,de (b2 ht)])
   simp only [pX]
   rw [if_pos i1,n4 (i2.trans i3)]
   exact y2 hff
def Fj (im:List (List Int)) (less:List Int) (c:Nat) (w:List Nat):Prop:=pX im less c w=some (root less c)
theorem Ext.cl {ng:Nat} {im im':List (List Int)} {less less':List Int} (h:Ext ng im less im' less') (hw:WF ng im less) {c:Nat} {w:List Nat} (hc:c < less.length) (hg:∀g∈w,g < ng) (hcl:Fj im less c w):Fj im' less' c w:=by
 unfold Fj
 rw [h.path hw w c _ hc hg hcl,h.eqv (root less c) c (cZ hw.down hc) hc (ij hw.down hc)]
theorem rE {ng:Nat} {im:List (List Int)} {less:List Int} {c:Nat} {w:List Nat} (h:WF ng im less) (hB:fE ng im less []) (hc:c < less.length) (hl:aD less c=(c:Int)) (hn:less.length≤2000) (hg:∀g∈w,g < ng):
  Ext ng im less (cV ng im less c w).1 (cV ng im less c w).2.1∧((cV ng im less c w).2.2=false→Fj (cV ng im less c w).1 (cV ng im less c w).2.1 c w):=by
 unfold cV
 cases hlast:w.getLast? with
 | none=>
  have:w= []:=List.getLast?_eq_none_iff.1 hlast
  subst this
  exact ⟨Ext.refl _ _ _,fun _=>rfl⟩
 | some g=>
  have hgl:g < ng:=hg g (List.mem_of_getLast? hlast)
  have hgd:∀x∈w.dropLast,x < ng:=fun x hx=>hg x (List.dropLast_subset _ hx)
  have ok:=mO (n0:=less.length) w.dropLast (im,less,false,c) ⟨h,Nat.le_refl _,hn,hc⟩ hgd
  obtain ⟨b1,b2,b3⟩:=rz (n0:=less.length) w.dropLast (im,less,false,c) ⟨h,Nat.le_refl _,hn,hc⟩ hB (fun _=>hl) hgd
  obtain ⟨x1,y1⟩:=zH (n0:=less.length) w.dropLast (im,less,false,c) ⟨h,Nat.le_refl _,hn,hc⟩ hB (fun _=>hl) hgd
  have hww:w=w.dropLast ++ [g]:=by
   obtain ⟨ys,rfl⟩:=List.getLast?_eq_some_iff.1 hlast
   simp
  generalize hwd:w.dropLast=u at *
  generalize gX ng (im,less,false,c) u=s at *
  have hcs:c < s.2.1.length:=Nat.lt_of_lt_of_le hc ok.lo
  have hlc:aD s.2.1 c=(c:Int):=(b3 c hc).trans hl
  have x1:Ext ng im less s.1 s.2.1:=x1
  dsimp only
  split
  ·exact ⟨x1,fun h=>nomatch h⟩
  ·rename_i hf
   have y1:pX s.1 s.2.1 c u=some s.2.2.2:=y1 (by simpa using hf)
   have hld:aD s.2.1 s.2.2.2=(s.2.2.2:Int):=b2 (by simpa using hf)
   have e1:=eG ok.wf ok.d hgl
   have e2:=eG ok.wf hcs hgl
   have hd:=ok.d
   split
   ·rename_i he
    have qok:mD s.2.1.length [(image s.1 s.2.1 s.2.2.2 g,(c:Int))]:=fun p hp=>by simp at hp;subst hp;exact ⟨⟨he,e1⟩,ab,by dsimp only;omega⟩
    obtain ⟨x2,r2⟩:=ug ok.wf qok
    refine ⟨x1.trans x2 h ok.wf,fun _=> ?_⟩
    have hee:0≤bT s.1 s.2.2.2 g:=by unfold image at he;split at he<;>omega
    have hei:(image s.1 s.2.1 s.2.2.2 g).toNat=root s.2.1 (bT s.1 s.2.2.2 g).toNat:=by unfold image;rw [if_neg ab];simp
    have p1:=ny u c s.2.2.2 g y1 hee
    rw [←hww] at p1
    have p2:=x2.path ok.wf w c _ hcs hg p1
    unfold Fj
    rw [p2,←hei]
    exact congrArg some r2
   ·rename_i he
    split
    ·rename_i hf2
     have qok:mD s.2.1.length [(image s.1 s.2.1 c g,(s.2.2.2:Int))]:=fun p hp=>by simp at hp;subst hp;exact ⟨⟨hf2,e2⟩,ab,by dsimp only;omega⟩
     obtain ⟨x2,r2⟩:=ug ok.wf qok
     obtain ⟨w2,l2⟩:=iG ok.wf rfl qok
     have b4:=mM ok.wf qok b1
     refine ⟨x1.trans x2 h ok.wf,fun _=> ?_⟩
     have hee:0≤bT s.1 c g:=by unfold image at hf2;split at hf2<;>omega
     have hei:(image s.1 s.2.1 c g).toNat=root s.2.1 (bT s.1 c g).toNat:=by unfold image;rw [if_neg ab];simp
     have p2:=x2.path ok.wf u c _ hcs (fun x hx=>hgd x hx) y1
     obtain ⟨i1,i2⟩:=x2.zM c g hcs hgl (by rw [de hlc];exact hee)
     rw [de hlc] at i2
     have hent:=ok.wf.bT c g (by rw [ok.wf.len];exact hcs) hgl
     have i3:=x2.eqv (bT s.1 c g).toNat (root s.2.1 (bT s.1 c g).toNat) ab (cZ ok.wf.down ab) (ij ok.wf.down ab).symm
     dsimp only at r2
     rw [hei,Int.toNat_natCast] at r2
     generalize hS:ident ng s.1 s.2.1 [(image s.1 s.2.1 c g,(s.2.2.2:Int))]=S at *
     have hcl:c < S.2.length:=by omega
     obtain ⟨j1,j2⟩:=b4.fix w2 (cZ w2.down hcl) (eE w2.down c hcl).1 hgl i1
     have e5:root S.2 (bT S.1 (root S.2 c) g).toNat=root S.2 s.2.2.2:=i2.trans (i3.trans r2)
     rw [e5] at j1 j2
     have p3:=ny u c (root S.2 s.2.2.2) g p2 j1
     rw [←hww,j2] at p3
     exact p3
    ·rename_i hf2
     have n1:bT s.1 c g < 0:=by unfold image at hf2;split at hf2<;>omega
     have n2:bT s.1 s.2.2.2 g < 0:=by unfold image at he;split at he<;>omega
     have w1:=ok.wf.gw (c:=s.2.2.2) (g:=g) (z:=(c:Int)) (by rw [ok.wf.len];omega) hgl ab
     have w2:=w1.gw (c:=c) (g:=g) (z:=(s.2.2.2:Int)) (by rw [dE,ok.wf.len];omega) hgl ab
     have ea:∀a k,bT (eo s.1 s.2.2.2 g (c:Int)) a k=if s.2.2.2=a∧g=k then (c:Int) else bT s.1 a k:=fun a k=>eI (by rw [ok.wf.len];omega) (by rw [ok.wf.row _ (by rw [ok.wf.len];omega)];exact hgl)
     have ee:∀a k,bT (eo (eo s.1 s.2.2.2 g (c:Int)) c g (s.2.2.2:Int)) a k=if c=a∧g=k then (s.2.2.2:Int) else if s.2.2.2=a∧g=k then (c:Int) else bT s.1 a k:=fun a k=>by
      rw [eI (by rw [dE,ok.wf.len];omega) (by rw [iA,ok.wf.row c (by rw [ok.wf.len];omega)];exact hgl),ea]
     have x2:Ext ng s.1 s.2.1 (eo (eo s.1 s.2.2.2 g (c:Int)) c g (s.2.2.2:Int)) s.2.1:=⟨Nat.le_refl _,fun _ _ _ _ h=>h,fun a k _ _ hp=>by
      have e:=ee (root s.2.1 a) k
      rw [if_neg (by rintro ⟨e1,e2⟩;rw [←e1,←e2] at hp;omega),if_neg (by rintro ⟨e1,e2⟩;rw [←e1,←e2] at hp;omega)] at e
      rw [e];exact ⟨hp,rfl⟩⟩
     refine ⟨x1.trans x2 h ok.wf,fun _=> ?_⟩
     have p2:=x2.path ok.wf u c _ hcs (fun x hx=>hgd x hx) y1
     rw [de hld] at p2
     have e6:=ee s.2.2.2 g
     have e7:bT (eo (eo s.1 s.2.2.2 g (c:Int)) c g (s.2.2.2:Int)) s.2.2.2 g=(c:Int):=by
      rw [e6]
      by_cases e:c=s.2.2.2
      ·rw [if_pos ⟨e,rfl⟩,←e]
      ·rw [if_neg (fun h=>e h.1),if_pos ⟨rfl,rfl⟩]
     have p3:=ny u c s.2.2.2 g p2 (by rw [e7];omega)
     rw [←hww,e7,Int.toNat_natCast] at p3
     exact p3
end Go.Proofs.Ytfpcfckocmmcnaa
namespace Go.Proofs.Ytfpcfckocmmcnaa
abbrev th (ng:Nat) (s s':dR):Prop:=Ext ng s.1 s.2.1 s'.1 s'.2.1
abbrev Cl (s:dR) (c:Nat) (w:List Int):Prop:=Fj s.1 s.2.1 c (w.map Int.toNat)
theorem Ext.cls {ng:Nat} {s s':dR} (h:th ng s s') (hw:WF ng s.1 s.2.1) {c:Nat} {w:List Int} (hc:c < s.2.1.length) (hl:bA ng w) (hcl:Cl s c w):Cl s' c w:=h.cl hw hc hl.nat hcl
theorem zu {ng n:Nat} {s:dR} {w:List Int} (h:BK ng n s) (hn:0 < n) (hw:bA ng w):th ng s (dF ng s w)∧((dF ng s w).2.2=false→Cl (dF ng s w) 0 w):=by
 have h0:0 < s.2.1.length:=Nat.lt_of_lt_of_le hn h.1.lo
 unfold dF
 split
 ·rename_i hf
  exact ⟨Ext.refl _ _ _,fun h=>by rw [hf] at h;cases h⟩
 ·exact rE h.1.wf h.2 h0 (by have:=h.1.wf.down 0 h0;omega) h.1.hi hw.nat
theorem yr {ng n c:Nat} {s:dR} {w:List Int} (h:BK ng n s) (hn:c < n) (hw:bA ng w):th ng s (cT ng c s w)∧(eQ s c=true→(cT ng c s w).2.2=false→Cl (cT ng c s w) c w):=by
 have hc:=Nat.lt_of_lt_of_le hn h.1.lo
 unfold cT
 split
 ·rename_i hl
  have hl':aD s.2.1 c=(c:Int)∧s.2.2=false:=by unfold eQ at hl;simpa using hl
  have:=rE h.1.wf h.2 hc hl'.1 h.1.hi hw.nat
  exact ⟨this.1,fun _=>this.2⟩
 ·rename_i hl
  exact ⟨Ext.refl _ _ _,fun h=>absurd h hl⟩
theorem BC {ng n c g:Nat} {s:dR} (h:BK ng n s) (hn:c < n) (hg:g < ng):th ng s (dk ng c s g):=by
 have hc:=Nat.lt_of_lt_of_le hn h.1.lo
 unfold dk
 split
 ·rename_i hl
  have hl':aD s.2.1 c=(c:Int)∧s.2.2=false:=by unfold eQ at hl;simpa using hl
  exact (tr h.1.wf hc hg hl'.1).1
 ·exact Ext.refl _ _ _
theorem sI {ng c:Nat} {s:dR} (h:s.2.2=true) (w:List Int):cT ng c s w=s:=iH (by unfold eQ;simp [h]) w
theorem uX {ng c:Nat} {s:dR} (h:s.2.2=true) (g:Nat):dk ng c s g=s:=jk (by unfold eQ;simp [h]) g
theorem uc {α:Type} {f:dR→α→dR} (hf:∀s x,s.2.2=true→f s x=s):∀(l:List α) (s:dR),s.2.2=true→l.foldl f s=s
 | [],_,_=>rfl
 | x :: r,s,h=>by rw [List.foldl_cons,hf s x h];exact uc hf r s h
theorem oI {α:Type} {f:dR→α→dR} (hf:∀s x,s.2.2=true→f s x=s) {l:List α} {s:dR} (h:(l.foldl f s).2.2=false):s.2.2=false:=by
 cases e:s.2.2 with
 | false=>rfl
 | true=>rw [uc hf l s e,e] at h;cases h
theorem Al {ng n c:Nat} {R:List (List Int)} (hR:∀w∈R,bA ng w) (hn:c < n):∀(l:List (List Int)) (s:dR),(∀w∈l,w∈R)→BK ng n s→(∀i,i < c→∀w∈R,Cl s i w)→
  BK ng n (l.foldl (cT ng c) s)∧th ng s (l.foldl (cT ng c) s)∧((l.foldl (cT ng c) s).2.2=false→∀w∈l,Cl (l.foldl (cT ng c) s) c w)
 | [],s,_,h,_=>⟨h,Ext.refl _ _ _,fun _ w hw=>by simp at hw⟩
 | x :: r,s,hl,h,hc=>by
  have hx:=hR x (hl x (by simp))
  have b1:=pF (c:=c) h hn hx
  obtain ⟨x1,c1⟩:=yr (c:=c) h hn hx
  have hlen:=h.1.lo
  have hc1:∀i,i < c→∀w∈R,Cl (cT ng c s x) i w:=fun i hi w hw=>x1.cls h.1.wf ab (hR w hw) (hc i hi w hw)
  obtain ⟨b2,x2,c2⟩:=Al hR hn r (cT ng c s x) (fun w hw=>hl w (by simp [hw])) b1 hc1
  rw [List.foldl_cons]
  refine ⟨b2,x1.trans x2 h.1.wf b1.1.wf,fun hf w hw=> ?_⟩
  rcases List.mem_cons.1 hw with rfl | hw
  ·refine x2.cls b1.1.wf (Nat.lt_of_lt_of_le hn b1.1.lo) hx ?_
   have hf1:=oI (f:=cT ng c) (fun s x h=>sI h x) hf
   cases e:eQ s c with
   | true=>exact c1 e hf1
   | false=>
    rw [iH e] at hf1 ⊢
    have hne:aD s.2.1 c≠(c:Int):=by unfold eQ at e;rw [hf1] at e;simpa using e
    have hcs:c < s.2.1.length:=by omega
    have hd:=h.1.wf.down
    have hfix:=eE hd c hcs
    have hlt:root s.2.1 c < c:=by
     rcases Nat.lt_or_ge (root s.2.1 c) c with h1 | h1
     ·exact h1
     ·exfalso
      have h2:root s.2.1 c=c:=by omega
      rw [h2] at hfix;exact hne hfix.1
    have:=hc (root s.2.1 c) hlt w (hl w (by simp))
    show pX s.1 s.2.1 c (w.map Int.toNat)=some (root s.2.1 c)
    rw [←n4 (ij hd hcs)]
    have h3:pX s.1 s.2.1 (root s.2.1 c) (w.map Int.toNat)=some (root s.2.1 (root s.2.1 c)):=this
    rw [h3,ij hd hcs]
  ·exact c2 hf w hw
theorem wx {ng n c:Nat} (hn:c < n):∀(l:List Nat) (s:dR),(∀g∈l,g < ng)→BK ng n s→BK ng n (l.foldl (dk ng c) s)∧th ng s (l.foldl (dk ng c) s)
 | [],s,_,h=>⟨h,Ext.refl _ _ _⟩
 | g :: r,s,hg,h=>by
  have b1:=qH (c:=c) h hn (hg g (by simp))
  have x1:=BC (c:=c) h hn (hg g (by simp))
  obtain ⟨b2,x2⟩:=wx hn r (dk ng c s g) (fun x hx=>hg x (by simp [hx])) b1
  rw [List.foldl_cons]
  exact ⟨b2,x1.trans x2 h.1.wf b1.1.wf⟩
theorem Ce {ng n c:Nat} {R:List (List Int)} {s:dR} (hR:∀w∈R,bA ng w) (hn:c < n) (h:BK ng n s) (hc:∀i,i < c→∀w∈R,Cl s i w):
  BK ng n (eh ng R c s)∧th ng s (eh ng R c s)∧((eh ng R c s).2.2=false→∀i,i < c + 1→∀w∈R,Cl (eh ng R c s) i w):=by
 obtain ⟨b1,x1,c1⟩:=Al hR hn R s (fun _ h=>h) h hc
 obtain ⟨b2,x2⟩:=wx hn (List.range ng) (R.foldl (cT ng c) s) (fun g hg=>List.mem_range.1 hg) b1
 have hlen:=h.1.lo
 have x:th ng s (eh ng R c s):=x1.trans x2 h.1.wf b1.1.wf
 refine ⟨b2,x,fun hf i hi w hw=> ?_⟩
 by_cases e:i=c
 ·subst e
  exact x2.cls b1.1.wf (Nat.lt_of_lt_of_le hn b1.1.lo) (hR w hw) (c1 (oI (f:=dk ng i) (fun s x h=>uX h x) hf) w hw)
 ·exact x.cls h.1.wf ab (hR w hw) (hc i ab w hw)
theorem BK.full {ng n:Nat} {s:dR} (h:BK ng n s):BK ng s.2.1.length s:=⟨⟨h.1.wf,Nat.le_refl _,h.1.hi⟩,h.2⟩
theorem x7 {ng:Nat} {R:List (List Int)} (hR:∀w∈R,bA ng w):∀(f c:Nat) (s:dR),BK ng 1 s→2001≤f + c→c≤s.2.1.length→(∀i,i < c→∀w∈R,Cl s i w)→
  BK ng 1 (outer ng R f c s)∧th ng s (outer ng R f c s)∧((outer ng R f c s).2.2=false→∀i,i < (outer ng R f c s).2.1.length→∀w∈R,Cl (outer ng R f c s) i w)
 | 0,c,s,h,hf,hc,hcl=>by have:=h.1.hi;omega
 | f + 1,c,s,h,hf,hc,hcl=>by
  unfold outer
  by_cases hcond:c < s.2.1.length∧s.2.2=false
  ·rw [if_pos hcond]
   obtain ⟨b1,x1,c1⟩:=Ce hR hcond.1 h.full hcl
   have hle:=h.1.lo
   have b1':BK ng 1 (eh ng R c s):=⟨b1.1.le hle,b1.2⟩
   cases e:(eh ng R c s).2.2 with
   | true=>
    rw [gP e]
    exact ⟨b1',x1,fun h=>by rw [e] at h;cases h⟩
   | false=>
    obtain ⟨b2,x2,c2⟩:=x7 hR f (c + 1) (eh ng R c s) b1' ab (by have:=x1.len;omega) (c1 e)
    exact ⟨b2,x1.trans x2 h.1.wf b1.1.wf,c2⟩
  ·rw [if_neg hcond]
   refine ⟨h,Ext.refl _ _ _,fun hnf i hi=>hcl i ?_⟩
   by_cases e:c < s.2.1.length
   ·exact absurd ⟨e,hnf⟩ hcond
   ·omega
theorem yc {ng:Nat} {W:List (List Int)} (hW:∀w∈W,bA ng w):∀(l:List (List Int)) (s:dR),(∀w∈l,w∈W)→BK ng 1 s→
  BK ng 1 (l.foldl (dF ng) s)∧th ng s (l.foldl (dF ng) s)∧((l.foldl (dF ng) s).2.2=false→∀w∈l,Cl (l.foldl (dF ng) s) 0 w)
 | [],s,_,h=>⟨h,Ext.refl _ _ _,fun _ w hw=>by simp at hw⟩
 | x :: r,s,hl,h=>by
  have hx:=hW x (hl x (by simp))
  have b1:=pr h ab hx
  obtain ⟨x1,c1⟩:=zu h ab hx
  obtain ⟨b2,x2,c2⟩:=yc hW r (dF ng s x) (fun w hw=>hl w (by simp [hw])) b1
  rw [List.foldl_cons]
  refine ⟨b2,x1.trans x2 h.1.wf b1.1.wf,fun hf w hw=> ?_⟩
  rcases List.mem_cons.1 hw with rfl | hw
  ·exact x2.cls b1.1.wf (by have:=b1.1.lo;omega) hx (c1 (oI (f:=dF ng) (fun s x h=>il h x) hf))
  ·exact c2 hf w hw
theorem vM {ng:Nat} {R W:List (List Int)} (hR:∀w∈R,bA ng w) (hW:∀w∈W,bA ng w) (hnf:(dq ng R W).2.2=false):
  (∀i,i < (dq ng R W).2.1.length→∀w∈R,Cl (dq ng R W) i w)∧∀w∈W,Cl (dq ng R W) 0 w:=by
 obtain ⟨b1,x1,c1⟩:=yc hW W (dH ng) (fun _ h=>h) (pL ng)
 obtain ⟨b2,x2,c2⟩:=x7 hR 2001 0 (W.foldl (dF ng) (dH ng)) b1 ab ab (fun i hi=>by omega)
 refine ⟨c2 hnf,fun w hw=>x2.cls b1.1.wf (by have:=b1.1.lo;omega) (hW w hw) (c1 ?_ w hw)⟩
 cases e:(W.foldl (dF ng) (dH ng)).2.2 with
 | false=>rfl
 | true=>
  have:(dq ng R W)=W.foldl (dF ng) (dH ng):=gP e _ _
  rw [this,e] at hnf;cases hnf
end Go.Proofs.Ytfpcfckocmmcnaa
namespace Go.Proofs.Ytfpcfckocmmcnaa
def iB (ng:Nat) (im:List (List Int)) (less:List Int) (k:Nat):Nat:=(aD (cq ng im less).1 k).toNat
def lz (ng:Nat) (im:List (List Int)) (less:List Int):Nat:=(cq ng im less).1.length
section
variable {ng:Nat} {im:List (List Int)} {less:List Int}
theorem ic {k g:Nat} (hk:k < lz ng im less) (hg:g < ng):aD (aT (dv ng im less) g) k=m0 ng im less k g:=by
 unfold lz at hk
 simp [dv,aT,aD,m0,hg,hk]
theorem gG (hF:Full ng im less) {k:Nat} (hk:k < lz ng im less):iB ng im less k < less.length∧aD less (iB ng im less k)=(iB ng im less k:Nat)∧aD (cq ng im less).2 (iB ng im less k)=(k:Int)∧aD (cq ng im less).1 k=(iB ng im less k:Nat):=by
 obtain ⟨h,_⟩:=jL hF
 obtain ⟨d,h1,h2,h3,h4⟩:=h.live k hk
 unfold iB
 rw [h1,Int.toNat_natCast]
 exact ⟨h2,h3,h4,rfl⟩
theorem CM (hF:Full ng im less) {j k:Nat} (hj:j < lz ng im less) (hk:k < lz ng im less) (e:iB ng im less j=iB ng im less k):j=k:=by
 have h1:=(gG hF hj).2.2.1
 have h2:=(gG hF hk).2.2.1
 rw [e] at h1;omega
theorem ja (hF:Full ng im less) {k g:Nat} (hk:k < lz ng im less) (hg:g < ng):
  0≤m0 ng im less k g∧m0 ng im less k g < lz ng im less∧0≤bT im (iB ng im less k) g∧root less (bT im (iB ng im less k) g).toNat=iB ng im less (m0 ng im less k g).toNat:=by
 obtain ⟨k1,k2,k3,k4⟩:=gG hF hk
 obtain ⟨e,e1,e2,e3⟩:=hF.image k1 k2 hg
 have h0:=hF.full _ k1 k2 g hg
 have hent:=uM hF hk hg
 rw [k4,Int.toNat_natCast] at hent
 have ht:m0 ng im less k g=aD (cq ng im less).2 (image im less (iB ng im less k) g).toNat:=by unfold m0;rw [k4,Int.toNat_natCast]
 rw [←ht] at hent
 refine ⟨hent.1,hent.2,h0, ?_⟩
 have hi:image im less (iB ng im less k) g=(root less (bT im (iB ng im less k) g).toNat:Nat):=by unfold image;rw [if_neg ab]
 have hn:=lS hF e e2
 rw [e1] at ht hi
 rw [Int.toNat_natCast] at ht
 have:=hn (by rw [←ht];exact hent.1)
 have h5:iB ng im less (m0 ng im less k g).toNat=e:=by unfold iB;rw [ht,this,Int.toNat_natCast]
 rw [h5];omega
theorem tY (hF:Full ng im less):∀(w:List Int) (k:Nat),bA ng w→k < lz ng im less→∃j:Nat,dZ (dv ng im less) k w=(j:Int)∧j < lz ng im less∧pX im less (iB ng im less k) (w.map Int.toNat)=some (iB ng im less j)
 | [],k,_,hk=>⟨k,rfl,hk,by simp only [List.map_nil,pX];rw [de (gG hF hk).2.1]⟩
 | z :: r,k,hw,hk=>by
  have hz:=hw z (by simp)
  obtain ⟨k1,k2,_,_⟩:=gG hF hk
  obtain ⟨t1,t2,t3,t4⟩:=ja hF hk (g:=z.toNat) ab
  obtain ⟨j,j1,j2,j3⟩:=tY hF r (m0 ng im less k z.toNat).toNat (fun x hx=>hw x (by simp [hx])) ab
  refine ⟨j, ?_,j2, ?_⟩
  ·show dZ (dv ng im less) (aD (aT (dv ng im less) z.toNat) (k:Int).toNat) r=j
   rw [Int.toNat_natCast,ic hk ab,←j1,Int.toNat_of_nonneg t1]
  ·simp only [List.map_cons,pX]
   rw [de k2,if_pos t3]
   have hent:=hF.wf.bT (iB ng im less k) z.toNat (by rw [hF.wf.len];exact k1) ab
   rw [←n4 (ij hF.wf.down ab),t4]
   exact j3
theorem xq (hF:Full ng im less) {w:List Int} {k:Nat} (hw:bA ng w) (hk:k < lz ng im less) (hc:Fj im less (iB ng im less k) (w.map Int.toNat)):dZ (dv ng im less) k w=(k:Int):=by
 obtain ⟨j,j1,j2,j3⟩:=tY hF w k hw hk
 unfold Fj at hc
 rw [de (gG hF hk).2.1,j3] at hc
 rw [j1,CM hF j2 hk (Option.some.inj hc)]
theorem ou:∀(f i:Nat) (s:jR),0 < s.1.length→aD s.1 0=0→0 < (dw ng im less f i s).1.length∧aD (dw ng im less f i s).1 0=0
 | 0,_,s,h,h0=>⟨h,h0⟩
 | f + 1,i,s,h,h0=>by
  unfold dw
  split
  ·have key:∀(l:List Nat) (s:jR),0 < s.1.length→aD s.1 0=0→0 < (l.foldl (dz im less i) s).1.length∧aD (l.foldl (dz im less i) s).1 0=0:=by
    intro l
    induction l with
    | nil=>intro s h h0;exact ⟨h,h0⟩
    | cons x r ih=>
     intro s h h0
     rw [List.foldl_cons]
     refine ih _ ?_ ?_
     ·unfold dz visit;split
      ·simp
      ·exact h
     ·unfold dz visit;split
      ·dsimp only;rw [cI h];exact h0
      ·exact h0
   obtain ⟨h1,h2⟩:=key (List.range ng) s h h0
   exact ou f (i + 1) _ h1 h2
  ·exact ⟨h,h0⟩
theorem ui:0 < lz ng im less∧iB ng im less 0=0:=by
 obtain ⟨h1,h2⟩:=ou (ng:=ng) (im:=im) (less:=less) (less.length + 1) 0 (ez less.length) (by simp [ez]) (by simp [ez,aD])
 exact ⟨h1,by unfold iB;show (aD (cq ng im less).1 0).toNat=0;unfold cq;rw [h2];rfl⟩
theorem Cr {X:Type} {f:Nat→X→X} {h:Nat→X} (hF:Full ng im less) (H:sT ng f im less h) {k g:Nat} (hk:k < lz ng im less) (hg:g < ng):
  h (iB ng im less (m0 ng im less k g).toNat)=f g (h (iB ng im less k)):=by
 obtain ⟨t1,t2,t3,t4⟩:=ja hF hk hg
 obtain ⟨k1,k2,_,_⟩:=gG hF hk
 have hent:=hF.wf.bT (iB ng im less k) g (by rw [hF.wf.len];exact k1) hg
 rw [←t4,H.root hF.wf.down _ ab,H.entv _ g k1 hg t3]
end
section
variable {ng:Nat} {R W:List (List Int)}
abbrev oG (ng:Nat) (R W:List (List Int)):List (List Int):=dv ng (dq ng R W).1 (dq ng R W).2.1
abbrev oF (ng:Nat) (R W:List (List Int)):Nat:=lz ng (dq ng R W).1 (dq ng R W).2.1
theorem vT (hR:∀w∈R,bA ng w) (hW:∀w∈W,bA ng w) (hnf:(dq ng R W).2.2=false) {w:List Int} (hw:w∈R) {k:Nat} (hk:k < oF ng R W):dZ (oG ng R W) k w=(k:Int):=by
 have hF:=lF hR hW hnf
 exact xq hF (hR w hw) hk ((vM hR hW hnf).1 _ (gG hF hk).1 w hw)
theorem uD {X:Type} {f:Nat→X→X} {x0:X} (hinv:∀g x,g < ng→f g (f g x)=x) (hR:∀w∈R,bA ng w∧∀x,cU f x (w.map Int.toNat)=x) (hW:∀w∈W,bA ng w∧cU f x0 (w.map Int.toNat)=x0) (hnf:(dq ng R W).2.2=false):
  ∃φ:Nat→X,φ 0=x0∧∀(w:List Int) (k:Nat),bA ng w→k < oF ng R W→φ (dZ (oG ng R W) k w).toNat=cU f (φ k) (w.map Int.toNat):=by
 have hF:=lF (fun w hw=>(hR w hw).1) (fun w hw=>(hW w hw).1) hnf
 obtain ⟨_,h,H,h0⟩:=Dd hinv hR hW
 refine ⟨fun k=>h (iB ng (dq ng R W).1 (dq ng R W).2.1 k),by dsimp only;rw [ui.2];exact h0,fun w=> ?_⟩
 induction w with
 | nil=>intro k _ _;simp [dZ,cU]
 | cons z r ih=>
  intro k hw hk
  have hz:=hw z (by simp)
  obtain ⟨t1,t2,_,_⟩:=ja hF hk (g:=z.toNat) ab
  have e:dZ (oG ng R W) k (z :: r)=dZ (oG ng R W) ((m0 ng (dq ng R W).1 (dq ng R W).2.1 k z.toNat).toNat:Nat) r:=by
   show dZ (oG ng R W) (aD (aT (oG ng R W) z.toNat) (k:Int).toNat) r=_
   rw [Int.toNat_natCast,ic hk ab,Int.toNat_of_nonneg t1]
  rw [e,ih _ (fun x hx=>hw x (by simp [hx])) (by unfold oF;omega)]
  dsimp only
  rw [Cr hF H hk ab]
  simp [cU]
end
end Go.Proofs.Ytfpcfckocmmcnaa
namespace Go.Proofs.Ytfpcfckocmmcnaa
def A9 (ng:Nat) (im:List (List Int)) (less:List Int) (s:jR):Prop:=∀k,1≤k→k < s.1.length→∃i g,i < k∧g < ng∧image im less (aD s.1 i).toNat g=aD s.1 k
theorem yd {ng:Nat} {im:List (List Int)} {less:List Int} (hF:Full ng im less) {i:Nat} {s:jR} (h:p7 less.length less s) (hb:A9 ng im less s) (hi:i < s.1.length):∀m,m≤ng→A9 ng im less ((List.range m).foldl (dz im less i) s)
 | 0,_=>hb
 | m + 1,hm=>by
  have ih:=yd hF h hb hi m ab
  obtain ⟨h1,h2,_⟩:=fI hF h hi m ab
  rw [List.range_succ,List.foldl_append]
  generalize (List.range m).foldl (dz im less i) s=t at *
  have hit:i < t.1.length:=Nat.lt_of_lt_of_le hi h2.len
  obtain ⟨d,k1,k2,k3,_⟩:=h1.live i hit
  obtain ⟨e,e1,e2,_⟩:=hF.image k2 k3 (g:=m) ab
  show A9 ng im less (dz im less i t m)
  unfold dz
  rw [k1,Int.toNat_natCast,e1,Int.toNat_natCast]
  unfold visit
  split
  ·intro k hk1 hk2
   dsimp only at hk2 ⊢
   by_cases ek:k < t.1.length
   ·obtain ⟨j,g,j1,j2,j3⟩:=ih k hk1 ek
    exact ⟨j,g,j1,j2,by rw [cI ab,cI ek];exact j3⟩
   ·obtain rfl:k=t.1.length:=by simp at hk2;omega
    exact ⟨i,m,hit,ab,by rw [cI hit,dS,k1,Int.toNat_natCast,e1]⟩
  ·exact ih
theorem tM {ng:Nat} {im:List (List Int)} {less:List Int} (hF:Full ng im less):∀(f i:Nat) (s:jR),p7 less.length less s→A9 ng im less s→A9 ng im less (dw ng im less f i s)
 | 0,i,s,_,hb=>hb
 | f + 1,i,s,h,hb=>by
  unfold dw
  split
  ·rename_i hlt
   exact tM hF f (i + 1) _ (fI hF h hlt ng (Nat.le_refl _)).1 (yd hF h hb hlt ng (Nat.le_refl _))
  ·exact hb
def CR (T:List (List Int)) (m:Nat):Prop:=∀g,g < T.length→∀x,x < m→aD (aT T g) (aD (aT T g) x).toNat=(x:Int)
end Go.Proofs.Ytfpcfckocmmcnaa
namespace Go.Proofs.Ytfpcfckocmmcnaa
def fk (T:List (List Int)) (m:Nat) (g x:Nat):Nat:=if x < m then (aD (aT T g) x).toNat else x
section
variable {T:List (List Int)} {m:Nat}
theorem qF (hT:dh T m) (hI:CR T m) (g x:Nat) (hg:g < T.length):fk T m g (fk T m g x)=x:=by
 unfold fk
 by_cases h:x < m
 ·rw [if_pos h]
  have h1:=hT.within g hg x h
  have h2:=hI g hg x h
  rw [if_pos ab,h2];rfl
 ·rw [if_neg h,if_neg h]
theorem rR:∀(w:List Nat) (x:Nat),¬x < m→cU (fk T m) x w=x
 | [],_,_=>rfl
 | g :: r,x,h=>by
  have e:fk T m g x=x:=if_neg h
  show cU (fk T m) (fk T m g x) r=x
  rw [e];exact rR r x h
theorem kD (hT:dh T m):∀(w:List Int) (x:Nat),bA T.length w→x < m→((cU (fk T m) x (w.map Int.toNat):Nat):Int)=dZ T x w
 | [],_,_,_=>rfl
 | z :: r,x,hw,h=>by
  have hz:=hw z (by simp)
  have h1:=hT.within z.toNat ab x h
  have e:fk T m z.toNat x=(aD (aT T z.toNat) x).toNat:=if_pos h
  have ih:=kD hT r (aD (aT T z.toNat) x).toNat (fun y hy=>hw y (by simp [hy])) ab
  show ((cU (fk T m) (fk T m z.toNat x) (r.map Int.toNat):Nat):Int)=dZ T (aD (aT T z.toNat) (x:Int).toNat) r
  rw [e,ih,Int.toNat_of_nonneg h1.1,Int.toNat_natCast]
theorem v9 (hT:dh T m) {w:List Int} {x:Nat} (hw:bA T.length w) (hx:x < m):∃y:Nat,dZ T x w=(y:Int)∧y < m:=by
 have:=hT.lead (c:=(x:Int)) ⟨ab,ab⟩ hw
 exact ⟨(dZ T x w).toNat,ab,ab⟩
end
section
variable {ng:Nat} {im:List (List Int)} {less:List Int}
theorem AB (hF:Full ng im less):dh (dv ng im less) (lz ng im less):=by
 refine ⟨fun k hk=> ?_,fun k hk x hx=> ?_⟩
 ·simp [dv] at hk
  simp [dv,aT,hk,lz]
 ·simp [dv] at hk
  rw [ic hx hk]
  exact ⟨(ja hF hx hk).1,(ja hF hx hk).2.1⟩
theorem Ab:(dv ng im less).length=ng:=by simp [dv]
theorem Ci (hF:Full ng im less) (hB:fE ng im less []):CR (dv ng im less) (lz ng im less):=fun g hg x hx=>by
 rw [Ab] at hg
 obtain ⟨t1,t2,_⟩:=ja hF hx hg
 rw [ic hx hg,ic ab hg]
 exact AT hF hB hx hg
theorem tt (hF:Full ng im less):∀k,k < lz ng im less→∃u,bA ng u∧dZ (dv ng im less) (0:Nat) u=(k:Int):=by
 have hp:A9 ng im less (cq ng im less):=tM hF _ _ _ (ix hF) fun k h1 h2=>by simp [ez] at h2;omega
 intro k
 induction k using Nat.strongRecOn with
 | _ k ih=>
  intro hk
  rcases Nat.eq_zero_or_pos k with rfl | h0
  ·exact ⟨[],fun _ h=>(by simp at h),rfl⟩
  ·obtain ⟨i,g,i1,i2,i3⟩:=hp k h0 hk
   obtain ⟨u,u1,u2⟩:=ih i i1 ab
   obtain ⟨hT,_⟩:=jL hF
   obtain ⟨d,d1,_,_,d4⟩:=hT.live k hk
   refine ⟨u ++ [(g:Int)],fun z hz=> ?_, ?_⟩
   ·rcases List.mem_append.1 hz with hz | hz
    ·exact u1 z hz
    ·simp at hz;omega
   ·rw [yq,u2,Int.toNat_natCast,Int.toNat_natCast,ic ab i2]
    unfold m0
    rw [i3,d1,Int.toNat_natCast,d4]
end
section
variable {ng:Nat} {R W R' W':List (List Int)}
structure At (ng:Nat) (R W:List (List Int)):Prop where
 r:∀w∈R,bA ng w
 w:∀w∈W,bA ng w
 nf:(dq ng R W).2.2=false
theorem At.full (h:At ng R W):Full ng (dq ng R W).1 (dq ng R W).2.1:=lF h.r h.w h.nf
theorem At.leads (h:At ng R W):dh (oG ng R W) (oF ng R W):=AB h.full
theorem At.C4 (h:At ng R W):CR (oG ng R W) (oF ng R W):=Ci h.full (A4 h.r h.w).2
theorem nV:(oG ng R W).length=ng:=Ab
theorem At.map (h:At ng R W) (k:At ng R' W') {j:Nat} (hj:j < oF ng R' W') (hR:∀w∈R,∀x,x < oF ng R' W'→dZ (oG ng R' W') x w=(x:Int)) (hW:∀w∈W,dZ (oG ng R' W') j w=(j:Int)):
  ∃φ:Nat→Nat,φ 0=j∧(∀x,x < oF ng R W→φ x < oF ng R' W')∧∀(w:List Int) (x:Nat),bA ng w→x < oF ng R W→((φ (dZ (oG ng R W) x w).toNat:Nat):Int)=dZ (oG ng R' W') (φ x:Nat) w:=by
 have hT:=k.leads
 have hI:=k.C4
 have hlen:(oG ng R' W').length=ng:=nV
 obtain ⟨φ,h0,h1⟩:=uD (f:=fk (oG ng R' W') (oF ng R' W')) (x0:=j) (R:=R) (W:=W) (ng:=ng) (fun g x hg=>qF hT hI g x (by rw [hlen];exact hg))
  (fun w hw=>⟨h.r w hw,fun x=>by
   by_cases hx:x < oF ng R' W'
   ·have:=kD hT w x (by rw [hlen];exact h.r w hw) hx
    rw [hR w hw x hx] at this;omega
   ·exact rR _ _ hx⟩)
  (fun w hw=>⟨h.w w hw,by
   have:=kD hT w j (by rw [hlen];exact h.w w hw) hj
   rw [hW w hw] at this;omega⟩) h.nf
 have hlt:∀x,x < oF ng R W→φ x < oF ng R' W':=fun x hx=>by
  obtain ⟨u,u1,u2⟩:=tt h.full x hx
  have e:=h1 u 0 u1 ab
  have u2:dZ (oG ng R W) (0:Nat) u=(x:Int):=u2
  rw [u2,Int.toNat_natCast,h0] at e
  have e2:=kD hT u j (by rw [hlen];exact u1) hj
  obtain ⟨y,y1,y2⟩:=v9 hT (w:=u) (by rw [hlen];exact u1) hj
  rw [e];omega
 exact ⟨φ,h0,hlt,fun w x hw hx=>by rw [h1 w x hw hx];exact kD hT w (φ x) (by rw [hlen];exact hw) (hlt x hx)⟩
end
end Go.Proofs.Ytfpcfckocmmcnaa
namespace Go.Proofs.Ytfpcfckocmmcnaa
theorem oR:∀(l1 l2:List Nat),l1.Nodup→(∀x∈l1,x∈l2)→l1.length≤l2.length
 | [],_,_,_=>by simp
 | x :: r,l2,h,hs=>by
  rw [List.nodup_cons] at h
  have hx:=hs x (by simp)
  have:=oR r (l2.erase x) h.2 fun y hy=>(List.mem_erase_of_ne (fun e:y=x=>h.1 (by rw [←e];exact hy))).2 (hs y (by simp [hy]))
  rw [List.length_erase_of_mem hx] at this
  have:=List.length_pos_of_mem hx
  simp;omega
theorem oT {σ:Nat→Nat} :∀ {l:List Nat},l.Nodup→(∀x∈l,∀y∈l,σ x=σ y→x=y)→(l.map σ).Nodup
 | [],_,_=>by simp
 | a :: r,h,hi=>by
  rw [List.nodup_cons] at h
  rw [List.map_cons,List.nodup_cons]
  refine ⟨fun hm=> ?_,oT h.2 fun x hx y hy=>hi x (by simp [hx]) y (by simp [hy])⟩
  obtain ⟨y,hy,e⟩:=List.mem_map.1 hm
  exact h.1 (hi y (by simp [hy]) a (by simp) e ▸ hy)
section
variable {ng:Nat} {R W R' W':List (List Int)}
end
end Go.Proofs.Ytfpcfckocmmcnaa
namespace Go.Proofs.Ytfpcfckocmmcnaa
open Go.RowKit
def ft (zs:List Int) (i j:Nat):Int:=if j=i + 1 then aD zs i else 2
def fi (zs:List Int) (i j:Nat):List (List Int):=if 0 < ft zs i j then [dM [(i:Int),(j:Int)] (ft zs i j).toNat] else []
def fT (zs:List Int) (i:Nat):Nat→List (List Int)
 | 0=> []
 | d + 1=>fT zs i d ++ fi zs i (i + 1 + d)
def jz (zs:List Int) (N:Nat):Nat→List (List Int)
 | 0=> []
 | k + 1=>jz zs N k ++ fT zs k (N - (k + 1))
def aS (zs:List Int):di:=(((zs.length + 1:Nat):Int),jz zs (zs.length + 1) (zs.length + 1))
theorem yK (zs:List Int) (i j:Nat):(fi zs i j).length≤1:=by unfold fi;split<;>simp
theorem hH (zs:List Int) (i d:Nat):(fT zs i d).length≤d:=by
 induction d with
 | zero=>simp [fT]
 | succ d ih=>have:=yK zs i (i + 1 + d);simp [fT];omega
theorem mh (zs:List Int) (N k:Nat):(jz zs N k).length≤N * k:=by
 induction k with
 | zero=>simp [jz]
 | succ k ih=>have:=hH zs k (N - (k + 1));simp [jz,Nat.mul_succ];omega
theorem ka {P:Program} {S E:TypeId} {z:Value} {bytes:Nat} (et:ET P S E z bytes) {ops:Array Oper} {o:Oper} {a:Act} {Q:Exit→Act→World→Prop} {w:World} {K:Act→World→Prop} {X:Prop} (hg:o.guard=none) (s x:Operand) (ho:o.op= .call { callee:= .builtin .append,args:= #[s,x],argTypes:= #[S,S] })
  (base:Nat) (ao:Option Addr) (n c:Nat) (xs:List Value) (hs:a.eval s= .slice ao n c) (hown:Own w base E ao n c xs) (u:Value) (xb xc:Nat)
  (hx:a.eval x= .slice (some ⟨xb,0,none⟩) 1 xc) (hc:w.cell? ⟨xb,0,none⟩=some u) (hu:u.oneCell'=true) (hn:n + 1≤4398046511104) (hbase:base≤w.heap.size)
  (h:∀ao' c' w',Own w' base E ao' (n + 1) c' (xs ++ [u])→w.grownBy w' (bk ao)→(bk ao'=bk ao∨bk ao'=some w.heap.size)→K (a.put o.dst (.slice ao' (n + 1) c')) w'):if Region.wanted o (yielded ops a.tmps)=true then Oper.wp P o a w K Q else X:=by
 obtain ⟨i,hi,hz,hsz,hby⟩:=info_parts et.info
 have hw:Region.wanted o (yielded ops a.tmps)=true:=by simp [Region.wanted,hg]
 rw [if_pos hw]
 obtain ⟨v',w',hr,h2,h3,h4,h5⟩:=run_append_own_at (P:=P) w base S o.type E i z 1 bytes et.und hi hz hsz hby (by rw [et.one];rfl) ab (.slice ao n c) n xs hown.1 ⟨xb,0,none⟩ 1 xc [u] rfl
  (by
   intro j u' hu'
   match j,hu' with
   | 0,hu'=>simp at hu';subst hu';rw [Addr.add_lit];exact hc)
  (by intro v hv;simp at hv;subst hv;exact hu) (by simp [maxLen];omega) (by have:=et.small;have:(n + 1) * bytes≤(n + 1) * 32:=Nat.mul_le_mul_left _ this;omega) hbase
 unfold Oper.wp execOp
 simp only [ho,resolve,invoke,builtin,Sem.run_bind,Sem.run_pure,Result.andThen_ok,List.map_toArray,List.map_cons,List.map_nil,hs,hx,hr]
 obtain ⟨g,cap,rfl,hb,hlt⟩:=h2.form ab
 rw [bN] at h3
 refine h _ _ _ ⟨h2,hn⟩ h3 ?_
 rw [bN,bN] at h5
 exact h5
theorem tC {T1 E lo:Nat} {wr w2 w3 w4:World} {ao ao' ao2:Option Addr} {m c n' c' c2:Nat} {us:List Value} {ds:List (List Int)} {zs:List Int}
  (hR:eT (jV T1) wr lo wr.heap.size E ao m c us ds) (hlo:lo≤wr.heap.size) (hb:Below wr.heap.size wr w2) (hu:Own w2 wr.heap.size T1 ao' n' c' (zs.map (Value.int .i64))) (hb3:Below w2.heap.size w2 w3)
  (hown:Own w4 lo E ao2 (m + 1) c2 (us ++ [.slice ao' n' c'])) (hg:w3.grownBy w4 (bk ao)) (hat:bk ao2=bk ao∨bk ao2=some w3.heap.size):
  eT (jV T1) w4 lo w4.heap.size E ao2 (m + 1) c2 (us ++ [.slice ao' n' c']) (ds ++ [zs]):=by
 have hR3:eT (jV T1) w3 lo wr.heap.size E ao m c us ds:=hR.below (cJ _) (hb.trans (hb3.mono hb.size))
 have s1:=hb.size
 have s2:=hb3.size
 have s3:=hg.size
 have hub:∀g,bk ao'=some g→wr.heap.size≤g∧g < w2.heap.size:=hu.lt
 have hne:∀g,bk ao'=some g→bk ao≠some g:=fun g h1 h2=>by have:=hub g h1;have:=hR.top g h2;omega
 have hu4:jV T1 w4 (.slice ao' n' c') zs:=(cJ T1).loc (w:=w2) ⟨ao',n',c',rfl,hu.mono (Nat.zero_le _)⟩ fun g h=>by
  rw [bN] at h
  have:=hub g h
  rw [hg.block g ab (fun e=>hne g h e.symm)]
  exact hb3.block g this.2
 refine hR3.push (cJ _) hown hg hu4 (nE fun g h=>⟨by have:=hub g h;omega,by have:=hub g h;omega⟩) (fun g h=>(hown.lt g h).2) ab ?_ ?_
 ·intro g h
  rcases hat with h1 | h1
  ·exact .inl (h1 ▸ h)
  ·refine .inr fun j u hj e=> ?_
   rw [h1] at h;obtain rfl:=Option.some.inj h
   have:=(hR3.rng j u hj _ e).2
   omega
 ·intro g h
  rw [bN] at h
  have hh:=hub g h
  refine ⟨fun e=> ?_,fun j v hj e=> ?_⟩
  ·rcases hat with h1 | h1
   ·exact hne g h (h1 ▸ e)
   ·rw [h1] at e;have:=Option.some.inj e;omega
  ·have:=(hR3.rng j v hj _ e).2;omega
end Go.Proofs.Ytfpcfckocmmcnaa
namespace Go.Proofs.Ytfpcfckocmmcnaa
def oE (zs:List Int) (i j:Nat):Nat:=if j=i + 1 then max 1 (aD zs i).toNat else if i=j + 1 then max 1 (aD zs j).toNat else 2
theorem Ew (zs:List Int) (i j:Nat):0 < oE zs i j:=by unfold oE;split<;>(try split)<;>omega
theorem An (zs:List Int) (i j:Nat):oE zs i j=oE zs j i:=by
 unfold oE
 by_cases h:j=i + 1
 ·rw [if_pos h,if_neg ab,if_pos h]
 ·by_cases k:i=j + 1
  ·rw [if_neg h,if_pos k,if_pos k]
  ·rw [if_neg h,if_neg k,if_neg k,if_neg h]
theorem Ar {zs:List Int} (hp:∀i,i < zs.length→0 < aD zs i) {i j:Nat} (hij:i < j) (hj:j < zs.length + 1):0 < ft zs i j∧(ft zs i j).toNat=oE zs i j:=by
 unfold ft oE
 by_cases h:j=i + 1
 ·have:=hp i ab
  rw [if_pos h,if_pos h];omega
 ·rw [if_neg h,if_neg h,if_neg ab];exact ⟨by decide,rfl⟩
theorem oD (i j:Nat):∀m,(dM [(i:Int),(j:Int)] m).map Int.toNat=gN i j m
 | 0=>rfl
 | m + 1=>by
  have:dM [(i:Int),(j:Int)] (m + 1)= [(i:Int),(j:Int)] ++ dM [(i:Int),(j:Int)] m:=by unfold dM;rw [List.replicate_succ,List.flatten_cons]
  rw [this,List.map_append,oD i j m];rfl
theorem va {zs:List Int} {i:Nat} {w:List Int} :∀ {d:Nat},w∈fT zs i d↔∃e,e < d∧w∈fi zs i (i + 1 + e)
 | 0=>by simp [fT]
 | d + 1=>by
  rw [fT,List.mem_append,va]
  constructor
  ·rintro (⟨e,h,k⟩ | h)
   ·exact ⟨e,ab,k⟩
   ·exact ⟨d,ab,h⟩
  ·rintro ⟨e,h,k⟩
   by_cases hd:e=d
   ·subst hd;exact .inr k
   ·exact .inl ⟨e,ab,k⟩
theorem Dh {zs:List Int} {N:Nat} {w:List Int} :∀ {k:Nat},w∈jz zs N k↔∃i,i < k∧w∈fT zs i (N - (i + 1))
 | 0=>by simp [jz]
 | k + 1=>by
  rw [jz,List.mem_append,Dh]
  constructor
  ·rintro (⟨e,h,k⟩ | h)
   ·exact ⟨e,ab,k⟩
   ·exact ⟨k,ab,h⟩
  ·rintro ⟨e,h,h2⟩
   by_cases hd:e=k
   ·subst hd;exact .inr h2
   ·exact .inl ⟨e,ab,h2⟩
theorem qh {zs:List Int} {w:List Int} :w∈(aS zs).2↔∃i j,i < j∧j < zs.length + 1∧0 < ft zs i j∧w=dM [(i:Int),(j:Int)] (ft zs i j).toNat:=by
 show w∈jz zs (zs.length + 1) (zs.length + 1)↔_
 rw [Dh]
 constructor
 ·rintro ⟨i,hi,h⟩
  obtain ⟨e,he,h⟩:=va.1 h
  unfold fi at h
  split at h
  ·rename_i hp
   exact ⟨i,i + 1 + e,ab,ab,hp,by simpa using h⟩
  ·simp at h
 ·rintro ⟨i,j,hij,hj,hp,rfl⟩
  refine ⟨i,ab,va.2 ⟨j - (i + 1),ab, ?_⟩⟩
  rw [show i + 1 + (j - (i + 1))=j by omega]
  unfold fi
  rw [if_pos hp];simp
theorem BV {zs:List Int} (hp:∀i,i < zs.length→0 < aD zs i) {W:List (List Int)} (h:At (zs.length + 1) (aS zs).2 W):ot (oE zs) (zs.length + 1) (fk (oG (zs.length + 1) (aS zs).2 W) (oF (zs.length + 1) (aS zs).2 W)):=by
 have hT:=h.leads
 have hI:=h.C4
 have hl:(oG (zs.length + 1) (aS zs).2 W).length=zs.length + 1:=nV
 have inv:∀g y,g < zs.length + 1→fk (oG (zs.length + 1) (aS zs).2 W) (oF (zs.length + 1) (aS zs).2 W) g (fk (oG (zs.length + 1) (aS zs).2 W) (oF (zs.length + 1) (aS zs).2 W) g y)=y:=fun g y hg=>qF hT hI g y (by rw [hl];exact hg)
 have low:∀i j,i < j→j < zs.length + 1→∀y,cU (fk (oG (zs.length + 1) (aS zs).2 W) (oF (zs.length + 1) (aS zs).2 W)) y (gN i j (oE zs i j))=y:=fun i j hij hj y=>by
  obtain ⟨h1,h2⟩:=Ar hp hij hj
  have hm:=qh.2 ⟨i,j,hij,hj,h1,rfl⟩
  rw [←h2,←oD]
  by_cases hy:y < oF (zs.length + 1) (aS zs).2 W
  ·have:=kD hT (dM [(i:Int),(j:Int)] (ft zs i j).toNat) y (by rw [hl];exact h.r _ hm) hy
   rw [vT h.r h.w h.nf hm hy] at this;omega
  ·exact rR _ _ hy
 refine ⟨inv,fun i j y hi hj hij=> ?_⟩
 rcases Nat.lt_or_gt_of_ne hij with hlt | hlt
 ·exact low i j hlt hj y
 ·have h1:=low j i hlt hi (cU (fk (oG (zs.length + 1) (aS zs).2 W) (oF (zs.length + 1) (aS zs).2 W)) y (gN i j (oE zs i j)))
  have h2:=oe inv (gN i j (oE zs i j)) y fun g hg=>by rcases re hg with rfl | rfl<;>assumption
  rw [xo,An zs i j] at h2
  rw [An zs i j] at h1 ⊢
  rw [h2] at h1;exact h1.symm
structure sh (zs:List Int) (tw:List Lv):Prop where
 pos:∀i,i < zs.length→0 < aD zs i
 len:tw.length=zs.length + 1
 tb:Bq (oE zs) tw=true
 ub:nI (oE zs) tw=true
 sb:E2 tw=true
theorem Ao:∀(w:List Nat),(w.map fun g:Nat=>(g:Int)).map Int.toNat=w
 | []=>rfl
 | g :: w=>by rw [List.map_cons,List.map_cons,Ao w];rfl
section
variable {zs:List Int} {tw:List Lv} {I:Nat} {W:List (List Int)}
theorem zJ {n:Nat} {w:List Nat} (hw:∀g∈w,g < n):bA n (w.map fun g:Nat=>(g:Int)):=by
 intro z hz
 obtain ⟨g,hg,rfl⟩:=List.mem_map.1 hz
 have:=hw g hg
 omega
theorem qb:0 < oF (zs.length + 1) (aS zs).2 W:=ui.1
theorem sh.zero (D:sh zs tw):jC tw (je tw)=true:=oo tw (se tw D.ub)
theorem sh.reach (D:sh zs tw) {x:List Nat} (hx:jC tw x=true):∃w,(∀g∈w,g < zs.length + 1)∧cU (tf tw) (je tw) w=x:=by
 obtain ⟨w,h1,h2⟩:=Dl tw D.tb D.ub x hx
 exact ⟨w,by rw [←D.len];exact h1,h2⟩
end
end Go.Proofs.Ytfpcfckocmmcnaa
namespace Go.Proofs.Ytfpcfckocmmcnaa
def sZ (mask g:Nat):Bool:=mask / 2 ^ g % 2 == 1
abbrev lv:=List Bool×List Int
def dX (T:List (List Int)) (mask c:Nat) (s:lv) (g:Nat):lv:=if sZ mask g=true∧jY s.1 (dy T c g)=false then (s.1.set (dy T c g) true,s.2 ++ [(dy T c g:Int)]) else s
def uJ (T:List (List Int)) (mask ng c:Nat) (s:lv):lv:=(List.range ng).foldl (dX T mask c) s
def dU (T:List (List Int)) (mask ng:Nat):Nat→Nat→lv→lv
 | 0,_,s=>s
 | f + 1,i,s=>if i < s.2.length then dU T mask ng f (i + 1) (uJ T mask ng (aD s.2 i).toNat s) else s
def mStart (n:Nat):lv:=((List.replicate n false).set 0 true, [0])
def mem (T:List (List Int)) (ng n mask:Nat):lv:=dU T mask ng (n + 1) 0 (mStart n)
structure sP (n:Nat) (s:lv):Prop where
 l:s.1.length=n
 q:∀k,k < s.2.length→∃d:Nat,aD s.2 k=(d:Int)∧d < n∧jY s.1 d=true
 yj:pk s.1=s.2.length
 cov:∀d,d < n→jY s.1 d=true→∃k,k < s.2.length∧aD s.2 k=(d:Int)
theorem sP.le {n:Nat} {s:lv} (h:sP n s):s.2.length≤n:=by
 have:=zQ s.1;rw [h.yj,h.l] at this;exact this
structure kn (s s':lv):Prop where
 len:s.2.length≤s'.2.length
 pre:∀k,k < s.2.length→aD s'.2 k=aD s.2 k
 met:∀d,jY s.1 d=true→jY s'.1 d=true
theorem kn.refl (s:lv):kn s s:=⟨Nat.le_refl _,fun _ _=>rfl,fun _ h=>h⟩
theorem kn.trans {a b c:lv} (h:kn a b) (k:kn b c):kn a c:=
 ⟨Nat.le_trans h.len k.len,fun i hi=>(k.pre i (Nat.lt_of_lt_of_le hi h.len)).trans (h.pre i hi),fun d hd=>k.met d (h.met d hd)⟩
section
variable {T:List (List Int)} {ng n mask:Nat}
theorem sc (s:lv) (c g:Nat):kn s (dX T mask c s g):=by
 unfold dX
 split
 ·refine ⟨by simp,fun k hk=>cI hk,fun d hd=> ?_⟩
  dsimp only
  rw [iS]
  split
  ·rfl
  ·exact hd
 ·exact kn.refl s
theorem Cy {s:lv} {c g:Nat} (h:sP n s) (hd:dy T c g < n):sP n (dX T mask c s g):=by
 unfold dX
 generalize dy T c g=d at *
 split
 ·rename_i hm
  have hm:=hm.2
  refine ⟨by rw [List.length_set];exact h.l,fun k hk=> ?_, ?_,fun e he hb=> ?_⟩
  ·dsimp only at hk ⊢
   by_cases e:k < s.2.length
   ·obtain ⟨d',h1,h2,h3⟩:=h.q k e
    refine ⟨d',by rw [cI e];exact h1,h2, ?_⟩
    rw [iS];split
    ·rfl
    ·exact h3
   ·obtain rfl:k=s.2.length:=by simp at hk;omega
    exact ⟨d,dS,hd,by rw [iS,if_pos ⟨rfl,by rw [h.l];exact hd⟩]⟩
  ·dsimp only;rw [qO _ _ (by rw [h.l];exact hd) hm,h.yj];simp
  ·dsimp only at hb ⊢
   by_cases e2:d=e
   ·subst e2;exact ⟨s.2.length,by simp,dS⟩
   ·rw [iS,if_neg (fun h=>e2 h.1)] at hb
    obtain ⟨k,h1,h2⟩:=h.cov e he hb
    exact ⟨k,by rw [List.length_append];omega,by rw [cI h1];exact h2⟩
 ·exact h
theorem Bm {s:lv} {c g:Nat} (h:sP n s) (hd:dy T c g < n) (hb:sZ mask g=true):jY (dX T mask c s g).1 (dy T c g)=true:=by
 unfold dX
 cases hm:jY s.1 (dy T c g) with
 | false=>rw [if_pos ⟨hb,rfl⟩];dsimp only;rw [iS,if_pos ⟨rfl,by rw [h.l];exact hd⟩]
 | true=>rw [if_neg (fun h=>by cases h.2)];exact hm
theorem iu (hT:dh T n) (hng:T.length=ng) {c:Nat} (hc:c < n) {s:lv} (h:sP n s):∀m,m≤ng→sP n ((List.range m).foldl (dX T mask c) s)∧kn s ((List.range m).foldl (dX T mask c) s)∧∀g,g < m→sZ mask g=true→jY ((List.range m).foldl (dX T mask c) s).1 (dy T c g)=true
 | 0,_=>⟨h,kn.refl s,fun g hg=>by omega⟩
 | m + 1,hm=>by
  obtain ⟨h1,h2,h3⟩:=iu hT hng hc h m ab
  rw [List.range_succ,List.foldl_append]
  generalize (List.range m).foldl (dX T mask c) s=t at *
  have hd:=(dj hT hc (g:=m) ab).1
  refine ⟨Cy h1 hd,h2.trans (sc t c m),fun g hg hb=> ?_⟩
  show jY (dX T mask c t m).1 (dy T c g)=true
  by_cases e:g=m
  ·subst e;exact Bm h1 hd hb
  ·exact (sc t c m).met _ (h3 g ab hb)
def Fk (T:List (List Int)) (mask ng i:Nat) (s:lv):Prop:=∀k,k < i→∀g,g < ng→sZ mask g=true→jY s.1 (dy T (aD s.2 k).toNat g)=true
theorem qB {f i:Nat} {s:lv} (h:i < s.2.length):dU T mask ng (f + 1) i s=dU T mask ng f (i + 1) (uJ T mask ng (aD s.2 i).toNat s):=by rw [dU,if_pos h]
theorem nu (hT:dh T n) (hng:T.length=ng):∀(f i:Nat) (s:lv),sP n s→sP n (dU T mask ng f i s)∧kn s (dU T mask ng f i s)
 | 0,_,s,h=>⟨h,kn.refl s⟩
 | f + 1,i,s,h=>by
  unfold dU
  split
  ·rename_i hi
   obtain ⟨d,h1,h2,_⟩:=h.q i hi
   obtain ⟨k1,k2,_⟩:=iu (mask:=mask) hT hng (c:=(aD s.2 i).toNat) ab h ng (Nat.le_refl _)
   obtain ⟨m1,m2⟩:=nu hT hng f (i + 1) _ k1
   exact ⟨m1,k2.trans m2⟩
  ·exact ⟨h,kn.refl s⟩
theorem qy (hT:dh T n) (hng:T.length=ng):∀(f i:Nat) (s:lv),sP n s→Fk T mask ng i s→i≤s.2.length→n + 1≤f + i→Fk T mask ng (dU T mask ng f i s).2.length (dU T mask ng f i s)
 | 0,i,s,h,hs,hi,hf=>by have:=h.le;omega
 | f + 1,i,s,h,hs,hi,hf=>by
  unfold dU
  split
  ·rename_i hlt
   obtain ⟨d,h1,h2,_⟩:=h.q i hlt
   obtain ⟨k1,k2,k3⟩:=iu (mask:=mask) hT hng (c:=(aD s.2 i).toNat) ab h ng (Nat.le_refl _)
   refine qy hT hng f (i + 1) _ k1 (fun k hk g hg hb=> ?_) (Nat.le_trans hlt k2.len) ab
   have e:aD (uJ T mask ng (aD s.2 i).toNat s).2 k=aD s.2 k:=k2.pre k ab
   rw [e]
   by_cases e2:k=i
   ·subst e2;exact k3 g hg hb
   ·exact k2.met _ (hs k ab g hg hb)
  ·obtain rfl:i=s.2.length:=by omega
   exact hs
theorem xz (hT:dh T n) (hng:T.length=ng) {p:Nat→Prop} (hp:∀c,c < n→p c→∀g,g < ng→sZ mask g=true→p (dy T c g)):∀(f i:Nat) (s:lv),sP n s→(∀d,d < n→jY s.1 d=true→p d)→∀d,d < n→jY (dU T mask ng f i s).1 d=true→p d
 | 0,_,s,_,hs=>hs
 | f + 1,i,s,h,hs=>by
  unfold dU
  split
  ·rename_i hlt
   obtain ⟨c,h1,h2,h3⟩:=h.q i hlt
   have hpc:=hs c h2 h3
   rw [h1,Int.toNat_natCast]
   obtain ⟨k1,_,_⟩:=iu (mask:=mask) hT hng h2 h ng (Nat.le_refl _)
   refine xz hT hng hp f (i + 1) _ k1 ?_
   have key:∀m,m≤ng→∀d,d < n→jY ((List.range m).foldl (dX T mask c) s).1 d=true→p d:=by
    intro m
    induction m with
    | zero=>intro _;exact hs
    | succ m ih=>
     intro hm d hd hb
     rw [List.range_succ,List.foldl_append] at hb
     have hb:jY (dX T mask c ((List.range m).foldl (dX T mask c) s) m).1 d=true:=hb
     unfold dX at hb
     split at hb
     ·rename_i hc
      dsimp only at hb
      rw [iS] at hb
      split at hb
      ·rename_i e;rw [←e.1];exact hp c h2 hpc m ab hc.1
      ·exact ih ab d hd hb
     ·exact ih ab d hd hb
   exact key ng (Nat.le_refl _)
  ·exact hs
end
end Go.Proofs.Ytfpcfckocmmcnaa
namespace Go.Proofs.Ytfpcfckocmmcnaa
abbrev xX:=List (Nat×List Int)
def Iv (ps:xX) (k:Nat):Nat×List Int:=ps.getD k (0, [])
def jn (zs:List Int) (mask i:Nat):Bool:=decide (0 < i) && (sZ mask (i - 1) && !(aD zs (i - 1) == 2))
def H9 (ps:xX) (i:Nat) (z:Int):xX:=ps.set (ps.length - 1) ((Iv ps (ps.length - 1)).1 ||| 2 ^ i,(Iv ps (ps.length - 1)).2 ++ [z])
def Ij (zs:List Int) (mask:Nat) (ps:xX) (i:Nat):xX:=if sZ mask i then (if jn zs mask i then H9 ps i (aD zs (i - 1)) else ps ++ [(2 ^ i, [])]) else ps
def Jj (zs:List Int) (mask n:Nat):xX:=(List.range n).foldl (Ij zs mask) []
def comps (zs:List Int) (mask:Nat):xX:=Jj zs mask (zs.length + 1)
def sN (part list:List Int):Bool:=part == list || part == list.reverse
def It (n:Nat) (step:Int):List Int:=(List.range n).map fun i:Nat=>2 + step * i
def IZ (part:List Int):List Int:=
 if part.length=0 then [2]
 else if part.length=1∧0 < aD part 0 then [2,aD part 0]
 else if sN part [3,5] then [2,6,10]
 else if sN part [3,3,5] then [2,12,20,30]
 else if sN part [3,4,3] then [2,6,8,12]
 else if part=List.replicate part.length 3 then It (part.length + 1) 1
 else if sN part ((List.replicate part.length (3:Int)).set 0 4) then It (part.length + 1) 2
 else []
def IP (part:List Int):Bool:=sN part [0] || (sN part [4,4] || (sN part [3,6] || (sN part [4,3,4] || (sN part [3,4,3,3] || sN part [4,3,3,4]))))
def ends (part:List Int):List Int:=if aD part 0=3 then part else part.reverse
end Go.Proofs.Ytfpcfckocmmcnaa
namespace Go.Proofs.Ytfpcfckocmmcnaa
open Go.RowKit
section
variable {P:Program} {nt:Nat} {w0 w:World} {ω0:lI} {S S1:St} {Q:Exit→Act→World→Prop} {a:Act}
theorem kA {f:Nat} {sk:List Nat} {j:Nat} :bJ (f :: sk) j=(Nat.beq j f || bJ sk j):=by
 unfold bJ
 rw [List.any_cons]
theorem sx {sk:List Nat} {L:Array Bool} :∀k,missing sk L k≤k:=fun k=>by
 induction k with
 | zero=>exact Nat.le_refl _
 | succ k ih=>simp only [missing];split<;>omega
theorem lj {sk:List Nat} {L:Array Bool} (f:Nat):∀k,k≤f→missing (f :: sk) L k=missing sk L k
 | 0,_=>rfl
 | k + 1,h=>by
  simp only [missing]
  rw [lj f k ab,kA,dC (by omega:k≠f),Bool.false_or]
theorem gh {sk:List Nat} {L:Array Bool} (f:Nat) (hL:L.getD f false=false) (hs:bJ sk f=false):∀k,f < k→missing sk L k=missing (f :: sk) L k + 1
 | 0,h=>by omega
 | k + 1,h=>by
  simp only [missing]
  rw [kA]
  by_cases e:k=f
  ·subst e
   rw [lj k k (Nat.le_refl _),hL,hs]
   simp
  ·rw [gh f hL hs k ab,dC e,Bool.false_or];omega
theorem uF {sk:List Nat} {f nA:Nat} (hf:f < nA) (hs:bJ sk f=false):missing (f :: sk) #[] nA=missing sk #[] nA - 1∧0 < missing sk #[] nA:=by
 have:=gh (sk:=sk) (L:= #[]) f (by simp) hs nA hf
 omega
def Dx (ops:Array Oper) (nA:Nat) (sk:List Nat) (f:Nat) (cls:List (List Nat)):Bool:=
 Nat.ble nA ops.size && (List.range ops.size).all fun i=>match ops[i]? with
  | some o=>(Nat.ble nA i || bJ sk i || o.after.all fun e=> !Region.binds .any e || (Nat.blt e.on i && !bJ sk e.on)) && ((cls.getD i []).all fun j=>o.after.any fun e=>Region.binds .any e && (Nat.beq j e.on || bJ (cls.getD e.on []) j)) &&
    ((Nat.blt i nA && !bJ sk i) || (List.range nA).all fun j=>Nat.beq j f || bJ sk j || bJ (cls.getD i []) j) && (Nat.ble nA i || (cls.getD i []).all fun j=>Nat.blt j i)
  | none=>true
structure Dr (ops:Array Oper) (nA:Nat) (sk:List Nat) (f:Nat) (cls:List (List Nat)):Prop where
 size:nA≤ops.size
 less:∀i o,ops[i]? =some o→i < nA→bJ sk i=false→∀e∈o.after,Region.binds .any e=true→e.on < i∧bJ sk e.on=false
 dep:∀i o,ops[i]? =some o→∀j∈cls.getD i [],∃e∈o.after,Region.binds .any e=true∧(j=e.on∨j∈cls.getD e.on [])
 late:∀i o,ops[i]? =some o→(nA≤i∨bJ sk i=true)→∀j,j < nA→bJ sk j=false→j≠f→j∈cls.getD i []
 lt:∀i o,ops[i]? =some o→i < nA→∀j∈cls.getD i [],j < i
theorem zx {ops:Array Oper} {nA:Nat} {sk:List Nat} {f:Nat} {cls:List (List Nat)} (h:Dx ops nA sk f cls=true):Dr ops nA sk f cls:=by
 unfold Dx at h
 simp only [Bool.and_eq_true,Nat.ble_eq] at h
 obtain ⟨h0,h⟩:=h
 have key:∀i o,ops[i]? =some o→_:=fun i o ho=>by
  have hi:i < ops.size:=(Array.getElem?_eq_some_iff.1 ho).1
  have h1:=List.all_eq_true.1 h i (List.mem_range.2 hi)
  simp only [ho,Bool.and_eq_true,Bool.or_eq_true] at h1
  exact h1
 refine ⟨h0,fun i o ho hi hsk e he hb=> ?_,fun i o ho j hj=> ?_,fun i o ho hi j hj hsk hf=> ?_,fun i o ho hi j hj=> ?_⟩
 ·rcases (key i o ho).1.1.1 with (h1 | h1) | h1
  ·have:=Nat.le_of_ble_eq_true h1;omega
  ·rw [hsk] at h1;cases h1
  ·have:=Array.all_eq_true_iff_forall_mem.1 h1 e he
   simp [hb] at this;exact this
 ·have:=List.all_eq_true.1 (key i o ho).1.1.2 j hj
  obtain ⟨e,he,h2⟩:=Array.any_eq_true'.1 this
  simp only [Bool.and_eq_true,Bool.or_eq_true] at h2
  exact ⟨e,he,h2.1,h2.2.imp (fun h=>beq_true h) (fun h=>cC.1 h)⟩
 ·rcases (key i o ho).1.2 with h1 | h1
  ·exfalso
   have h2:i < nA:=by simpa using h1.1
   have h3:bJ sk i=false:=by simpa using h1.2
   rcases hi with h4 | h4
   ·omega
   ·rw [h3] at h4;cases h4
  ·have h2:=List.all_eq_true.1 h1 j (List.mem_range.2 hj)
   simp only [Bool.or_eq_true,hsk,dC hf,Bool.false_eq_true,false_or] at h2
   exact cC.1 h2
 ·rcases (key i o ho).2 with h1 | h1
  ·have:=Nat.le_of_ble_eq_true h1;omega
  ·exact (by have:=List.all_eq_true.1 h1 j hj;simpa using this)
theorem zg {l:List Oper} {nA:Nat} {sk:List Nat} {cls:List (List Nat)} {ds nms:List Nat} {adds done:List Add} {f:Nat} (hfA:f < nA) (hfs:bJ sk f=false) (hcl:Dr l.toArray nA sk f cls) (hdr:fJ P nt (S.clear ds nms) cls sk (l.take nA) [] done) (hdn:done.reverse=adds) (ok:lX adds cls ds nms)
  (hk:Rest P w0 ω0 nt l.toArray Q (l.length - missing sk #[] nA) (eS nA sk l.length) ((S.clear ds nms).part (fun j=> !bJ sk j) adds))
  (hk0:Rest P w0 ω0 nt l.toArray Q (l.length - missing (f :: sk) #[] nA) (eS nA (f :: sk) l.length) ((S.clear ds nms).part (fun j=> !bJ (f :: sk) j) adds)):
  ∀(d:Nat) (L:Array Bool) (a:Act) (w:World),missing sk L nA=d→L.size=l.length→(∀j,L.getD j false=true→j < nA∧bJ sk j=false)→(∀i,L.getD i false=true→∀j∈cls.getD i [],L.getD j false=true)→
   Sat w0 ω0 nt ((S.clear ds nms).part (fun j=>L.getD j false) adds) a w→wpAny P .any l.toArray Q (l.length - missing sk #[] nA + d) L a w:=by
 have hsz:nA≤l.length:=by have:=hcl.size;simpa using this
 obtain ⟨⟨r,hr,hrl⟩,hob⟩:=hdr.spec
 rw [hdn] at hr hob
 have hal:adds.length=nA:=by rw [hr];simp [hrl];omega
 have hfull:∀(L:Array Bool) (i:Nat),i∈Region.ready .any l.toArray L→(∀i,L.getD i false=true→∀j∈cls.getD i [],L.getD j false=true)→(∃o,l.toArray[i]? =some o∧L.getD i true=false)∧∀j∈cls.getD i [],L.getD j false=true:=by
  intro L i hi hclosed
  obtain ⟨h0,o,ho,he⟩:=mem_ready.1 hi
  refine ⟨⟨o,ho,h0⟩,fun j hj=> ?_⟩
  obtain ⟨e,hem,hb,hje⟩:=hcl.dep i o ho j hj
  have h1:=he e hem hb
  rcases hje with rfl | hje
  ·exact h1
  ·exact hclosed e.on h1 j hje
 intro d
 induction d with
 | zero=>
  intro L a w hm hs hsub hclosed hsat
  have hall:=ei hm
  have hL:L=eS nA sk l.length:=by
   apply Array.ext
   ·simp [hs,eS]
   ·intro j h1 h2
    have h3:L[j]? =some L[j]:=Array.getElem?_eq_getElem h1
    have h4:=lH (nA:=nA) (sk:=sk) (n:=l.length) (j:=j) ab
    rw [Array.getElem?_eq_getElem h2] at h4
    rw [Option.some.inj h4]
    cases hb:L[j] with
    | true=>
     have:=hsub j (by simp [h1,hb])
     simp [this.1,this.2]
    | false=>
     by_cases hj:j < nA
     ·cases hsk:bJ sk j with
      | true=>simp
      | false=>
       have:=hall j hj hsk
       simp [h1,hb] at this
     ·simp [hj]
  refine hk.go a w ((St.le.wk (oz (ℓ1:=fun j=> !bJ sk j) (ℓ2:=fun j=>L.getD j false) ok (fun _ _ h=>h) fun j A hj hsk=> ?_) fun _ _ h=>h).go _ _ _ a w hsat) |> fun h=>by rw [←hL] at h;exact h
  have hjl:j < adds.length:=(List.getElem?_eq_some_iff.1 hj).1
  exact hall j ab (by simpa using hsk)
 | succ d ih=>
  intro L a w hm hs hsub hclosed hsat
  by_cases h0:missing (f :: sk) L nA=0∧L.getD f false=false
  ·obtain ⟨h0,hff⟩:=h0
   have hall:=ei h0
   have hL:L=eS nA (f :: sk) l.length:=by
    apply Array.ext
    ·simp [hs,eS]
    ·intro j h1 h2
     have h3:L[j]? =some L[j]:=Array.getElem?_eq_getElem h1
     have h4:=lH (nA:=nA) (sk:=f :: sk) (n:=l.length) (j:=j) ab
     rw [Array.getElem?_eq_getElem h2] at h4
     rw [Option.some.inj h4]
     cases hb:L[j] with
     | true=>
      have:=hsub j (by simp [h1,hb])
      have hjf:j≠f:=fun e=>by subst e;simp [h1,hb] at hff
      rw [kA,this.2,dC hjf];simp [this.1]
     | false=>
      by_cases hj:j < nA
      ·cases hsk:bJ (f :: sk) j with
       | true=>simp
       | false=>
        have:=hall j hj hsk
        simp [h1,hb] at this
      ·simp [hj]
   have hd:missing (f :: sk) #[] nA=missing sk #[] nA - 1∧0 < missing sk #[] nA:=uF hfA hfs
   have hd1:d=0:=by
    have:=gh (sk:=sk) (L:=L) f hff hfs nA hfA
    omega
   subst hd1
   have hmn:∀k,missing sk #[] k≤k:=sx
   have:=hmn nA
   have e:l.length - missing (f :: sk) #[] nA=l.length - missing sk #[] nA + (0 + 1):=by omega
   rw [←e]
   refine hk0.go a w ((St.le.wk (oz (ℓ1:=fun j=> !bJ (f :: sk) j) (ℓ2:=fun j=>L.getD j false) ok (fun _ _ h=>h) fun j A hj hsk=> ?_) fun _ _ h=>h).go _ _ _ a w hsat) |> fun h=>by rw [←hL] at h;exact h
   have hjl:j < adds.length:=(List.getElem?_eq_some_iff.1 hj).1
   exact hall j ab (by simpa using hsk)
  refine ⟨fun hnil=> ?_,fun i hi=> ?_⟩
  ·exfalso
   obtain ⟨j,hj,hjs',hjf,hlo⟩:=gb (k:=nA) (by omega:missing sk L nA≠0)
   have hjl:j < l.length:=by omega
   have hjs:j < L.size:=by omega
   have:j∈Region.ready .any l.toArray L:=by
    refine mem_ready.2 ⟨?_,l[j],by simp [hjl],fun e he hb=> ?_⟩
    ·simp [hjs] at hjf ⊢
     exact hjf
    ·have h5:=hcl.less j l[j] (by simp [hjl]) hj hjs' e he hb
     exact hlo e.on h5.1 h5.2
   rw [hnil] at this;cases this
  ·obtain ⟨⟨o,ho,hi0⟩,hdep⟩:=hfull L i hi hclosed
   have hil:i < l.length:=by have:=(Array.getElem?_eq_some_iff.1 ho).1;simpa using this
   have his:i < L.size:=by omega
   have hif:L.getD i false=false:=by simp [his] at hi0 ⊢;exact hi0
   have hnl:¬(nA≤i∨bJ sk i=true):=fun h=>by
    have h1:=eJ (sk:=f :: sk) (L:=L) (k:=nA) fun j hj hsk=>by
     rw [kA] at hsk
     simp only [Bool.or_eq_false_iff] at hsk
     exact hdep j (hcl.late i o ho h j hj hsk.2 fun e=>by subst e;simp at hsk)
    refine h0 ⟨h1, ?_⟩
    cases hff:L.getD f false with
    | false=>rfl
    | true=>
     have:=ei h1
     have h2:=eJ (sk:=sk) (L:=L) (k:=nA) fun j hj hsk=>by
      by_cases e:j=f
      ·subst e;exact hff
      ·exact this j hj (by rw [kA,hsk,dC e];rfl)
     omega
   have hiA:i < nA:=by
    rcases Nat.lt_or_ge i nA with h | h
    ·exact h
    ·exact absurd (.inl h) hnl
   have hisk:bJ sk i=false:=by
    cases hsk:bJ sk i with
    | false=>rfl
    | true=>exact absurd (.inr hsk) hnl
   have hot:(l.take nA)[i]? =some o:=by rw [List.getElem?_take,if_pos hiA];simpa using ho
   obtain ⟨A,hA,hg,hstp⟩:=hob i o hot (by simpa using hisk)
   simp only [List.length_nil,Nat.zero_add] at hA hstp
   have hle:((S.clear ds nms).gD (bJ (cls.getD i [])) (adds.take i).reverse).le ((S.clear ds nms).part (fun j=>L.getD j false) adds):=gR ok (fun j B hj=>by
     rw [List.reverse_reverse] at hj
     rw [List.getElem?_take] at hj;split at hj
     ·exact hj
     ·cases hj) fun j B _ hj=>hdep j (cC.1 hj)
   have hst:=(hstp _ hle).go w0 ω0 a w Q hsat
   unfold wpOp
   simp only [ho]
   rw [if_pos (by simp [Region.wanted,hg])]
   refine .inl (Oper.wp_mono (fun a' w' hsat'=> ?_) hst)
   have hsat2:=(uG ok hA hif fun j hj hm'=>by have:=hclosed j hj i hm';rw [hif] at this;cases this).go _ _ _ a' w' hsat'
   have hnew:∀j,(L.setIfInBounds i true).getD j false=(Nat.beq j i || L.getD j false):=fun j=>by
    by_cases e:j=i
    ·subst e;simp [his]
    ·rw [getD_set_ne false (fun e'=>e e'.symm),dC e,Bool.false_or]
   refine ih (L.setIfInBounds i true) a' w' ?_ (by simp [hs]) (fun j hj=> ?_) (fun j hj k hk'=> ?_) ?_
   ·have:=iy his hif hisk nA hiA;omega
   ·rw [hnew] at hj
    by_cases e:j=i
    ·rw [e];exact ⟨hiA,hisk⟩
    ·rw [dC e,Bool.false_or] at hj;exact hsub j hj
   ·rw [hnew] at hj ⊢
    by_cases e:j=i
    ·subst e;rw [hdep k hk'];simp
    ·rw [dC e,Bool.false_or] at hj;rw [hclosed j hj k hk'];simp
   ·have:(fun j=>(L.setIfInBounds i true).getD j false)=fun j=>(Nat.beq j i || L.getD j false):=funext hnew
    rw [this];exact hsat2
theorem rD {id:Nat} {l:List Oper} (nA:Nat) (sk:List Nat) (f:Nat) (cls:List (List Nat)) (ds nms:List Nat) {done:List Add} (hm:P.follows .mixedOrders=true) (hcl:Dx l.toArray nA sk f cls=true) (hf':(Nat.blt f nA && !bJ sk f)=true) (hdr:fJ P nt (S.clear ds nms) cls sk (l.take nA) [] done) (ok:uk done.reverse cls ds nms=true)
  (hk:Rest P w0 ω0 nt l.toArray Q (l.length - missing sk #[] nA) (eS nA sk l.length) ((S.clear ds nms).gD (fun j=> !bJ sk j) done))
  (hk0:Rest P w0 ω0 nt l.toArray Q (l.length - missing (f :: sk) #[] nA) (eS nA (f :: sk) l.length) ((S.clear ds nms).gD (fun j=> !bJ (f :: sk) j) done)):fZ P w0 ω0 nt S (.region id l.toArray true) Q:=by
 have hc:=zx hcl
 have hsz:nA≤l.length:=by have:=hc.size;simpa using this
 have hk':Rest P w0 ω0 nt l.toArray Q (l.length - missing sk #[] nA) (eS nA sk l.length) ((S.clear ds nms).part (fun j=> !bJ sk j) done.reverse):=
  ⟨fun a w hs=>hk.go a w ((St.le.wk (gR (fc ok) (fun _ _ h=>h) fun _ _ _ h=>h) fun _ _ h=>h).go _ _ _ a w hs)⟩
 have hk0':Rest P w0 ω0 nt l.toArray Q (l.length - missing (f :: sk) #[] nA) (eS nA (f :: sk) l.length) ((S.clear ds nms).part (fun j=> !bJ (f :: sk) j) done.reverse):=
  ⟨fun a w hs=>hk0.go a w ((St.le.wk (gR (fc ok) (fun _ _ h=>h) fun _ _ _ h=>h) fun _ _ h=>h).go _ _ _ a w hs)⟩
 have hfA:f < nA:=by simp only [Bool.and_eq_true] at hf';simpa using hf'.1
 have hfs:bJ sk f=false:=by simp only [Bool.and_eq_true] at hf';simpa using hf'.2
 have hle:∀k,missing sk #[] k≤k:=fun k=>by
  induction k with
  | zero=>exact Nat.le_refl _
  | succ k ih=>simp only [missing];split<;>omega
 refine ⟨fun a w hs=>wp_region_any hm ?_⟩
 have hfin:=zg hfA hfs hc hdr rfl (fc ok) hk' hk0' (missing sk #[] nA) (Array.replicate l.length false) a { w with drawn:=w.drawn + 1 } ?_ (by simp) (fun j hj=> ?_) (fun i hi=> ?_) ?_
 ·have:=hle nA
  rw [show l.length - missing sk #[] nA + missing sk #[] nA=l.length by omega] at hfin
  simpa using hfin
 ·have:∀k,k≤l.length→missing sk (Array.replicate l.length false) k=missing sk #[] k:=fun k=>by
   induction k with
   | zero=>intro _;rfl
   | succ k ih=>
    intro hk
    simp only [missing]
    rw [ih ab]
    have:(Array.replicate l.length false).getD k false=false:=by simp [show k < l.length by omega]
    rw [this];rfl
  exact this nA hsz
 ·exfalso
  by_cases h:j < l.length
  ·simp [h] at hj
  ·simp [h] at hj
 ·exfalso
  by_cases h:i < l.length
  ·simp [h] at hi
  ·simp [h] at hi
 ·have h1:=(oA S ds nms).go _ _ _ a _ (oB hs)
  have hf:∀j,(Array.replicate l.length false).getD j false=false:=fun j=>by
   by_cases h:j < l.length<;>simp [h]
  refine (Wk.less (S:=S.clear ds nms) (S':=(S.clear ds nms).part (fun j=>(Array.replicate l.length false).getD j false) done.reverse) (fun t av h=> ?_) (fun x c h=> ?_) fun _ _ h=>h).go _ _ _ a _ h1
  ·have h:(match vG (fun j=>(Array.replicate l.length false).getD j false) 0 done.reverse t with | some av=>some av | none=>(S.clear ds nms).sl t)=some av:=h
   split at h
   ·rename_i av' h2
    obtain ⟨j,A,_,h3,_⟩:=fV h2
    rw [hf] at h3;cases h3
   ·exact h
  ·have h:(match vH (fun j=>(Array.replicate l.length false).getD j false) 0 done.reverse x with | some c=>some c | none=>(S.clear ds nms).ch x)=some c:=h
   split at h
   ·rename_i av' h2
    obtain ⟨j,A,_,h3,_⟩:=fX h2
    rw [hf] at h3;cases h3
   ·exact h
theorem mP {N:Nat} (i j k:Nat) {ops:Array Oper} {L:Array Bool} {o o' o'':Oper} {S2 S3:St} (hN:Nat.blt 0 N=true) (hr:Region.ready .any ops L= [i,j,k]) (ho:ops[i]? =some o) (ho':ops[j]? =some o') (ho'':ops[k]? =some o'') (hg:o.guard=none) (hg':o'.guard=none) (hg'':o''.guard=none)
  (h:dx P nt o S S1) (h':dx P nt o' S S2) (h'':dx P nt o'' S S3)
  (k1:Rest P w0 ω0 nt ops Q (N - 1) (L.setIfInBounds i true) S1) (k2:Rest P w0 ω0 nt ops Q (N - 1) (L.setIfInBounds j true) S2) (k3:Rest P w0 ω0 nt ops Q (N - 1) (L.setIfInBounds k true) S3):Rest P w0 ω0 nt ops Q N L S:=by
 have hN':0 < N:=by simpa using hN
 obtain ⟨n,rfl⟩:∃n,N=n + 1:=⟨N - 1,ab⟩
 exact ⟨fun a w hs=>wpAny_all hr (by simp) fun i' hi'=>by
  simp at hi'
  rcases hi' with rfl | rfl | rfl
  ·unfold wpOp
   simp only [ho]
   rw [if_pos (by simp [Region.wanted,hg])]
   exact .inl (Oper.wp_mono (fun a' w' h'=>k1.go a' w' h') (h.go w0 ω0 a w Q hs))
  ·unfold wpOp
   simp only [ho']
   rw [if_pos (by simp [Region.wanted,hg'])]
   exact .inl (Oper.wp_mono (fun a' w' h'=>k2.go a' w' h') (h'.go w0 ω0 a w Q hs))
  ·unfold wpOp
   simp only [ho'']
   rw [if_pos (by simp [Region.wanted,hg''])]
   exact .inl (Oper.wp_mono (fun a' w' h'=>k3.go a' w' h') (h''.go w0 ω0 a w Q hs))⟩
end
end Go.Proofs.Ytfpcfckocmmcnaa
namespace Go.Proofs.Ytfpcfckocmmcnaa
open Go.RowKit
section
variable {P:Program} {nt:Nat} {S S1 S':St} {w0 w:World} {ω0:lI} {ω:bW} {η:Env} {a:Act} {Q:Exit→Act→World→Prop} {ops:Array Oper} {rest:List Oper} {o:Oper}
variable {t:Nat} {ty:TypeId} {ps:String} {af:Array Edge} {gd:Option (Nat×Bool)} {x y z:Operand} {av:AV}
theorem dA (d:Nat) {b:Bool} (hb:S.sl d=some (vv (.bool b))) (h1:b=true→pR P w0 ω0 nt ops Q (S.put d (vv (.bool true))) rest) (h2:b=false→pR P w0 ω0 nt ops Q (S.put d (vv (.bool false))) rest):pR P w0 ω0 nt ops Q S rest:=by
 have wk:∀c,b=c→Wk S (S.put d (vv (.bool c))):=fun c e=>by
  refine ⟨fun w0 ω0 nt a w ⟨η,ω,hs⟩=>⟨η,ω, { hs with slots:=fun t' av ht'=> ?_ }⟩⟩
  rw [kU] at ht'
  by_cases e':t'=d
  ·subst e'
   rw [if_pos rfl] at ht'
   obtain rfl:=Option.some.inj ht'
   exact hs.slots t' _ (by rw [←e];exact hb)
  ·rw [if_neg e'] at ht';exact hs.slots t' av ht'
 cases b with
 | true=>exact ⟨fun a w hs=>(h1 rfl).go a w ((wk true rfl).go _ _ _ a w hs)⟩
 | false=>exact ⟨fun a w hs=>(h2 rfl).go a w ((wk false rfl).go _ _ _ a w hs)⟩
theorem aO {j d:Nat} {want:Bool} (hg:o.guard=some (j,want)) (hj:(ops[j]?).bind (·.dst)=some d) (hb:S.sl d=some (vv (.bool want))) (h:dx P nt o S S1) (k:pR P w0 ω0 nt ops Q S1 rest):pR P w0 ω0 nt ops Q S (o :: rest):=
 tR hg hj hb (fun _=>⟨S1,h,k⟩) fun e=>absurd rfl e
theorem aR {j d t:Nat} {want:Bool} (hg:o.guard=some (j,want)) (hj:(ops[j]?).bind (·.dst)=some d) (hb:S.sl d=some (vv (.bool (!want)))) (ht:o.dst=some t) (hn:Nat.blt t nt=true) (k:pR P w0 ω0 nt ops Q (S.put t (vv undef)) rest):pR P w0 ω0 nt ops Q S (o :: rest):=
 tR hg hj hb (fun e=>by cases want<;>cases e) fun _=>⟨t,ht,hn,k⟩
theorem cF (ht:Nat.blt t nt=true) (hx:S.op x=some (vv (.bool true))) (hy:S.op y=some av):dx P nt ⟨some t, .pick x y z,ty,ps,af,gd⟩ S (S.put t av):=
 dx.of _ fun w0 ω0 η ω a w hs=>by
  have h0:=hs.nY hx
  exact ⟨a.eval y,w,by simp [execOp,h0,asBool],η,ω,hs.iP (by simpa using ht) (hs.kG hy)⟩
theorem cj (ht:Nat.blt t nt=true) (hx:S.op x=some (vv (.bool false))) (hz:S.op z=some av):dx P nt ⟨some t, .pick x y z,ty,ps,af,gd⟩ S (S.put t av):=
 dx.of _ fun w0 ω0 η ω a w hs=>by
  have h0:=hs.nY hx
  exact ⟨a.eval z,w,by simp [execOp,h0,asBool],η,ω,hs.iP (by simpa using ht) (hs.kG hz)⟩
theorem ym {T:TypeId} (zs:List Value) (ht:Nat.blt t nt=true) (hb:(P.built T []).map Array.toList=some zs):dx P nt ⟨some t, .build T #[],ty,ps,af,gd⟩ S (S.put t (.s (.agg (zs.map .val)))):=
 dx.of _ fun w0 ω0 η ω a w hs=>by
  simp only [Option.map_eq_some_iff] at hb
  obtain ⟨cs,hc,rfl⟩:=hb
  refine ⟨.agg cs,w,by simp [execOp,run_build w T #[] cs hc],η,ω,hs.iP (by simpa using ht) ?_⟩
  exact (⟨cs,rfl,by simp,fun j b hb=>by
   simp only [List.getElem?_map,Option.map_eq_some_iff] at hb
   obtain ⟨v,hv,rfl⟩:=hb
   exact ⟨v,by simpa using hv,rfl⟩⟩:gT η (.agg (cs.toList.map .val)) (.agg cs))
theorem jx {c:Code} (S':St) (h:fZ P w0 ω0 nt S c (fun e a w=>e= .normal∧Sat w0 ω0 nt S' a w)) (k:Fin w0 ω0 nt S' .normal Q):fZ P w0 ω0 nt S c Q:=
 ⟨fun a w hs=>Code.wp_mono (fun e a w he=>by obtain ⟨rfl,h2⟩:=he;exact k.go a w h2) (h.go a w hs)⟩
theorem zv (h:Wk S S') (k:pR P w0 ω0 nt ops Q S' rest):pR P w0 ω0 nt ops Q S rest:=⟨fun a w hs=>k.go a w (h.go _ _ _ a w hs)⟩
theorem Ag {n k:Nat} {E:TypeId} {d:fQ} {l:List A1} (i:Nat) (hs:S.sl t=some (.s (.agg l))) (hi:l[i]? =some (.val (.slice none 0 0))) (hn:l.any (A1.has n)=false) (hd:d.len=0):Wk S ((S.new n ⟨true,E,k,d⟩).put t (.s (.agg (l.set i (.sl n 0 0))))):=by
 refine ⟨fun w0 ω0 nt a w ⟨η,ω,h⟩=> ?_⟩
 obtain ⟨u,h1,h2⟩:=h.slots t _ hs
 obtain ⟨us,rfl,h3,h4⟩:=(h2:gT η (.agg l) u)
 have hl:=h.lay (x:=n) (c:=⟨true,E,k,d⟩) (hd:=⟨none,0,k⟩) (r:=fun _=>⟨none,0,1⟩) (Calm.refl S ω w) ⟨rfl, .inl ⟨rfl,rfl,hd⟩⟩
 refine ⟨_,ω, { hl with slots:=fun t' av ht'=> ?_ }⟩
 rw [kU] at ht'
 by_cases e:t'=t
 ·subst e
  rw [if_pos rfl] at ht'
  obtain rfl:=Option.some.inj ht'
  refine ⟨_,h1,us,rfl,by simpa using h3,fun j b hb=> ?_⟩
  by_cases ej:j=i
  ·subst ej
   obtain ⟨u',h5,h6⟩:=h4 j _ hi
   have h6:u'= .slice none 0 0:=h6
   subst h6
   have hlt:j < l.length:=(List.getElem?_eq_some_iff.1 hi).1
   rw [List.getElem?_set_self hlt] at hb
   obtain rfl:=Option.some.inj hb
   exact ⟨_,h5,p5 (hd:=⟨none,0,k⟩) (m:=0)⟩
  ·rw [List.getElem?_set_ne (fun e=>ej e.symm)] at hb
   obtain ⟨u',h5,h6⟩:=h4 j b hb
   refine ⟨u',h5,h6.mono fun y hy=>Env.new_ne η _ _ y fun e=> ?_⟩
   subst e
   have:=List.any_eq_false.1 hn b (List.mem_of_getElem? hb)
   rw [hy] at this;exact this rfl
 ·rw [if_neg e] at ht'
  exact hl.slots t' av ht'
end
end Go.Proofs.Ytfpcfckocmmcnaa
namespace Go.Proofs.Ytfpcfckocmmcnaa
open Go.RowKit
section
variable {P:Program} {nt:Nat} {S S1:St} {w0 w:World} {ω0:lI} {ω:bW} {η:Env} {a:Act} {Q:Exit→Act→World→Prop}
variable {t:Nat} {ty:TypeId} {ps:String} {af:Array Edge} {gd:Option (Nat×Bool)} {x y:Operand} {av:AV}
theorem BO (n:Nat) (z:Int):aV (List.replicate n z)=List.replicate n (I6 z):=by simp [aV]
theorem A5 (n:Nat):bU (List.replicate n [])=List.replicate n []:=by simp [bU,aV]
theorem BN {T E n:Nat} {l c:Operand} {kl kc:IntKind} {L C:Int} (ht:Nat.blt t nt=true) (hT:tS P T E 1=true) (hz:(P.info? E).bind (·.zero)=some (I6 0)) (hl:S.op l=some (vv (.int kl L))) (hc:S.op c=some (vv (.int kc C)))
  (hL:L=(n:Int)) (hC:C=(n:Int)) (hn:n≤2199023255552):dx P nt ⟨some t, .makeSlice T l c,ty,ps,af,gd⟩ S ((S.new t ⟨true,E,1, .cz (aV (List.replicate n 0))⟩).put t (o1 (.sl t 0 n))):=by
 rw [BO]
 exact ya (ts:= #[]) ht hT hz hl hc hL hC hn rfl
theorem AU {T E F n:Nat} {l c:Operand} {kl kc:IntKind} {L C:Int} (ht:Nat.blt t nt=true) (hT:tS P T E 1=true) (hz:(P.info? E).bind (·.zero)=some (.slice none 0 0)) (hF:P.underlying E=some (.slice F)) (hl:S.op l=some (vv (.int kl L))) (hc:S.op c=some (vv (.int kc C)))
  (hL:L=(n:Int)) (hC:C=(n:Int)) (hn:n≤2199023255552):dx P nt ⟨some t, .makeSlice T l c,ty,ps,af,gd⟩ S ((S.new t ⟨true,E,1, .rows F (bU (List.replicate n [])) []⟩).put t (o1 (.sl t 0 n))):=by
 rw [A5]
 exact vx (ts:= #[]) ht hT hz hF hl hc hL hC hn
end
end Go.Proofs.Ytfpcfckocmmcnaa
namespace Go.Proofs.Ytfpcfckocmmcnaa
open Go.RowKit
section
variable {P:Program} {nt:Nat} {S:St} {t:Nat} {ty:TypeId} {ps:String} {af:Array Edge} {gd:Option (Nat×Bool)} {x y:Operand}
end
section
variable {P:Program} {w0:World} {ω0:lI} {nt:Nat} {S:St}
end
end Go.Proofs.Ytfpcfckocmmcnaa
namespace Go.Proofs.Ytfpcfckocmmcnaa
open Go.RowKit
section
variable {P:Program} {nt:Nat} {S S' S2:St} {t:Nat} {ty:TypeId} {ps:String} {af:Array Edge} {gd:Option (Nat×Bool)} {x y:Operand} {o:Oper}
end
end Go.Proofs.Ytfpcfckocmmcnaa
namespace Go.Proofs.Ytfpcfckocmmcnaa
open Go.RowKit
section
variable {P:Program} {nt:Nat} {S S1:St} {w0 w:World} {ω0:lI} {ω:bW} {η:Env} {a:Act} {Q:Exit→Act→World→Prop}
def eZ:List Nat→(List Nat→Prop)→Prop
 | [],p=>p []
 | f :: r,p=>eZ r p∧eZ r (fun ks=>p (f :: ks))
theorem eZ.filter {q:Nat→Bool} :∀ {fs:List Nat} {p:List Nat→Prop},eZ fs p→p (fs.filter q)
 | [],p,h=>h
 | f :: r,p,h=>by
  rw [List.filter_cons]
  split
  ·exact eZ.filter (p:=fun ks=>p (f :: ks)) h.2
  ·exact eZ.filter (p:=p) h.1
theorem eZ.map {p p':List Nat→Prop} (h:∀ks,p ks→p' ks):∀ {fs:List Nat},eZ fs p→eZ fs p'
 | [],k=>h _ k
 | _ :: _,k=>⟨eZ.map h k.1,eZ.map (fun ks=>h _) k.2⟩
theorem kJ {sk:List Nat} {L:Array Bool} {nA:Nat} :∀ {ks:List Nat},ks.Nodup→(∀f∈ks,f < nA∧bJ sk f=false∧L.getD f false=false)→missing sk L nA=missing (ks ++ sk) L nA + ks.length
 | [],_,_=>rfl
 | f :: r,hn,h=>by
  have h1:=kJ (sk:=sk) (L:=L) (nA:=nA) (ks:=r) (List.nodup_cons.1 hn).2 fun g hg=>h g (by simp [hg])
  have h2:=h f (by simp)
  have h3:bJ (r ++ sk) f=false:=by
   cases hb:bJ (r ++ sk) f with
   | false=>rfl
   | true=>
    exfalso
    rcases List.mem_append.1 (cC.1 hb) with h4 | h4
    ·exact (List.nodup_cons.1 hn).1 h4
    ·rw [cC.2 h4] at h2;exact absurd h2.2.1 (by simp)
  have:=gh (sk:=r ++ sk) (L:=L) f h2.2.2 h3 nA h2.1
  rw [h1,this,List.cons_append,List.length_cons];omega
def De (ops:Array Oper) (nA:Nat) (sk:List Nat) (fs:List Nat) (cls:List (List Nat)):Bool:=
 Nat.ble nA ops.size && (List.range ops.size).all fun i=>match ops[i]? with
  | some o=>(Nat.ble nA i || bJ sk i || o.after.all fun e=> !Region.binds .any e || (Nat.blt e.on i && !bJ sk e.on)) && ((cls.getD i []).all fun j=>o.after.any fun e=>Region.binds .any e && (Nat.beq j e.on || bJ (cls.getD e.on []) j)) &&
    ((Nat.blt i nA && !bJ sk i) || (List.range nA).all fun j=>bJ fs j || bJ sk j || bJ (cls.getD i []) j) && (Nat.ble nA i || (cls.getD i []).all fun j=>Nat.blt j i)
  | none=>true
structure CC (ops:Array Oper) (nA:Nat) (sk:List Nat) (fs:List Nat) (cls:List (List Nat)):Prop where
 size:nA≤ops.size
 less:∀i o,ops[i]? =some o→i < nA→bJ sk i=false→∀e∈o.after,Region.binds .any e=true→e.on < i∧bJ sk e.on=false
 dep:∀i o,ops[i]? =some o→∀j∈cls.getD i [],∃e∈o.after,Region.binds .any e=true∧(j=e.on∨j∈cls.getD e.on [])
 late:∀i o,ops[i]? =some o→(nA≤i∨bJ sk i=true)→∀j,j < nA→bJ sk j=false→bJ fs j=false→j∈cls.getD i []
 lt:∀i o,ops[i]? =some o→i < nA→∀j∈cls.getD i [],j < i
theorem yE {ops:Array Oper} {nA:Nat} {sk:List Nat} {fs:List Nat} {cls:List (List Nat)} (h:De ops nA sk fs cls=true):CC ops nA sk fs cls:=by
 unfold De at h
 simp only [Bool.and_eq_true,Nat.ble_eq] at h
 obtain ⟨h0,h⟩:=h
 have key:∀i o,ops[i]? =some o→_:=fun i o ho=>by
  have hi:i < ops.size:=(Array.getElem?_eq_some_iff.1 ho).1
  have h1:=List.all_eq_true.1 h i (List.mem_range.2 hi)
  simp only [ho,Bool.and_eq_true,Bool.or_eq_true] at h1
  exact h1
 refine ⟨h0,fun i o ho hi hsk e he hb=> ?_,fun i o ho j hj=> ?_,fun i o ho hi j hj hsk hf=> ?_,fun i o ho hi j hj=> ?_⟩
 ·rcases (key i o ho).1.1.1 with (h1 | h1) | h1
  ·have:=Nat.le_of_ble_eq_true h1;omega
  ·rw [hsk] at h1;cases h1
  ·have:=Array.all_eq_true_iff_forall_mem.1 h1 e he
   simp [hb] at this;exact this
 ·have:=List.all_eq_true.1 (key i o ho).1.1.2 j hj
  obtain ⟨e,he,h2⟩:=Array.any_eq_true'.1 this
  simp only [Bool.and_eq_true,Bool.or_eq_true] at h2
  exact ⟨e,he,h2.1,h2.2.imp (fun h=>beq_true h) (fun h=>cC.1 h)⟩
 ·rcases (key i o ho).1.2 with h1 | h1
  ·exfalso
   have h2:i < nA:=by simpa using h1.1
   have h3:bJ sk i=false:=by simpa using h1.2
   rcases hi with h4 | h4
   ·omega
   ·rw [h3] at h4;cases h4
  ·have h2:=List.all_eq_true.1 h1 j (List.mem_range.2 hj)
   simp only [Bool.or_eq_true,hsk,hf,Bool.false_eq_true,false_or] at h2
   exact cC.1 h2
 ·rcases (key i o ho).2 with h1 | h1
  ·have:=Nat.le_of_ble_eq_true h1;omega
  ·exact (by have:=List.all_eq_true.1 h1 j hj;simpa using this)
theorem yX {l:List Oper} {nA:Nat} {sk:List Nat} {cls:List (List Nat)} {ds nms:List Nat} {adds done:List Add} {fs:List Nat} (hfn:fs.Nodup) (hfs:∀f∈fs,f < nA∧bJ sk f=false) (hcl:CC l.toArray nA sk fs cls) (hdr:fJ P nt (S.clear ds nms) cls sk (l.take nA) [] done) (hdn:done.reverse=adds) (ok:lX adds cls ds nms)
  (hk:eZ fs fun ks=>Rest P w0 ω0 nt l.toArray Q (l.length - missing (ks ++ sk) #[] nA) (eS nA (ks ++ sk) l.length) ((S.clear ds nms).part (fun j=> !bJ (ks ++ sk) j) adds)):
  ∀(d:Nat) (L:Array Bool) (a:Act) (w:World),missing sk L nA=d→L.size=l.length→(∀j,L.getD j false=true→j < nA∧bJ sk j=false)→(∀i,L.getD i false=true→∀j∈cls.getD i [],L.getD j false=true)→
   Sat w0 ω0 nt ((S.clear ds nms).part (fun j=>L.getD j false) adds) a w→wpAny P .any l.toArray Q (l.length - missing sk #[] nA + d) L a w:=by
 have hsz:nA≤l.length:=by have:=hcl.size;simpa using this
 obtain ⟨⟨r,hr,hrl⟩,hob⟩:=hdr.spec
 rw [hdn] at hr hob
 have hal:adds.length=nA:=by rw [hr];simp [hrl];omega
 have hfull:∀(L:Array Bool) (i:Nat),i∈Region.ready .any l.toArray L→(∀i,L.getD i false=true→∀j∈cls.getD i [],L.getD j false=true)→(∃o,l.toArray[i]? =some o∧L.getD i true=false)∧∀j∈cls.getD i [],L.getD j false=true:=by
  intro L i hi hclosed
  obtain ⟨h0,o,ho,he⟩:=mem_ready.1 hi
  refine ⟨⟨o,ho,h0⟩,fun j hj=> ?_⟩
  obtain ⟨e,hem,hb,hje⟩:=hcl.dep i o ho j hj
  have h1:=he e hem hb
  rcases hje with rfl | hje
  ·exact h1
  ·exact hclosed e.on h1 j hje
 have stop:∀(L:Array Bool) (a:Act) (w:World),L.size=l.length→(∀j,L.getD j false=true→j < nA∧bJ sk j=false)→missing (fs ++ sk) L nA=0→Sat w0 ω0 nt ((S.clear ds nms).part (fun j=>L.getD j false) adds) a w→wpAny P .any l.toArray Q (l.length - missing sk #[] nA + missing sk L nA) L a w:=by
  intro L a w hs hsub h0 hsat
  have hall:=ei h0
  obtain ⟨ks,hks⟩:∃ks,fs.filter (fun f=> !L.getD f false)=ks:=⟨_,rfl⟩
  have hkn:ks.Nodup:=by rw [←hks];exact hfn.filter _
  have hkm:∀f,f∈ks↔f∈fs∧L.getD f false=false:=fun f=>by rw [←hks];simp
  have hk1:∀f∈ks,f < nA∧bJ sk f=false∧L.getD f false=false:=fun f hf=>⟨(hfs f ((hkm f).1 hf).1).1,(hfs f ((hkm f).1 hf).1).2,((hkm f).1 hf).2⟩
  have hdone:∀j,j < nA→bJ (ks ++ sk) j=false→L.getD j false=true:=fun j hj hsk=>by
   cases hb:L.getD j false with
   | true=>rfl
   | false=>
    exfalso
    have h1:bJ (fs ++ sk) j=true:=by
     cases h2:bJ (fs ++ sk) j with
     | true=>rfl
     | false=>rw [hall j hj h2] at hb;cases hb
    rcases List.mem_append.1 (cC.1 h1) with h3 | h3
    ·have:j∈ks ++ sk:=List.mem_append.2 (.inl ((hkm j).2 ⟨h3,hb⟩))
     rw [cC.2 this] at hsk;cases hsk
    ·have:j∈ks ++ sk:=List.mem_append.2 (.inr h3)
     rw [cC.2 this] at hsk;cases hsk
  have hL:L=eS nA (ks ++ sk) l.length:=by
   apply Array.ext
   ·simp [hs,eS]
   ·intro j h1 h2
    have h3:L[j]? =some L[j]:=Array.getElem?_eq_getElem h1
    have h4:=lH (nA:=nA) (sk:=ks ++ sk) (n:=l.length) (j:=j) ab
    rw [Array.getElem?_eq_getElem h2] at h4
    rw [Option.some.inj h4]
    cases hb:L[j] with
    | true=>
     have hb':L.getD j false=true:=by simp [h1,hb]
     have:=hsub j hb'
     have hnk:bJ (ks ++ sk) j=false:=by
      cases h5:bJ (ks ++ sk) j with
      | false=>rfl
      | true=>
       exfalso
       rcases List.mem_append.1 (cC.1 h5) with h6 | h6
       ·rw [((hkm j).1 h6).2] at hb';cases hb'
       ·rw [cC.2 h6] at this;exact absurd this.2 (by simp)
     simp [this.1,hnk]
    | false=>
     by_cases hj:j < nA
     ·cases hsk:bJ (ks ++ sk) j with
      | true=>simp
      | false=>
       have:=hdone j hj hsk
       simp [h1,hb] at this
     ·simp [hj]
  have hm1:=kJ (L:=L) hkn hk1
  have hm2:=kJ (sk:=sk) (L:= #[]) (nA:=nA) hkn fun f hf=>⟨(hk1 f hf).1,(hk1 f hf).2.1,rfl⟩
  have hm0:missing (ks ++ sk) L nA=0:=eJ hdone
  have hmn:=sx (sk:=sk) (L:= #[]) nA
  have e:l.length - missing (ks ++ sk) #[] nA=l.length - missing sk #[] nA + missing sk L nA:=by omega
  rw [←e]
  have hkk:=eZ.filter (q:=fun f=> !L.getD f false) hk
  rw [hks] at hkk
  refine hkk.go a w ((St.le.wk (oz (ℓ1:=fun j=> !bJ (ks ++ sk) j) (ℓ2:=fun j=>L.getD j false) ok (fun _ _ h=>h) fun j A hj hsk=> ?_) fun _ _ h=>h).go _ _ _ a w hsat) |> fun h=>by rw [←hL] at h;exact h
  have hjl:j < adds.length:=(List.getElem?_eq_some_iff.1 hj).1
  exact hdone j ab (by simpa using hsk)
 intro d
 induction d with
 | zero=>
  intro L a w hm hs hsub hclosed hsat
  have h0:missing (fs ++ sk) L nA=0:=eJ fun j hj hsk=>ei hm j hj (by
   cases h5:bJ sk j with
   | false=>rfl
   | true=>rw [cC.2 (List.mem_append.2 (.inr (cC.1 h5)))] at hsk;cases hsk)
  have:=stop L a w hs hsub h0 hsat
  rw [hm] at this;exact this
 | succ d ih=>
  intro L a w hm hs hsub hclosed hsat
  by_cases h0:missing (fs ++ sk) L nA=0
  ·have:=stop L a w hs hsub h0 hsat
   rw [hm] at this;exact this
  refine ⟨fun hnil=> ?_,fun i hi=> ?_⟩
  ·exfalso
   obtain ⟨j,hj,hjs',hjf,hlo⟩:=gb (k:=nA) (by omega:missing sk L nA≠0)
   have hjl:j < l.length:=by omega
   have hjs:j < L.size:=by omega
   have:j∈Region.ready .any l.toArray L:=by
    refine mem_ready.2 ⟨?_,l[j],by simp [hjl],fun e he hb=> ?_⟩
    ·simp [hjs] at hjf ⊢
     exact hjf
    ·have h5:=hcl.less j l[j] (by simp [hjl]) hj hjs' e he hb
     exact hlo e.on h5.1 h5.2
   rw [hnil] at this;cases this
  ·obtain ⟨⟨o,ho,hi0⟩,hdep⟩:=hfull L i hi hclosed
   have hil:i < l.length:=by have:=(Array.getElem?_eq_some_iff.1 ho).1;simpa using this
   have his:i < L.size:=by omega
   have hif:L.getD i false=false:=by simp [his] at hi0 ⊢;exact hi0
   have hnl:¬(nA≤i∨bJ sk i=true):=fun h=>by
    refine h0 (eJ (sk:=fs ++ sk) (L:=L) (k:=nA) fun j hj hsk=> ?_)
    have h5:bJ fs j=false∧bJ sk j=false:=by
     constructor
     ·cases h6:bJ fs j with
      | false=>rfl
      | true=>rw [cC.2 (List.mem_append.2 (.inl (cC.1 h6)))] at hsk;cases hsk
     ·cases h6:bJ sk j with
      | false=>rfl
      | true=>rw [cC.2 (List.mem_append.2 (.inr (cC.1 h6)))] at hsk;cases hsk
    exact hdep j (hcl.late i o ho h j hj h5.2 h5.1)
   have hiA:i < nA:=by
    rcases Nat.lt_or_ge i nA with h | h
    ·exact h
    ·exact absurd (.inl h) hnl
   have hisk:bJ sk i=false:=by
    cases hsk:bJ sk i with
    | false=>rfl
    | true=>exact absurd (.inr hsk) hnl
   have hot:(l.take nA)[i]? =some o:=by rw [List.getElem?_take,if_pos hiA];simpa using ho
   obtain ⟨A,hA,hg,hstp⟩:=hob i o hot (by simpa using hisk)
   simp only [List.length_nil,Nat.zero_add] at hA hstp
   have hle:((S.clear ds nms).gD (bJ (cls.getD i [])) (adds.take i).reverse).le ((S.clear ds nms).part (fun j=>L.getD j false) adds):=gR ok (fun j B hj=>by
     rw [List.reverse_reverse] at hj
     rw [List.getElem?_take] at hj;split at hj
     ·exact hj
     ·cases hj) fun j B _ hj=>hdep j (cC.1 hj)
   have hst:=(hstp _ hle).go w0 ω0 a w Q hsat
   unfold wpOp
   simp only [ho]
   rw [if_pos (by simp [Region.wanted,hg])]
   refine .inl (Oper.wp_mono (fun a' w' hsat'=> ?_) hst)
   have hsat2:=(uG ok hA hif fun j hj hm'=>by have:=hclosed j hj i hm';rw [hif] at this;cases this).go _ _ _ a' w' hsat'
   have hnew:∀j,(L.setIfInBounds i true).getD j false=(Nat.beq j i || L.getD j false):=fun j=>by
    by_cases e:j=i
    ·subst e;simp [his]
    ·rw [getD_set_ne false (fun e'=>e e'.symm),dC e,Bool.false_or]
   refine ih (L.setIfInBounds i true) a' w' ?_ (by simp [hs]) (fun j hj=> ?_) (fun j hj k hk'=> ?_) ?_
   ·have:=iy his hif hisk nA hiA;omega
   ·rw [hnew] at hj
    by_cases e:j=i
    ·rw [e];exact ⟨hiA,hisk⟩
    ·rw [dC e,Bool.false_or] at hj;exact hsub j hj
   ·rw [hnew] at hj ⊢
    by_cases e:j=i
    ·subst e;rw [hdep k hk'];simp
    ·rw [dC e,Bool.false_or] at hj;rw [hclosed j hj k hk'];simp
   ·have:(fun j=>(L.setIfInBounds i true).getD j false)=fun j=>(Nat.beq j i || L.getD j false):=funext hnew
    rw [this];exact hsat2
theorem zq {id:Nat} {l:List Oper} (nA:Nat) (sk:List Nat) (fs:List Nat) (cls:List (List Nat)) (ds nms:List Nat) {done:List Add} (hm:P.follows .mixedOrders=true) (hcl:De l.toArray nA sk fs cls=true) (hf':(nodupB fs && fs.all fun f=>Nat.blt f nA && !bJ sk f)=true) (hdr:fJ P nt (S.clear ds nms) cls sk (l.take nA) [] done) (ok:uk done.reverse cls ds nms=true)
  (hk:eZ fs fun ks=>Rest P w0 ω0 nt l.toArray Q (l.length - missing (ks ++ sk) #[] nA) (eS nA (ks ++ sk) l.length) ((S.clear ds nms).gD (fun j=> !bJ (ks ++ sk) j) done)):fZ P w0 ω0 nt S (.region id l.toArray true) Q:=by
 have hc:=yE hcl
 have hsz:nA≤l.length:=by have:=hc.size;simpa using this
 have hk':=eZ.map (p':=fun ks=>Rest P w0 ω0 nt l.toArray Q (l.length - missing (ks ++ sk) #[] nA) (eS nA (ks ++ sk) l.length) ((S.clear ds nms).part (fun j=> !bJ (ks ++ sk) j) done.reverse)) (fun ks hk=>
  ⟨fun a w hs=>hk.go a w ((St.le.wk (gR (fc ok) (fun _ _ h=>h) fun _ _ _ h=>h) fun _ _ h=>h).go _ _ _ a w hs)⟩) hk
 have hfn:fs.Nodup:=by simp only [Bool.and_eq_true] at hf';exact jM hf'.1
 have hfs:∀f∈fs,f < nA∧bJ sk f=false:=fun f hf=>by
  simp only [Bool.and_eq_true] at hf'
  have:=List.all_eq_true.1 hf'.2 f hf
  simpa using this
 have hle:∀k,missing sk #[] k≤k:=fun k=>by
  induction k with
  | zero=>exact Nat.le_refl _
  | succ k ih=>simp only [missing];split<;>omega
 refine ⟨fun a w hs=>wp_region_any hm ?_⟩
 have hfin:=yX hfn hfs hc hdr rfl (fc ok) hk' (missing sk #[] nA) (Array.replicate l.length false) a { w with drawn:=w.drawn + 1 } ?_ (by simp) (fun j hj=> ?_) (fun i hi=> ?_) ?_
 ·have:=hle nA
  rw [show l.length - missing sk #[] nA + missing sk #[] nA=l.length by omega] at hfin
  simpa using hfin
 ·have:∀k,k≤l.length→missing sk (Array.replicate l.length false) k=missing sk #[] k:=fun k=>by
   induction k with
   | zero=>intro _;rfl
   | succ k ih=>
    intro hk
    simp only [missing]
    rw [ih ab]
    have:(Array.replicate l.length false).getD k false=false:=by simp [show k < l.length by omega]
    rw [this];rfl
  exact this nA hsz
 ·exfalso
  by_cases h:j < l.length
  ·simp [h] at hj
  ·simp [h] at hj
 ·exfalso
  by_cases h:i < l.length
  ·simp [h] at hi
  ·simp [h] at hi
 ·have h1:=(oA S ds nms).go _ _ _ a _ (oB hs)
  have hf:∀j,(Array.replicate l.length false).getD j false=false:=fun j=>by
   by_cases h:j < l.length<;>simp [h]
  refine (Wk.less (S:=S.clear ds nms) (S':=(S.clear ds nms).part (fun j=>(Array.replicate l.length false).getD j false) done.reverse) (fun t av h=> ?_) (fun x c h=> ?_) fun _ _ h=>h).go _ _ _ a _ h1
  ·have h:(match vG (fun j=>(Array.replicate l.length false).getD j false) 0 done.reverse t with | some av=>some av | none=>(S.clear ds nms).sl t)=some av:=h
   split at h
   ·rename_i av' h2
    obtain ⟨j,A,_,h3,_⟩:=fV h2
    rw [hf] at h3;cases h3
   ·exact h
  ·have h:(match vH (fun j=>(Array.replicate l.length false).getD j false) 0 done.reverse x with | some c=>some c | none=>(S.clear ds nms).ch x)=some c:=h
   split at h
   ·rename_i av' h2
    obtain ⟨j,A,_,h3,_⟩:=fX h2
    rw [hf] at h3;cases h3
   ·exact h
end
end Go.Proofs.Ytfpcfckocmmcnaa
namespace Go.Proofs.Ytfpcfckocmmcnaa
open Go.RowKit
def ur:bW:=fun _=>none
def Hv (w:World) (x:Nm) (c:Ch) (h:Hd) (r:Nat→Hd):Prop:=∀η:Env,(∀i,η.r x i=r i)→eD η ur w x h c
abbrev Lay:=List (Nm×(Ch×Hd×(Nat→Hd)))
def q9 (l:Lay):Env:= { h:=fun x=>(lk x l).map fun q=>q.2.1,r:=fun x i=>match lk x l with | some q=>q.2.2 i | none=>⟨none,0,1⟩ }
theorem CY {α β:Type} (f:α→β):∀(l:List (Nat×α)) (x:Nat),lk x (l.map fun p=>(p.1,f p.2))=(lk x l).map f
 | [],x=>rfl
 | p :: r,x=>by
  simp only [List.map_cons,lk]
  rw [CY f r x]
  cases Nat.beq x p.1<;>rfl
theorem mem_of {w:World} {l:Lay} (h:∀p∈l,Hv w p.1 p.2.1 p.2.2.1 p.2.2.2):Mem (q9 l) ur w (fun x=>lk x (l.map fun p=>(p.1,p.2.1))):=by
 have hl:∀x,lk x (l.map fun p=>(p.1,p.2.1))=(lk x l).map fun q=>q.1:=fun x=>CY (fun q=>q.1) l x
 refine ⟨fun x c hx=> ?_,fun x hx=> ?_⟩
 ·replace hx:=(hl x).symm.trans hx
  obtain ⟨q,hq,rfl⟩:=Option.map_eq_some_iff.1 hx
  refine ⟨q.2.1,by simp [q9,hq],h (x,q) (k8 hq) _ fun i=>by simp [q9,hq]⟩
 ·replace hx:=(hl x).symm.trans hx
  have:lk x l=none:=by simpa using hx
  simp [q9,this]
theorem nc {l:Lay} {x:Nm} {q:Ch×Hd×(Nat→Hd)} {n:Nat} (h:lk x l=some q):dm (q9 l) (.sl x 0 n) (.slice q.2.1.ao n q.2.1.c):=
 ⟨⟨_,_,rfl⟩,fun h' hh=>by
  have hh:(lk x l).map (fun q=>q.2.1)=some h':=hh
  rw [h] at hh;simp at hh;subst hh
  exact ⟨_,rfl,fun _=>rfl,fun h0=>absurd h0 ab⟩⟩
theorem Jh {E:Nat} {w:World} {v:Value} {zs:List Int} (x E':Nat) (h:jV E w v zs):∃hd r,v= .slice hd.ao zs.length hd.c∧Hv w x ⟨false,E',1, .cz (aV zs)⟩ hd r:=by
 obtain ⟨ao,n,c,rfl,ho⟩:=h
 have hl:=ho.len
 simp at hl
 subst hl
 refine ⟨⟨ao,c,1⟩,fun _=>⟨none,0,1⟩,rfl,fun η _=>⟨rfl, ?_,fun j hj=> ?_⟩⟩
 ·show (aV zs).length≤c * 1
  rw [bD,Nat.mul_one]
  rcases Nat.eq_zero_or_pos zs.length with h0 | h0
  ·omega
  ·obtain ⟨g,_,_,_,h1,_⟩:=ho.form h0;exact h1
 ·have hj:j < zs.length:=by have:j < (aV zs).length:=hj;rwa [bD] at this
  obtain ⟨g,rfl,_,hlt,_,hc,_⟩:=ho.form ab
  refine ⟨g,0,I6 (aD zs j),rfl,rfl,hlt, ?_,ck hj⟩
  rw [Nat.zero_add,hc j hj]
  exact ck hj
theorem G2 {E1 E:Nat} {w:World} {lo hi:Nat} {v:Value} {zss:List (List Int)} (x E' E1':Nat) (h:pP E1 E w lo hi v zss):∃hd r,v= .slice hd.ao zss.length hd.c∧Hv w x ⟨false,E',1, .rows E1' (bU zss) []⟩ hd r:=by
 obtain ⟨ao,n,c,us,rfl,ho⟩:=h
 have hl:=ho.len
 subst hl
 have hr:∀j,∃q:Hd,q.k=1∧∀u d,us[j]? =some u→zss[j]? =some d→u=Value.slice q.ao d.length q.c∧∀(η:Env),DB ur w q (aV d).length fun i u=>(aV d)[i]? =some u:=fun j=>by
  by_cases hj:j < zss.length
  ·obtain ⟨u,d,hu,hd,⟨a',n',c',rfl,h1⟩,_⟩:=ho.get hj
   have hl:=h1.len
   simp at hl
   subst hl
   refine ⟨⟨a',c',1⟩,rfl,fun u2 d2 hu2 hd2=> ?_⟩
   rw [hu] at hu2;rw [hd] at hd2
   obtain rfl:=Option.some.inj hu2
   obtain rfl:=Option.some.inj hd2
   obtain ⟨hd',r',e1,e2⟩:=Jh x E' (⟨a',_,c',rfl,h1⟩:jV E1 w _ d)
   injection e1 with f1 f2 f3
   refine ⟨rfl,fun η=> ?_⟩
   have e3:=e2 { h:=fun _=>none,r:=fun _=>r' } (fun _=>rfl)
   obtain ⟨e4,e5⟩:=e3
   have e5:DB ur w hd' (aV d).length _:=e5
   have:hd'=⟨a',c',1⟩:=by
    cases hd';simp at f1 f3 e4;simp [f1,f3,e4]
   subst this
   exact e5
  ·refine ⟨⟨none,0,1⟩,rfl,fun u d _ hd=> ?_⟩
   rw [List.getElem?_eq_none ab] at hd;cases hd
 refine ⟨⟨ao,c,1⟩,fun j=>Classical.choose (hr j),rfl,fun η he=>⟨rfl, ?_,fun j hj=> ?_⟩⟩
 ·show (bU zss).length≤c * 1
  rw [cB,Nat.mul_one]
  rcases Nat.eq_zero_or_pos zss.length with h0 | h0
  ·omega
  ·obtain ⟨g,_,_,_,h1,_⟩:=ho.own.form h0;exact h1
 ·have hj:j < zss.length:=by have:j < (bU zss).length:=hj;rwa [cB] at this
  obtain ⟨g,rfl,_,hlt,_,hc,_⟩:=ho.own.form ab
  obtain ⟨u,d,hu,hd,h1,_⟩:=ho.get hj
  have hs:=Classical.choose_spec (hr j)
  obtain ⟨k1,k2⟩:=hs.2 u d hu hd
  refine ⟨g,0,u,rfl,rfl,hlt,by rw [Nat.zero_add,hc j hj,hu],by rw [k1];rfl,fun _ vs hvs=> ?_⟩
  have hvd:vs=aV d:=by
   have:(bU zss)[j]? =some (aV d):=by simp [bU,hd]
   rw [this] at hvs;exact (Option.some.inj hvs).symm
  subst hvd
  rw [he j]
  exact ⟨by rw [k1,bD],hs.1,k2 η⟩
theorem FC.call {P:Program} {f:FuncId} {ins outs:List (Nm×Ch)} {args:List AV} {res:AV} {back:List (Nat×AV)} (h:FC P f ins args outs res back) {w:World} {l:Lay} {us:List Value} (hl:∀p∈l,Hv w p.1 p.2.1 p.2.2.1 p.2.2.2) (hi:(l.map fun p=>(p.1,p.2.1))=ins)
  (hd:nd (q9 l) args us):Calls P f us.toArray w fun e w'=>∃v η ω,e= .returned v∧Den η res v∧Mem η ω w' (fun x=>lk x outs)∧Below w.heap.size w w'∧∀b,b < w.heap.size→ω b=none:=by
 subst hi
 refine (h w (q9 l) ur us (mem_of hl) hd).mono ?_
 rintro e w' ⟨v,η,ω,he,h1,h2,h3,_⟩
 exact ⟨v,η,ω,he,h1,h2,⟨h3.os,h3.tape,h3.output,h3.size,fun b hb=>(h3.block b hb rfl).1⟩,fun b hb=>(h3.block b hb rfl).2⟩
section
variable {η:Env} {ω:bW} {w':World} {lo:Nat} {outs:List (Nm×Ch)}
theorem fj.own {ow:Nm×Option Nat} {h:Hd} {E:Nat} {xs:List Value} {len:Nat} {cell:Nat→Value→Prop} (hk:h.k=1) (hv:fj ω w' ow h E len cell) (hlo:∀b,b < lo→ω b=none) (hn:len≤4398046511104) (hx:xs.length=len)
  (hc:∀j u,j < len→(∃b o,h.ao=some ⟨b,o,none⟩∧w'.cell? ⟨b,o + j,none⟩=some u)→xs[j]? =some u):
  Own w' lo E h.ao len h.c xs∧∀g,bk h.ao=some g→g < w'.heap.size∧ω g=some ow:=by
 rcases hv with ⟨h1,h2,h3⟩ | ⟨b,o,cs,h1,h2,h3,⟨h4,h4'⟩,h5,h6,h7⟩
 ·subst h3
  refine ⟨⟨⟨by simpa using hx, .inl ⟨by rw [h1,h2],rfl⟩⟩,hn⟩,fun g hg=>by rw [h1] at hg;cases hg⟩
 ·subst h4
  rw [hk,Nat.mul_one] at h4' h5
  have hb:lo≤b:=by
   rcases Nat.lt_or_ge b lo with h8 | h8
   ·rw [hlo b h8] at h2;cases h2
   ·exact h8
  refine ⟨⟨⟨by simpa using hx, .inr ⟨b,h.c,cs,by rw [h1],hb,h3,h5,h6,by rw [h4',Nat.mul_one], ?_⟩⟩,hn⟩,fun g hg=> ?_⟩
  ·apply List.ext_getElem?
   intro j
   rw [Nat.mul_one,List.getElem?_take]
   by_cases hj:j < len
   ·obtain ⟨u,hu,_⟩:=h7 j hj
    rw [Nat.zero_add] at hu
    rw [if_pos hj,hc j u hj ⟨b,0,h1,by rw [Nat.zero_add,cell_of_row w' b j cs E (0,0) h3];exact hu⟩]
    simpa using hu
   ·rw [if_neg hj,List.getElem?_eq_none ab]
  ·rw [h1] at hg
   simp [bk] at hg
   subst hg
   exact ⟨ff h3,h2⟩
theorem I8 {x E:Nat} {zs:List Int} {v:Value} (hm:Mem η ω w' (fun x=>lk x outs)) (hlo:∀b,b < lo→ω b=none) (hx:lk x outs=some ⟨true,E,1, .cz (aV zs)⟩) (hv:dm η (.sl x 0 zs.length) v) (hn:zs.length≤4398046511104):ry E w' lo w'.heap.size v zs:=by
 obtain ⟨h,h1,h2,h3⟩:=hm.1 x _ hx
 obtain ⟨ao,rfl,h4,_⟩:=hv.2 h h1
 have h3:fj ω w' (x,none) h E (aV zs).length (cR η ω w' true x (.cz (aV zs))):=h3
 rw [h4 rfl,Nat.sub_zero]
 obtain ⟨k1,k2⟩:=fj.own (xs:=aV zs) h2 h3 hlo (by rw [bD];exact hn) rfl fun j u hj ⟨b,o,e1,e2⟩=>by
  obtain ⟨b',o',u',f1,f2,f3⟩:=lQ.get (own:=true) h3 hj
  rw [e1] at f1;injection f1 with f1;injection f1 with f1 f1';subst f1 f1'
  rw [e2] at f2
  obtain rfl:=Option.some.inj f2
  exact f3
 rw [bD] at k1
 exact ⟨⟨_,_,_,rfl,k1.mono (Nat.zero_le _)⟩,fun g hg=>by
  rw [bN] at hg
  exact ⟨(k1.lt g hg).1,(k2 g hg).1⟩⟩
theorem Ia {x E F:Nat} {zss:List (List Int)} {v:Value} (hm:Mem η ω w' (fun x=>lk x outs)) (hlo:∀b,b < lo→ω b=none) (hx:lk x outs=some ⟨true,E,1, .rows F (bU zss) []⟩) (hv:dm η (.sl x 0 zss.length) v) (hn:zss.length≤4398046511104) (hr:∀zs∈zss,zs.length≤4398046511104):
  pP F E w' lo w'.heap.size v zss:=by
 obtain ⟨h,h1,h2,h3⟩:=hm.1 x _ hx
 obtain ⟨ao,rfl,h4,_⟩:=hv.2 h h1
 have h3:fj ω w' (x,none) h E (bU zss).length (cR η ω w' true x (.rows F (bU zss) [])):=h3
 rw [h4 rfl,Nat.sub_zero]
 have hlen:(bU zss).length=zss.length:=cB zss
 obtain ⟨us,hus,hul⟩:∃us:List Value,(∀j,j < zss.length→us[j]? =some (.slice (η.r x j).ao (aT zss j).length (η.r x j).c))∧us.length=zss.length:=
  ⟨(List.range zss.length).map fun j=> .slice (η.r x j).ao (aT zss j).length (η.r x j).c,fun j hj=>by simp [hj],by simp⟩
 have cell:∀j,j < zss.length→∃b o,h.ao=some ⟨b,o,none⟩∧w'.cell? ⟨b,o + j,none⟩=some (.slice (η.r x j).ao (aT zss j).length (η.r x j).c)∧(η.r x j).k=1∧fj ω w' (x,some j) (η.r x j) F (aV (aT zss j)).length fun i u=>(aV (aT zss j))[i]? =some u:=fun j hj=>by
  obtain ⟨b',o',u',f1,f2,f3,f4⟩:=lQ.get (own:=true) h3 (j:=j) (by rw [hlen];exact hj)
  obtain ⟨g1,g2,g3⟩:=f4 (by simp) (aV (aT zss j)) (bV hj)
  rw [bD] at g1
  exact ⟨b',o',f1,by rw [f2,g1],g2,g3⟩
 obtain ⟨k1,k2⟩:=fj.own (xs:=us) h2 h3 hlo (by rw [hlen];exact hn) (by rw [hul,hlen]) fun j u hj ⟨b,o,e1,e2⟩=>by
  rw [hlen] at hj
  obtain ⟨b',o',f1,f2,_⟩:=cell j hj
  rw [e1] at f1;injection f1 with f1;injection f1 with f1 f1';subst f1 f1'
  rw [e2] at f2
  rw [hus j hj,Option.some.inj f2]
 rw [hlen] at k1
 have row:∀j,j < zss.length→Own w' lo F (η.r x j).ao (aT zss j).length (η.r x j).c (aV (aT zss j))∧∀g,bk (η.r x j).ao=some g→g < w'.heap.size∧ω g=some (x,some j):=fun j hj=>by
  obtain ⟨_,_,_,_,g2,g3⟩:=cell j hj
  have hb:(aT zss j).length≤4398046511104:=hr _ (fA hj)
  have:=fj.own (lo:=lo) (xs:=aV (aT zss j)) g2 g3 hlo (by rw [bD];exact hb) rfl fun i u hi ⟨b,o,e1,e2⟩=>by
   obtain ⟨b',o',u',f1,f2,f3⟩:=lQ.get (own:=true) g3 hi
   rw [e1] at f1;injection f1 with f1;injection f1 with f1 f1';subst f1 f1'
   rw [e2] at f2
   obtain rfl:=Option.some.inj f2
   exact f3
  rw [bD] at this
  exact this
 have hlt:∀ {j:Nat} {u:Value},us[j]? =some u→j < zss.length∧u= .slice (η.r x j).ao (aT zss j).length (η.r x j).c:=fun {j u} hu=>by
  have hj:j < zss.length:=by have:=(List.getElem?_eq_some_iff.1 hu).1;omega
  rw [hus j hj] at hu
  exact ⟨hj,(Option.some.inj hu).symm⟩
 refine ⟨_,_,_,us,rfl, { own:=k1,top:=fun g hg=>(k2 g hg).1,len:=rfl,el:=fun j u d hu hd=> ?_,rng:=fun j u hu g hg=> ?_,out:=fun j u g hu hg=> ?_,apart:=fun i j u u' g hij hu hu' hg=> ?_ }⟩
 ·obtain ⟨hj,rfl⟩:=hlt hu
  have:d=aT zss j:=(hU hd).symm
  subst this
  exact ⟨_,_,_,rfl,(row j hj).1.mono (Nat.zero_le _)⟩
 ·obtain ⟨hj,rfl⟩:=hlt hu
  rw [bN] at hg
  exact ⟨((row j hj).1.lt g hg).1,((row j hj).2 g hg).1⟩
 ·obtain ⟨hj,rfl⟩:=hlt hu
  rw [bN] at hg
  intro e
  have h8:=((row j hj).2 g hg).2
  rw [(k2 g e).2] at h8
  simp at h8
 ·obtain ⟨hi,rfl⟩:=hlt hu
  obtain ⟨hj,rfl⟩:=hlt hu'
  rw [bN] at hg ⊢
  intro e
  have h8:=((row i hi).2 g hg).2
  rw [((row j hj).2 g e).2] at h8
  simp at h8
  omega
end
theorem jG {P:Program} {f:FuncId} {ins:List (Nm×Ch)} {args:List AV} {r:Value} (h:∀w η ω us,Mem η ω w (fun x=>lk x ins)→nd η args us→Calls P f us.toArray w fun e w'=>e= .returned r∧Below w.heap.size w w'):FC P f ins args [] (vv r) []:=by
 intro w η ω us hm hd
 refine (h w η ω us hm hd).mono ?_
 rintro e w' ⟨rfl,hb⟩
 exact ⟨r, { h:=fun _=>none,r:=η.r },ω,rfl,rfl,⟨fun x c hx=>(nomatch hx),fun x _=>rfl⟩,⟨hb.os,hb.tape,hb.output,hb.size,fun b hlt hn=>⟨hb.block b hlt,hn⟩⟩,fun t av ht=>(nomatch ht)⟩
section
variable {η:Env} {ω:bW} {w:World} {ins:List (Nm×Ch)}
theorem Jn {x:Nat} {own:Bool} {E:Nat} {zs:List Int} {v:Value} (hm:Mem η ω w (fun x=>lk x ins)) (hx:lk x ins=some ⟨own,E,1, .cz (aV zs)⟩) (hv:dm η (.sl x 0 zs.length) v) (hn:zs.length≤17592186044416):∃ao c,v= .slice ao zs.length c∧cW w ao zs.length zs:=by
 obtain ⟨h,h1,h2,h3⟩:=hm.1 x _ hx
 obtain ⟨ao,rfl,h4,_⟩:=hv.2 h h1
 have h3:lQ own ω w (x,none) h E (aV zs).length (cR η ω w own x (.cz (aV zs))):=h3
 rw [h4 rfl]
 refine ⟨_,_,rfl,rfl,hn,fun h0=> ?_⟩
 obtain ⟨b,o,u,f1,_,_⟩:=h3.get (j:=0) (by rw [bD];exact h0)
 refine ⟨b,o,f1,fun j hj=> ?_⟩
 obtain ⟨b',o',u',g1,g2,g3⟩:=h3.get (j:=j) (by rw [bD];exact hj)
 rw [f1] at g1;injection g1 with g1;injection g1 with g1 g1';subst g1 g1'
 have g3:(aV zs)[j]? =some u':=g3
 rw [ck hj] at g3
 rw [g2,←g3]
theorem IV {x:Nat} {own:Bool} {E F:Nat} {zss:List (List Int)} {v:Value} (hm:Mem η ω w (fun x=>lk x ins)) (hx:lk x ins=some ⟨own,E,1, .rows F (bU zss) []⟩) (hv:dm η (.sl x 0 zss.length) v) (hn:zss.length≤17592186044416) (hr:∀zs∈zss,zs.length≤17592186044416):∃ao c,v= .slice ao zss.length c∧ep w ao zss.length zss:=by
 obtain ⟨h,h1,h2,h3⟩:=hm.1 x _ hx
 obtain ⟨ao,rfl,h4,_⟩:=hv.2 h h1
 have h3:lQ own ω w (x,none) h E (bU zss).length (cR η ω w own x (.rows F (bU zss) [])):=h3
 rw [h4 rfl]
 refine ⟨_,_,rfl,rfl,hn,fun h0=> ?_⟩
 obtain ⟨b,o,u,f1,_,_⟩:=h3.get (j:=0) (by rw [cB];exact h0)
 refine ⟨b,o,f1,fun j hj=> ?_⟩
 obtain ⟨b',o',u',g1,g2,g3,g4⟩:=h3.get (j:=j) (by rw [cB];exact hj)
 rw [f1] at g1;injection g1 with g1;injection g1 with g1 g1';subst g1 g1'
 obtain ⟨k1,k2,k3⟩:=g4 (by simp) (aV (aT zss j)) (bV hj)
 rw [bD] at k1
 refine ⟨u',g2,_,_,_,k1,rfl,hr _ (fA hj),fun h0=> ?_⟩
 obtain ⟨b2,o2,u2,m1,_,_⟩:=k3.get (j:=0) (by rw [bD];exact h0)
 refine ⟨b2,o2,m1,fun i hi=> ?_⟩
 obtain ⟨b3,o3,u3,n1,n2,n3⟩:=k3.get (j:=i) (by rw [bD];exact hi)
 rw [m1] at n1;injection n1 with n1;injection n1 with n1 n1';subst n1 n1'
 rw [ck hi] at n3
 rw [n2,←n3]
end
end Go.Proofs.Ytfpcfckocmmcnaa
namespace Go.Proofs.Ytfpcfckocmmcnaa
open Go.RowKit
section
variable {P:Program} {nt:Nat} {S S1 S2:St} {w0 w:World} {ω0:lI} {ω:bW} {η:Env} {a:Act} {Q:Exit→Act→World→Prop} {ops:Array Oper} {rest:List Oper}
variable {t:Nat} {ty:TypeId} {ps:String} {af:Array Edge} {gd:Option (Nat×Bool)} {x y:Operand} {av:AV} {o:Oper}
theorem AL (x y:Nat):Nat.beq x y=Nat.beq y x:=by
 cases h:Nat.beq x y with
 | true=>rw [beq_true h];simp
 | false=>
  cases h2:Nat.beq y x with
  | false=>rfl
  | true=>rw [beq_true h2] at h;simp at h
theorem nz (x y:Nm) (c:Ch):jo [(x,c)] y=Nat.beq x y:=by
 unfold jo;simp only [lk]
 rw [AL x y]
 cases Nat.beq y x<;>rfl
theorem vk (x:Nm) (c:Ch) (a:A1):a.bad (jo [(x,c)]) (iZ [])=a.has x:=by
 cases a with
 | val v=>rfl
 | any=>rfl
 | sl y _ _=>exact nz x y c
 | ptr y _=>show (jo [(x,c)] y && !iZ [] y)=_;rw [nz];simp [iZ,A1.has]
 | esl y _ _ _=>exact nz x y c
 | eptr y _ _=>exact nz x y c
 | clo f xs=>show xs.any (fun p=>jo [(x,c)] p.1 && !iZ [] p.1)=xs.any fun p=>Nat.beq x p.1;congr 1;funext p;rw [nz];simp [iZ]
theorem wT (x:Nm) (c:Ch) (a:A2):a.bad (jo [(x,c)]) (iZ [])=a.has x:=by
 cases a with
 | one a=>exact vk x c a
 | agg l=>show l.any _=l.any _;congr 1;funext a;exact vk x c a
theorem vZ (x:Nm) (c:Ch) (a:AV):a.bad (jo [(x,c)]) (iZ [])=a.has x:=by
 cases a with
 | s a=>exact wT x c a
 | tup l=>show l.any _=l.any _;congr 1;funext a;exact wT x c a
theorem Bu (x:Nm) (c d:Ch):d.clean (jo [(x,c)]) (iZ [])=d.forget x:=by
 obtain ⟨ow,E,k,d⟩:=d
 unfold Ch.clean Ch.forget fQ.clean fQ.forget
 cases d with
 | flat l=>
  have:(l.map fun a=>bif a.bad (jo [(x,c)]) (iZ []) then A1.any else a)=l.map (A1.forget x):=List.map_congr_left fun a _=>by rw [vk];rfl
  simp only [this]
 | cz vs=>rfl
 | rows F vss hs=>rfl
 | mix cs=>rfl
theorem Bk {ins:List (Nm×Ch)} {t:Nat} {res:AV} {x:Nm} {c:Ch} (hro:(ins.all fun p=> !p.2.own)=true):Wk ((S.after ins [(x,c)] []).G7 (some t) res) ((S.new x c).put t res):=by
 have hc:∀x,gC ins x=false:=fun x=>by
  unfold gC
  cases h:lk x ins with
  | none=>rfl
  | some c=>have:=List.all_eq_true.1 hro _ (k8 h);simpa using this
 refine Wk.less (fun t' av h=> ?_) (fun y d h=> ?_) fun t' av h=> ?_
 ·rw [kU] at h
  show ((S.after ins [(x,c)] []).put t res).sl t'=some av
  rw [kU]
  by_cases e:t'=t
  ·rw [if_pos e] at h ⊢;exact h
  ·rw [if_neg e] at h ⊢
   obtain ⟨h1,h2⟩:=CW h
   show ((S.sl t').bind fun av=>bif av.bad (jo [(x,c)]) (iZ []) then none else some av)=some av
   rw [h1,Option.bind_some,vZ,h2];rfl
 ·have h':(S.new x c).ch y=some d:=h
  clear h
  rw [vl] at h'
  show (match lk y [(x,c)] with | some c=>some c | none=>bif gC ins y then none else (S.ch y).map (Ch.clean (jo [(x,c)]) (iZ [])))=some d
  simp only [lk]
  by_cases e:y=x
  ·rw [if_pos e] at h';subst e;simpa using h'
  ·rw [if_neg e] at h'
   rw [dC e,cond_false,hc,cond_false]
   have:Ch.clean (jo [(x,c)]) (iZ [])=Ch.forget x:=funext fun d=>Bu x c d
   rw [this];exact h'
 ·have h:(S.new x c).ph t'=some av:=h
  obtain ⟨h1,h2⟩:=Cs h
  show ((S.ph t').bind fun av=>bif av.bad (jo [(x,c)]) (iZ []) then none else some av)=some av
  rw [h1,Option.bind_some,vZ,h2];rfl
theorem dK {f:FuncId} {xs:Array Operand} {ts:Array TypeId} {ins:List (Nm×Ch)} {args args':List AV} {res:AV} {back:List (Nat×AV)} {x:Nm} {c:Ch}
  (hfc:FC P f ins args [(x,c)] res back) (hf:yf P f=true) (ht:Nat.blt t nt=true) (hx':EX S xs.toList=some args') (hto:xF args' args) (hin:rL S ins) (hro:(ins.all fun p=> !p.2.own)=true) (hnr:(res.names.all (jo [(x,c)]))=true) (hno:([(x,c)].all fun p=>p.2.own && p.2.names.all (jo [(x,c)]))=true):
  dx P nt ⟨some t, .call { callee:= .value (.func f),args:=xs,argTypes:=ts },ty,ps,af,gd⟩ S ((S.new x c).put t res):=
 (cX (kp:= []) hfc hf (by simp [ht]) hx' hto hin trivial hnr hno).wk (Bk hro)
theorem ED {x:Nm×Option Nat} {w':World} {lo E n c:Nat} {ao:Option Addr} {xs:List Value} (h:Own w' lo E ao n c xs) {ω':bW} (ho:∀g,bk ao=some g→ω' g=some x):fj ω' w' x ⟨ao,c,1⟩ E xs.length fun j u=>xs[j]? =some u:=by
 have hl:=h.len
 rcases h.1.2 with ⟨h2,h3⟩ | ⟨g,cap,cur,hv,hg,hh,h4,h5,h6,h7⟩
 ·injection h2 with e1 e2 e3
  subst e1 e3
  exact .inl ⟨rfl,rfl,ab⟩
 ·injection hv with e1 e2 e3
  subst e1 e3
  refine .inr ⟨g,0,cur,rfl,ho g rfl,hh,⟨rfl,h6⟩,by show xs.length≤c * 1;omega,h5,fun j hj=> ?_⟩
  have h8:xs[j]? =some xs[j]:=List.getElem?_eq_getElem hj
  refine ⟨xs[j], ?_,h8⟩
  have h9:(cur.toList.take (n * 1))[j]? =some xs[j]:=by rw [h7];exact h8
  rw [List.getElem?_take] at h9
  split at h9
  ·rw [Nat.zero_add];simpa using h9
  ·cases h9
theorem AW {f:FuncId} {ins:List (Nm×Ch)} {args:List AV} {x E:Nat} {zs:List Int} (h:∀w η ω us,Mem η ω w (fun x=>lk x ins)→nd η args us→Calls P f us.toArray w fun e w'=>∃ao c,e= .returned (.slice ao zs.length c)∧Own w' w.heap.size E ao zs.length c (aV zs)∧Below w.heap.size w w'):
  FC P f ins args [(x,⟨true,E,1, .cz (aV zs)⟩)] (o1 (.sl x 0 zs.length)) []:=by
 intro w η ω us hm hd
 refine (h w η ω us hm hd).mono ?_
 rintro e w' ⟨ao,c,rfl,ho,hb⟩
 refine ⟨_, { h:=fun y=>if y=x then some ⟨ao,c,1⟩ else none,r:=η.r },fun b=>if bk ao=some b then some (x,none) else ω b,rfl,⟨⟨_,_,rfl⟩,fun hd' he=> ?_⟩,⟨fun y d hy=> ?_,fun y hy=> ?_⟩,⟨hb.os,hb.tape,hb.output,hb.size,fun b hlt hn=>⟨hb.block b hlt, ?_⟩⟩,fun t av ht=>(nomatch ht)⟩
 ·simp only [if_true,Option.some.injEq] at he
  subst he
  exact ⟨_,rfl,fun _=>rfl,fun h0=>absurd h0 ab⟩
 ·have hy:lk y [(x,(⟨true,E,1, .cz (aV zs)⟩:Ch))]=some d:=hy
  simp only [lk] at hy
  cases hb':Nat.beq y x with
  | false=>rw [hb'] at hy;simp at hy
  | true=>
   rw [hb'] at hy;simp at hy;subst hy
   obtain rfl:=beq_true hb'
   exact ⟨⟨ao,c,1⟩,if_pos rfl,rfl,ED ho fun g hg=>if_pos hg⟩
 ·have hy:lk y [(x,(⟨true,E,1, .cz (aV zs)⟩:Ch))]=none:=hy
  have:y≠x:=fun e=>by subst e;simp [lk] at hy
  exact if_neg this
 ·show (if bk ao=some b then some (x,none) else ω b)=none
  rw [if_neg fun e=>by have:=(ho.lt b e).1;omega];exact hn
theorem oY {T E F z m:Nat} {x0:Operand} {vs:List Value} (ht:Nat.blt t nt=true) (hT:tS P T E 1=true) (hx:S.op x0=some (o1 (.sl z 0 m))) (hz:S.ch z=some ⟨true,F,1, .cz vs⟩) (hm:vs.length=m) (hzt:Nat.beq z t=false):
  dx P nt ⟨some t, .buildSlice T 1 #[(0,x0)],ty,ps,af,gd⟩ S (((S.rm z).new t ⟨true,E,1, .rows F [vs] []⟩).put t (o1 (.sl t 0 1))):=
 dx.of _ fun w0 ω0 η ω a w hs=>by
  have hne:z≠t:=fun e=>by rw [e] at hzt;simp at hzt
  subst hm
  obtain ⟨i,zz,k1,k2,k3,k4,k5,k6⟩:=fW hT
  have hd0:dm η (.sl z 0 vs.length) (a.eval x0):=hs.kG hx
  have ho:(a.eval x0).oneCell'=true:=hd0.one fun v hv=>by cases hv
  obtain ⟨hz',z1,z2,z3⟩:=hs.chunk hz
  have z2:hz'.k=1:=z2
  have z3:fj ω w (z,none) hz' F vs.length (cR η ω w true z (.cz vs)):=z3
  obtain ⟨az,hav,q1,_⟩:=hd0.2 hz' z1
  refine ⟨.slice (some ⟨w.heap.size,0,none⟩) 1 1,w.alloc (.cells #[a.eval x0] E), ?_, ?_⟩
  ·simp [execOp,Instr.buildSlice,run_underlying k1,sizeOf,typeInfo,k2,k3,zeroValue,k5,Instr.fill,newRow,kF ho,zC]
  ·have hSz:(S.rm z).ch z=none:=by simp [iI]
   have calm:Calm (S.rm z) ω w (bW.l8 (bW.new ω w.heap.size (t,none)) z t 0) (w.alloc (.cells #[a.eval x0] E)):=⟨rfl,rfl,rfl,by simp,fun b hb hl=>by
    have hnew:bW.new ω w.heap.size (t,none) b=ω b:=by simp [bW.new,Nat.ne_of_lt hb]
    refine ⟨Below.heap_alloc w _ b hb, ?_⟩
    have h1:ω b≠some (z,none):=by
     rcases hl with h0 | ⟨y,j,c,h0,h1⟩
     ·rw [h0];simp
     ·rw [h0]
      intro e
      simp at e;rw [e.1,hSz] at h1;cases h1
    simp only [bW.l8,hnew,if_neg h1]⟩
   have key:eD ((η.drop z).new t ⟨some ⟨w.heap.size,0,none⟩,1,1⟩ fun _=>hz') (bW.l8 (bW.new ω w.heap.size (t,none)) z t 0) (w.alloc (.cells #[a.eval x0] E)) t ⟨some ⟨w.heap.size,0,none⟩,1,1⟩ ⟨true,E,1, .rows F [vs] []⟩:=by
    have hself:bW.new ω w.heap.size (t,none) w.heap.size=some (t,none):=by simp [bW.new]
    refine ⟨rfl, .inr ⟨w.heap.size,0,_,rfl, ?_,heap_alloc_new w _,⟨rfl,rfl⟩,Nat.le_refl _,by simp [maxLen],fun j hj=> ?_⟩⟩
    ·unfold bW.l8
     rw [hself,if_neg (by simp;exact fun e=>hne e.symm)]
    ·have hj0:j=0:=by simp [fQ.len] at hj;omega
     subst hj0
     refine ⟨a.eval x0,by simp,ho,fun _ vs' hvs'=> ?_⟩
     simp at hvs';subst hvs'
     have hr:((η.drop z).new t ⟨some ⟨w.heap.size,0,none⟩,1,1⟩ fun _=>hz').r t 0=hz':=by simp [Env.new]
     rw [hr]
     refine ⟨by rw [hav,q1 rfl,Nat.sub_zero],z2,fj.l8 z3 fun b hb hob=>⟨Below.heap_alloc w _ b hb, ?_⟩⟩
     have hnew:bW.new ω w.heap.size (t,none) b=ω b:=by simp [bW.new,Nat.ne_of_lt hb]
     simp only [bW.l8,hnew,hob,if_true]
   exact ⟨_,_,((hs.drop z).lay calm key).iP (by simpa using ht) gE⟩
theorem zp {n i z m:Nat} {E F s:Nat} {vss:List (List Value)} {vs:List Value} (hc:S.ch n=some ⟨true,E,1, .rows F vss []⟩) (hs0:S.sl s=some (o1 (.esl n i 0 m))) (hi:vss[i]? =some vs) (hm:vs.length=m) (hzn:Nat.beq z n=false):
  Wk S ((((S.rK n).set n ⟨true,E,1, .rows F vss [i]⟩).new z ⟨true,F,1, .cz vs⟩).put s (o1 (.sl z 0 m))):=by
 have hne:z≠n:=fun e=>by rw [e] at hzn;simp at hzn
 subst hm
 refine ⟨fun w0 ω0 nt a w ⟨η,ω,h⟩=> ?_⟩
 obtain ⟨u,hu,hdu⟩:=h.slots s _ hs0
 have hdu:dm η (.esl n i 0 vs.length) u:=hdu
 obtain ⟨hd,e1,e2,e3⟩:=h.chunk hc
 have e3:fj ω w (n,none) hd E vss.length (cR η ω w true n (.rows F vss [])):=e3
 obtain ⟨ao,rfl,q1,_⟩:=hdu.2 hd e1
 have hil:i < vss.length:=(List.getElem?_eq_some_iff.1 hi).1
 obtain ⟨b0,o0,u0,_,_,g3⟩:=lQ.get (own:=true) e3 hil
 obtain ⟨r1,r2,r3⟩:=g3.2 (by simp) vs hi
 have r3:fj ω w (n,some i) (η.r n i) F vs.length fun j u=>vs[j]? =some u:=r3
 let ω':bW:=fun b=>if ω b=some (n,some i) then some (z,none) else ω b
 have calm:Calm (S.rm n) ω w ω' w:=⟨rfl,rfl,rfl,Nat.le_refl _,fun b _ hl=>⟨rfl,by
  have h1:ω b≠some (n,some i):=by
   rcases hl with h0 | ⟨y,j,c,h0,h1⟩
   ·rw [h0];simp
   ·rw [h0];intro e;simp at e;rw [e.1,iI,if_pos rfl] at h1;cases h1
  exact if_neg h1⟩⟩
 have key:eD { η with r:=fun y j=>if y=n then η.r n j else η.r y j } ω' w n hd ⟨true,E,1, .rows F vss [i]⟩:=by
  refine ⟨e2, ?_⟩
  rcases e3 with h0 | ⟨b,o,cs,f1,f2,f3,f4,f5,f6,f7⟩
  ·exact .inl h0
  ·refine .inr ⟨b,o,cs,f1,(if_neg (by rw [f2];simp)).trans f2,f3,f4,f5,f6,fun j hj=> ?_⟩
   obtain ⟨u',hu',hk⟩:=f7 j hj
   refine ⟨u',hu',hk.1,fun hj' vs' hvs'=> ?_⟩
   obtain ⟨m1,m2,m3⟩:=hk.2 (by simp) vs' hvs'
   simp only [if_true]
   refine ⟨m1,m2,fj.same (fun b2 _ ho=>⟨rfl, ?_⟩) (fun _ _ h=>h) m3⟩
   show (if ω b2=some (n,some i) then some (z,none) else ω b2)=_
   rw [if_neg (by rw [ho];simp;simpa using hj')];exact ho
 have h1:=h.rewrite (n:=n) (r:=η.r n) e1 calm key
 have h2:=h1.lay (x:=z) (c:=⟨true,F,1, .cz vs⟩) (hd:=η.r n i) (r:=fun _=>⟨none,0,1⟩) (Calm.refl _ _ _) ⟨r2,by
  show fj ω' w (z,none) (η.r n i) F vs.length _
  rcases r3 with h0 | ⟨b,o,cs,f1,f2,f3,f4,f5,f6,f7⟩
  ·exact .inl h0
  ·exact .inr ⟨b,o,cs,f1,if_pos f2,f3,f4,f5,f6,f7⟩⟩
 refine ⟨_,ω', { h2 with slots:=fun t' av ht'=> ?_ }⟩
 rw [kU] at ht'
 by_cases e:t'=s
 ·subst e
  rw [if_pos rfl] at ht'
  obtain rfl:=Option.some.inj ht'
  refine ⟨_,hu,⟨_,_,rfl⟩,fun hd' he=> ?_⟩
  simp [Env.new] at he
  subst he
  exact ⟨_,rfl,fun _=>q1 rfl,fun h0=>absurd h0 ab⟩
 ·rw [if_neg e] at ht'
  exact h2.slots t' av ht'
theorem qm {T:TypeId} {n i len l:Nat} {c:Ch} {F:TypeId} {vss:List (List Value)} {vs:List Value} {hi:Operand} {ki:IntKind} {z:Int} (ht:Nat.blt t nt=true) (hx:S.op x=some (o1 (.esl n i 0 len))) (hc:S.ch n=some c) (hd0:c.d= .rows F vss []) (hr:vss[i]? =some vs) (hT:lR P T 1=true)
  (hhi:S.op hi=some (vv (.int ki z))) (hz:z=(l:Int)) (hlh:l≤len) (hl:len≤vs.length):dx P nt ⟨some t, .slice T x none (some hi) none,ty,ps,af,gd⟩ S (S.put t (o1 (.esl n i 0 l))):=
 dx.pure rfl ht fun _ _ η ω a w hs=>by
  obtain ⟨hd,h1,h2,h3⟩:=hs.chunk hc
  have hd1:dm η (.esl n i 0 len) (a.eval x):=hs.kG hx
  obtain ⟨ao,e1,e2,e3⟩:=hd1.2 hd h1
  obtain ⟨e,inf,g1,g2,g3⟩:=m8 hT
  rw [hd0] at h3
  have hil:i < vss.length:=(List.getElem?_eq_some_iff.1 hr).1
  obtain ⟨b0,o0,u0,_,_,k3⟩:=h3.get (j:=i) hil
  obtain ⟨r1,r2,r3⟩:=k3.2 (by simp) vs hr
  have hcap:=r3.cap
  rw [r2,Nat.mul_one] at hcap
  rw [Nat.sub_zero] at e1
  have hrun:=rH (P:=P) (lo:=none) (hi:=some hi) (l:=0) (h:=l) (len:=len) (m:=(η.r n i).c) (ao:=ao) g1 g2 hs rfl ⟨ki,z,hhi,hz⟩ (Nat.zero_le _) ab
  refine ⟨.slice (if (η.r n i).c=0 then ao else ao.map (·.add (0 * inf.size))) (l - 0) ((η.r n i).c - 0),by simp only [execOp,e1];simp only [Option.map_none,Option.map_some] at hrun ⊢;simp [hrun],⟨_,_,rfl⟩,fun hd' he=> ?_⟩
  rw [h1] at he;obtain rfl:=Option.some.inj he
  refine ⟨_,rfl,fun h0=> ?_,fun h0 hlt=>absurd h0 ab⟩
  rw [e2 rfl]
  split
  ·rfl
  ·cases (η.r n i).ao<;>simp [Addr.add]
end
end Go.Proofs.Ytfpcfckocmmcnaa
namespace Go.Proofs.Ytfpcfckocmmcnaa
open Go.RowKit
section
variable {P:Program} {nt:Nat} {S S' S2:St} {t:Nat} {ty:TypeId} {ps:String} {af:Array Edge} {gd:Option (Nat×Bool)} {x y:Operand} {o:Oper}
end
end Go.Proofs.Ytfpcfckocmmcnaa
namespace Go.Proofs.Ytfpcfckocmmcnaa
open Go.RowKit
section
variable {P:Program} {nt:Nat} {S S1 S2:St} {w0 w:World} {ω0:lI} {ω:bW} {η:Env} {a:Act} {Q:Exit→Act→World→Prop} {ops:Array Oper} {rest:List Oper}
variable {t:Nat} {ty:TypeId} {ps:String} {af:Array Edge} {gd:Option (Nat×Bool)} {x y:Operand} {av:AV} {o:Oper}
end
end Go.Proofs.Ytfpcfckocmmcnaa
namespace Go.Proofs.Ytfpcfckocmmcnaa
open Go.RowKit
section
variable {P:Program} {nt:Nat} {w0 w:World} {ω0:lI} {S S1:St} {Q:Exit→Act→World→Prop} {a:Act}
inductive Jb (P:Program) (nt:Nat) (ops:Array Oper) (o:Oper) (S1:St) (A:Add):Prop where
 | run (hg:o.guard=none) (h:dx P nt o S1 (S1.add A))
 | yes {j d:Nat} {want:Bool} (hg:o.guard=some (j,want)) (hj:(ops[j]?).bind (·.dst)=some d) (hb:S1.sl d=some (vv (.bool want))) (h:dx P nt o S1 (S1.add A))
 | no {j d:Nat} {want:Bool} (hg:o.guard=some (j,want)) (hj:(ops[j]?).bind (·.dst)=some d) (hb:S1.sl d=some (vv (.bool (!want)))) (ht:o.dst=some A.t) (hn:Nat.blt A.t nt=true) (ha:A.av=vv undef) (hx:A.news=none)
inductive fR (P:Program) (nt:Nat) (ops0:Array Oper) (S:St) (cls:List (List Nat)) (sk:List Nat):List Oper→List Add→List Add→Prop where
 | nil {done:List Add} :fR P nt ops0 S cls sk [] done done
 | skip {o:Oper} {rest:List Oper} {done all:List Add} (A:Add) (hs:bJ sk done.length=true) (k:fR P nt ops0 S cls sk rest (A :: done) all):fR P nt ops0 S cls sk (o :: rest) done all
 | cons {o:Oper} {rest:List Oper} {done all:List Add} (A:Add)
   (h:∀S1,(S.gD (bJ (cls.getD done.length [])) done).le S1→Jb P nt ops0 o S1 A) (k:fR P nt ops0 S cls sk rest (A :: done) all):fR P nt ops0 S cls sk (o :: rest) done all
theorem fR.spec {ops0:Array Oper} {cls:List (List Nat)} {sk:List Nat} {ops:List Oper} {done all:List Add} (h:fR P nt ops0 S cls sk ops done all):(∃r,all.reverse=done.reverse ++ r∧r.length=ops.length)∧∀(i:Nat) (o:Oper),ops[i]? =some o→bJ sk (done.length + i)=false→
  ∃A,all.reverse[done.length + i]? =some A∧∀S1,(S.gD (bJ (cls.getD (done.length + i) [])) (all.reverse.take (done.length + i)).reverse).le S1→Jb P nt ops0 o S1 A:=by
 induction h with
 | nil=>exact ⟨⟨[],by simp⟩,fun i o h=>by simp at h⟩
 | @skip o rest done all A hs k ih=>
  obtain ⟨⟨r,hr,hl⟩,h2⟩:=ih
  refine ⟨⟨A :: r,by rw [hr];simp,by simp [hl]⟩,fun i o' hi hsk=> ?_⟩
  cases i with
  | zero=>rw [Nat.add_zero,hs] at hsk;cases hsk
  | succ i=>
   have e:(A :: done).length + i=done.length + (i + 1):=by simp;omega
   rw [←e] at hsk ⊢
   exact h2 i o' (by simpa using hi) hsk
 | @cons o rest done all A h k ih=>
  obtain ⟨⟨r,hr,hl⟩,h2⟩:=ih
  refine ⟨⟨A :: r,by rw [hr];simp,by simp [hl]⟩,fun i o' hi hsk=> ?_⟩
  cases i with
  | zero=>
   simp at hi;subst hi
   refine ⟨A,by rw [hr];simp,fun S1 hS=>h S1 ?_⟩
   have:(all.reverse.take (done.length + 0)).reverse=done:=by rw [hr];simp
   rw [this] at hS
   exact hS
  | succ i=>
   have e:(A :: done).length + i=done.length + (i + 1):=by simp;omega
   rw [←e] at hsk ⊢
   exact h2 i o' (by simpa using hi) hsk
theorem y7 {l:List Oper} {nA:Nat} {sk:List Nat} {cls:List (List Nat)} {ds nms:List Nat} {adds done:List Add} (hcl:CX l.toArray nA sk cls) (hdr:fR P nt l.toArray (S.clear ds nms) cls sk (l.take nA) [] done) (hdn:done.reverse=adds) (ok:lX adds cls ds nms)
  (hk:Rest P w0 ω0 nt l.toArray Q (l.length - missing sk #[] nA) (eS nA sk l.length) ((S.clear ds nms).part (fun j=> !bJ sk j) adds)):
  ∀(d:Nat) (L:Array Bool) (a:Act) (w:World),missing sk L nA=d→L.size=l.length→(∀j,L.getD j false=true→j < nA∧bJ sk j=false)→(∀i,L.getD i false=true→∀j∈cls.getD i [],L.getD j false=true)→
   Sat w0 ω0 nt ((S.clear ds nms).part (fun j=>L.getD j false) adds) a w→wpAny P .any l.toArray Q (l.length - missing sk #[] nA + d) L a w:=by
 have hsz:nA≤l.length:=by have:=hcl.size;simpa using this
 obtain ⟨⟨r,hr,hrl⟩,hob⟩:=hdr.spec
 rw [hdn] at hr hob
 have hal:adds.length=nA:=by rw [hr];simp [hrl];omega
 have hfull:∀(L:Array Bool) (i:Nat),i∈Region.ready .any l.toArray L→(∀i,L.getD i false=true→∀j∈cls.getD i [],L.getD j false=true)→(∃o,l.toArray[i]? =some o∧L.getD i true=false)∧∀j∈cls.getD i [],L.getD j false=true:=by
  intro L i hi hclosed
  obtain ⟨h0,o,ho,he⟩:=mem_ready.1 hi
  refine ⟨⟨o,ho,h0⟩,fun j hj=> ?_⟩
  obtain ⟨e,hem,hb,hje⟩:=hcl.dep i o ho j hj
  have h1:=he e hem hb
  rcases hje with rfl | hje
  ·exact h1
  ·exact hclosed e.on h1 j hje
 intro d
 induction d with
 | zero=>
  intro L a w hm hs hsub hclosed hsat
  have hall:=ei hm
  have hL:L=eS nA sk l.length:=by
   apply Array.ext
   ·simp [hs,eS]
   ·intro j h1 h2
    have h3:L[j]? =some L[j]:=Array.getElem?_eq_getElem h1
    have h4:=lH (nA:=nA) (sk:=sk) (n:=l.length) (j:=j) ab
    rw [Array.getElem?_eq_getElem h2] at h4
    rw [Option.some.inj h4]
    cases hb:L[j] with
    | true=>
     have:=hsub j (by simp [h1,hb])
     simp [this.1,this.2]
    | false=>
     by_cases hj:j < nA
     ·cases hsk:bJ sk j with
      | true=>simp
      | false=>
       have:=hall j hj hsk
       simp [h1,hb] at this
     ·simp [hj]
  refine hk.go a w ((St.le.wk (oz (ℓ1:=fun j=> !bJ sk j) (ℓ2:=fun j=>L.getD j false) ok (fun _ _ h=>h) fun j A hj hsk=> ?_) fun _ _ h=>h).go _ _ _ a w hsat) |> fun h=>by rw [←hL] at h;exact h
  have hjl:j < adds.length:=(List.getElem?_eq_some_iff.1 hj).1
  exact hall j ab (by simpa using hsk)
 | succ d ih=>
  intro L a w hm hs hsub hclosed hsat
  refine ⟨fun hnil=> ?_,fun i hi=> ?_⟩
  ·exfalso
   obtain ⟨j,hj,hjs',hjf,hlo⟩:=gb (k:=nA) (by omega:missing sk L nA≠0)
   have hjl:j < l.length:=by omega
   have hjs:j < L.size:=by omega
   have:j∈Region.ready .any l.toArray L:=by
    refine mem_ready.2 ⟨?_,l[j],by simp [hjl],fun e he hb=> ?_⟩
    ·simp [hjs] at hjf ⊢
     exact hjf
    ·have h5:=hcl.less j l[j] (by simp [hjl]) hj hjs' e he hb
     exact hlo e.on h5.1 h5.2
   rw [hnil] at this;cases this
  ·obtain ⟨⟨o,ho,hi0⟩,hdep⟩:=hfull L i hi hclosed
   have hil:i < l.length:=by have:=(Array.getElem?_eq_some_iff.1 ho).1;simpa using this
   have his:i < L.size:=by omega
   have hif:L.getD i false=false:=by simp [his] at hi0 ⊢;exact hi0
   have hnl:¬(nA≤i∨bJ sk i=true):=fun h=>by
    have:=eJ (sk:=sk) (L:=L) (k:=nA) fun j hj hsk=>hdep j (hcl.late i o ho h j hj hsk)
    omega
   have hiA:i < nA:=by
    rcases Nat.lt_or_ge i nA with h | h
    ·exact h
    ·exact absurd (.inl h) hnl
   have hisk:bJ sk i=false:=by
    cases hsk:bJ sk i with
    | false=>rfl
    | true=>exact absurd (.inr hsk) hnl
   have hot:(l.take nA)[i]? =some o:=by rw [List.getElem?_take,if_pos hiA];simpa using ho
   obtain ⟨A,hA,hstp⟩:=hob i o hot (by simpa using hisk)
   simp only [List.length_nil,Nat.zero_add] at hA hstp
   have hle:((S.clear ds nms).gD (bJ (cls.getD i [])) (adds.take i).reverse).le ((S.clear ds nms).part (fun j=>L.getD j false) adds):=gR ok (fun j B hj=>by
     rw [List.reverse_reverse] at hj
     rw [List.getElem?_take] at hj;split at hj
     ·exact hj
     ·cases hj) fun j B _ hj=>hdep j (cC.1 hj)
   have cont:∀a' w',Sat w0 ω0 nt (((S.clear ds nms).part (fun j=>L.getD j false) adds).add A) a' w'→wpAny P .any l.toArray Q (l.length - missing sk #[] nA + d) (L.setIfInBounds i true) a' w':=fun a' w' hsat'=>by
    have hsat2:=(uG ok hA hif fun j hj hm'=>by have:=hclosed j hj i hm';rw [hif] at this;cases this).go _ _ _ a' w' hsat'
    have hnew:∀j,(L.setIfInBounds i true).getD j false=(Nat.beq j i || L.getD j false):=fun j=>by
     by_cases e:j=i
     ·subst e;simp [his]
     ·rw [getD_set_ne false (fun e'=>e e'.symm),dC e,Bool.false_or]
    refine ih (L.setIfInBounds i true) a' w' ?_ (by simp [hs]) (fun j hj=> ?_) (fun j hj k hk'=> ?_) ?_
    ·have:=iy his hif hisk nA hiA;omega
    ·rw [hnew] at hj
     by_cases e:j=i
     ·rw [e];exact ⟨hiA,hisk⟩
     ·rw [dC e,Bool.false_or] at hj;exact hsub j hj
    ·rw [hnew] at hj ⊢
     by_cases e:j=i
     ·subst e;rw [hdep k hk'];simp
     ·rw [dC e,Bool.false_or] at hj;rw [hclosed j hj k hk'];simp
    ·have:(fun j=>(L.setIfInBounds i true).getD j false)=fun j=>(Nat.beq j i || L.getD j false):=funext hnew
     rw [this];exact hsat2
   have hy:∀ {j dd:Nat} {b:Bool},(l.toArray[j]?).bind (·.dst)=some dd→((S.clear ds nms).part (fun j=>L.getD j false) adds).sl dd=some (vv (.bool b))→yielded l.toArray a.tmps j=some b:=fun {j dd b} hj hb=>by
    obtain ⟨η,ω,hs⟩:=hsat
    obtain ⟨u,k1,k2⟩:=hs.slots dd _ hb
    have k2:u= .bool b:=k2
    subst k2
    unfold yielded
    cases hoj:l.toArray[j]? with
    | none=>rw [hoj] at hj;cases hj
    | some oj=>
     rw [hoj] at hj
     simp only [Option.bind_some] at hj
     simp [hj,k1]
   unfold wpOp
   simp only [ho]
   cases hstp _ hle with
   | run hg h=>
    rw [if_pos (by simp [Region.wanted,hg])]
    exact .inl (Oper.wp_mono (fun a' w' hsat'=>cont a' w' hsat') (h.go w0 ω0 a w Q hsat))
   | yes hg hj hb h=>
    rw [if_pos (by simp [Region.wanted,hg,hy hj hb])]
    exact .inl (Oper.wp_mono (fun a' w' hsat'=>cont a' w' hsat') (h.go w0 ω0 a w Q hsat))
   | @no j dd want hg hj hb ht hn ha hx=>
    rw [if_neg (by simp [Region.wanted,hg,hy hj hb])]
    refine cont _ _ ?_
    obtain ⟨η,ω,hs⟩:=hsat
    refine ⟨η,ω, ?_⟩
    have e:((S.clear ds nms).part (fun j=>L.getD j false) adds).add A=((S.clear ds nms).part (fun j=>L.getD j false) adds).put A.t (vv undef):=by unfold St.add;rw [hx,ha];rfl
    rw [e,ht]
    exact hs.iP (by simpa using hn) rfl
theorem gA {id:Nat} {l:List Oper} (nA:Nat) (sk:List Nat) (cls:List (List Nat)) (ds nms:List Nat) {done:List Add} (hm:P.follows .mixedOrders=true) (hcl:Ei l.toArray nA sk cls=true) (hdr:fR P nt l.toArray (S.clear ds nms) cls sk (l.take nA) [] done) (ok:uk done.reverse cls ds nms=true)
  (hk:Rest P w0 ω0 nt l.toArray Q (l.length - missing sk #[] nA) (eS nA sk l.length) ((S.clear ds nms).gD (fun j=> !bJ sk j) done)):fZ P w0 ω0 nt S (.region id l.toArray true) Q:=by
 have hc:=ud hcl
 have hsz:nA≤l.length:=by have:=hc.size;simpa using this
 have hk':Rest P w0 ω0 nt l.toArray Q (l.length - missing sk #[] nA) (eS nA sk l.length) ((S.clear ds nms).part (fun j=> !bJ sk j) done.reverse):=
  ⟨fun a w hs=>hk.go a w ((St.le.wk (gR (fc ok) (fun _ _ h=>h) fun _ _ _ h=>h) fun _ _ h=>h).go _ _ _ a w hs)⟩
 have hle:∀k,missing sk #[] k≤k:=fun k=>by
  induction k with
  | zero=>exact Nat.le_refl _
  | succ k ih=>simp only [missing];split<;>omega
 refine ⟨fun a w hs=>wp_region_any hm ?_⟩
 have hfin:=y7 hc hdr rfl (fc ok) hk' (missing sk #[] nA) (Array.replicate l.length false) a { w with drawn:=w.drawn + 1 } ?_ (by simp) (fun j hj=> ?_) (fun i hi=> ?_) ?_
 ·have:=hle nA
  rw [show l.length - missing sk #[] nA + missing sk #[] nA=l.length by omega] at hfin
  simpa using hfin
 ·have:∀k,k≤l.length→missing sk (Array.replicate l.length false) k=missing sk #[] k:=fun k=>by
   induction k with
   | zero=>intro _;rfl
   | succ k ih=>
    intro hk
    simp only [missing]
    rw [ih ab]
    have:(Array.replicate l.length false).getD k false=false:=by simp [show k < l.length by omega]
    rw [this];rfl
  exact this nA hsz
 ·exfalso
  by_cases h:j < l.length
  ·simp [h] at hj
  ·simp [h] at hj
 ·exfalso
  by_cases h:i < l.length
  ·simp [h] at hi
  ·simp [h] at hi
 ·have h1:=(oA S ds nms).go _ _ _ a _ (oB hs)
  have hf:∀j,(Array.replicate l.length false).getD j false=false:=fun j=>by
   by_cases h:j < l.length<;>simp [h]
  refine (Wk.less (S:=S.clear ds nms) (S':=(S.clear ds nms).part (fun j=>(Array.replicate l.length false).getD j false) done.reverse) (fun t av h=> ?_) (fun x c h=> ?_) fun _ _ h=>h).go _ _ _ a _ h1
  ·have h:(match vG (fun j=>(Array.replicate l.length false).getD j false) 0 done.reverse t with | some av=>some av | none=>(S.clear ds nms).sl t)=some av:=h
   split at h
   ·rename_i av' h2
    obtain ⟨j,A,_,h3,_⟩:=fV h2
    rw [hf] at h3;cases h3
   ·exact h
  ·have h:(match vH (fun j=>(Array.replicate l.length false).getD j false) 0 done.reverse x with | some c=>some c | none=>(S.clear ds nms).ch x)=some c:=h
   split at h
   ·rename_i av' h2
    obtain ⟨j,A,_,h3,_⟩:=fX h2
    rw [hf] at h3;cases h3
   ·exact h
end
section
variable {P:Program} {nt:Nat} {S:St} {cls:List (List Nat)} {sk:List Nat} {o:Oper} {rest:List Oper} {done all:List Add} {ops0:Array Oper} {t:Nat} {ty:TypeId} {ps:String} {af:Array Edge} {gd:Option (Nat×Bool)} {x y:Operand}
theorem aH {t:Nat} {av:AV} (hg:o.guard=none) (h:∀S1,(S.gD (bJ (cls.getD done.length [])) done).le S1→dx P nt o S1 (S1.put t av)) (k:fR P nt ops0 S cls sk rest (⟨t,av,none⟩ :: done) all):fR P nt ops0 S cls sk (o :: rest) done all:= .cons ⟨t,av,none⟩ (fun S1 hS=> .run hg (h S1 hS)) k
theorem bC {t j d:Nat} {want:Bool} {av:AV} (hg:o.guard=some (j,want)) (hj:(ops0[j]?).bind (·.dst)=some d) (hb:(S.gD (bJ (cls.getD done.length [])) done).sl d=some (vv (.bool want))) (h:∀S1,(S.gD (bJ (cls.getD done.length [])) done).le S1→dx P nt o S1 (S1.put t av)) (k:fR P nt ops0 S cls sk rest (⟨t,av,none⟩ :: done) all):fR P nt ops0 S cls sk (o :: rest) done all:= .cons ⟨t,av,none⟩ (fun S1 hS=> .yes hg hj (hS.sl _ _ hb) (h S1 hS)) k
theorem bK {t j d:Nat} {want:Bool} (hg:o.guard=some (j,want)) (hj:(ops0[j]?).bind (·.dst)=some d) (hb:(S.gD (bJ (cls.getD done.length [])) done).sl d=some (vv (.bool (!want)))) (ht:o.dst=some t) (hn:Nat.blt t nt=true) (k:fR P nt ops0 S cls sk rest (⟨t,vv undef,none⟩ :: done) all):fR P nt ops0 S cls sk (o :: rest) done all:= .cons ⟨t,vv undef,none⟩ (fun S1 hS=> .no hg hj (hS.sl _ _ hb) ht hn rfl rfl) k
end
end Go.Proofs.Ytfpcfckocmmcnaa
namespace Go.Proofs.Ytfpcfckocmmcnaa
open Go.RowKit
section
variable {η:Env} {ω:bW} {w:World} {ins:List (Nm×Ch)}
theorem Fh {x i:Nat} {own:Bool} {E F:Nat} {zss:List (List Int)} {v:Value} (hm:Mem η ω w (fun x=>lk x ins)) (hx:lk x ins=some ⟨own,E,1, .rows F (bU zss) []⟩) (hi:i < zss.length) (hv:dm η (.esl x i 0 (aT zss i).length) v) (hn:(aT zss i).length≤17592186044416):
  ∃ao c,v= .slice ao (aT zss i).length c∧cW w ao (aT zss i).length (aT zss i):=by
 obtain ⟨h,h1,h2,h3⟩:=hm.1 x _ hx
 obtain ⟨ao,rfl,h4,_⟩:=hv.2 h h1
 have h3:lQ own ω w (x,none) h E (bU zss).length (cR η ω w own x (.rows F (bU zss) [])):=h3
 obtain ⟨b',o',u',g1,g2,g3,g4⟩:=h3.get (j:=i) (by rw [cB];exact hi)
 obtain ⟨k1,k2,k3⟩:=g4 (by simp) (aV (aT zss i)) (bV hi)
 rw [h4 rfl]
 refine ⟨_,_,rfl,rfl,hn,fun h0=> ?_⟩
 obtain ⟨b2,o2,u2,m1,_,_⟩:=k3.get (j:=0) (by rw [bD];exact h0)
 refine ⟨b2,o2,m1,fun j hj=> ?_⟩
 obtain ⟨b3,o3,u3,n1,n2,n3⟩:=k3.get (j:=j) (by rw [bD];exact hj)
 rw [m1] at n1;injection n1 with n1;injection n1 with n1 n1';subst n1 n1'
 rw [ck hj] at n3
 rw [n2,←n3]
end
section
variable {P:Program} {nt:Nat} {S:St} {t:Nat} {ty:TypeId} {ps:String} {af:Array Edge} {gd:Option (Nat×Bool)} {x y:Operand}
theorem GZ {n:Nm} {E k m:Nat} {vs:List Value} (hc:S.ch n=some ⟨true,E,k, .cz vs⟩) (hm:m≤vs.length):Wk S (S.set n ⟨true,E,k, .cz (vs.take m)⟩):=by
 refine ⟨fun w0 ω0 nt a w ⟨η,ω,h⟩=> ?_⟩
 obtain ⟨hd,e1,e2,e3⟩:=h.chunk hc
 have e3:fj ω w (n,none) hd E vs.length (cR η ω w true n (.cz vs)):=e3
 refine ⟨η,ω,h.write e1 (Calm.refl _ _ _) ⟨e2, ?_⟩⟩
 show fj ω w (n,none) hd E (vs.take m).length _
 have hl:(vs.take m).length=m:=by rw [List.length_take];omega
 rw [hl]
 rcases e3 with ⟨h1,h2,h3⟩ | ⟨b,o,cs,h1,h2,h3,h4,h5,h6,h7⟩
 ·exact .inl ⟨h1,h2,ab⟩
 ·refine .inr ⟨b,o,cs,h1,h2,h3,h4,ab,h6,fun j hj=> ?_⟩
  obtain ⟨u,hu,hk⟩:=h7 j ab
  refine ⟨u,hu, ?_⟩
  have hk:vs[j]? =some u:=hk
  show (vs.take m)[j]? =some u
  rw [List.getElem?_take,if_pos hj];exact hk
theorem E5 {T:TypeId} {n:Nm} {off len j:Nat} {c:Ch} {ki:IntKind} {i:Int} (ht:Nat.blt t nt=true) (hx:S.op x=some (o1 (.sl n off len))) (hy:S.op y=some (vv (.int ki i))) (hc:S.ch n=some c) (hk:c.k=1) (hT:lR P T 1=true)
  (hi:i=(j:Int)) (hj:j < len) (hl:off + len≤c.d.len):dx P nt ⟨some t, .indexAddr T x y,ty,ps,af,gd⟩ S (S.put t (o1 (.ptr n (off + j)))):=by
 have:=eu (P:=P) (nt:=nt) (t:=t) (ty:=ty) (ps:=ps) (af:=af) (gd:=gd) (k:=1) ht hx hy hc hk hT hi hj (by rw [Nat.mul_one];exact hl) ab
 rwa [Nat.mul_one] at this
theorem vb {T:TypeId} {n:Nm} {off len j K:Nat} {c:Ch} {ki:IntKind} {i:Int} (ht:Nat.blt t nt=true) (hx:S.op x=some (o1 (.sl n off len))) (hy:S.op y=some (vv (.int ki i))) (hc:S.ch n=some c) (hk:c.k=1) (hT:lR P T 1=true)
  (hi:i=(j:Int)) (hj:j < len) (hl:off + len≤c.d.len) (hK:off + j=K):dx P nt ⟨some t, .indexAddr T x y,ty,ps,af,gd⟩ S (S.put t (o1 (.ptr n K))):=by
 subst hK;exact E5 ht hx hy hc hk hT hi hj hl
theorem jr {ts:Array TypeId} {m n:Nat} (ht:Nat.blt t nt=true) (hx:S.op x=some (vv (I6 (m:Int)))) (hy:S.op y=some (vv (I6 (n:Int)))):
  dx P nt ⟨some t, .call { callee:= .builtin .min,args:= #[x,y],argTypes:=ts },ty,ps,af,gd⟩ S (S.put t (vv (I6 ((min m n:Nat):Int)))):=by
 have:=E4 (P:=P) (nt:=nt) (ty:=ty) (ps:=ps) (af:=af) (gd:=gd) (ts:=ts) ht hx hy
 rwa [show (if (n:Int) < m then (n:Int) else m)=((min m n:Nat):Int) by split<;>omega] at this
theorem wz {ts:Array TypeId} {m n:Nat} (ht:Nat.blt t nt=true) (hx:S.op x=some (vv (I6 (m:Int)))) (hy:S.op y=some (vv (I6 (n:Int)))):
  dx P nt ⟨some t, .call { callee:= .builtin .max,args:= #[x,y],argTypes:=ts },ty,ps,af,gd⟩ S (S.put t (vv (I6 ((max m n:Nat):Int)))):=by
 have:=Ec (P:=P) (nt:=nt) (ty:=ty) (ps:=ps) (af:=af) (gd:=gd) (ts:=ts) ht hx hy
 rwa [show (if (n:Int) > m then (n:Int) else m)=((max m n:Nat):Int) by split<;>omega] at this
end
end Go.Proofs.Ytfpcfckocmmcnaa
namespace Go.Proofs.Ytfpcfckocmmcnaa
open Go.RowKit
theorem tG (ao:Option Addr) (n c:Nat) (zs:List Int) (w:World) (h:cW w ao n zs) (hn:n≤1048576):
  Calls Try.prog 45 #[.slice ao n c] w fun e w'=>∃ao' c',e= .returned (.slice ao' n c')∧Own w' w.heap.size 2 ao' n c' (zs.map (Value.int .i64))∧Below w.heap.size w w':=by
 have he:=fun (w:World)=>Lib.run_eql_slice_nil (P:=Try.prog) w 24 2 ao n c 0 0 Try.underlying24
 cases ao with
 | none=>
  obtain ⟨rfl,rfl⟩:=h.EU
  go_enter Try.func45,Try.ntmps45
  go_wp2
  go_ret
  exact ⟨_,_,rfl,Own.iX _ _ _,Below.refl _ _⟩
 | some ad=>
  have h2:cW (w.alloc (.cells #[] 2)) (some ad) n zs:=h.below ((Below.refl _ _).alloc (Nat.le_refl _) _)
  have H2:=Lib.hid h2
  clear h2
  go_enter Try.func45,Try.ntmps45
  go_wp2_with (at_builtin;refine kL yi _ rfl _ _ rfl w.heap.size _ 0 0 [] rfl (Own.dD w _ (Nat.le_refl _)) (some ad) n c zs rfl H2.out ab (by simp) ?_;intro ao2 c2 w2 ho2 hg2 hblk)
  go_ret
  refine ⟨_,_,rfl,by simpa using ho2,((Below.refl _ _).alloc (Nat.le_refl _) _).grown hg2 (by simp) (fun g hg=> ?_)⟩
  simp [bk] at hg;omega
end Go.Proofs.Ytfpcfckocmmcnaa
namespace Go.Proofs.Ytfpcfckocmmcnaa
open Go.RowKit
def lG (zs:List Int):List Int:=zs.reverse
end Go.Proofs.Ytfpcfckocmmcnaa
namespace Go.Proofs.Ytfpcfckocmmcnaa
open Go.RowKit
theorem xM {w:World} {base E:Nat} {g n c:Nat} {zs:List Int} (h:Own w base E (some ⟨g,0,none⟩) n c (zs.map (Value.int .i64))) {k:Nat} (hk:k < n):w.cell? ⟨g,k,none⟩=some (.int .i64 (aD zs k)):=by
 obtain ⟨g',hg,_,_,_,hc,_⟩:=h.form ab
 obtain rfl:g=g':=by injection hg with hg;injection hg
 have hl:zs.length=n:=by have:=h.len;simpa using this
 rw [hc k hk,List.getElem?_map,List.getElem?_eq_getElem ab,cA ab];rfl
theorem pK {zs:List Int} {k:Nat} (h:k < zs.length) (x:Int):aD (zs.set k x) k=x:=by rw [cA (by simpa using h)];simp
theorem pD {zs:List Int} {k j:Nat} (h:k≠j) (x:Int):aD (zs.set k x) j=aD zs j:=by simp [aD,h]
theorem wc (ao:Option Addr) (n c:Nat) (zs:List Int) (w:World) (base:Nat) (h:Own w base 2 ao n c (zs.map (Value.int .i64))):
  Calls Try.prog 46 #[.slice ao n c] w fun e w'=>e= .returned (.tuple #[])∧Own w' base 2 ao n c ((lG zs).map (Value.int .i64))∧w.grownBy w' (bk ao):=by
 have hn:=h.2
 have hl:zs.length=n:=by have:=h.len;simpa using this
 have HL:=Lib.hid hl
 clear hl
 go_enter Try.func46,Try.ntmps46
 go_wp2
 go_loopw [2,3] (fun i j wr=>∃(k:Nat) (cur:List Int),k≤n∧i= .int .i64 k∧j= .int .i64 ((n:Int) - 1 - k)∧cur.length=n∧(∀x,x < n→aD cur x=if x < k∨n < x + 1 + k then aD zs (n - 1 - x) else aD zs x)∧Own wr base 2 ao n c (cur.map (Value.int .i64))∧w.grownBy wr (bk ao)) (fun i _ _=>n - (intOf i).toNat)
 case atStart=>exact ⟨0,zs,ab,rfl,by simp,HL.out,fun x hx=>by rw [if_neg ab],h,World.grownBy.refl _ _⟩
 case round=>
  obtain ⟨k,cur,hk,rfl,rfl,hcl,hcur,ho,hg⟩:=hrel
  have HC:=Lib.hid hcl
  have HU:=Lib.hid hcur
  clear hcl hcur
  by_cases hlt:k + k + 1 < n
  ·obtain ⟨j,hj⟩:∃j:Nat,j + k + 1=n:=⟨n - 1 - k,ab⟩
   have HJ:=Lib.hid hj
   have ej:(n:Int) - 1 - k=j:=by omega
   have hjn:j < n:=by omega
   have hkn:k < n:=by omega
   have hkj:k < j:=by omega
   rw [ej]
   clear hj ej
   obtain ⟨g,rfl, -,hgl, -, -, -⟩:=ho.form ab
   have hc1:=xM ho hjn
   have hc2:=xM ho hkn
   have hf1:=ho.1.frozenAt j
   have hf2:=ho.1.frozenAt k
   have ho1:Own wr.drew base 2 (some ⟨g,0,none⟩) n c (cur.map (Value.int .i64)):=ho
   obtain ⟨s1,t1⟩:=ho1.stored k (.int .i64 (aD cur j))
   obtain ⟨s2,t2⟩:=s1.stored j (.int .i64 (aD cur k))
   have S2:=Lib.hid s2
   have T1:=Lib.hid t1
   have T2:=Lib.hid t2
   clear s1 t1 s2 t2 ho1 ho
   go_wp2
   go_region
   go_wp2
   go_roundw
   case rel=>
    refine ⟨k + 1,(cur.set k (aD cur j)).set j (aD cur k),ab,by go_num, ?_,by simp [HC.out], ?_,by rw [List.map_set,List.map_set];exact S2.out,jg hg (jg (⟨rfl,rfl,rfl,Nat.le_refl _,fun _ _ _=>rfl⟩:wr.grownBy wr.drew _) (jg T1.out T2.out))⟩
    ·congr 1;have:=HJ.out;omega
    ·intro x hx
     have hcl:=HC.out
     have hjn':=HJ.out
     by_cases h1:x=j
     ·subst h1
      rw [pK (by simp;omega),if_pos ab,HU.out k ab,if_neg ab]
      congr 1;omega
     ·rw [pD (fun e=>h1 e.symm)]
      by_cases h2:x=k
      ·subst h2
       rw [pK ab,if_pos ab,HU.out j ab,if_neg ab]
       congr 1;omega
      ·rw [pD (fun e=>h2 e.symm),HU.out x hx]
       by_cases h3:x < k∨n < x + 1 + k
       ·rw [if_pos h3,if_pos ab]
       ·rw [if_neg h3,if_neg ab]
   case measure=>simp [intOf];omega
  ·have hle:(n:Int) - 1 - k≤k:=by omega
   go_wp2
   go_end0
   refine ⟨rfl, ?_,hg⟩
   have hcl:=HC.out
   have hzl:=HL.out
   have e:cur=lG zs:=by
    apply j7 (by unfold lG;simp;omega)
    intro x hx
    have hr:aD (lG zs) x=aD zs (n - 1 - x):=by
     rw [cA (by unfold lG;simp;omega),cA ab]
     unfold lG
     rw [List.getElem_reverse]
     congr 1;omega
    rw [hr,HU.out x ab]
    by_cases h3:x < k∨n < x + 1 + k
    ·rw [if_pos h3]
    ·rw [if_neg h3];congr 1;omega
   rw [←e];exact ho
end Go.Proofs.Ytfpcfckocmmcnaa
namespace Go.Proofs.Ytfpcfckocmmcnaa
open Go.RowKit
end Go.Proofs.Ytfpcfckocmmcnaa
namespace Go.Proofs.Ytfpcfckocmmcnaa
open Go.RowKit
def Iy (k:Nat) (gV:List Int):Nat:=if (IZ gV).length=0 then (if IP gV=true∧k≠2 then 1 else 2) else k
def Hk (ps:xX) (j:Nat):Nat:=(ps.take j).foldl (fun k p=>Iy k p.2) 0
def BA (zs:List Int):Nat:=2 ^ (zs.length + 1) - 1
end Go.Proofs.Ytfpcfckocmmcnaa
namespace Go.Proofs.Ytfpcfckocmmcnaa
open Go.RowKit
section
variable {P:Program} {ops:Array Oper} {C:World→Prop} {o:Oper} {a:Act} {K:Act→Prop}
end
end Go.Proofs.Ytfpcfckocmmcnaa
